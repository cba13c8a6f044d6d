/- Steps to the theorem. -/
import Derived.Deep.RegionHeld3
import Derived.Lib.Hide
import Derived.WalkLawsBesides
import Derived.WalkSpells
import Derived.Deep.DeepCutAuto
import Derived.BigQuiet
import Derived.Test.YtahhllcdbjbpbaaGreatDoorProg
import Derived.Shelf.Abstract
import Derived.Lib.Overlaps
import Derived.Deep.RegionLaw
import Derived.Lib.AppendZerosOnto
set_option linter.all false
set_option maxRecDepth 100000
set_option maxHeartbeats 2000000
namespace Go.Proofs.YtahhllcdbjbpbaaGreatDoor
abbrev AA:=ByteArray
abbrev AB:=World
abbrev AC:=Ending
def Yd(p:Prop):Prop:=p
def Yd.o{p:Prop}(h:Yd p):p:=h
def Yd.out{p:Prop}(h:Yd p):p:=h
def hY{p:Prop}(h:p):Yd p:=h
def Yb{p q:Prop}(a:p)(b:q):Yd p/\Yd q:=⟨a,b⟩
def Yc{p q r:Prop}(a:p)(b:q)(c:r):Yd p/\Yd q/\Yd r:=⟨a,b,c⟩
def Ye{p q r s:Prop}(a:p)(b:q)(c:r)(d:s):Yd p/\Yd q/\Yd r/\Yd s:=⟨a,b,c,d⟩
def Yf{p q r s t:Prop}(a:p)(b:q)(c:r)(d:s)(e:t):Yd p/\Yd q/\Yd r/\Yd s/\Yd t:=⟨a,b,c,d,e⟩
def Yg{p q r s t u:Prop}(a:p)(b:q)(c:r)(d:s)(e:t)(f:u):Yd p/\Yd q/\Yd r/\Yd s/\Yd t/\Yd u:=⟨a,b,c,d,e,f⟩
def Yh{p q r s t u v:Prop}(a:p)(b:q)(c:r)(d:s)(e:t)(f:u)(g:v):Yd p/\Yd q/\Yd r/\Yd s/\Yd t/\Yd u/\Yd v:=⟨a,b,c,d,e,f,g⟩
def oM{p:Prop}(h:p:=by omega):p:=h
def oN{p:Prop}(h:p:=by decide):p:=h
def kM{p:Prop}(h:p:=by kernel_rfl):p:=h
def oO{p:Prop}(h:p:=by simp):p:=h
def zL{α:Type}:(∀l:List α,l.toArray.size=l.length)/\(∀(a:α)l,(a::l).length=l.length+1)/\([]:List α).length=0/\(∀n (a:α),Array.replicate (n+1) a=(Array.replicate n a).push a)/\(∀a:α,Array.replicate 0 a=#[])/\(∀l (a:α),l.toArray.push a=(l++[a]).toArray)/\(∀l k:List α,l.toArray++k.toArray=(l++k).toArray)/\(∀l:List α,[]++l=l)/\∀(a:α)l k,a::l++k=a::(l++k):=by simp[Array.replicate_succ]
instance zA:Coe Nat Addr:=⟨λb=>⟨b,0,none⟩⟩
instance zN:Coe Nat Value:=⟨λn=>.int .i64 n⟩
instance zI:Coe Int Value:=⟨.int .i64⟩
instance zB:Coe Bool Value:=⟨.bool⟩
instance yB:Coe AA Value:=⟨.string⟩
instance zW:Coe AB Nat:=⟨λw=>w.heap.size⟩
open Go.Proofs.Tryz
open Go.RowKit
abbrev eN:=@if_pos
abbrev ab:=@Nat.lt_of_lt_of_le
abbrev ac:=@List.getElem?_eq_getElem
abbrev ae:=@List.setIfInBounds_toArray
abbrev ai:=@List.getElem?_eq_some_iff
abbrev aj:=@List.length_append
abbrev ak:=@List.set_cons_zero
abbrev am:=@List.set_cons_succ
abbrev an:=@Nat.le_trans
abbrev ao:=@Nat.le_refl
abbrev ap:=@List.mem_of_getElem?
abbrev aq:=@List.length_map
abbrev ar:=@List.getElem?_map
abbrev au:=@List.length_take
abbrev av:=@List.eq_nil_of_length_eq_zero
abbrev aw:=@Nat.zero_le
abbrev az:=@List.length_drop
abbrev aA:=@Array.getElem?_eq_some_iff
abbrev aB:=@List.map_append
abbrev aC:=@List.length_cons
abbrev aD:=@List.mem_cons_self
abbrev aE:=@List.drop_eq_getElem_cons
abbrev aF:=@Nat.zero_add
abbrev aG:=@List.nil_append
abbrev aH:=@List.mem_cons
abbrev aI:=@List.mem_cons_of_mem
abbrev aJ:=@List.cons_append
abbrev aK:=@List.take_add_one
abbrev aL:=@List.mem_append
abbrev aM:=@List.take_of_length_le
abbrev aN:=@List.getElem?_eq_none
abbrev aO:=@List.getElem?_append_right
abbrev aP:=@ByteArray.size_append
abbrev aQ:=@Array.length_toList
abbrev aR:=@List.take_length
abbrev aS:=@List.mem_of_mem_drop
abbrev aT:=@List.flatMap_append
abbrev aU:=@List.append_assoc
abbrev aV:=@List.mem_singleton
abbrev aW:=@List.map_cons
abbrev aX:=@List.take_append_drop
abbrev aY:=@List.append_nil
abbrev aZ:=@List.pairwise_cons
abbrev ba:=@List.length_nil
abbrev bc:=@List.flatMap_cons
abbrev be:=@Bool.eq_false_or_eq_true
abbrev bg:=@List.length_singleton
abbrev bj:=@List.mem_of_mem_take
abbrev bm:=@List.getElem?_drop
abbrev bn:=@List.take_append_of_le_length
abbrev bp:=@List.size_toArray
abbrev bq:=@List.take_succ_cons
abbrev br:=@Bool.and_eq_true
abbrev bu:=@List.getElem?_append_left
abbrev bv:=@List.getElem?_take
abbrev bz:=@Nat.le_of_lt_succ
abbrev bA:=@List.getElem?_of_mem
abbrev bB:=@List.map_nil
abbrev bC:=@List.filter_cons
abbrev bD:=@List.length_range
abbrev bE:=@List.length_filter_le
abbrev bF:=@Array.replicate_succ
abbrev bG:=@Array.replicate_zero
abbrev bH:=@Nat.add_assoc
abbrev bI:=@List.append_toArray
abbrev bJ:=@List.ext_getElem?
abbrev bK:=@List.mem_filter
abbrev bL:=@Nat.min_eq_left
abbrev bM:=@Option.map_some
abbrev bN:=@List.not_mem_nil
abbrev bO:=@List.pairwise_map
abbrev bP:=@List.push_toArray
abbrev bQ:=@List.drop_eq_nil_iff
abbrev bR:=@List.mem_of_getLast?
abbrev bS:=@List.drop_eq_nil_of_le
abbrev bT:=@List.filter_append
abbrev bU:=@List.getElem?_take_of_lt
abbrev bV:=@List.filterMap_cons
abbrev bW:=@Array.getElem?_toList
abbrev bX:=@List.mem_map
abbrev bY:=@Nat.le_of_lt
abbrev bZ:=@Bool.false_eq_true
abbrev cd:=@ByteArray.size_extract
abbrev ce:=@List.toList_toArray
abbrev cf:=@List.length_set
abbrev cg:=@List.length_eq_zero_iff
abbrev ci:=@Nat.mul_le_mul_right
abbrev cp:=@List.set_eq_take_append_cons_drop
abbrev cq:=@Bool.not_eq_true'
abbrev ct:=@List.map_map
abbrev cu:=@List.tail_cons
abbrev cz:=@List.take_zero
abbrev cA:=@Nat.add_zero
abbrev cE:=@Nat.sub_self
abbrev cF:=@Array.getElem?_eq_getElem
abbrev cG:=@List.mem_or_eq_of_mem_set
abbrev cH:=@Nat.zero_mul
abbrev cJ:=@List.pairwise_append
abbrev cN:=@Nat.le_succ
abbrev cO:=@List.prefix_iff_eq_take
abbrev cQ:=@List.filter_sublist
abbrev cR:=@List.map_drop
abbrev cT:=@List.drop_length
abbrev cU:=@List.mem_flatMap
abbrev cV:=@List.isPrefixOf_iff_prefix
abbrev cW:=@List.take_take
abbrev cY:=@Bool.and_eq_false_iff
abbrev cZ:=@List.getLast?_eq_none_iff
abbrev da:=@Nat.not_succ_le_self
abbrev db:=@List.map_take
abbrev dd:=@Nat.lt_irrefl
abbrev de:=@Option.isSome_iff_exists
abbrev df:=@List.map_eq_nil_iff
abbrev dg:=@List.mem_map_of_mem
abbrev dh:=@List.getElem?_set_self
abbrev di:=@List.headD_cons
abbrev dj:=@Array.getElem?_modify
abbrev dm:=@List.Pairwise.sublist
abbrev dn:=@List.drop_length_add_append
abbrev dq:=@List.dropLast_subset
abbrev dt:=@List.drop_zero
abbrev du:=@List.getD_eq_getElem?_getD
abbrev dv:=@List.getElem?_mapIdx
abbrev dw:=@List.getElem?_set_ne
abbrev dx:=@Nat.sub_mul
abbrev dy:=@List.all_eq_true
abbrev dz:=@List.map_toArray
abbrev dA:=@Nat.le_add_right
abbrev dB:=@Nat.lt_succ_self
abbrev dC:=@Option.getD_some
abbrev dD:=@List.takeWhile_cons
abbrev dE:=@Option.any_some
abbrev dG:=@List.getElem?_cons_zero
abbrev dH:=@Nat.mul_one
abbrev dI:=@Option.bind_eq_some_iff
abbrev dJ:=@Array.size_append
abbrev dK:=@List.map_set
abbrev dL:=@List.take_left
abbrev dM:=@Nat.le_succ_of_le
abbrev dN:=@Option.map_eq_some_iff
abbrev dO:=@List.cons_lt_cons_iff
abbrev dP:=@List.filterMap_append
abbrev dQ:=@List.set_append_right
abbrev dR:=@List.singleton_append
abbrev dS:=@List.sizeOf_lt_of_mem
abbrev dU:=@Array.toList_inj
abbrev dV:=@List.prefix_refl
abbrev dW:=@Option.bind_some
abbrev dX:=@Bool.or_eq_false_iff
abbrev dY:=@Nat.min_def
abbrev dZ:=@List.foldl_cons
abbrev ec:=@List.sum_append
abbrev ed:=@Array.toList_append
abbrev ee:=@List.drop_succ_cons
abbrev ef:=@List.replicate_succ
abbrev eh:=@Nat.lt_or_ge
abbrev ej:=@Option.isSome_some
abbrev em:=@Option.toList_some
abbrev eu:=@List.drop_sublist
abbrev ew:=@List.foldl_append
abbrev ey:=@List.sum_cons
abbrev ez:=@Nat.succ_le_succ
abbrev eA:=@Nat.mul_comm
abbrev eB:=@Bool.or_eq_true
abbrev eC:=@List.all_append
abbrev eD:=@Nat.not_lt_zero
abbrev eE:=@Option.any_none
abbrev eG:=@Bool.not_false
abbrev eH:=@List.drop_drop
abbrev eI:=@Nat.add_mul
abbrev eJ:=@Prod.ext
abbrev eK:=@Bool.false_or
section
variable{P : Program}{ops : Array Oper}{Q : Exit -> Act -> AB -> Prop}{md : Region.Mode}{S : AB -> Prop}
def Mk{i:Nat}{Z:Oper}{d:Option Tmp}{v:Value}{N:Nat}{I:Array Bool}{a:Act}{w:AB}(hi:ops[i]? = some Z)(hd:Z.dst=d)
  (hs:Region.noSelect ops=true) (hf:Region.free md ops I i=true) (hr:(Region.ready md ops I).contains i=true)
  (hQ:∀c a w,Q (.panic c) (a.put d v) w->Q (.panic c) a w) (hw:Region.wanted Z (yielded ops a.tmps)=true) (hS:S w) (hy:∀w,S w->(execOp a.eval Z).run P w=.ok (.value v) w)
  (h:wpAnyH P md ops Q S N (I.setIfInBounds i true) (a.put d v) w):wpAnyH P md ops Q S (N+1) I a w:=by
 subst hd;exact wpAnyH_take hi hs hf hr hQ (.inl ⟨hw,hy⟩) hS h
def lE{i:Nat}{Z:Oper}{d:Option Tmp}{N:Nat}{I:Array Bool}{a:Act}{w:AB}(hi:ops[i]? = some Z)(hd:Z.dst=d)
  (hs:Region.noSelect ops=true) (hf:Region.free md ops I i=true) (hr:(Region.ready md ops I).contains i=true)
  (hQ:∀c a w,Q (.panic c) (a.put d undef) w->Q (.panic c) a w) (hw:Region.wanted Z (yielded ops a.tmps)=false) (hS:S w)
  (h:wpAnyH P md ops Q S N (I.setIfInBounds i true) (a.put d undef) w):wpAnyH P md ops Q S (N+1) I a w:=by
 subst hd;exact wpAnyH_take hi hs hf hr hQ (.inr ⟨hw,rfl⟩) hS h
def Af{i:Nat}{oi:Oper}{N:Nat}{I:Array Bool}{a:Act}{w:AB}(hr:Region.ready md ops I=[i])(hi:ops[i]? = some oi)(hw:Region.wanted oi (yielded ops a.tmps)=true)
  (h:∀Z:Act->AB->Prop,Shut (∀a w,S w->(S w->wpAnyH P md ops Q S N (I.setIfInBounds i true) a w)->Z a w)->Oper.wp P oi a w Z Q):wpAnyH P md ops Q S (N+1) I a w:=
 wpAnyH_ready hr oO (AllReadyH.cons hi (λZ hK=>by rw[eN hw];exact h Z hK) AllReadyH.nil)
end
section
variable{P : Program}{ops : Array Oper}{Q : Exit -> Act -> AB -> Prop}{md : Region.Mode}{S C : AB -> Prop}
def EM(i:Nat)(d:Option Tmp){Z:Oper}{N:Nat}{I l':Array Bool}{a a':Act}{w:AB}(hS:S w)(h:wpAnyH P md ops Q S N l' a' w)
  (hi:ops[i]? = some Z:=by rfl) (hd:Z.dst=d:=by rfl) (hs:Region.noSelect ops=true:=by kernel_rfl) (hf:Region.free md ops I i=true:=by kernel_rfl) (hr:(Region.ready md ops I).contains i=true:=by kernel_rfl)
  (hQ:∀c a w,Q (.panic c) (a.put d undef) w->Q (.panic c) a w:=by exactλ_ _ _ h=>h) (hw:Region.wanted Z (yielded ops a.tmps)=false:=by rfl)
  (hl:I.setIfInBounds i true=l':=by first |(simp only[List.setIfInBounds_toArray,List.set_cons_zero,List.set_cons_succ];rfl)|rfl)
  (hp:a.put d undef=a':=by first |(go_frame;rfl)|rfl):wpAnyH P md ops Q S (N+1) I a w:=by
 subst hl hp;exact lE hi hd hs hf hr hQ hw hS h
def AF(i:Nat)(d:Option Tmp){v:Value}{Z:Oper}{N:Nat}{I l':Array Bool}{a a':Act}{w:AB}(hC:Yd (∀W,S W->C W))(hS:S w)(h:wpAnyH P md ops Q S N l' a' w)
  (hi:ops[i]? = some Z:=by rfl) (hd:Z.dst=d:=by rfl) (hs:Region.noSelect ops=true:=by kernel_rfl) (hf:Region.free md ops I i=true:=by kernel_rfl) (hr:(Region.ready md ops I).contains i=true:=by kernel_rfl)
  (hy:∀w,C w->(execOp a.eval Z).run P w=.ok (.value v) w:=by(intro w a0;go_simp;first|done|with_reducible rfl))
  (hQ:∀c a w,Q (.panic c) (a.put d v) w->Q (.panic c) a w:=by exactλ_ _ _ h=>h) (hw:Region.wanted Z (yielded ops a.tmps)=true:=by rfl)
  (hl:I.setIfInBounds i true=l':=by first |(simp only[List.setIfInBounds_toArray,List.set_cons_zero,List.set_cons_succ];rfl)|rfl)
  (hp:a.put d v=a':=by first |(go_frame;rfl)|rfl):wpAnyH P md ops Q S (N+1) I a w:=by
 subst hl hp;exact Mk hi hd hs hf hr hQ hw hS (λw hw=>hy w (hC.out w hw)) h
def Au(i:Nat)(d:Option Tmp){v:Value}{Z:Oper}{N:Nat}{I l':Array Bool}{a a':Act}{w:AB}(hS:S w)(h:wpAnyH P md ops Q S N l' a' w)
  (hi:ops[i]? = some Z:=by rfl) (hd:Z.dst=d:=by rfl) (hs:Region.noSelect ops=true:=by kernel_rfl) (hf:Region.free md ops I i=true:=by kernel_rfl) (hr:(Region.ready md ops I).contains i=true:=by kernel_rfl)
  (hy:∀w,S w->(execOp a.eval Z).run P w=.ok (.value v) w:=by(intro w a0;(try dsimp only at a0);go_simp;first|done|with_reducible rfl))
  (hQ:∀c a w,Q (.panic c) (a.put d v) w->Q (.panic c) a w:=by exactλ_ _ _ h=>h) (hw:Region.wanted Z (yielded ops a.tmps)=true:=by rfl)
  (hl:I.setIfInBounds i true=l':=by first |(simp only[List.setIfInBounds_toArray,List.set_cons_zero,List.set_cons_succ];rfl)|rfl)
  (hp:a.put d v=a':=by first |(go_frame;rfl)|rfl):wpAnyH P md ops Q S (N+1) I a w:=by
 subst hl hp;exact Mk hi hd hs hf hr hQ hw hS hy h
end
section
variable{P : Program}{ops : Array Oper}{Q : Exit -> Act -> AB -> Prop}{md : Region.Mode}{S : AB -> Prop}
def JY{i j:Nat}{oi oj:Oper}{N:Nat}{I:Array Bool}{a:Act}{w:AB}(hr:Region.ready md ops I=[i,j])(hi:ops[i]? = some oi)(hj:ops[j]? = some oj)(hw:Region.wanted oi (yielded ops a.tmps)=true)(hv:Region.wanted oj (yielded ops a.tmps)=true)
  (h:∀Z:Act->AB->Prop,Shut (∀a w,S w->(S w->wpAnyH P md ops Q S N (I.setIfInBounds i true) a w)->Z a w)->Oper.wp P oi a w Z Q)
  (h':∀Z:Act->AB->Prop,Shut (∀a w,S w->(S w->wpAnyH P md ops Q S N (I.setIfInBounds j true) a w)->Z a w)->Oper.wp P oj a w Z Q):wpAnyH P md ops Q S (N+1) I a w:=
 wpAnyH_ready hr oO (AllReadyH.cons hi (λZ hK=>by rw[eN hw];exact h Z hK) (AllReadyH.cons hj (λZ hK=>by rw[eN hv];exact h' Z hK) AllReadyH.nil))
end
section
variable{P : Program}{ops : Array Oper}{Q : Exit -> Act -> AB -> Prop}{md : Region.Mode}{S : AB -> Prop}
inductive Tag:Nat->Prop
 |mk (n:Nat):Tag n
def Dk(i:Nat){Z:Oper}{N:Nat}{I:Array Bool}{a:Act}{w:AB}
  (h:∀K':Act->AB->Prop,Tag i->Shut (∀a w,S w->(S w->wpAnyH P md ops Q S N (I.setIfInBounds i true) a w)->K' a w)->Oper.wp P Z a w K' Q)
  (hr:Region.ready md ops I=[i]:=by kernel_rfl) (hi:ops[i]? = some Z:=by rfl) (hw:Region.wanted Z (yielded ops a.tmps)=true:=by rfl):wpAnyH P md ops Q S (N+1) I a w:=
 Af hr hi hw λK hK=>h K (.mk i) hK
def GQ(i j:Nat){oi oj:Oper}{N:Nat}{I:Array Bool}{a:Act}{w:AB}
  (h:∀Z:Act->AB->Prop,Tag i->Shut (∀a w,S w->(S w->wpAnyH P md ops Q S N (I.setIfInBounds i true) a w)->Z a w)->Oper.wp P oi a w Z Q)
  (h':∀Z:Act->AB->Prop,Tag j->Shut (∀a w,S w->(S w->wpAnyH P md ops Q S N (I.setIfInBounds j true) a w)->Z a w)->Oper.wp P oj a w Z Q)
  (hr:Region.ready md ops I=[i,j]:=by kernel_rfl) (hi:ops[i]? = some oi:=by rfl) (hj:ops[j]? = some oj:=by rfl) (hw:Region.wanted oi (yielded ops a.tmps)=true:=by rfl) (hv:Region.wanted oj (yielded ops a.tmps)=true:=by rfl):wpAnyH P md ops Q S (N+1) I a w:=
 JY hr hi hj hw hv (λK hK=>h K (.mk i) hK) λK hK=>h' K (.mk j) hK
end
abbrev eL:=@if_neg
abbrev eQ:=@World.size_alloc
abbrev fe:=@Below.heap_alloc
abbrev fi:=@World.cell?_of_block
abbrev fm:=@World.cell?_setCell_same
abbrev ft:=@Below.heap_setCell
abbrev fH:=@cell_of_row
abbrev fP:=@heap_alloc_new
abbrev fU:=@lt_of_block
structure Ext(w w':AB):Prop where
 below:Below w.heap.size w w'
 free:∀b o,w.heap.size<=b->w'.frozen? ⟨b,o,none⟩=false
variable{w:AB}
def frozen_none{b o:Nat}(h:w<=b):w.frozen? ⟨b,o,none⟩=false:=by
 have:w.heap[b]? = none:=by simp;omega
 simp[World.frozen?,this]
def Ext.refl(w:AB):Ext w w:=⟨Below.refl _ _,λ_ _ h=>frozen_none h⟩
variable{w':AB}
def Ext.size(h:Ext w w'):w.heap.size<=w'.heap.size:=h.below.size
def Ext.trans{a b c:AB}(h:Ext a b)(k:Ext b c):Ext a c:=by
 refine⟨h.below.trans (k.below.mono h.size),λi o hi=>?_⟩;rcases eh i b.heap.size with I|I
 .rw [k.below.frozen (p:=⟨i,o,none⟩) I];exact h.free i o hi
 exact k.free i o I
def Ext.drew{a w:AB}(h:Ext a w):Ext a w.drew:=⟨h.below.drew,λb o I=>h.free b o I⟩
def Ext.drewN{a w:AB}(h:Ext a w)(n:Nat):Ext a (w.drewN n):=⟨below_drewN h.below n,λb o I=>h.free b o I⟩
def Ext.alloc{a w:AB}(h:Ext a w)(c:Array Value)(t:TypeId):Ext a (w.alloc (.cells c t)):=by
 refine h.trans ⟨(Below.refl _ _).alloc (ao _) _,λb o N=>?_⟩;by_cases I:b=w.heap.size
 .subst I;simp
 exact frozen_none (by simp;omega)
def Ext.setCell{a w:AB}(h:Ext a w){p:Addr}(N:a.heap.size<=p.block)(u:Value):Ext a (w.setCell p u):=
 ⟨h.below.setCell N u,λb o I=>by rw[World.frozen?_setCell];exact h.free b o I⟩
def Ext.cell(h:Ext w w'){b o:Nat}(I:b<w):w'.cell? ⟨b,o,none⟩=w.cell? ⟨b,o,none⟩:=h.below.cell (p:=⟨b,o,none⟩) I
def Ext.frozen(h:Ext w w'){b o:Nat}(I:b<w):w'.frozen? ⟨b,o,none⟩=w.frozen? ⟨b,o,none⟩:=h.below.frozen (p:=⟨b,o,none⟩) I
def Ext.heap(h:Ext w w'){b:Nat}(I:b<w):w'.heap[b]? = w.heap[b]?:=h.below.block b I
def Ext.olds(h:Ext w w'):(∀b o,b<w.heap.size->w'.cell? ⟨b,o,none⟩=w.cell? ⟨b,o,none⟩)/\(∀b o,b<w.heap.size->w'.frozen? ⟨b,o,none⟩=w.frozen? ⟨b,o,none⟩):=
 ⟨λ_ _ I=>h.cell I,λ_ _ I=>h.frozen I⟩
def Agree(F:Nat->Prop)(w w':AB):Prop:=∀b,F b->w'.heap[b]? = w.heap[b]?
variable{F:Nat->Prop}
def Agree.cell(h:Agree F w w'){b o:Nat}(I:F b):w'.cell? ⟨b,o,none⟩=w.cell? ⟨b,o,none⟩:=fi (w:=w) (a:=⟨b,o,none⟩) (h b I)
variable{B:Nat}
def Agree.of_below(h:Below B w w')(hF:∀b,F b->b<B):Agree F w w':=λb I=>h.block b (hF b I)
def Ext.agree(h:Ext w w')(hF:∀b,F b->b<w.heap.size):Agree F w w':=Agree.of_below h.below hF
def Agree.setCell{F:Nat->Prop}(w:AB)(p:Addr)(u:Value)(N:¬F p.block):Agree F w (w.setCell p u):=λb I=>ft w p u b (λe=>N (e▸I))
def Agree.alloc(w:AB)(o:Obj)(hF:∀b,F b->b<w.heap.size):Agree F w (w.alloc o):=λb I=>fe w o b (hF b I)
def Agree.drewN(w:AB)(n:Nat):Agree F w (w.drewN n):=λ_ _=>rfl
def Agree.trans{a b c:AB}(h:Agree F a b)(k:Agree F b c):Agree F a c:=λi hi=>(k i hi).trans (h i hi)
def Agree.refl(w:AB):Agree F w w:=λ_ _=>rfl
variable{G:Nat->Prop}
def Agree.mono{a b:AB}(h:Agree F a b)(I:∀i,G i->F i):Agree G a b:=λi hi=>h i (I i hi)
abbrev Lt(n:Nat):Nat->Prop:=λb=>b<n
abbrev In(m n:Nat):Nat->Prop:=λb=>m<=b/\b<n
structure Sl where
 a:Option Addr
 c:Nat
abbrev Sl.none:Sl:=⟨Option.none,0⟩
inductive BV (F:Nat->Prop):Sl->Nat->Nat->Nat->Prop
 |nil (b o:Nat):BV F ⟨Option.none,0⟩ 0 b o
 |some (n c b o:Nat) (h:n<=c) (hc:c<=maxLen) (hb:F b):BV F ⟨Option.some ⟨b,o,Option.none⟩,c⟩ n b o
 |zero (a:Addr) (b o:Nat):BV F ⟨Option.some a,0⟩ 0 b o
def BV.mono{v:Sl}{n b o:Nat}(h:BV F v n b o)(I:∀i,F i->G i):BV G v n b o:=by
 cases h with
 |nil=>exact .nil _ _
 |some _ c _ _ h hc hb=>exact .some _ c _ _ h hc (I _ hb)
 |zero a=>exact .zero a _ _
def BV.fits{v:Sl}{n b o:Nat}(h:BV F v n b o)(I:0<n):F b:=by
 cases h with
 |nil=>omega
 |some _ c _ _ h hc hb=>exact hb
 |zero a=>omega
def BV.eq{v:Sl}{n b o:Nat}(h:BV F v n b o)(I:0<n):v.a=Option.some ⟨b,o,Option.none⟩/\n<=v.c/\v.c<=maxLen:=by
 cases h with
 |nil=>omega
 |some _ c _ _ h hc hb=>exact⟨rfl,h,hc⟩
 |zero a=>omega
inductive Val where
 |mk (kind:Int) (b:Bool) (i:Int) (t:AA) (l:List Val) (ok:List AA) (ov:List Val)
def Val.kind:Val->Int | .mk k _ _ _ _ _ _=>k
def Val.b:Val->Bool | .mk _ b _ _ _ _ _=>b
def Val.i:Val->Int | .mk _ _ i _ _ _ _=>i
def Val.t:Val->AA | .mk _ _ _ t _ _ _=>t
def Val.l:Val->List Val | .mk _ _ _ _ l _ _=>l
def Val.ok:Val->List AA | .mk _ _ _ _ _ ok _=>ok
def Val.ov:Val->List Val | .mk _ _ _ _ _ _ ov=>ov
def Val.CM(d:Val):0<SizeOf.sizeOf d:=by cases d;simp only[Val.mk.sizeOf_spec];omega
variable{j:Nat}
def Val.Ev{k:Int}{b:Bool}{i:Int}{t:AA}{l:List Val}{ok:List AA}{ov:List Val}{d:Val}(h:l[j]? = some d):SizeOf.sizeOf d<SizeOf.sizeOf (Val.mk k b i t l ok ov):=by
 have:=dS (ap h);simp only[Val.mk.sizeOf_spec];omega
def Val.E0{k:Int}{b:Bool}{i:Int}{t:AA}{l:List Val}{ok:List AA}{ov:List Val}{d:Val}(h:ov[j]? = some d):SizeOf.sizeOf d<SizeOf.sizeOf (Val.mk k b i t l ok ov):=by
 have:=dS (ap h);simp only[Val.mk.sizeOf_spec];omega
structure BR(w:AB)(b o:Nat)(d:Val)(sl so:Sl):Prop where
 c0:w.cell? ⟨b,o,none⟩=some (.int .i64 d.kind)
 c1:w.cell? ⟨b,o+1,none⟩=some (.bool d.b)
 c2:w.cell? ⟨b,o+2,none⟩=some (.int .i64 d.i)
 c3:w.cell? ⟨b,o+3,none⟩=some (.string d.t)
 c4:w.cell? ⟨b,o+4,none⟩=some (.slice sl.a d.l.length sl.c)
 c5:w.cell? ⟨b,o+5,none⟩=some (.slice so.a d.ok.length so.c)
variable{sl so:Sl}
def BR.agree{b o:Nat}{d:Val}(h:BR w b o d sl so)(N:Agree F w w')(I:F b):BR w' b o d sl so:=
 ⟨(N.cell I).trans h.c0,(N.cell I).trans h.c1,(N.cell I).trans h.c2,(N.cell I).trans h.c3,(N.cell I).trans h.c4,(N.cell I).trans h.c5⟩
inductive RV (w:AB) (F:Nat->Prop):Val->Sl->Sl->Prop
 |mk {kind:Int} {b:Bool} {i:Int} {t:AA} {l:List Val} {ok:List AA} {ov:List Val} {sl so:Sl} (bl fl bo fo:Nat) (cl co:Nat->Sl × Sl)
    (hl:BV F sl l.length bl fl) (ho:BV F so ok.length bo fo) (hov:ov.length=ok.length)
    (el:∀j d,l[j]? = some d->BR w bl (fl+j*6) d (cl j).1 (cl j).2)
    (rl:∀j d,l[j]? = some d->RV w F d (cl j).1 (cl j).2)
    (ek:∀j k,ok[j]? = some k->w.cell? ⟨bo,fo+j*7,none⟩=some (.string k)/\k.size<=maxLen)
    (eo:∀j d,ov[j]? = some d->BR w bo (fo+j*7+1) d (co j).1 (co j).2)
    (ro:∀j d,ov[j]? = some d->RV w F d (co j).1 (co j).2)
    (bk:(Lit.int .i64 kind).wf=true) (bi:(Lit.int .i64 i).wf=true) (bt:t.size<=maxLen)
    (nl:l.length*88<=140737488355328) (no:ok.length*104<=140737488355328):RV w F (.mk kind b i t l ok ov) sl so
def De{α:Type}{l:List α}{d:α}(h:l[j]? = some d):0<l.length:=Nat.lt_of_le_of_lt (aw _) (ai.1 h).1
def RV.agree{d:Val}(h:RV w F d sl so)(N:Agree F w w'):RV w' F d sl so:=by
 induction h with
 | mk bl fl bo fo cl co hl ho hov el rl ek eo ro bk bi bt nl no ihl iho=>
   exact .mk bl fl bo fo cl co hl ho hov (λj d I=>(el j d I).agree N (hl.fits (De I))) (λj d I=>ihl j d I) (λj k I=>⟨(N.cell (ho.fits (De I))).trans (ek j k I).1,(ek j k I).2⟩)
    (λj d I=>(eo j d I).agree N (ho.fits (hov▸De I))) (λj d I=>iho j d I) bk bi bt nl no
def RV.mono{d:Val}(h:RV w F d sl so)(N:∀i,F i->G i):RV w G d sl so:=by
 induction h with
 | mk bl fl bo fo cl co hl ho hov el rl ek eo ro bk bi bt nl no ihl iho=>
   exact .mk bl fl bo fo cl co (hl.mono N) (ho.mono N) hov el (λj d I=>ihl j d I) ek eo (λj d I=>iho j d I) bk bi bt nl no
def RV.ext{d:Val}(h:RV w F d sl so)(I:Ext w w')(hF:∀b,F b->b<w.heap.size):RV w' F d sl so:=h.agree (I.agree hF)
structure Es(w:AB)(F:Nat->Prop)(d:Val)(sl so:Sl):Prop where
 rv:RV w F d sl so
 cap:sl.c=d.l.length
def Es.agree{d:Val}(h:Es w F d sl so)(I:Agree F w w'):RV w' F d sl so:=h.rv.agree I
def Es.mono{d:Val}(h:Es w F d sl so)(I:∀i,F i->G i):RV w G d sl so:=h.rv.mono I
structure RL(w:AB)(F:Nat->Prop)(b o:Nat)(l:List Val)(c:Nat->Sl × Sl):Prop where
 cells:∀j d,l[j]? = some d->BR w b (o+j*6) d (c j).1 (c j).2
 reads:∀j d,l[j]? = some d->RV w F d (c j).1 (c j).2
structure RO(w:AB)(F:Nat->Prop)(b o:Nat)(ok:List AA)(ov:List Val)(c:Nat->Sl × Sl):Prop where
 keys:∀j k,ok[j]? = some k->w.cell? ⟨b,o+j*7,none⟩=some (.string k)/\k.size<=maxLen
 cells:∀j d,ov[j]? = some d->BR w b (o+j*7+1) d (c j).1 (c j).2
 reads:∀j d,ov[j]? = some d->RV w F d (c j).1 (c j).2
def BF(wr:AB)(B t size n:Nat):Prop:=∃arr,wr.heap[B]? = some (.cells arr t (0,0))/\arr.size=n*size
def BF.agree{B t size n:Nat}(h:BF w B t size n)(N:Agree F w w')(hF:F B):BF w' B t size n:=by
 obtain⟨I,h1,h2⟩:=h;exact⟨I,(N B hF).trans h1,h2⟩
def BF.lt{B t size n:Nat}(h:BF w B t size n):B<w.heap.size:=by obtain⟨I,h1,_⟩:=h;exact fU h1
def BF.frozen{B t size n:Nat}(h:BF w B t size n)(o:Nat):w.frozen? ⟨B,o,none⟩=false:=by
 obtain⟨I,h1,h2⟩:=h;simp[World.frozen?,h1]
variable{o:Nat}
def BF.cell{B t size n:Nat}(h:BF w B t size n)(N:o<n*size):∃v,w.cell? ⟨B,o,none⟩=some v:=by
 obtain⟨I,h1,h2⟩:=h;exact⟨I[o]' oM,by rw[fH w B o I t (0,0) h1];simp⟩
def BF.setCell{B t size n:Nat}(h:BF w B t size n)(p:Addr)(u:Value):BF (w.setCell p u) B t size n:=by
 obtain⟨I,h1,h2⟩:=h;by_cases N:B=p.block
 ·subst N
  refine⟨if p.spot.isSome then I else I.setIfInBounds p.off u,?_,?_⟩
  .simp [World.setCell,Array.getElem?_modify,h1]
  split<;>simp[h2]
 exact⟨I,(ft w p u B N).trans h1,h2⟩
def AE(w:AB)(g:Nat)(t:TypeId)(cs:Array Value):Prop:=w.heap[g]? = some (.cells cs t (0,0))
section
variable{w w' : AB}{g : Nat}{t : TypeId}{cs : Array Value}
def AE.lt(h:AE w g t cs):g<w:=fU h
def AE.cell(h:AE w g t cs)(i:Nat):w.cell? ⟨g,i,none⟩=cs[i]?:=fH w g i cs t (0,0) h
def AE.frozen(h:AE w g t cs)(i:Nat):w.frozen? ⟨g,i,none⟩=false:=by
 unfold AE at h;simp[World.frozen?,h]
def AE.new(w:AB)(t:TypeId)(cs:Array Value):AE (w.alloc (.cells cs t)) w.heap.size t cs:=fP w _
def AE.AX(h:AE w g t cs)(i:Nat)(u:Value):AE (w.setCell ⟨g,i,none⟩ u) g t (cs.setIfInBounds i u):=by
 unfold AE at h ⊢;simp[World.setCell,Array.getElem?_modify,h]
def AE.agree(h:AE w g t cs){F:Nat->Prop}(I:Agree F w w')(hF:F g):AE w' g t cs:=(I g hF).trans h
def AE.ext(h:AE w g t cs)(I:Ext w w'):AE w' g t cs:=(I.heap h.lt).trans h
def AE.alloc(h:AE w g t cs)(o:Obj):AE (w.alloc o) g t cs:=(fe w o g h.lt).trans h
def AE.far(h:AE w g t cs){p:Addr}(I:g≠p.block)(u:Value):AE (w.setCell p u) g t cs:=(ft w p u g I).trans h
def AE.c6{v0 Z I v3 v4 N:Value}(h:AE w g t #[v0,Z,I,v3,v4,N]):w.cell? g=some v0/\w.cell? ⟨g,1,none⟩=some Z/\w.cell? ⟨g,2,none⟩=some I/\w.cell? ⟨g,3,none⟩=some v3/\w.cell? ⟨g,4,none⟩=some v4/\w.cell? ⟨g,5,none⟩=some N:=
 ⟨h.cell 0,h.cell 1,h.cell 2,h.cell 3,h.cell 4,h.cell 5⟩
end
def Ch(w:AB)(I N Z:TypeId)(c0 c1 c2:Array Value):∀W,((w.alloc (.cells c0 I)).alloc (.cells c1 N)).alloc (.cells c2 Z)=W->
  Ext w W/\W.heap.size=w.heap.size+3/\AE W w.heap.size I c0/\AE W (w.heap.size+1) N c1/\AE W (w.heap.size+1+1) Z c2:=by
 rintro W rfl;refine⟨(((Ext.refl w).alloc _ _).alloc _ _).alloc _ _,oO,((AE.new w I c0).alloc _).alloc _,?_,?_⟩
 ·have h:=(AE.new (w.alloc (.cells c0 I)) N c1).alloc (.cells c2 Z)
  rw[eQ]at h;exact h
 have h:=AE.new ((w.alloc (.cells c0 I)).alloc (.cells c1 N)) Z c2;rw[eQ,eQ]at h;exact h
def VN(w:AB)(Z I N t3:TypeId)(c0 c1 c2 c3:Array Value):∀W,(((w.alloc (.cells c0 Z)).alloc (.cells c1 I)).alloc (.cells c2 N)).alloc (.cells c3 t3)=W->
  Ext w W/\W.heap.size=w.heap.size+4/\AE W w.heap.size Z c0/\AE W (w.heap.size+1) I c1/\AE W (w.heap.size+1+1) N c2/\AE W (w.heap.size+1+1+1) t3 c3:=by
 rintro W rfl;obtain⟨h1,h2,h3,h4,h5⟩:=Ch w Z I N c0 c1 c2 _ rfl;refine⟨h1.alloc _ _,oO,h3.alloc _,h4.alloc _,h5.alloc _,?_⟩;have h:=AE.new (((w.alloc (.cells c0 Z)).alloc (.cells c1 I)).alloc (.cells c2 N)) t3 c3;rw[h2]at h;exact h
def BF.of{B t:Nat}{cs:Array Value}{size n:Nat}(h:AE w B t cs)(hs:cs.size=n*size):BF w B t size n:=⟨cs,h,hs⟩
def BF.made{t:TypeId}(cs:Array Value){size n:Nat}(h:cs.size=n*size):BF (w.alloc (.cells cs t)) w.heap.size t size n:=⟨cs,AE.new w t cs,h⟩
def BN(w:AB)(b o:Nat)(d:Val)(sl so:Sl):AB:=
 (((((w.setCell ⟨b,o,none⟩ (.int .i64 d.kind)).setCell ⟨b,o+1,none⟩ (.bool d.b)).setCell ⟨b,o+2,none⟩ (.int .i64 d.i)).setCell ⟨b,o+3,none⟩ (.string d.t)).setCell ⟨b,o+4,none⟩ (.slice sl.a d.l.length sl.c)).setCell ⟨b,o+5,none⟩ (.slice so.a d.ok.length so.c)
def Eo(w:AB)(b o:Nat)(d:Val)(sl so:Sl)(hF:¬F b):Agree F w (BN w b o d sl so):=
 ((((((Agree.refl w).trans (Agree.setCell _ _ _ hF)).trans (Agree.setCell _ _ _ hF)).trans (Agree.setCell _ _ _ hF)).trans (Agree.setCell _ _ _ hF)).trans (Agree.setCell _ _ _ hF)).trans (Agree.setCell _ _ _ hF)
def Ip(w:AB)(b o:Nat)(d:Val)(sl so:Sl):(BN w b o d sl so).heap.size=w.heap.size:=by simp[BN]
def Ext.BN{a w:AB}(h:Ext a w){b:Nat}(I:a<=b)(o:Nat)(d:Val)(sl so:Sl):Ext a (BN w b o d sl so):=
 (((((h.setCell (p:=⟨b,_,none⟩) I _).setCell (p:=⟨b,_,none⟩) I _).setCell (p:=⟨b,_,none⟩) I _).setCell (p:=⟨b,_,none⟩) I _).setCell (p:=⟨b,_,none⟩) I _).setCell (p:=⟨b,_,none⟩) I _
def BF.BN{B t size n:Nat}(h:BF w B t size n)(b o:Nat)(d:Val)(sl so:Sl):BF (BN w b o d sl so) B t size n:=
 (((((h.setCell _ _).setCell _ _).setCell _ _).setCell _ _).setCell _ _).setCell _ _
def CL(w:AB)(b o o':Nat)(u:Value)(h:o≠o'):(w.setCell ⟨b,o,none⟩ u).cell? ⟨b,o',none⟩=w.cell? ⟨b,o',none⟩:=
 World.cell?_setCell_other w _ _ u (λe=>h (congrArg Addr.off e))
def F9(w:AB)(b o:Nat)(d:Val)(sl so:Sl)(o':Nat)(h:o'<o\/o+6<=o'):(BN w b o d sl so).cell? ⟨b,o',none⟩=w.cell? ⟨b,o',none⟩:=by
 unfold BN;rw[CL _ _ _ _ _ oM,CL _ _ _ _ _ oM,CL _ _ _ _ _ oM,CL _ _ _ _ _ oM,CL _ _ _ _ _ oM,CL _ _ _ _ _ oM]
def BF.here{B t size n:Nat}(h:BF w B t size n)(I:o<n*size)(u:Value):(w.setCell ⟨B,o,none⟩ u).cell? ⟨B,o,none⟩=some u:=by
 obtain⟨v,N⟩:=h.cell I;exact fm w _ u N
def Sy{B t size n:Nat}(h:BF w B t size n)(d:Val)(sl so:Sl)(I:o+6<=n*size):BR (BN w B o d sl so) B o d sl so:=by
 unfold BN;refine⟨?_,?_,?_,?_,?_,?_⟩
 ·rw [CL _ _ _ _ _ oM,CL _ _ _ _ _ oM,CL _ _ _ _ _ oM,CL _ _ _ _ _ oM,CL _ _ _ _ _ oM]
  exact h.here oM _
 ·rw [CL _ _ _ _ _ oM,CL _ _ _ _ _ oM,CL _ _ _ _ _ oM,CL _ _ _ _ _ oM]
  exact(h.setCell _ _).here oM _
 ·rw [CL _ _ _ _ _ oM,CL _ _ _ _ _ oM,CL _ _ _ _ _ oM]
  exact((h.setCell _ _).setCell _ _).here oM _
 ·rw [CL _ _ _ _ _ oM,CL _ _ _ _ _ oM]
  exact(((h.setCell _ _).setCell _ _).setCell _ _).here oM _
 ·rw [CL _ _ _ _ _ oM]
  exact((((h.setCell _ _).setCell _ _).setCell _ _).setCell _ _).here oM _
 exact(((((h.setCell _ _).setCell _ _).setCell _ _).setCell _ _).setCell _ _).here oM _
def BR.other{b o:Nat}{d:Val}(h:BR w b o d sl so)(o':Nat)(d':Val)(sl' so':Sl)(hd:o+6<=o'\/o'+6<=o):BR (BN w b o' d' sl' so') b o d sl so:=
 ⟨(F9 _ _ _ _ _ _ _ oM).trans h.c0,(F9 _ _ _ _ _ _ _ oM).trans h.c1,(F9 _ _ _ _ _ _ _ oM).trans h.c2,(F9 _ _ _ _ _ _ _ oM).trans h.c3,(F9 _ _ _ _ _ _ _ oM).trans h.c4,(F9 _ _ _ _ _ _ _ oM).trans h.c5⟩
structure FO(wr:AB)(B t:Nat)(l:List Val)(k:Nat)(f:Nat->Sl × Sl):Prop where
 row:BF wr B t 6 l.length
 cells:∀j d,j<k->l[j]? = some d->BR wr B (j*6) d (f j).1 (f j).2
 reads:∀j d,j<k->l[j]? = some d->RV wr (In (B+1) wr.heap.size) d (f j).1 (f j).2
def FO.start{B t:Nat}{l:List Val}(h:BF w B t 6 l.length)(f:Nat->Sl × Sl):FO w B t l 0 f:=⟨h,λ_ _ h=>absurd h oM,λ_ _ h=>absurd h oM⟩
def FO.step{wr W:AB}{B t k:Nat}{l:List Val}{f:Nat->Sl × Sl}(h:FO wr B t l k f)(hx:Ext wr W){d:Val}(hd:l[k]? = some d)(hr:RV W (In wr.heap.size W.heap.size) d sl so) :
  FO (BN W B (k*6) d sl so) B t l (k+1) (λj=>if j=k then(sl,so)else f j):=by
 have hB:=h.row.lt;have hk:k<l.length:=(ai.1 hd).1;have Z:BF W B t 6 l.length:=h.row.agree (F:=Lt wr) (hx.agree λ_ h=>h) hB;refine⟨Z.BN _ _ _ _ _,λj d' hj I=>?_,λj d' hj I=>?_⟩
 ·by_cases N:j=k
  ·subst N
   obtain rfl:d=d':=by rw[hd]at I;injection I
   simp only[if_pos];exact Sy Z _ _ _ oM
  simp only[if_neg N];exact((h.cells j d' oM I).agree (F:=Lt wr) (hx.agree λ_ h=>h) hB).other _ _ _ _ oM
 have a0:Agree (In (B+1) W.heap.size) W (BN W B (k*6) d sl so):=Eo _ _ _ _ _ _ oM;rw[Ip];by_cases N:j=k
 ·subst N
  obtain rfl:d=d':=by rw[hd]at I;injection I
  simp only[if_pos];exact(hr.mono (λi hi=>⟨oM,hi.2⟩)).agree a0
 simp only[if_neg N];exact(((h.reads j d' oM I).ext hx (λb hb=>hb.2)).mono (λi hi=>⟨hi.1,by have:=hx.size;omega⟩)).agree a0
variable{n:Nat}
def FO.done{B t:Nat}{l:List Val}{f:Nat->Sl × Sl}(h:FO w B t l l.length f)(I:n<=B):RL w (In n w.heap.size) B 0 l f:=
 ⟨λj d hd=>by rw[aF];exact h.cells j d (ai.1 hd).1 hd,λj d hd=>(h.reads j d (ai.1 hd).1 hd).mono λi hi=>⟨oM,hi.2⟩⟩
def BR.m{b o:Nat}{d:Val}(h:BR w b (o+1) d sl so):w.cell? ⟨b,o+1,none⟩=some (.int .i64 d.kind)/\w.cell? ⟨b,o+2,none⟩=some (.bool d.b)/\w.cell? ⟨b,o+3,none⟩=some (.int .i64 d.i)/\w.cell? ⟨b,o+4,none⟩=some (.string d.t)/\
  w.cell? ⟨b,o+5,none⟩=some (.slice sl.a d.l.length sl.c)/\w.cell? ⟨b,o+6,none⟩=some (.slice so.a d.ok.length so.c):=⟨h.c0,h.c1,h.c2,h.c3,h.c4,h.c5⟩
def Br(w:AB)(b o:Nat)(k:AA)(d:Val)(sl so:Sl):AB:=BN (w.setCell ⟨b,o,none⟩ (.string k)) b (o+1) d sl so
def Im(w:AB)(b o:Nat)(k:AA)(d:Val)(sl so:Sl)(hF:¬F b):Agree F w (Br w b o k d sl so):=(Agree.setCell _ _ _ hF).trans (Eo _ _ _ _ _ _ hF)
def MX(w:AB)(b o:Nat)(k:AA)(d:Val)(sl so:Sl):(Br w b o k d sl so).heap.size=w.heap.size:=by simp[Br,Ip]
def Ext.Br{a w:AB}(h:Ext a w){b:Nat}(I:a<=b)(o:Nat)(k:AA)(d:Val)(sl so:Sl):Ext a (Br w b o k d sl so):=(h.setCell (p:=⟨b,_,none⟩) I _).BN I _ _ _ _
def BF.Br{B t size n:Nat}(h:BF w B t size n)(b o:Nat)(k:AA)(d:Val)(sl so:Sl):BF (Br w b o k d sl so) B t size n:=(h.setCell _ _).BN _ _ _ _ _
def Fv(w:AB)(b o:Nat)(k:AA)(d:Val)(sl so:Sl)(o':Nat)(h:o'<o\/o+7<=o'):(Br w b o k d sl so).cell? ⟨b,o',none⟩=w.cell? ⟨b,o',none⟩:=by
 unfold Br;rw[F9 _ _ _ _ _ _ _ oM,CL _ _ _ _ _ oM]
def MQ{B t size n:Nat}(h:BF w B t size n)(k:AA)(d:Val)(sl so:Sl)(I:o+7<=n*size):(Br w B o k d sl so).cell? ⟨B,o,none⟩=some (.string k)/\BR (Br w B o k d sl so) B (o+1) d sl so:=by
 refine⟨?_,Sy (h.setCell _ _) _ _ _ oM⟩;unfold Br;rw[F9 _ _ _ _ _ _ _ oM];exact h.here oM _
def BR.YZ{b o:Nat}{d:Val}(h:BR w b o d sl so)(o':Nat)(k:AA)(d':Val)(sl' so':Sl)(hd:o+6<=o'\/o'+7<=o):BR (Br w b o' k d' sl' so') b o d sl so:=
 ⟨(Fv _ _ _ _ _ _ _ _ oM).trans h.c0,(Fv _ _ _ _ _ _ _ _ oM).trans h.c1,(Fv _ _ _ _ _ _ _ _ oM).trans h.c2,(Fv _ _ _ _ _ _ _ _ oM).trans h.c3,(Fv _ _ _ _ _ _ _ _ oM).trans h.c4,(Fv _ _ _ _ _ _ _ _ oM).trans h.c5⟩
structure EC(wr:AB)(B t:Nat)(ok:List AA)(ov:List Val)(k:Nat)(f:Nat->Sl × Sl):Prop where
 row:BF wr B t 7 ok.length
 keys:∀j x,j<k->ok[j]? = some x->wr.cell? ⟨B,j*7,none⟩=some (.string x)
 cells:∀j d,j<k->ov[j]? = some d->BR wr B (j*7+1) d (f j).1 (f j).2
 reads:∀j d,j<k->ov[j]? = some d->RV wr (In (B+1) wr.heap.size) d (f j).1 (f j).2
def EC.start{B t:Nat}{ok:List AA}{ov:List Val}(h:BF w B t 7 ok.length)(f:Nat->Sl × Sl):EC w B t ok ov 0 f:=⟨h,λ_ _ h=>absurd h oM,λ_ _ h=>absurd h oM,λ_ _ h=>absurd h oM⟩
def EC.step{wr W:AB}{B t k:Nat}{ok:List AA}{ov:List Val}{f:Nat->Sl × Sl}(h:EC wr B t ok ov k f)(hx:Ext wr W){x:AA}(a2:ok[k]? = some x){d:Val}(hd:ov[k]? = some d)(hr:RV W (In wr.heap.size W.heap.size) d sl so) :
  EC (Br W B (k*7) x d sl so) B t ok ov (k+1) (λj=>if j=k then(sl,so)else f j):=by
 have hB:=h.row.lt;have hk:k<ok.length:=(ai.1 a2).1;have Z:BF W B t 7 ok.length:=h.row.agree (F:=Lt wr) (hx.agree λ_ h=>h) hB;refine⟨Z.Br _ _ _ _ _ _,λj x' hj a0=>?_,λj d' hj N=>?_,λj d' hj N=>?_⟩
 ·by_cases I:j=k
  ·subst I
   obtain rfl:x=x':=by rw[a2]at a0;injection a0
   exact(MQ Z _ _ _ _ oM).1
  rw[Fv _ _ _ _ _ _ _ _ oM];exact(hx.cell hB).trans (h.keys j x' oM a0)
 ·by_cases I:j=k
  ·subst I
   obtain rfl:d=d':=by rw[hd]at N;injection N
   simp only[if_pos];exact(MQ Z _ _ _ _ oM).2
  simp only[if_neg I];exact((h.cells j d' oM N).agree (F:=Lt wr) (hx.agree λ_ h=>h) hB).YZ _ _ _ _ _ oM
 have a1:Agree (In (B+1) W.heap.size) W (Br W B (k*7) x d sl so):=Im _ _ _ _ _ _ _ oM;rw[MX];by_cases I:j=k
 ·subst I
  obtain rfl:d=d':=by rw[hd]at N;injection N
  simp only[if_pos];exact(hr.mono (λi hi=>⟨oM,hi.2⟩)).agree a1
 simp only[if_neg I];exact(((h.reads j d' oM N).ext hx (λb hb=>hb.2)).mono (λi hi=>⟨hi.1,by have:=hx.size;omega⟩)).agree a1
def EC.done{B t:Nat}{ok:List AA}{ov:List Val}{f:Nat->Sl × Sl}(h:EC w B t ok ov ok.length f)(N:ov.length=ok.length)(Z:∀(j:Nat) (x:AA),ok[j]? = some x->x.size<=maxLen)(hn:n<=B):RO w (In n w.heap.size) B 0 ok ov f:=
 ⟨λj x I=>⟨by rw[aF];exact h.keys j x (ai.1 I).1 I,Z j x I⟩,
   λj d hd=>by rw[aF];exact h.cells j d (by have:=(ai.1 hd).1;omega) hd,λj d hd=>(h.reads j d (by have:=(ai.1 hd).1;omega) hd).mono λi hi=>⟨oM,hi.2⟩⟩
def RL.nil(w:AB)(F:Nat->Prop)(b o:Nat)(f:Nat->Sl × Sl):RL w F b o [] f:=⟨λ_ _ h=>by simp at h,λ_ _ h=>by simp at h⟩
def RO.nil(w:AB)(F:Nat->Prop)(b o:Nat)(f:Nat->Sl × Sl):RO w F b o [] [] f:=⟨λ_ _ h=>by simp at h,λ_ _ h=>by simp at h,λ_ _ h=>by simp at h⟩
def YD{cs:Array Value}(h:cs.size=6):∃N a1 a2 a3 I Z,cs=#[N,a1,a2,a3,I,Z]:=by
 obtain⟨l⟩:=cs
 match l,h with
 |[N,a1,a2,a3,I,Z],_=>exact⟨_,_,_,_,_,_,rfl⟩
def RL.agree{b o:Nat}{l:List Val}{f:Nat->Sl × Sl}(h:RL w F b o l f)(I:Agree F w w')(N:0<l.length->F b):RL w' F b o l f:=
 ⟨λj d hd=>(h.cells j d hd).agree I (N (De hd)),λj d hd=>(h.reads j d hd).agree I⟩
def RL.mono{b o:Nat}{l:List Val}{f:Nat->Sl × Sl}(h:RL w F b o l f)(I:∀i,F i->G i):RL w G b o l f:=⟨h.cells,λj d hd=>(h.reads j d hd).mono I⟩
def RO.agree{b o:Nat}{ok:List AA}{ov:List Val}{f:Nat->Sl × Sl}(h:RO w F b o ok ov f)(Z:Agree F w w')(I:ov.length=ok.length)(hb:0<ok.length->F b):RO w' F b o ok ov f:=
 ⟨λj k N=>⟨(Z.cell (hb (De N))).trans (h.keys j k N).1,(h.keys j k N).2⟩,λj d hd=>(h.cells j d hd).agree Z (hb (I▸De hd)),λj d hd=>(h.reads j d hd).agree Z⟩
def RV.of{I:Int}{b:Bool}{i:Int}{t:AA}{l:List Val}{ok:List AA}{ov:List Val}{bl fl bo Z:Nat}{cl co:Nat->Sl × Sl}
  (hl:BV F sl l.length bl fl) (ho:BV F so ok.length bo Z) (N:ov.length=ok.length) (rl:RL w F bl fl l cl) (ro:RO w F bo Z ok ov co)
  (bk:(Lit.int .i64 I).wf=true) (bi:(Lit.int .i64 i).wf=true) (bt:t.size<=maxLen) (nl:l.length*88<=140737488355328) (no:ok.length*104<=140737488355328):RV w F (.mk I b i t l ok ov) sl so:=
 .mk bl fl bo Z cl co hl ho N rl.cells rl.reads ro.keys ro.cells ro.reads bk bi bt nl no
variable{P:Program}
def I'(t e:TypeId)(i:TypeInfo)(z:Value)(ht:P.underlying t=some (.slice e))(hi:P.info? e=some i)(hz:i.zero=some z)
  (kl Z:IntKind) (n c:Nat) (a1:n<=c) (I:i.bytes*c<=281474976710656) (a0:c<=9223372036854775807) (w:AB) :
  (Instr.makeSlice t (.int kl (n:Int)) (.int Z (c:Int))).run P w=.ok (.slice (some w) n c) (w.alloc (.cells (madeCells z.cells (c*i.size)) e)):=by
 have hb:(i.bytes:Int)*(c:Int)<=281474976710656:=by
  have h:((i.bytes*c:Nat):Int)<=281474976710656:=oM
  rwa[Int.natCast_mul]at h
 have N:=run_make (P:=P) w t e i z ht hi hz kl Z n c oM oM hb oM;simp only[Int.toNat_natCast]at N;exact N
abbrev gz:=@Ext.refl
abbrev gB:=@AE.new
abbrev gD:=@Agree.setCell
abbrev eU:=@bodyPost_ret
abbrev eX:=@World.size_setCell
abbrev eZ:=@info_parts
abbrev gh:=@size_madeCells
def Tryz.DK:(prog.info? 65).map (λi=>(i.zero,i.size,i.bytes))=some (some (.agg #[ByteArray.empty,.int .i64 0,false,.int .i64 0,ByteArray.empty,.slice none 0 0,.slice none 0 0]),7,104):=kM
def Tryz.pQ:(prog.info? 107).map (λi=>(i.zero,i.size,i.bytes))=some (some (.agg #[ByteArray.empty,.int .i64 0,false,.int .i64 0,ByteArray.empty,.slice none 0 0,.slice none 0 0]),7,104):=kM
def Tryz.Lq:(prog.info? 54).map (λi=>(i.zero,i.size,i.bytes))=some (some (.agg #[.int .i64 0,false,.int .i64 0,ByteArray.empty,.slice none 0 0,.slice none 0 0]),6,88):=kM
abbrev AS(d:Val)(sl so:Sl):Value:=.agg #[.int .i64 d.kind,.bool d.b,.int .i64 d.i,.string d.t,.slice sl.a d.l.length sl.c,.slice so.a d.ok.length so.c]
def JJ(d:Val)(w:AB)(e:AC)(w':AB):Prop:=
 ∃sl so,e=.returned (AS d sl so)/\Ext w w'/\Es w' (In w.heap.size w'.heap.size) d sl so
def SA(d:Val)(sl so:Sl)(w wc:AB):Prop:=
 ∃(sl1:Sl) (B:Nat) (f:Nat->Sl × Sl),Ext w wc/\w.heap.size+3<=wc.heap.size/\AE wc w.heap.size 54 #[.int .i64 d.kind,.bool d.b,.int .i64 d.i,.string d.t,.slice sl.a d.l.length sl.c,.slice so.a d.ok.length so.c]/\
  (∃cs,AE wc (w.heap.size+1) 54 cs/\cs.size=6)/\AE wc (w.heap.size+1+1) 54 #[.int .i64 d.kind,.bool d.b,.int .i64 d.i,.string d.t,.slice sl1.a d.l.length sl1.c,.slice none 0 0]/\
  (BV (In (w.heap.size+3) wc.heap.size) sl1 d.l.length B 0/\sl1.c=d.l.length)/\RL wc (In (w.heap.size+3) wc.heap.size) B 0 d.l f
def Ns(d:Val)(sl1:Sl)(B:Nat)(f:Nat->Sl × Sl)(w wc:AB):Prop:=
 ∃(so1:Sl) (C:Nat) (g:Nat->Sl × Sl),Ext w wc/\w.heap.size+3<=wc.heap.size/\(∃cs,AE wc (w.heap.size+1) 54 cs/\cs.size=6)/\
  AE wc (w.heap.size+1+1) 54 #[.int .i64 d.kind,.bool d.b,.int .i64 d.i,.string d.t,.slice sl1.a d.l.length sl1.c,.slice so1.a d.ok.length so1.c]/\
  (BV (In (w.heap.size+3) wc.heap.size) sl1 d.l.length B 0/\sl1.c=d.l.length)/\RL wc (In (w.heap.size+3) wc.heap.size) B 0 d.l f/\
  BV (In (w.heap.size+3) wc.heap.size) so1 d.ok.length C 0/\RO wc (In (w.heap.size+3) wc.heap.size) C 0 d.ok d.ov g
def IL(m:Nat):∀(d:Val),SizeOf.sizeOf d<=m->∀(w:AB) (sl so:Sl),RV w (Lt w.heap.size) d sl so->Calls prog 72 #[AS d sl so] w (JJ d w):=by
 induction m with
 |zero=>intro d hd;have:=Val.CM d;omega
 |succ m ih=>
 intro d hd w sl so h;have HI:=hY ih;clear ih;obtain⟨i0,hi,j4,l1,j5⟩:=eZ Tryz.Lq;obtain⟨j0,hj,k2,k9,j2⟩:=eZ Tryz.pQ;obtain⟨k,b,i,t,l,Z,ov⟩:=d;show Calls _ _ #[.agg #[k,b,i,t,.slice sl.a l.length sl.c,.slice so.a Z.length so.c]] _ _;cases h with
 |mk bl fl bo fo cl co hl ho hov el rl ek eo ro bk bi bt nl no=>
 have g9:∀(j:Nat) (d:Val),l[j]? = some d->SizeOf.sizeOf d<=m:=λj d hj=>bz (ab (Val.Ev hj) hd)
 have f8:∀(j:Nat) (d:Val),ov[j]? = some d->SizeOf.sizeOf d<=m:=λj d hj=>bz (ab (Val.E0 hj) hd)
 obtain⟨f7,g8,g7,b7,e0,i1,d5⟩:=Yh g9 f8 el rl ek eo ro;have d3:=hY hov;clear g9 f8 el rl ek eo ro hov hd;go_in;go_upto_if 14 with fail;go_cut [] (λwc=>SA (.mk k b i t l Z ov) sl so w wc)
 case first=>
  by_cases h0:0<l.length
  ·have e6:=fun W=>I' (P:=prog) 51 54 i0 _ underlying51 hi j4 .i64 .i64 l.length l.length (ao _) (by rw [j5];omega) oM W
   obtain⟨sa,sc⟩:=sl;obtain⟨rfl,i5,k1⟩:=hl.eq h0;have j8:=hl.fits h0;go_wp2_with fail;clear e6;generalize b0:World.alloc _ _=W0;obtain⟨b9,d9,a6,N,I,g4⟩:=VN w _ _ _ _ _ _ _ _ W0 b0;have b6:=BF.of g4 (gh _ _);clear b0 g4;go_loopw[23] (λq wr=>∃(j:Nat) (f:Nat->Sl × Sl),j<=l.length/\q=.int .i64 j/\Ext w wr/\FO wr (w.heap.size+1+1+1) 54 l j f/\
     AE wr w.heap.size 54 #[.int .i64 k,.bool b,.int .i64 i,.string t,.slice (some ⟨bl,fl,none⟩) l.length sc,.slice so.a Z.length so.c]/\
     (∃cs,AE wr (w.heap.size+1) 54 cs/\cs.size=6)/\AE wr (w.heap.size+1+1) 54 #[.int .i64 k,.bool b,.int .i64 i,.string t,.slice (some ⟨w.heap.size+1+1+1,0,none⟩) l.length l.length,.slice none 0 0])
    (λq _=>l.length -(intOf q).toNat)
   case atStart=>exact⟨0,λ_=>(Sl.none,Sl.none),aw _,rfl,b9,FO.start b6 _,a6,⟨_,N,rfl⟩,I⟩
   obtain⟨j,f,hj,rfl,hx,hf,a6,N,I⟩:=hrel;by_cases b8:j<l.length
   ·obtain ⟨d,hd⟩:∃ d,l[j]? = some d:=⟨_,ac b8⟩
    have b5:Agree (Lt w.heap.size) w wr:=hx.agree λ_ h=>h
    obtain⟨v0,v1,v2,v3,v4,v5⟩:=(g7.o j d hd).agree b5 j8;have k7:=I.c6.2.2.2.2.1;have f2:∀W,Ext wr W->Calls prog 72 #[AS d (cl j).1 (cl j).2] W (JJ d W):=λW hW=>
     HI.o d (f7.o j d hd) W _ _ (((b7.o j d hd).agree (b5.trans (hW.agree λ_ h=>ab h hx.size))).mono λi hi=>ab hi (an hx.size hW.size))
    obtain⟨HD,HF,HX,f1,f0,e7⟩:=Yg hd hf hx a6 N I;have hb:w.heap.size+1+1+1<wr.heap.size:=hf.row.lt;have k3:w.heap.size+1+1<wr.heap.size:=oM
    have i9:w.heap.size+1<wr.heap.size:=oM
    have j6:¬w.heap.size+1+1+1=wr.heap.size:=oM
    obtain⟨x0,b9⟩:∃v,wr.cell? ⟨w.heap.size+1+1+1,j*6,none⟩=some v:=hf.row.cell oM;obtain⟨x1,j3⟩:∃v,wr.cell? ⟨w.heap.size+1+1+1,j*6+1,none⟩=some v:=hf.row.cell oM;obtain⟨x2,i7⟩:∃v,wr.cell? ⟨w.heap.size+1+1+1,j*6+2,none⟩=some v:=hf.row.cell oM;obtain⟨x3,e8⟩:∃v,wr.cell? ⟨w.heap.size+1+1+1,j*6+3,none⟩=some v:=hf.row.cell oM;obtain⟨x4,k0⟩:∃v,wr.cell? ⟨w.heap.size+1+1+1,j*6+4,none⟩=some v:=hf.row.cell oM;obtain⟨x5,i4⟩:∃v,wr.cell? ⟨w.heap.size+1+1+1,j*6+5,none⟩=some v:=hf.row.cell oM;have i8:=hf.row.frozen;clear hd b5 hf hx a6 N I;go_wp2_with fail;go_region_held3 (λw'=>w'.cell? ⟨w.heap.size+1+1,4,none⟩=some (.slice (some ⟨w.heap.size+1+1+1,0,none⟩) l.length l.length)/\w'.cell? wr=some (.int .i64 d.kind)/\w'.cell? ⟨wr.heap.size,1,none⟩=some (.bool d.b)/\w'.cell? ⟨wr.heap.size,2,none⟩=some (.int .i64 d.i)/\w'.cell? ⟨wr.heap.size,3,none⟩=some (.string d.t)/\w'.cell? ⟨wr.heap.size,4,none⟩=some (.slice (cl j).1.a d.l.length (cl j).1.c)/\w'.cell? ⟨wr.heap.size,5,none⟩=some (.slice (cl j).2.a d.ok.length (cl j).2.c)) (go_keep)
     ((go_at_call 72;refine(f2 _ (((gz wr).alloc _ _).drew)).mono ?_;rintro e w1 ⟨sl,so,rfl,d0,f3⟩;have j9:=d0.olds))
    have a9:Ext wr w1:=(((gz wr).alloc _ _).drew).trans d0;have c9:=HF.o.step a9 (HD.o) (f3.mono λi hi=>⟨Nat.le_trans oO hi.1,hi.2⟩);have e4:=(f1.o.ext a9).agree (Eo w1 (w.heap.size+1+1+1) (j*6) d sl so (F:=λb=>b<w.heap.size+1+1+1) oM) oM;have f5:=(e7.o.ext a9).agree (Eo w1 (w.heap.size+1+1+1) (j*6) d sl so (F:=λb=>b<w.heap.size+1+1+1) oM) oM;have e2:∃cs,AE (BN w1 (w.heap.size+1+1+1) (j*6) d sl so) (w.heap.size+1) 54 cs/\cs.size=6:=by
     obtain⟨cs,h1,h2⟩:=f0.o;exact⟨cs,(h1.ext a9).agree (Eo w1 (w.heap.size+1+1+1) (j*6) d sl so (F:=λb=>b<w.heap.size+1+1+1) oM) oM,h2⟩
    have hX:=(HX.o.trans a9).BN (b:=w.heap.size+1+1+1) oM (j*6) d sl so;have e3:=hY c9;clear c9;go_wp2_with fail;go_roundw
    case rel=>exact⟨j+1,_,b8,by go_num,hX,e3.o,e4,e2,f5⟩
    simp[intOf];omega
   obtain rfl:j=l.length:=oM
   have hz:=hf.row.lt;have a8:=hf.done (n:=w.heap.size+3) oM;have H:SA (.mk k b i t l Z ov) ⟨some ⟨bl,fl,none⟩,sc⟩ so w wr:=
    ⟨⟨some ⟨w.heap.size+1+1+1,0,none⟩,l.length⟩,w.heap.size+1+1+1,f,hx,oM,a6,N,I,⟨.some _ _ _ _ (ao _) (by unfold maxLen;omega) ⟨oM,hz⟩,rfl⟩,a8⟩
   clear a8 a6 N I hf hx;go_wp2_with fail;go_meet;exact H
  obtain rfl:l=[]:=av oM;have hh:decide ((0:Int)<0)=false:=rfl;go_wp2_with fail;generalize i3:World.alloc _ _=W3;obtain⟨e8,l2,a6,N,I⟩:=Ch w _ _ _ _ _ _ W3 i3;clear i3;go_meet;exact⟨Sl.none,0,λ_=>(Sl.none,Sl.none),e8,oM,a6,⟨_,N,rfl⟩,I,⟨.nil _ _,rfl⟩,RL.nil _ _ _ _ _⟩
 obtain⟨a7,B,f,hx,hz,a6,N,I,⟨b3,d8⟩,a8⟩:=hcut;have d4:=hY d8;clear d8;clear hl f7 g7 b7;obtain⟨-,-,-,-,-,p5⟩:=a6.c6;dsimp only[Val.l,Val.ok,Val.ov]at *;go_upto_if 38 with fail;go_cut [] (λwc=>Ns (.mk k b i t l Z ov) a7 B f w wc)
 case first=>
  by_cases h0:0<Z.length
  ·have e6:=fun W=>I' (P:=prog) 52 107 j0 _ underlying52 hj k2 .i64 .i64 Z.length Z.length (ao _) (by rw [j2];omega) oM W
   obtain⟨sa,sc⟩:=so;obtain⟨rfl,i5,k1⟩:=ho.eq h0;have g5:=ho.fits h0;have q5:=I.cell 5;have qf:=I.frozen 5;have k6:w.heap.size<wc.heap.size:=oM
   have k5:=I.lt;simp at q5;go_wp2_with fail;clear e6 q5 qf;generalize b0:World.alloc (World.setCell _ _ _) _=W0;have b9:Ext w W0:=by rw[<-b0];exact(hx.setCell (p:=⟨w.heap.size+1+1,5,none⟩) (show w.heap.size<=w.heap.size+1+1 by omega) _).alloc _ _
   have d9:W0.heap.size=wc.heap.size+1:=by rw[<-b0];simp
   have f9:AE W0 w.heap.size 54 #[.int .i64 k,.bool b,.int .i64 i,.string t,.slice sl.a l.length sl.c,.slice (some ⟨bo,fo,none⟩) Z.length sc]:=by rw[<-b0];exact(a6.far (show w.heap.size≠w.heap.size+1+1 by omega) _).alloc _
   have g3:∃cs,AE W0 (w.heap.size+1) 54 cs/\cs.size=6:=by
    obtain⟨cs,h1,h2⟩:=N;rw[<-b0];exact⟨cs,(h1.far (show w.heap.size+1≠w.heap.size+1+1 by omega) _).alloc _,h2⟩
   have g6:AE W0 (w.heap.size+1+1) 54 #[.int .i64 k,.bool b,.int .i64 i,.string t,.slice a7.a l.length a7.c,.slice (some wc) Z.length Z.length]:=by
    rw[<-b0];exact(I.AX 5 _).alloc _
   have b6:BF W0 wc.heap.size 107 7 Z.length:=by
    have h:=BF.made (w:=wc.setCell ⟨w.heap.size+1+1,5,none⟩ (.slice (some wc) Z.length Z.length)) (t:=107) (madeCells #[.string ByteArray.empty,.int .i64 0,.bool false,.int .i64 0,.string ByteArray.empty,.slice none 0 0,.slice none 0 0] (Z.length*7)) (gh _ _);rw[eX]at h;rw[<-b0];exact h
   have d6:Agree (In (w.heap.size+3) wc.heap.size) wc W0:=by
    rw[<-b0];exact(gD wc ⟨w.heap.size+1+1,5,none⟩ _ (show ¬(w.heap.size+3<=w.heap.size+1+1/\w.heap.size+1+1<wc.heap.size)by omega)).trans (Agree.alloc _ _ (λb hb=>by rw[eX];exact hb.2))
   have d7:=a8.agree d6 b3.fits;clear a8 a6 N I hx d6 b0;go_loopw[47] (λq wr=>∃(j:Nat) (g:Nat->Sl × Sl),j<=Z.length/\q=.int .i64 j/\Ext w wr/\EC wr wc.heap.size 107 Z ov j g/\
     AE wr w.heap.size 54 #[.int .i64 k,.bool b,.int .i64 i,.string t,.slice sl.a l.length sl.c,.slice (some ⟨bo,fo,none⟩) Z.length sc]/\
     (∃cs,AE wr (w.heap.size+1) 54 cs/\cs.size=6)/\AE wr (w.heap.size+1+1) 54 #[.int .i64 k,.bool b,.int .i64 i,.string t,.slice a7.a l.length a7.c,.slice (some wc) Z.length Z.length]/\
     RL wr (In (w.heap.size+3) wc.heap.size) B 0 l f)
    (λq _=>Z.length -(intOf q).toNat)
   case atStart=>exact⟨0,λ_=>(Sl.none,Sl.none),aw _,rfl,b9,EC.start b6 _,f9,g3,g6,d7⟩
   clear b9 d9 f9 g3 g6 b6 d7 W0;obtain⟨j,g,hj,rfl,hx,hf,a6,N,I,a8⟩:=hrel;have j7:wc.heap.size<wr.heap.size:=hf.row.lt;by_cases b8:j<Z.length
   ·obtain ⟨x,f6⟩:∃ x,Z[j]? = some x:=⟨_,ac b8⟩
    obtain⟨d,hd⟩:∃d,ov[j]? = some d:=⟨_,ac (by rw[d3.o];exact b8)⟩;have b5:Agree (Lt w.heap.size) w wr:=hx.agree λ_ h=>h
    obtain⟨v0,v1,v2,v3,v4,v5⟩:=((i1.o j d hd).agree b5 g5).m;have vk:=(b5.cell g5).trans (e0.o j x f6).1;have k8:=I.c6.2.2.2.2.2;have f2:∀W,Ext wr W->Calls prog 72 #[AS d (co j).1 (co j).2] W (JJ d W):=λW hW=>
     HI.o d (g8.o j d hd) W _ _ (((d5.o j d hd).agree (b5.trans (hW.agree λ_ h=>ab h hx.size))).mono λi hi=>ab hi (an hx.size hW.size))
    obtain⟨HD,HK,HF,HX,f1,f0,e7⟩:=Yh hd f6 hf hx a6 N I;obtain⟨b7,c8⟩:=Yb a8 b3;have k3:w.heap.size+1+1<wr.heap.size:=oM
    have i9:w.heap.size+1<wr.heap.size:=oM
    have j6:¬wc.heap.size=wr.heap.size:=oM
    have k4:¬wc.heap.size=w.heap.size+1+1:=oM
    obtain⟨x0,b9⟩:∃v,wr.cell? ⟨wc.heap.size,j*7,none⟩=some v:=hf.row.cell oM;obtain⟨x1,j3⟩:∃v,wr.cell? ⟨wc.heap.size,j*7+1,none⟩=some v:=hf.row.cell oM;obtain⟨x2,i7⟩:∃v,wr.cell? ⟨wc.heap.size,j*7+2,none⟩=some v:=hf.row.cell oM;obtain⟨x3,e8⟩:∃v,wr.cell? ⟨wc.heap.size,j*7+3,none⟩=some v:=hf.row.cell oM;obtain⟨x4,k0⟩:∃v,wr.cell? ⟨wc.heap.size,j*7+4,none⟩=some v:=hf.row.cell oM;obtain⟨x5,i4⟩:∃v,wr.cell? ⟨wc.heap.size,j*7+5,none⟩=some v:=hf.row.cell oM;obtain⟨x6,l0⟩:∃v,wr.cell? ⟨wc.heap.size,j*7+6,none⟩=some v:=hf.row.cell oM;have i8:=hf.row.frozen;clear hd f6 b5 hf hx a6 N I a8 b3;go_wp2_with fail;go_region_held3 (λw'=>w'.cell? ⟨w.heap.size+1+1,5,none⟩=some (.slice (some wc) Z.length Z.length)/\w'.cell? wr=some (.string x)/\w'.cell? ⟨wr.heap.size,1,none⟩=some (.int .i64 d.kind)/\w'.cell? ⟨wr.heap.size,2,none⟩=some (.bool d.b)/\w'.cell? ⟨wr.heap.size,3,none⟩=some (.int .i64 d.i)/\w'.cell? ⟨wr.heap.size,4,none⟩=some (.string d.t)/\w'.cell? ⟨wr.heap.size,5,none⟩=some (.slice (co j).1.a d.l.length (co j).1.c)/\w'.cell? ⟨wr.heap.size,6,none⟩=some (.slice (co j).2.a d.ok.length (co j).2.c)) (go_keep)
     ((go_at_call 72;refine(f2 _ (((gz wr).alloc _ _).drew)).mono ?_;rintro e w1 ⟨e1,f4,rfl,d0,f3⟩;have j9:=d0.olds))
    have a9:Ext wr w1:=(((gz wr).alloc _ _).drew).trans d0;have hP:∀F:Nat->Prop,¬F wc.heap.size->Agree F w1 (Br w1 wc.heap.size (j*7) x d e1 f4):=λF hF=>Im _ _ _ _ _ _ _ hF
    have c9:=HF.o.step a9 HK.o HD.o (f3.mono λi hi=>⟨Nat.le_trans oO hi.1,hi.2⟩);have e4:=(f1.o.ext a9).agree (hP (λb=>b<wc.heap.size) oM) oM;have f5:=(e7.o.ext a9).agree (hP (λb=>b<wc.heap.size) oM) oM;have e2:∃cs,AE (Br w1 wc.heap.size (j*7) x d e1 f4) (w.heap.size+1) 54 cs/\cs.size=6:=by
     obtain⟨cs,h1,h2⟩:=f0.o;exact⟨cs,(h1.ext a9).agree (hP (λb=>b<wc.heap.size) oM) oM,h2⟩
    have hX:=(HX.o.trans a9).Br (b:=wc.heap.size) oM (j*7) x d e1 f4;have hR:=(b7.o.agree (a9.agree (F:=In (w.heap.size+3) wc.heap.size) oM) c8.o.fits).agree (hP (In (w.heap.size+3) wc.heap.size) oM) c8.o.fits;obtain⟨e3,HR⟩:=Yb c9 hR;clear c9 hP hR;go_wp2_with fail;go_roundw
    case rel=>exact⟨j+1,_,b8,by go_num,hX,e3.o,e4,e2,f5,HR.o⟩
    simp[intOf];omega
   obtain rfl:j=Z.length:=oM
   have c7:=hf.done d3.o (λj x hx=>(e0.o j x hx).2) (n:=w.heap.size+3) hz;have H:Ns (.mk k b i t l Z ov) a7 B f w wr:=
    ⟨⟨some wc,Z.length⟩,wc.heap.size,g,hx,oM,N,I,⟨b3.mono (fun i hi=>⟨hi.1,by have:=hi.2;omega⟩),d4.o⟩,a8.mono (fun i hi=>⟨hi.1,by have:=hi.2;omega⟩),
      .some _ _ _ _ (ao _) (by unfold maxLen;omega) ⟨hz,j7⟩,c7⟩
   clear c7 a8 a6 N I hf hx;go_wp2_with fail;go_meet;exact H
  obtain rfl:Z=[]:=av oM;have hh:decide ((0:Int)<0)=false:=rfl;obtain rfl:ov=[]:=av d3.o;have H:Ns (.mk k b i t l [] []) a7 B f w wc:=
   ⟨Sl.none,0,λ_=>(Sl.none,Sl.none),hx,oM,N,I,⟨b3,d4.o⟩,a8,.nil _ _,RO.nil _ _ _ _ _⟩
  clear a8 a6 N I hx b3;go_wp2_with fail;go_meet;exact H
 clear hx hz a6 N I b3 a8 ho g8 e0 i1 d5 HI p5;rename_i wd;obtain⟨b4,C,g,hx,hz,⟨cs,N,i6⟩,I,⟨b3,-⟩,a8,g0,c7⟩:=hcut;dsimp only[Val.kind,Val.b,Val.i,Val.t,Val.l,Val.ok,Val.ov]at *;obtain⟨p0,p1,p2,p3,p4,p5⟩:=I.c6;obtain⟨a0,a1,a2,a3,a4,a5,rfl⟩:=YD i6;obtain⟨q0,q1,q2,q3,q4,q5⟩:=N.c6;have qf:=N.frozen;obtain⟨HX,H1,b7,c8,d5,i2⟩:=Yg hx N a8 b3 c7 g0;clear hx N I a8 b3 c7 g0;go_wp2_with fail;have hF:∀F:Nat->Prop,¬F (w.heap.size+1)->Agree F wc (BN wc (w.heap.size+1) 0 (.mk k b i t l Z ov) a7 b4):=λF h=>Eo _ _ _ _ _ _ h
 refine eU (v:=.agg #[k,b,i,t,.slice a7.a l.length a7.c,.slice b4.a Z.length b4.c]) (by simp[results,results72,go_sem,q0,q1,q2,q3,q4,q5]) rfl ?_;refine⟨a7,b4,rfl,HX.o.BN (b:=w.heap.size+1) oM 0 (.mk k b i t l Z ov) a7 b4,?_,d4.o⟩;have j1:(BN wc (w.heap.size+1) 0 (.mk k b i t l Z ov) a7 b4).heap.size=wc.heap.size:=Ip _ _ _ _ _ _;have r1:=b7.o.agree (hF (In (w.heap.size+3) wc.heap.size) oM) c8.o.fits;have r2:=d5.o.agree (hF (In (w.heap.size+3) wc.heap.size) oM) d3.o i2.o.fits;have r3:RV (BN wc (w.heap.size+1) 0 (.mk k b i t l Z ov) a7 b4) (In (w.heap.size+3) wc.heap.size) (.mk k b i t l Z ov) a7 b4:=RV.of c8.o i2.o d3.o r1 r2 bk bi bt nl no;show RV (BN wc (w.heap.size+1) 0 (.mk k b i t l Z ov) a7 b4) (In w.heap.size (BN wc (w.heap.size+1) 0 (.mk k b i t l Z ov) a7 b4).heap.size) _ _ _;rw[j1];exact r3.mono λi hi=>⟨oM,hi.2⟩
abbrev e9:=@World.ownsRow_nil
abbrev ff:=@run_underlying
abbrev fp:=@Sem.run_bind
abbrev fr:=@Result.andThen_ok
abbrev fv:=@setRow_heap
abbrev fE:=@Sem.run_pure
abbrev fQ:=@if_true
abbrev fY:=@wpList_plain
abbrev fZ:=@setRow_other
abbrev ge:=@size_zeroCells
def Rd(w:AB)(F:Nat->Prop)(size:Nat)(s:Sl)(n:Nat)(cs:List Value):Prop:=
 ∃b o,BV F s n b o/\cs.length=n*size/\∀j u,cs[j]? = some u->w.cell? ⟨b,o+j,none⟩=some u
variable{s:Sl}{cs:List Value}
def Rd.agree{size:Nat}(h:Rd w F size s n cs)(ha:Agree F w w'):Rd w' F size s n cs:=by
 obtain⟨b,o,h1,h2,Z⟩:=h;refine⟨b,o,h1,h2,λj u N=>(ha.cell (h1.fits ?_)).trans (Z j u N)⟩;rcases Nat.eq_zero_or_pos n with I|I
 .subst I;have:=(ai.1 N).1;omega
 exact I
def Rd.mono{size:Nat}(h:Rd w F size s n cs)(I:∀i,F i->G i):Rd w G size s n cs:=by
 obtain⟨b,o,h1,h2,N⟩:=h;exact⟨b,o,h1.mono I,h2,N⟩
def Rd.nil(w:AB)(F:Nat->Prop)(size:Nat):Rd w F size Sl.none 0 []:=⟨0,0,.nil _ _,oO,λj u h=>by simp at h⟩
def Cb(b o j:Nat):(⟨b,o,none⟩:Addr).add j=⟨b,o+j,none⟩:=by unfold Addr.add;split<;>simp_all
def Rd.WU{w:AB}{base e size n c:Nat}{a:Option Addr}{cs:List Value}(h:w.ownsRow base e size (.slice a n c) n cs):Rd w (In base w.heap.size) size ⟨a,c⟩ n cs:=by
 rcases h.2 with⟨I,hn⟩ |⟨g,a2,a1,I,hg,hh,Z,N,a0,ht⟩
 ·simp only [Value.slice.injEq] at I
  obtain⟨rfl,rfl,rfl⟩:=I;have:cs=[]:=av (by simpa using h.1);subst this;exact Rd.nil _ _ _
 simp only[Value.slice.injEq]at I;obtain⟨rfl,-,rfl⟩:=I;refine⟨g,0,.some _ _ _ _ Z N ⟨hg,fU hh⟩,h.1,λj u hj=>?_⟩;have:=h.cells (g:=g) rfl j u hj;rw[aF];rw[Addr.add]at this;split at this
 .rename_i h0;subst h0;exact this
 simpa using this
structure Wr(w w':AB)(row:Option Nat):Prop where
 grown:w.grownBy w' row
 fz:∀b o,w'.frozen? ⟨b,o,none⟩=w.frozen? ⟨b,o,none⟩
def Wr.refl(w:AB)(row:Option Nat):Wr w w row:=⟨⟨rfl,rfl,rfl,ao _,λ_ _ _=>rfl⟩,λ_ _=>rfl⟩
def Wr.below{row:Option Nat}(h:Wr w w' row)(I:B<=w.heap.size)(N:∀k,row=some k->B<=k):Below B w w':=(Below.refl B w).grown h.grown I N
def Ext.wr{a w w':AB}{row:Option Nat}(h:Ext a w)(k:Wr w w' row)(N:∀i,row=some i->a.heap.size<=i):Ext a w':=
 ⟨h.below.trans (k.below h.size N),λb o I=>(k.fz b o).trans (h.free b o I)⟩
def Wr.agree{row:Option Nat}(h:Wr w w' row)(hF:∀i,F i->i<w.heap.size)(N:∀k,row=some k->¬F k):Agree F w w':=
 λb I=>h.grown.block b (hF b I) (λe=>N b e.symm I)
def VR(w:AB)(c:Array Value)(t:TypeId)(b o:Nat):(w.alloc (.cells c t)).frozen? ⟨b,o,none⟩=w.frozen? ⟨b,o,none⟩:=by
 by_cases h:b=w.heap.size
 .subst h;rw[frozen_none (ao _)];simp
 exact World.frozen?_alloc_old w _ _ h
def Rm(w:AB)(g:Nat)(cs:Array Value)(b o:Nat):(w.setRow g cs).frozen? ⟨b,o,none⟩=w.frozen? ⟨b,o,none⟩:=by
 by_cases h:g=b
 ·subst h
  simp only[World.frozen?,World.setRow,Array.getElem?_modify,if_true];cases I:w.heap[g]? with
  |none=>rfl
  |some ob=>cases ob<;>rfl
 simp only[World.frozen?,World.setRow,Array.getElem?_modify,if_neg h]
def Sl.row(s:Sl):Option Nat:=s.a.map Addr.block
def VX{α:Type}(C xs ys:List α)(p q z a b c d t:Nat)(Z:xs=C.take q)(N:ys.length=z)(a0:p<=q)(hq:q+z<=C.length)(ha:a=p+z)(hb:b=a+(xs.drop p).length)(hc:c=p)(hd:d=p+ys.length)(ht:t=q+z) :
  ((C.take a++xs.drop p++C.drop b).take c++ys++(C.take a++xs.drop p++C.drop b).drop d).take t=xs.take p++ys++xs.drop p:=by
 subst ha hb hc hd ht;have I:xs.length=q:=by rw[Z,au];omega
 have h1:(C.take (c+z)).length=c+z:=by rw[au];omega
 have e1:(C.take (c+z)++xs.drop c++C.drop (c+z+(xs.drop c).length)).take c=xs.take c:=by
  rw[aU,bn oM,cW,Z,cW];congr 1;omega
 have e2:(C.take (c+z)++xs.drop c++C.drop (c+z+(xs.drop c).length)).drop (c+ys.length)=xs.drop c++C.drop (c+z+(xs.drop c).length):=by
  rw[aU,N,List.drop_append,h1,cE,dt,bS oM,aG]
 rw[e1,e2,<-aU,bn (by simp[I,N];omega),aM (by simp[I,N];omega)]
def UR{α:Type}(C xs ys:List α)(p q z a b c d t:Nat)(hp:C.take p=xs.take p)(I:xs.length=q)(N:ys.length=z)(a0:p<=q)(hq:q+z<=C.length)(hc:c=p+z)(hd:d=c+(xs.drop p).length)(ha:a=p)(hb:b=p+ys.length)(Z:t=q+z) :
  ((C.take a++ys++C.drop b).take c++xs.drop p++(C.take a++ys++C.drop b).drop d).take t=xs.take p++ys++xs.drop p:=by
 subst ha hb hc hd Z;have h1:(C.take a).length=a:=by rw[au];omega
 have e1:(C.take a++ys++C.drop (a+ys.length)).take (a+z)=xs.take a++ys:=by
  rw[bn (by simp only[List.length_append,h1,N];omega),aM (by simp only[List.length_append,h1,N];omega),hp]
 rw[e1,bn (by simp[I,N];omega),aM (by simp[I,N];omega)]
section
variable{P : Program}(w : AB)
def Uh(base:Nat)(t ty e:TypeId)(i:TypeInfo)(z:Value)(size a8:Nat)(ht:P.underlying t=some (.slice e))(hi:P.info? e=some i)(hz:i.zero=some z)
  (b4:i.size=size) (d5:i.bytes=a8) (d3:z.cells.size=size) (_hsz:0<size)
  (s:Sl) (n:Nat) (xs:List Value) (N:w.ownsRow base e size (.slice s.a n s.c) n xs)
  (F:Nat->Prop) (sx:Sl) (m:Nat) (I:List Value) (c7:Rd w F size sx m I) (h1:∀u∈I,u.oneCell'=true)
  (b7:n+m<=maxLen) (a3:(n+m)*a8<=140737488355328) (b3:base<=w.heap.size) :
  ∃(s':Sl) (w':AB),(Builtin.append_ #[t,t] ty #[.slice s.a n s.c,.slice sx.a m sx.c]).run P w=.ok (.slice s'.a (n+m) s'.c) w'/\
   w'.ownsRow base e size (.slice s'.a (n+m) s'.c) (n+m) (xs++I)/\Wr w w' s.row/\(s'.a=s.a\/s'.a=some ⟨w,0,none⟩/\Wr w w' none):=by
 subst b4;subst d5;have c9:n+m<=9223372036854775807:=by simp only[maxLen]at b7;omega
 obtain⟨b,o,hs,hl,hc⟩:=c7;have a4:(xs++I).length=(n+m)*i.size:=by rw[aj,N.1,hl,eI]
 have a7:∀(a5:Nat),0<n+m->
   (w.drew.alloc (.cells (xs.toArray++I.toArray++Builtin.zeroCells z.cells (grownCap w (n+m) a5 e -(n+m))) e)).ownsRow base e i.size
     (.slice (some w) (n+m) (grownCap w (n+m) a5 e)) (n+m) (xs++I):=by
  intro a5 _;have d4:=grownCap_ge w (n+m) a5 e;have b9:grownCap w (n+m) a5 e<=maxLen:=grownCap_le_maxLen w (n+m) a5 e b7;refine⟨a4,.inr ⟨w,_,_,rfl,b3,fP w.drew _,d4,b9,?_,?_⟩⟩
  ·simp only [Array.size_append,List.size_toArray,size_zeroCells,d3,N.1,hl,←Nat.add_mul]
   congr 1;omega
  simp only[Array.toList_append,List.append_assoc];rw[<-aU,<-a4];exact dL
 have wr:∀(c:Array Value) (row:Option Nat),Wr w (w.drew.alloc (.cells c e)) row:=λc row=>
  ⟨⟨rfl,rfl,rfl,oO,λk hk _=>fe w.drew _ k hk⟩,λb o=>VR w.drew c e b o⟩
 cases hs with
 | nil=>
   have hn:I=[]:=av (by simpa using hl);subst hn;refine⟨s,w,?_,by simpa using N,Wr.refl _ _,.inl rfl⟩;rcases N.2 with⟨hv,c8⟩ |⟨g,a0,a6,hv,_,_,a9,_⟩
   ·simp only [Value.slice.injEq] at hv
    obtain⟨ha,rfl,Z⟩:=hv;rw[ha,Z];simp[Builtin.append_,run_underlying ht,sizeOf,typeInfo,hi,Builtin.lenOf,Builtin.firstCells]
   simp only[Value.slice.injEq]at hv;obtain⟨ha,-,Z⟩:=hv;rw[ha,Z];simp[Builtin.append_,run_underlying ht,sizeOf,typeInfo,hi,Builtin.lenOf,Builtin.firstCells,a9,storeCells]
 | zero ad=>
   have hn:I=[]:=av (by simpa using hl);subst hn;refine⟨s,w,?_,by simpa using N,Wr.refl _ _,.inl rfl⟩;rcases N.2 with⟨hv,c8⟩ |⟨g,a0,a6,hv,_,_,a9,_⟩
   ·simp only [Value.slice.injEq] at hv
    obtain⟨ha,rfl,Z⟩:=hv;rw[ha,Z];simp[Builtin.append_,run_underlying ht,sizeOf,typeInfo,hi,Builtin.lenOf,Builtin.firstCells,loadCells,loadCellsFrom]
   simp only[Value.slice.injEq]at hv;obtain⟨ha,-,Z⟩:=hv;rw[ha,Z];simp[Builtin.append_,run_underlying ht,sizeOf,typeInfo,hi,Builtin.lenOf,Builtin.firstCells,a9,loadCells,loadCellsFrom,storeCells]
 | some _ c _ _ hmc b9 hb=>
   have a1:∀j u,I[j]? = some u->w.cell? ((⟨b,o,none⟩:Addr).add j)=some u:=λj u hj=>by rw[Cb];exact hc j u hj
   rcases N.2 with⟨hv,c8⟩ |⟨g,a0,a6,hv,d6,hg,a9,b6,d0,b0⟩
   ·simp only [Value.slice.injEq] at hv
    obtain⟨ha,rfl,Z⟩:=hv;have hx:xs=[]:=av (by simpa using N.1);subst hx;by_cases hm:m=0
    ·subst hm
     have hn:I=[]:=av (by simpa using hl);subst hn;refine⟨Sl.none,w,?_,e9 w base e i.size,Wr.refl _ _,.inl ha.symm⟩;rw[ha,Z];simp[Builtin.append_,run_underlying ht,sizeOf,typeInfo,hi,Builtin.lenOf,Builtin.firstCells,loadCells,loadCellsFrom]
    have hr:=run_append_nil (P:=P) w t ty e i z ht hi hz ⟨b,o,none⟩ m c I hl a1 oM oM (by have hb:=a3;simp only[Nat.zero_add]at hb;omega);have c6:=a7 0 oM;simp only[Nat.zero_add,List.nil_append,Array.empty_append]at c6 ⊢;refine⟨⟨some w,grownCap w m 0 e⟩,_,?_,c6,wr _ _,.inr ⟨rfl,wr _ _⟩⟩;rw[ha,Z];exact hr
   simp only[Value.slice.injEq]at hv;obtain⟨ha,-,Z⟩:=hv;by_cases a2:n+m<=a0
   ·have b8:n*i.size+I.length≤a6.size:=by rw [hl,d0,←eI];exact ci _ a2
    have hr:=run_append_room (P:=P) w t ty e i ht hi g n a0 a6 hg ⟨b,o,none⟩ m c I hl a1 h1 a2 b8;refine⟨⟨some g,a0⟩,_,by rw[ha,Z];exact hr,⟨a4,.inr ⟨g,a0,_,rfl,d6,fv w g a6 _ e _ hg,a2,b6,?_,?_⟩⟩,
     ⟨⟨rfl,rfl,rfl,oO,λk _ hk=>fZ w g k _ (λe=>hk (by simp[Sl.row,ha,e]))⟩,λb o=>Rm _ _ _ _ _⟩,.inl ha.symm⟩
    ·simp only [List.size_toArray,List.length_append,List.length_take,List.length_drop,Array.length_toList]
     omega
    rw[b0,<-a4];exact dL
   rw[ha,Z]at N;have b5:∀j u,xs[j]? = some u->w.cell? ((g:Addr).add j)=some u:=N.cells (g:=g) rfl;have hr:=run_append_grow (P:=P) w t ty e i z ht hi hz g n a0 xs N.1 b5 ⟨b,o,none⟩ m c I hl a1 oM oM (growslice_fits oM a3);refine⟨⟨some w,grownCap w (n+m) a0 e⟩,_,by rw[ha,Z];exact hr,a7 a0 oM,wr _ _,.inr ⟨rfl,wr _ _⟩⟩
def JE{o:Oper}{a:Act}{K:Act->AB->Prop}{Q:Exit->Act->AB->Prop}(s' x:Operand)(t:TypeId)
  (ho:o.op=.call { callee:=.builtin .append,args:=#[s',x],argTypes:=#[t,t] })
  (base:Nat) (e:TypeId) (i:TypeInfo) (z:Value) (size I:Nat) (ht:P.underlying t=some (.slice e)) (hi:P.info? e=some i) (hz:i.zero=some z)
  (a1:i.size=size) (a6:i.bytes=I) (a5:z.cells.size=size) (a4:0<size)
  (s:Sl) (n:Nat) (xs:List Value) (hs:a.eval s'=.slice s.a n s.c) (a2:w.ownsRow base e size (.slice s.a n s.c) n xs)
  (F:Nat->Prop) (sx:Sl) (m:Nat) (N:List Value) (hx:a.eval x=.slice sx.a m sx.c) (a3:Rd w F size sx m N) (h1:∀u∈N,u.oneCell'=true)
  (a7:n+m<=maxLen) (Z:(n+m)*I<=140737488355328) (a0:base<=w.heap.size)
  (h:∀(s':Sl) (w':AB),w'.ownsRow base e size (.slice s'.a (n+m) s'.c) (n+m) (xs++N)->Wr w w' s.row->(s'.a=s.a\/s'.a=some ⟨w,0,none⟩/\Wr w w' none)->K (a.put o.dst (.slice s'.a (n+m) s'.c)) w'):o.wp P a w K Q:=by
 obtain⟨v',w',hr,h2,h3,h4⟩:=Uh (P:=P) w base t o.type e i z size I ht hi hz a1 a6 a5 a4 s n xs a2 F sx m N a3 h1 a7 Z a0;unfold Oper.wp execOp;simp only[ho,resolve,invoke,builtin,Sem.run_bind,Sem.run_pure,Result.andThen_ok,List.map_toArray,List.map_cons,List.map_nil,hs,hx,hr];exact h v' w' h2 h3 h4
def Bq{ops:Array Oper}{rest:List Oper}{o:Oper}{a:Act}{Q:Exit->Act->AB->Prop}(a5:o.guard=none)(s' x:Operand)(t:TypeId)
  (ho:o.op=.call { callee:=.builtin .append,args:=#[s',x],argTypes:=#[t,t] })
  (base:Nat) (e:TypeId) (i:TypeInfo) (z:Value) (size I:Nat) (ht:P.underlying t=some (.slice e)) (hi:P.info? e=some i) (hz:i.zero=some z)
  (a1:i.size=size) (a7:i.bytes=I) (a6:z.cells.size=size) (a4:0<size)
  (s:Sl) (n:Nat) (xs:List Value) (hs:a.eval s'=.slice s.a n s.c) (a2:w.ownsRow base e size (.slice s.a n s.c) n xs)
  (F:Nat->Prop) (sx:Sl) (m:Nat) (N:List Value) (hx:a.eval x=.slice sx.a m sx.c) (a3:Rd w F size sx m N) (h1:∀u∈N,u.oneCell'=true)
  (a8:n+m<=maxLen) (Z:(n+m)*I<=140737488355328) (a0:base<=w.heap.size)
  (h:∀(s':Sl) (w':AB),w'.ownsRow base e size (.slice s'.a (n+m) s'.c) (n+m) (xs++N)->Wr w w' s.row->(s'.a=s.a\/s'.a=some ⟨w,0,none⟩/\Wr w w' none)->wpList P ops Q rest (a.put o.dst (.slice s'.a (n+m) s'.c)) w'):wpList P ops Q (o::rest) a w:=
 fY a5 λ_ hK=>JE w s' x t ho base e i z size I ht hi hz a1 a7 a6 a4 s n xs hs a2 F sx m N hx a3 h1 a8 Z a0 λv' w' h2 h3 h4=>hK _ _ (h v' w' h2 h3 h4)
end
section
variable{P : Program}(w : AB)
def Fa(dT sT ty N:TypeId)(size:Nat)(g o Z a5:Nat)(sx:Sl)(m:Nat)(I:Array Value)(t:TypeId)(cs:List Value)
  (hu:P.underlying dT=some (.slice N)) (hs:(P.info? N).map (·.size)=some size)
  (hg:w.heap[g]? = some (.cells I t (0,0))) (hn:cs.length=Nat.min m Z*size) (a6:sx.a=none->cs=[])
  (a7:∀b o',sx.a=some ⟨b,o',none⟩->∀j v,cs[j]? = some v->w.cell? ⟨b,o'+j,none⟩=some v) (a0:∀a,sx.a=some a->a.spot=none) (a2:o+cs.length<=I.size) (h1:∀v∈cs,v.oneCell'=true) :
  (Builtin.copy_ #[dT,sT] ty #[.slice (some ⟨g,o,none⟩) Z a5,.slice sx.a m sx.c]).run P w =
    .ok (goInt (Nat.min m Z)) (w.setRow g (I.toList.take o++cs++I.toList.drop (o+cs.length)).toArray):=by
 have a1:=run_storeCells_at P g o t cs 0 I w hg (by simpa using a2) h1;obtain⟨i,hq,hi⟩:∃i,P.info? N=some i/\i.size=size:=by
  cases hq:P.info? N with
  |none=>simp[hq]at hs
  |some i=>exact⟨i,rfl,by simpa[hq]using hs⟩
 obtain⟨sa,sc⟩:=sx;cases sa with
 | none=>
   have hc:=a6 rfl;subst hc;have a3:(storeCells ⟨g,o,none⟩ []).run P w=.ok () (w.setRow g (I.toList.take o++[]++I.toList.drop (o+0)).toArray):=by simpa using a1
   simp[Builtin.copy_,run_underlying hu,Builtin.lenOf,Builtin.firstCells,sizeOf,typeInfo,hq,a3]
 | some a=>
   obtain⟨b,o',sp⟩:=a;have a4:=a0 _ rfl;dsimp only at a4;subst a4;have hl:=run_firstCells_some (P:=P) w size (Nat.min m Z) ⟨b,o',none⟩ m sc cs hn (λj v hj=>by rw[Cb];exact a7 b o' rfl j v hj);simp only[Nat.add_zero]at a1;simp[Builtin.copy_,run_underlying hu,Builtin.lenOf,sizeOf,typeInfo,hq,hi,hl,a1]
def P3{o:Oper}{a:Act}{K:Act->AB->Prop}{Q:Exit->Act->AB->Prop}(d s:Operand)(t N:TypeId)
  (Z:o.op=.call { callee:=.builtin .copy,args:=#[d,s],argTypes:=#[t,N] }) (v u:Value) (hd:a.eval d=v) (hs:a.eval s=u) {I:Value} {w':AB}
  (hr:(Builtin.copy_ #[t,N] o.type #[v,u]).run P w=.ok I w') (h:K (a.put o.dst I) w'):o.wp P a w K Q:=by
 unfold Oper.wp execOp;simp only[Z,resolve,invoke,builtin,Sem.run_bind,Sem.run_pure,Result.andThen_ok,List.map_toArray,List.map_cons,List.map_nil,hd,hs,hr];exact h
def JU{ops:Array Oper}{rest:List Oper}{o:Oper}{a:Act}{Q:Exit->Act->AB->Prop}(N:o.guard=none)(d s:Operand)(t I:TypeId)
  (ho:o.op=.call { callee:=.builtin .copy,args:=#[d,s],argTypes:=#[t,I] }) (v u:Value) (hd:a.eval d=v) (hs:a.eval s=u) {Z:Value} {w':AB}
  (hr:(Builtin.copy_ #[t,I] o.type #[v,u]).run P w=.ok Z w') (h:wpList P ops Q rest (a.put o.dst Z) w'):wpList P ops Q (o::rest) a w:=
 fY N λ_ hK=>P3 w d s t I ho v u hd hs hr (hK _ _ h)
def J7{ops:Array Oper}{o:Oper}{a:Act}{K:Act->AB->Prop}{Q:Exit->Act->AB->Prop}{E:Prop}(N:o.guard=none)(d s:Operand)(t I:TypeId)
  (ho:o.op=.call { callee:=.builtin .copy,args:=#[d,s],argTypes:=#[t,I] }) (v u:Value) (hd:a.eval d=v) (hs:a.eval s=u) {Z:Value} {w':AB}
  (hr:(Builtin.copy_ #[t,I] o.type #[v,u]).run P w=.ok Z w') (h:K (a.put o.dst Z) w') :
  if Region.wanted o (yielded ops a.tmps)=true then Oper.wp P o a w K Q else E:=by
 have hw:Region.wanted o (yielded ops a.tmps)=true:=by simp[Region.wanted,N]
 rw[eN hw];exact P3 w d s t I ho v u hd hs hr h
def wpList_append_run{ops:Array Oper}{rest:List Oper}{o:Oper}{a:Act}{Q:Exit->Act->AB->Prop}(I:o.guard=none)(d s:Operand)(t Z:TypeId)
  (ho:o.op=.call { callee:=.builtin .append,args:=#[d,s],argTypes:=#[t,Z] }) (v u:Value) (hd:a.eval d=v) (hs:a.eval s=u) {N:Value} {w':AB}
  (hr:(Builtin.append_ #[t,Z] o.type #[v,u]).run P w=.ok N w') (h:wpList P ops Q rest (a.put o.dst N) w'):wpList P ops Q (o::rest) a w:=by
 refine fY I λ_ hK=>?_
 unfold Oper.wp execOp;simp only[ho,resolve,invoke,builtin,Sem.run_bind,Sem.run_pure,Result.andThen_ok,List.map_toArray,List.map_cons,List.map_nil,hd,hs,hr];exact hK _ _ h
def Wr.setRow{g:Nat}(cs:Array Value):Wr w (w.setRow g cs) (some g):=
 ⟨⟨rfl,rfl,rfl,oO,λk _ I=>fZ w g k _ (λe=>I (by simp[e]))⟩,λb o=>Rm _ _ _ _ _⟩
def Wr.trans{a b c:AB}{r:Option Nat}(h:Wr a b r){N:Option Nat}(k:Wr b c N)(hr:∀i,N=some i->r=some i\/a.heap.size<=i):Wr a c r:=
 ⟨⟨k.grown.os.trans h.grown.os,k.grown.tape.trans h.grown.tape,k.grown.output.trans h.grown.output,an h.grown.size k.grown.size,fun i hi I=>(k.grown.block i (ab hi h.grown.size) (fun e=>by
   rcases hr i e.symm with Z|Z
   .exact I Z.symm
   omega)).trans (h.grown.block i hi I)⟩,λb o=>(k.fz b o).trans (h.fz b o)⟩
def Wr.drew{a b:AB}{r:Option Nat}(h:Wr a b r):Wr a b.drew r:=⟨⟨h.grown.os,h.grown.tape,h.grown.output,h.grown.size,h.grown.block⟩,h.fz⟩
def Wr.alloc{a b:AB}{r:Option Nat}(h:Wr a b r)(c:Array Value)(t:TypeId):Wr a (b.alloc (.cells c t)) r:=
 ⟨⟨h.grown.os,h.grown.tape,h.grown.output,by have:=h.grown.size;simp;omega,λi hi I=>(fe b _ i (ab hi h.grown.size)).trans (h.grown.block i hi I)⟩,λN o=>(VR b c t N o).trans (h.fz N o)⟩
end
abbrev gF:=@Rd.WU
abbrev gJ:=@Wr.setRow
def It(n:Nat)(p:Nat->Bool)(w:AB)(e:AC)(w':AB):Prop:=
 ∃k:Nat,e=.returned (.int .i64 k)/\k<=n/\(∀i,i<k->p i=false)/\(∀i,k<=i->i<n->p i=true)/\Ext w w'
def Jy(g:Nat)(v1 v2:Value)(n:Nat)(p:Nat->Bool)(w:AB)(eg:∀args w,(callFunc g args).run prog w=.ok (.enter g args) w)(hn:n<4611686018427387904)
  (hg:∀(i:Nat) (W:AB),i<n->Ext w W->Calls prog g #[.int .i64 i,v1,v2] W λe w'=>e=.returned (.bool (p i))/\Ext W w')
  (hm:∀i j,i<=j->j<n->p i=true->p j=true) :
  Calls prog 78 #[.int .i64 n,.func (.func g) #[] #[v1,v2]] w (It n p w):=by
 obtain⟨HG,HM⟩:=Yb hg hm;clear hg hm;go_in;go_wp2_with fail;go_loopw[5,6] (λi j wr=>∃a b:Nat,i=.int .i64 a/\j=.int .i64 b/\a<=b/\b<=n/\(∀i,i<a->p i=false)/\(∀i,b<=i->i<n->p i=true)/\Ext w wr) (λi j _=>(intOf j).toNat -(intOf i).toNat)
 case atStart=>exact⟨0,n,rfl,rfl,aw _,ao _,λ_ h=>absurd h oM,λ_ h h'=>absurd h oM,gz _⟩
 obtain⟨a,b,rfl,rfl,a6,a2,Z,a0,hx⟩:=hrel;obtain⟨a1,a3⟩:=Yb Z a0;clear Z a0;by_cases a7:a<b
 ·go_wp2_with fail
  rw[show((a:Int)+b)/2=(((a+b)/2:Nat):Int)from oM];have hc:=HG.o ((a+b)/2) wr oM hx;generalize hh:(a+b)/2=h at *;have h1:a<=h:=oM
  have h2:h<b:=oM
  clear hh;cases N:p h with
  | false=>
    rw[N]at hc;have HP:=hY N;clear N;refine hc.mono ?_;rintro e w1 ⟨rfl,I⟩;go_wp2_with fail;go_roundw
    case rel=>exact⟨h+1,b,by go_num,rfl,oM,a2,λi hi=>by
     by_cases a4:p i=true
     ·have:=HM.o i h oM oM a4
      rw[HP.o]at this;cases this
     simpa using a4,a3.o,hx.trans I⟩
    simp[intOf];omega
  | true=>
    rw[N]at hc;have HP:=hY N;clear N;refine hc.mono ?_;rintro e w1 ⟨rfl,I⟩;go_wp2_with fail;go_roundw
    case rel=>exact⟨a,h,rfl,rfl,h1,oM,a1.o,λi hi a5=>HM.o h i hi a5 HP.o,hx.trans I⟩
    simp[intOf];omega
 obtain rfl:a=b:=oM
 go_wp2_with fail;go_ret;exact⟨a,rfl,a2,a1.o,a3.o,hx⟩
abbrev eP:=@beq_eq_false_iff_ne
abbrev eY:=@ByteArray.toList_eq
abbrev fb:=@Bool.and_eq_true
abbrev fh:=@decide_eq_true_eq
abbrev fG:=@if_false
abbrev klt(a b:AA):Bool:=Op.bytesLess a.toList b.toList
def SZ:∀a:List UInt8,Op.bytesLess a a=false
 |[]=>rfl
 |a::x=>by simp[Op.bytesLess,SZ x]
def PZ:∀a b c:List UInt8,Op.bytesLess a b=true->Op.bytesLess b c=true->Op.bytesLess a c=true
 |_,_,[],_,h=>by simp[Op.bytesLess]at h
 |_,[],_::_,h,_=>by simp[Op.bytesLess]at h
 |[],_::_,_::_,_,_=>rfl
 | a :: x,b :: y,c :: z,h,I=>by
   simp only[Op.bytesLess,Bool.or_eq_true,Bool.and_eq_true,decide_eq_true_eq,beq_iff_eq]at h I ⊢;rcases h with h |⟨rfl,h⟩<;>rcases I with I |⟨rfl,I⟩
   .exact .inl (UInt8.lt_trans h I)
   .exact .inl h
   .exact .inl I
   exact .inr ⟨rfl,PZ x y z h I⟩
def VV:∀a b:List UInt8,Op.bytesLess a b=false->Op.bytesLess b a=false->a=b
 |[],[],_,_=>rfl
 |[],_::_,h,_=>by simp[Op.bytesLess]at h
 |_::_,[],_,h=>by simp[Op.bytesLess]at h
 | a :: x,b :: y,h,h'=>by
   simp only[Op.bytesLess,Bool.or_eq_false_iff,decide_eq_false_iff_not,Bool.and_eq_false_iff,beq_eq_false_iff_ne]at h h';have e:a=b:=by
    have h1:=h.1;have h2:=h'.1;exact UInt8.le_antisymm (UInt8.not_lt.1 h2) (UInt8.not_lt.1 h1)
   subst e;have h1:=h.2.resolve_left oO;have h2:=h'.2.resolve_left oO;rw[VV x y h1 h2]
def toList_inj{a b:AA}(h:a.toList=b.toList):a=b:=by
 rw[eY,eY]at h;cases a;cases b;simp only[ByteArray.mk.injEq];exact Array.ext' h
def BI(a:AA):klt a a=false:=SZ _
def Ck{a b c:AA}(h:klt a b=true)(k:klt b c=true):klt a c=true:=PZ _ _ _ h k
def E6{a b:AA}(h:klt a b=false)(k:klt b a=false):a=b:=toList_inj (VV _ _ h k)
def Ej{a b:AA}(h:klt a b=true):klt b a=false:=by
 cases I:klt b a
 .rfl
 have:=Ck h I;rw[BI]at this;cases this
def Ie{a b:AA}(h:klt a b=false)(I:a≠b):klt b a=true:=by
 cases N:klt b a
 .exact absurd (E6 h N) I
 rfl
def My{a b c:AA}(h:klt b a=false)(k:klt b c=true):klt a c=true:=by
 cases I:klt a b
 .rw [E6 I h];exact k
 exact Ck I k
def SO{a b c:AA}(h:klt a b=true)(k:klt c b=false):klt a c=true:=by
 cases I:klt b c
 .rw [<-E6 I k];exact h
 exact Ck h I
def beq_toList(a b:AA):(a.toList==b.toList)=decide (a=b):=by
 by_cases h:a=b
 .subst h;simp
 simp only[h,decide_false,beq_eq_false_iff_ne]
 exactλe=>h (toList_inj e)
def nF(a b:AA):(!(Op.bytesLess a.toList b.toList||a.toList==b.toList))=klt b a:=by
 cases h:klt b a
 ·cases I:klt a b
  .rw [E6 h I];simp
  show(!(klt a b||_))=false;rw[I];rfl
 have h1:=Ej h;have h2:a≠b:=by rintro rfl;rw[BI]at h;cases h
 show(!(klt a b||_))=true;rw[h1,beq_toList];simp[h2]
abbrev AD:=AA × Val
def Sorted(es:List AD):Prop:=es.Pairwise λa b=>klt a.1 b.1=true
def AU:List AD->AA->Val->List AD
 |[],k,v=>[(k,v)]
 |e::es,k,v=>if klt e.1 k then e::AU es k v else if e.1=k then(k,v)::es else(k,v)::e::es
def Ac:List AD->AA->List AD
 |[],_=>[]
 |e::es,k=>if klt e.1 k then e::Ac es k else if e.1=k then es else e::es
def AH:List AD->AA->Option Val
 |[],_=>none
 |e::es,k=>if e.1=k then some e.2 else AH es k
def J6{A:List AD}{k:AA}(h:∀e∈A,klt e.1 k=true)(B:List AD)(v:Val):AU (A++B) k v=A++AU B k v:=by
 induction A with
 |nil=>rfl
 | cons a A ih=>
   have N:=h a (aD ..);simp only[List.cons_append,AU,N,if_true];rw[ih λe I=>h e (aI _ I)]
def N'{C:List AD}{k:AA}(h:∀e∈C,klt k e.1=true)(v:Val):∀B:List AD,AU (B++C) k v=AU B k v++C
 | []=>by
   cases C with
   |nil=>rfl
   | cons c C=>
     have I:=h c (aD ..);have h1:=Ej I;have h2:c.1≠k:=by rintro rfl;rw[BI]at I;cases I
     simp[AU,h1,h2]
 | b :: B=>by
   simp only[List.cons_append,AU];split
   .rw [N' h v B,aJ]
   split<;>rfl
def nQ{B:List AD}{k:AA}(h:∀e∈B,klt e.1 k=false)(v:Val):AU B k v=(k,v) ::(if B.head?.map Prod.fst=some k then B.tail else B):=by
 cases B with
 |nil=>rfl
 | cons b B=>
   have I:=h b (aD ..);simp only[AU,I,Bool.false_eq_true,if_false,List.head?_cons,Option.map_some,Option.some.injEq,List.tail_cons];split<;>rfl
def OF{A:List AD}{k:AA}(h:∀e∈A,klt e.1 k=true)(B:List AD):Ac (A++B) k=A++Ac B k:=by
 induction A with
 |nil=>rfl
 | cons a A ih=>
   have N:=h a (aD ..);simp only[List.cons_append,Ac,N,if_true];rw[ih λe I=>h e (aI _ I)]
def MV{C:List AD}{k:AA}(h:∀e∈C,klt k e.1=true):∀B:List AD,Ac (B++C) k=Ac B k++C
 | []=>by
   cases C with
   |nil=>rfl
   | cons c C=>
     have I:=h c (aD ..);have h1:=Ej I;have h2:c.1≠k:=by rintro rfl;rw[BI]at I;cases I
     simp[Ac,h1,h2]
 | b :: B=>by
   simp only[List.cons_append,Ac];split
   .rw [MV h B,aJ]
   split<;>rfl
def nR{B:List AD}{k:AA}(h:∀e∈B,klt e.1 k=false):Ac B k=if B.head?.map Prod.fst=some k then B.tail else B:=by
 cases B with
 |nil=>simp[Ac]
 | cons b B=>
   have I:=h b (aD ..);simp only[Ac,I,Bool.false_eq_true,if_false,List.head?_cons,Option.map_some,Option.some.injEq,List.tail_cons]
def JA{B:List AD}{k:AA}(h:∀e∈B,e.1≠k):AH B k=none:=by
 induction B with
 |nil=>rfl
 |cons b B ih=>simp only[AH,h b (List.mem_cons_self ..),if_false];exact ih λe I=>h e (aI _ I)
def VG{A:List AD}{k:AA}(h:∀e∈A,klt e.1 k=true)(B:List AD):AH (A++B) k=AH B k:=by
 induction A with
 |nil=>rfl
 | cons a A ih=>
   have I:=h a (aD ..);have h2:a.1≠k:=by rintro rfl;rw[BI]at I;cases I
   simp only[List.cons_append,AH,h2,if_false];exact ih λe N=>h e (aI _ N)
def Tj{C:List AD}{k:AA}(h:∀e∈C,klt k e.1=true):∀B:List AD,AH (B++C) k=AH B k
 |[]=>JA λe I=>by rintro rfl;have:=h e I;rw[BI]at this;cases this
 |b::B=>by simp only[List.cons_append,AH];rw[Tj h B]
def MP{es:List AD}{k:AA}{v:Val}{x:AD}(h:x∈AU es k v):x=(k,v)\/x∈es:=by
 induction es with
 |nil=>simpa[AU]using h
 | cons e es ih=>
   simp only[AU]at h;split at h
   ·rcases aH.1 h with h | h
    .exact .inr (by simp[h])
    rcases ih h with h|h
    .exact .inl h
    exact .inr (aI _ h)
   split at h
   ·rcases aH.1 h with h | h
    .exact .inl h
    exact .inr (aI _ h)
   rcases aH.1 h with h|h
   .exact .inl h
   exact .inr h
def EU{es:List AD}(h:Sorted es)(k:AA)(v:Val):Sorted (AU es k v):=by
 induction es with
 |nil=>exact List.pairwise_singleton ..
 | cons e es ih=>
   have Z:=aZ.1 h;simp only[AU];split
   ·rename_i I
    refine aZ.2 ⟨λx N=>?_,ih Z.2⟩;rcases MP N with rfl|N
    .exact I
    exact Z.1 x N
   rename_i I;have I:klt e.1 k=false:=by simpa using I
   split
   ·rename_i he
    subst he;exact aZ.2 ⟨λx N=>Z.1 x N,Z.2⟩
   rename_i he;have hk:=Ie I he;refine aZ.2 ⟨λx N=>?_,h⟩;rcases aH.1 N with rfl|N
   .exact hk
   exact Ck hk (Z.1 x N)
def Fz(es:List AD)(k:AA):(Ac es k).Sublist es:=by
 induction es with
 |nil=>exact .slnil
 | cons e es ih=>
   simp only[Ac];split
   .exact ih.cons_cons _
   split
   .exact List.sublist_cons_self ..
   exact List.Sublist.refl _
def EI{es:List AD}(h:Sorted es)(k:AA):Sorted (Ac es k):=dm (Fz es k) h
def PT:Nat->Type
 |0=>Nat × List AD
 |h+1=>Nat × List (PT h)
def addr:(h:Nat)->PT h->Nat
 |0,t=>t.1
 |_+1,t=>t.1
def size:(h:Nat)->PT h->Nat
 |0,t=>t.2.length
 |_+1,t=>t.2.length
def ents:(h:Nat)->PT h->List AD
 |0,t=>t.2
 |h+1,t=>t.2.flatMap (ents h)
def thin:(h:Nat)->PT h->Bool
 |0,_=>false
 |h+1,t=>t.2.any λk=>thin h k||decide (size h k<4)
def Aj:(h:Nat)->PT h->Prop
 |0,t=>t.2.length<=8
 |h+1,t=>2<=t.2.length/\t.2.length<=8/\∀k∈t.2,Aj h k/\4<=size h k
def Az(es:List AD):AA:=(es.head?.map Prod.fst).getD ByteArray.empty
def BZ(es:List AD):AA:=(es.getLast?.map Prod.fst).getD ByteArray.empty
def ER:∀(h:Nat) (t:PT h),Aj h t->1<=size h t->0<(ents h t).length
 |0,_,_,hs=>hs
 | h+1,t,ok,hs=>by
   obtain⟨a,ks⟩:=t;cases ks with
   |nil=>simp[size]at hs
   | cons k ks=>
     have:=ok.2.2 k (aD ..);have:=ER h k this.1 oM;simp only[ents,List.flatMap_cons,List.length_append];omega
def G6:∀(h:Nat) (t:PT h),Aj h t->1<=size h t->h<(ents h t).length
 |0,_,_,hs=>hs
 | h+1,t,ok,hs=>by
   obtain⟨a,ks⟩:=t
   match ks,ok with
   |[],ok=>exact absurd ok.1 oO
   |[k],ok=>exact absurd ok.1 oO
   | k :: k' :: ks,ok=>
     have h1:=ok.2.2 k (aD ..);have h2:=ok.2.2 k' (aI _ (aD ..));have h1:=G6 h k h1.1 oM;have h2:=ER h k' h2.1 oM;simp only[ents,List.flatMap_cons,List.length_append];omega
abbrev fc:=@World.block_lt_of_cell?
structure LE where
 k:AA
 v:Val
 sl:Sl
 so:Sl
def LE.ent(x:LE):AD:=(x.k,x.v)
def LE.cells(x:LE):List Value:=[.string x.k,.int .i64 x.v.kind,.bool x.v.b,.int .i64 x.v.i,.string x.v.t,.slice x.sl.a x.v.l.length x.sl.c,.slice x.so.a x.v.ok.length x.so.c]
def AP(xs:List LE):List Value:=xs.flatMap LE.cells
def jW:AP []=[]:=rfl
def GN(x:LE)(xs:List LE):AP (x::xs)=x.cells++AP xs:=by simp[AP]
def D5(xs ys:List LE):AP (xs++ys)=AP xs++AP ys:=by simp[AP]
def LE.len(x:LE):x.cells.length=7:=rfl
def GA(xs:List LE):(AP xs).length=xs.length*7:=by
 induction xs with
 |nil=>rfl
 |cons x xs ih=>rw[GN,aj,ih,LE.len,aC];omega
def Fc:∀{xs:List LE} {i:Nat} {x:LE},xs[i]? = some x->∀c,c<7->(AP xs)[i*7+c]? = x.cells[c]?
 |[],i,x,h,_,_=>by simp at h
 | y :: ys,0,x,h,c,hc=>by
   simp at h;subst h;rw[GN,cH,aF,bu (by rw[LE.len];exact hc)]
 | y :: ys,i+1,x,h,c,hc=>by
   simp at h;rw[GN,aO (by rw[LE.len];omega),LE.len,show(i+1)*7+c-7=i*7+c from oM];exact Fc h c hc
def IP(xs:List LE)(i:Nat):(AP xs).take (i*7)=AP (xs.take i):=by
 induction xs generalizing i with
 |nil=>simp[AP]
 | cons x xs ih=>
   cases i with
   |zero=>simp[AP]
   | succ i=>
     rw[bq,GN,GN,List.take_append,LE.len,aM (by rw[LE.len];omega),show(i+1)*7-7=i*7 from oM,ih]
def IC(xs:List LE)(i:Nat):(AP xs).drop (i*7)=AP (xs.drop i):=by
 induction xs generalizing i with
 |nil=>simp[AP]
 | cons x xs ih=>
   cases i with
   |zero=>simp
   | succ i=>
     rw[ee,GN,List.drop_append,LE.len,bS (by rw[LE.len];omega),show(i+1)*7-7=i*7 from oM,ih,aG]
def D2(w:AB)(F:Nat->Prop)(xs:List LE):Prop:=∀x∈xs,RV w F x.v x.sl x.so/\x.k.size<=maxLen
variable{xs:List LE}
def D2.agree(h:D2 w F xs)(N:Agree F w w'):D2 w' F xs:=λx I=>⟨(h x I).1.agree N,(h x I).2⟩
def D2.mono(h:D2 w F xs)(N:∀i,F i->G i):D2 w G xs:=λx I=>⟨(h x I).1.mono N,(h x I).2⟩
structure ES(w:AB)(F:Nat->Prop)(s:Sl)(xs:List LE):Prop where
 rd:Rd w F 7 s xs.length (AP xs)
 vals:D2 w F xs
 few:xs.length*104<=140737488355328
def ES.agree(h:ES w F s xs)(I:Agree F w w'):ES w' F s xs:=⟨h.rd.agree I,h.vals.agree I,h.few⟩
def ES.mono(h:ES w F s xs)(I:∀i,F i->G i):ES w G s xs:=⟨h.rd.mono I,h.vals.mono I,h.few⟩
def ES.nil(w:AB)(F:Nat->Prop):ES w F Sl.none []:=⟨Rd.nil _ _ _,λx h=>by simp at h,oO⟩
variable{x:LE}
def ES.at(h:ES w F s xs){i:Nat}(N:xs[i]? = some x) :
  ∃b o,s.a=some ⟨b,o,none⟩/\F b/\xs.length<=s.c/\s.c<=maxLen/\w.cell? ⟨b,o+i*7,none⟩=some (.string x.k)/\BR w b (o+i*7+1) x.v x.sl x.so/\RV w F x.v x.sl x.so/\x.k.size<=maxLen:=by
 obtain⟨b,o,h1,h2,h3⟩:=h.rd;have hi:i<xs.length:=(ai.1 N).1;obtain⟨e1,e2,e3⟩:=h1.eq oM;have I:∀c u,c<7->x.cells[c]? = some u->w.cell? ⟨b,o+i*7+c,none⟩=some u:=λc u I hu=>by
  rw[bH];exact h3 _ u (by rw[Fc N c I];exact hu)
 have Z:=h.vals x (ap N);exact⟨b,o,e1,h1.fits oM,e2,e3,I 0 _ oM rfl,⟨I 1 _ oM rfl,I 2 _ oM rfl,I 3 _ oM rfl,I 4 _ oM rfl,I 5 _ oM rfl,I 6 _ oM rfl⟩,Z.1,Z.2⟩
abbrev ptr(h:Nat)(t:PT h):Value:=.pointer (some ⟨addr h t,0,none⟩)
def ptrs(h:Nat)(ks:List (PT h)):List Value:=ks.map (ptr h)
def AJ(w:AB)(F:Nat->Prop):(h:Nat)->PT h->Prop
 |0,t=>F t.1/\∃(s:Sl) (xs:List LE),AE w t.1 138 #[.slice s.a xs.length s.c,.slice none 0 0,.int .i64 0,.int .i64 xs.length,.string (Az t.2),.string (BZ t.2),.bool false]/\ES w F s xs/\xs.map LE.ent=t.2
 |h+1,t=>F t.1/\∃s:Sl,AE w t.1 138 #[.slice none 0 0,.slice s.a t.2.length s.c,.int .i64 ((h+1:Nat):Int),.int .i64 (ents (h+1) t).length,.string (Az (ents (h+1) t)),.string (BZ (ents (h+1) t)),.bool (thin (h+1) t)]/\
    Rd w F 1 s t.2.length (ptrs h t.2)/\∀k∈t.2,AJ w F h k
def AJ.agree(I:Agree F w w'):∀{h:Nat} {t:PT h},AJ w F h t->AJ w' F h t
 |0,_,⟨h1,s,xs,h2,h3,h4⟩=>⟨h1,s,xs,h2.agree I h1,h3.agree I,h4⟩
 |_+1,_,⟨h1,s,h2,h3,h4⟩=>⟨h1,s,h2.agree I h1,h3.agree I,λk N=>(h4 k N).agree I⟩
def AJ.mono(I:∀i,F i->G i):∀{h:Nat} {t:PT h},AJ w F h t->AJ w G h t
 |0,_,⟨h1,s,xs,h2,h3,h4⟩=>⟨I _ h1,s,xs,h2,h3.mono I,h4⟩
 |_+1,_,⟨h1,s,h2,h3,h4⟩=>⟨I _ h1,s,h2,h3.mono I,λk N=>(h4 k N).mono I⟩
variable{h:Nat}
def AJ.ext{t:PT h}(N:AJ w (Lt w) h t)(I:Ext w w'):AJ w' (Lt w') h t:=
 (N.agree (I.agree λ_ h=>h)).mono λ_ hi=>ab hi I.size
def AJ.cells:∀{h:Nat} {t:PT h},AJ w F h t->F (addr h t)/\∃(I N:Sl) (ne Z:Nat),ne+Z=size h t/\
  AE w (addr h t) 138 #[.slice I.a ne I.c,.slice N.a Z N.c,.int .i64 h,.int .i64 (ents h t).length,.string (Az (ents h t)),.string (BZ (ents h t)),.bool (thin h t)]
 |0,_,⟨h1,s,xs,h2,h3,h4⟩=>⟨h1,s,Sl.none,xs.length,0,by rw[size,<-h4,aq];rfl,by rw[show(ents 0 _).length=xs.length from by rw[ents,<-h4,aq]];exact h2⟩
 |_+1,_,⟨h1,s,h2,h3,h4⟩=>⟨h1,Sl.none,s,0,_,by rw[size,aF],h2⟩
variable{g:Nat}
def AE.c7{t:TypeId}{v0 v1 I v3 v4 N Z:Value}(h:AE w g t #[v0,v1,I,v3,v4,N,Z]):w.cell? g=some v0/\w.cell? ⟨g,1,none⟩=some v1/\w.cell? ⟨g,2,none⟩=some I/\w.cell? ⟨g,3,none⟩=some v3/\w.cell? ⟨g,4,none⟩=some v4/\w.cell? ⟨g,5,none⟩=some N/\w.cell? ⟨g,6,none⟩=some Z:=
 ⟨h.cell 0,h.cell 1,h.cell 2,h.cell 3,h.cell 4,h.cell 5,h.cell 6⟩
def J5(w:AB):Calls prog 48 #[.pointer none] w λe w'=>e=.returned (.int .i64 0)/\w=w':=by
 go_in;go_wp2;go_ret;exact⟨rfl,rfl⟩
def Dw{t:PT h}(N:AJ w F h t):Calls prog 48 #[ptr h t] w λe w'=>e=.returned h/\w=w':=by
 obtain⟨-,se,Z,ne,nk,-,I⟩:=N.cells;obtain⟨-,-,h2,-,-,-,-⟩:=I.c7;go_in;go_wp2;go_ret;exact⟨rfl,rfl⟩
def count_nil(w:AB):Calls prog 76 #[.pointer none] w λe w'=>e=.returned (.int .i64 0)/\w=w':=by
 go_in;go_wp2;go_ret;exact⟨rfl,rfl⟩
def TD{t:PT h}(N:AJ w F h t):Calls prog 76 #[ptr h t] w λe w'=>e=.returned (.int .i64 (ents h t).length)/\w=w':=by
 obtain⟨-,se,Z,ne,nk,-,I⟩:=N.cells;obtain⟨-,-,-,h3,-,-,-⟩:=I.c7;go_in;go_wp2;go_ret;exact⟨rfl,rfl⟩
def M8{t:PT h}(N:AJ w F h t):Calls prog 85 #[ptr h t] w λe w'=>e=.returned (.string (Az (ents h t)))/\w=w':=by
 obtain⟨-,se,Z,ne,nk,-,I⟩:=N.cells;obtain⟨-,-,-,-,h4,-,-⟩:=I.c7;go_in;go_wp2;go_ret;exact⟨rfl,rfl⟩
def SK(w:AB):Calls prog 118 #[.pointer none] w λe w'=>e=.returned (.int .i64 0)/\w=w':=by
 go_in;go_wp2;go_ret;exact⟨rfl,rfl⟩
def LX{t:PT h}(hn:AJ w F h t)(hs:size h t<=1000):Calls prog 118 #[ptr h t] w λe w'=>e=.returned (size h t)/\∃q,w'=w.drewN q:=by
 obtain⟨-,se,sk,ne,nk,I,Z⟩:=hn.cells;obtain⟨h0,h1,-,-,-,-,-⟩:=Z.c7;have a0:ne<=1000:=oM
 have N:nk<=1000:=oM
 rw[<-I];clear I;go_in;go_wp2_with fail;go_quiet (fail);go_wp2;go_ret;exact⟨oO,_,rfl⟩
def TK{t:PT h}(N:AJ w F h t):Calls prog 146 #[ptr h t] w λe w'=>e=.returned (.string (BZ (ents h t)))/\w=w':=by
 obtain⟨-,se,Z,ne,nk,-,I⟩:=N.cells;obtain⟨-,-,-,-,-,h5,-⟩:=I.c7;go_in;go_wp2;go_ret;exact⟨rfl,rfl⟩
def Fi(h:Nat)(t:PT h):Bool:=!thin h t&&decide (4<=size h t)
def WL{t:PT h}(hn:AJ w F h t)(hs:size h t<=1000):Calls prog 88 #[ptr h t,false] w λe w'=>e=.returned (Fi h t)/\∃q,w'=w.drewN q:=by
 obtain⟨-,se,sk,ne,nk,-,Z⟩:=hn.cells;obtain⟨-,-,-,-,-,-,h6⟩:=Z.c7;have N:=LX hn hs;clear Z;cases I:thin h t
 ·rw [I] at h6
  have e:Fi h t=decide (4<=size h t):=by simp[Fi,I]
  rw[e];clear e I;go_in;go_wp2_with fail;refine N.mono ?_;rintro e w' ⟨rfl,q,rfl⟩;go_wp2_with fail;go_ret;exact⟨by simp;omega,q,rfl⟩
 rw[I]at h6;have e:Fi h t=false:=by simp[Fi,I]
 rw[e];clear e I N;go_in;go_wp2_with fail;go_ret;exact⟨rfl,0,rfl⟩
def Tryz.Ec:(prog.info? 34).map (λi=>(i.zero,i.size,i.bytes))=some (some (.pointer none),1,8):=kM
def Fe(h:Nat)(ks:List (PT h)):∀u∈ptrs h ks,u.oneCell'=true:=by
 intro u hu;obtain⟨k,-,rfl⟩:=bX.1 hu;rfl
def NK(e':TypeId)(n:Nat)(cs:List Value)(w:AB)(e:AC)(w':AB):Prop:=
 ∃s':Sl,e=.returned (.slice s'.a n s'.c)/\w'.ownsRow w.heap.size e' 1 (.slice s'.a n s'.c) n cs/\Ext w w'
def WI(w:AB):Calls prog 83 #[.slice none 0 0] w λe w'=>e=.returned (.slice none 0 0)/\w=w':=by
 have I:=λw'=>Lib.run_eql_slice_nil (P:=prog) w' 87 34 none 0 0 0 0 underlying87
 go_in;go_wp2_with fail;go_ret;exact⟨rfl,rfl⟩
def WC(hr:Rd w F 1 s n cs)(h1:∀u∈cs,u.oneCell'=true)(hn:n<=1000) :
  Calls prog 83 #[.slice s.a n s.c] w (NK 34 n cs w):=by
 obtain⟨i0,hi,a4,a1,a2⟩:=eZ Tryz.Ec;obtain⟨b,o,hs,hl,hc⟩:=hr;cases hs with
 | nil=>
   have:cs=[]:=av (by simpa using hl);subst this;have he:=λw'=>Lib.run_eql_slice_nil (P:=prog) w' 87 34 none 0 0 0 0 underlying87
   go_in;go_wp2_with fail;go_ret;exact⟨Sl.none,rfl,e9 _ _ _ _,gz _⟩
 | zero ad=>
   have:cs=[]:=av (by simpa using hl);subst this;have he:=λw'=>Lib.run_eql_slice_nil (P:=prog) w' 87 34 (some ad) 0 0 0 0 underlying87
   have N:Rd (w.alloc (.cells #[] 34)) F 1 ⟨some ad,0⟩ 0 []:=⟨b,o,.zero _ _ _,rfl,λj u hj=>by simp at hj⟩;have HN:=hY N;have a0:0+0<=maxLen:=by unfold maxLen;omega
   clear N hc h1 hl;go_in;go_wp2_with(at_builtin;refine Bq _ rfl _ _ 87 rfl w.heap.size 34 i0 (.pointer none) 1 8 underlying87 hi a4 a1 a2 rfl oN ⟨some w,0⟩ 0 [] rfl (World.ownsRow_made w #[] 0 (ao _) oN rfl) F ⟨some ad,0⟩ 0 [] rfl HN.o oO a0 oM oO ?_;intro s' w1 I Z _;simp only[Nat.zero_add,List.nil_append]at I);go_ret;exact⟨s',oO,I,((gz w).alloc _ _).wr Z (by rintro i ⟨⟩;exact ao _)⟩
 | some _ c _ _ hnc hcm hb=>
   have he:=λw'=>Lib.run_eql_slice_nil (P:=prog) w' 87 34 (some ⟨b,o,none⟩) n c 0 0 underlying87
   have a3:∀j u,cs[j]? = some u->b<w:=λj u hj=>fc w _ (hc j u hj)
   have N:Rd (w.alloc (.cells #[] 34)) F 1 ⟨some ⟨b,o,none⟩,c⟩ n cs:=⟨b,o,.some _ _ _ _ hnc hcm hb,hl,λj u hj=>(World.cell?_alloc_lt _ _ _ (a3 j u hj)).trans (hc j u hj)⟩;obtain⟨HN,H1⟩:=Yb N h1;have a0:0+n<=maxLen:=by unfold maxLen;omega
   clear N hc h1 hl a3;go_in;go_wp2_with(at_builtin;refine Bq _ rfl _ _ 87 rfl w.heap.size 34 i0 (.pointer none) 1 8 underlying87 hi a4 a1 a2 rfl oN ⟨some w,0⟩ 0 [] rfl (World.ownsRow_made w #[] 0 (ao _) oN rfl) F ⟨some ⟨b,o,none⟩,c⟩ n cs rfl HN.o H1.o a0 oM oO ?_;intro s' w1 I Z _;simp only[Nat.zero_add,List.nil_append]at I);go_ret;exact⟨s',oO,I,((gz w).alloc _ _).wr Z (by rintro i ⟨⟩;exact ao _)⟩
def FZ{t:PT (h+1)}(hn:AJ w F (h+1) t)(hs:t.2.length<=1000):Calls prog 54 #[ptr (h+1) t] w (NK 34 t.2.length (ptrs h t.2) w):=by
 obtain⟨-,s,N,I,-⟩:=hn;have h1:w.cell? ⟨addr (h+1) t,1,none⟩=some (.slice s.a t.2.length s.c):=N.c7.2.1;have Z:=WC I (Fe _ _) hs;have HR:=hY I;clear N I;go_in;go_wp2_with fail;refine Z.mono ?_;rintro e w' ⟨s',rfl,h2,h3⟩;have H2:=hY h2;clear h2;go_wp2_with fail;go_ret;exact⟨s',rfl,H2.o,h3⟩
def P5{t:PT 0}(Z:AJ w F 0 t):Calls prog 54 #[ptr 0 t] w λe w'=>e=.returned (.slice none 0 0)/\w=w':=by
 obtain⟨-,s,xs,I,-,-⟩:=Z;have h1:w.cell? ⟨addr 0 t,1,none⟩=some (.slice none 0 0):=I.c7.2.1;have N:=WI w;clear I;go_in;go_wp2_with fail;refine N.mono ?_;rintro e w' ⟨rfl,rfl⟩;go_wp2_with fail;go_ret;exact⟨rfl,rfl⟩
structure OE(w:AB)(base:Nat)(s:Sl)(xs:List LE):Prop where
 own:w.ownsRow base 65 7 (.slice s.a xs.length s.c) xs.length (AP xs)
 vals:D2 w (λb=>(base<=b/\b<w.heap.size)/\s.row≠some b) xs
 few:xs.length*104<=140737488355328
def OE.nil(w:AB)(base:Nat):OE w base Sl.none []:=⟨World.ownsRow_nil _ _ _ _,λx h=>by simp at h,oO⟩
def OE.es{base:Nat}(h:OE w base s xs):ES w (In base w.heap.size) s xs:=⟨gF h.own,h.vals.mono λ_ hi=>hi.1,h.few⟩
def AZ{base e size n:Nat}{xs:List Value}(h:w.ownsRow base e size (.slice s.a n s.c) n xs)(ha:Agree F w w')(hF:∀b,s.row=some b->F b):w'.ownsRow base e size (.slice s.a n s.c) n xs:=by
 refine⟨h.1,?_⟩;rcases h.2 with hl |⟨g,N,I,Z,hg,hh,r⟩
 .exact .inl hl
 refine .inr ⟨g,N,I,Z,hg,?_,r⟩;simp only[Value.slice.injEq]at Z;exact(ha g (hF g (by simp[Sl.row,Z.1]))).trans hh
def OE.ext{base:Nat}(h:OE w base s xs)(I:Ext w w'):OE w' base s xs:=
 ⟨AZ h.own (I.agree (F:=Lt w) λ_ hi=>hi) λb N=>(h.own.lt b (by obtain⟨a,c⟩:=s;cases a<;>simp_all [Value.ownBlock,Sl.row])).2,
   (h.vals.agree (I.agree λ_ hi=>hi.1.2)).mono λi hi=>⟨⟨hi.1.1,ab hi.1.2 I.size⟩,hi.2⟩,h.few⟩
def EC.own(N:BF w B 65 7 xs.length)(hk:∀j x,xs[j]? = some x->w.cell? ⟨B,j*7,none⟩=some (.string x.k)/\BR w B (j*7+1) x.v x.sl x.so)(hn:n<=B)(hm:xs.length<=maxLen) :
  w.ownsRow n 65 7 (.slice (some B) xs.length xs.length) xs.length (AP xs):=by
 obtain⟨I,h1,h2⟩:=N;refine⟨GA xs,.inr ⟨B,xs.length,I,rfl,hn,h1,ao _,hm,h2,?_⟩⟩;rw[aM (by rw[aQ,h2];exact ao _)];apply bJ;intro p;by_cases hp:p<xs.length*7
 ·obtain ⟨j,c,rfl,a0⟩:∃ j c,p=j*7+c∧c<7:=⟨p / 7,p % 7,oM,oM⟩
  obtain⟨x,hx⟩:∃x,xs[j]? = some x:=⟨_,ac oM⟩;obtain⟨e0,e⟩:=hk _ _ hx;rw[Fc hx c a0];have hc:∀o,w.cell? ⟨B,o,none⟩=I.toList[o]?:=λo=>by rw[fH w B o I _ _ h1];simp
  rw[<-hc];have Z:c=0\/c=1\/c=2\/c=3\/c=4\/c=5\/c=6:=oM
  rcases Z with rfl|rfl|rfl|rfl|rfl|rfl|rfl
  .exact e0
  .exact e.c0
  .exact e.c1
  .exact e.c2
  .exact e.c3
  .exact e.c4
  exact e.c5
 rw[aN (by rw[aQ,h2];omega),aN (by rw[GA];omega)]
def VY(xs:List LE)(w:AB)(e:AC)(w':AB):Prop:=
 ∃(s':Sl) (xs':List LE),e=.returned (.slice s'.a xs'.length s'.c)/\xs'.map LE.ent=xs.map LE.ent/\OE w' w.heap.size s' xs'/\Ext w w'
def Ul(hs:ES w (Lt w.heap.size) s xs):Calls prog 77 #[.slice s.a xs.length s.c] w (VY xs w):=by
 obtain⟨i0,hi,c7,e7,c8⟩:=eZ Tryz.DK;have b0:=hs.few;have d4:=λW=>I' (P:=prog) 22 65 i0 _ underlying22 hi c7 .i64 .i64 xs.length xs.length (ao _) (by rw[c8];omega) oM W
 have HS:=hY hs;clear hs;go_in;go_wp2_with fail;clear d4;generalize a2:World.alloc _ _=W0;have a4:Ext w W0:=by rw[<-a2];exact(gz w).alloc _ _
 have hz:W0.heap.size=w.heap.size+1:=by rw[<-a2];simp
 have a3:BF W0 w.heap.size 65 7 (xs.map LE.k).length:=by
  rw[<-a2,aq];exact BF.made _ (gh _ _)
 clear a2;go_loopw[11] (λq wr=>∃(j:Nat) (f:Nat->Sl × Sl),j<=xs.length/\q=.int .i64 j/\Ext w wr/\EC wr w.heap.size 65 (xs.map LE.k) (xs.map LE.v) j f) (λq _=>xs.length -(intOf q).toNat)
 case atStart=>exact⟨0,λ_=>(Sl.none,Sl.none),aw _,rfl,a4,EC.start a3 _⟩
 clear a4 hz a3 W0;obtain⟨j,f,hj,rfl,N,hf⟩:=hrel;have e4:w.heap.size<wr.heap.size:=hf.row.lt;by_cases b3:j<xs.length
 ·obtain ⟨x,a5⟩:∃ x,xs[j]? = some x:=⟨_,ac b3⟩
  have a1:Agree (Lt w.heap.size) w wr:=N.agree λ_ h=>h
  obtain⟨b,o,ha,b4,d6,e2,a8,hv,b7,b8⟩:=HS.o.at a5;obtain⟨v0,v1,v2,v3,v4,v5⟩:=(hv.agree a1 b4).m;have vk:=(a1.cell b4).trans a8;have c9:∀W,Ext wr W->Calls prog 72 #[AS x.v x.sl x.so] W (JJ x.v W):=λW hW=>
   IL _ x.v (ao _) W _ _ ((b7.agree (a1.trans (hW.agree λ_ h=>ab h N.size))).mono λi hi=>ab hi (an N.size hW.size))
  obtain⟨b5,HF,HX⟩:=Yc a5 hf N;have e6:¬w.heap.size=wr.heap.size:=oM
  have I:=hf.row;rw[aq]at I;obtain⟨x0,a4⟩:∃v,wr.cell? ⟨w.heap.size,j*7,none⟩=some v:=I.cell oM;obtain⟨x1,e1⟩:∃v,wr.cell? ⟨w.heap.size,j*7+1,none⟩=some v:=I.cell oM;obtain⟨x2,d7⟩:∃v,wr.cell? ⟨w.heap.size,j*7+2,none⟩=some v:=I.cell oM;obtain⟨x3,e8⟩:∃v,wr.cell? ⟨w.heap.size,j*7+3,none⟩=some v:=I.cell oM;obtain⟨x4,d9⟩:∃v,wr.cell? ⟨w.heap.size,j*7+4,none⟩=some v:=I.cell oM;obtain⟨x5,d5⟩:∃v,wr.cell? ⟨w.heap.size,j*7+5,none⟩=some v:=I.cell oM;obtain⟨x6,e3⟩:∃v,wr.cell? ⟨w.heap.size,j*7+6,none⟩=some v:=I.cell oM;have e0:=I.frozen;rw[ha];have HA:=hY ha;clear a5 a1 hf N hv a8 I ha b7 b8;go_wp2_with fail;go_region_held3 (λw'=>w'.cell? wr=some (.string x.k)/\w'.cell? ⟨wr.heap.size,1,none⟩=some (.int .i64 x.v.kind)/\w'.cell? ⟨wr.heap.size,2,none⟩=some (.bool x.v.b)/\w'.cell? ⟨wr.heap.size,3,none⟩=some (.int .i64 x.v.i)/\w'.cell? ⟨wr.heap.size,4,none⟩=some (.string x.v.t)/\w'.cell? ⟨wr.heap.size,5,none⟩=some (.slice x.sl.a x.v.l.length x.sl.c)/\w'.cell? ⟨wr.heap.size,6,none⟩=some (.slice x.so.a x.v.ok.length x.so.c)) (go_keep)
   ((go_at_call 72;refine(c9 _ (((gz wr).alloc _ _).drew)).mono ?_;rintro e w1 ⟨b9,d0,rfl,a7,d3⟩;have d8:=a7.olds))
  have a9:Ext wr w1:=(((gz wr).alloc _ _).drew).trans a7;have b6:=HF.o.step a9 (x:=x.k) (d:=x.v) (by rw[ar,b5.o];rfl) (by rw[ar,b5.o];rfl) (d3.mono λi hi=>⟨Nat.le_trans oO hi.1,hi.2⟩);have hX:=(HX.o.trans a9).Br (b:=w.heap.size) (ao _) (j*7) x.k x.v b9 d0;have c6:=hY b6;clear b6;go_wp2_with fail;go_roundw
  case rel=>exact⟨j+1,_,b3,by go_num,hX,c6.o⟩
  simp[intOf];omega
 obtain rfl:j=xs.length:=oM
 have HF:=hY hf;clear hf;go_wp2_with fail;go_ret;have hf:=HF.o;obtain⟨a0,a6,Z⟩:∃a0:List LE,(∀(j:Nat) (x:LE),a0[j]? = some x->∃y:LE,xs[j]? = some y/\x=LE.mk y.k y.v (f j).1 (f j).2)/\a0.length=xs.length/\a0.map LE.ent=xs.map LE.ent:=by
  refine⟨xs.mapIdx λj y=>LE.mk y.k y.v (f j).1 (f j).2,λj x N=>?_,oO,?_⟩
  ·rw [dv] at N
   cases hy:xs[j]? with
   |none=>rw[hy]at N;cases N
   |some y=>rw[hy]at N;exact⟨y,rfl,by simpa using N.symm⟩
  apply bJ;intro j;rw[ar,dv,ar];cases xs[j]?<;>rfl
 have hb:∀(j:Nat) (x:LE),a0[j]? = some x->j<xs.length/\(xs.map LE.k)[j]? = some x.k/\(xs.map LE.v)[j]? = some x.v/\x.sl=(f j).1/\x.so=(f j).2:=λj x N=>by
  obtain⟨y,hy,rfl⟩:=a6 j x N;exact⟨(ai.1 hy).1,by rw[ar,hy];rfl,by rw[ar,hy];rfl,rfl,rfl⟩
 have I:=hf.row;rw[aq,<-Z.1]at I;refine⟨⟨some w,a0.length⟩,a0,by simp[Z.1],Z.2,OE.mk ?_ ?_ (by rw[Z.1];exact b0),N⟩
 .exact EC.own I (λj x N=>by
   obtain⟨h1,h2,h3,h4,h5⟩:=hb j x N;rw[h4,h5];exact⟨hf.keys j _ h1 h2,hf.cells j _ h1 h3⟩) (ao _) (by rw[Z.1];unfold maxLen;omega)
 intro x N;obtain⟨j,hj⟩:=bA N;obtain⟨h1,h2,h3,h4,h5⟩:=hb j x hj;rw[h4,h5];refine⟨(hf.reads j _ h1 h3).mono λi hi=>⟨⟨oM,hi.2⟩,by simp[Sl.row];omega⟩,?_⟩;obtain⟨y,hy,rfl⟩:=a6 j x hj;exact(HS.o.vals y (ap hy)).2
abbrev fI:=@World.size_drew
abbrev B3(k:AA)(v:Val)(sl so:Sl):Value:=.agg #[.string k,.int .i64 v.kind,.bool v.b,.int .i64 v.i,.string v.t,.slice sl.a v.l.length sl.c,.slice so.a v.ok.length so.c]
def Et(es:List AD)(w:AB)(e:AC)(w':AB):Prop:=
 ∃(s':Sl) (xs':List LE),e=.returned (.slice s'.a xs'.length s'.c)/\xs'.map LE.ent=es/\OE w' w.heap.size s' xs'/\Ext w w'
def N0(w:AB):Calls prog 49 #[.pointer none] w λe w'=>e=.returned (.slice none 0 0)/\w=w':=by
 go_in;go_wp2;go_ret;exact⟨rfl,rfl⟩
def Wu{t:PT (h+1)}(N:AJ w F (h+1) t):Calls prog 49 #[ptr (h+1) t] w λe w'=>e=.returned (.slice none 0 0)/\w=w':=by
 obtain⟨-,s,I,-⟩:=N;have Z:w.cell? ⟨addr (h+1) t,0,none⟩=some (.slice none 0 0):=I.c7.1;clear I;go_in;go_wp2;go_ret;exact⟨rfl,rfl⟩
def Gl{t:PT 0}(hn:AJ w (Lt w) 0 t):Calls prog 49 #[ptr 0 t] w (Et (ents 0 t) w):=by
 obtain⟨-,s,xs,hb,hs,I⟩:=hn;have h0:w.cell? ⟨addr 0 t,0,none⟩=some (.slice s.a xs.length s.c):=hb.c7.1;have hc:=Ul hs;have HX:=hY I;clear hb I;by_cases hl:xs.length=0
 ·have N:xs=[]:=av hl
  subst N;clear hc;go_in;go_wp2_with fail;go_ret;exact⟨Sl.none,[],rfl,HX.o,OE.nil _ _,gz _⟩
 have N:((xs.length:Int)==0)=false:=eP.2 oM;clear hl;go_in;go_wp2_with fail;refine hc.mono ?_;rintro e w' ⟨s',Z,rfl,h1,h2,h3⟩;have H1:=hY h1;clear h1;go_wp2_with fail;go_ret;exact⟨s',Z,rfl,H1.o.trans HX.o,h2,h3⟩
def zeroV:Val:=.mk 0 false 0 ByteArray.empty [] [] []
def JL(k:AA)(v:Val)(w:AB)(e:AC)(w':AB):Prop:=
 ∃sl so,e=.returned (.tuple #[B3 k v sl so,.bool true])/\Ext w w'/\Es w' (In w.heap.size w'.heap.size) v sl so
def TS{t:PT 0}(hn:AJ w (Lt w.heap.size) 0 t){i:Nat}{k:AA}{v:Val}(hi:(ents 0 t)[i]? = some (k,v)) :
  Calls prog 171 #[ptr 0 t,i] w (JL k v w):=by
 obtain⟨-,s,xs,hb,hs,a0⟩:=hn;have h0:w.cell? ⟨addr 0 t,0,none⟩=some (.slice s.a xs.length s.c):=hb.c7.1;have c6:addr 0 t<w.heap.size:=hb.lt;obtain⟨x,hx,rfl,rfl⟩:∃x,xs[i]? = some x/\x.k=k/\x.v=v:=by
  rw[show ents 0 t=xs.map LE.ent from a0.symm,ar]at hi;cases hx:xs[i]? with
  |none=>rw[hx]at hi;cases hi
  |some x=>rw[hx]at hi;simp[LE.ent]at hi;exact⟨x,rfl,hi.1,hi.2⟩
 obtain⟨b,o,ha,a2,b3,b4,b7,hv,a3,a5⟩:=hs.at hx;obtain⟨v0,v1,v2,v3,v4,v5⟩:=hv.m;have b9:i<xs.length:=(ai.1 hx).1;have a8:=hs.few;have b0:(i:Int)<(xs.length:Int):=oM
 have b8:decide ((xs.length:Int)<=(i:Int))=false:=by simp;omega
 have b5:decide ((i:Int)<0)=false:=oO
 have a6:∀W,Ext w W->Calls prog 72 #[AS x.v x.sl x.so] W (JJ x.v W):=λW hW=>
  IL _ x.v (ao _) W _ _ ((a3.agree (hW.agree λ_ h=>h)).mono λi hi=>ab hi hW.size)
 rw[ha]at h0;have a9:b<w.heap.size:=a2;clear hb a0 hs hi hv a3 a5 ha hx a2;go_in;go_wp2_with fail;go_region_held3 (λw'=>w'.cell? ⟨w.heap.size+1,0,none⟩=some (.string x.k)/\w'.cell? ⟨w.heap.size+1,1,none⟩=some (.int .i64 x.v.kind)/\w'.cell? ⟨w.heap.size+1,2,none⟩=some (.bool x.v.b)/\w'.cell? ⟨w.heap.size+1,3,none⟩=some (.int .i64 x.v.i)/\w'.cell? ⟨w.heap.size+1,4,none⟩=some (.string x.v.t)/\w'.cell? ⟨w.heap.size+1,5,none⟩=some (.slice x.sl.a x.v.l.length x.sl.c)/\w'.cell? ⟨w.heap.size+1,6,none⟩=some (.slice x.so.a x.v.ok.length x.so.c)) (go_keep)
  ((go_at_call 72;refine(a6 _ ((((gz w).alloc _ _).alloc _ _).drew)).mono ?_;rintro e w1 ⟨N,I,rfl,Z,a1⟩;have b6:=Z.olds))
 have hX:Ext w w1:=((((gz w).alloc _ _).alloc _ _).drew).trans Z;go_wp2_with fail;have a4:AE w1 w.heap.size 65 #[.string ByteArray.empty,.int .i64 0,.bool false,.int .i64 0,.string ByteArray.empty,.slice none 0 0,.slice none 0 0]:=(Z.heap (by rw[fI,eQ,eQ];omega)).trans (heap_alloc2_old w _ _);obtain⟨q0,q1,q2,q3,q4,q5,q6⟩:=a4.c7;refine eU (v:=.tuple #[B3 x.k x.v N I,true]) (by simp[results,results171,go_sem,q0,q1,q2,q3,q4,q5,q6]) rfl ?_;have hE:Ext w (Br w1 w.heap.size 0 x.k x.v N I):=hX.Br (ao _) 0 x.k x.v N I;refine⟨N,I,rfl,hE,?_,a1.cap⟩;show RV (Br w1 w.heap.size 0 x.k x.v N I) (In w.heap.size (Br w1 w.heap.size 0 x.k x.v N I).heap.size) _ _ _;rw[MX];have a7:RV w1 (In (w.heap.size+1) w1.heap.size) x.v N I:=a1.mono λi hi=>⟨by have:=hi.1;simp at this;omega,hi.2⟩
 exact(a7.agree (Im _ _ _ _ _ _ _ oM)).mono λi hi=>⟨oM,hi.2⟩
def VW{t:PT 0}(hn:AJ w (Lt w) 0 t){i:Int}(hi:i<0\/(ents 0 t).length<=i) :
  Calls prog 171 #[ptr 0 t,i] w λe w'=>e=.returned (.tuple #[B3 ByteArray.empty zeroV Sl.none Sl.none,false])/\Ext w w':=by
 obtain⟨-,s,xs,Z,hs,N⟩:=hn;have h0:w.cell? ⟨addr 0 t,0,none⟩=some (.slice s.a xs.length s.c):=Z.c7.1;have a2:addr 0 t<w:=Z.lt;have hl:(ents 0 t).length=xs.length:=by rw[show ents 0 t=xs.map LE.ent from N.symm,aq]
 rw[hl]at hi;clear Z hs N hl;by_cases I:i<0
 ·have a0:decide (i<0)=true:=by simpa using I
  clear hi I;go_in;go_wp2_with fail;refine eU (v:=.tuple #[B3 ByteArray.empty zeroV Sl.none Sl.none,false]) (by simp[results,results171,go_sem];exact⟨rfl,rfl,rfl,rfl,rfl,rfl,rfl⟩) rfl ⟨rfl,(gz w).alloc _ _⟩
 have a1:decide ((xs.length:Int)<=i)=true:=by simp;omega
 have a0:decide (i<0)=false:=by simpa using I
 clear hi I;go_in;go_wp2_with fail;refine eU (v:=.tuple #[B3 ByteArray.empty zeroV Sl.none Sl.none,false]) (by simp[results,results171,go_sem];exact⟨rfl,rfl,rfl,rfl,rfl,rfl,rfl⟩) rfl ⟨rfl,(gz w).alloc _ _⟩
abbrev fq:=@enters_of
abbrev fD:=@Bool.not_eq_true'
def Aq(es:List AD)(k:AA):Nat:=(es.takeWhile λe=>klt e.1 k).length
def Mc(es:List AD)(k:AA):Aq es k<=es.length:=(List.takeWhile_sublist _).length_le
def Ib{es:List AD}{k:AA}{p:Nat}(hp:p<=es.length)(N:∀i e,i<p->es[i]? = some e->klt e.1 k=true)(I:∀e,es[p]? = some e->klt e.1 k=false):Aq es k=p:=by
 induction es generalizing p with
 |nil=>simp at hp;subst hp;rfl
 | cons a es ih=>
   cases p with
   |zero=>simp[Aq,I a rfl]
   | succ p=>
     have h0:=N 0 a oM rfl;have:=ih (p:=p) (by simpa using hp) (λi e hi Z=>N (i+1) e oM (by simpa using Z)) (λe Z=>I e (by simpa using Z));simp only[Aq,List.takeWhile_cons,h0,if_true,List.length_cons];rw[<-this];rfl
def Iv{es:List AD}(h:Sorted es){i j:Nat}(I:i<j){a b:AD}(ha:es[i]? = some a)(N:es[j]? = some b):klt a.1 b.1=true:=by
 obtain⟨hi,rfl⟩:=ai.1 ha;obtain⟨Z,rfl⟩:=ai.1 N;exact List.pairwise_iff_getElem.1 h i j hi Z I
variable{W:AB}{b1 b2:Nat}
def Yw(hs:ES w (Lt w) s xs){k:AA}(h1:W.cell? b1=some (.slice s.a xs.length s.c))(h2:W.cell? b2=some (.string k))(hx:Ext w W)
  {i:Nat} (hi:xs[i]? = some x):Calls prog 79 #[i,.pointer (some b1),.pointer (some b2)] W λe w'=>e=.returned (.bool !(klt x.k k))/\Ext W w':=by
 obtain⟨b,o,Z,N,a2,a3,I,-⟩:=hs.at hi;have hk:W.cell? ⟨b,o+i*7,none⟩=some (.string x.k):=(hx.cell N).trans I;have a4:i<xs.length:=(ai.1 hi).1;have a1:(i:Int)<(xs.length:Int):=oM
 have a0:=hs.few;rw[Z]at h1;clear hs hi hx Z I;go_in;go_wp2_with fail;go_quiet (fail);go_wp2;go_ret;exact⟨rfl,(gz W).drewN _⟩
def M6(es:List AD)(k:AA)(w:AB)(e:AC)(w':AB):Prop:=
 e=.returned (.tuple #[.int .i64 (Aq es k),.bool (decide ((es[Aq es k]?).map Prod.fst=some k))])/\Ext w w'
def T4(hs:ES w (Lt w) s xs)(k:AA)(N:Sorted (xs.map LE.ent)) :
  Calls prog 50 #[.slice s.a xs.length s.c,k] w (M6 (xs.map LE.ent) k w):=by
 have b7:=hs.few;obtain⟨HS,HO⟩:=Yb hs N;have b0:∀W,Ext w W->W.cell? w=some (.slice s.a xs.length s.c)->W.cell? ⟨w+1,0,none⟩=some (.string k)->
   Calls prog 78 #[.int .i64 xs.length,.func (.func 79) #[] #[.pointer (some w),.pointer (some ⟨w+1,0,none⟩)]] W (It xs.length (λi=>!(klt ((xs[i]?.map LE.k).getD ByteArray.empty) k)) W):=by
  intro W hW h1 h2;refine Jy 79 _ _ xs.length _ W (fq func79 kM rfl) oM ?_ ?_
  ·intro i W' hi a5
   obtain⟨x,I⟩:∃x,xs[i]? = some x:=⟨_,ac hi⟩;rw[I];have Z:=fc W _ h1;have a1:=fc W _ h2;exact Yw HS.o ((a5.cell Z).trans h1) ((a5.cell a1).trans h2) (hW.trans a5) I
  intro i j c6 hj a2;by_cases a8:i=j
  .subst a8;exact a2
  have a4:=HO.o;obtain⟨x,I⟩:∃x,xs[i]? = some x:=⟨_,ac oM⟩;obtain⟨y,hy⟩:∃y,xs[j]? = some y:=⟨_,ac hj⟩;have b5:=Iv a4 (i:=i) (j:=j) oM (by rw[ar,I];rfl) (by rw[ar,hy];rfl);rw[I]at a2;rw[hy];simp only[Option.map_some,Option.getD_some,Bool.not_eq_true']at a2 ⊢;cases b3:klt y.k k
  .rfl
  have:=Ck b5 b3;rw[show klt x.ent.1 k=klt x.k k from rfl,a2]at this;cases this
 clear hs N;go_in;go_wp2_with fail;refine(b0 _ (((gz w).alloc _ _).alloc _ _) oO oO).mono ?_;rintro e w1 ⟨p,rfl,hp,a6,a9,a0⟩;have Z:AE w1 w.heap.size 22 #[.slice s.a xs.length s.c]:=(a0.heap (by rw[eQ,eQ];omega)).trans (heap_alloc2_old w _ _);have a1:AE w1 (w.heap.size+1) 9 #[.string k]:=(a0.heap (by rw[eQ,eQ];omega)).trans (heap_alloc2_new w _ _);have q1:=Z.cell 0;have q2:=a1.cell 0;have hX:Ext w w1:=(((gz w).alloc _ _).alloc _ _).trans a0;have a3:Aq (xs.map LE.ent) k=p:=Ib (by simpa using hp) (λi e hi he=>by
   rw[ar]at he;obtain⟨x,I,rfl⟩:=dN.1 he;have:(!(klt ((xs[i]?.map LE.k).getD ByteArray.empty) k))=false:=a6 i hi;rw[I]at this;show klt x.k k=true;simpa using this) (λe he=>by
   rw[ar]at he;obtain⟨x,I,rfl⟩:=dN.1 he;have:(!(klt ((xs[p]?.map LE.k).getD ByteArray.empty) k))=true:=a9 p (ao _) (ai.1 I).1;rw[I]at this;show klt x.k k=false;simpa using this)
 have HP:=hY a3;clear a6 a9 a3 b0 a0 Z a1;simp only[List.getElem?_toArray,List.getElem?_cons_zero]at q1 q2;by_cases a4:p<xs.length
 ·obtain ⟨x,I⟩:∃ x,xs[p]? = some x:=⟨_,ac a4⟩
  obtain⟨b,o,ha,b4,b8,b9,a7,-⟩:=HS.o.at I;have hk:w1.cell? ⟨b,o+p*7,none⟩=some (.string x.k):=(hX.cell b4).trans a7;have hd:decide ((p:Int)<(xs.length:Int))=true:=by simp;omega
  have b6:(p:Int)<(xs.length:Int):=oM
  obtain⟨HX,HE⟩:=Yb I hX;rw[ha]at q1;clear a7 I hX ha;go_wp2_with fail;go_quiet (fail);go_wp2;go_ret2;refine⟨?_,HE.o.drewN _⟩;rw[HP.o,ar,HX.o];show Ending.returned (.tuple #[p,.bool (x.k.toList==k.toList)])=_;rw[beq_toList];simp[LE.ent]
 have hd:decide ((p:Int)<(xs.length:Int))=false:=by simp;omega
 have HE:=hY hX;clear hX;go_wp2_with fail;go_quiet (fail);go_wp2;go_ret2;refine⟨?_,HE.o.drewN _⟩;rw[HP.o,ar,aN oM];rfl
abbrev eS:=@IntKind.wrap_i64
abbrev fF:=@World.cell?_drew
def Iy(base:Nat)(s:Sl)(n i:Nat)(xs ys:List Value)(w:AB)(e:AC)(w':AB):Prop:=
 ∃s':Sl,e=.returned (.slice s'.a (n+1) s'.c)/\w'.ownsRow base 65 7 (.slice s'.a (n+1) s'.c) (n+1) (xs.take (i*7)++ys++xs.drop (i*7))/\Wr w w' s.row/\(s'.row=s.row\/∃b,s'.row=some b/\w.heap.size<=b)
section
variable{w : AB}{base n i : Nat}{s : Sl}{xs ys : List Value}{vb : Nat}
def io(I:w.ownsRow base 65 7 (.slice s.a n s.c) n xs)(Z:base<=w.heap.size)(hn:n<=1000)(hy:ys.length=7)(hv:AE w vb 65 ys.toArray)(h1:∀u∈ys,u.oneCell'=true) :
  Calls prog 51 #[.slice s.a n s.c,n,.slice (some vb) 1 1] w (Iy base s n n xs ys w):=by
 obtain⟨i0,hi,a7,a5,a2⟩:=eZ Tryz.DK;have N:Rd w (λ_=>True) 7 ⟨some vb,1⟩ 1 ys:=⟨vb,0,.some _ _ _ _ (ao _) oN trivial,by simpa using hy,λj u hj=>by rw[hv.cell];simpa using hj⟩;have a1:xs.take (n*7)++ys++xs.drop (n*7)=xs++ys:=by
  rw[aM (by rw[I.1];exact ao _),bS (by rw[I.1];exact ao _),aY]
 obtain⟨HO,HS,H1,HX⟩:=Ye I N h1 a1;have a3:n+1<=maxLen:=by unfold maxLen;omega
 have a8:n<=s.c:=by
  rcases I.2 with⟨hv,h0⟩ |⟨g,b4,b3,hv,_,_,a9,_⟩
  .omega
  simp only[Value.slice.injEq]at hv;omega
 have b0:((n:Int) ==(n:Int))=true:=oO
 clear I N hv h1 hy a1;obtain⟨sa,sc⟩:=s;dsimp only at *;go_in;go_wp2_with(at_builtin;refine Bq _ rfl _ _ 22 rfl base 65 i0 (.agg #[ByteArray.empty,.int .i64 0,false,.int .i64 0,ByteArray.empty,.slice none 0 0,.slice none 0 0]) 7 104 underlying22 hi a7 a5 a2 rfl oN ⟨sa,sc⟩ n xs rfl HO.o (λ_=>True) ⟨some vb,1⟩ 1 ys rfl HS.o H1.o a3 oM Z ?_;intro s' w1 a0 a4 a6)
 all_goals
  go_ret;refine⟨s',oO,by rw[HX.o];exact a0,a4,?_⟩;rcases a6 with h |⟨h,-⟩
  .exact .inl (by simp[Sl.row,h])
  exact .inr ⟨w,by simp[Sl.row,h],ao _⟩
def jZ{g cap:Nat}{I:Array Value}(a8:xs.length=n*7)(c8:base<=g)(hg:w.heap[g]? = some (.cells I 65 (0,0)))(a5:n+1<=cap)(b0:cap<=maxLen)(c7:I.size=cap*7)(N:I.toList.take (n*7)=xs)
  (hn:n<=1000) (e0:i<n) (hy:ys.length=7) (hv:AE w vb 65 ys.toArray) (b9:vb≠g) (h1:∀u∈ys,u.oneCell'=true) (b3:∀u∈xs,u.oneCell'=true) :
  Calls prog 51 #[.slice (some g) n cap,i,.slice (some vb) 1 1] w (Iy base ⟨some g,cap⟩ n i xs ys w):=by
 obtain⟨i0,hi,e6,a9,d9⟩:=eZ Tryz.DK;have e2:((i:Int) ==(n:Int))=false:=eP.2 oM;have d5:(i:Int)<(n:Int):=oM
 have e3:¬(cap:Int)<(n:Int)+1:=oM
 have d4:(cap:Int)<=9223372036854775807:=by unfold maxLen at b0;omega
 have d7:¬cap=i:=oM
 have e7:¬cap=i+1:=oM
 have e4:IntKind.i64.wrap ((i:Int)+1)=(i:Int)+1:=by rw[eS];omega
 have d8:(0:Int)<=(i:Int)+1:=oM
 have d6:((i:Int)+1).toNat=i+1:=oM
 have d3:i<=n:=oM
 have e1:(i:Int)<=(n:Int)+1:=oM
 have c9:∀lb cb,(callFunc 80 #[.slice (some vb) 1 1,.slice (some ⟨g,(i+1)*7,none⟩) lb cb]).run prog w=.ok (.value (.bool false)) w:=λlb cb=>by
  rw[run_callFunc_extern func80 kM kM kM (e:=Extern.SlicesOverlaps.overlaps #[22,22] #[4]) kM,
   Lib.run_overlaps_apart w 22 4 65 underlying22 7 (λw=>by simp[sizeOf,typeInfo,hi,a9]) vb ⟨g,(i+1)*7,none⟩ 1 1 lb cb b9 65 65 ys.toArray.size I.size (by simp[World.shape?,show w.heap[vb]? = some (.cells ys.toArray 65 (0,0))from hv]) (by simp[World.shape?,hg]) oM (hv.frozen _) (hv.frozen _)]
  rfl
 have a6:(xs.drop (i*7)).length=(n-i)*7:=by rw[az,a8,<-dx]
 have b7:∀j v,(xs.drop (i*7))[j]? = some v->w.drew.cell? ⟨g,i*7+j,none⟩=some v:=λj v hj=>by
  rw[fF,fH w g _ I 65 (0,0) hg];rw[bm,<-N,bv]at hj;split at hj
  .simpa using hj
  cases hj
 obtain⟨Z,a1⟩:∃Z,Z=(I.toList.take ((i+1)*7)++xs.drop (i*7)++I.toList.drop ((i+1)*7+(xs.drop (i*7)).length)).toArray:=⟨_,rfl⟩;obtain⟨W1,a0⟩:∃W1,W1=w.drew.setRow g Z:=⟨_,rfl⟩;have b4:∀ty dc sc,(Builtin.copy_ #[22,22] ty #[.slice (some ⟨g,(i+1)*7,none⟩) (n-i) dc,.slice (some ⟨g,i*7,none⟩) (n+1-i) sc]).run prog w.drew=.ok (goInt (Nat.min (n+1-i) (n-i))) W1:=λty dc sc=>by
  rw[a0,a1];exact Fa w.drew 22 22 ty 65 7 g ((i+1)*7) (n-i) dc ⟨some ⟨g,i*7,none⟩,sc⟩ (n+1-i) I 65 (xs.drop (i*7)) underlying22 (by rw[hi];simp[a9]) hg
   (by rw[a6,show Nat.min (n+1-i) (n-i)=n-i from by simp only[Nat.min_def];split<;>omega]) oO (by rintro b o' ⟨⟩;exact b7) (by rintro a ⟨⟩;rfl) (by rw[a6];omega) (λu hu=>b3 u (aS hu))
 have d0:Z.size=I.size:=by rw[a1];simp;omega
 have a7:W1.heap[g]? = some (.cells Z 65 (0,0)):=by rw[a0];exact fv w.drew g I Z 65 (0,0) hg
 have c6:AE W1 vb 65 ys.toArray:=by rw[a0];exact(fZ w.drew g vb Z b9).trans hv
 obtain⟨A2,a2⟩:∃A2,A2=(Z.toList.take (i*7)++ys++Z.toList.drop (i*7+ys.length)).toArray:=⟨_,rfl⟩;obtain⟨W2,a3⟩:∃W2,W2=W1.setRow g A2:=⟨_,rfl⟩;have b5:∀ty dc,(Builtin.copy_ #[22,22] ty #[.slice (some ⟨g,i*7,none⟩) (n+1-i) dc,.slice (some vb) 1 1]).run prog W1=.ok (goInt (Nat.min 1 (n+1-i))) W2:=λty dc=>by
  rw[a3,a2];exact Fa W1 22 22 ty 65 7 g (i*7) (n+1-i) dc ⟨some vb,1⟩ 1 Z 65 ys underlying22 (by rw[hi];simp[a9]) a7
   (by rw[hy,show Nat.min 1 (n+1-i)=1 from by simp only[Nat.min_def];split<;>omega]) oO (by rintro b o' ⟨⟩;exactλj v hj=>by rw[c6.cell];simpa using hj) (by rintro a ⟨⟩;rfl) oM h1
 have b8:W2.heap[g]? = some (.cells A2 65 (0,0)):=by rw[a3];exact fv W1 g Z A2 65 (0,0) a7
 have b6:Wr w W2 (some g):=by
  rw[a3,a0];exact((Wr.refl w (some g)).drew.trans (gJ w.drew Z) (λi hi=>.inl hi)).trans (gJ (w.drew.setRow g Z) A2) (λi hi=>.inl hi)
 have a4:W2.ownsRow base 65 7 (.slice (some g) (n+1) cap) (n+1) (xs.take (i*7)++ys++xs.drop (i*7)):=by
  refine⟨by simp[a8,hy];omega,.inr ⟨g,cap,A2,rfl,c8,b8,a5,b0,by rw[a2];simp;omega,?_⟩⟩;rw[a2,a1];exact VX I.toList xs ys (i*7) (n*7) 7 _ _ _ _ _ N.symm hy oM (by rw[aQ];omega) oM rfl oM oM oM
 obtain⟨HF,HW⟩:=Yb a4 b6;clear a4 b6 b8 a7 c6 d0 a3 a0 a2 a1 b7 a6 hg hv h1 b3 a8 N c7;go_in;go_wp2_with(simp only[c9]);go_region_law (refine J7 _ rfl _ _ 22 22 rfl _ _ (by simp[Act.eval,Act.put]) (by simp[Act.eval,Act.put]) (b4 _ _ _) ?_);go_wp2_with(at_builtin;refine JU _ rfl _ _ 22 22 rfl _ _ rfl rfl (b5 _ _) ?_);go_ret;exact⟨⟨some g,cap⟩,rfl,HF.o,HW.o,.inl rfl⟩
def ju{g cap:Nat}{a5:Array Value}(a1:xs.length=n*7)(b6:base<=w.heap.size)(hg:w.heap[g]? = some (.cells a5 65 (0,0)))(f4:n<=cap)(b5:cap<n+1)(d8:a5.size=cap*7)(N:a5.toList.take (n*7)=xs)
  (hn:n<=1000) (f3:i<n) (hy:ys.length=7) (hv:AE w vb 65 ys.toArray) (g5:vb≠g) (h1:∀u∈ys,u.oneCell'=true) (c7:∀u∈xs,u.oneCell'=true) :
  Calls prog 51 #[.slice (some g) n cap,i,.slice (some vb) 1 1] w (Iy base ⟨some g,cap⟩ n i xs ys w):=by
 obtain⟨i0,hi,e0,b8,d5⟩:=eZ Tryz.DK;have g3:((i:Int) ==(n:Int))=false:=eP.2 oM;have e7:(i:Int)<(n:Int):=oM
 have f5:(cap:Int)<(n:Int)+1:=oM
 have f8:¬cap=i:=oM
 have f6:IntKind.i64.wrap ((i:Int)+1)=(i:Int)+1:=by rw[eS];omega
 have f2:(0:Int)<=(i:Int)+1:=oM
 have f7:((i:Int)+1).toNat=i+1:=oM
 have e8:i<=n:=oM
 have f9:(i:Int)<=(n:Int):=oM
 have g4:(i:Int)+1<=(n:Int)+1:=oM
 have d9:g<w.heap.size:=fU hg;have e1:vb<w.heap.size:=hv.lt;obtain⟨G,hG⟩:∃G,G=grownCap w (n+1) cap 65:=⟨_,rfl⟩;have e6:n+1<=G:=by rw[hG];exact grownCap_ge w _ _ _
 have f1:G<=9223372036854775807:=by
  have:=grownCap_le_maxLen w (n+1) cap 65 (by unfold maxLen;omega);rw[<-hG]at this;unfold maxLen at this;omega
 have b4:i+(n+1-i)=n+1:=oM
 obtain⟨I,a0⟩:∃I:Array Value,I=(xs.take (i*7)).toArray++Builtin.zeroCells ((.agg #[ByteArray.empty,.int .i64 0,false,.int .i64 0,ByteArray.empty,.slice none 0 0,.slice none 0 0]):Value).cells (n+1-i)++Builtin.zeroCells ((.agg #[ByteArray.empty,.int .i64 0,false,.int .i64 0,ByteArray.empty,.slice none 0 0,.slice none 0 0]):Value).cells (G -(n+1)):=⟨_,rfl⟩;have e3:I.size=G*7:=by
  rw[a0];simp only[Array.size_append,List.size_toArray,size_zeroCells,List.length_take,a1];rw[show((.agg #[ByteArray.empty,.int .i64 0,false,.int .i64 0,ByteArray.empty,.slice none 0 0,.slice none 0 0]):Value).cells.size=7 from rfl];omega
 have c6:I.toList.take (i*7)=xs.take (i*7):=by
  rw[a0];simp only[Array.toList_append,List.append_assoc];rw[bn (by simp[a1];omega),aM (by simp;omega)]
 obtain⟨W1,a2⟩:∃W1,W1=w.drew.alloc (.cells I 65):=⟨_,rfl⟩;have e2:∀ty,(Builtin.append_ #[22,3] ty #[.slice (some g) i cap,.int .i64 ((n:Int)+1 -(i:Int))]).run prog w=.ok (.slice (some w) (n+1) G) W1:=λty=>by
  have d6:(Builtin.firstCells i0.size i (.slice (some g) i cap)).run prog w.drew=.ok (xs.take (i*7)).toArray w.drew:=by
   rw[b8];exact run_firstCells_some w.drew 7 i g i cap (xs.take (i*7)) (by rw[au];omega) (λj v Z=>by
    rw[Cb,aF,fF,fH w g _ a5 65 (0,0) hg];rw[bv]at Z;split at Z
    ·rw [←N,bv] at Z
     split at Z
     .simpa using Z
     cases Z
    cases Z)
  have h:=Lib.run_append_grow_zeros w 22 3 ty 65 i0 _ .i64 .i64 underlying22 underlying3 hi e0 (some g) i cap (xs.take (i*7)) d6 (n+1-i) oM oM oM oM (by rw[d5];omega) (by rw[d5,b4];exact growslice_fits b5 oM);rw[b4,<-hG,<-a0,<-a2]at h;rw[show(n:Int)+1 -(i:Int)=((n+1-i:Nat):Int)from oM];exact h
 have b3:W1.heap[w.heap.size]? = some (.cells I 65 (0,0)):=by rw[a2];exact fP w.drew _
 have a3:∀k,k<w.heap.size->W1.heap[k]? = w.heap[k]?:=λk hk=>by rw[a2];exact fe w.drew _ k hk
 have d4:AE W1 vb 65 ys.toArray:=(a3 vb e1).trans hv;obtain⟨A1,a6⟩:∃A1,A1=(I.toList.take (i*7)++ys++I.toList.drop (i*7+ys.length)).toArray:=⟨_,rfl⟩;have e4:A1.size=G*7:=by rw[a6];simp;omega
 obtain⟨W2,a4⟩:∃W2,W2=W1.setRow w.heap.size A1:=⟨_,rfl⟩;have d0:∀ty dc,(Builtin.copy_ #[22,22] ty #[.slice (some ⟨w.heap.size,i*7,none⟩) (n+1-i) dc,.slice (some vb) 1 1]).run prog W1=.ok (goInt (Nat.min 1 (n+1-i))) W2:=λty dc=>by
  rw[a4,a6];exact Fa W1 22 22 ty 65 7 w.heap.size (i*7) (n+1-i) dc ⟨some vb,1⟩ 1 I 65 ys underlying22 (by rw[hi];simp[b8]) b3
   (by rw[hy,show Nat.min 1 (n+1-i)=1 from by simp only[Nat.min_def];split<;>omega]) oO (by rintro b o' ⟨⟩;exactλj v Z=>by rw[d4.cell];simpa using Z) (by rintro a ⟨⟩;rfl) oM h1
 have b9:W2.heap[w.heap.size]? = some (.cells A1 65 (0,0)):=by rw[a4];exact fv W1 _ I A1 65 (0,0) b3
 have a9:∀k,k<w.heap.size->W2.heap[k]? = w.heap[k]?:=λk hk=>by rw[a4];exact(fZ W1 _ k A1 oM).trans (a3 k hk)
 have b7:(xs.drop (i*7)).length=(n-i)*7:=by rw[az,a1,<-dx]
 have d7:∀j v,(xs.drop (i*7))[j]? = some v->W2.drew.cell? ⟨g,i*7+j,none⟩=some v:=λj v Z=>by
  rw[fF,fH W2 g _ a5 65 (0,0) ((a9 g d9).trans hg)];rw[bm,<-N,bv]at Z;split at Z
  .simpa using Z
  cases Z
 obtain⟨A2,a7⟩:∃A2,A2=(A1.toList.take ((i+1)*7)++xs.drop (i*7)++A1.toList.drop ((i+1)*7+(xs.drop (i*7)).length)).toArray:=⟨_,rfl⟩;obtain⟨W3,a8⟩:∃W3,W3=W2.drew.setRow w.heap.size A2:=⟨_,rfl⟩;have d3:∀ty dc sc,(Builtin.copy_ #[22,22] ty #[.slice (some ⟨w.heap.size,(i+1)*7,none⟩) (n-i) dc,.slice (some ⟨g,i*7,none⟩) (n-i) sc]).run prog W2.drew=.ok (goInt (Nat.min (n-i) (n-i))) W3:=λty dc sc=>by
  rw[a8,a7];exact Fa W2.drew 22 22 ty 65 7 w.heap.size ((i+1)*7) (n-i) dc ⟨some ⟨g,i*7,none⟩,sc⟩ (n-i) A1 65 (xs.drop (i*7)) underlying22 (by rw[hi];simp[b8]) b9
   (by rw[b7,show Nat.min (n-i) (n-i)=n-i from oO]) oO (by rintro b o' ⟨⟩;exact d7) (by rintro a ⟨⟩;rfl) (by rw[b7];omega) (λu hu=>c7 u (aS hu))
 have c9:W3.heap[w.heap.size]? = some (.cells A2 65 (0,0)):=by rw[a8];exact fv W2.drew _ A1 A2 65 (0,0) b9
 have c8:Wr w W3 (some g):=by
  rw[a8,a4,a2];exact(((((Wr.refl w (some g)).drew).alloc I 65).trans (gJ _ A1) (λi hi=>.inr (by injection hi with hi;omega))).drew).trans (gJ _ A2) (λi hi=>.inr (by injection hi with hi;omega))
 have b0:W3.ownsRow base 65 7 (.slice (some w) (n+1) G) (n+1) (xs.take (i*7)++ys++xs.drop (i*7)):=by
  refine⟨by simp[a1,hy];omega,.inr ⟨w.heap.size,G,A2,rfl,b6,c9,e6,by unfold maxLen;omega,by rw[a7];simp;omega,?_⟩⟩;rw[a7,a6];exact UR I.toList xs ys (i*7) (n*7) 7 _ _ _ _ _ c6 a1 hy oM (by rw[aQ];omega) oM rfl oM oM oM
 obtain⟨HF,HW⟩:=Yb b0 c8;clear b0 c8 c9 b9 b3 d4 e4 a8 a4 a2 a7 a6 d7 b7 hg hv h1 c7 a1 N d8 a3 a9 c6 e3 a0 hG b4;have g0:¬(G=i):=oM
 have f0:¬(G=i+1):=oM
 go_in;go_wp2_with(first
  |(at_builtin;refine wpList_append_run _ rfl _ _ 22 3 rfl _ _ rfl rfl (e2 _) ?_)
  |(at_builtin;refine JU _ rfl _ _ 22 22 rfl _ _ rfl rfl (d0 _ _) ?_))
 go_region_law (refine J7 _ rfl _ _ 22 22 rfl _ _ (by simp[Act.eval,Act.put]) (by simp[Act.eval,Act.put]) (d3 _ _ _) ?_);go_wp2;go_ret;exact⟨⟨some w,G⟩,rfl,HF.o,HW.o,.inr ⟨_,rfl,ao _⟩⟩
def RH(I:w.ownsRow base 65 7 (.slice s.a n s.c) n xs)(N:base<=w.heap.size)(hn:n<=1000)(b0:i<=n)(hy:ys.length=7)(hv:AE w vb 65 ys.toArray)(a7:s.row≠some vb)(h1:∀u∈ys,u.oneCell'=true)(a2:∀u∈xs,u.oneCell'=true) :
  Calls prog 51 #[.slice s.a n s.c,i,.slice (some vb) 1 1] w (Iy base s n i xs ys w):=by
 by_cases he:i=n
 .subst he;exact io I N hn hy hv h1
 rcases I.2 with⟨hs,h0⟩ |⟨g,a3,a9,hs,a6,hg,a8,a4,a0,Z⟩
 .omega
 simp only[Value.slice.injEq]at hs;obtain⟨ha,-,hc⟩:=hs;have a1:vb≠g:=λe=>a7 (by simp[Sl.row,ha,e])
 have a5:s=⟨some g,a3⟩:=by cases s;simp_all
 have hl:=I.1;clear I;subst a5;by_cases hr:n+1<=a3
 .exact jZ hl a6 hg hr a4 a0 Z hn oM hy hv a1 h1 a2
 exact ju hl N hg a8 oM a0 Z hn oM hy hv a1 h1 a2
end
abbrev gj:=@and_true
def lh(k:AA)(v:Val)(sl so:Sl)(k':AA)(I:Val)(sl' so':Sl)(w:AB) :
  Calls prog 116 #[B3 k v sl so,B3 k' I sl' so'] w λe w'=>e=.returned (klt k k')/\Ext w w':=by
 go_in;go_wp2;go_ret;exact⟨rfl,((gz w).alloc _ _).alloc _ _⟩
def Dp(xs:List LE):Prop:=∀i x y,xs[i]? = some x->xs[i+1]? = some y->klt x.k y.k=true
def YO(hs:ES w (Lt w) s xs)(hr:Dp xs) :
  Calls prog 115 #[.slice s.a xs.length s.c,.func (.func 116) #[] #[]] w λe w'=>e=.returned true/\Ext w w':=by
 have b0:=hs.few;obtain⟨HS,HR⟩:=Yb hs hr;clear hs hr;go_in;go_wp2_with fail;go_loopw[5] (λq wr=>∃m:Nat,(m+1<=xs.length\/m=0)/\q=.int .i64 ((m:Int)+1)/\Ext w wr) (λq _=>xs.length -(intOf q).toNat)
 case atStart=>exact⟨0,.inr rfl,rfl,gz _⟩
 obtain⟨m,hj,rfl,hx⟩:=hrel;by_cases a8:m+1<xs.length
 ·obtain ⟨x,a0⟩:∃ x,xs[m]? = some x:=⟨_,ac oM⟩
  obtain⟨y,a2⟩:∃y,xs[m+1]? = some y:=⟨_,ac a8⟩;obtain⟨b,o,ha,I,b3,b5,a4,hv,-⟩:=HS.o.at a0;obtain⟨b',o',a1,-,-,-,Z,a5,-⟩:=HS.o.at a2;rw[ha]at a1;simp only[Option.some.injEq,Addr.mk.injEq,and_true]at a1;obtain⟨rfl,rfl⟩:=a1;have N:Agree (Lt w) w wr:=hx.agree λ_ h=>h
  obtain⟨v0,v1,v2,v3,v4,v5⟩:=(hv.agree N I).m;have vk:=(N.cell I).trans a4;obtain⟨u0,u1,u2,u3,u4,u5⟩:=(a5.agree N I).m;have uk:=(N.cell I).trans Z;have a3:=HR.o m x y a0 a2;have HK:=hY a3;rw[ha];have b8:(m:Int)+1<(xs.length:Int):=oM
  have b7:(m:Int)<(xs.length:Int):=oM
  have b9:IntKind.i64.wrap (m:Int)=(m:Int):=by rw[eS];omega
  have b4:(0:Int)<=(m:Int)+1:=oM
  have b6:((m:Int)+1).toNat=m+1:=oM
  clear a0 a2 a4 Z hv a5 N ha a3;go_wp2_with fail;have a9:b<wr:=ab I hx.size;go_region_held3 (λw'=>w'.cell? ⟨b,o+m*7,none⟩=some (.string x.k)/\w'.cell? ⟨b,o+m*7+1,none⟩=some (.int .i64 x.v.kind)/\w'.cell? ⟨b,o+m*7+2,none⟩=some (.bool x.v.b)/\w'.cell? ⟨b,o+m*7+3,none⟩=some (.int .i64 x.v.i)/\w'.cell? ⟨b,o+m*7+4,none⟩=some (.string x.v.t)/\w'.cell? ⟨b,o+m*7+5,none⟩=some (.slice x.sl.a x.v.l.length x.sl.c)/\w'.cell? ⟨b,o+m*7+6,none⟩=some (.slice x.so.a x.v.ok.length x.so.c)/\w'.cell? ⟨b,o+(m+1)*7,none⟩=some (.string y.k)/\w'.cell? ⟨b,o+(m+1)*7+1,none⟩=some (.int .i64 y.v.kind)/\w'.cell? ⟨b,o+(m+1)*7+2,none⟩=some (.bool y.v.b)/\w'.cell? ⟨b,o+(m+1)*7+3,none⟩=some (.int .i64 y.v.i)/\w'.cell? ⟨b,o+(m+1)*7+4,none⟩=some (.string y.v.t)/\w'.cell? ⟨b,o+(m+1)*7+5,none⟩=some (.slice y.sl.a y.v.l.length y.sl.c)/\w'.cell? ⟨b,o+(m+1)*7+6,none⟩=some (.slice y.so.a y.v.ok.length y.so.c)) (go_keep)
   ((go_at_call 116;refine(lh _ _ _ _ _ _ _ _ _).mono ?_;rintro e w' ⟨rfl,a6⟩;have a7:∀o',w'.cell? ⟨b,o',none⟩=wr.cell? ⟨b,o',none⟩:=λo'=>a6.cell a9))
  have hX:=hx.trans ((gz wr).drew.trans a6);have HX:=hY hX;clear hX a7;rw[HK.o];go_wp2_with fail;go_roundw
  case rel=>exact⟨m+1,.inl oM,by go_num,HX.o⟩
  simp[intOf];omega
 go_wp2_with fail;go_ret;exact⟨rfl,hx⟩
variable{w2 w3:AB}{s':Sl}
def Rf{xs I:List LE}{a:Nat}{f l:AA}(hX:Ext w w2)(Z:Ext w2 w3)(hm:I.map LE.ent=xs.map LE.ent)(hB:w.heap.size<=B)(ho:OE w2 B s' I)
  (ha:w2<=a) (hf:f=Az (xs.map LE.ent)) (hl:l=BZ (xs.map LE.ent)) (N:AE w3 a 138 #[.slice s'.a I.length s'.c,.slice none 0 0,.int .i64 0,.int .i64 I.length,.string f,.string l,.bool false]) :
  AJ w3 (In w.heap.size w3.heap.size) 0 (a,xs.map LE.ent):=
 ⟨⟨Nat.le_trans hX.size ha,N.lt⟩,s',I,by subst hf hl;exact N,(ho.es.agree (Z.agree λ_ h=>h.2)).mono λ_ h=>⟨Nat.le_trans hB h.1,ab h.2 Z.size⟩,hm⟩
def Vv(es:List AD)(w:AB)(e:AC)(w':AB):Prop:=
 ∃a:Nat,e=.returned (.tuple #[.pointer (some ⟨a,0,none⟩),.int .i64 0])/\w.heap.size<=a/\AJ w' (In w.heap.size w'.heap.size) 0 (a,es)/\Ext w w'
def Ws(hs:ES w (Lt w) s xs)(hr:Dp xs)(h8:xs.length<=8) :
  Calls prog 82 #[.slice s.a xs.length s.c] w (Vv (xs.map LE.ent) w):=by
 have HS:=hY hs;have a4:=YO hs hr;have hg:¬(8:Int)<(xs.length:Int):=oM
 have c8:decide ((8:Int)<(xs.length:Int))=false:=by simp;omega
 have a8:∀W,Ext w W->Calls prog 77 #[.slice s.a xs.length s.c] W (VY xs W):=λW hW=>
  Ul ((HS.o.agree (hW.agree λ_ h=>h)).mono λi hi=>ab hi hW.size)
 have HC:=hY a8;clear hs a8 hr;go_in;go_wp2_with fail;refine a4.mono ?_;rintro e w1 ⟨rfl,I⟩;go_wp2_with fail;refine(HC.o w1 I).mono ?_;rintro e w2 ⟨s',b3,rfl,hm,ho,Z⟩;obtain⟨HM,HO⟩:=Yb hm ho;have N:b3.length=xs.length:=by have:=congrArg List.length hm;simpa using this
 have HL:=hY N;have hX:=I.trans Z;have HX:=hY hX;have a6:=I.size;by_cases h0:0<xs.length
 ·obtain ⟨x,a3⟩:∃ x,xs[0]? = some x:=⟨_,ac h0⟩
  obtain⟨y,a2⟩:∃y,xs[xs.length-1]? = some y:=⟨_,ac oM⟩;obtain⟨b,o,ha,a5,b5,b7,a1,-⟩:=HS.o.at a3;obtain⟨b',o',a0,-,-,-,a7,-⟩:=HS.o.at a2;rw[ha]at a0;simp only[Option.some.injEq,Addr.mk.injEq,and_true]at a0;obtain⟨rfl,rfl⟩:=a0;rw[cH,cA]at a1;have vk:=(hX.cell a5).trans a1;have vl:=(hX.cell a5).trans a7;have c6:b<w2:=ab a5 hX.size;have hf:Az (xs.map LE.ent)=x.k:=by rw[Az,List.head?_map,List.head?_eq_getElem?,a3];rfl
  have hl:BZ (xs.map LE.ent)=y.k:=by rw[BZ,List.getLast?_map,List.getLast?_eq_getElem?,a2];rfl
  have a9:=hY (And.intro hf hl);have c7:IntKind.i64.wrap ((xs.length:Int)-1)=(xs.length:Int)-1:=by rw[eS];omega
  have b6:(0:Int)<=(xs.length:Int)-1:=oM
  have b4:(xs.length:Int)-1<(xs.length:Int):=oM
  have b9:(0:Int)<(xs.length:Int):=oM
  have b8:((xs.length:Int)-1).toNat=xs.length-1:=oM
  rw[ha];clear hm ho a4 N hX a3 a2 a1 a7 ha hf hl I Z;go_wp2_with fail;go_region
  all_goals go_wp2_with fail
  all_goals go_ret2
  refine⟨w2,rfl,HX.o.size,?_,(HX.o.alloc _ _).drew⟩;refine Rf HX.o (((gz w2).alloc _ _).drew) HM.o a6 HO.o (ao _) a9.o.1.symm a9.o.2.symm ?_;rw[HL.o];exact gB _ _ _
 have b0:xs=[]:=av oM;subst b0;clear hm ho a4 hX I Z;go_wp2_with fail;go_ret2;refine⟨w2,rfl,HX.o.size,?_,HX.o.alloc _ _⟩;refine Rf HX.o ((gz w2).alloc _ _) HM.o a6 HO.o (ao _) (f:=ByteArray.empty) (l:=ByteArray.empty) rfl rfl ?_;rw[HL.o];exact gB _ _ _
def IQ(es:List AD)(w:AB)(e:AC)(w':AB):Prop:=
 ∃t:PT 0,e=.returned (ptr 0 t)/\t.2=es/\w.heap.size<=addr 0 t/\AJ w' (In w.heap.size w'.heap.size) 0 t/\Ext w w'
def Is(hs:ES w (Lt w) s xs)(hn:n=xs.length)(I:Dp xs)(h8:xs.length<=8) :
  Calls prog 53 #[.slice s.a n s.c] w (IQ (xs.map LE.ent) w):=by
 subst hn;have N:=Ws hs I h8;clear hs I;go_in;go_wp2_with fail;refine N.mono ?_;rintro e w' ⟨a,rfl,h1,h2,h3⟩;have Z:=hY h2;clear h2;go_wp2_with fail;go_ret;exact⟨(a,xs.map LE.ent),rfl,rfl,h1,Z.o,h3⟩
def Rd.take{size n:Nat}(h:Rd w F size s n cs){m:Nat}(Z:m<=n):Rd w F size s m (cs.take (m*size)):=by
 obtain⟨b,o,h1,h2,h3⟩:=h;have N:m*size<=n*size:=ci _ Z;refine⟨b,o,?_,by rw[au];omega,λj u I=>h3 j u ?_⟩
 ·cases h1 with
  | nil=>have:m=0:=oM
         subst this;exact .nil _ _
  |some _ c _ _ h hc hb=>exact .some _ c _ _ oM hc hb
  | zero a=>have:m=0:=oM
            subst this;exact .zero a _ _
 rw[bv]at I;split at I
 .exact I
 cases I
def Rd.drop{size n b o c:Nat}(h:Rd w F size ⟨some ⟨b,o,none⟩,c⟩ n cs){m:Nat}(hm:m<=n):Rd w F size ⟨some ⟨b,o+m*size,none⟩,c-m⟩ (n-m) (cs.drop (m*size)):=by
 obtain⟨Z,N,h1,h2,h3⟩:=h;cases h1 with
 | some _ _ _ _ h hc hb=>
   refine⟨b,o+m*size,.some _ _ _ _ oM oM hb,by rw[az,h2,<-dx],λj u I=>?_⟩;rw[bm]at I;rw[bH];exact h3 _ u I
 | zero=>
   obtain rfl:m=0:=oM
   refine⟨Z,N,?_,by rw[az,h2];simp,λj u I=>?_⟩
   .simpa using BV.zero (F:=F) ⟨b,o,none⟩ Z N
   have:cs=[]:=av (by simpa using h2);subst this;simp at I
def ES.take(h:ES w F s xs){m:Nat}(I:m<=xs.length):ES w F s (xs.take m):=
 ⟨by rw[au,bL I,<-IP];exact h.rd.take I,λx N=>h.vals x (bj N),by have:=h.few;rw[au];omega⟩
def ES.drop{b o c:Nat}(h:ES w F ⟨some ⟨b,o,none⟩,c⟩ xs){m:Nat}(I:m<=xs.length):ES w F ⟨some ⟨b,o+m*7,none⟩,c-m⟩ (xs.drop m):=
 ⟨by rw[az,<-IC];exact h.rd.drop I,λx N=>h.vals x (aS N),by have:=h.few;rw[az];omega⟩
def Dp.take(h:Dp xs)(m:Nat):Dp (xs.take m):=λi x y N I=>by
 rw[bv]at N I;split at N<;>split at I
 .exact h i x y N I
 all_goals first|cases N|cases I
def Dp.drop(h:Dp xs)(m:Nat):Dp (xs.drop m):=λi x y N I=>by
 rw[bm]at N I;exact h _ x y N I
def Lv(h:Sorted (xs.map LE.ent)):Dp xs:=λi x y N I=>
 Iv (a:=x.ent) (b:=y.ent) h (dB i) (by rw[ar,N];rfl) (by rw[ar,I];rfl)
def two(h:Nat):List (PT h)->AC
 |[t]=>.returned (.tuple #[ptr h t,.pointer none])
 |[t,u]=>.returned (.tuple #[ptr h t,ptr h u])
 |_=>.returned (.tuple #[])
def chunk{α:Type}(l:List α):List (List α):=if l.length<=8 then[l]else[l.take 4,l.drop 4]
def kU(es:List AD)(w:AB)(e:AC)(w':AB):Prop:=
 ∃ts:List (PT 0),e=two 0 ts/\ts.map Prod.snd=chunk es/\(∀t∈ts,w.heap.size<=addr 0 t/\AJ w' (In w.heap.size w'.heap.size) 0 t)/\Ext w w'
variable{w1:AB}
def IQ.grow{t:PT 0}(h1:Ext w w1)(h2:Ext w2 w3)(N:w1.heap.size<=addr 0 t)(I:AJ w2 (In w1.heap.size w2.heap.size) 0 t):w.heap.size<=addr 0 t/\AJ w3 (In w.heap.size w3.heap.size) 0 t:=
 ⟨Nat.le_trans h1.size N,(I.agree (h2.agree λ_ h=>h.2)).mono λ_ h=>⟨Nat.le_trans h1.size h.1,ab h.2 h2.size⟩⟩
def Um(hs:ES w (Lt w) s xs)(Z:Dp xs)(h8:xs.length<=9) :
  Calls prog 52 #[.slice s.a xs.length s.c,.func (.func 53) #[] #[]] w (kU (xs.map LE.ent) w):=by
 by_cases h:xs.length<=8
 ·have hc:=Is hs rfl Z h
  have hl:(xs.length:Int)<=8:=oM
  clear hs Z;go_in;go_wp2_with fail;refine hc.mono ?_;rintro e w' ⟨t,rfl,h1,h2,h3,h4⟩;have H3:=hY h3;clear h3;go_wp2_with fail;go_ret2;exact⟨[t],rfl,by show[t.2]=_;rw[h1,chunk,eN (by simpa using h)],by simpa using⟨h2,H3.o⟩,h4⟩
 have h9:xs.length=9:=oM
 have a4:=hs.at (i:=0) (x:=xs[0]' oM) (ac oM);obtain⟨b,o,ha,a6,a2,a3,-⟩:=a4;have I:s=⟨some ⟨b,o,none⟩,s.c⟩:=by cases s;simp_all
 have a1:∀W,Ext w W->Calls prog 53 #[.slice (some ⟨b,o,none⟩) 4 s.c] W (IQ ((xs.take 4).map LE.ent) W):=λW hW=>by
  have:=Is (w:=W) (n:=4) (s:=s) (xs:=xs.take 4) (((hs.take (m:=4) oM).agree (hW.agree λ_ h=>h)).mono λi hi=>ab hi hW.size) (by rw[au];omega) (Z.take 4) (by rw[au];omega);rw[I]at this;exact this
 have N:∀W,Ext w W->Calls prog 53 #[.slice (some ⟨b,o+28,none⟩) 5 (s.c-4)] W (IQ ((xs.drop 4).map LE.ent) W):=λW hW=>by
  have a0:=hs;rw[I]at a0;exact Is (w:=W) (n:=5) (s:=⟨some ⟨b,o+28,none⟩,s.c-4⟩) (xs:=xs.drop 4) (((a0.drop (m:=4) oM).agree (hW.agree λ_ h=>h)).mono λi hi=>ab hi hW.size) (by rw[az];omega) (Z.drop 4) (by rw[az];omega)
 obtain⟨HL,HR⟩:=Yb a1 N;clear a1 N hs Z I;rw[ha,h9];rw[h9]at a2;have a5:4<=s.c:=oM
 unfold maxLen at a3;go_in;go_wp2_with fail;go_region_with (first
  |(go_at_call_of 53 (Value.slice (some ⟨b,o,none⟩) 4 s.c);refine(HL.o _ ?_).mono ?_;exact(gz w).drew;rintro e w1 ⟨t,rfl,h1,h2,h3,h4⟩;have H3:=hY h3;clear h3)
  |(go_at_call 53;refine(HR.o _ ?_).mono ?_;exact(gz w).drew.trans h4;rintro e w2 ⟨u,rfl,k1,k2,k3,k4⟩;have K3:=hY k3;clear k3))
 all_goals go_wp2_with fail
 all_goals go_ret2
 have hX:=(gz w).drew.trans h4;refine⟨[t,u],rfl,?_,?_,hX.trans k4⟩
 ·show [t.2,u.2]=_
  rw[h1,k1,chunk,eL (by simp;omega),db,cR]
 intro x hx;rcases aH.1 hx with rfl|hx
 .exact IQ.grow (gz w).drew k4 h2 H3.o
 rcases aH.1 hx with rfl|hx
 .exact IQ.grow hX (gz w2) k2 K3.out
 simp at hx
end Go.Proofs.YtahhllcdbjbpbaaGreatDoor
