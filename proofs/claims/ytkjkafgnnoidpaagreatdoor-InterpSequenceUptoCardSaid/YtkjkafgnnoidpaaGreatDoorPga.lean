/- What the theorem needs of the texts Held, Held2, Mem, Copy, Rows2, Search, Plain, Node, Copies, Entry, Place, InsertE, Leaf: no condition of its own. -/
import Derived.Deep.RegionHeld3
import Derived.Lib.Hide
import Derived.WalkLawsBesides
import Derived.WalkSpells
import Derived.Deep.DeepCutAuto
import Derived.BigQuiet
import Derived.Test.YtkjkafgnnoidpaaGreatDoorProg
import Derived.Shelf.Abstract
import Derived.Lib.Overlaps
import Derived.Deep.RegionLaw
import Derived.Lib.AppendZerosOnto
set_option linter.unusedVariables false
set_option linter.unusedSimpArgs false
set_option linter.unnecessarySimpa false
set_option maxRecDepth 100000
set_option maxHeartbeats 2000000
namespace Go.Proofs.YtkjkafgnnoidpaaGreatDoor
def Yd(p:Prop):Prop:=p
theorem Yd.o{p:Prop}(h:Yd p):p:=h
theorem Yd.out{p:Prop}(h:Yd p):p:=h
theorem hY{p:Prop}(h:p):Yd p:=h
instance zW:Coe World Nat:=⟨λw=>w.heap.size⟩
open Go.Proofs.Tryz
open Go.RowKit
abbrev em:=@if_pos
abbrev ab:=@Nat.lt_of_lt_of_le
abbrev ac:=@List.getElem?_eq_getElem
abbrev ae:=@List.setIfInBounds_toArray
abbrev ah:=@List.getElem?_eq_some_iff
abbrev ai:=@List.length_append
abbrev aj:=@Nat.le_trans
abbrev ak:=@List.set_cons_zero
abbrev al:=@List.mem_of_getElem?
abbrev am:=@List.set_cons_succ
abbrev an:=@Nat.le_refl
abbrev ao:=@List.getElem?_map
abbrev ap:=@List.length_take
abbrev aq:=@List.length_map
abbrev ar:=@List.eq_nil_of_length_eq_zero
abbrev au:=@List.length_drop
abbrev av:=@Nat.zero_le
abbrev aw:=@List.mem_cons_self
abbrev az:=@List.length_cons
abbrev aA:=@Array.getElem?_eq_some_iff
abbrev aB:=@Nat.zero_add
abbrev aC:=@List.mem_of_mem_drop
abbrev aD:=@List.drop_eq_getElem_cons
abbrev aE:=@List.mem_append
abbrev aF:=@List.mem_cons
abbrev aG:=@List.cons_append
abbrev aH:=@Array.length_toList
abbrev aI:=@List.mem_cons_of_mem
abbrev aJ:=@ByteArray.size_append
abbrev aK:=@List.flatMap_append
abbrev aL:=@List.nil_append
abbrev aM:=@List.mem_of_mem_take
abbrev aN:=@List.getElem?_eq_none
abbrev aO:=@List.append_assoc
abbrev aP:=@List.take_length
abbrev aQ:=@Bool.eq_false_or_eq_true
abbrev aR:=@List.map_append
abbrev aS:=@List.map_cons
abbrev aT:=@List.take_succ_cons
abbrev aU:=@List.getElem?_append_right
abbrev aV:=@List.pairwise_cons
abbrev aW:=@List.take_append_of_le_length
abbrev aX:=@List.take_append_drop
abbrev aY:=@List.length_nil
abbrev aZ:=@List.take_add_one
abbrev ba:=@List.flatMap_cons
abbrev bc:=@List.append_nil
abbrev be:=@List.getElem?_drop
abbrev bg:=@List.getElem?_take
abbrev bj:=@List.take_of_length_le
abbrev bm:=@List.getElem?_append_left
abbrev bn:=@Bool.and_eq_true
abbrev bp:=@List.map_nil
abbrev bq:=@Nat.le_of_lt_succ
abbrev br:=@List.mem_singleton
abbrev bu:=@List.size_toArray
abbrev bv:=@List.drop_eq_nil_iff
abbrev bx:=@List.getElem?_of_mem
abbrev bz:=@Nat.min_eq_left
abbrev bA:=@List.filter_cons
abbrev bB:=@List.mem_or_eq_of_mem_set
abbrev bC:=@List.drop_eq_nil_of_le
abbrev bD:=@List.length_range
abbrev bE:=@List.not_mem_nil
abbrev bF:=@Nat.add_assoc
abbrev bG:=@List.getElem?_take_of_lt
abbrev bH:=@List.ext_getElem?
abbrev bI:=@List.map_set
abbrev bJ:=@List.pairwise_map
abbrev bK:=@Bool.false_eq_true
abbrev bL:=@Option.map_some
abbrev bM:=@List.mem_map
abbrev bN:=@Array.getElem?_toList
abbrev bO:=@List.length_set
abbrev bP:=@Array.replicate_succ
abbrev bQ:=@Array.replicate_zero
abbrev bR:=@List.length_eq_zero_iff
abbrev bS:=@List.set_eq_take_append_cons_drop
abbrev bT:=@ByteArray.size_extract
abbrev bU:=@List.isPrefixOf_iff_prefix
abbrev bV:=@List.tail_cons
abbrev bW:=@List.append_toArray
abbrev bX:=@List.mem_filter
abbrev bY:=@List.length_filter_le
abbrev bZ:=@Nat.mul_le_mul_right
abbrev b9:=@Nat.mul_one
abbrev cd:=@Bool.not_eq_true'
abbrev ce:=@List.prefix_iff_eq_take
abbrev cf:=@List.push_toArray
abbrev cg:=@List.filter_sublist
abbrev ci:=@List.toList_toArray
abbrev cm:=@List.length_eq_one_iff
abbrev cp:=@Nat.add_zero
abbrev cq:=@List.drop_length
abbrev ct:=@List.mem_flatMap
abbrev cu:=@List.filter_append
abbrev cx:=@List.take_zero
abbrev cy:=@Bool.and_eq_false_iff
abbrev cz:=@List.length_singleton
abbrev cA:=@List.map_map
abbrev cB:=@List.pairwise_append
abbrev cE:=@Nat.le_succ
abbrev cF:=@Nat.not_succ_le_self
abbrev cG:=@Nat.zero_mul
abbrev cH:=@List.map_drop
abbrev cJ:=@Option.isSome_iff_exists
abbrev cN:=@List.take_take
abbrev cO:=@List.getElem?_set_self
abbrev cQ:=@Nat.le_of_lt
abbrev cR:=@List.headD_cons
abbrev cT:=@List.map_take
abbrev cU:=@Array.getElem?_modify
abbrev cV:=@List.Pairwise.sublist
abbrev cW:=@List.drop_length_add_append
abbrev cX:=@List.getElem?_mapIdx
abbrev cY:=@List.getElem?_set_ne
abbrev cZ:=@Array.toList_inj
abbrev dd:=@List.all_eq_true
abbrev de:=@List.map_toArray
abbrev df:=@Nat.lt_succ_self
abbrev dg:=@Nat.sub_self
abbrev dh:=@Array.toList_append
abbrev di:=@List.mem_map_of_mem
abbrev dj:=@List.takeWhile_cons
abbrev dm:=@Nat.lt_irrefl
abbrev dn:=@Option.any_some
abbrev dq:=@Nat.sub_mul
abbrev dt:=@Option.bind_eq_some_iff
abbrev du:=@Array.size_append
abbrev dv:=@ByteArray.data_extract
abbrev dw:=@List.drop_zero
abbrev dx:=@Option.map_eq_some_iff
abbrev dy:=@List.cons_lt_cons_iff
abbrev dz:=@List.set_append_right
abbrev dA:=@List.sizeOf_lt_of_mem
abbrev dB:=@List.prefix_refl
abbrev dC:=@Option.bind_some
abbrev dD:=@Option.getD_some
abbrev dE:=@Bool.or_eq_false_iff
abbrev dF:=@Nat.min_def
abbrev dG:=@List.foldl_cons
abbrev dH:=@List.replicate_succ
abbrev dI:=@Bool.false_and
abbrev dJ:=@List.prefix_append
abbrev dK:=@List.take_left
abbrev dL:=@Option.toList_some
abbrev dM:=@List.drop_sublist
abbrev dN:=@Bool.true_and
abbrev dO:=@ByteArray.ext
abbrev dP:=@Nat.le_add_right
abbrev dQ:=@Nat.lt_or_ge
abbrev dR:=@Nat.mul_comm
abbrev dS:=@Bool.or_eq_true
abbrev dU:=@List.all_append
abbrev dV:=@Nat.not_lt_zero
abbrev dW:=@Option.any_none
abbrev dX:=@Bool.not_false
abbrev dY:=@List.drop_drop
abbrev dZ:=@List.drop_left
abbrev d9:=@List.foldl_nil
abbrev ec:=@Nat.add_mul
abbrev ed:=@Bool.false_or
abbrev ee:=@Prod.ext
section
variable{P : Program}{ops : Array Oper}{Q : Exit -> Act -> World -> Prop}{md : Region.Mode}{S : World -> Prop}
theorem QoK{i:Nat}{I:Oper}{d:Option Tmp}{v:Value}{D:Nat}{z:Array Bool}{a:Act}{w:World}(hi:ops[i]? = some I)(hd:I.dst=d)
  (hs:Region.noSelect ops=true) (L:Region.free md ops z i=true) (J:(Region.ready md ops z).contains i=true)
  (R:∀c a w,Q (.panic c) (a.put d v) w->Q (.panic c) a w) (U:Region.wanted I (yielded ops a.tmps)=true) (hS:S w) (N:∀w,S w->(execOp a.eval I).run P w=.ok (.value v) w)
  (h:wpAnyH P md ops Q S D (z.setIfInBounds i true) (a.put d v) w):wpAnyH P md ops Q S (D+1) z a w:=by
 subst hd;exact wpAnyH_take hi hs L J R (.inl ⟨U,N⟩) hS h
theorem QqN{i:Nat}{I:Oper}{d:Option Tmp}{D:Nat}{z:Array Bool}{a:Act}{w:World}(hi:ops[i]? = some I)(hd:I.dst=d)
  (hs:Region.noSelect ops=true) (L:Region.free md ops z i=true) (J:(Region.ready md ops z).contains i=true)
  (N:∀c a w,Q (.panic c) (a.put d undef) w->Q (.panic c) a w) (R:Region.wanted I (yielded ops a.tmps)=false) (hS:S w)
  (h:wpAnyH P md ops Q S D (z.setIfInBounds i true) (a.put d undef) w):wpAnyH P md ops Q S (D+1) z a w:=by
 subst hd;exact wpAnyH_take hi hs L J N (.inr ⟨R,rfl⟩) hS h
theorem Qag{i:Nat}{J:Oper}{D:Nat}{z:Array Bool}{a:Act}{w:World}(L:Region.ready md ops z=[i])(hi:ops[i]? = some J)(N:Region.wanted J (yielded ops a.tmps)=true)
  (h:∀I:Act->World->Prop,Shut (∀a w,S w->(S w->wpAnyH P md ops Q S D (z.setIfInBounds i true) a w)->I a w)->Oper.wp P J a w I Q):wpAnyH P md ops Q S (D+1) z a w:=
 wpAnyH_ready L (by simp) (AllReadyH.cons hi (λI R=>by rw[em N];exact h I R) AllReadyH.nil)
end
section
variable{P : Program}{ops : Array Oper}{Q : Exit -> Act -> World -> Prop}{md : Region.Mode}{S C : World -> Prop}
theorem QdI(i:Nat)(d:Option Tmp){I:Oper}{D:Nat}{z l':Array Bool}{a J:Act}{w:World}(hS:S w)(h:wpAnyH P md ops Q S D l' J w)
  (hi:ops[i]? = some I:=by rfl) (hd:I.dst=d:=by rfl) (hs:Region.noSelect ops=true:=by kernel_rfl) (N:Region.free md ops z i=true:=by kernel_rfl) (L:(Region.ready md ops z).contains i=true:=by kernel_rfl)
  (U:∀c a w,Q (.panic c) (a.put d undef) w->Q (.panic c) a w:=by exactλ_ _ _ h=>h) (X:Region.wanted I (yielded ops a.tmps)=false:=by rfl)
  (R:z.setIfInBounds i true=l':=by first |(simp only[List.setIfInBounds_toArray,List.set_cons_zero,List.set_cons_succ];rfl)|rfl)
  (Y:a.put d undef=J:=by first |(simp only[Act.put,List.setIfInBounds_toArray,List.set_cons_zero,List.set_cons_succ];rfl)|rfl):wpAnyH P md ops Q S (D+1) z a w:=by
 subst R Y;exact QqN hi hd hs N L U X hS h
theorem Qad(i:Nat)(d:Option Tmp){v:Value}{I:Oper}{D:Nat}{z l':Array Bool}{a L:Act}{w:World}(Z:Yd (∀W,S W->C W))(hS:S w)(h:wpAnyH P md ops Q S D l' L w)
  (hi:ops[i]? = some I:=by rfl) (hd:I.dst=d:=by rfl) (hs:Region.noSelect ops=true:=by kernel_rfl) (R:Region.free md ops z i=true:=by kernel_rfl) (N:(Region.ready md ops z).contains i=true:=by kernel_rfl)
  (X:∀w,C w->(execOp a.eval I).run P w=.ok (.value v) w:=by(intro w a0;go_simp;first|done|with_reducible rfl))
  (Y:∀c a w,Q (.panic c) (a.put d v) w->Q (.panic c) a w:=by exactλ_ _ _ h=>h) (J:Region.wanted I (yielded ops a.tmps)=true:=by rfl)
  (U:z.setIfInBounds i true=l':=by first |(simp only[List.setIfInBounds_toArray,List.set_cons_zero,List.set_cons_succ];rfl)|rfl)
  (hp:a.put d v=L:=by first |(simp only[Act.put,List.setIfInBounds_toArray,List.set_cons_zero,List.set_cons_succ];rfl)|rfl):wpAnyH P md ops Q S (D+1) z a w:=by
 subst U hp;exact QoK hi hd hs R N Y J hS (λw J=>X w (Z.out w J)) h
theorem Qar(i:Nat)(d:Option Tmp){v:Value}{I:Oper}{D:Nat}{z l':Array Bool}{a L:Act}{w:World}(hS:S w)(h:wpAnyH P md ops Q S D l' L w)
  (hi:ops[i]? = some I:=by rfl) (hd:I.dst=d:=by rfl) (hs:Region.noSelect ops=true:=by kernel_rfl) (R:Region.free md ops z i=true:=by kernel_rfl) (N:(Region.ready md ops z).contains i=true:=by kernel_rfl)
  (X:∀w,S w->(execOp a.eval I).run P w=.ok (.value v) w:=by(intro w J;(try dsimp only at J);go_simp;first|done|with_reducible rfl))
  (Y:∀c a w,Q (.panic c) (a.put d v) w->Q (.panic c) a w:=by exactλ_ _ _ h=>h) (Z:Region.wanted I (yielded ops a.tmps)=true:=by rfl)
  (U:z.setIfInBounds i true=l':=by first |(simp only[List.setIfInBounds_toArray,List.set_cons_zero,List.set_cons_succ];rfl)|rfl)
  (hp:a.put d v=L:=by first |(simp only[Act.put,List.setIfInBounds_toArray,List.set_cons_zero,List.set_cons_succ];rfl)|rfl):wpAnyH P md ops Q S (D+1) z a w:=by
 subst U hp;exact QoK hi hd hs R N Y Z hS X h
end
section
variable{P : Program}{ops : Array Oper}{Q : Exit -> Act -> World -> Prop}{md : Region.Mode}{S : World -> Prop}
theorem QlI{i j:Nat}{J N:Oper}{D:Nat}{z:Array Bool}{a:Act}{w:World}(R:Region.ready md ops z=[i,j])(hi:ops[i]? = some J)(X:ops[j]? = some N)(Z:Region.wanted J (yielded ops a.tmps)=true)(U:Region.wanted N (yielded ops a.tmps)=true)
  (h:∀I:Act->World->Prop,Shut (∀a w,S w->(S w->wpAnyH P md ops Q S D (z.setIfInBounds i true) a w)->I a w)->Oper.wp P J a w I Q)
  (Y:∀I:Act->World->Prop,Shut (∀a w,S w->(S w->wpAnyH P md ops Q S D (z.setIfInBounds j true) a w)->I a w)->Oper.wp P N a w I Q):wpAnyH P md ops Q S (D+1) z a w:=
 wpAnyH_ready R (by simp) (AllReadyH.cons hi (λI L=>by rw[em Z];exact h I L) (AllReadyH.cons X (λI L=>by rw[em U];exact Y I L) AllReadyH.nil))
end
abbrev ef:=@if_neg
abbrev ew:=@World.size_alloc
abbrev eI:=@Below.heap_alloc
abbrev eM:=@World.cell?_setCell_same
abbrev eP:=@Below.heap_setCell
abbrev eS:=@World.cell?_of_block
abbrev eX:=@cell_of_row
abbrev fg:=@heap_alloc_new
abbrev fi:=@lt_of_block
structure Ext(w w':World):Prop where
 below:Below w.heap.size w w'
 free:∀b o,w.heap.size<=b->w'.frozen? ⟨b,o,none⟩=false
variable{w:World}
theorem frozen_none{b o:Nat}(h:w<=b):w.frozen? ⟨b,o,none⟩=false:=by
 have:w.heap[b]? = none:=by simp;omega
 simp[World.frozen?,this]
theorem Ext.refl(w:World):Ext w w:=⟨Below.refl _ _,λ_ _ h=>frozen_none h⟩
variable{w':World}
theorem Ext.size(h:Ext w w'):w.heap.size<=w'.heap.size:=h.below.size
theorem Ext.trans{a b c:World}(h:Ext a b)(k:Ext b c):Ext a c:=by
 refine⟨h.below.trans (k.below.mono h.size),λi o hi=>?_⟩;rcases dQ i b.heap.size with z|z
 .rw [k.below.frozen (p:=⟨i,o,none⟩) z];exact h.free i o hi
 exact k.free i o z
theorem Ext.drew{a w:World}(h:Ext a w):Ext a w.drew:=⟨h.below.drew,λb o z=>h.free b o z⟩
theorem Ext.drewN{a w:World}(h:Ext a w)(n:Nat):Ext a (w.drewN n):=⟨below_drewN h.below n,λb o z=>h.free b o z⟩
theorem Ext.alloc{a w:World}(h:Ext a w)(c:Array Value)(t:TypeId):Ext a (w.alloc (.cells c t)):=by
 refine h.trans ⟨(Below.refl _ _).alloc (an _) _,λb o D=>?_⟩;by_cases z:b=w.heap.size
 .subst z;simp
 exact frozen_none (by simp;omega)
theorem Ext.setCell{a w:World}(h:Ext a w){p:Addr}(z:a.heap.size<=p.block)(u:Value):Ext a (w.setCell p u):=
 ⟨h.below.setCell z u,λb o D=>by rw[World.frozen?_setCell];exact h.free b o D⟩
theorem Ext.cell(h:Ext w w'){b o:Nat}(z:b<w):w'.cell? ⟨b,o,none⟩=w.cell? ⟨b,o,none⟩:=h.below.cell (p:=⟨b,o,none⟩) z
theorem Ext.frozen(h:Ext w w'){b o:Nat}(z:b<w):w'.frozen? ⟨b,o,none⟩=w.frozen? ⟨b,o,none⟩:=h.below.frozen (p:=⟨b,o,none⟩) z
theorem Ext.heap(h:Ext w w'){b:Nat}(z:b<w):w'.heap[b]? = w.heap[b]?:=h.below.block b z
theorem Ext.olds(h:Ext w w'):(∀b o,b<w.heap.size->w'.cell? ⟨b,o,none⟩=w.cell? ⟨b,o,none⟩)/\(∀b o,b<w.heap.size->w'.frozen? ⟨b,o,none⟩=w.frozen? ⟨b,o,none⟩):=
 ⟨λ_ _ z=>h.cell z,λ_ _ z=>h.frozen z⟩
def Agree(F:Nat->Prop)(w w':World):Prop:=∀b,F b->w'.heap[b]? = w.heap[b]?
variable{F:Nat->Prop}
theorem Agree.cell(h:Agree F w w'){b o:Nat}(z:F b):w'.cell? ⟨b,o,none⟩=w.cell? ⟨b,o,none⟩:=eS (w:=w) (a:=⟨b,o,none⟩) (h b z)
variable{B:Nat}
theorem Agree.of_below(h:Below B w w')(hF:∀b,F b->b<B):Agree F w w':=λb z=>h.block b (hF b z)
theorem Ext.agree(h:Ext w w')(hF:∀b,F b->b<w):Agree F w w':=Agree.of_below h.below hF
theorem Agree.setCell{F:Nat->Prop}(w:World)(p:Addr)(u:Value)(z:¬F p.block):Agree F w (w.setCell p u):=λb D=>eP w p u b (λe=>z (e▸D))
theorem Agree.alloc(w:World)(o:Obj)(hF:∀b,F b->b<w):Agree F w (w.alloc o):=λb z=>eI w o b (hF b z)
theorem Agree.drewN{F:Nat->Prop}(w:World)(n:Nat):Agree F w (w.drewN n):=λ_ _=>rfl
theorem Agree.trans{a b c:World}(h:Agree F a b)(k:Agree F b c):Agree F a c:=λi hi=>(k i hi).trans (h i hi)
theorem Agree.refl(w:World):Agree F w w:=λ_ _=>rfl
variable{G:Nat->Prop}
theorem Agree.mono{a b:World}(h:Agree F a b)(z:∀i,G i->F i):Agree G a b:=λi hi=>h i (z i hi)
abbrev Lt(n:Nat):Nat->Prop:=λb=>b<n
abbrev In(m n:Nat):Nat->Prop:=λb=>m<=b/\b<n
structure Sl where
 a:Option Addr
 c:Nat
abbrev Sl.none:Sl:=⟨Option.none,0⟩
inductive QeM (F:Nat->Prop):Sl->Nat->Nat->Nat->Prop
 |nil (b o:Nat):QeM F ⟨Option.none,0⟩ 0 b o
 |some (n c b o:Nat) (h:n<=c) (hc:c<=maxLen) (hb:F b):QeM F ⟨Option.some ⟨b,o,Option.none⟩,c⟩ n b o
 |zero (a:Addr) (b o:Nat):QeM F ⟨Option.some a,0⟩ 0 b o
theorem QeM.mono{v:Sl}{n b o:Nat}(h:QeM F v n b o)(z:∀i,F i->G i):QeM G v n b o:=by
 cases h with
 |nil=>exact .nil _ _
 |some _ c _ _ h hc hb=>exact .some _ c _ _ h hc (z _ hb)
 |zero a=>exact .zero a _ _
theorem QeM.fits{v:Sl}{n b o:Nat}(h:QeM F v n b o)(z:0<n):F b:=by
 cases h with
 |nil=>omega
 |some _ c _ _ h hc hb=>exact hb
 |zero a=>omega
theorem QeM.eq{v:Sl}{n b o:Nat}(h:QeM F v n b o)(z:0<n):v.a=Option.some ⟨b,o,Option.none⟩/\n<=v.c/\v.c<=maxLen:=by
 cases h with
 |nil=>omega
 |some _ c _ _ h hc hb=>exact⟨rfl,h,hc⟩
 |zero a=>omega
inductive Val where
 |mk (kind:Int) (b:Bool) (i:Int) (t:ByteArray) (l:List Val) (ok:List ByteArray) (ov:List Val)
def Val.kind:Val->Int | .mk k _ _ _ _ _ _=>k
def Val.b:Val->Bool | .mk _ b _ _ _ _ _=>b
def Val.i:Val->Int | .mk _ _ i _ _ _ _=>i
def Val.t:Val->ByteArray | .mk _ _ _ t _ _ _=>t
def Val.l:Val->List Val | .mk _ _ _ _ l _ _=>l
def Val.ok:Val->List ByteArray | .mk _ _ _ _ _ ok _=>ok
def Val.ov:Val->List Val | .mk _ _ _ _ _ _ ov=>ov
theorem Val.Qb7(d:Val):0<SizeOf.sizeOf d:=by cases d;simp only[Val.mk.sizeOf_spec];omega
variable{j:Nat}
theorem Val.Qqm{k:Int}{b:Bool}{i:Int}{t:ByteArray}{l:List Val}{ok:List ByteArray}{ov:List Val}{d:Val}(h:l[j]? = some d):SizeOf.sizeOf d<SizeOf.sizeOf (Val.mk k b i t l ok ov):=by
 have:=dA (al h);simp only[Val.mk.sizeOf_spec];omega
theorem Val.Qqn{k:Int}{b:Bool}{i:Int}{t:ByteArray}{l:List Val}{ok:List ByteArray}{ov:List Val}{d:Val}(h:ov[j]? = some d):SizeOf.sizeOf d<SizeOf.sizeOf (Val.mk k b i t l ok ov):=by
 have:=dA (al h);simp only[Val.mk.sizeOf_spec];omega
structure QaL(w:World)(b o:Nat)(d:Val)(sl so:Sl):Prop where
 c0:w.cell? ⟨b,o,none⟩=some (.int .i64 d.kind)
 c1:w.cell? ⟨b,o+1,none⟩=some (.bool d.b)
 c2:w.cell? ⟨b,o+2,none⟩=some (.int .i64 d.i)
 c3:w.cell? ⟨b,o+3,none⟩=some (.string d.t)
 c4:w.cell? ⟨b,o+4,none⟩=some (.slice sl.a d.l.length sl.c)
 c5:w.cell? ⟨b,o+5,none⟩=some (.slice so.a d.ok.length so.c)
variable{sl so:Sl}
theorem QaL.agree{b o:Nat}{d:Val}(h:QaL w b o d sl so)(z:Agree F w w')(D:F b):QaL w' b o d sl so:=
 ⟨(z.cell D).trans h.c0,(z.cell D).trans h.c1,(z.cell D).trans h.c2,(z.cell D).trans h.c3,(z.cell D).trans h.c4,(z.cell D).trans h.c5⟩
inductive RV (w:World) (F:Nat->Prop):Val->Sl->Sl->Prop
 |mk {kind:Int} {b:Bool} {i:Int} {t:ByteArray} {l:List Val} {ok:List ByteArray} {ov:List Val} {sl so:Sl} (bl fl bo fo:Nat) (cl co:Nat->Sl × Sl)
    (hl:QeM F sl l.length bl fl) (ho:QeM F so ok.length bo fo) (hov:ov.length=ok.length)
    (el:∀j d,l[j]? = some d->QaL w bl (fl+j*6) d (cl j).1 (cl j).2)
    (rl:∀j d,l[j]? = some d->RV w F d (cl j).1 (cl j).2)
    (ek:∀j k,ok[j]? = some k->w.cell? ⟨bo,fo+j*7,none⟩=some (.string k)/\k.size<=maxLen)
    (eo:∀j d,ov[j]? = some d->QaL w bo (fo+j*7+1) d (co j).1 (co j).2)
    (ro:∀j d,ov[j]? = some d->RV w F d (co j).1 (co j).2)
    (bk:(Lit.int .i64 kind).wf=true) (bi:(Lit.int .i64 i).wf=true) (bt:t.size<=maxLen)
    (nl:l.length*88<=140737488355328) (no:ok.length*104<=140737488355328):RV w F (.mk kind b i t l ok ov) sl so
theorem QbS{α:Type}{l:List α}{d:α}(h:l[j]? = some d):0<l.length:=Nat.lt_of_le_of_lt (av _) (ah.1 h).1
theorem RV.agree{d:Val}(h:RV w F d sl so)(D:Agree F w w'):RV w' F d sl so:=by
 induction h with
 | mk bl fl bo fo cl co hl ho hov el rl ek eo ro bk bi bt nl no ihl iho=>
   exact .mk bl fl bo fo cl co hl ho hov (λj d z=>(el j d z).agree D (hl.fits (QbS z))) (λj d z=>ihl j d z) (λj k z=>⟨(D.cell (ho.fits (QbS z))).trans (ek j k z).1,(ek j k z).2⟩)
    (λj d z=>(eo j d z).agree D (ho.fits (hov▸QbS z))) (λj d z=>iho j d z) bk bi bt nl no
theorem RV.mono{d:Val}(h:RV w F d sl so)(D:∀i,F i->G i):RV w G d sl so:=by
 induction h with
 | mk bl fl bo fo cl co hl ho hov el rl ek eo ro bk bi bt nl no ihl iho=>
   exact .mk bl fl bo fo cl co (hl.mono D) (ho.mono D) hov el (λj d z=>ihl j d z) ek eo (λj d z=>iho j d z) bk bi bt nl no
theorem RV.ext{d:Val}(h:RV w F d sl so)(z:Ext w w')(hF:∀b,F b->b<w):RV w' F d sl so:=h.agree (z.agree hF)
structure RVC(w:World)(F:Nat->Prop)(d:Val)(sl so:Sl):Prop where
 rv:RV w F d sl so
 cap:sl.c=d.l.length
theorem RVC.agree{d:Val}(h:RVC w F d sl so)(z:Agree F w w'):RV w' F d sl so:=h.rv.agree z
theorem RVC.mono{d:Val}(h:RVC w F d sl so)(z:∀i,F i->G i):RV w G d sl so:=h.rv.mono z
structure RL(w:World)(F:Nat->Prop)(b o:Nat)(l:List Val)(c:Nat->Sl × Sl):Prop where
 cells:∀j d,l[j]? = some d->QaL w b (o+j*6) d (c j).1 (c j).2
 reads:∀j d,l[j]? = some d->RV w F d (c j).1 (c j).2
structure RO(w:World)(F:Nat->Prop)(b o:Nat)(ok:List ByteArray)(ov:List Val)(c:Nat->Sl × Sl):Prop where
 keys:∀j k,ok[j]? = some k->w.cell? ⟨b,o+j*7,none⟩=some (.string k)/\k.size<=maxLen
 cells:∀j d,ov[j]? = some d->QaL w b (o+j*7+1) d (c j).1 (c j).2
 reads:∀j d,ov[j]? = some d->RV w F d (c j).1 (c j).2
def Qao(wr:World)(B t size n:Nat):Prop:=∃arr,wr.heap[B]? = some (.cells arr t (0,0))/\arr.size=n*size
theorem Qao.agree{B t size n:Nat}(h:Qao w B t size n)(D:Agree F w w')(hF:F B):Qao w' B t size n:=by
 obtain⟨z,h1,h2⟩:=h;exact⟨z,(D B hF).trans h1,h2⟩
theorem Qao.lt{B t size n:Nat}(h:Qao w B t size n):B<w.heap.size:=by obtain⟨z,h1,_⟩:=h;exact fi h1
theorem Qao.frozen{B t size n:Nat}(h:Qao w B t size n)(o:Nat):w.frozen? ⟨B,o,none⟩=false:=by
 obtain⟨z,h1,h2⟩:=h;simp[World.frozen?,h1]
variable{o:Nat}
theorem Qao.cell{B t size n:Nat}(h:Qao w B t size n)(D:o<n*size):∃v,w.cell? ⟨B,o,none⟩=some v:=by
 obtain⟨z,h1,h2⟩:=h;exact⟨z[o]'(by omega),by rw[eX w B o z t (0,0) h1];simp⟩
theorem Qao.setCell{B t size n:Nat}(h:Qao w B t size n)(p:Addr)(u:Value):Qao (w.setCell p u) B t size n:=by
 obtain⟨z,h1,h2⟩:=h;by_cases D:B=p.block
 ·subst D
  refine⟨if p.spot.isSome then z else z.setIfInBounds p.off u,?_,?_⟩
  .simp [World.setCell,Array.getElem?_modify,h1]
  split<;>simp[h2]
 exact⟨z,(eP w p u B D).trans h1,h2⟩
def Blk(w:World)(g:Nat)(t:TypeId)(cs:Array Value):Prop:=w.heap[g]? = some (.cells cs t (0,0))
section
variable{w w' : World}{g : Nat}{t : TypeId}{cs : Array Value}
theorem Blk.lt(h:Blk w g t cs):g<w:=fi h
theorem Blk.cell(h:Blk w g t cs)(i:Nat):w.cell? ⟨g,i,none⟩=cs[i]?:=eX w g i cs t (0,0) h
theorem Blk.frozen(h:Blk w g t cs)(i:Nat):w.frozen? ⟨g,i,none⟩=false:=by
 unfold Blk at h;simp[World.frozen?,h]
theorem Blk.new(w:World)(t:TypeId)(cs:Array Value):Blk (w.alloc (.cells cs t)) w.heap.size t cs:=fg w _
theorem Blk.Qdz(h:Blk w g t cs)(i:Nat)(u:Value):Blk (w.setCell ⟨g,i,none⟩ u) g t (cs.setIfInBounds i u):=by
 unfold Blk at h ⊢;simp[World.setCell,Array.getElem?_modify,h]
theorem Blk.agree(h:Blk w g t cs){F:Nat->Prop}(z:Agree F w w')(hF:F g):Blk w' g t cs:=(z g hF).trans h
theorem Blk.ext(h:Blk w g t cs)(z:Ext w w'):Blk w' g t cs:=(z.heap h.lt).trans h
theorem Blk.alloc(h:Blk w g t cs)(o:Obj):Blk (w.alloc o) g t cs:=(eI w o g h.lt).trans h
theorem Blk.far(h:Blk w g t cs){p:Addr}(z:g≠p.block)(u:Value):Blk (w.setCell p u) g t cs:=(eP w p u g z).trans h
theorem Blk.c6{v0 D J z I L:Value}(h:Blk w g t #[v0,D,J,z,I,L]):w.cell? ⟨g,0,none⟩=some v0/\w.cell? ⟨g,1,none⟩=some D/\w.cell? ⟨g,2,none⟩=some J/\w.cell? ⟨g,3,none⟩=some z/\w.cell? ⟨g,4,none⟩=some I/\w.cell? ⟨g,5,none⟩=some L:=
 ⟨h.cell 0,h.cell 1,h.cell 2,h.cell 3,h.cell 4,h.cell 5⟩
end
theorem Qas(w:World)(z L N:TypeId)(D I J:Array Value):∀W,((w.alloc (.cells D z)).alloc (.cells I L)).alloc (.cells J N)=W->
  Ext w W/\W.heap.size=w.heap.size+3/\Blk W w.heap.size z D/\Blk W (w.heap.size+1) L I/\Blk W (w.heap.size+1+1) N J:=by
 rintro W rfl;refine⟨(((Ext.refl w).alloc _ _).alloc _ _).alloc _ _,by simp,((Blk.new w z D).alloc _).alloc _,?_,?_⟩
 ·have h:=(Blk.new (w.alloc (.cells D z)) L I).alloc (.cells J N)
  rw[ew]at h;exact h
 have h:=Blk.new ((w.alloc (.cells D z)).alloc (.cells I L)) N J;rw[ew,ew]at h;exact h
theorem QgJ(w:World)(I J L R:TypeId)(N z D U:Array Value):∀W,(((w.alloc (.cells N I)).alloc (.cells z J)).alloc (.cells D L)).alloc (.cells U R)=W->
  Ext w W/\W.heap.size=w.heap.size+4/\Blk W w.heap.size I N/\Blk W (w.heap.size+1) J z/\Blk W (w.heap.size+1+1) L D/\Blk W (w.heap.size+1+1+1) R U:=by
 rintro W rfl;obtain⟨h1,h2,X,Z,Y⟩:=Qas w I J L N z D _ rfl;refine⟨h1.alloc _ _,by simp,X.alloc _,Z.alloc _,Y.alloc _,?_⟩;have h:=Blk.new (((w.alloc (.cells N I)).alloc (.cells z J)).alloc (.cells D L)) R U;rw[h2]at h;exact h
theorem Qao.of{B t:Nat}{cs:Array Value}{size n:Nat}(h:Blk w B t cs)(hs:cs.size=n*size):Qao w B t size n:=⟨cs,h,hs⟩
theorem Qao.made{t:TypeId}(cs:Array Value){size n:Nat}(h:cs.size=n*size):Qao (w.alloc (.cells cs t)) w.heap.size t size n:=⟨cs,Blk.new w t cs,h⟩
def QdP(w:World)(b o:Nat)(d:Val)(sl so:Sl):World:=
 (((((w.setCell ⟨b,o,none⟩ (.int .i64 d.kind)).setCell ⟨b,o+1,none⟩ (.bool d.b)).setCell ⟨b,o+2,none⟩ (.int .i64 d.i)).setCell ⟨b,o+3,none⟩ (.string d.t)).setCell ⟨b,o+4,none⟩ (.slice sl.a d.l.length sl.c)).setCell ⟨b,o+5,none⟩ (.slice so.a d.ok.length so.c)
theorem Qbm(w:World)(b o:Nat)(d:Val)(sl so:Sl)(hF:¬F b):Agree F w (QdP w b o d sl so):=
 ((((((Agree.refl w).trans (Agree.setCell _ _ _ hF)).trans (Agree.setCell _ _ _ hF)).trans (Agree.setCell _ _ _ hF)).trans (Agree.setCell _ _ _ hF)).trans (Agree.setCell _ _ _ hF)).trans (Agree.setCell _ _ _ hF)
theorem QdQ(w:World)(b o:Nat)(d:Val)(sl so:Sl):(QdP w b o d sl so).heap.size=w.heap.size:=by simp[QdP]
theorem Ext.QdP{a w:World}(h:Ext a w){b:Nat}(z:a<=b)(o:Nat)(d:Val)(sl so:Sl):Ext a (QdP w b o d sl so):=
 (((((h.setCell (p:=⟨b,_,none⟩) z _).setCell (p:=⟨b,_,none⟩) z _).setCell (p:=⟨b,_,none⟩) z _).setCell (p:=⟨b,_,none⟩) z _).setCell (p:=⟨b,_,none⟩) z _).setCell (p:=⟨b,_,none⟩) z _
theorem Qao.QdP{B t size n:Nat}(h:Qao w B t size n)(b o:Nat)(d:Val)(sl so:Sl):Qao (QdP w b o d sl so) B t size n:=
 (((((h.setCell _ _).setCell _ _).setCell _ _).setCell _ _).setCell _ _).setCell _ _
theorem Qaf(w:World)(b o o':Nat)(u:Value)(h:o≠o'):(w.setCell ⟨b,o,none⟩ u).cell? ⟨b,o',none⟩=w.cell? ⟨b,o',none⟩:=
 World.cell?_setCell_other w _ _ u (λe=>h (congrArg Addr.off e))
theorem QbK(w:World)(b o:Nat)(d:Val)(sl so:Sl)(o':Nat)(h:o'<o\/o+6<=o'):(QdP w b o d sl so).cell? ⟨b,o',none⟩=w.cell? ⟨b,o',none⟩:=by
 unfold QdP;rw[Qaf _ _ _ _ _ (by omega),Qaf _ _ _ _ _ (by omega),Qaf _ _ _ _ _ (by omega),Qaf _ _ _ _ _ (by omega),Qaf _ _ _ _ _ (by omega),Qaf _ _ _ _ _ (by omega)]
theorem Qao.here{B t size n:Nat}(h:Qao w B t size n)(D:o<n*size)(u:Value):(w.setCell ⟨B,o,none⟩ u).cell? ⟨B,o,none⟩=some u:=by
 obtain⟨v,z⟩:=h.cell D;exact eM w _ u z
theorem QjX{B t size n:Nat}(h:Qao w B t size n)(d:Val)(sl so:Sl)(z:o+6<=n*size):QaL (QdP w B o d sl so) B o d sl so:=by
 unfold QdP;refine⟨?_,?_,?_,?_,?_,?_⟩
 ·rw [Qaf _ _ _ _ _ (by omega),Qaf _ _ _ _ _ (by omega),Qaf _ _ _ _ _ (by omega),Qaf _ _ _ _ _ (by omega),Qaf _ _ _ _ _ (by omega)]
  exact h.here (by omega) _
 ·rw [Qaf _ _ _ _ _ (by omega),Qaf _ _ _ _ _ (by omega),Qaf _ _ _ _ _ (by omega),Qaf _ _ _ _ _ (by omega)]
  exact(h.setCell _ _).here (by omega) _
 ·rw [Qaf _ _ _ _ _ (by omega),Qaf _ _ _ _ _ (by omega),Qaf _ _ _ _ _ (by omega)]
  exact((h.setCell _ _).setCell _ _).here (by omega) _
 ·rw [Qaf _ _ _ _ _ (by omega),Qaf _ _ _ _ _ (by omega)]
  exact(((h.setCell _ _).setCell _ _).setCell _ _).here (by omega) _
 ·rw [Qaf _ _ _ _ _ (by omega)]
  exact((((h.setCell _ _).setCell _ _).setCell _ _).setCell _ _).here (by omega) _
 exact(((((h.setCell _ _).setCell _ _).setCell _ _).setCell _ _).setCell _ _).here (by omega) _
theorem QaL.other{b o:Nat}{d:Val}(h:QaL w b o d sl so)(o':Nat)(d':Val)(sl' so':Sl)(hd:o+6<=o'\/o'+6<=o):QaL (QdP w b o' d' sl' so') b o d sl so:=
 ⟨(QbK _ _ _ _ _ _ _ (by omega)).trans h.c0,(QbK _ _ _ _ _ _ _ (by omega)).trans h.c1,(QbK _ _ _ _ _ _ _ (by omega)).trans h.c2,(QbK _ _ _ _ _ _ _ (by omega)).trans h.c3,(QbK _ _ _ _ _ _ _ (by omega)).trans h.c4,(QbK _ _ _ _ _ _ _ (by omega)).trans h.c5⟩
structure Qh5(wr:World)(B t:Nat)(l:List Val)(k:Nat)(f:Nat->Sl × Sl):Prop where
 row:Qao wr B t 6 l.length
 cells:∀j d,j<k->l[j]? = some d->QaL wr B (j*6) d (f j).1 (f j).2
 reads:∀j d,j<k->l[j]? = some d->RV wr (In (B+1) wr.heap.size) d (f j).1 (f j).2
theorem Qh5.start{B t:Nat}{l:List Val}(h:Qao w B t 6 l.length)(f:Nat->Sl × Sl):Qh5 w B t l 0 f:=⟨h,λ_ _ h=>absurd h (by omega),λ_ _ h=>absurd h (by omega)⟩
theorem Qh5.step{wr W:World}{B t k:Nat}{l:List Val}{f:Nat->Sl × Sl}(h:Qh5 wr B t l k f)(L:Ext wr W){d:Val}(hd:l[k]? = some d)(R:RV W (In wr.heap.size W.heap.size) d sl so) :
  Qh5 (QdP W B (k*6) d sl so) B t l (k+1) (λj=>if j=k then(sl,so)else f j):=by
 have N:=h.row.lt;have Y:k<l.length:=(ah.1 hd).1;have I:Qao W B t 6 l.length:=h.row.agree (F:=Lt wr) (L.agree λ_ h=>h) N;refine⟨I.QdP _ _ _ _ _,λj d' U z=>?_,λj d' U z=>?_⟩
 ·by_cases D:j=k
  ·subst D
   obtain rfl:d=d':=by rw[hd]at z;injection z
   simp only[if_pos];exact QjX I _ _ _ (by omega)
  simp only[if_neg D];exact((h.cells j d' (by omega) z).agree (F:=Lt wr) (L.agree λ_ h=>h) N).other _ _ _ _ (by omega)
 have J:Agree (In (B+1) W.heap.size) W (QdP W B (k*6) d sl so):=Qbm _ _ _ _ _ _ (by omega);rw[QdQ];by_cases D:j=k
 ·subst D
  obtain rfl:d=d':=by rw[hd]at z;injection z
  simp only[if_pos];exact(R.mono (λi hi=>⟨by omega,hi.2⟩)).agree J
 simp only[if_neg D];exact(((h.reads j d' (by omega) z).ext L (λb X=>X.2)).mono (λi hi=>⟨hi.1,by have:=L.size;omega⟩)).agree J
variable{n:Nat}
theorem Qh5.done{B t:Nat}{l:List Val}{f:Nat->Sl × Sl}(h:Qh5 w B t l l.length f)(z:n<=B):RL w (In n w.heap.size) B 0 l f:=
 ⟨λj d hd=>by rw[aB];exact h.cells j d (ah.1 hd).1 hd,λj d hd=>(h.reads j d (ah.1 hd).1 hd).mono λi hi=>⟨by omega,hi.2⟩⟩
theorem QaL.m{b o:Nat}{d:Val}(h:QaL w b (o+1) d sl so):w.cell? ⟨b,o+1,none⟩=some (.int .i64 d.kind)/\w.cell? ⟨b,o+2,none⟩=some (.bool d.b)/\w.cell? ⟨b,o+3,none⟩=some (.int .i64 d.i)/\w.cell? ⟨b,o+4,none⟩=some (.string d.t)/\
  w.cell? ⟨b,o+5,none⟩=some (.slice sl.a d.l.length sl.c)/\w.cell? ⟨b,o+6,none⟩=some (.slice so.a d.ok.length so.c):=⟨h.c0,h.c1,h.c2,h.c3,h.c4,h.c5⟩
def Qe8(w:World)(b o:Nat)(k:ByteArray)(d:Val)(sl so:Sl):World:=QdP (w.setCell ⟨b,o,none⟩ (.string k)) b (o+1) d sl so
theorem Qc7(w:World)(b o:Nat)(k:ByteArray)(d:Val)(sl so:Sl)(hF:¬F b):Agree F w (Qe8 w b o k d sl so):=(Agree.setCell _ _ _ hF).trans (Qbm _ _ _ _ _ _ hF)
theorem Qg4(w:World)(b o:Nat)(k:ByteArray)(d:Val)(sl so:Sl):(Qe8 w b o k d sl so).heap.size=w.heap.size:=by simp[Qe8,QdQ]
theorem Ext.Qe8{a w:World}(h:Ext a w){b:Nat}(z:a<=b)(o:Nat)(k:ByteArray)(d:Val)(sl so:Sl):Ext a (Qe8 w b o k d sl so):=(h.setCell (p:=⟨b,_,none⟩) z _).QdP z _ _ _ _
theorem Qao.Qe8{B t size n:Nat}(h:Qao w B t size n)(b o:Nat)(k:ByteArray)(d:Val)(sl so:Sl):Qao (Qe8 w b o k d sl so) B t size n:=(h.setCell _ _).QdP _ _ _ _ _
theorem QbJ(w:World)(b o:Nat)(k:ByteArray)(d:Val)(sl so:Sl)(o':Nat)(h:o'<o\/o+7<=o'):(Qe8 w b o k d sl so).cell? ⟨b,o',none⟩=w.cell? ⟨b,o',none⟩:=by
 unfold Qe8;rw[QbK _ _ _ _ _ _ _ (by omega),Qaf _ _ _ _ _ (by omega)]
theorem Qg3{B t size n:Nat}(h:Qao w B t size n)(k:ByteArray)(d:Val)(sl so:Sl)(z:o+7<=n*size):(Qe8 w B o k d sl so).cell? ⟨B,o,none⟩=some (.string k)/\QaL (Qe8 w B o k d sl so) B (o+1) d sl so:=by
 refine⟨?_,QjX (h.setCell _ _) _ _ _ (by omega)⟩;unfold Qe8;rw[QbK _ _ _ _ _ _ _ (by omega)];exact h.here (by omega) _
theorem QaL.QtL{b o:Nat}{d:Val}(h:QaL w b o d sl so)(o':Nat)(k:ByteArray)(d':Val)(sl' so':Sl)(hd:o+6<=o'\/o'+7<=o):QaL (Qe8 w b o' k d' sl' so') b o d sl so:=
 ⟨(QbJ _ _ _ _ _ _ _ _ (by omega)).trans h.c0,(QbJ _ _ _ _ _ _ _ _ (by omega)).trans h.c1,(QbJ _ _ _ _ _ _ _ _ (by omega)).trans h.c2,(QbJ _ _ _ _ _ _ _ _ (by omega)).trans h.c3,(QbJ _ _ _ _ _ _ _ _ (by omega)).trans h.c4,(QbJ _ _ _ _ _ _ _ _ (by omega)).trans h.c5⟩
structure Qfg(wr:World)(B t:Nat)(ok:List ByteArray)(ov:List Val)(k:Nat)(f:Nat->Sl × Sl):Prop where
 row:Qao wr B t 7 ok.length
 keys:∀j x,j<k->ok[j]? = some x->wr.cell? ⟨B,j*7,none⟩=some (.string x)
 cells:∀j d,j<k->ov[j]? = some d->QaL wr B (j*7+1) d (f j).1 (f j).2
 reads:∀j d,j<k->ov[j]? = some d->RV wr (In (B+1) wr.heap.size) d (f j).1 (f j).2
theorem Qfg.start{B t:Nat}{ok:List ByteArray}{ov:List Val}(h:Qao w B t 7 ok.length)(f:Nat->Sl × Sl):Qfg w B t ok ov 0 f:=⟨h,λ_ _ h=>absurd h (by omega),λ_ _ h=>absurd h (by omega),λ_ _ h=>absurd h (by omega)⟩
theorem Qfg.step{wr W:World}{B t k:Nat}{ok:List ByteArray}{ov:List Val}{f:Nat->Sl × Sl}(h:Qfg wr B t ok ov k f)(R:Ext wr W){x:ByteArray}(N:ok[k]? = some x){d:Val}(hd:ov[k]? = some d)(Z:RV W (In wr.heap.size W.heap.size) d sl so) :
  Qfg (Qe8 W B (k*7) x d sl so) B t ok ov (k+1) (λj=>if j=k then(sl,so)else f j):=by
 have U:=h.row.lt;have hk:k<ok.length:=(ah.1 N).1;have I:Qao W B t 7 ok.length:=h.row.agree (F:=Lt wr) (R.agree λ_ h=>h) U;refine⟨I.Qe8 _ _ _ _ _ _,λj Y X J=>?_,λj d' X D=>?_,λj d' X D=>?_⟩
 ·by_cases z:j=k
  ·subst z
   obtain rfl:x=Y:=by rw[N]at J;injection J
   exact(Qg3 I _ _ _ _ (by omega)).1
  rw[QbJ _ _ _ _ _ _ _ _ (by omega)];exact(R.cell U).trans (h.keys j Y (by omega) J)
 ·by_cases z:j=k
  ·subst z
   obtain rfl:d=d':=by rw[hd]at D;injection D
   simp only[if_pos];exact(Qg3 I _ _ _ _ (by omega)).2
  simp only[if_neg z];exact((h.cells j d' (by omega) D).agree (F:=Lt wr) (R.agree λ_ h=>h) U).QtL _ _ _ _ _ (by omega)
 have L:Agree (In (B+1) W.heap.size) W (Qe8 W B (k*7) x d sl so):=Qc7 _ _ _ _ _ _ _ (by omega);rw[Qg4];by_cases z:j=k
 ·subst z
  obtain rfl:d=d':=by rw[hd]at D;injection D
  simp only[if_pos];exact(Z.mono (λi hi=>⟨by omega,hi.2⟩)).agree L
 simp only[if_neg z];exact(((h.reads j d' (by omega) D).ext R (λb hb=>hb.2)).mono (λi hi=>⟨hi.1,by have:=R.size;omega⟩)).agree L
theorem Qfg.done{B t:Nat}{ok:List ByteArray}{ov:List Val}{f:Nat->Sl × Sl}(h:Qfg w B t ok ov ok.length f)(D:ov.length=ok.length)(I:∀(j:Nat) (x:ByteArray),ok[j]? = some x->x.size<=maxLen)(J:n<=B):RO w (In n w.heap.size) B 0 ok ov f:=
 ⟨λj x z=>⟨by rw[aB];exact h.keys j x (ah.1 z).1 z,I j x z⟩,
   λj d hd=>by rw[aB];exact h.cells j d (by have:=(ah.1 hd).1;omega) hd,λj d hd=>(h.reads j d (by have:=(ah.1 hd).1;omega) hd).mono λi hi=>⟨by omega,hi.2⟩⟩
theorem RL.nil(w:World)(F:Nat->Prop)(b o:Nat)(f:Nat->Sl × Sl):RL w F b o [] f:=⟨λ_ _ h=>by simp at h,λ_ _ h=>by simp at h⟩
theorem RO.nil(w:World)(F:Nat->Prop)(b o:Nat)(f:Nat->Sl × Sl):RO w F b o [] [] f:=⟨λ_ _ h=>by simp at h,λ_ _ h=>by simp at h,λ_ _ h=>by simp at h⟩
theorem QtT{cs:Array Value}(h:cs.size=6):∃N I J D z L,cs=#[N,I,J,D,z,L]:=by
 obtain⟨l⟩:=cs
 match l,h with
 |[N,I,J,D,z,L],_=>exact⟨_,_,_,_,_,_,rfl⟩
theorem RL.agree{b o:Nat}{l:List Val}{f:Nat->Sl × Sl}(h:RL w F b o l f)(z:Agree F w w')(D:0<l.length->F b):RL w' F b o l f:=
 ⟨λj d hd=>(h.cells j d hd).agree z (D (QbS hd)),λj d hd=>(h.reads j d hd).agree z⟩
theorem RL.mono{b o:Nat}{l:List Val}{f:Nat->Sl × Sl}(h:RL w F b o l f)(z:∀i,F i->G i):RL w G b o l f:=⟨h.cells,λj d hd=>(h.reads j d hd).mono z⟩
theorem RO.agree{b o:Nat}{ok:List ByteArray}{ov:List Val}{f:Nat->Sl × Sl}(h:RO w F b o ok ov f)(I:Agree F w w')(z:ov.length=ok.length)(J:0<ok.length->F b):RO w' F b o ok ov f:=
 ⟨λj k D=>⟨(I.cell (J (QbS D))).trans (h.keys j k D).1,(h.keys j k D).2⟩,λj d hd=>(h.cells j d hd).agree I (J (z▸QbS hd)),λj d hd=>(h.reads j d hd).agree I⟩
theorem RV.of{z:Int}{b:Bool}{i:Int}{t:ByteArray}{l:List Val}{ok:List ByteArray}{ov:List Val}{L R J N:Nat}{X U:Nat->Sl × Sl}
  (hl:QeM F sl l.length L R) (ho:QeM F so ok.length J N) (D:ov.length=ok.length) (Y:RL w F L R l X) (I:RO w F J N ok ov U)
  (bk:(Lit.int .i64 z).wf=true) (Z:(Lit.int .i64 i).wf=true) (bt:t.size<=maxLen) (nl:l.length*88<=140737488355328) (no:ok.length*104<=140737488355328):RV w F (.mk z b i t l ok ov) sl so:=
 .mk L R J N X U hl ho D Y.cells Y.reads I.keys I.cells I.reads bk Z bt nl no
variable{P:Program}
theorem Qci(t e:TypeId)(i:TypeInfo)(z:Value)(U:P.underlying t=some (.slice e))(hi:P.info? e=some i)(Y:i.zero=some z)
  (J L:IntKind) (n c:Nat) (X:n<=c) (D:i.bytes*c<=281474976710656) (R:c<=9223372036854775807) (w:World) :
  (Instr.makeSlice t (.int J (n:Int)) (.int L (c:Int))).run P w=.ok (.slice (some ⟨w,0,none⟩) n c) (w.alloc (.cells (madeCells z.cells (c*i.size)) e)):=by
 have N:(i.bytes:Int)*(c:Int)<=281474976710656:=by
  have h:((i.bytes*c:Nat):Int)<=281474976710656:=by omega
  rwa[Int.natCast_mul]at h
 have I:=run_make (P:=P) w t e i z U hi Y J L n c (by omega) (by omega) N (by omega);simp only[Int.toNat_natCast]at I;exact I
abbrev fu:=@Ext.refl
abbrev fx:=@Blk.new
abbrev fA:=@Agree.setCell
abbrev fH:=@Agree.drewN
abbrev eA:=@World.size_setCell
abbrev eD:=@bodyPost_ret
abbrev eG:=@info_parts
theorem Tryz.Qa1:(prog.info? 70).map (λi=>(i.zero,i.size,i.bytes))=some (some (.agg #[.string ByteArray.empty,.int .i64 0,.bool false,.int .i64 0,.string ByteArray.empty,.slice none 0 0,.slice none 0 0]),7,104):=by kernel_rfl
theorem Tryz.QmQ:(prog.info? 121).map (λi=>(i.zero,i.size,i.bytes))=some (some (.agg #[.string ByteArray.empty,.int .i64 0,.bool false,.int .i64 0,.string ByteArray.empty,.slice none 0 0,.slice none 0 0]),7,104):=by kernel_rfl
theorem Tryz.QgL:(prog.info? 28).map (λi=>(i.zero,i.size,i.bytes))=some (some (.agg #[.int .i64 0,.bool false,.int .i64 0,.string ByteArray.empty,.slice none 0 0,.slice none 0 0]),6,88):=by kernel_rfl
abbrev aggV(d:Val)(sl so:Sl):Value:=.agg #[.int .i64 d.kind,.bool d.b,.int .i64 d.i,.string d.t,.slice sl.a d.l.length sl.c,.slice so.a d.ok.length so.c]
def QeJ(d:Val)(w:World)(e:Ending)(w':World):Prop:=
 ∃sl so,e=.returned (aggV d sl so)/\Ext w w'/\RVC w' (In w.heap.size w'.heap.size) d sl so
def Quv(d:Val)(sl so:Sl)(w wc:World):Prop:=
 ∃(sl1:Sl) (B:Nat) (f:Nat->Sl × Sl),Ext w wc/\w.heap.size+3<=wc.heap.size/\Blk wc w.heap.size 28 #[.int .i64 d.kind,.bool d.b,.int .i64 d.i,.string d.t,.slice sl.a d.l.length sl.c,.slice so.a d.ok.length so.c]/\
  (∃cs,Blk wc (w.heap.size+1) 28 cs/\cs.size=6)/\Blk wc (w.heap.size+1+1) 28 #[.int .i64 d.kind,.bool d.b,.int .i64 d.i,.string d.t,.slice sl1.a d.l.length sl1.c,.slice none 0 0]/\
  (QeM (In (w.heap.size+3) wc.heap.size) sl1 d.l.length B 0/\sl1.c=d.l.length)/\RL wc (In (w.heap.size+3) wc.heap.size) B 0 d.l f
def Qt3(d:Val)(sl1:Sl)(B:Nat)(f:Nat->Sl × Sl)(w wc:World):Prop:=
 ∃(so1:Sl) (C:Nat) (g:Nat->Sl × Sl),Ext w wc/\w.heap.size+3<=wc.heap.size/\(∃cs,Blk wc (w.heap.size+1) 28 cs/\cs.size=6)/\
  Blk wc (w.heap.size+1+1) 28 #[.int .i64 d.kind,.bool d.b,.int .i64 d.i,.string d.t,.slice sl1.a d.l.length sl1.c,.slice so1.a d.ok.length so1.c]/\
  (QeM (In (w.heap.size+3) wc.heap.size) sl1 d.l.length B 0/\sl1.c=d.l.length)/\RL wc (In (w.heap.size+3) wc.heap.size) B 0 d.l f/\
  QeM (In (w.heap.size+3) wc.heap.size) so1 d.ok.length C 0/\RO wc (In (w.heap.size+3) wc.heap.size) C 0 d.ok d.ov g
theorem Qga(m:Nat):∀(d:Val),SizeOf.sizeOf d<=m->∀(w:World) (sl so:Sl),RV w (Lt w.heap.size) d sl so->Calls prog 42 #[aggV d sl so] w (QeJ d w):=by
 induction m with
 |zero=>intro d hd;have:=Val.Qb7 d;omega
 |succ m ih=>
 intro d hd w sl so h;have HI:=hY ih;clear ih;obtain⟨i0,hi,i6,k0,g7⟩:=eG Tryz.QgL;obtain⟨j0,hj,g9,j9,j1⟩:=eG Tryz.QmQ;obtain⟨k,b,i,t,l,I,ov⟩:=d;show Calls _ _ #[.agg #[.int .i64 k,.bool b,.int .i64 i,.string t,.slice sl.a l.length sl.c,.slice so.a I.length so.c]] _ _;cases h with
 |mk bl fl bo fo cl co hl ho hov el rl ek eo ro bk bi bt nl no=>
 have f8:∀(j:Nat) (d:Val),l[j]? = some d->SizeOf.sizeOf d<=m:=λj d hj=>bq (ab (Val.Qqm hj) hd)
 have e8:∀(j:Nat) (d:Val),ov[j]? = some d->SizeOf.sizeOf d<=m:=λj d hj=>bq (ab (Val.Qqn hj) hd)
 have f0:=hY f8;have f2:=hY e8;have g0:=hY el;have b3:=hY rl;have e4:=hY ek;have f3:=hY eo;have c1:=hY ro;have c0:=hY hov;clear f8 e8 el rl ek eo ro hov hd;go_in;go_upto_if 14 with fail;go_cut [] (λwc=>Quv (.mk k b i t l I ov) sl so w wc)
 case first=>
  by_cases h0:0<l.length
  ·have c8:=fun W=>Qci (P:=prog) 25 28 i0 _ underlying25 hi i6 .i64 .i64 l.length l.length (an _) (by rw [g7];omega) (by omega) W
   obtain⟨sa,sc⟩:=sl;obtain⟨rfl,g8,i3⟩:=hl.eq h0;have i5:=hl.fits h0;go_wp2_with fail;clear c8;generalize Y:World.alloc _ _=W0;obtain⟨a9,c4,J,D,z,g3⟩:=QgJ w _ _ _ _ _ _ _ _ W0 Y;have a8:=Qao.of g3 (size_madeCells _ _);clear Y g3;go_loopw[23] (λq wr=>∃(j:Nat) (f:Nat->Sl × Sl),j<=l.length/\q=.int .i64 j/\Ext w wr/\Qh5 wr (w.heap.size+1+1+1) 28 l j f/\
     Blk wr w.heap.size 28 #[.int .i64 k,.bool b,.int .i64 i,.string t,.slice (some ⟨bl,fl,none⟩) l.length sc,.slice so.a I.length so.c]/\
     (∃cs,Blk wr (w.heap.size+1) 28 cs/\cs.size=6)/\Blk wr (w.heap.size+1+1) 28 #[.int .i64 k,.bool b,.int .i64 i,.string t,.slice (some ⟨w.heap.size+1+1+1,0,none⟩) l.length l.length,.slice none 0 0])
    (λq _=>l.length -(intOf q).toNat)
   case atStart=>exact⟨0,λ_=>(Sl.none,Sl.none),av _,rfl,a9,Qh5.start a8 _,J,⟨_,D,rfl⟩,z⟩
   obtain⟨j,f,hj,rfl,U,R,J,D,z⟩:=hrel;by_cases b0:j<l.length
   ·obtain ⟨d,hd⟩:∃ d,l[j]? = some d:=⟨_,ac b0⟩
    have a7:Agree (Lt w.heap.size) w wr:=U.agree λ_ h=>h
    obtain⟨v0,v1,v2,v3,v4,v5⟩:=(g0.o j d hd).agree a7 i5;have j7:=z.c6.2.2.2.2.1;have d6:∀W,Ext wr W->Calls prog 42 #[aggV d (cl j).1 (cl j).2] W (QeJ d W):=λW hW=>
     HI.o d (f0.o j d hd) W _ _ (((b3.o j d hd).agree (a7.trans (hW.agree λ_ h=>ab h U.size))).mono λi hi=>ab hi (aj U.size hW.size))
    have HD:=hY hd;have HF:=hY R;have HX:=hY U;have d5:=hY J;have d0:=hY D;have e0:=hY z;have hb:w.heap.size+1+1+1<wr.heap.size:=R.row.lt;have i2:w.heap.size+1+1<wr.heap.size:=by omega
    have g4:w.heap.size+1<wr.heap.size:=by omega
    have i1:¬w.heap.size+1+1+1=wr.heap.size:=by omega
    obtain⟨x0,a9⟩:∃v,wr.cell? ⟨w.heap.size+1+1+1,j*6,none⟩=some v:=R.row.cell (by omega);obtain⟨x1,i8⟩:∃v,wr.cell? ⟨w.heap.size+1+1+1,j*6+1,none⟩=some v:=R.row.cell (by omega);obtain⟨x2,g5⟩:∃v,wr.cell? ⟨w.heap.size+1+1+1,j*6+2,none⟩=some v:=R.row.cell (by omega);obtain⟨x3,c9⟩:∃v,wr.cell? ⟨w.heap.size+1+1+1,j*6+3,none⟩=some v:=R.row.cell (by omega);obtain⟨x4,j3⟩:∃v,wr.cell? ⟨w.heap.size+1+1+1,j*6+4,none⟩=some v:=R.row.cell (by omega);obtain⟨x5,j4⟩:∃v,wr.cell? ⟨w.heap.size+1+1+1,j*6+5,none⟩=some v:=R.row.cell (by omega);have g6:=R.row.frozen;clear hd a7 R U J D z;go_wp2_with fail;go_region_held3 (λw'=>w'.cell? ⟨w.heap.size+1+1,4,none⟩=some (.slice (some ⟨w.heap.size+1+1+1,0,none⟩) l.length l.length)/\w'.cell? ⟨wr.heap.size,0,none⟩=some (.int .i64 d.kind)/\w'.cell? ⟨wr.heap.size,1,none⟩=some (.bool d.b)/\w'.cell? ⟨wr.heap.size,2,none⟩=some (.int .i64 d.i)/\w'.cell? ⟨wr.heap.size,3,none⟩=some (.string d.t)/\w'.cell? ⟨wr.heap.size,4,none⟩=some (.slice (cl j).1.a d.l.length (cl j).1.c)/\w'.cell? ⟨wr.heap.size,5,none⟩=some (.slice (cl j).2.a d.ok.length (cl j).2.c)) (go_keep)
     ((go_at_call 42;refine(d6 _ (((fu wr).alloc _ _).drew)).mono ?_;rintro e w1 ⟨sl,so,rfl,b5,e6⟩;have i4:=b5.olds))
    have X:Ext wr w1:=(((fu wr).alloc _ _).drew).trans b5;have b6:=HF.o.step X (HD.o) (e6.mono λi hi=>⟨Nat.le_trans (by simp) hi.1,hi.2⟩);have e2:=(d5.o.ext X).agree (Qbm w1 (w.heap.size+1+1+1) (j*6) d sl so (F:=λb=>b<w.heap.size+1+1+1) (by omega)) (by omega);have d8:=(e0.o.ext X).agree (Qbm w1 (w.heap.size+1+1+1) (j*6) d sl so (F:=λb=>b<w.heap.size+1+1+1) (by omega)) (by omega);have d4:∃cs,Blk (QdP w1 (w.heap.size+1+1+1) (j*6) d sl so) (w.heap.size+1) 28 cs/\cs.size=6:=by
     obtain⟨cs,h1,h2⟩:=d0.o;exact⟨cs,(h1.ext X).agree (Qbm w1 (w.heap.size+1+1+1) (j*6) d sl so (F:=λb=>b<w.heap.size+1+1+1) (by omega)) (by omega),h2⟩
    have hX:=(HX.o.trans X).QdP (b:=w.heap.size+1+1+1) (by omega) (j*6) d sl so;have e1:=hY b6;clear b6;go_wp2_with fail;go_roundw
    case rel=>exact⟨j+1,_,b0,by go_num,hX,e1.o,e2,d4,d8⟩
    simp[intOf];omega
   obtain rfl:j=l.length:=by omega
   have hz:=R.row.lt;have N:=R.done (n:=w.heap.size+3) (by omega);have H:Quv (.mk k b i t l I ov) ⟨some ⟨bl,fl,none⟩,sc⟩ so w wr:=
    ⟨⟨some ⟨w.heap.size+1+1+1,0,none⟩,l.length⟩,w.heap.size+1+1+1,f,U,by omega,J,D,z,⟨.some _ _ _ _ (an _) (by unfold maxLen;omega) ⟨by omega,hz⟩,rfl⟩,N⟩
   clear N J D z R U;go_wp2_with fail;go_meet;exact H
  obtain rfl:l=[]:=ar (by omega);have hh:decide ((0:Int)<0)=false:=rfl;go_wp2_with fail;generalize f5:World.alloc _ _=W3;obtain⟨c9,k3,J,D,z⟩:=Qas w _ _ _ _ _ _ W3 f5;clear f5;go_meet;exact⟨Sl.none,0,λ_=>(Sl.none,Sl.none),c9,by omega,J,⟨_,D,rfl⟩,z,⟨.nil _ _,rfl⟩,RL.nil _ _ _ _ _⟩
 obtain⟨L,B,f,U,hz,J,D,z,⟨Z,c7⟩,N⟩:=hcut;have b4:=hY c7;clear c7;clear hl f0 g0 b3;obtain⟨-,-,-,-,-,p5⟩:=J.c6;dsimp only[Val.l,Val.ok,Val.ov]at *;go_upto_if 38 with fail;go_cut [] (λwc=>Qt3 (.mk k b i t l I ov) L B f w wc)
 case first=>
  by_cases h0:0<I.length
  ·have c8:=fun W=>Qci (P:=prog) 26 121 j0 _ underlying26 hj g9 .i64 .i64 I.length I.length (an _) (by rw [j1];omega) (by omega) W
   obtain⟨sa,sc⟩:=so;obtain⟨rfl,g8,i3⟩:=ho.eq h0;have f4:=ho.fits h0;have q5:=z.cell 5;have qf:=z.frozen 5;have k2:w.heap.size<wc.heap.size:=by omega
   have j5:=z.lt;simp at q5;go_wp2_with fail;clear c8 q5 qf;generalize Y:World.alloc (World.setCell _ _ _) _=W0;have a9:Ext w W0:=by rw[<-Y];exact(U.setCell (p:=⟨w.heap.size+1+1,5,none⟩) (show w.heap.size<=w.heap.size+1+1 by omega) _).alloc _ _
   have c4:W0.heap.size=wc.heap.size+1:=by rw[<-Y];simp
   have f7:Blk W0 w.heap.size 28 #[.int .i64 k,.bool b,.int .i64 i,.string t,.slice sl.a l.length sl.c,.slice (some ⟨bo,fo,none⟩) I.length sc]:=by rw[<-Y];exact(J.far (show w.heap.size≠w.heap.size+1+1 by omega) _).alloc _
   have f1:∃cs,Blk W0 (w.heap.size+1) 28 cs/\cs.size=6:=by
    obtain⟨cs,h1,h2⟩:=D;rw[<-Y];exact⟨cs,(h1.far (show w.heap.size+1≠w.heap.size+1+1 by omega) _).alloc _,h2⟩
   have f6:Blk W0 (w.heap.size+1+1) 28 #[.int .i64 k,.bool b,.int .i64 i,.string t,.slice L.a l.length L.c,.slice (some ⟨wc.heap.size,0,none⟩) I.length I.length]:=by
    rw[<-Y];exact(z.Qdz 5 _).alloc _
   have a8:Qao W0 wc.heap.size 121 7 I.length:=by
    have h:=Qao.made (w:=wc.setCell ⟨w.heap.size+1+1,5,none⟩ (.slice (some ⟨wc.heap.size,0,none⟩) I.length I.length)) (t:=121) (madeCells #[.string ByteArray.empty,.int .i64 0,.bool false,.int .i64 0,.string ByteArray.empty,.slice none 0 0,.slice none 0 0] (I.length*7)) (size_madeCells _ _);rw[eA]at h;rw[<-Y];exact h
   have c2:Agree (In (w.heap.size+3) wc.heap.size) wc W0:=by
    rw[<-Y];exact(fA wc ⟨w.heap.size+1+1,5,none⟩ _ (show ¬(w.heap.size+3<=w.heap.size+1+1/\w.heap.size+1+1<wc.heap.size)by omega)).trans (Agree.alloc _ _ (λb hb=>by rw[eA];exact hb.2))
   have c3:=N.agree c2 Z.fits;clear N J D z U c2 Y;go_loopw[47] (λq wr=>∃(j:Nat) (g:Nat->Sl × Sl),j<=I.length/\q=.int .i64 j/\Ext w wr/\Qfg wr wc.heap.size 121 I ov j g/\
     Blk wr w.heap.size 28 #[.int .i64 k,.bool b,.int .i64 i,.string t,.slice sl.a l.length sl.c,.slice (some ⟨bo,fo,none⟩) I.length sc]/\
     (∃cs,Blk wr (w.heap.size+1) 28 cs/\cs.size=6)/\Blk wr (w.heap.size+1+1) 28 #[.int .i64 k,.bool b,.int .i64 i,.string t,.slice L.a l.length L.c,.slice (some ⟨wc.heap.size,0,none⟩) I.length I.length]/\
     RL wr (In (w.heap.size+3) wc.heap.size) B 0 l f)
    (λq _=>I.length -(intOf q).toNat)
   case atStart=>exact⟨0,λ_=>(Sl.none,Sl.none),av _,rfl,a9,Qfg.start a8 _,f7,f1,f6,c3⟩
   clear a9 c4 f7 f1 f6 a8 c3 W0;obtain⟨j,g,hj,rfl,U,R,J,D,z,N⟩:=hrel;have i9:wc.heap.size<wr.heap.size:=R.row.lt;by_cases b0:j<I.length
   ·obtain ⟨x,e3⟩:∃ x,I[j]? = some x:=⟨_,ac b0⟩
    obtain⟨d,hd⟩:∃d,ov[j]? = some d:=⟨_,ac (by rw[c0.o];exact b0)⟩;have a7:Agree (Lt w.heap.size) w wr:=U.agree λ_ h=>h
    obtain⟨v0,v1,v2,v3,v4,v5⟩:=((f3.o j d hd).agree a7 f4).m;have vk:=(a7.cell f4).trans (e4.o j x e3).1;have k1:=z.c6.2.2.2.2.2;have d6:∀W,Ext wr W->Calls prog 42 #[aggV d (co j).1 (co j).2] W (QeJ d W):=λW hW=>
     HI.o d (f2.o j d hd) W _ _ (((c1.o j d hd).agree (a7.trans (hW.agree λ_ h=>ab h U.size))).mono λi hi=>ab hi (aj U.size hW.size))
    have HD:=hY hd;have HK:=hY e3;have HF:=hY R;have HX:=hY U;have d5:=hY J;have d0:=hY D;have e0:=hY z;have b3:=hY N;have b7:=hY Z;have i2:w.heap.size+1+1<wr.heap.size:=by omega
    have g4:w.heap.size+1<wr.heap.size:=by omega
    have i1:¬wc.heap.size=wr.heap.size:=by omega
    have j6:¬wc.heap.size=w.heap.size+1+1:=by omega
    obtain⟨x0,a9⟩:∃v,wr.cell? ⟨wc.heap.size,j*7,none⟩=some v:=R.row.cell (by omega);obtain⟨x1,i8⟩:∃v,wr.cell? ⟨wc.heap.size,j*7+1,none⟩=some v:=R.row.cell (by omega);obtain⟨x2,g5⟩:∃v,wr.cell? ⟨wc.heap.size,j*7+2,none⟩=some v:=R.row.cell (by omega);obtain⟨x3,c9⟩:∃v,wr.cell? ⟨wc.heap.size,j*7+3,none⟩=some v:=R.row.cell (by omega);obtain⟨x4,j3⟩:∃v,wr.cell? ⟨wc.heap.size,j*7+4,none⟩=some v:=R.row.cell (by omega);obtain⟨x5,j4⟩:∃v,wr.cell? ⟨wc.heap.size,j*7+5,none⟩=some v:=R.row.cell (by omega);obtain⟨x6,j8⟩:∃v,wr.cell? ⟨wc.heap.size,j*7+6,none⟩=some v:=R.row.cell (by omega);have g6:=R.row.frozen;clear hd e3 a7 R U J D z N Z;go_wp2_with fail;go_region_held3 (λw'=>w'.cell? ⟨w.heap.size+1+1,5,none⟩=some (.slice (some ⟨wc.heap.size,0,none⟩) I.length I.length)/\w'.cell? ⟨wr.heap.size,0,none⟩=some (.string x)/\w'.cell? ⟨wr.heap.size,1,none⟩=some (.int .i64 d.kind)/\w'.cell? ⟨wr.heap.size,2,none⟩=some (.bool d.b)/\w'.cell? ⟨wr.heap.size,3,none⟩=some (.int .i64 d.i)/\w'.cell? ⟨wr.heap.size,4,none⟩=some (.string d.t)/\w'.cell? ⟨wr.heap.size,5,none⟩=some (.slice (co j).1.a d.l.length (co j).1.c)/\w'.cell? ⟨wr.heap.size,6,none⟩=some (.slice (co j).2.a d.ok.length (co j).2.c)) (go_keep)
     ((go_at_call 42;refine(d6 _ (((fu wr).alloc _ _).drew)).mono ?_;rintro e w1 ⟨d3,d7,rfl,b5,e6⟩;have i4:=b5.olds))
    have X:Ext wr w1:=(((fu wr).alloc _ _).drew).trans b5;have hP:∀F:Nat->Prop,¬F wc.heap.size->Agree F w1 (Qe8 w1 wc.heap.size (j*7) x d d3 d7):=λF hF=>Qc7 _ _ _ _ _ _ _ hF
    have b6:=HF.o.step X HK.o HD.o (e6.mono λi hi=>⟨Nat.le_trans (by simp) hi.1,hi.2⟩);have e2:=(d5.o.ext X).agree (hP (λb=>b<wc.heap.size) (by omega)) (by omega);have d8:=(e0.o.ext X).agree (hP (λb=>b<wc.heap.size) (by omega)) (by omega);have d4:∃cs,Blk (Qe8 w1 wc.heap.size (j*7) x d d3 d7) (w.heap.size+1) 28 cs/\cs.size=6:=by
     obtain⟨cs,h1,h2⟩:=d0.o;exact⟨cs,(h1.ext X).agree (hP (λb=>b<wc.heap.size) (by omega)) (by omega),h2⟩
    have hX:=(HX.o.trans X).Qe8 (b:=wc.heap.size) (by omega) (j*7) x d d3 d7;have hR:=(b3.o.agree (X.agree (F:=In (w.heap.size+3) wc.heap.size) (by omega)) b7.o.fits).agree (hP (In (w.heap.size+3) wc.heap.size) (by omega)) b7.o.fits;have e1:=hY b6;have HR:=hY hR;clear b6 hP hR;go_wp2_with fail;go_roundw
    case rel=>exact⟨j+1,_,b0,by go_num,hX,e1.o,e2,d4,d8,HR.o⟩
    simp[intOf];omega
   obtain rfl:j=I.length:=by omega
   have b8:=R.done c0.o (λj x U=>(e4.o j x U).2) (n:=w.heap.size+3) hz;have H:Qt3 (.mk k b i t l I ov) L B f w wr:=
    ⟨⟨some ⟨wc.heap.size,0,none⟩,I.length⟩,wc.heap.size,g,U,by omega,D,z,⟨Z.mono (fun i hi=>⟨hi.1,by have:=hi.2;omega⟩),b4.o⟩,N.mono (fun i hi=>⟨hi.1,by have:=hi.2;omega⟩),
      .some _ _ _ _ (an _) (by unfold maxLen;omega) ⟨hz,i9⟩,b8⟩
   clear b8 N J D z R U;go_wp2_with fail;go_meet;exact H
  obtain rfl:I=[]:=ar (by omega);have hh:decide ((0:Int)<0)=false:=rfl;obtain rfl:ov=[]:=ar c0.o;have H:Qt3 (.mk k b i t l [] []) L B f w wc:=
   ⟨Sl.none,0,λ_=>(Sl.none,Sl.none),U,by omega,D,z,⟨Z,b4.o⟩,N,.nil _ _,RO.nil _ _ _ _ _⟩
  clear N J D z U Z;go_wp2_with fail;go_meet;exact H
 clear U hz J D z Z N ho f2 e4 f3 c1 HI p5;rename_i wd;obtain⟨a6,C,g,U,hz,⟨cs,D,i7⟩,z,⟨Z,-⟩,N,e7,b8⟩:=hcut;dsimp only[Val.kind,Val.b,Val.i,Val.t,Val.l,Val.ok,Val.ov]at *;obtain⟨p0,p1,p2,p3,p4,p5⟩:=z.c6;obtain⟨a0,a1,a2,a3,a4,a5,rfl⟩:=QtT i7;obtain⟨q0,q1,q2,q3,q4,q5⟩:=D.c6;have qf:=D.frozen;have HX:=hY U;have H1:=hY D;have b3:=hY N;have b7:=hY Z;have c1:=hY b8;have f9:=hY e7;clear U D z N Z b8 e7;go_wp2_with fail;have hF:∀F:Nat->Prop,¬F (w.heap.size+1)->Agree F wc (QdP wc (w.heap.size+1) 0 (.mk k b i t l I ov) L a6):=λF h=>Qbm _ _ _ _ _ _ h
 refine eD (v:=.agg #[.int .i64 k,.bool b,.int .i64 i,.string t,.slice L.a l.length L.c,.slice a6.a I.length a6.c]) (by simp[results,results42,go_sem,q0,q1,q2,q3,q4,q5]) rfl ?_;refine⟨L,a6,rfl,HX.o.QdP (b:=w.heap.size+1) (by omega) 0 (.mk k b i t l I ov) L a6,?_,b4.o⟩;have j2:(QdP wc (w.heap.size+1) 0 (.mk k b i t l I ov) L a6).heap.size=wc.heap.size:=QdQ _ _ _ _ _ _;have r1:=b3.o.agree (hF (In (w.heap.size+3) wc.heap.size) (by omega)) b7.o.fits;have r2:=c1.o.agree (hF (In (w.heap.size+3) wc.heap.size) (by omega)) c0.o f9.o.fits;have r3:RV (QdP wc (w.heap.size+1) 0 (.mk k b i t l I ov) L a6) (In (w.heap.size+3) wc.heap.size) (.mk k b i t l I ov) L a6:=RV.of b7.o f9.o c0.o r1 r2 bk bi bt nl no;show RV (QdP wc (w.heap.size+1) 0 (.mk k b i t l I ov) L a6) (In w.heap.size (QdP wc (w.heap.size+1) 0 (.mk k b i t l I ov) L a6).heap.size) _ _ _;rw[j2];exact r3.mono λi hi=>⟨by omega,hi.2⟩
abbrev eJ:=@World.ownsRow_nil
abbrev eN:=@run_underlying
abbrev eQ:=@setRow_heap
abbrev eT:=@Result.andThen_ok
abbrev eY:=@Sem.run_pure
abbrev fa:=@Sem.run_bind
abbrev fh:=@if_true
abbrev fp:=@setRow_other
abbrev fq:=@size_zeroCells
def Rd(w:World)(F:Nat->Prop)(size:Nat)(s:Sl)(n:Nat)(cs:List Value):Prop:=
 ∃b o,QeM F s n b o/\cs.length=n*size/\∀j u,cs[j]? = some u->w.cell? ⟨b,o+j,none⟩=some u
variable{s:Sl}{cs:List Value}
theorem Rd.agree{size:Nat}(h:Rd w F size s n cs)(J:Agree F w w'):Rd w' F size s n cs:=by
 obtain⟨b,o,h1,h2,I⟩:=h;refine⟨b,o,h1,h2,λj u D=>(J.cell (h1.fits ?_)).trans (I j u D)⟩;rcases Nat.eq_zero_or_pos n with z|z
 .subst z;have:=(ah.1 D).1;omega
 exact z
theorem Rd.mono{size:Nat}(h:Rd w F size s n cs)(D:∀i,F i->G i):Rd w G size s n cs:=by
 obtain⟨b,o,h1,h2,z⟩:=h;exact⟨b,o,h1.mono D,h2,z⟩
theorem Rd.nil(w:World)(F:Nat->Prop)(size:Nat):Rd w F size Sl.none 0 []:=⟨0,0,.nil _ _,by simp,λj u h=>by simp at h⟩
theorem Qbu(b o j:Nat):(⟨b,o,none⟩:Addr).add j=⟨b,o+j,none⟩:=by unfold Addr.add;split<;>simp_all
theorem Rd.QaB{w:World}{base e size n c:Nat}{a:Option Addr}{cs:List Value}(h:w.ownsRow base e size (.slice a n c) n cs):Rd w (In base w.heap.size) size ⟨a,c⟩ n cs:=by
 rcases h.2 with⟨z,Y⟩ |⟨g,U,J,z,N,R,D,I,X,Z⟩
 ·simp only [Value.slice.injEq] at z
  obtain⟨rfl,rfl,rfl⟩:=z;have:cs=[]:=ar (by simpa using h.1);subst this;exact Rd.nil _ _ _
 simp only[Value.slice.injEq]at z;obtain⟨rfl,-,rfl⟩:=z;refine⟨g,0,.some _ _ _ _ D I ⟨N,fi R⟩,h.1,λj u L=>?_⟩;have:=h.cells (g:=g) rfl j u L;rw[aB];rw[Addr.add]at this;split at this
 .rename_i h0;subst h0;exact this
 simpa using this
structure Wr(w w':World)(row:Option Nat):Prop where
 grown:w.grownBy w' row
 fz:∀b o,w'.frozen? ⟨b,o,none⟩=w.frozen? ⟨b,o,none⟩
theorem Wr.refl(w:World)(z:Option Nat):Wr w w z:=⟨⟨rfl,rfl,rfl,an _,λ_ _ _=>rfl⟩,λ_ _=>rfl⟩
theorem Wr.below{z:Option Nat}(h:Wr w w' z)(I:B<=w.heap.size)(D:∀k,z=some k->B<=k):Below B w w':=(Below.refl B w).grown h.grown I D
theorem Ext.wr{a w w':World}{z:Option Nat}(h:Ext a w)(k:Wr w w' z)(D:∀i,z=some i->a<=i):Ext a w':=
 ⟨h.below.trans (k.below h.size D),λb o I=>(k.fz b o).trans (h.free b o I)⟩
theorem Wr.agree{z:Option Nat}(h:Wr w w' z)(hF:∀i,F i->i<w)(I:∀k,z=some k->¬F k):Agree F w w':=
 λb D=>h.grown.block b (hF b D) (λe=>I b e.symm D)
theorem QlD(w:World)(c:Array Value)(t:TypeId)(b o:Nat):(w.alloc (.cells c t)).frozen? ⟨b,o,none⟩=w.frozen? ⟨b,o,none⟩:=by
 by_cases h:b=w.heap.size
 .subst h;rw[frozen_none (an _)];simp
 exact World.frozen?_alloc_old w _ _ h
theorem Qju(w:World)(g:Nat)(cs:Array Value)(b o:Nat):(w.setRow g cs).frozen? ⟨b,o,none⟩=w.frozen? ⟨b,o,none⟩:=by
 by_cases h:g=b
 ·subst h
  simp only[World.frozen?,World.setRow,Array.getElem?_modify,if_true];cases z:w.heap[g]? with
  |none=>rfl
  |some ob=>cases ob<;>rfl
 simp only[World.frozen?,World.setRow,Array.getElem?_modify,if_neg h]
def Sl.row(s:Sl):Option Nat:=s.a.map Addr.block
theorem QhV{α:Type}(C xs ys:List α)(p q z a b c d t:Nat)(J:xs=C.take q)(I:ys.length=z)(R:p<=q)(hq:q+z<=C.length)(L:a=p+z)(Z:b=a+(xs.drop p).length)(N:c=p)(hd:d=p+ys.length)(X:t=q+z) :
  ((C.take a++xs.drop p++C.drop b).take c++ys++(C.take a++xs.drop p++C.drop b).drop d).take t=xs.take p++ys++xs.drop p:=by
 subst L Z N hd X;have D:xs.length=q:=by rw[J,ap];omega
 have h1:(C.take (c+z)).length=c+z:=by rw[ap];omega
 have Y:(C.take (c+z)++xs.drop c++C.drop (c+z+(xs.drop c).length)).take c=xs.take c:=by
  rw[aO,aW (by omega),cN,J,cN];congr 1;omega
 have U:(C.take (c+z)++xs.drop c++C.drop (c+z+(xs.drop c).length)).drop (c+ys.length)=xs.drop c++C.drop (c+z+(xs.drop c).length):=by
  rw[aO,I,List.drop_append,h1,dg,dw,bC (by omega),aL]
 rw[Y,U,<-aO,aW (by simp[D,I];omega),bj (by simp[D,I];omega)]
theorem Qjx{α:Type}(C xs ys:List α)(p q z a b c d t:Nat)(R:C.take p=xs.take p)(D:xs.length=q)(I:ys.length=z)(N:p<=q)(Z:q+z<=C.length)(L:c=p+z)(hd:d=c+(xs.drop p).length)(J:a=p)(Y:b=p+ys.length)(U:t=q+z) :
  ((C.take a++ys++C.drop b).take c++xs.drop p++(C.take a++ys++C.drop b).drop d).take t=xs.take p++ys++xs.drop p:=by
 subst J Y L hd U;have h1:(C.take a).length=a:=by rw[ap];omega
 have X:(C.take a++ys++C.drop (a+ys.length)).take (a+z)=xs.take a++ys:=by
  rw[aW (by simp only[List.length_append,h1,I];omega),bj (by simp only[List.length_append,h1,I];omega),R]
 rw[X,aW (by simp[D,I];omega),bj (by simp[D,I];omega)]
section
variable{P : Program}(w : World)
theorem QfL(base:Nat)(t ty e:TypeId)(i:TypeInfo)(z:Value)(size a3:Nat)(ht:P.underlying t=some (.slice e))(hi:P.info? e=some i)(hz:i.zero=some z)
  (a7:i.size=size) (c6:i.bytes=a3) (c2:z.cells.size=size) (_hsz:0<size)
  (s:Sl) (n:Nat) (xs:List Value) (I:w.ownsRow base e size (.slice s.a n s.c) n xs)
  (F:Nat->Prop) (sx:Sl) (m:Nat) (D:List Value) (b5:Rd w F size sx m D) (h1:∀u∈D,u.oneCell'=true)
  (b6:n+m<=maxLen) (Y:(n+m)*a3<=140737488355328) (a6:base<=w.heap.size) :
  ∃(s':Sl) (w':World),(Builtin.append_ #[t,t] ty #[.slice s.a n s.c,.slice sx.a m sx.c]).run P w=.ok (.slice s'.a (n+m) s'.c) w'/\
   w'.ownsRow base e size (.slice s'.a (n+m) s'.c) (n+m) (xs++D)/\Wr w w' s.row/\(s'.a=s.a\/s'.a=some ⟨w,0,none⟩/\Wr w w' none):=by
 subst a7;subst c6;have c0:n+m<=9223372036854775807:=by simp only[maxLen]at b6;omega
 obtain⟨b,o,hs,hl,hc⟩:=b5;have Z:(xs++D).length=(n+m)*i.size:=by rw[ai,I.1,hl,ec]
 have a1:∀(a0:Nat),0<n+m->
   (w.drew.alloc (.cells (xs.toArray++D.toArray++Builtin.zeroCells z.cells (grownCap w (n+m) a0 e -(n+m))) e)).ownsRow base e i.size
     (.slice (some ⟨w,0,none⟩) (n+m) (grownCap w (n+m) a0 e)) (n+m) (xs++D):=by
  intro a0 _;have c1:=grownCap_ge w (n+m) a0 e;have b4:grownCap w (n+m) a0 e<=maxLen:=grownCap_le_maxLen w (n+m) a0 e b6;refine⟨Z,.inr ⟨w,_,_,rfl,a6,fg w.drew _,c1,b4,?_,?_⟩⟩
  ·simp only [Array.size_append,List.size_toArray,size_zeroCells,c2,I.1,hl,←Nat.add_mul]
   congr 1;omega
  simp only[Array.toList_append,List.append_assoc];rw[<-aO,<-Z];exact dK
 have wr:∀(c:Array Value) (b7:Option Nat),Wr w (w.drew.alloc (.cells c e)) b7:=λc b7=>
  ⟨⟨rfl,rfl,rfl,by simp,λk hk _=>eI w.drew _ k hk⟩,λb o=>QlD w.drew c e b o⟩
 cases hs with
 | nil=>
   have hn:D=[]:=ar (by simpa using hl);subst hn;refine⟨s,w,?_,by simpa using I,Wr.refl _ _,.inl rfl⟩;rcases I.2 with⟨N,a9⟩ |⟨g,L,a2,N,_,_,a4,_⟩
   ·simp only [Value.slice.injEq] at N
    obtain⟨R,rfl,J⟩:=N;rw[R,J];simp[Builtin.append_,run_underlying ht,sizeOf,typeInfo,hi,Builtin.lenOf,Builtin.firstCells]
   simp only[Value.slice.injEq]at N;obtain⟨R,-,J⟩:=N;rw[R,J];simp[Builtin.append_,run_underlying ht,sizeOf,typeInfo,hi,Builtin.lenOf,Builtin.firstCells,a4,storeCells]
 | zero ad=>
   have hn:D=[]:=ar (by simpa using hl);subst hn;refine⟨s,w,?_,by simpa using I,Wr.refl _ _,.inl rfl⟩;rcases I.2 with⟨N,a9⟩ |⟨g,L,a2,N,_,_,a4,_⟩
   ·simp only [Value.slice.injEq] at N
    obtain⟨R,rfl,J⟩:=N;rw[R,J];simp[Builtin.append_,run_underlying ht,sizeOf,typeInfo,hi,Builtin.lenOf,Builtin.firstCells,loadCells,loadCellsFrom]
   simp only[Value.slice.injEq]at N;obtain⟨R,-,J⟩:=N;rw[R,J];simp[Builtin.append_,run_underlying ht,sizeOf,typeInfo,hi,Builtin.lenOf,Builtin.firstCells,a4,loadCells,loadCellsFrom,storeCells]
 | some _ c _ _ hmc b4 hb=>
   have U:∀j u,D[j]? = some u->w.cell? ((⟨b,o,none⟩:Addr).add j)=some u:=λj u hj=>by rw[Qbu];exact hc j u hj
   rcases I.2 with⟨N,a9⟩ |⟨g,L,a2,N,c4,hg,a4,b8,c3,a5⟩
   ·simp only [Value.slice.injEq] at N
    obtain⟨R,rfl,J⟩:=N;have hx:xs=[]:=ar (by simpa using I.1);subst hx;by_cases hm:m=0
    ·subst hm
     have hn:D=[]:=ar (by simpa using hl);subst hn;refine⟨Sl.none,w,?_,eJ w base e i.size,Wr.refl _ _,.inl R.symm⟩;rw[R,J];simp[Builtin.append_,run_underlying ht,sizeOf,typeInfo,hi,Builtin.lenOf,Builtin.firstCells,loadCells,loadCellsFrom]
    have hr:=run_append_nil (P:=P) w t ty e i z ht hi hz ⟨b,o,none⟩ m c D hl U (by omega) (by omega) (by have hb:=Y;simp only[Nat.zero_add]at hb;omega);have b0:=a1 0 (by omega);simp only[Nat.zero_add,List.nil_append,Array.empty_append]at b0 ⊢;refine⟨⟨some ⟨w,0,none⟩,grownCap w m 0 e⟩,_,?_,b0,wr _ _,.inr ⟨rfl,wr _ _⟩⟩;rw[R,J];exact hr
   simp only[Value.slice.injEq]at N;obtain⟨R,-,J⟩:=N;by_cases X:n+m<=L
   ·have b3:n*i.size+D.length≤a2.size:=by rw [hl,c3,←ec];exact bZ _ X
    have hr:=run_append_room (P:=P) w t ty e i ht hi g n L a2 hg ⟨b,o,none⟩ m c D hl U h1 X b3;refine⟨⟨some ⟨g,0,none⟩,L⟩,_,by rw[R,J];exact hr,⟨Z,.inr ⟨g,L,_,rfl,c4,eQ w g a2 _ e _ hg,X,b8,?_,?_⟩⟩,
     ⟨⟨rfl,rfl,rfl,by simp,λk _ hk=>fp w g k _ (λe=>hk (by simp[Sl.row,R,e]))⟩,λb o=>Qju _ _ _ _ _⟩,.inl R.symm⟩
    ·simp only [List.size_toArray,List.length_append,List.length_take,List.length_drop,Array.length_toList]
     omega
    rw[a5,<-Z];exact dK
   rw[R,J]at I;have a8:∀j u,xs[j]? = some u->w.cell? ((⟨g,0,none⟩:Addr).add j)=some u:=I.cells (g:=g) rfl;have hr:=run_append_grow (P:=P) w t ty e i z ht hi hz ⟨g,0,none⟩ n L xs I.1 a8 ⟨b,o,none⟩ m c D hl U (by omega) (by omega) (growslice_fits (by omega) Y);refine⟨⟨some ⟨w,0,none⟩,grownCap w (n+m) L e⟩,_,by rw[R,J];exact hr,a1 L (by omega),wr _ _,.inr ⟨rfl,wr _ _⟩⟩
theorem QeH{o:Oper}{a:Act}{K:Act->World->Prop}{Q:Exit->Act->World->Prop}(s' x:Operand)(t:TypeId)
  (ho:o.op=.call { callee:=.builtin .append,args:=#[s',x],argTypes:=#[t,t] })
  (base:Nat) (e:TypeId) (i:TypeInfo) (z:Value) (size D:Nat) (ht:P.underlying t=some (.slice e)) (hi:P.info? e=some i) (hz:i.zero=some z)
  (N:i.size=size) (a0:i.bytes=D) (Z:z.cells.size=size) (Y:0<size)
  (s:Sl) (n:Nat) (xs:List Value) (hs:a.eval s'=.slice s.a n s.c) (R:w.ownsRow base e size (.slice s.a n s.c) n xs)
  (F:Nat->Prop) (X:Sl) (m:Nat) (I:List Value) (hx:a.eval x=.slice X.a m X.c) (U:Rd w F size X m I) (h1:∀u∈I,u.oneCell'=true)
  (a1:n+m<=maxLen) (J:(n+m)*D<=140737488355328) (L:base<=w.heap.size)
  (h:∀(s':Sl) (w':World),w'.ownsRow base e size (.slice s'.a (n+m) s'.c) (n+m) (xs++I)->Wr w w' s.row->(s'.a=s.a\/s'.a=some ⟨w,0,none⟩/\Wr w w' none)->K (a.put o.dst (.slice s'.a (n+m) s'.c)) w'):o.wp P a w K Q:=by
 obtain⟨v',w',hr,h2,h3,h4⟩:=QfL (P:=P) w base t o.type e i z size D ht hi hz N a0 Z Y s n xs R F X m I U h1 a1 J L;unfold Oper.wp execOp;simp only[ho,resolve,invoke,builtin,Sem.run_bind,Sem.run_pure,Result.andThen_ok,List.map_toArray,List.map_cons,List.map_nil,hs,hx,hr];exact h v' w' h2 h3 h4
theorem Qac{ops:Array Oper}{rest:List Oper}{o:Oper}{a:Act}{Q:Exit->Act->World->Prop}(Y:o.guard=none)(s' x:Operand)(t:TypeId)
  (ho:o.op=.call { callee:=.builtin .append,args:=#[s',x],argTypes:=#[t,t] })
  (base:Nat) (e:TypeId) (i:TypeInfo) (z:Value) (size D:Nat) (ht:P.underlying t=some (.slice e)) (hi:P.info? e=some i) (hz:i.zero=some z)
  (N:i.size=size) (a1:i.bytes=D) (a0:z.cells.size=size) (Z:0<size)
  (s:Sl) (n:Nat) (xs:List Value) (hs:a.eval s'=.slice s.a n s.c) (R:w.ownsRow base e size (.slice s.a n s.c) n xs)
  (F:Nat->Prop) (X:Sl) (m:Nat) (I:List Value) (hx:a.eval x=.slice X.a m X.c) (U:Rd w F size X m I) (h1:∀u∈I,u.oneCell'=true)
  (a2:n+m<=maxLen) (J:(n+m)*D<=140737488355328) (L:base<=w.heap.size)
  (h:∀(s':Sl) (w':World),w'.ownsRow base e size (.slice s'.a (n+m) s'.c) (n+m) (xs++I)->Wr w w' s.row->(s'.a=s.a\/s'.a=some ⟨w,0,none⟩/\Wr w w' none)->wpList P ops Q rest (a.put o.dst (.slice s'.a (n+m) s'.c)) w'):wpList P ops Q (o::rest) a w:=
 wpList_plain Y λ_ hK=>QeH w s' x t ho base e i z size D ht hi hz N a1 a0 Z s n xs hs R F X m I hx U h1 a2 J L λv' w' h2 h3 h4=>hK _ _ (h v' w' h2 h3 h4)
end
section
variable{P : Program}(w : World)
theorem QbL(dT sT ty D:TypeId)(size:Nat)(g o I R:Nat)(N:Sl)(m:Nat)(z:Array Value)(t:TypeId)(cs:List Value)
  (hu:P.underlying dT=some (.slice D)) (hs:(P.info? D).map (·.size)=some size)
  (hg:w.heap[g]? = some (.cells z t (0,0))) (hn:cs.length=Nat.min m I*size) (a1:N.a=none->cs=[])
  (Z:∀b o',N.a=some ⟨b,o',none⟩->∀j v,cs[j]? = some v->w.cell? ⟨b,o'+j,none⟩=some v) (L:∀a,N.a=some a->a.spot=none) (U:o+cs.length<=z.size) (h1:∀v∈cs,v.oneCell'=true) :
  (Builtin.copy_ #[dT,sT] ty #[.slice (some ⟨g,o,none⟩) I R,.slice N.a m N.c]).run P w =
    .ok (goInt (Nat.min m I)) (w.setRow g (z.toList.take o++cs++z.toList.drop (o+cs.length)).toArray):=by
 have J:=run_storeCells_at P g o t cs 0 z w hg (by simpa using U) h1;obtain⟨i,X,hi⟩:∃i,P.info? D=some i/\i.size=size:=by
  cases X:P.info? D with
  |none=>simp[X]at hs
  |some i=>exact⟨i,rfl,by simpa[X]using hs⟩
 obtain⟨sa,sc⟩:=N;cases sa with
 | none=>
   have hc:=a1 rfl;subst hc;have a0:(storeCells ⟨g,o,none⟩ []).run P w=.ok () (w.setRow g (z.toList.take o++[]++z.toList.drop (o+0)).toArray):=by simpa using J
   simp[Builtin.copy_,run_underlying hu,Builtin.lenOf,Builtin.firstCells,sizeOf,typeInfo,X,a0]
 | some a=>
   obtain⟨b,o',sp⟩:=a;have Y:=L _ rfl;dsimp only at Y;subst Y;have hl:=run_firstCells_some (P:=P) w size (Nat.min m I) ⟨b,o',none⟩ m sc cs hn (λj v hj=>by rw[Qbu];exact Z b o' rfl j v hj);simp only[Nat.add_zero]at J;simp[Builtin.copy_,run_underlying hu,Builtin.lenOf,sizeOf,typeInfo,X,hi,hl,J]
theorem Qko{o:Oper}{a:Act}{K:Act->World->Prop}{Q:Exit->Act->World->Prop}(d s:Operand)(t z:TypeId)
  (J:o.op=.call { callee:=.builtin .copy,args:=#[d,s],argTypes:=#[t,z] }) (v u:Value) (hd:a.eval d=v) (hs:a.eval s=u) {D:Value} {w':World}
  (I:(Builtin.copy_ #[t,z] o.type #[v,u]).run P w=.ok D w') (h:K (a.put o.dst D) w'):o.wp P a w K Q:=by
 unfold Oper.wp execOp;simp only[J,resolve,invoke,builtin,Sem.run_bind,Sem.run_pure,Result.andThen_ok,List.map_toArray,List.map_cons,List.map_nil,hd,hs,I];exact h
theorem Qcl{ops:Array Oper}{rest:List Oper}{o:Oper}{a:Act}{Q:Exit->Act->World->Prop}(z:o.guard=none)(d s:Operand)(t D:TypeId)
  (N:o.op=.call { callee:=.builtin .copy,args:=#[d,s],argTypes:=#[t,D] }) (v u:Value) (hd:a.eval d=v) (hs:a.eval s=u) {I:Value} {w':World}
  (J:(Builtin.copy_ #[t,D] o.type #[v,u]).run P w=.ok I w') (h:wpList P ops Q rest (a.put o.dst I) w'):wpList P ops Q (o::rest) a w:=
 wpList_plain z λ_ L=>Qko w d s t D N v u hd hs J (L _ _ h)
theorem Qdq{ops:Array Oper}{o:Oper}{a:Act}{K:Act->World->Prop}{Q:Exit->Act->World->Prop}{E:Prop}(z:o.guard=none)(d s:Operand)(t D:TypeId)
  (N:o.op=.call { callee:=.builtin .copy,args:=#[d,s],argTypes:=#[t,D] }) (v u:Value) (hd:a.eval d=v) (hs:a.eval s=u) {I:Value} {w':World}
  (J:(Builtin.copy_ #[t,D] o.type #[v,u]).run P w=.ok I w') (h:K (a.put o.dst I) w') :
  if Region.wanted o (yielded ops a.tmps)=true then Oper.wp P o a w K Q else E:=by
 have L:Region.wanted o (yielded ops a.tmps)=true:=by simp[Region.wanted,z]
 rw[em L];exact Qko w d s t D N v u hd hs J h
theorem wpList_append_run{ops:Array Oper}{rest:List Oper}{o:Oper}{a:Act}{Q:Exit->Act->World->Prop}(z:o.guard=none)(d s:Operand)(t I:TypeId)
  (N:o.op=.call { callee:=.builtin .append,args:=#[d,s],argTypes:=#[t,I] }) (v u:Value) (hd:a.eval d=v) (hs:a.eval s=u) {D:Value} {w':World}
  (J:(Builtin.append_ #[t,I] o.type #[v,u]).run P w=.ok D w') (h:wpList P ops Q rest (a.put o.dst D) w'):wpList P ops Q (o::rest) a w:=by
 refine wpList_plain z λ_ L=>?_
 unfold Oper.wp execOp;simp only[N,resolve,invoke,builtin,Sem.run_bind,Sem.run_pure,Result.andThen_ok,List.map_toArray,List.map_cons,List.map_nil,hd,hs,J];exact L _ _ h
theorem Wr.setRow{g:Nat}(cs:Array Value):Wr w (w.setRow g cs) (some g):=
 ⟨⟨rfl,rfl,rfl,by simp,λk _ z=>fp w g k _ (λe=>z (by simp[e]))⟩,λb o=>Qju _ _ _ _ _⟩
theorem Wr.trans{a b c:World}{r:Option Nat}(h:Wr a b r){I:Option Nat}(k:Wr b c I)(J:∀i,I=some i->r=some i\/a<=i):Wr a c r:=
 ⟨⟨k.grown.os.trans h.grown.os,k.grown.tape.trans h.grown.tape,k.grown.output.trans h.grown.output,aj h.grown.size k.grown.size,fun i hi z=>(k.grown.block i (ab hi h.grown.size) (fun e=>by
   rcases J i e.symm with D|D
   .exact z D.symm
   omega)).trans (h.grown.block i hi z)⟩,λb o=>(k.fz b o).trans (h.fz b o)⟩
theorem Wr.drew{a b:World}{r:Option Nat}(h:Wr a b r):Wr a b.drew r:=⟨⟨h.grown.os,h.grown.tape,h.grown.output,h.grown.size,h.grown.block⟩,h.fz⟩
theorem Wr.alloc{a b:World}{r:Option Nat}(h:Wr a b r)(c:Array Value)(t:TypeId):Wr a (b.alloc (.cells c t)) r:=
 ⟨⟨h.grown.os,h.grown.tape,h.grown.output,by have:=h.grown.size;simp;omega,λi hi z=>(eI b _ i (ab hi h.grown.size)).trans (h.grown.block i hi z)⟩,λD o=>(QlD b c t D o).trans (h.fz D o)⟩
end
abbrev fE:=@Rd.QaB
abbrev fI:=@Wr.setRow
def QcX(n:Nat)(p:Nat->Bool)(w:World)(e:Ending)(w':World):Prop:=
 ∃k:Nat,e=.returned (.int .i64 k)/\k<=n/\(∀i,i<k->p i=false)/\(∀i,k<=i->i<n->p i=true)/\Ext w w'
theorem Qed(g:Nat)(v1 v2:Value)(n:Nat)(p:Nat->Bool)(w:World)(eg:∀args w,(callFunc g args).run prog w=.ok (.enter g args) w)(hn:n<4611686018427387904)
  (hg:∀(i:Nat) (W:World),i<n->Ext w W->Calls prog g #[.int .i64 i,v1,v2] W λe w'=>e=.returned (.bool (p i))/\Ext W w')
  (hm:∀i j,i<=j->j<n->p i=true->p j=true) :
  Calls prog 97 #[.int .i64 n,.func (.func g) #[] #[v1,v2]] w (QcX n p w):=by
 have HG:=hY hg;have HM:=hY hm;clear hg hm;go_in;go_wp2_with fail;go_loopw[5,6] (λi j wr=>∃a b:Nat,i=.int .i64 a/\j=.int .i64 b/\a<=b/\b<=n/\(∀i,i<a->p i=false)/\(∀i,b<=i->i<n->p i=true)/\Ext w wr) (λi j _=>(intOf j).toNat -(intOf i).toNat)
 case atStart=>exact⟨0,n,rfl,rfl,av _,an _,λ_ h=>absurd h (by omega),λ_ h h'=>absurd h (by omega),fu _⟩
 obtain⟨a,b,rfl,rfl,a1,I,J,N,X⟩:=hrel;have U:=hY J;have R:=hY N;clear J N;by_cases a0:a<b
 ·go_wp2_with fail
  rw[show((a:Int)+b)/2=(((a+b)/2:Nat):Int)from by omega];have Y:=HG.o ((a+b)/2) wr (by omega) X;generalize hh:(a+b)/2=h at *;have h1:a<=h:=by omega
  have h2:h<b:=by omega
  clear hh;cases D:p h with
  | false=>
    rw[D]at Y;have HP:=hY D;clear D;refine Y.mono ?_;rintro e w1 ⟨rfl,z⟩;go_wp2_with fail;go_roundw
    case rel=>exact⟨h+1,b,by go_num,rfl,by omega,I,λi hi=>by
     by_cases L:p i=true
     ·have:=HM.o i h (by omega) (by omega) L
      rw[HP.o]at this;cases this
     simpa using L,R.o,X.trans z⟩
    simp[intOf];omega
  | true=>
    rw[D]at Y;have HP:=hY D;clear D;refine Y.mono ?_;rintro e w1 ⟨rfl,z⟩;go_wp2_with fail;go_roundw
    case rel=>exact⟨a,h,rfl,rfl,h1,by omega,U.o,λi hi Z=>HM.o h i hi Z HP.o,X.trans z⟩
    simp[intOf];omega
 obtain rfl:a=b:=by omega
 go_wp2_with fail;go_ret;exact⟨a,rfl,I,U.o,R.o,X⟩
abbrev eu:=@beq_eq_false_iff_ne
abbrev eB:=@ByteArray.toList_eq
abbrev eF:=@Bool.and_eq_true
abbrev eL:=@decide_eq_true_eq
abbrev eV:=@if_false
abbrev klt(a b:ByteArray):Bool:=Op.bytesLess a.toList b.toList
theorem Qi6:∀a:List UInt8,Op.bytesLess a a=false
 |[]=>rfl
 |a::x=>by simp[Op.bytesLess,Qi6 x]
theorem Qlt:∀a b c:List UInt8,Op.bytesLess a b=true->Op.bytesLess b c=true->Op.bytesLess a c=true
 |_,_,[],_,h=>by simp[Op.bytesLess]at h
 |_,[],_::_,h,_=>by simp[Op.bytesLess]at h
 |[],_::_,_::_,_,_=>rfl
 | a :: x,b :: y,c :: z,h,D=>by
   simp only[Op.bytesLess,Bool.or_eq_true,Bool.and_eq_true,decide_eq_true_eq,beq_iff_eq]at h D ⊢;rcases h with h |⟨rfl,h⟩<;>rcases D with D |⟨rfl,D⟩
   .exact .inl (UInt8.lt_trans h D)
   .exact .inl h
   .exact .inl D
   exact .inr ⟨rfl,Qlt x y z h D⟩
theorem Qls:∀a b:List UInt8,Op.bytesLess a b=false->Op.bytesLess b a=false->a=b
 |[],[],_,_=>rfl
 |[],_::_,h,_=>by simp[Op.bytesLess]at h
 |_::_,[],_,h=>by simp[Op.bytesLess]at h
 | a :: x,b :: y,h,h'=>by
   simp only[Op.bytesLess,Bool.or_eq_false_iff,decide_eq_false_iff_not,Bool.and_eq_false_iff,beq_eq_false_iff_ne]at h h';have e:a=b:=by
    have h1:=h.1;have h2:=h'.1;exact UInt8.le_antisymm (UInt8.not_lt.1 h2) (UInt8.not_lt.1 h1)
   subst e;have h1:=h.2.resolve_left (by simp);have h2:=h'.2.resolve_left (by simp);rw[Qls x y h1 h2]
theorem toList_inj{a b:ByteArray}(h:a.toList=b.toList):a=b:=by
 rw[eB,eB]at h;cases a;cases b;simp only[ByteArray.mk.injEq];exact Array.ext' h
theorem Qah(a:ByteArray):klt a a=false:=Qi6 _
theorem QaI{a b c:ByteArray}(h:klt a b=true)(k:klt b c=true):klt a c=true:=Qlt _ _ _ h k
theorem QbR{a b:ByteArray}(h:klt a b=false)(k:klt b a=false):a=b:=toList_inj (Qls _ _ h k)
theorem Qby{a b:ByteArray}(h:klt a b=true):klt b a=false:=by
 cases z:klt b a
 .rfl
 have:=QaI h z;rw[Qah]at this;cases this
theorem Qc3{a b:ByteArray}(h:klt a b=false)(z:a≠b):klt b a=true:=by
 cases D:klt b a
 .exact absurd (QbR h D) z
 rfl
theorem QdJ{a b c:ByteArray}(h:klt b a=false)(k:klt b c=true):klt a c=true:=by
 cases z:klt a b
 .rw [QbR z h];exact k
 exact QaI z k
theorem QfG{a b c:ByteArray}(h:klt a b=true)(k:klt c b=false):klt a c=true:=by
 cases z:klt b c
 .rw [<-QbR z k];exact h
 exact QaI h z
theorem beq_toList(a b:ByteArray):(a.toList==b.toList)=decide (a=b):=by
 by_cases h:a=b
 .subst h;simp
 simp only[h,decide_false,beq_eq_false_iff_ne]
 exactλe=>h (toList_inj e)
theorem Qtt(a b:ByteArray):(!(Op.bytesLess a.toList b.toList||a.toList==b.toList))=klt b a:=by
 cases h:klt b a
 ·cases z:klt a b
  .rw [QbR h z];simp
  show(!(klt a b||_))=false;rw[z];rfl
 have h1:=Qby h;have h2:a≠b:=by rintro rfl;rw[Qah]at h;cases h
 show(!(klt a b||_))=true;rw[h1,beq_toList];simp[h2]
abbrev Ent:=ByteArray × Val
def Sorted(es:List Ent):Prop:=es.Pairwise λa b=>klt a.1 b.1=true
def Qbq:List Ent->ByteArray->Val->List Ent
 |[],k,v=>[(k,v)]
 |e::es,k,v=>if klt e.1 k then e::Qbq es k v else if e.1=k then(k,v)::es else(k,v)::e::es
def Qb2:List Ent->ByteArray->List Ent
 |[],_=>[]
 |e::es,k=>if klt e.1 k then e::Qb2 es k else if e.1=k then es else e::es
def Qam:List Ent->ByteArray->Option Val
 |[],_=>none
 |e::es,k=>if e.1=k then some e.2 else Qam es k
theorem Qit{A:List Ent}{k:ByteArray}(h:∀e∈A,klt e.1 k=true)(B:List Ent)(v:Val):Qbq (A++B) k v=A++Qbq B k v:=by
 induction A with
 |nil=>rfl
 | cons a A ih=>
   have D:=h a (aw ..);simp only[List.cons_append,Qbq,D,if_true];rw[ih λe z=>h e (aI _ z)]
theorem QgN{C:List Ent}{k:ByteArray}(h:∀e∈C,klt k e.1=true)(v:Val):∀B:List Ent,Qbq (B++C) k v=Qbq B k v++C
 | []=>by
   cases C with
   |nil=>rfl
   | cons c C=>
     have z:=h c (aw ..);have h1:=Qby z;have h2:c.1≠k:=by rintro rfl;rw[Qah]at z;cases z
     simp[Qbq,h1,h2]
 | b :: B=>by
   simp only[List.cons_append,Qbq];split
   .rw [QgN h v B,aG]
   split<;>rfl
theorem Qsy{B:List Ent}{k:ByteArray}(h:∀e∈B,klt e.1 k=false)(v:Val):Qbq B k v=(k,v) ::(if B.head?.map Prod.fst=some k then B.tail else B):=by
 cases B with
 |nil=>rfl
 | cons b B=>
   have z:=h b (aw ..);simp only[Qbq,z,Bool.false_eq_true,if_false,List.head?_cons,Option.map_some,Option.some.injEq,List.tail_cons];split<;>rfl
theorem Qig{A:List Ent}{k:ByteArray}(h:∀e∈A,klt e.1 k=true)(B:List Ent):Qb2 (A++B) k=A++Qb2 B k:=by
 induction A with
 |nil=>rfl
 | cons a A ih=>
   have D:=h a (aw ..);simp only[List.cons_append,Qb2,D,if_true];rw[ih λe z=>h e (aI _ z)]
theorem QgG{C:List Ent}{k:ByteArray}(h:∀e∈C,klt k e.1=true):∀B:List Ent,Qb2 (B++C) k=Qb2 B k++C
 | []=>by
   cases C with
   |nil=>rfl
   | cons c C=>
     have z:=h c (aw ..);have h1:=Qby z;have h2:c.1≠k:=by rintro rfl;rw[Qah]at z;cases z
     simp[Qb2,h1,h2]
 | b :: B=>by
   simp only[List.cons_append,Qb2];split
   .rw [QgG h B,aG]
   split<;>rfl
theorem Qsp{B:List Ent}{k:ByteArray}(h:∀e∈B,klt e.1 k=false):Qb2 B k=if B.head?.map Prod.fst=some k then B.tail else B:=by
 cases B with
 |nil=>simp[Qb2]
 | cons b B=>
   have z:=h b (aw ..);simp only[Qb2,z,Bool.false_eq_true,if_false,List.head?_cons,Option.map_some,Option.some.injEq,List.tail_cons]
theorem QeY{B:List Ent}{k:ByteArray}(h:∀e∈B,e.1≠k):Qam B k=none:=by
 induction B with
 |nil=>rfl
 |cons b B ih=>simp only[Qam,h b (List.mem_cons_self ..),if_false];exact ih λe z=>h e (aI _ z)
theorem QlF{A:List Ent}{k:ByteArray}(h:∀e∈A,klt e.1 k=true)(B:List Ent):Qam (A++B) k=Qam B k:=by
 induction A with
 |nil=>rfl
 | cons a A ih=>
   have z:=h a (aw ..);have h2:a.1≠k:=by rintro rfl;rw[Qah]at z;cases z
   simp only[List.cons_append,Qam,h2,if_false];exact ih λe D=>h e (aI _ D)
theorem Qjv{C:List Ent}{k:ByteArray}(h:∀e∈C,klt k e.1=true):∀B:List Ent,Qam (B++C) k=Qam B k
 |[]=>QeY λe z=>by rintro rfl;have:=h e z;rw[Qah]at this;cases this
 |b::B=>by simp only[List.cons_append,Qam];rw[Qjv h B]
theorem QiB{es:List Ent}{k:ByteArray}{v:Val}{x:Ent}(h:x∈Qbq es k v):x=(k,v)\/x∈es:=by
 induction es with
 |nil=>simpa[Qbq]using h
 | cons e es ih=>
   simp only[Qbq]at h;split at h
   ·rcases aF.1 h with h | h
    .exact .inr (by simp[h])
    rcases ih h with h|h
    .exact .inl h
    exact .inr (aI _ h)
   split at h
   ·rcases aF.1 h with h | h
    .exact .inl h
    exact .inr (aI _ h)
   rcases aF.1 h with h|h
   .exact .inl h
   exact .inr h
theorem QaS{es:List Ent}(h:Sorted es)(k:ByteArray)(v:Val):Sorted (Qbq es k v):=by
 induction es with
 |nil=>exact List.pairwise_singleton ..
 | cons e es ih=>
   have I:=aV.1 h;simp only[Qbq];split
   ·rename_i z
    refine aV.2 ⟨λx D=>?_,ih I.2⟩;rcases QiB D with rfl|D
    .exact z
    exact I.1 x D
   rename_i z;have z:klt e.1 k=false:=by simpa using z
   split
   ·rename_i he
    subst he;exact aV.2 ⟨λx D=>I.1 x D,I.2⟩
   rename_i he;have J:=Qc3 z he;refine aV.2 ⟨λx D=>?_,h⟩;rcases aF.1 D with rfl|D
   .exact J
   exact QaI J (I.1 x D)
theorem Qba(es:List Ent)(k:ByteArray):(Qb2 es k).Sublist es:=by
 induction es with
 |nil=>exact .slnil
 | cons e es ih=>
   simp only[Qb2];split
   .exact ih.cons_cons _
   split
   .exact List.sublist_cons_self ..
   exact List.Sublist.refl _
theorem QaR{es:List Ent}(h:Sorted es)(k:ByteArray):Sorted (Qb2 es k):=cV (Qba es k) h
def PT:Nat->Type
 |0=>Nat × List Ent
 |h+1=>Nat × List (PT h)
def addr:(h:Nat)->PT h->Nat
 |0,t=>t.1
 |_+1,t=>t.1
def size:(h:Nat)->PT h->Nat
 |0,t=>t.2.length
 |_+1,t=>t.2.length
def ents:(h:Nat)->PT h->List Ent
 |0,t=>t.2
 |h+1,t=>t.2.flatMap (ents h)
def thin:(h:Nat)->PT h->Bool
 |0,_=>false
 |h+1,t=>t.2.any λk=>thin h k||decide (size h k<4)
def OkT:(h:Nat)->PT h->Prop
 |0,t=>t.2.length<=8
 |h+1,t=>2<=t.2.length/\t.2.length<=8/\∀k∈t.2,OkT h k/\4<=size h k
def Qaw(es:List Ent):ByteArray:=(es.head?.map Prod.fst).getD ByteArray.empty
def QbM(es:List Ent):ByteArray:=(es.getLast?.map Prod.fst).getD ByteArray.empty
theorem QbB:∀(h:Nat) (t:PT h),OkT h t->1<=size h t->0<(ents h t).length
 |0,_,_,hs=>hs
 | h+1,t,ok,hs=>by
   obtain⟨a,ks⟩:=t;cases ks with
   |nil=>simp[size]at hs
   | cons k ks=>
     have:=ok.2.2 k (aw ..);have:=QbB h k this.1 (by omega);simp only[ents,List.flatMap_cons,List.length_append];omega
theorem Qc2:∀(h:Nat) (t:PT h),OkT h t->1<=size h t->h<(ents h t).length
 |0,_,_,hs=>hs
 | h+1,t,ok,hs=>by
   obtain⟨a,ks⟩:=t
   match ks,ok with
   |[],ok=>exact absurd ok.1 (by simp)
   |[k],ok=>exact absurd ok.1 (by simp)
   | k :: k' :: ks,ok=>
     have h1:=ok.2.2 k (aw ..);have h2:=ok.2.2 k' (aI _ (aw ..));have h1:=Qc2 h k h1.1 (by omega);have h2:=QbB h k' h2.1 (by omega);simp only[ents,List.flatMap_cons,List.length_append];omega
abbrev eH:=@World.block_lt_of_cell?
structure LE where
 k:ByteArray
 v:Val
 sl:Sl
 so:Sl
def LE.ent(x:LE):Ent:=(x.k,x.v)
def LE.cells(x:LE):List Value:=[.string x.k,.int .i64 x.v.kind,.bool x.v.b,.int .i64 x.v.i,.string x.v.t,.slice x.sl.a x.v.l.length x.sl.c,.slice x.so.a x.v.ok.length x.so.c]
def Qai(xs:List LE):List Value:=xs.flatMap LE.cells
theorem QoD:Qai []=[]:=rfl
theorem QbZ(x:LE)(xs:List LE):Qai (x::xs)=x.cells++Qai xs:=by simp[Qai]
theorem QaA(xs ys:List LE):Qai (xs++ys)=Qai xs++Qai ys:=by simp[Qai]
theorem LE.len(x:LE):x.cells.length=7:=rfl
theorem Qcy(xs:List LE):(Qai xs).length=xs.length*7:=by
 induction xs with
 |nil=>rfl
 |cons x xs ih=>rw[QbZ,ai,ih,LE.len,az];omega
theorem QcK:∀{xs:List LE} {i:Nat} {x:LE},xs[i]? = some x->∀c,c<7->(Qai xs)[i*7+c]? = x.cells[c]?
 |[],i,x,h,_,_=>by simp at h
 | y :: ys,0,x,h,c,hc=>by
   simp at h;subst h;rw[QbZ,cG,aB,bm (by rw[LE.len];exact hc)]
 | y :: ys,i+1,x,h,c,hc=>by
   simp at h;rw[QbZ,aU (by rw[LE.len];omega),LE.len,show(i+1)*7+c-7=i*7+c from by omega];exact QcK h c hc
theorem Qc1(xs:List LE)(i:Nat):(Qai xs).take (i*7)=Qai (xs.take i):=by
 induction xs generalizing i with
 |nil=>simp[Qai]
 | cons x xs ih=>
   cases i with
   |zero=>simp[Qai]
   | succ i=>
     rw[aT,QbZ,QbZ,List.take_append,LE.len,bj (by rw[LE.len];omega),show(i+1)*7-7=i*7 from by omega,ih]
theorem Qc0(xs:List LE)(i:Nat):(Qai xs).drop (i*7)=Qai (xs.drop i):=by
 induction xs generalizing i with
 |nil=>simp[Qai]
 | cons x xs ih=>
   cases i with
   |zero=>simp
   | succ i=>
     rw[List.drop_succ_cons,QbZ,List.drop_append,LE.len,bC (by rw[LE.len];omega),show(i+1)*7-7=i*7 from by omega,ih,aL]
def Qmw(w:World)(F:Nat->Prop)(xs:List LE):Prop:=∀x∈xs,RV w F x.v x.sl x.so/\x.k.size<=maxLen
variable{xs:List LE}
theorem Qmw.agree(h:Qmw w F xs)(D:Agree F w w'):Qmw w' F xs:=λx z=>⟨(h x z).1.agree D,(h x z).2⟩
theorem Qmw.mono(h:Qmw w F xs)(D:∀i,F i->G i):Qmw w G xs:=λx z=>⟨(h x z).1.mono D,(h x z).2⟩
structure ES(w:World)(F:Nat->Prop)(s:Sl)(xs:List LE):Prop where
 rd:Rd w F 7 s xs.length (Qai xs)
 vals:Qmw w F xs
 few:xs.length*104<=140737488355328
theorem ES.agree(h:ES w F s xs)(z:Agree F w w'):ES w' F s xs:=⟨h.rd.agree z,h.vals.agree z,h.few⟩
theorem ES.mono(h:ES w F s xs)(z:∀i,F i->G i):ES w G s xs:=⟨h.rd.mono z,h.vals.mono z,h.few⟩
variable{x:LE}
theorem ES.at(h:ES w F s xs){i:Nat}(D:xs[i]? = some x) :
  ∃b o,s.a=some ⟨b,o,none⟩/\F b/\xs.length<=s.c/\s.c<=maxLen/\w.cell? ⟨b,o+i*7,none⟩=some (.string x.k)/\QaL w b (o+i*7+1) x.v x.sl x.so/\RV w F x.v x.sl x.so/\x.k.size<=maxLen:=by
 obtain⟨b,o,h1,h2,J⟩:=h.rd;have hi:i<xs.length:=(ah.1 D).1;obtain⟨R,N,L⟩:=h1.eq (by omega);have z:∀c u,c<7->x.cells[c]? = some u->w.cell? ⟨b,o+i*7+c,none⟩=some u:=λc u z hu=>by
  rw[bF];exact J _ u (by rw[QcK D c z];exact hu)
 have I:=h.vals x (al D);exact⟨b,o,R,h1.fits (by omega),N,L,z 0 _ (by omega) rfl,⟨z 1 _ (by omega) rfl,z 2 _ (by omega) rfl,z 3 _ (by omega) rfl,z 4 _ (by omega) rfl,z 5 _ (by omega) rfl,z 6 _ (by omega) rfl⟩,I.1,I.2⟩
abbrev ptr(h:Nat)(t:PT h):Value:=.pointer (some ⟨addr h t,0,none⟩)
def ptrs(h:Nat)(ks:List (PT h)):List Value:=ks.map (ptr h)
def IsN(w:World)(F:Nat->Prop):(h:Nat)->PT h->Prop
 |0,t=>F t.1/\∃(s:Sl) (xs:List LE),Blk w t.1 144 #[.slice s.a xs.length s.c,.slice none 0 0,.int .i64 0,.int .i64 xs.length,.string (Qaw t.2),.string (QbM t.2),.bool false]/\ES w F s xs/\xs.map LE.ent=t.2
 |h+1,t=>F t.1/\∃s:Sl,Blk w t.1 144 #[.slice none 0 0,.slice s.a t.2.length s.c,.int .i64 ((h+1:Nat):Int),.int .i64 (ents (h+1) t).length,.string (Qaw (ents (h+1) t)),.string (QbM (ents (h+1) t)),.bool (thin (h+1) t)]/\
    Rd w F 1 s t.2.length (ptrs h t.2)/\∀k∈t.2,IsN w F h k
theorem IsN.agree(z:Agree F w w'):∀{h:Nat} {t:PT h},IsN w F h t->IsN w' F h t
 |0,_,⟨h1,s,xs,h2,h3,h4⟩=>⟨h1,s,xs,h2.agree z h1,h3.agree z,h4⟩
 |_+1,_,⟨h1,s,h2,h3,h4⟩=>⟨h1,s,h2.agree z h1,h3.agree z,λk D=>(h4 k D).agree z⟩
theorem IsN.mono(z:∀i,F i->G i):∀{h:Nat} {t:PT h},IsN w F h t->IsN w G h t
 |0,_,⟨h1,s,xs,h2,h3,h4⟩=>⟨z _ h1,s,xs,h2,h3.mono z,h4⟩
 |_+1,_,⟨h1,s,h2,h3,h4⟩=>⟨z _ h1,s,h2,h3.mono z,λk D=>(h4 k D).mono z⟩
variable{h:Nat}
theorem IsN.ext{t:PT h}(D:IsN w (Lt w) h t)(z:Ext w w'):IsN w' (Lt w') h t:=
 (D.agree (z.agree λ_ h=>h)).mono λ_ hi=>ab hi z.size
theorem IsN.cells:∀{h:Nat} {t:PT h},IsN w F h t->F (addr h t)/\∃(z I:Sl) (J D:Nat),J+D=size h t/\
  Blk w (addr h t) 144 #[.slice z.a J z.c,.slice I.a D I.c,.int .i64 h,.int .i64 (ents h t).length,.string (Qaw (ents h t)),.string (QbM (ents h t)),.bool (thin h t)]
 |0,_,⟨h1,s,xs,h2,h3,h4⟩=>⟨h1,s,Sl.none,xs.length,0,by rw[size,<-h4,aq];rfl,by rw[show(ents 0 _).length=xs.length from by rw[ents,<-h4,aq]];exact h2⟩
 |_+1,_,⟨h1,s,h2,h3,h4⟩=>⟨h1,Sl.none,s,0,_,by rw[size,aB],h2⟩
variable{g:Nat}
theorem Blk.c7{t:TypeId}{v0 D N z I J L:Value}(h:Blk w g t #[v0,D,N,z,I,J,L]):w.cell? ⟨g,0,none⟩=some v0/\w.cell? ⟨g,1,none⟩=some D/\w.cell? ⟨g,2,none⟩=some N/\w.cell? ⟨g,3,none⟩=some z/\w.cell? ⟨g,4,none⟩=some I/\w.cell? ⟨g,5,none⟩=some J/\w.cell? ⟨g,6,none⟩=some L:=
 ⟨h.cell 0,h.cell 1,h.cell 2,h.cell 3,h.cell 4,h.cell 5,h.cell 6⟩
theorem Qd8(w:World):Calls prog 94 #[.pointer none] w λe w'=>e=.returned (.int .i64 0)/\w=w':=by
 go_in;go_wp2;go_ret;exact⟨rfl,rfl⟩
theorem QaO{t:PT h}(z:IsN w F h t):Calls prog 94 #[ptr h t] w λe w'=>e=.returned (.int .i64 h)/\w=w':=by
 obtain⟨-,L,I,J,N,-,D⟩:=z.cells;obtain⟨-,-,h2,-,-,-,-⟩:=D.c7;go_in;go_wp2;go_ret;exact⟨rfl,rfl⟩
theorem count_nil(w:World):Calls prog 58 #[.pointer none] w λe w'=>e=.returned (.int .i64 0)/\w=w':=by
 go_in;go_wp2;go_ret;exact⟨rfl,rfl⟩
theorem Qjg{t:PT h}(z:IsN w F h t):Calls prog 58 #[ptr h t] w λe w'=>e=.returned (.int .i64 (ents h t).length)/\w=w':=by
 obtain⟨-,N,J,L,R,-,D⟩:=z.cells;obtain⟨-,-,-,I,-,-,-⟩:=D.c7;go_in;go_wp2;go_ret;exact⟨rfl,rfl⟩
theorem Qjr{t:PT h}(z:IsN w F h t):Calls prog 143 #[ptr h t] w λe w'=>e=.returned (.string (Qaw (ents h t)))/\w=w':=by
 obtain⟨-,N,I,J,R,-,D⟩:=z.cells;obtain⟨-,-,-,-,L,-,-⟩:=D.c7;go_in;go_wp2;go_ret;exact⟨rfl,rfl⟩
theorem Qme(w:World):Calls prog 98 #[.pointer none] w λe w'=>e=.returned (.int .i64 0)/\w=w':=by
 go_in;go_wp2;go_ret;exact⟨rfl,rfl⟩
theorem Qgo{t:PT h}(D:IsN w F h t)(hs:size h t<=1000):Calls prog 98 #[ptr h t] w λe w'=>e=.returned (.int .i64 (size h t))/\∃q,w'=w.drewN q:=by
 obtain⟨-,X,U,I,L,z,J⟩:=D.cells;obtain⟨Y,h1,-,-,-,-,-⟩:=J.c7;have R:I<=1000:=by omega
 have N:L<=1000:=by omega
 rw[<-z];clear z;go_in;go_wp2_with fail;go_quiet (fail);go_wp2;go_ret;exact⟨by simp,_,rfl⟩
theorem QqW{t:PT h}(z:IsN w F h t):Calls prog 251 #[ptr h t] w λe w'=>e=.returned (.string (QbM (ents h t)))/\w=w':=by
 obtain⟨-,N,I,L,R,-,D⟩:=z.cells;obtain⟨-,-,-,-,-,J,-⟩:=D.c7;go_in;go_wp2;go_ret;exact⟨rfl,rfl⟩
def QfN(h:Nat)(t:PT h):Bool:=!thin h t&&decide (4<=size h t)
theorem Qp0{t:PT h}(D:IsN w F h t)(hs:size h t<=1000):Calls prog 152 #[ptr h t,.bool false] w λe w'=>e=.returned (.bool (QfN h t))/\∃q,w'=w.drewN q:=by
 obtain⟨-,U,N,R,X,-,L⟩:=D.cells;obtain⟨-,-,-,-,-,-,I⟩:=L.c7;have J:=Qgo D hs;clear L;cases z:thin h t
 ·rw [z] at I
  have e:QfN h t=decide (4<=size h t):=by simp[QfN,z]
  rw[e];clear e z;go_in;go_wp2_with fail;refine J.mono ?_;rintro e w' ⟨rfl,q,rfl⟩;go_wp2_with fail;go_ret;exact⟨by simp;omega,q,rfl⟩
 rw[z]at I;have e:QfN h t=false:=by simp[QfN,z]
 rw[e];clear e z J;go_in;go_wp2_with fail;go_ret;exact⟨rfl,0,rfl⟩
theorem Tryz.QbQ:(prog.info? 39).map (λi=>(i.zero,i.size,i.bytes))=some (some (.pointer none),1,8):=by kernel_rfl
theorem QbT(h:Nat)(ks:List (PT h)):∀u∈ptrs h ks,u.oneCell'=true:=by
 intro u hu;obtain⟨k,-,rfl⟩:=bM.1 hu;rfl
def QeI(e':TypeId)(n:Nat)(cs:List Value)(w:World)(e:Ending)(w':World):Prop:=
 ∃s':Sl,e=.returned (.slice s'.a n s'.c)/\w'.ownsRow w.heap.size e' 1 (.slice s'.a n s'.c) n cs/\Ext w w'
theorem Qoe(w:World):Calls prog 141 #[.slice none 0 0] w λe w'=>e=.returned (.slice none 0 0)/\w=w':=by
 have z:=λw'=>Lib.run_eql_slice_nil (P:=prog) w' 114 39 none 0 0 0 0 underlying114
 go_in;go_wp2_with fail;go_ret;exact⟨rfl,rfl⟩
theorem Qod(hr:Rd w F 1 s n cs)(h1:∀u∈cs,u.oneCell'=true)(hn:n<=1000) :
  Calls prog 141 #[.slice s.a n s.c] w (QeI 39 n cs w):=by
 obtain⟨i0,hi,N,Y,X⟩:=eG Tryz.QbQ;obtain⟨b,o,hs,U,Z⟩:=hr;cases hs with
 | nil=>
   have:cs=[]:=ar (by simpa using U);subst this;have he:=λw'=>Lib.run_eql_slice_nil (P:=prog) w' 114 39 none 0 0 0 0 underlying114
   go_in;go_wp2_with fail;go_ret;exact⟨Sl.none,rfl,eJ _ _ _ _,fu _⟩
 | zero ad=>
   have:cs=[]:=ar (by simpa using U);subst this;have he:=λw'=>Lib.run_eql_slice_nil (P:=prog) w' 114 39 (some ad) 0 0 0 0 underlying114
   have z:Rd (w.alloc (.cells #[] 39)) F 1 ⟨some ad,0⟩ 0 []:=⟨b,o,.zero _ _ _,rfl,λj u L=>by simp at L⟩;have HN:=hY z;have I:0+0<=maxLen:=by unfold maxLen;omega
   clear z Z h1 U;go_in;go_wp2_with(at_builtin;refine Qac _ rfl _ _ 114 rfl w.heap.size 39 i0 (.pointer none) 1 8 underlying114 hi N Y X rfl (by decide) ⟨some ⟨w,0,none⟩,0⟩ 0 [] rfl (World.ownsRow_made w #[] 0 (an _) (by decide) rfl) F ⟨some ad,0⟩ 0 [] rfl HN.o (by simp) I (by omega) (by simp) ?_;intro s' w1 D J _;simp only[Nat.zero_add,List.nil_append]at D);go_ret;exact⟨s',by simp,D,((fu w).alloc _ _).wr J (by rintro i ⟨⟩;exact an _)⟩
 | some _ c _ _ hnc hcm hb=>
   have he:=λw'=>Lib.run_eql_slice_nil (P:=prog) w' 114 39 (some ⟨b,o,none⟩) n c 0 0 underlying114
   have R:∀j u,cs[j]? = some u->b<w:=λj u L=>eH w _ (Z j u L)
   have z:Rd (w.alloc (.cells #[] 39)) F 1 ⟨some ⟨b,o,none⟩,c⟩ n cs:=⟨b,o,.some _ _ _ _ hnc hcm hb,U,λj u L=>(World.cell?_alloc_lt _ _ _ (R j u L)).trans (Z j u L)⟩;have HN:=hY z;have H1:=hY h1;have I:0+n<=maxLen:=by unfold maxLen;omega
   clear z Z h1 U R;go_in;go_wp2_with(at_builtin;refine Qac _ rfl _ _ 114 rfl w.heap.size 39 i0 (.pointer none) 1 8 underlying114 hi N Y X rfl (by decide) ⟨some ⟨w,0,none⟩,0⟩ 0 [] rfl (World.ownsRow_made w #[] 0 (an _) (by decide) rfl) F ⟨some ⟨b,o,none⟩,c⟩ n cs rfl HN.o H1.o I (by omega) (by simp) ?_;intro s' w1 D J _;simp only[Nat.zero_add,List.nil_append]at D);go_ret;exact⟨s',by simp,D,((fu w).alloc _ _).wr J (by rintro i ⟨⟩;exact an _)⟩
theorem QcO{t:PT (h+1)}(I:IsN w F (h+1) t)(hs:t.2.length<=1000):Calls prog 95 #[ptr (h+1) t] w (QeI 39 t.2.length (ptrs h t.2) w):=by
 obtain⟨-,s,D,z,-⟩:=I;have h1:w.cell? ⟨addr (h+1) t,1,none⟩=some (.slice s.a t.2.length s.c):=D.c7.2.1;have N:=Qod z (QbT _ _) hs;have R:=hY z;clear D z;go_in;go_wp2_with fail;refine N.mono ?_;rintro e w' ⟨s',rfl,h2,J⟩;have L:=hY h2;clear h2;go_wp2_with fail;go_ret;exact⟨s',rfl,L.o,J⟩
theorem QjA{t:PT 0}(D:IsN w F 0 t):Calls prog 95 #[ptr 0 t] w λe w'=>e=.returned (.slice none 0 0)/\w=w':=by
 obtain⟨-,s,xs,z,-,-⟩:=D;have h1:w.cell? ⟨addr 0 t,1,none⟩=some (.slice none 0 0):=z.c7.2.1;have I:=Qoe w;clear z;go_in;go_wp2_with fail;refine I.mono ?_;rintro e w' ⟨rfl,rfl⟩;go_wp2_with fail;go_ret;exact⟨rfl,rfl⟩
structure OE(w:World)(base:Nat)(s:Sl)(xs:List LE):Prop where
 own:w.ownsRow base 70 7 (.slice s.a xs.length s.c) xs.length (Qai xs)
 vals:Qmw w (λb=>(base<=b/\b<w.heap.size)/\s.row≠some b) xs
 few:xs.length*104<=140737488355328
theorem OE.nil(w:World)(base:Nat):OE w base Sl.none []:=⟨World.ownsRow_nil _ _ _ _,λx h=>by simp at h,by simp⟩
theorem OE.es{base:Nat}(h:OE w base s xs):ES w (In base w.heap.size) s xs:=⟨fE h.own,h.vals.mono λ_ hi=>hi.1,h.few⟩
theorem Qae{base e size n:Nat}{xs:List Value}(h:w.ownsRow base e size (.slice s.a n s.c) n xs)(J:Agree F w w')(hF:∀b,s.row=some b->F b):w'.ownsRow base e size (.slice s.a n s.c) n xs:=by
 refine⟨h.1,?_⟩;rcases h.2 with L |⟨g,I,z,D,N,R,r⟩
 .exact .inl L
 refine .inr ⟨g,I,z,D,N,?_,r⟩;simp only[Value.slice.injEq]at D;exact(J g (hF g (by simp[Sl.row,D.1]))).trans R
theorem OE.ext{base:Nat}(h:OE w base s xs)(z:Ext w w'):OE w' base s xs:=
 ⟨Qae h.own (z.agree (F:=Lt w) λ_ hi=>hi) λb D=>(h.own.lt b (by obtain⟨a,c⟩:=s;cases a<;>simp_all [Value.ownBlock,Sl.row])).2,
   (h.vals.agree (z.agree λ_ hi=>hi.1.2)).mono λi hi=>⟨⟨hi.1.1,ab hi.1.2 z.size⟩,hi.2⟩,h.few⟩
theorem Qfg.own(D:Qao w B 70 7 xs.length)(N:∀j x,xs[j]? = some x->w.cell? ⟨B,j*7,none⟩=some (.string x.k)/\QaL w B (j*7+1) x.v x.sl x.so)(Y:n<=B)(X:xs.length<=maxLen) :
  w.ownsRow n 70 7 (.slice (some ⟨B,0,none⟩) xs.length xs.length) xs.length (Qai xs):=by
 obtain⟨z,h1,h2⟩:=D;refine⟨Qcy xs,.inr ⟨B,xs.length,z,rfl,Y,h1,an _,X,h2,?_⟩⟩;rw[bj (by rw[aH,h2];exact an _)];apply bH;intro p;by_cases Z:p<xs.length*7
 ·obtain ⟨j,c,rfl,J⟩:∃ j c,p=j*7+c∧c<7:=⟨p / 7,p % 7,by omega,by omega⟩
  obtain⟨x,L⟩:∃x,xs[j]? = some x:=⟨_,ac (by omega)⟩;obtain⟨R,e⟩:=N _ _ L;rw[QcK L c J];have U:∀o,w.cell? ⟨B,o,none⟩=z.toList[o]?:=λo=>by rw[eX w B o z _ _ h1];simp
  rw[<-U];have I:c=0\/c=1\/c=2\/c=3\/c=4\/c=5\/c=6:=by omega
  rcases I with rfl|rfl|rfl|rfl|rfl|rfl|rfl
  .exact R
  .exact e.c0
  .exact e.c1
  .exact e.c2
  .exact e.c3
  .exact e.c4
  exact e.c5
 rw[aN (by rw[aH,h2];omega),aN (by rw[Qcy];omega)]
def Qhy(xs:List LE)(w:World)(e:Ending)(w':World):Prop:=
 ∃(s':Sl) (xs':List LE),e=.returned (.slice s'.a xs'.length s'.c)/\xs'.map LE.ent=xs.map LE.ent/\OE w' w.heap.size s' xs'/\Ext w w'
theorem QhG(hs:ES w (Lt w.heap.size) s xs):Calls prog 144 #[.slice s.a xs.length s.c] w (Qhy xs w):=by
 obtain⟨i0,hi,b5,c6,b7⟩:=eG Tryz.Qa1;have a1:=hs.few;have b0:=λW=>Qci (P:=prog) 22 70 i0 _ underlying22 hi b5 .i64 .i64 xs.length xs.length (an _) (by rw[b7];omega) (by omega) W
 have HS:=hY hs;clear hs;go_in;go_wp2_with fail;clear b0;generalize N:World.alloc _ _=W0;have Y:Ext w W0:=by rw[<-N];exact(fu w).alloc _ _
 have hz:W0.heap.size=w.heap.size+1:=by rw[<-N];simp
 have U:Qao W0 w.heap.size 70 7 (xs.map LE.k).length:=by
  rw[<-N,aq];exact Qao.made _ (size_madeCells _ _)
 clear N;go_loopw[11] (λq wr=>∃(j:Nat) (f:Nat->Sl × Sl),j<=xs.length/\q=.int .i64 j/\Ext w wr/\Qfg wr w.heap.size 70 (xs.map LE.k) (xs.map LE.v) j f) (λq _=>xs.length -(intOf q).toNat)
 case atStart=>exact⟨0,λ_=>(Sl.none,Sl.none),av _,rfl,Y,Qfg.start U _⟩
 clear Y hz U W0;obtain⟨j,f,hj,rfl,D,L⟩:=hrel;have c9:w.heap.size<wr.heap.size:=L.row.lt;by_cases a8:j<xs.length
 ·obtain ⟨x,Z⟩:∃ x,xs[j]? = some x:=⟨_,ac a8⟩
  have R:Agree (Lt w.heap.size) w wr:=D.agree λ_ h=>h
  obtain⟨b,o,ha,a0,d0,d6,a3,hv,a9,b8⟩:=HS.o.at Z;obtain⟨v0,v1,v2,v3,v4,v5⟩:=(hv.agree R a0).m;have vk:=(R.cell a0).trans a3;have b3:∀W,Ext wr W->Calls prog 42 #[aggV x.v x.sl x.so] W (QeJ x.v W):=λW hW=>
   Qga _ x.v (an _) W _ _ ((a9.agree (R.trans (hW.agree λ_ h=>ab h D.size))).mono λi hi=>ab hi (aj D.size hW.size))
  have a2:=hY Z;have HF:=hY L;have HX:=hY D;have d3:¬w.heap.size=wr.heap.size:=by omega
  have z:=L.row;rw[aq]at z;obtain⟨x0,Y⟩:∃v,wr.cell? ⟨w.heap.size,j*7,none⟩=some v:=z.cell (by omega);obtain⟨x1,c8⟩:∃v,wr.cell? ⟨w.heap.size,j*7+1,none⟩=some v:=z.cell (by omega);obtain⟨x2,c3⟩:∃v,wr.cell? ⟨w.heap.size,j*7+2,none⟩=some v:=z.cell (by omega);obtain⟨x3,c7⟩:∃v,wr.cell? ⟨w.heap.size,j*7+3,none⟩=some v:=z.cell (by omega);obtain⟨x4,d4⟩:∃v,wr.cell? ⟨w.heap.size,j*7+4,none⟩=some v:=z.cell (by omega);obtain⟨x5,d5⟩:∃v,wr.cell? ⟨w.heap.size,j*7+5,none⟩=some v:=z.cell (by omega);obtain⟨x6,c2⟩:∃v,wr.cell? ⟨w.heap.size,j*7+6,none⟩=some v:=z.cell (by omega);have c4:=z.frozen;rw[ha];have HA:=hY ha;clear Z R L D hv a3 z ha a9 b8;go_wp2_with fail;go_region_held3 (λw'=>w'.cell? ⟨wr.heap.size,0,none⟩=some (.string x.k)/\w'.cell? ⟨wr.heap.size,1,none⟩=some (.int .i64 x.v.kind)/\w'.cell? ⟨wr.heap.size,2,none⟩=some (.bool x.v.b)/\w'.cell? ⟨wr.heap.size,3,none⟩=some (.int .i64 x.v.i)/\w'.cell? ⟨wr.heap.size,4,none⟩=some (.string x.v.t)/\w'.cell? ⟨wr.heap.size,5,none⟩=some (.slice x.sl.a x.v.l.length x.sl.c)/\w'.cell? ⟨wr.heap.size,6,none⟩=some (.slice x.so.a x.v.ok.length x.so.c)) (go_keep)
   ((go_at_call 42;refine(b3 _ (((fu wr).alloc _ _).drew)).mono ?_;rintro e w1 ⟨c0,b4,rfl,a4,c1⟩;have d7:=a4.olds))
  have a5:Ext wr w1:=(((fu wr).alloc _ _).drew).trans a4;have a6:=HF.o.step a5 (x:=x.k) (d:=x.v) (by rw[ao,a2.o];rfl) (by rw[ao,a2.o];rfl) (c1.mono λi hi=>⟨Nat.le_trans (by simp) hi.1,hi.2⟩);have hX:=(HX.o.trans a5).Qe8 (b:=w.heap.size) (an _) (j*7) x.k x.v c0 b4;have b6:=hY a6;clear a6;go_wp2_with fail;go_roundw
  case rel=>exact⟨j+1,_,a8,by go_num,hX,b6.o⟩
  simp[intOf];omega
 obtain rfl:j=xs.length:=by omega
 have HF:=hY L;clear L;go_wp2_with fail;go_ret;have L:=HF.o;obtain⟨J,a7,I⟩:∃J:List LE,(∀(j:Nat) (x:LE),J[j]? = some x->∃y:LE,xs[j]? = some y/\x=LE.mk y.k y.v (f j).1 (f j).2)/\J.length=xs.length/\J.map LE.ent=xs.map LE.ent:=by
  refine⟨xs.mapIdx λj y=>LE.mk y.k y.v (f j).1 (f j).2,λj x D=>?_,by simp,?_⟩
  ·rw [cX] at D
   cases X:xs[j]? with
   |none=>rw[X]at D;cases D
   |some y=>rw[X]at D;exact⟨y,rfl,by simpa using D.symm⟩
  apply bH;intro j;rw[ao,cX,ao];cases xs[j]?<;>rfl
 have hb:∀(j:Nat) (x:LE),J[j]? = some x->j<xs.length/\(xs.map LE.k)[j]? = some x.k/\(xs.map LE.v)[j]? = some x.v/\x.sl=(f j).1/\x.so=(f j).2:=λj x D=>by
  obtain⟨y,X,rfl⟩:=a7 j x D;exact⟨(ah.1 X).1,by rw[ao,X];rfl,by rw[ao,X];rfl,rfl,rfl⟩
 have z:=L.row;rw[aq,<-I.1]at z;refine⟨⟨some ⟨w.heap.size,0,none⟩,J.length⟩,J,by simp[I.1],I.2,OE.mk ?_ ?_ (by rw[I.1];exact a1),D⟩
 .exact Qfg.own z (λj x D=>by
   obtain⟨h1,h2,h3,h4,h5⟩:=hb j x D;rw[h4,h5];exact⟨L.keys j _ h1 h2,L.cells j _ h1 h3⟩) (an _) (by rw[I.1];unfold maxLen;omega)
 intro x D;obtain⟨j,hj⟩:=bx D;obtain⟨h1,h2,h3,h4,h5⟩:=hb j x hj;rw[h4,h5];refine⟨(L.reads j _ h1 h3).mono λi hi=>⟨⟨by omega,hi.2⟩,by simp[Sl.row];omega⟩,?_⟩;obtain⟨y,X,rfl⟩:=a7 j x hj;exact(HS.o.vals y (al X)).2
abbrev ff:=@World.size_drew
abbrev Qgu(k:ByteArray)(v:Val)(sl so:Sl):Value:=.agg #[.string k,.int .i64 v.kind,.bool v.b,.int .i64 v.i,.string v.t,.slice sl.a v.l.length sl.c,.slice so.a v.ok.length so.c]
def QaQ(es:List Ent)(w:World)(e:Ending)(w':World):Prop:=
 ∃(s':Sl) (xs':List LE),e=.returned (.slice s'.a xs'.length s'.c)/\xs'.map LE.ent=es/\OE w' w.heap.size s' xs'/\Ext w w'
theorem Qey(w:World):Calls prog 101 #[.pointer none] w λe w'=>e=.returned (.slice none 0 0)/\w=w':=by
 go_in;go_wp2;go_ret;exact⟨rfl,rfl⟩
theorem Qii{t:PT (h+1)}(D:IsN w F (h+1) t):Calls prog 101 #[ptr (h+1) t] w λe w'=>e=.returned (.slice none 0 0)/\w=w':=by
 obtain⟨-,s,z,-⟩:=D;have I:w.cell? ⟨addr (h+1) t,0,none⟩=some (.slice none 0 0):=z.c7.1;clear z;go_in;go_wp2;go_ret;exact⟨rfl,rfl⟩
theorem Qbh{t:PT 0}(Y:IsN w (Lt w) 0 t):Calls prog 101 #[ptr 0 t] w (QaQ (ents 0 t) w):=by
 obtain⟨-,s,xs,R,hs,z⟩:=Y;have Z:w.cell? ⟨addr 0 t,0,none⟩=some (.slice s.a xs.length s.c):=R.c7.1;have L:=QhG hs;have N:=hY z;clear R z;by_cases J:xs.length=0
 ·have D:xs=[]:=ar J
  subst D;clear L;go_in;go_wp2_with fail;go_ret;exact⟨Sl.none,[],rfl,N.o,OE.nil _ _,fu _⟩
 have D:((xs.length:Int)==0)=false:=eu.2 (by omega);clear J;go_in;go_wp2_with fail;refine L.mono ?_;rintro e w' ⟨s',I,rfl,h1,h2,U⟩;have X:=hY h1;clear h1;go_wp2_with fail;go_ret;exact⟨s',I,rfl,X.o.trans N.o,h2,U⟩
def zeroV:Val:=.mk 0 false 0 ByteArray.empty [] [] []
def QdA(k:ByteArray)(v:Val)(w:World)(e:Ending)(w':World):Prop:=
 ∃sl so,e=.returned (.tuple #[Qgu k v sl so,.bool true])/\Ext w w'/\RVC w' (In w.heap.size w'.heap.size) v sl so
theorem Qjo{t:PT 0}(hn:IsN w (Lt w.heap.size) 0 t){i:Nat}{k:ByteArray}{v:Val}(hi:(ents 0 t)[i]? = some (k,v)) :
  Calls prog 100 #[ptr 0 t,.int .i64 i] w (QdA k v w):=by
 obtain⟨-,s,xs,hb,hs,L⟩:=hn;have h0:w.cell? ⟨addr 0 t,0,none⟩=some (.slice s.a xs.length s.c):=hb.c7.1;have a6:addr 0 t<w.heap.size:=hb.lt;obtain⟨x,J,rfl,rfl⟩:∃x,xs[i]? = some x/\x.k=k/\x.v=v:=by
  rw[show ents 0 t=xs.map LE.ent from L.symm,ao]at hi;cases J:xs[i]? with
  |none=>rw[J]at hi;cases hi
  |some x=>rw[J]at hi;simp[LE.ent]at hi;exact⟨x,rfl,hi.1,hi.2⟩
 obtain⟨b,o,ha,N,a5,a9,a4,hv,U,a0⟩:=hs.at J;obtain⟨v0,v1,v2,v3,v4,v5⟩:=hv.m;have a7:i<xs.length:=(ah.1 J).1;have a1:=hs.few;have a2:(i:Int)<(xs.length:Int):=by omega
 have b3:decide ((xs.length:Int)<=(i:Int))=false:=by simp;omega
 have a8:decide ((i:Int)<0)=false:=by simp
 have X:∀W,Ext w W->Calls prog 42 #[aggV x.v x.sl x.so] W (QeJ x.v W):=λW hW=>
  Qga _ x.v (an _) W _ _ ((U.agree (hW.agree λ_ h=>h)).mono λi hi=>ab hi hW.size)
 rw[ha]at h0;have a3:b<w.heap.size:=N;clear hb L hs hi hv U a0 ha J N;go_in;go_wp2_with fail;go_region_held3 (λw'=>w'.cell? ⟨w.heap.size+1,0,none⟩=some (.string x.k)/\w'.cell? ⟨w.heap.size+1,1,none⟩=some (.int .i64 x.v.kind)/\w'.cell? ⟨w.heap.size+1,2,none⟩=some (.bool x.v.b)/\w'.cell? ⟨w.heap.size+1,3,none⟩=some (.int .i64 x.v.i)/\w'.cell? ⟨w.heap.size+1,4,none⟩=some (.string x.v.t)/\w'.cell? ⟨w.heap.size+1,5,none⟩=some (.slice x.sl.a x.v.l.length x.sl.c)/\w'.cell? ⟨w.heap.size+1,6,none⟩=some (.slice x.so.a x.v.ok.length x.so.c)) (go_keep)
  ((go_at_call 42;refine(X _ ((((fu w).alloc _ _).alloc _ _).drew)).mono ?_;rintro e w1 ⟨D,z,rfl,I,R⟩;have b0:=I.olds))
 have hX:Ext w w1:=((((fu w).alloc _ _).alloc _ _).drew).trans I;go_wp2_with fail;have Y:Blk w1 w.heap.size 70 #[.string ByteArray.empty,.int .i64 0,.bool false,.int .i64 0,.string ByteArray.empty,.slice none 0 0,.slice none 0 0]:=(I.heap (by rw[ff,ew,ew];omega)).trans (heap_alloc2_old w _ _);obtain⟨q0,q1,q2,q3,q4,q5,q6⟩:=Y.c7;refine eD (v:=.tuple #[Qgu x.k x.v D z,.bool true]) (by simp[results,results100,go_sem,q0,q1,q2,q3,q4,q5,q6]) rfl ?_;have hE:Ext w (Qe8 w1 w.heap.size 0 x.k x.v D z):=hX.Qe8 (an _) 0 x.k x.v D z;refine⟨D,z,rfl,hE,?_,R.cap⟩;show RV (Qe8 w1 w.heap.size 0 x.k x.v D z) (In w.heap.size (Qe8 w1 w.heap.size 0 x.k x.v D z).heap.size) _ _ _;rw[Qg4];have Z:RV w1 (In (w.heap.size+1) w1.heap.size) x.v D z:=R.mono λi hi=>⟨by have:=hi.1;simp at this;omega,hi.2⟩
 exact(Z.agree (Qc7 _ _ _ _ _ _ _ (by omega))).mono λi hi=>⟨by omega,hi.2⟩
theorem QhH{t:PT 0}(N:IsN w (Lt w) 0 t){i:Int}(hi:i<0\/(ents 0 t).length<=i) :
  Calls prog 100 #[ptr 0 t,.int .i64 i] w λe w'=>e=.returned (.tuple #[Qgu ByteArray.empty zeroV Sl.none Sl.none,.bool false])/\Ext w w':=by
 obtain⟨-,s,xs,J,hs,D⟩:=N;have X:w.cell? ⟨addr 0 t,0,none⟩=some (.slice s.a xs.length s.c):=J.c7.1;have U:addr 0 t<w:=J.lt;have L:(ents 0 t).length=xs.length:=by rw[show ents 0 t=xs.map LE.ent from D.symm,aq]
 rw[L]at hi;clear J hs D L;by_cases z:i<0
 ·have I:decide (i<0)=true:=by simpa using z
  clear hi z;go_in;go_wp2_with fail;refine eD (v:=.tuple #[Qgu ByteArray.empty zeroV Sl.none Sl.none,.bool false]) (by simp[results,results100,go_sem];exact⟨rfl,rfl,rfl,rfl,rfl,rfl,rfl⟩) rfl ⟨rfl,(fu w).alloc _ _⟩
 have R:decide ((xs.length:Int)<=i)=true:=by simp;omega
 have I:decide (i<0)=false:=by simpa using z
 clear hi z;go_in;go_wp2_with fail;refine eD (v:=.tuple #[Qgu ByteArray.empty zeroV Sl.none Sl.none,.bool false]) (by simp[results,results100,go_sem];exact⟨rfl,rfl,rfl,rfl,rfl,rfl,rfl⟩) rfl ⟨rfl,(fu w).alloc _ _⟩
abbrev eO:=@enters_of
abbrev eZ:=@Bool.not_eq_true'
def Qcc(es:List Ent)(k:ByteArray):Nat:=(es.takeWhile λe=>klt e.1 k).length
theorem Qk3(es:List Ent)(k:ByteArray):Qcc es k<=es.length:=(List.takeWhile_sublist _).length_le
variable{p:Nat}
theorem QgZ{es:List Ent}{k:ByteArray}(J:p<=es.length)(D:∀i e,i<p->es[i]? = some e->klt e.1 k=true)(z:∀e,es[p]? = some e->klt e.1 k=false):Qcc es k=p:=by
 induction es generalizing p with
 |nil=>simp at J;subst J;rfl
 | cons a es ih=>
   cases p with
   |zero=>simp[Qcc,z a rfl]
   | succ p=>
     have L:=D 0 a (by omega) rfl;have:=ih (p:=p) (by simpa using J) (λi e hi I=>D (i+1) e (by omega) (by simpa using I)) (λe I=>z e (by simpa using I));simp only[Qcc,List.takeWhile_cons,L,if_true,List.length_cons];rw[<-this];rfl
theorem QdX{es:List Ent}(h:Sorted es){i j:Nat}(z:i<j){a b:Ent}(D:es[i]? = some a)(J:es[j]? = some b):klt a.1 b.1=true:=by
 obtain⟨hi,rfl⟩:=ah.1 D;obtain⟨I,rfl⟩:=ah.1 J;exact List.pairwise_iff_getElem.1 h i j hi I z
variable{W:World}{b1 b2:Nat}
theorem Qnb(hs:ES w (Lt w) s xs){k:ByteArray}(h1:W.cell? ⟨b1,0,none⟩=some (.slice s.a xs.length s.c))(h2:W.cell? ⟨b2,0,none⟩=some (.string k))(N:Ext w W)
  {i:Nat} (hi:xs[i]? = some x):Calls prog 146 #[.int .i64 i,.pointer (some ⟨b1,0,none⟩),.pointer (some ⟨b2,0,none⟩)] W λe w'=>e=.returned (.bool !(klt x.k k))/\Ext W w':=by
 obtain⟨b,o,I,D,R,X,z,-⟩:=hs.at hi;have Y:W.cell? ⟨b,o+i*7,none⟩=some (.string x.k):=(N.cell D).trans z;have U:i<xs.length:=(ah.1 hi).1;have L:(i:Int)<(xs.length:Int):=by omega
 have J:=hs.few;rw[I]at h1;clear hs hi N I z;go_in;go_wp2_with fail;go_quiet (fail);go_wp2;go_ret;exact⟨rfl,(fu W).drewN _⟩
def Qgs(es:List Ent)(k:ByteArray)(w:World)(e:Ending)(w':World):Prop:=
 e=.returned (.tuple #[.int .i64 (Qcc es k),.bool (decide ((es[Qcc es k]?).map Prod.fst=some k))])/\Ext w w'
theorem QjT(hs:ES w (Lt w) s xs)(k:ByteArray)(D:Sorted (xs.map LE.ent)) :
  Calls prog 103 #[.slice s.a xs.length s.c,.string k] w (Qgs (xs.map LE.ent) k w):=by
 have a7:=hs.few;have HS:=hY hs;have HO:=hY D;have a2:∀W,Ext w W->W.cell? ⟨w,0,none⟩=some (.slice s.a xs.length s.c)->W.cell? ⟨w+1,0,none⟩=some (.string k)->
   Calls prog 97 #[.int .i64 xs.length,.func (.func 146) #[] #[.pointer (some ⟨w,0,none⟩),.pointer (some ⟨w+1,0,none⟩)]] W (QcX xs.length (λi=>!(klt ((xs[i]?.map LE.k).getD ByteArray.empty) k)) W):=by
  intro W hW h1 h2;refine Qed 146 _ _ xs.length _ W (eO func146 (by kernel_rfl) rfl) (by omega) ?_ ?_
  ·intro i W' hi U
   obtain⟨x,z⟩:∃x,xs[i]? = some x:=⟨_,ac hi⟩;rw[z];have J:=eH W _ h1;have N:=eH W _ h2;exact Qnb HS.o ((U.cell J).trans h1) ((U.cell N).trans h2) (hW.trans U) z
  intro i j b0 hj L;by_cases a0:i=j
  .subst a0;exact L
  have X:=HO.o;obtain⟨x,z⟩:∃x,xs[i]? = some x:=⟨_,ac (by omega)⟩;obtain⟨y,hy⟩:∃y,xs[j]? = some y:=⟨_,ac hj⟩;have a5:=QdX X (i:=i) (j:=j) (by omega) (by rw[ao,z];rfl) (by rw[ao,hy];rfl);rw[z]at L;rw[hy];simp only[Option.map_some,Option.getD_some,Bool.not_eq_true']at L ⊢;cases a4:klt y.k k
  .rfl
  have:=QaI a5 a4;rw[show klt x.ent.1 k=klt x.k k from rfl,L]at this;cases this
 clear hs D;go_in;go_wp2_with fail;refine(a2 _ (((fu w).alloc _ _).alloc _ _) (by simp) (by simp)).mono ?_;rintro e w1 ⟨p,rfl,hp,Z,a1,I⟩;have J:Blk w1 w.heap.size 22 #[.slice s.a xs.length s.c]:=(I.heap (by rw[ew,ew];omega)).trans (heap_alloc2_old w _ _);have N:Blk w1 (w.heap.size+1) 9 #[.string k]:=(I.heap (by rw[ew,ew];omega)).trans (heap_alloc2_new w _ _);have q1:=J.cell 0;have q2:=N.cell 0;have hX:Ext w w1:=(((fu w).alloc _ _).alloc _ _).trans I;have R:Qcc (xs.map LE.ent) k=p:=QgZ (by simpa using hp) (λi e hi he=>by
   rw[ao]at he;obtain⟨x,z,rfl⟩:=dx.1 he;have:(!(klt ((xs[i]?.map LE.k).getD ByteArray.empty) k))=false:=Z i hi;rw[z]at this;show klt x.k k=true;simpa using this) (λe he=>by
   rw[ao]at he;obtain⟨x,z,rfl⟩:=dx.1 he;have:(!(klt ((xs[p]?.map LE.k).getD ByteArray.empty) k))=true:=a1 p (an _) (ah.1 z).1;rw[z]at this;show klt x.k k=false;simpa using this)
 have HP:=hY R;clear Z a1 R a2 I J N;simp only[List.getElem?_toArray,List.getElem?_cons_zero]at q1 q2;by_cases X:p<xs.length
 ·obtain ⟨x,z⟩:∃ x,xs[p]? = some x:=⟨_,ac X⟩
  obtain⟨b,o,ha,a3,a8,a9,Y,-⟩:=HS.o.at z;have hk:w1.cell? ⟨b,o+p*7,none⟩=some (.string x.k):=(hX.cell a3).trans Y;have hd:decide ((p:Int)<(xs.length:Int))=true:=by simp;omega
  have a6:(p:Int)<(xs.length:Int):=by omega
  have HX:=hY z;have HE:=hY hX;rw[ha]at q1;clear Y z hX ha;go_wp2_with fail;go_quiet (fail);go_wp2;go_ret2;refine⟨?_,HE.o.drewN _⟩;rw[HP.o,ao,HX.o];show Ending.returned (.tuple #[.int .i64 p,.bool (x.k.toList==k.toList)])=_;rw[beq_toList];simp[LE.ent]
 have hd:decide ((p:Int)<(xs.length:Int))=false:=by simp;omega
 have HE:=hY hX;clear hX;go_wp2_with fail;go_quiet (fail);go_wp2;go_ret2;refine⟨?_,HE.o.drewN _⟩;rw[HP.o,ao,aN (by omega)];rfl
abbrev ey:=@IntKind.wrap_i64
abbrev eU:=@World.cell?_drew
def QeK(base:Nat)(s:Sl)(n i:Nat)(xs ys:List Value)(w:World)(e:Ending)(w':World):Prop:=
 ∃s':Sl,e=.returned (.slice s'.a (n+1) s'.c)/\w'.ownsRow base 70 7 (.slice s'.a (n+1) s'.c) (n+1) (xs.take (i*7)++ys++xs.drop (i*7))/\Wr w w' s.row/\(s'.row=s.row\/∃b,s'.row=some b/\w.heap.size<=b)
section
variable{w : World}{base n i : Nat}{s : Sl}{xs ys : List Value}{vb : Nat}
theorem QqR(z:w.ownsRow base 70 7 (.slice s.a n s.c) n xs)(J:base<=w.heap.size)(hn:n<=1000)(hy:ys.length=7)(L:Blk w vb 70 ys.toArray)(h1:∀u∈ys,u.oneCell'=true) :
  Calls prog 104 #[.slice s.a n s.c,.int .i64 n,.slice (some ⟨vb,0,none⟩) 1 1] w (QeK base s n n xs ys w):=by
 obtain⟨i0,hi,U,a0,Z⟩:=eG Tryz.Qa1;have D:Rd w (λ_=>True) 7 ⟨some ⟨vb,0,none⟩,1⟩ 1 ys:=⟨vb,0,.some _ _ _ _ (an _) (by decide) trivial,by simpa using hy,λj u hj=>by rw[L.cell];simpa using hj⟩;have N:xs.take (n*7)++ys++xs.drop (n*7)=xs++ys:=by
  rw[bj (by rw[z.1];exact an _),bC (by rw[z.1];exact an _),bc]
 have HO:=hY z;have HS:=hY D;have H1:=hY h1;have HX:=hY N;have Y:n+1<=maxLen:=by unfold maxLen;omega
 have a1:n<=s.c:=by
  rcases z.2 with⟨L,h0⟩ |⟨g,a3,a2,L,_,_,a4,_⟩
  .omega
  simp only[Value.slice.injEq]at L;omega
 have a5:((n:Int) ==(n:Int))=true:=by simp
 clear z D L h1 hy N;obtain⟨sa,sc⟩:=s;dsimp only at *;go_in;go_wp2_with(at_builtin;refine Qac _ rfl _ _ 22 rfl base 70 i0 (.agg #[.string ByteArray.empty,.int .i64 0,.bool false,.int .i64 0,.string ByteArray.empty,.slice none 0 0,.slice none 0 0]) 7 104 underlying22 hi U a0 Z rfl (by decide) ⟨sa,sc⟩ n xs rfl HO.o (λ_=>True) ⟨some ⟨vb,0,none⟩,1⟩ 1 ys rfl HS.o H1.o Y (by omega) J ?_;intro s' w1 I R X)
 all_goals
  go_ret;refine⟨s',by simp,by rw[HX.o];exact I,R,?_⟩;rcases X with h |⟨h,-⟩
  .exact .inl (by simp[Sl.row,h])
  exact .inr ⟨w,by simp[Sl.row,h],an _⟩
theorem QmS{g cap:Nat}{z:Array Value}(Y:xs.length=n*7)(b5:base<=g)(hg:w.heap[g]? = some (.cells z 70 (0,0)))(Z:n+1<=cap)(a6:cap<=maxLen)(b7:z.size=cap*7)(D:z.toList.take (n*7)=xs)
  (hn:n<=1000) (c8:i<n) (hy:ys.length=7) (hv:Blk w vb 70 ys.toArray) (b3:vb≠g) (h1:∀u∈ys,u.oneCell'=true) (a7:∀u∈xs,u.oneCell'=true) :
  Calls prog 104 #[.slice (some ⟨g,0,none⟩) n cap,.int .i64 i,.slice (some ⟨vb,0,none⟩) 1 1] w (QeK base ⟨some ⟨g,0,none⟩,cap⟩ n i xs ys w):=by
 obtain⟨i0,hi,c9,a2,d3⟩:=eG Tryz.Qa1;have c3:((i:Int) ==(n:Int))=false:=eu.2 (by omega);have b8:(i:Int)<(n:Int):=by omega
 have d4:¬(cap:Int)<(n:Int)+1:=by omega
 have c1:(cap:Int)<=9223372036854775807:=by unfold maxLen at a6;omega
 have c2:¬cap=i:=by omega
 have d0:¬cap=i+1:=by omega
 have c6:IntKind.i64.wrap ((i:Int)+1)=(i:Int)+1:=by rw[ey];omega
 have c4:(0:Int)<=(i:Int)+1:=by omega
 have c7:((i:Int)+1).toNat=i+1:=by omega
 have c0:i<=n:=by omega
 have d5:(i:Int)<=(n:Int)+1:=by omega
 have b4:∀lb cb,(callFunc 147 #[.slice (some ⟨vb,0,none⟩) 1 1,.slice (some ⟨g,(i+1)*7,none⟩) lb cb]).run prog w=.ok (.value (.bool false)) w:=λlb cb=>by
  rw[run_callFunc_extern func147 (by kernel_rfl) (by kernel_rfl) (by kernel_rfl) (e:=Extern.SlicesOverlaps.overlaps #[22,22] #[4]) (by kernel_rfl),
   Lib.run_overlaps_apart w 22 4 70 underlying22 7 (λw=>by simp[sizeOf,typeInfo,hi,a2]) ⟨vb,0,none⟩ ⟨g,(i+1)*7,none⟩ 1 1 lb cb b3 70 70 ys.toArray.size z.size (by simp[World.shape?,show w.heap[vb]? = some (.cells ys.toArray 70 (0,0))from hv]) (by simp[World.shape?,hg]) (by omega) (hv.frozen _) (hv.frozen _)]
  rfl
 have a1:(xs.drop (i*7)).length=(n-i)*7:=by rw[au,Y,<-dq]
 have a9:∀j v,(xs.drop (i*7))[j]? = some v->w.drew.cell? ⟨g,i*7+j,none⟩=some v:=λj v hj=>by
  rw[eU,eX w g _ z 70 (0,0) hg];rw[be,<-D,bg]at hj;split at hj
  .simpa using hj
  cases hj
 obtain⟨I,N⟩:∃I,I=(z.toList.take ((i+1)*7)++xs.drop (i*7)++z.toList.drop ((i+1)*7+(xs.drop (i*7)).length)).toArray:=⟨_,rfl⟩;obtain⟨R,J⟩:∃R,R=w.drew.setRow g I:=⟨_,rfl⟩;have a8:∀ty dc sc,(Builtin.copy_ #[22,22] ty #[.slice (some ⟨g,(i+1)*7,none⟩) (n-i) dc,.slice (some ⟨g,i*7,none⟩) (n+1-i) sc]).run prog w.drew=.ok (goInt (Nat.min (n+1-i) (n-i))) R:=λty dc sc=>by
  rw[J,N];exact QbL w.drew 22 22 ty 70 7 g ((i+1)*7) (n-i) dc ⟨some ⟨g,i*7,none⟩,sc⟩ (n+1-i) z 70 (xs.drop (i*7)) underlying22 (by rw[hi];simp[a2]) hg
   (by rw[a1,show Nat.min (n+1-i) (n-i)=n-i from by simp only[Nat.min_def];split<;>omega]) (by simp) (by rintro b o' ⟨⟩;exact a9) (by rintro a ⟨⟩;rfl) (by rw[a1];omega) (λu hu=>a7 u (aC hu))
 have b6:I.size=z.size:=by rw[N];simp;omega
 have a0:R.heap[g]? = some (.cells I 70 (0,0)):=by rw[J];exact eQ w.drew g z I 70 (0,0) hg
 have b0:Blk R vb 70 ys.toArray:=by rw[J];exact(fp w.drew g vb I b3).trans hv
 obtain⟨A2,U⟩:∃A2,A2=(I.toList.take (i*7)++ys++I.toList.drop (i*7+ys.length)).toArray:=⟨_,rfl⟩;obtain⟨W2,L⟩:∃W2,W2=R.setRow g A2:=⟨_,rfl⟩;have a4:∀ty dc,(Builtin.copy_ #[22,22] ty #[.slice (some ⟨g,i*7,none⟩) (n+1-i) dc,.slice (some ⟨vb,0,none⟩) 1 1]).run prog R=.ok (goInt (Nat.min 1 (n+1-i))) W2:=λty dc=>by
  rw[L,U];exact QbL R 22 22 ty 70 7 g (i*7) (n+1-i) dc ⟨some ⟨vb,0,none⟩,1⟩ 1 I 70 ys underlying22 (by rw[hi];simp[a2]) a0
   (by rw[hy,show Nat.min 1 (n+1-i)=1 from by simp only[Nat.min_def];split<;>omega]) (by simp) (by rintro b o' ⟨⟩;exactλj v hj=>by rw[b0.cell];simpa using hj) (by rintro a ⟨⟩;rfl) (by omega) h1
 have a3:W2.heap[g]? = some (.cells A2 70 (0,0)):=by rw[L];exact eQ R g I A2 70 (0,0) a0
 have a5:Wr w W2 (some g):=by
  rw[L,J];exact((Wr.refl w (some g)).drew.trans (fI w.drew I) (λi hi=>.inl hi)).trans (fI (w.drew.setRow g I) A2) (λi hi=>.inl hi)
 have X:W2.ownsRow base 70 7 (.slice (some ⟨g,0,none⟩) (n+1) cap) (n+1) (xs.take (i*7)++ys++xs.drop (i*7)):=by
  refine⟨by simp[Y,hy];omega,.inr ⟨g,cap,A2,rfl,b5,a3,Z,a6,by rw[U];simp;omega,?_⟩⟩;rw[U,N];exact QhV z.toList xs ys (i*7) (n*7) 7 _ _ _ _ _ D.symm hy (by omega) (by rw[aH];omega) (by omega) rfl (by omega) (by omega) (by omega)
 have HF:=hY X;have HW:=hY a5;clear X a5 a3 a0 b0 b6 L J U N a9 a1 hg hv h1 a7 Y D b7;go_in;go_wp2_with(simp only[b4]);go_region_law (refine Qdq _ rfl _ _ 22 22 rfl _ _ (by simp[Act.eval,Act.put]) (by simp[Act.eval,Act.put]) (a8 _ _ _) ?_);go_wp2_with(at_builtin;refine Qcl _ rfl _ _ 22 22 rfl _ _ rfl rfl (a4 _ _) ?_);go_ret;exact⟨⟨some ⟨g,0,none⟩,cap⟩,rfl,HF.o,HW.o,.inl rfl⟩
theorem QoQ{g cap:Nat}{R:Array Value}(L:xs.length=n*7)(b0:base<=w.heap.size)(hg:w.heap[g]? = some (.cells R 70 (0,0)))(f1:n<=cap)(a7:cap<n+1)(c9:R.size=cap*7)(D:R.toList.take (n*7)=xs)
  (hn:n<=1000) (e4:i<n) (hy:ys.length=7) (hv:Blk w vb 70 ys.toArray) (f4:vb≠g) (h1:∀u∈ys,u.oneCell'=true) (b6:∀u∈xs,u.oneCell'=true) :
  Calls prog 104 #[.slice (some ⟨g,0,none⟩) n cap,.int .i64 i,.slice (some ⟨vb,0,none⟩) 1 1] w (QeK base ⟨some ⟨g,0,none⟩,cap⟩ n i xs ys w):=by
 obtain⟨i0,hi,c7,a5,b7⟩:=eG Tryz.Qa1;have e8:((i:Int) ==(n:Int))=false:=eu.2 (by omega);have d6:(i:Int)<(n:Int):=by omega
 have f2:(cap:Int)<(n:Int)+1:=by omega
 have e1:¬cap=i:=by omega
 have e3:IntKind.i64.wrap ((i:Int)+1)=(i:Int)+1:=by rw[ey];omega
 have e2:(0:Int)<=(i:Int)+1:=by omega
 have f0:((i:Int)+1).toNat=i+1:=by omega
 have e0:i<=n:=by omega
 have f3:(i:Int)<=(n:Int):=by omega
 have e6:(i:Int)+1<=(n:Int)+1:=by omega
 have d0:g<w.heap.size:=fi hg;have c6:vb<w.heap.size:=hv.lt;obtain⟨G,hG⟩:∃G,G=grownCap w (n+1) cap 70:=⟨_,rfl⟩;have d3:n+1<=G:=by rw[hG];exact grownCap_ge w _ _ _
 have d7:G<=9223372036854775807:=by
  have:=grownCap_le_maxLen w (n+1) cap 70 (by unfold maxLen;omega);rw[<-hG]at this;unfold maxLen at this;omega
 have a6:i+(n+1-i)=n+1:=by omega
 obtain⟨z,I⟩:∃z:Array Value,z=(xs.take (i*7)).toArray++Builtin.zeroCells ((.agg #[.string ByteArray.empty,.int .i64 0,.bool false,.int .i64 0,.string ByteArray.empty,.slice none 0 0,.slice none 0 0]):Value).cells (n+1-i)++Builtin.zeroCells ((.agg #[.string ByteArray.empty,.int .i64 0,.bool false,.int .i64 0,.string ByteArray.empty,.slice none 0 0,.slice none 0 0]):Value).cells (G -(n+1)):=⟨_,rfl⟩;have d5:z.size=G*7:=by
  rw[I];simp only[Array.size_append,List.size_toArray,size_zeroCells,List.length_take,L];rw[show((.agg #[.string ByteArray.empty,.int .i64 0,.bool false,.int .i64 0,.string ByteArray.empty,.slice none 0 0,.slice none 0 0]):Value).cells.size=7 from rfl];omega
 have c1:z.toList.take (i*7)=xs.take (i*7):=by
  rw[I];simp only[Array.toList_append,List.append_assoc];rw[aW (by simp[L];omega),bj (by simp;omega)]
 obtain⟨W1,X⟩:∃W1,W1=w.drew.alloc (.cells z 70):=⟨_,rfl⟩;have d4:∀Z,(Builtin.append_ #[22,3] Z #[.slice (some ⟨g,0,none⟩) i cap,.int .i64 ((n:Int)+1 -(i:Int))]).run prog w=.ok (.slice (some ⟨w.heap.size,0,none⟩) (n+1) G) W1:=λZ=>by
  have b8:(Builtin.firstCells i0.size i (.slice (some ⟨g,0,none⟩) i cap)).run prog w.drew=.ok (xs.take (i*7)).toArray w.drew:=by
   rw[a5];exact run_firstCells_some w.drew 7 i ⟨g,0,none⟩ i cap (xs.take (i*7)) (by rw[ap];omega) (λj v J=>by
    rw[Qbu,aB,eU,eX w g _ R 70 (0,0) hg];rw[bg]at J;split at J
    ·rw [←D,bg] at J
     split at J
     .simpa using J
     cases J
    cases J)
  have h:=Lib.run_append_grow_zeros w 22 3 Z 70 i0 _ .i64 .i64 underlying22 underlying3 hi c7 (some ⟨g,0,none⟩) i cap (xs.take (i*7)) b8 (n+1-i) (by omega) (by omega) (by omega) (by omega) (by rw[b7];omega) (by rw[b7,a6];exact growslice_fits a7 (by omega));rw[a6,<-hG,<-I,<-X]at h;rw[show(n:Int)+1 -(i:Int)=((n+1-i:Nat):Int)from by omega];exact h
 have a9:W1.heap[w.heap.size]? = some (.cells z 70 (0,0)):=by rw[X];exact fg w.drew _
 have Y:∀k,k<w.heap.size->W1.heap[k]? = w.heap[k]?:=λk hk=>by rw[X];exact eI w.drew _ k hk
 have c0:Blk W1 vb 70 ys.toArray:=(Y vb c6).trans hv;obtain⟨N,a2⟩:∃N,N=(z.toList.take (i*7)++ys++z.toList.drop (i*7+ys.length)).toArray:=⟨_,rfl⟩;have c8:N.size=G*7:=by rw[a2];simp;omega
 obtain⟨W2,U⟩:∃W2,W2=W1.setRow w.heap.size N:=⟨_,rfl⟩;have c2:∀Z dc,(Builtin.copy_ #[22,22] Z #[.slice (some ⟨w.heap.size,i*7,none⟩) (n+1-i) dc,.slice (some ⟨vb,0,none⟩) 1 1]).run prog W1=.ok (goInt (Nat.min 1 (n+1-i))) W2:=λZ dc=>by
  rw[U,a2];exact QbL W1 22 22 Z 70 7 w.heap.size (i*7) (n+1-i) dc ⟨some ⟨vb,0,none⟩,1⟩ 1 z 70 ys underlying22 (by rw[hi];simp[a5]) a9
   (by rw[hy,show Nat.min 1 (n+1-i)=1 from by simp only[Nat.min_def];split<;>omega]) (by simp) (by rintro b o' ⟨⟩;exactλj v J=>by rw[c0.cell];simpa using J) (by rintro a ⟨⟩;rfl) (by omega) h1
 have a8:W2.heap[w.heap.size]? = some (.cells N 70 (0,0)):=by rw[U];exact eQ W1 _ z N 70 (0,0) a9
 have a4:∀k,k<w.heap.size->W2.heap[k]? = w.heap[k]?:=λk hk=>by rw[U];exact(fp W1 _ k N (by omega)).trans (Y k hk)
 have b3:(xs.drop (i*7)).length=(n-i)*7:=by rw[au,L,<-dq]
 have c4:∀j v,(xs.drop (i*7))[j]? = some v->W2.drew.cell? ⟨g,i*7+j,none⟩=some v:=λj v J=>by
  rw[eU,eX W2 g _ R 70 (0,0) ((a4 g d0).trans hg)];rw[be,<-D,bg]at J;split at J
  .simpa using J
  cases J
 obtain⟨A2,a0⟩:∃A2,A2=(N.toList.take ((i+1)*7)++xs.drop (i*7)++N.toList.drop ((i+1)*7+(xs.drop (i*7)).length)).toArray:=⟨_,rfl⟩;obtain⟨W3,a1⟩:∃W3,W3=W2.drew.setRow w.heap.size A2:=⟨_,rfl⟩;have b5:∀Z dc sc,(Builtin.copy_ #[22,22] Z #[.slice (some ⟨w.heap.size,(i+1)*7,none⟩) (n-i) dc,.slice (some ⟨g,i*7,none⟩) (n-i) sc]).run prog W2.drew=.ok (goInt (Nat.min (n-i) (n-i))) W3:=λZ dc sc=>by
  rw[a1,a0];exact QbL W2.drew 22 22 Z 70 7 w.heap.size ((i+1)*7) (n-i) dc ⟨some ⟨g,i*7,none⟩,sc⟩ (n-i) N 70 (xs.drop (i*7)) underlying22 (by rw[hi];simp[a5]) a8
   (by rw[b3,show Nat.min (n-i) (n-i)=n-i from by simp]) (by simp) (by rintro b o' ⟨⟩;exact c4) (by rintro a ⟨⟩;rfl) (by rw[b3];omega) (λu hu=>b6 u (aC hu))
 have b4:W3.heap[w.heap.size]? = some (.cells A2 70 (0,0)):=by rw[a1];exact eQ W2.drew _ N A2 70 (0,0) a8
 have c3:Wr w W3 (some g):=by
  rw[a1,U,X];exact(((((Wr.refl w (some g)).drew).alloc z 70).trans (fI _ N) (λi hi=>.inr (by injection hi with hi;omega))).drew).trans (fI _ A2) (λi hi=>.inr (by injection hi with hi;omega))
 have a3:W3.ownsRow base 70 7 (.slice (some ⟨w.heap.size,0,none⟩) (n+1) G) (n+1) (xs.take (i*7)++ys++xs.drop (i*7)):=by
  refine⟨by simp[L,hy];omega,.inr ⟨w.heap.size,G,A2,rfl,b0,b4,d3,by unfold maxLen;omega,by rw[a0];simp;omega,?_⟩⟩;rw[a0,a2];exact Qjx z.toList xs ys (i*7) (n*7) 7 _ _ _ _ _ c1 L hy (by omega) (by rw[aH];omega) (by omega) rfl (by omega) (by omega) (by omega)
 have HF:=hY a3;have HW:=hY c3;clear a3 c3 b4 a8 a9 c0 c8 a1 U X a0 a2 c4 b3 hg hv h1 b6 L D c9 Y a4 c1 d5 I hG a6;have e7:¬(G=i):=by omega
 have d8:¬(G=i+1):=by omega
 go_in;go_wp2_with(first
  |(at_builtin;refine wpList_append_run _ rfl _ _ 22 3 rfl _ _ rfl rfl (d4 _) ?_)
  |(at_builtin;refine Qcl _ rfl _ _ 22 22 rfl _ _ rfl rfl (c2 _ _) ?_))
 go_region_law (refine Qdq _ rfl _ _ 22 22 rfl _ _ (by simp[Act.eval,Act.put]) (by simp[Act.eval,Act.put]) (b5 _ _ _) ?_);go_wp2;go_ret;exact⟨⟨some ⟨w.heap.size,0,none⟩,G⟩,rfl,HF.o,HW.o,.inr ⟨_,rfl,an _⟩⟩
theorem QlL(z:w.ownsRow base 70 7 (.slice s.a n s.c) n xs)(I:base<=w.heap.size)(hn:n<=1000)(a4:i<=n)(Y:ys.length=7)(U:Blk w vb 70 ys.toArray)(a2:s.row≠some vb)(h1:∀u∈ys,u.oneCell'=true)(L:∀u∈xs,u.oneCell'=true) :
  Calls prog 104 #[.slice s.a n s.c,.int .i64 i,.slice (some ⟨vb,0,none⟩) 1 1] w (QeK base s n i xs ys w):=by
 by_cases he:i=n
 .subst he;exact QqR z I hn Y U h1
 rcases z.2 with⟨hs,h0⟩ |⟨g,N,a3,hs,Z,hg,a0,a1,R,D⟩
 .omega
 simp only[Value.slice.injEq]at hs;obtain⟨ha,-,hc⟩:=hs;have J:vb≠g:=λe=>a2 (by simp[Sl.row,ha,e])
 have X:s=⟨some ⟨g,0,none⟩,N⟩:=by cases s;simp_all
 have hl:=z.1;clear z;subst X;by_cases hr:n+1<=N
 .exact QmS hl Z hg hr a1 R D hn (by omega) Y U J h1 L
 exact QoQ hl I hg a0 (by omega) R D hn (by omega) Y U J h1 L
end
theorem Qo5(k:ByteArray)(v:Val)(sl so:Sl)(k':ByteArray)(z:Val)(sl' so':Sl)(w:World) :
  Calls prog 201 #[Qgu k v sl so,Qgu k' z sl' so'] w λe w'=>e=.returned (.bool (klt k k'))/\Ext w w':=by
 go_in;go_wp2;go_ret;exact⟨rfl,((fu w).alloc _ _).alloc _ _⟩
def QbH(xs:List LE):Prop:=∀i x y,xs[i]? = some x->xs[i+1]? = some y->klt x.k y.k=true
theorem Qnk(hs:ES w (Lt w) s xs)(hr:QbH xs) :
  Calls prog 200 #[.slice s.a xs.length s.c,.func (.func 201) #[] #[]] w λe w'=>e=.returned (.bool true)/\Ext w w':=by
 have a3:=hs.few;have HS:=hY hs;have HR:=hY hr;clear hs hr;go_in;go_wp2_with fail;go_loopw[5] (λq wr=>∃m:Nat,(m+1<=xs.length\/m=0)/\q=.int .i64 ((m:Int)+1)/\Ext w wr) (λq _=>xs.length -(intOf q).toNat)
 case atStart=>exact⟨0,.inr rfl,rfl,fu _⟩
 obtain⟨m,hj,rfl,hx⟩:=hrel;by_cases a2:m+1<xs.length
 ·obtain ⟨x,N⟩:∃ x,xs[m]? = some x:=⟨_,ac (by omega)⟩
  obtain⟨y,J⟩:∃y,xs[m+1]? = some y:=⟨_,ac a2⟩;obtain⟨b,o,ha,D,a4,a7,R,hv,-⟩:=HS.o.at N;obtain⟨b',Z,L,-,-,-,I,X,-⟩:=HS.o.at J;rw[ha]at L;simp only[Option.some.injEq,Addr.mk.injEq,and_true]at L;obtain⟨rfl,rfl⟩:=L;have z:Agree (Lt w) w wr:=hx.agree λ_ h=>h
  obtain⟨v0,v1,v2,v3,v4,v5⟩:=(hv.agree z D).m;have vk:=(z.cell D).trans R;obtain⟨u0,u1,u2,u3,u4,u5⟩:=(X.agree z D).m;have uk:=(z.cell D).trans I;have U:=HR.o m x y N J;have HK:=hY U;rw[ha];have b0:(m:Int)+1<(xs.length:Int):=by omega
  have a9:(m:Int)<(xs.length:Int):=by omega
  have a5:IntKind.i64.wrap (m:Int)=(m:Int):=by rw[ey];omega
  have a8:(0:Int)<=(m:Int)+1:=by omega
  have a6:((m:Int)+1).toNat=m+1:=by omega
  clear N J R I hv X z ha U;go_wp2_with fail;have a0:b<wr:=ab D hx.size;go_region_held3 (λw'=>w'.cell? ⟨b,o+m*7,none⟩=some (.string x.k)/\w'.cell? ⟨b,o+m*7+1,none⟩=some (.int .i64 x.v.kind)/\w'.cell? ⟨b,o+m*7+2,none⟩=some (.bool x.v.b)/\w'.cell? ⟨b,o+m*7+3,none⟩=some (.int .i64 x.v.i)/\w'.cell? ⟨b,o+m*7+4,none⟩=some (.string x.v.t)/\w'.cell? ⟨b,o+m*7+5,none⟩=some (.slice x.sl.a x.v.l.length x.sl.c)/\w'.cell? ⟨b,o+m*7+6,none⟩=some (.slice x.so.a x.v.ok.length x.so.c)/\w'.cell? ⟨b,o+(m+1)*7,none⟩=some (.string y.k)/\w'.cell? ⟨b,o+(m+1)*7+1,none⟩=some (.int .i64 y.v.kind)/\w'.cell? ⟨b,o+(m+1)*7+2,none⟩=some (.bool y.v.b)/\w'.cell? ⟨b,o+(m+1)*7+3,none⟩=some (.int .i64 y.v.i)/\w'.cell? ⟨b,o+(m+1)*7+4,none⟩=some (.string y.v.t)/\w'.cell? ⟨b,o+(m+1)*7+5,none⟩=some (.slice y.sl.a y.v.l.length y.sl.c)/\w'.cell? ⟨b,o+(m+1)*7+6,none⟩=some (.slice y.so.a y.v.ok.length y.so.c)) (go_keep)
   ((go_at_call 201;refine(Qo5 _ _ _ _ _ _ _ _ _).mono ?_;rintro e w' ⟨rfl,Y⟩;have a1:∀Z,w'.cell? ⟨b,Z,none⟩=wr.cell? ⟨b,Z,none⟩:=λZ=>Y.cell a0))
  have hX:=hx.trans ((fu wr).drew.trans Y);have HX:=hY hX;clear hX a1;rw[HK.o];go_wp2_with fail;go_roundw
  case rel=>exact⟨m+1,.inl (by omega),by go_num,HX.o⟩
  simp[intOf];omega
 go_wp2_with fail;go_ret;exact⟨rfl,hx⟩
variable{w2 w3:World}{s':Sl}
theorem QjH{xs z:List LE}{a:Nat}{f l:ByteArray}(X:Ext w w2)(I:Ext w2 w3)(Y:z.map LE.ent=xs.map LE.ent)(J:w.heap.size<=B)(L:OE w2 B s' z)
  (N:w2<=a) (R:f=Qaw (xs.map LE.ent)) (U:l=QbM (xs.map LE.ent)) (D:Blk w3 a 144 #[.slice s'.a z.length s'.c,.slice none 0 0,.int .i64 0,.int .i64 z.length,.string f,.string l,.bool false]) :
  IsN w3 (In w.heap.size w3.heap.size) 0 (a,xs.map LE.ent):=
 ⟨⟨Nat.le_trans X.size N,D.lt⟩,s',z,by subst R U;exact D,(L.es.agree (I.agree λ_ h=>h.2)).mono λ_ h=>⟨Nat.le_trans J h.1,ab h.2 I.size⟩,Y⟩
def Qqu(es:List Ent)(w:World)(e:Ending)(w':World):Prop:=
 ∃a:Nat,e=.returned (.tuple #[.pointer (some ⟨a,0,none⟩),.int .i64 0])/\w.heap.size<=a/\IsN w' (In w.heap.size w'.heap.size) 0 (a,es)/\Ext w w'
theorem Qpo(hs:ES w (Lt w) s xs)(hr:QbH xs)(h8:xs.length<=8) :
  Calls prog 149 #[.slice s.a xs.length s.c] w (Qqu (xs.map LE.ent) w):=by
 have HS:=hY hs;have X:=Qnk hs hr;have hg:¬(8:Int)<(xs.length:Int):=by omega
 have a9:decide ((8:Int)<(xs.length:Int))=false:=by simp;omega
 have a2:∀W,Ext w W->Calls prog 144 #[.slice s.a xs.length s.c] W (Qhy xs W):=λW hW=>
  QhG ((HS.o.agree (hW.agree λ_ h=>h)).mono λi hi=>ab hi hW.size)
 have HC:=hY a2;clear hs a2 hr;go_in;go_wp2_with fail;refine X.mono ?_;rintro e w1 ⟨rfl,z⟩;go_wp2_with fail;refine(HC.o w1 z).mono ?_;rintro e w2 ⟨s',a5,rfl,hm,ho,R⟩;have HM:=hY hm;have HO:=hY ho;have D:a5.length=xs.length:=by have:=congrArg List.length hm;simpa using this
 have HL:=hY D;have Y:=z.trans R;have Z:=hY Y;have a1:=z.size;by_cases h0:0<xs.length
 ·obtain ⟨x,L⟩:∃ x,xs[0]? = some x:=⟨_,ac h0⟩
  obtain⟨y,N⟩:∃y,xs[xs.length-1]? = some y:=⟨_,ac (by omega)⟩;obtain⟨b,o,ha,J,a7,b4,I,-⟩:=HS.o.at L;obtain⟨b',o',U,-,-,-,a3,-⟩:=HS.o.at N;rw[ha]at U;simp only[Option.some.injEq,Addr.mk.injEq,and_true]at U;obtain⟨rfl,rfl⟩:=U;rw[cG,cp]at I;have vk:=(Y.cell J).trans I;have vl:=(Y.cell J).trans a3;have a6:b<w2:=ab J Y.size;have hf:Qaw (xs.map LE.ent)=x.k:=by rw[Qaw,List.head?_map,List.head?_eq_getElem?,L];rfl
  have hl:QbM (xs.map LE.ent)=y.k:=by rw[QbM,List.getLast?_map,List.getLast?_eq_getElem?,N];rfl
  have a0:=hY (And.intro hf hl);have a8:IntKind.i64.wrap ((xs.length:Int)-1)=(xs.length:Int)-1:=by rw[ey];omega
  have b6:(0:Int)<=(xs.length:Int)-1:=by omega
  have b5:(xs.length:Int)-1<(xs.length:Int):=by omega
  have b0:(0:Int)<(xs.length:Int):=by omega
  have b3:((xs.length:Int)-1).toNat=xs.length-1:=by omega
  rw[ha];clear hm ho X D Y L N I a3 ha hf hl z R;go_wp2_with fail;go_region
  all_goals go_wp2_with fail
  all_goals go_ret2
  refine⟨w2,rfl,Z.o.size,?_,(Z.o.alloc _ _).drew⟩;refine QjH Z.o (((fu w2).alloc _ _).drew) HM.o a1 HO.o (an _) a0.o.1.symm a0.o.2.symm ?_;rw[HL.o];exact fx _ _ _
 have a4:xs=[]:=ar (by omega);subst a4;clear hm ho X Y z R;go_wp2_with fail;go_ret2;refine⟨w2,rfl,Z.o.size,?_,Z.o.alloc _ _⟩;refine QjH Z.o ((fu w2).alloc _ _) HM.o a1 HO.o (an _) (f:=ByteArray.empty) (l:=ByteArray.empty) rfl rfl ?_;rw[HL.o];exact fx _ _ _
def QcV(es:List Ent)(w:World)(e:Ending)(w':World):Prop:=
 ∃t:PT 0,e=.returned (ptr 0 t)/\t.2=es/\w.heap.size<=addr 0 t/\IsN w' (In w.heap.size w'.heap.size) 0 t/\Ext w w'
theorem QdZ(hs:ES w (Lt w) s xs)(D:n=xs.length)(z:QbH xs)(J:xs.length<=8) :
  Calls prog 106 #[.slice s.a n s.c] w (QcV (xs.map LE.ent) w):=by
 subst D;have N:=Qpo hs z J;clear hs z;go_in;go_wp2_with fail;refine N.mono ?_;rintro e w' ⟨a,rfl,h1,h2,I⟩;have L:=hY h2;clear h2;go_wp2_with fail;go_ret;exact⟨(a,xs.map LE.ent),rfl,rfl,h1,L.o,I⟩
theorem Rd.take{size n:Nat}(h:Rd w F size s n cs){m:Nat}(J:m<=n):Rd w F size s m (cs.take (m*size)):=by
 obtain⟨b,o,h1,h2,I⟩:=h;have D:m*size<=n*size:=bZ _ J;refine⟨b,o,?_,by rw[ap];omega,λj u z=>I j u ?_⟩
 ·cases h1 with
  | nil=>have:m=0:=by omega
         subst this;exact .nil _ _
  |some _ c _ _ h hc hb=>exact .some _ c _ _ (by omega) hc hb
  | zero a=>have:m=0:=by omega
            subst this;exact .zero a _ _
 rw[bg]at z;split at z
 .exact z
 cases z
theorem Rd.drop{size n b o c:Nat}(h:Rd w F size ⟨some ⟨b,o,none⟩,c⟩ n cs){m:Nat}(L:m<=n):Rd w F size ⟨some ⟨b,o+m*size,none⟩,c-m⟩ (n-m) (cs.drop (m*size)):=by
 obtain⟨D,I,h1,h2,J⟩:=h;cases h1 with
 | some _ _ _ _ h hc hb=>
   refine⟨b,o+m*size,.some _ _ _ _ (by omega) (by omega) hb,by rw[au,h2,<-dq],λj u z=>?_⟩;rw[be]at z;rw[bF];exact J _ u z
 | zero=>
   obtain rfl:m=0:=by omega
   refine⟨D,I,?_,by rw[au,h2];simp,λj u z=>?_⟩
   .simpa using QeM.zero (F:=F) ⟨b,o,none⟩ D I
   have:cs=[]:=ar (by simpa using h2);subst this;simp at z
theorem ES.take(h:ES w F s xs){m:Nat}(z:m<=xs.length):ES w F s (xs.take m):=
 ⟨by rw[ap,bz z,<-Qc1];exact h.rd.take z,λx D=>h.vals x (aM D),by have:=h.few;rw[ap];omega⟩
theorem ES.drop{b o c:Nat}(h:ES w F ⟨some ⟨b,o,none⟩,c⟩ xs){m:Nat}(D:m<=xs.length):ES w F ⟨some ⟨b,o+m*7,none⟩,c-m⟩ (xs.drop m):=
 ⟨by rw[au,<-Qc0];exact h.rd.drop D,λx z=>h.vals x (aC z),by have:=h.few;rw[au];omega⟩
theorem QbH.take(h:QbH xs)(m:Nat):QbH (xs.take m):=λi x y D z=>by
 rw[bg]at D z;split at D<;>split at z
 .exact h i x y D z
 all_goals first|cases D|cases z
theorem QbH.drop(h:QbH xs)(m:Nat):QbH (xs.drop m):=λi x y D z=>by
 rw[be]at D z;exact h _ x y D z
theorem Qc8(h:Sorted (xs.map LE.ent)):QbH xs:=λi x y D z=>
 QdX (a:=x.ent) (b:=y.ent) h (df i) (by rw[ao,D];rfl) (by rw[ao,z];rfl)
def two(h:Nat):List (PT h)->Ending
 |[t]=>.returned (.tuple #[ptr h t,.pointer none])
 |[t,u]=>.returned (.tuple #[ptr h t,ptr h u])
 |_=>.returned (.tuple #[])
def chunk{α:Type}(l:List α):List (List α):=if l.length<=8 then[l]else[l.take 4,l.drop 4]
def Qmu(es:List Ent)(w:World)(e:Ending)(w':World):Prop:=
 ∃ts:List (PT 0),e=two 0 ts/\ts.map Prod.snd=chunk es/\(∀t∈ts,w.heap.size<=addr 0 t/\IsN w' (In w.heap.size w'.heap.size) 0 t)/\Ext w w'
variable{w1:World}
theorem QcV.grow{t:PT 0}(h1:Ext w w1)(h2:Ext w2 w3)(D:w1.heap.size<=addr 0 t)(z:IsN w2 (In w1.heap.size w2.heap.size) 0 t):w.heap.size<=addr 0 t/\IsN w3 (In w.heap.size w3.heap.size) 0 t:=
 ⟨Nat.le_trans h1.size D,(z.agree (h2.agree λ_ h=>h.2)).mono λ_ h=>⟨Nat.le_trans h1.size h.1,ab h.2 h2.size⟩⟩
theorem QhX(hs:ES w (Lt w) s xs)(D:QbH xs)(h8:xs.length<=9) :
  Calls prog 105 #[.slice s.a xs.length s.c,.func (.func 106) #[] #[]] w (Qmu (xs.map LE.ent) w):=by
 by_cases h:xs.length<=8
 ·have hc:=QdZ hs rfl D h
  have hl:(xs.length:Int)<=8:=by omega
  clear hs D;go_in;go_wp2_with fail;refine hc.mono ?_;rintro e w' ⟨t,rfl,h1,h2,L,X⟩;have H3:=hY L;clear L;go_wp2_with fail;go_ret2;exact⟨[t],rfl,by show[t.2]=_;rw[h1,chunk,em (by simpa using h)],by simpa using⟨h2,H3.o⟩,X⟩
 have h9:xs.length=9:=by omega
 have a0:=hs.at (i:=0) (x:=xs[0]'(by omega)) (ac (by omega));obtain⟨b,o,ha,a1,Y,Z,-⟩:=a0;have z:s=⟨some ⟨b,o,none⟩,s.c⟩:=by cases s;simp_all
 have N:∀W,Ext w W->Calls prog 106 #[.slice (some ⟨b,o,none⟩) 4 s.c] W (QcV ((xs.take 4).map LE.ent) W):=λW R=>by
  have:=QdZ (w:=W) (n:=4) (s:=s) (xs:=xs.take 4) (((hs.take (m:=4) (by omega)).agree (R.agree λ_ h=>h)).mono λi hi=>ab hi R.size) (by rw[ap];omega) (D.take 4) (by rw[ap];omega);rw[z]at this;exact this
 have J:∀W,Ext w W->Calls prog 106 #[.slice (some ⟨b,o+28,none⟩) 5 (s.c-4)] W (QcV ((xs.drop 4).map LE.ent) W):=λW R=>by
  have I:=hs;rw[z]at I;exact QdZ (w:=W) (n:=5) (s:=⟨some ⟨b,o+28,none⟩,s.c-4⟩) (xs:=xs.drop 4) (((I.drop (m:=4) (by omega)).agree (R.agree λ_ h=>h)).mono λi hi=>ab hi R.size) (by rw[au];omega) (D.drop 4) (by rw[au];omega)
 have HL:=hY N;have HR:=hY J;clear N J hs D z;rw[ha,h9];rw[h9]at Y;have a2:4<=s.c:=by omega
 unfold maxLen at Z;go_in;go_wp2_with fail;go_region_with (first
  |(go_at_call_of 106 (Value.slice (some ⟨b,o,none⟩) 4 s.c);refine(HL.o _ ?_).mono ?_;exact(fu w).drew;rintro e w1 ⟨t,rfl,h1,h2,L,X⟩;have H3:=hY L;clear L)
  |(go_at_call 106;refine(HR.o _ ?_).mono ?_;exact(fu w).drew.trans X;rintro e w2 ⟨u,rfl,k1,k2,k3,k4⟩;have K3:=hY k3;clear k3))
 all_goals go_wp2_with fail
 all_goals go_ret2
 have hX:=(fu w).drew.trans X;refine⟨[t,u],rfl,?_,?_,hX.trans k4⟩
 ·show [t.2,u.2]=_
  rw[h1,k1,chunk,ef (by simp;omega),cT,cH]
 intro x U;rcases aF.1 U with rfl|U
 .exact QcV.grow (fu w).drew k4 h2 H3.o
 rcases aF.1 U with rfl|U
 .exact QcV.grow hX (fu w2) k2 K3.out
 simp at U
end Go.Proofs.YtkjkafgnnoidpaaGreatDoor
