/- What the theorem needs of the texts Held, Held2, Mem, Copy, Rows2, Search, Plain, Node, Copies, Entry, Place, InsertE, Leaf: no condition of its own. -/
import Derived.Deep.RegionHeld3
import Derived.Lib.Hide
import Derived.WalkLawsBesides
import Derived.WalkSpells
import Derived.Deep.DeepCutAuto
import Derived.BigQuiet
import Derived.Test.YtkjkafgnnoidpaaGreatDoorProg
import Derived.Shelf.Abstract
import Derived.Lib.Overlaps
import Derived.Deep.RegionLaw
import Derived.Lib.AppendZerosOnto
set_option linter.unusedVariables false
set_option linter.unusedSimpArgs false
set_option linter.unnecessarySimpa false
set_option maxRecDepth 100000
set_option maxHeartbeats 2000000
namespace Go.Proofs.YtkjkafgnnoidpaaGreatDoor
def Yd(p:Prop):Prop:=p
theorem Yd.o{p:Prop}(h:Yd p):p:=h
theorem Yd.out{p:Prop}(h:Yd p):p:=h
theorem hY{p:Prop}(h:p):Yd p:=h
instance zW:Coe World Nat:=⟨λw=>w.heap.size⟩
open Go.Proofs.Tryz
open Go.RowKit
abbrev em:=@if_pos
abbrev ab:=@Nat.lt_of_lt_of_le
abbrev ac:=@List.getElem?_eq_getElem
abbrev ae:=@List.setIfInBounds_toArray
abbrev ah:=@List.getElem?_eq_some_iff
abbrev ai:=@List.set_cons_zero
abbrev aj:=@List.set_cons_succ
abbrev ak:=@List.length_append
abbrev al:=@Nat.le_trans
abbrev am:=@List.mem_of_getElem?
abbrev an:=@Nat.le_refl
abbrev ao:=@List.length_map
abbrev ap:=@List.length_take
abbrev aq:=@List.getElem?_map
abbrev ar:=@List.eq_nil_of_length_eq_zero
abbrev au:=@List.length_drop
abbrev av:=@List.length_cons
abbrev aw:=@Nat.zero_le
abbrev az:=@List.mem_cons_self
abbrev aA:=@Nat.zero_add
abbrev aB:=@List.mem_append
abbrev aC:=@Array.getElem?_eq_some_iff
abbrev aD:=@List.mem_of_mem_drop
abbrev aE:=@List.drop_eq_getElem_cons
abbrev aF:=@List.cons_append
abbrev aG:=@List.mem_cons
abbrev aH:=@Array.length_toList
abbrev aI:=@List.mem_cons_of_mem
abbrev aJ:=@List.nil_append
abbrev aK:=@ByteArray.size_append
abbrev aL:=@List.map_append
abbrev aM:=@List.take_length
abbrev aN:=@List.mem_of_mem_take
abbrev aO:=@Bool.eq_false_or_eq_true
abbrev aP:=@List.flatMap_append
abbrev aQ:=@List.getElem?_eq_none
abbrev aR:=@List.map_cons
abbrev aS:=@List.append_assoc
abbrev aT:=@List.take_add_one
abbrev aU:=@List.getElem?_append_right
abbrev aV:=@List.take_succ_cons
abbrev aW:=@List.pairwise_cons
abbrev aX:=@List.take_append_drop
abbrev aY:=@List.append_nil
abbrev aZ:=@List.take_append_of_le_length
abbrev a7:=@List.take_of_length_le
abbrev a8:=@List.length_nil
abbrev ba:=@Bool.and_eq_true
abbrev bc:=@List.flatMap_cons
abbrev be:=@List.map_nil
abbrev bj:=@List.getElem?_drop
abbrev bm:=@List.getElem?_take
abbrev bn:=@List.mem_singleton
abbrev bp:=@List.getElem?_append_left
abbrev bq:=@Nat.le_of_lt_succ
abbrev br:=@List.size_toArray
abbrev bu:=@List.drop_eq_nil_iff
abbrev bv:=@List.getElem?_of_mem
abbrev bx:=@Nat.min_eq_left
abbrev bz:=@List.filter_cons
abbrev bA:=@List.length_filter_le
abbrev bB:=@List.mem_or_eq_of_mem_set
abbrev bC:=@List.drop_eq_nil_of_le
abbrev bD:=@List.length_range
abbrev bE:=@List.mem_map
abbrev bF:=@List.not_mem_nil
abbrev bG:=@List.pairwise_map
abbrev bH:=@Nat.add_assoc
abbrev bI:=@List.mem_filter
abbrev bJ:=@List.getElem?_take_of_lt
abbrev bK:=@List.ext_getElem?
abbrev bL:=@List.map_set
abbrev bM:=@Bool.false_eq_true
abbrev bN:=@List.filter_append
abbrev bO:=@List.take_zero
abbrev bP:=@Option.map_some
abbrev bQ:=@ByteArray.size_extract
abbrev bR:=@Array.getElem?_toList
abbrev bS:=@List.length_set
abbrev bT:=@Array.replicate_succ
abbrev bU:=@Array.replicate_zero
abbrev bV:=@List.length_eq_zero_iff
abbrev bW:=@List.set_eq_take_append_cons_drop
abbrev bX:=@Bool.not_eq_true'
abbrev bY:=@List.isPrefixOf_iff_prefix
abbrev bZ:=@List.tail_cons
abbrev b9:=@Nat.le_of_lt
abbrev cd:=@List.append_toArray
abbrev ce:=@List.filter_sublist
abbrev cf:=@List.pairwise_append
abbrev cg:=@Nat.mul_le_mul_right
abbrev ci:=@Nat.mul_one
abbrev cm:=@List.prefix_iff_eq_take
abbrev cp:=@List.push_toArray
abbrev cq:=@List.toList_toArray
abbrev cu:=@List.length_eq_one_iff
abbrev cx:=@Nat.add_zero
abbrev cy:=@List.map_drop
abbrev cz:=@List.drop_length
abbrev cA:=@List.mem_flatMap
abbrev cB:=@Bool.and_eq_false_iff
abbrev cE:=@List.Pairwise.sublist
abbrev cF:=@List.length_singleton
abbrev cG:=@List.map_map
abbrev cH:=@Nat.le_succ
abbrev cJ:=@Nat.not_succ_le_self
abbrev cN:=@Nat.zero_mul
abbrev cO:=@List.map_take
abbrev cQ:=@Nat.lt_irrefl
abbrev cR:=@Option.isSome_iff_exists
abbrev cT:=@List.mem_map_of_mem
abbrev cU:=@List.take_take
abbrev cV:=@List.getElem?_set_self
abbrev cW:=@Nat.sub_self
abbrev cX:=@List.headD_cons
abbrev cY:=@Array.getElem?_modify
abbrev cZ:=@List.drop_length_add_append
abbrev db:=@List.getD_eq_getElem?_getD
abbrev dd:=@List.getElem?_mapIdx
abbrev de:=@List.getElem?_set_ne
abbrev df:=@Array.toList_inj
abbrev dg:=@List.all_eq_true
abbrev dh:=@List.map_toArray
abbrev di:=@Nat.le_add_right
abbrev dj:=@Nat.lt_succ_self
abbrev dm:=@Option.getD_some
abbrev dn:=@Array.toList_append
abbrev dq:=@List.takeWhile_cons
abbrev dt:=@Option.any_some
abbrev du:=@List.filter_cons_of_pos
abbrev dv:=@Nat.sub_mul
abbrev dw:=@Option.bind_eq_some_iff
abbrev dx:=@Array.size_append
abbrev dy:=@ByteArray.data_extract
abbrev dz:=@List.drop_zero
abbrev dA:=@List.take_left
abbrev dB:=@Option.map_eq_some_iff
abbrev dC:=@List.cons_lt_cons_iff
abbrev dD:=@List.set_append_right
abbrev dE:=@List.sizeOf_lt_of_mem
abbrev dF:=@List.prefix_refl
abbrev dG:=@Option.bind_some
abbrev dH:=@Bool.or_eq_false_iff
abbrev dI:=@Nat.min_def
abbrev dJ:=@List.foldl_cons
abbrev dK:=@List.replicate_succ
abbrev dL:=@Nat.lt_or_ge
abbrev dM:=@Bool.false_and
abbrev dN:=@Option.isSome_some
abbrev dO:=@Option.toList_some
abbrev dP:=@List.drop_sublist
abbrev dQ:=@Bool.true_and
abbrev dR:=@ByteArray.ext
abbrev dS:=@Nat.mul_comm
abbrev dU:=@Bool.or_eq_true
abbrev dV:=@List.all_append
abbrev dW:=@Option.any_none
abbrev dX:=@Bool.not_false
abbrev dY:=@List.drop_drop
abbrev dZ:=@List.drop_left
abbrev d9:=@List.foldl_nil
abbrev ec:=@Nat.add_mul
abbrev ed:=@Prod.ext
abbrev ee:=@Bool.false_or
section
variable{P : Program}{ops : Array Oper}{Q : Exit -> Act -> World -> Prop}{md : Region.Mode}{S : World -> Prop}
theorem QoK{i:Nat}{I:Oper}{d:Option Tmp}{v:Value}{D:Nat}{z:Array Bool}{a:Act}{w:World}(hi:ops[i]? = some I)(hd:I.dst=d)
  (hs:Region.noSelect ops=true) (N:Region.free md ops z i=true) (X:(Region.ready md ops z).contains i=true)
  (J:∀c a w,Q (.panic c) (a.put d v) w->Q (.panic c) a w) (U:Region.wanted I (yielded ops a.tmps)=true) (hS:S w) (R:∀w,S w->(execOp a.eval I).run P w=.ok (.value v) w)
  (h:wpAnyH P md ops Q S D (z.setIfInBounds i true) (a.put d v) w):wpAnyH P md ops Q S (D+1) z a w:=by
 subst hd;exact wpAnyH_take hi hs N X J (.inl ⟨U,R⟩) hS h
theorem QqN{i:Nat}{I:Oper}{d:Option Tmp}{D:Nat}{z:Array Bool}{a:Act}{w:World}(hi:ops[i]? = some I)(hd:I.dst=d)
  (hs:Region.noSelect ops=true) (N:Region.free md ops z i=true) (U:(Region.ready md ops z).contains i=true)
  (J:∀c a w,Q (.panic c) (a.put d undef) w->Q (.panic c) a w) (R:Region.wanted I (yielded ops a.tmps)=false) (hS:S w)
  (h:wpAnyH P md ops Q S D (z.setIfInBounds i true) (a.put d undef) w):wpAnyH P md ops Q S (D+1) z a w:=by
 subst hd;exact wpAnyH_take hi hs N U J (.inr ⟨R,rfl⟩) hS h
theorem Qag{i:Nat}{J:Oper}{D:Nat}{z:Array Bool}{a:Act}{w:World}(U:Region.ready md ops z=[i])(hi:ops[i]? = some J)(N:Region.wanted J (yielded ops a.tmps)=true)
  (h:∀I:Act->World->Prop,Shut (∀a w,S w->(S w->wpAnyH P md ops Q S D (z.setIfInBounds i true) a w)->I a w)->Oper.wp P J a w I Q):wpAnyH P md ops Q S (D+1) z a w:=
 wpAnyH_ready U (by simp) (AllReadyH.cons hi (λI R=>by rw[em N];exact h I R) AllReadyH.nil)
end
section
variable{P : Program}{ops : Array Oper}{Q : Exit -> Act -> World -> Prop}{md : Region.Mode}{S C : World -> Prop}
theorem QdI(i:Nat)(d:Option Tmp){I:Oper}{D:Nat}{z l':Array Bool}{a J:Act}{w:World}(hS:S w)(h:wpAnyH P md ops Q S D l' J w)
  (hi:ops[i]? = some I:=by rfl) (hd:I.dst=d:=by rfl) (hs:Region.noSelect ops=true:=by kernel_rfl) (R:Region.free md ops z i=true:=by kernel_rfl) (Z:(Region.ready md ops z).contains i=true:=by kernel_rfl)
  (N:∀c a w,Q (.panic c) (a.put d undef) w->Q (.panic c) a w:=by exactλ_ _ _ h=>h) (X:Region.wanted I (yielded ops a.tmps)=false:=by rfl)
  (Y:z.setIfInBounds i true=l':=by first |(simp only[List.setIfInBounds_toArray,List.set_cons_zero,List.set_cons_succ];rfl)|rfl)
  (U:a.put d undef=J:=by first |(simp only[Act.put,List.setIfInBounds_toArray,List.set_cons_zero,List.set_cons_succ];rfl)|rfl):wpAnyH P md ops Q S (D+1) z a w:=by
 subst Y U;exact QqN hi hd hs R Z N X hS h
theorem Qad(i:Nat)(d:Option Tmp){v:Value}{I:Oper}{D:Nat}{z l':Array Bool}{a N:Act}{w:World}(Z:Yd (∀W,S W->C W))(hS:S w)(h:wpAnyH P md ops Q S D l' N w)
  (hi:ops[i]? = some I:=by rfl) (hd:I.dst=d:=by rfl) (hs:Region.noSelect ops=true:=by kernel_rfl) (Y:Region.free md ops z i=true:=by kernel_rfl) (U:(Region.ready md ops z).contains i=true:=by kernel_rfl)
  (hy:∀w,C w->(execOp a.eval I).run P w=.ok (.value v) w:=by(intro w X;go_simp;first|done|with_reducible rfl))
  (R:∀c a w,Q (.panic c) (a.put d v) w->Q (.panic c) a w:=by exactλ_ _ _ h=>h) (J:Region.wanted I (yielded ops a.tmps)=true:=by rfl)
  (hl:z.setIfInBounds i true=l':=by first |(simp only[List.setIfInBounds_toArray,List.set_cons_zero,List.set_cons_succ];rfl)|rfl)
  (hp:a.put d v=N:=by first |(simp only[Act.put,List.setIfInBounds_toArray,List.set_cons_zero,List.set_cons_succ];rfl)|rfl):wpAnyH P md ops Q S (D+1) z a w:=by
 subst hl hp;exact QoK hi hd hs Y U R J hS (λw J=>hy w (Z.out w J)) h
theorem Qar(i:Nat)(d:Option Tmp){v:Value}{I:Oper}{D:Nat}{z l':Array Bool}{a N:Act}{w:World}(hS:S w)(h:wpAnyH P md ops Q S D l' N w)
  (hi:ops[i]? = some I:=by rfl) (hd:I.dst=d:=by rfl) (hs:Region.noSelect ops=true:=by kernel_rfl) (U:Region.free md ops z i=true:=by kernel_rfl) (hr:(Region.ready md ops z).contains i=true:=by kernel_rfl)
  (X:∀w,S w->(execOp a.eval I).run P w=.ok (.value v) w:=by(intro w J;(try dsimp only at J);go_simp;first|done|with_reducible rfl))
  (R:∀c a w,Q (.panic c) (a.put d v) w->Q (.panic c) a w:=by exactλ_ _ _ h=>h) (Z:Region.wanted I (yielded ops a.tmps)=true:=by rfl)
  (hl:z.setIfInBounds i true=l':=by first |(simp only[List.setIfInBounds_toArray,List.set_cons_zero,List.set_cons_succ];rfl)|rfl)
  (Y:a.put d v=N:=by first |(simp only[Act.put,List.setIfInBounds_toArray,List.set_cons_zero,List.set_cons_succ];rfl)|rfl):wpAnyH P md ops Q S (D+1) z a w:=by
 subst hl Y;exact QoK hi hd hs U hr R Z hS X h
end
section
variable{P : Program}{ops : Array Oper}{Q : Exit -> Act -> World -> Prop}{md : Region.Mode}{S : World -> Prop}
theorem QlI{i j:Nat}{R J:Oper}{D:Nat}{z:Array Bool}{a:Act}{w:World}(Z:Region.ready md ops z=[i,j])(hi:ops[i]? = some R)(U:ops[j]? = some J)(X:Region.wanted R (yielded ops a.tmps)=true)(Y:Region.wanted J (yielded ops a.tmps)=true)
  (h:∀I:Act->World->Prop,Shut (∀a w,S w->(S w->wpAnyH P md ops Q S D (z.setIfInBounds i true) a w)->I a w)->Oper.wp P R a w I Q)
  (h':∀I:Act->World->Prop,Shut (∀a w,S w->(S w->wpAnyH P md ops Q S D (z.setIfInBounds j true) a w)->I a w)->Oper.wp P J a w I Q):wpAnyH P md ops Q S (D+1) z a w:=
 wpAnyH_ready Z (by simp) (AllReadyH.cons hi (λI N=>by rw[em X];exact h I N) (AllReadyH.cons U (λI N=>by rw[em Y];exact h' I N) AllReadyH.nil))
end
abbrev ef:=@if_neg
abbrev ey:=@World.size_alloc
abbrev eJ:=@Below.heap_alloc
abbrev eM:=@World.cell?_setCell_same
abbrev eP:=@Below.heap_setCell
abbrev eS:=@World.cell?_of_block
abbrev eY:=@cell_of_row
abbrev fh:=@heap_alloc_new
abbrev fm:=@lt_of_block
structure Ext(w w':World):Prop where
 below:Below w.heap.size w w'
 free:∀b o,w.heap.size<=b->w'.frozen? ⟨b,o,none⟩=false
variable{w:World}
theorem frozen_none{b o:Nat}(h:w<=b):w.frozen? ⟨b,o,none⟩=false:=by
 have:w.heap[b]? = none:=by simp;omega
 simp[World.frozen?,this]
theorem Ext.refl(w:World):Ext w w:=⟨Below.refl _ _,λ_ _ h=>frozen_none h⟩
variable{w':World}
theorem Ext.size(h:Ext w w'):w.heap.size<=w'.heap.size:=h.below.size
theorem Ext.trans{a b c:World}(h:Ext a b)(k:Ext b c):Ext a c:=by
 refine⟨h.below.trans (k.below.mono h.size),λi o hi=>?_⟩;rcases dL i b.heap.size with z|z
 .rw [k.below.frozen (p:=⟨i,o,none⟩) z];exact h.free i o hi
 exact k.free i o z
theorem Ext.drew{a w:World}(h:Ext a w):Ext a w.drew:=⟨h.below.drew,λb o z=>h.free b o z⟩
theorem Ext.drewN{a w:World}(h:Ext a w)(n:Nat):Ext a (w.drewN n):=⟨below_drewN h.below n,λb o z=>h.free b o z⟩
theorem Ext.alloc{a w:World}(h:Ext a w)(c:Array Value)(t:TypeId):Ext a (w.alloc (.cells c t)):=by
 refine h.trans ⟨(Below.refl _ _).alloc (an _) _,λb o D=>?_⟩;by_cases z:b=w.heap.size
 .subst z;simp
 exact frozen_none (by simp;omega)
theorem Ext.setCell{a w:World}(h:Ext a w){p:Addr}(D:a.heap.size<=p.block)(u:Value):Ext a (w.setCell p u):=
 ⟨h.below.setCell D u,λb o z=>by rw[World.frozen?_setCell];exact h.free b o z⟩
theorem Ext.cell(h:Ext w w'){b o:Nat}(z:b<w):w'.cell? ⟨b,o,none⟩=w.cell? ⟨b,o,none⟩:=h.below.cell (p:=⟨b,o,none⟩) z
theorem Ext.frozen(h:Ext w w'){b o:Nat}(z:b<w):w'.frozen? ⟨b,o,none⟩=w.frozen? ⟨b,o,none⟩:=h.below.frozen (p:=⟨b,o,none⟩) z
theorem Ext.heap(h:Ext w w'){b:Nat}(z:b<w):w'.heap[b]? = w.heap[b]?:=h.below.block b z
theorem Ext.olds(h:Ext w w'):(∀b o,b<w.heap.size->w'.cell? ⟨b,o,none⟩=w.cell? ⟨b,o,none⟩)/\(∀b o,b<w.heap.size->w'.frozen? ⟨b,o,none⟩=w.frozen? ⟨b,o,none⟩):=
 ⟨λ_ _ z=>h.cell z,λ_ _ z=>h.frozen z⟩
def Agree(F:Nat->Prop)(w w':World):Prop:=∀b,F b->w'.heap[b]? = w.heap[b]?
variable{F:Nat->Prop}
theorem Agree.cell(h:Agree F w w'){b o:Nat}(z:F b):w'.cell? ⟨b,o,none⟩=w.cell? ⟨b,o,none⟩:=eS (w:=w) (a:=⟨b,o,none⟩) (h b z)
variable{B:Nat}
theorem Agree.of_below(h:Below B w w')(hF:∀b,F b->b<B):Agree F w w':=λb z=>h.block b (hF b z)
theorem Ext.agree(h:Ext w w')(hF:∀b,F b->b<w):Agree F w w':=Agree.of_below h.below hF
theorem Agree.setCell{F:Nat->Prop}(w:World)(p:Addr)(u:Value)(D:¬F p.block):Agree F w (w.setCell p u):=λb z=>eP w p u b (λe=>D (e▸z))
theorem Agree.alloc(w:World)(o:Obj)(hF:∀b,F b->b<w):Agree F w (w.alloc o):=λb z=>eJ w o b (hF b z)
theorem Agree.drewN{F:Nat->Prop}(w:World)(n:Nat):Agree F w (w.drewN n):=λ_ _=>rfl
theorem Agree.trans{a b c:World}(h:Agree F a b)(k:Agree F b c):Agree F a c:=λi hi=>(k i hi).trans (h i hi)
theorem Agree.refl(w:World):Agree F w w:=λ_ _=>rfl
variable{G:Nat->Prop}
theorem Agree.mono{a b:World}(h:Agree F a b)(z:∀i,G i->F i):Agree G a b:=λi hi=>h i (z i hi)
abbrev Lt(n:Nat):Nat->Prop:=λb=>b<n
abbrev In(m n:Nat):Nat->Prop:=λb=>m<=b/\b<n
structure Sl where
 a:Option Addr
 c:Nat
abbrev Sl.none:Sl:=⟨Option.none,0⟩
inductive QeM (F:Nat->Prop):Sl->Nat->Nat->Nat->Prop
 |nil (b o:Nat):QeM F ⟨Option.none,0⟩ 0 b o
 |some (n c b o:Nat) (h:n<=c) (hc:c<=maxLen) (hb:F b):QeM F ⟨Option.some ⟨b,o,Option.none⟩,c⟩ n b o
 |zero (a:Addr) (b o:Nat):QeM F ⟨Option.some a,0⟩ 0 b o
theorem QeM.mono{v:Sl}{n b o:Nat}(h:QeM F v n b o)(z:∀i,F i->G i):QeM G v n b o:=by
 cases h with
 |nil=>exact .nil _ _
 |some _ c _ _ h hc hb=>exact .some _ c _ _ h hc (z _ hb)
 |zero a=>exact .zero a _ _
theorem QeM.fits{v:Sl}{n b o:Nat}(h:QeM F v n b o)(z:0<n):F b:=by
 cases h with
 |nil=>omega
 |some _ c _ _ h hc hb=>exact hb
 |zero a=>omega
theorem QeM.eq{v:Sl}{n b o:Nat}(h:QeM F v n b o)(z:0<n):v.a=Option.some ⟨b,o,Option.none⟩/\n<=v.c/\v.c<=maxLen:=by
 cases h with
 |nil=>omega
 |some _ c _ _ h hc hb=>exact⟨rfl,h,hc⟩
 |zero a=>omega
inductive Val where
 |mk (kind:Int) (b:Bool) (i:Int) (t:ByteArray) (l:List Val) (ok:List ByteArray) (ov:List Val)
def Val.kind:Val->Int | .mk k _ _ _ _ _ _=>k
def Val.b:Val->Bool | .mk _ b _ _ _ _ _=>b
def Val.i:Val->Int | .mk _ _ i _ _ _ _=>i
def Val.t:Val->ByteArray | .mk _ _ _ t _ _ _=>t
def Val.l:Val->List Val | .mk _ _ _ _ l _ _=>l
def Val.ok:Val->List ByteArray | .mk _ _ _ _ _ ok _=>ok
def Val.ov:Val->List Val | .mk _ _ _ _ _ _ ov=>ov
theorem Val.Qb7(d:Val):0<SizeOf.sizeOf d:=by cases d;simp only[Val.mk.sizeOf_spec];omega
variable{j:Nat}
theorem Val.Qqm{k:Int}{b:Bool}{i:Int}{t:ByteArray}{l:List Val}{ok:List ByteArray}{ov:List Val}{d:Val}(h:l[j]? = some d):SizeOf.sizeOf d<SizeOf.sizeOf (Val.mk k b i t l ok ov):=by
 have:=dE (am h);simp only[Val.mk.sizeOf_spec];omega
theorem Val.Qqn{k:Int}{b:Bool}{i:Int}{t:ByteArray}{l:List Val}{ok:List ByteArray}{ov:List Val}{d:Val}(h:ov[j]? = some d):SizeOf.sizeOf d<SizeOf.sizeOf (Val.mk k b i t l ok ov):=by
 have:=dE (am h);simp only[Val.mk.sizeOf_spec];omega
structure QaL(w:World)(b o:Nat)(d:Val)(sl so:Sl):Prop where
 c0:w.cell? ⟨b,o,none⟩=some (.int .i64 d.kind)
 c1:w.cell? ⟨b,o+1,none⟩=some (.bool d.b)
 c2:w.cell? ⟨b,o+2,none⟩=some (.int .i64 d.i)
 c3:w.cell? ⟨b,o+3,none⟩=some (.string d.t)
 c4:w.cell? ⟨b,o+4,none⟩=some (.slice sl.a d.l.length sl.c)
 c5:w.cell? ⟨b,o+5,none⟩=some (.slice so.a d.ok.length so.c)
variable{sl so:Sl}
theorem QaL.agree{b o:Nat}{d:Val}(h:QaL w b o d sl so)(z:Agree F w w')(D:F b):QaL w' b o d sl so:=
 ⟨(z.cell D).trans h.c0,(z.cell D).trans h.c1,(z.cell D).trans h.c2,(z.cell D).trans h.c3,(z.cell D).trans h.c4,(z.cell D).trans h.c5⟩
inductive RV (w:World) (F:Nat->Prop):Val->Sl->Sl->Prop
 |mk {kind:Int} {b:Bool} {i:Int} {t:ByteArray} {l:List Val} {ok:List ByteArray} {ov:List Val} {sl so:Sl} (bl fl bo fo:Nat) (cl co:Nat->Sl × Sl)
    (hl:QeM F sl l.length bl fl) (ho:QeM F so ok.length bo fo) (hov:ov.length=ok.length)
    (el:∀j d,l[j]? = some d->QaL w bl (fl+j*6) d (cl j).1 (cl j).2)
    (rl:∀j d,l[j]? = some d->RV w F d (cl j).1 (cl j).2)
    (ek:∀j k,ok[j]? = some k->w.cell? ⟨bo,fo+j*7,none⟩=some (.string k)/\k.size<=maxLen)
    (eo:∀j d,ov[j]? = some d->QaL w bo (fo+j*7+1) d (co j).1 (co j).2)
    (ro:∀j d,ov[j]? = some d->RV w F d (co j).1 (co j).2)
    (bk:(Lit.int .i64 kind).wf=true) (bi:(Lit.int .i64 i).wf=true) (bt:t.size<=maxLen)
    (nl:l.length*88<=140737488355328) (no:ok.length*104<=140737488355328):RV w F (.mk kind b i t l ok ov) sl so
theorem QbS{α:Type}{l:List α}{d:α}(h:l[j]? = some d):0<l.length:=Nat.lt_of_le_of_lt (aw _) (ah.1 h).1
theorem RV.agree{d:Val}(h:RV w F d sl so)(D:Agree F w w'):RV w' F d sl so:=by
 induction h with
 | mk bl fl bo fo cl co hl ho hov el rl ek eo ro bk bi bt nl no ihl iho=>
   exact .mk bl fl bo fo cl co hl ho hov (λj d z=>(el j d z).agree D (hl.fits (QbS z))) (λj d z=>ihl j d z) (λj k z=>⟨(D.cell (ho.fits (QbS z))).trans (ek j k z).1,(ek j k z).2⟩)
    (λj d z=>(eo j d z).agree D (ho.fits (hov▸QbS z))) (λj d z=>iho j d z) bk bi bt nl no
theorem RV.mono{d:Val}(h:RV w F d sl so)(D:∀i,F i->G i):RV w G d sl so:=by
 induction h with
 | mk bl fl bo fo cl co hl ho hov el rl ek eo ro bk bi bt nl no ihl iho=>
   exact .mk bl fl bo fo cl co (hl.mono D) (ho.mono D) hov el (λj d z=>ihl j d z) ek eo (λj d z=>iho j d z) bk bi bt nl no
theorem RV.ext{d:Val}(h:RV w F d sl so)(z:Ext w w')(hF:∀b,F b->b<w):RV w' F d sl so:=h.agree (z.agree hF)
structure RVC(w:World)(F:Nat->Prop)(d:Val)(sl so:Sl):Prop where
 rv:RV w F d sl so
 cap:sl.c=d.l.length
theorem RVC.agree{d:Val}(h:RVC w F d sl so)(z:Agree F w w'):RV w' F d sl so:=h.rv.agree z
theorem RVC.mono{d:Val}(h:RVC w F d sl so)(z:∀i,F i->G i):RV w G d sl so:=h.rv.mono z
structure RL(w:World)(F:Nat->Prop)(b o:Nat)(l:List Val)(c:Nat->Sl × Sl):Prop where
 cells:∀j d,l[j]? = some d->QaL w b (o+j*6) d (c j).1 (c j).2
 reads:∀j d,l[j]? = some d->RV w F d (c j).1 (c j).2
structure RO(w:World)(F:Nat->Prop)(b o:Nat)(ok:List ByteArray)(ov:List Val)(c:Nat->Sl × Sl):Prop where
 keys:∀j k,ok[j]? = some k->w.cell? ⟨b,o+j*7,none⟩=some (.string k)/\k.size<=maxLen
 cells:∀j d,ov[j]? = some d->QaL w b (o+j*7+1) d (c j).1 (c j).2
 reads:∀j d,ov[j]? = some d->RV w F d (c j).1 (c j).2
def Qao(wr:World)(B t size n:Nat):Prop:=∃arr,wr.heap[B]? = some (.cells arr t (0,0))/\arr.size=n*size
theorem Qao.agree{B t size n:Nat}(h:Qao w B t size n)(D:Agree F w w')(hF:F B):Qao w' B t size n:=by
 obtain⟨z,h1,h2⟩:=h;exact⟨z,(D B hF).trans h1,h2⟩
theorem Qao.lt{B t size n:Nat}(h:Qao w B t size n):B<w.heap.size:=by obtain⟨z,h1,_⟩:=h;exact fm h1
theorem Qao.frozen{B t size n:Nat}(h:Qao w B t size n)(o:Nat):w.frozen? ⟨B,o,none⟩=false:=by
 obtain⟨z,h1,h2⟩:=h;simp[World.frozen?,h1]
variable{o:Nat}
theorem Qao.cell{B t size n:Nat}(h:Qao w B t size n)(D:o<n*size):∃v,w.cell? ⟨B,o,none⟩=some v:=by
 obtain⟨z,h1,h2⟩:=h;exact⟨z[o]'(by omega),by rw[eY w B o z t (0,0) h1];simp⟩
theorem Qao.setCell{B t size n:Nat}(h:Qao w B t size n)(p:Addr)(u:Value):Qao (w.setCell p u) B t size n:=by
 obtain⟨z,h1,h2⟩:=h;by_cases D:B=p.block
 ·subst D
  refine⟨if p.spot.isSome then z else z.setIfInBounds p.off u,?_,?_⟩
  .simp [World.setCell,Array.getElem?_modify,h1]
  split<;>simp[h2]
 exact⟨z,(eP w p u B D).trans h1,h2⟩
def Blk(w:World)(g:Nat)(t:TypeId)(cs:Array Value):Prop:=w.heap[g]? = some (.cells cs t (0,0))
section
variable{w w' : World}{g : Nat}{t : TypeId}{cs : Array Value}
theorem Blk.lt(h:Blk w g t cs):g<w:=fm h
theorem Blk.cell(h:Blk w g t cs)(i:Nat):w.cell? ⟨g,i,none⟩=cs[i]?:=eY w g i cs t (0,0) h
theorem Blk.frozen(h:Blk w g t cs)(i:Nat):w.frozen? ⟨g,i,none⟩=false:=by
 unfold Blk at h;simp[World.frozen?,h]
theorem Blk.new(w:World)(t:TypeId)(cs:Array Value):Blk (w.alloc (.cells cs t)) w.heap.size t cs:=fh w _
theorem Blk.Qdz(h:Blk w g t cs)(i:Nat)(u:Value):Blk (w.setCell ⟨g,i,none⟩ u) g t (cs.setIfInBounds i u):=by
 unfold Blk at h ⊢;simp[World.setCell,Array.getElem?_modify,h]
theorem Blk.agree(h:Blk w g t cs){F:Nat->Prop}(z:Agree F w w')(hF:F g):Blk w' g t cs:=(z g hF).trans h
theorem Blk.ext(h:Blk w g t cs)(z:Ext w w'):Blk w' g t cs:=(z.heap h.lt).trans h
theorem Blk.alloc(h:Blk w g t cs)(o:Obj):Blk (w.alloc o) g t cs:=(eJ w o g h.lt).trans h
theorem Blk.far(h:Blk w g t cs){p:Addr}(z:g≠p.block)(u:Value):Blk (w.setCell p u) g t cs:=(eP w p u g z).trans h
theorem Blk.c6{v0 N z D J I:Value}(h:Blk w g t #[v0,N,z,D,J,I]):w.cell? ⟨g,0,none⟩=some v0/\w.cell? ⟨g,1,none⟩=some N/\w.cell? ⟨g,2,none⟩=some z/\w.cell? ⟨g,3,none⟩=some D/\w.cell? ⟨g,4,none⟩=some J/\w.cell? ⟨g,5,none⟩=some I:=
 ⟨h.cell 0,h.cell 1,h.cell 2,h.cell 3,h.cell 4,h.cell 5⟩
end
theorem Qas(w:World)(z I J:TypeId)(D N R:Array Value):∀W,((w.alloc (.cells D z)).alloc (.cells N I)).alloc (.cells R J)=W->
  Ext w W/\W.heap.size=w.heap.size+3/\Blk W w.heap.size z D/\Blk W (w.heap.size+1) I N/\Blk W (w.heap.size+1+1) J R:=by
 rintro W rfl;refine⟨(((Ext.refl w).alloc _ _).alloc _ _).alloc _ _,by simp,((Blk.new w z D).alloc _).alloc _,?_,?_⟩
 ·have h:=(Blk.new (w.alloc (.cells D z)) I N).alloc (.cells R J)
  rw[ey]at h;exact h
 have h:=Blk.new ((w.alloc (.cells D z)).alloc (.cells N I)) J R;rw[ey,ey]at h;exact h
theorem QgJ(w:World)(J z D U:TypeId)(R I N X:Array Value):∀W,(((w.alloc (.cells R J)).alloc (.cells I z)).alloc (.cells N D)).alloc (.cells X U)=W->
  Ext w W/\W.heap.size=w.heap.size+4/\Blk W w.heap.size J R/\Blk W (w.heap.size+1) z I/\Blk W (w.heap.size+1+1) D N/\Blk W (w.heap.size+1+1+1) U X:=by
 rintro W rfl;obtain⟨h1,h2,Y,h4,Z⟩:=Qas w J z D R I N _ rfl;refine⟨h1.alloc _ _,by simp,Y.alloc _,h4.alloc _,Z.alloc _,?_⟩;have h:=Blk.new (((w.alloc (.cells R J)).alloc (.cells I z)).alloc (.cells N D)) U X;rw[h2]at h;exact h
theorem Qao.of{B t:Nat}{cs:Array Value}{size n:Nat}(h:Blk w B t cs)(hs:cs.size=n*size):Qao w B t size n:=⟨cs,h,hs⟩
theorem Qao.made{t:TypeId}(cs:Array Value){size n:Nat}(h:cs.size=n*size):Qao (w.alloc (.cells cs t)) w.heap.size t size n:=⟨cs,Blk.new w t cs,h⟩
def QdP(w:World)(b o:Nat)(d:Val)(sl so:Sl):World:=
 (((((w.setCell ⟨b,o,none⟩ (.int .i64 d.kind)).setCell ⟨b,o+1,none⟩ (.bool d.b)).setCell ⟨b,o+2,none⟩ (.int .i64 d.i)).setCell ⟨b,o+3,none⟩ (.string d.t)).setCell ⟨b,o+4,none⟩ (.slice sl.a d.l.length sl.c)).setCell ⟨b,o+5,none⟩ (.slice so.a d.ok.length so.c)
theorem Qbm(w:World)(b o:Nat)(d:Val)(sl so:Sl)(hF:¬F b):Agree F w (QdP w b o d sl so):=
 ((((((Agree.refl w).trans (Agree.setCell _ _ _ hF)).trans (Agree.setCell _ _ _ hF)).trans (Agree.setCell _ _ _ hF)).trans (Agree.setCell _ _ _ hF)).trans (Agree.setCell _ _ _ hF)).trans (Agree.setCell _ _ _ hF)
theorem QdQ(w:World)(b o:Nat)(d:Val)(sl so:Sl):(QdP w b o d sl so).heap.size=w.heap.size:=by simp[QdP]
theorem Ext.QdP{a w:World}(h:Ext a w){b:Nat}(z:a<=b)(o:Nat)(d:Val)(sl so:Sl):Ext a (QdP w b o d sl so):=
 (((((h.setCell (p:=⟨b,_,none⟩) z _).setCell (p:=⟨b,_,none⟩) z _).setCell (p:=⟨b,_,none⟩) z _).setCell (p:=⟨b,_,none⟩) z _).setCell (p:=⟨b,_,none⟩) z _).setCell (p:=⟨b,_,none⟩) z _
theorem Qao.QdP{B t size n:Nat}(h:Qao w B t size n)(b o:Nat)(d:Val)(sl so:Sl):Qao (QdP w b o d sl so) B t size n:=
 (((((h.setCell _ _).setCell _ _).setCell _ _).setCell _ _).setCell _ _).setCell _ _
theorem Qaf(w:World)(b o o':Nat)(u:Value)(h:o≠o'):(w.setCell ⟨b,o,none⟩ u).cell? ⟨b,o',none⟩=w.cell? ⟨b,o',none⟩:=
 World.cell?_setCell_other w _ _ u (λe=>h (congrArg Addr.off e))
theorem QbK(w:World)(b o:Nat)(d:Val)(sl so:Sl)(o':Nat)(h:o'<o\/o+6<=o'):(QdP w b o d sl so).cell? ⟨b,o',none⟩=w.cell? ⟨b,o',none⟩:=by
 unfold QdP;rw[Qaf _ _ _ _ _ (by omega),Qaf _ _ _ _ _ (by omega),Qaf _ _ _ _ _ (by omega),Qaf _ _ _ _ _ (by omega),Qaf _ _ _ _ _ (by omega),Qaf _ _ _ _ _ (by omega)]
theorem Qao.here{B t size n:Nat}(h:Qao w B t size n)(z:o<n*size)(u:Value):(w.setCell ⟨B,o,none⟩ u).cell? ⟨B,o,none⟩=some u:=by
 obtain⟨v,D⟩:=h.cell z;exact eM w _ u D
theorem QjX{B t size n:Nat}(h:Qao w B t size n)(d:Val)(sl so:Sl)(z:o+6<=n*size):QaL (QdP w B o d sl so) B o d sl so:=by
 unfold QdP;refine⟨?_,?_,?_,?_,?_,?_⟩
 ·rw [Qaf _ _ _ _ _ (by omega),Qaf _ _ _ _ _ (by omega),Qaf _ _ _ _ _ (by omega),Qaf _ _ _ _ _ (by omega),Qaf _ _ _ _ _ (by omega)]
  exact h.here (by omega) _
 ·rw [Qaf _ _ _ _ _ (by omega),Qaf _ _ _ _ _ (by omega),Qaf _ _ _ _ _ (by omega),Qaf _ _ _ _ _ (by omega)]
  exact(h.setCell _ _).here (by omega) _
 ·rw [Qaf _ _ _ _ _ (by omega),Qaf _ _ _ _ _ (by omega),Qaf _ _ _ _ _ (by omega)]
  exact((h.setCell _ _).setCell _ _).here (by omega) _
 ·rw [Qaf _ _ _ _ _ (by omega),Qaf _ _ _ _ _ (by omega)]
  exact(((h.setCell _ _).setCell _ _).setCell _ _).here (by omega) _
 ·rw [Qaf _ _ _ _ _ (by omega)]
  exact((((h.setCell _ _).setCell _ _).setCell _ _).setCell _ _).here (by omega) _
 exact(((((h.setCell _ _).setCell _ _).setCell _ _).setCell _ _).setCell _ _).here (by omega) _
theorem QaL.other{b o:Nat}{d:Val}(h:QaL w b o d sl so)(o':Nat)(d':Val)(sl' so':Sl)(hd:o+6<=o'\/o'+6<=o):QaL (QdP w b o' d' sl' so') b o d sl so:=
 ⟨(QbK _ _ _ _ _ _ _ (by omega)).trans h.c0,(QbK _ _ _ _ _ _ _ (by omega)).trans h.c1,(QbK _ _ _ _ _ _ _ (by omega)).trans h.c2,(QbK _ _ _ _ _ _ _ (by omega)).trans h.c3,(QbK _ _ _ _ _ _ _ (by omega)).trans h.c4,(QbK _ _ _ _ _ _ _ (by omega)).trans h.c5⟩
structure Qh5(wr:World)(B t:Nat)(l:List Val)(k:Nat)(f:Nat->Sl × Sl):Prop where
 row:Qao wr B t 6 l.length
 cells:∀j d,j<k->l[j]? = some d->QaL wr B (j*6) d (f j).1 (f j).2
 reads:∀j d,j<k->l[j]? = some d->RV wr (In (B+1) wr.heap.size) d (f j).1 (f j).2
theorem Qh5.start{B t:Nat}{l:List Val}(h:Qao w B t 6 l.length)(f:Nat->Sl × Sl):Qh5 w B t l 0 f:=⟨h,λ_ _ h=>absurd h (by omega),λ_ _ h=>absurd h (by omega)⟩
theorem Qh5.step{wr W:World}{B t k:Nat}{l:List Val}{f:Nat->Sl × Sl}(h:Qh5 wr B t l k f)(N:Ext wr W){d:Val}(hd:l[k]? = some d)(Y:RV W (In wr.heap.size W.heap.size) d sl so) :
  Qh5 (QdP W B (k*6) d sl so) B t l (k+1) (λj=>if j=k then(sl,so)else f j):=by
 have R:=h.row.lt;have Z:k<l.length:=(ah.1 hd).1;have I:Qao W B t 6 l.length:=h.row.agree (F:=Lt wr) (N.agree λ_ h=>h) R;refine⟨I.QdP _ _ _ _ _,λj d' U z=>?_,λj d' U z=>?_⟩
 ·by_cases D:j=k
  ·subst D
   obtain rfl:d=d':=by rw[hd]at z;injection z
   simp only[if_pos];exact QjX I _ _ _ (by omega)
  simp only[if_neg D];exact((h.cells j d' (by omega) z).agree (F:=Lt wr) (N.agree λ_ h=>h) R).other _ _ _ _ (by omega)
 have J:Agree (In (B+1) W.heap.size) W (QdP W B (k*6) d sl so):=Qbm _ _ _ _ _ _ (by omega);rw[QdQ];by_cases D:j=k
 ·subst D
  obtain rfl:d=d':=by rw[hd]at z;injection z
  simp only[if_pos];exact(Y.mono (λi hi=>⟨by omega,hi.2⟩)).agree J
 simp only[if_neg D];exact(((h.reads j d' (by omega) z).ext N (λb X=>X.2)).mono (λi hi=>⟨hi.1,by have:=N.size;omega⟩)).agree J
variable{n:Nat}
theorem Qh5.done{B t:Nat}{l:List Val}{f:Nat->Sl × Sl}(h:Qh5 w B t l l.length f)(z:n<=B):RL w (In n w.heap.size) B 0 l f:=
 ⟨λj d hd=>by rw[aA];exact h.cells j d (ah.1 hd).1 hd,λj d hd=>(h.reads j d (ah.1 hd).1 hd).mono λi hi=>⟨by omega,hi.2⟩⟩
theorem QaL.m{b o:Nat}{d:Val}(h:QaL w b (o+1) d sl so):w.cell? ⟨b,o+1,none⟩=some (.int .i64 d.kind)/\w.cell? ⟨b,o+2,none⟩=some (.bool d.b)/\w.cell? ⟨b,o+3,none⟩=some (.int .i64 d.i)/\w.cell? ⟨b,o+4,none⟩=some (.string d.t)/\
  w.cell? ⟨b,o+5,none⟩=some (.slice sl.a d.l.length sl.c)/\w.cell? ⟨b,o+6,none⟩=some (.slice so.a d.ok.length so.c):=⟨h.c0,h.c1,h.c2,h.c3,h.c4,h.c5⟩
def Qe8(w:World)(b o:Nat)(k:ByteArray)(d:Val)(sl so:Sl):World:=QdP (w.setCell ⟨b,o,none⟩ (.string k)) b (o+1) d sl so
theorem Qc7(w:World)(b o:Nat)(k:ByteArray)(d:Val)(sl so:Sl)(hF:¬F b):Agree F w (Qe8 w b o k d sl so):=(Agree.setCell _ _ _ hF).trans (Qbm _ _ _ _ _ _ hF)
theorem Qg4(w:World)(b o:Nat)(k:ByteArray)(d:Val)(sl so:Sl):(Qe8 w b o k d sl so).heap.size=w.heap.size:=by simp[Qe8,QdQ]
theorem Ext.Qe8{a w:World}(h:Ext a w){b:Nat}(z:a<=b)(o:Nat)(k:ByteArray)(d:Val)(sl so:Sl):Ext a (Qe8 w b o k d sl so):=(h.setCell (p:=⟨b,_,none⟩) z _).QdP z _ _ _ _
theorem Qao.Qe8{B t size n:Nat}(h:Qao w B t size n)(b o:Nat)(k:ByteArray)(d:Val)(sl so:Sl):Qao (Qe8 w b o k d sl so) B t size n:=(h.setCell _ _).QdP _ _ _ _ _
theorem QbJ(w:World)(b o:Nat)(k:ByteArray)(d:Val)(sl so:Sl)(o':Nat)(h:o'<o\/o+7<=o'):(Qe8 w b o k d sl so).cell? ⟨b,o',none⟩=w.cell? ⟨b,o',none⟩:=by
 unfold Qe8;rw[QbK _ _ _ _ _ _ _ (by omega),Qaf _ _ _ _ _ (by omega)]
theorem Qg3{B t size n:Nat}(h:Qao w B t size n)(k:ByteArray)(d:Val)(sl so:Sl)(z:o+7<=n*size):(Qe8 w B o k d sl so).cell? ⟨B,o,none⟩=some (.string k)/\QaL (Qe8 w B o k d sl so) B (o+1) d sl so:=by
 refine⟨?_,QjX (h.setCell _ _) _ _ _ (by omega)⟩;unfold Qe8;rw[QbK _ _ _ _ _ _ _ (by omega)];exact h.here (by omega) _
theorem QaL.QtL{b o:Nat}{d:Val}(h:QaL w b o d sl so)(o':Nat)(k:ByteArray)(d':Val)(sl' so':Sl)(hd:o+6<=o'\/o'+7<=o):QaL (Qe8 w b o' k d' sl' so') b o d sl so:=
 ⟨(QbJ _ _ _ _ _ _ _ _ (by omega)).trans h.c0,(QbJ _ _ _ _ _ _ _ _ (by omega)).trans h.c1,(QbJ _ _ _ _ _ _ _ _ (by omega)).trans h.c2,(QbJ _ _ _ _ _ _ _ _ (by omega)).trans h.c3,(QbJ _ _ _ _ _ _ _ _ (by omega)).trans h.c4,(QbJ _ _ _ _ _ _ _ _ (by omega)).trans h.c5⟩
structure Qfg(wr:World)(B t:Nat)(ok:List ByteArray)(ov:List Val)(k:Nat)(f:Nat->Sl × Sl):Prop where
 row:Qao wr B t 7 ok.length
 keys:∀j x,j<k->ok[j]? = some x->wr.cell? ⟨B,j*7,none⟩=some (.string x)
 cells:∀j d,j<k->ov[j]? = some d->QaL wr B (j*7+1) d (f j).1 (f j).2
 reads:∀j d,j<k->ov[j]? = some d->RV wr (In (B+1) wr.heap.size) d (f j).1 (f j).2
theorem Qfg.start{B t:Nat}{ok:List ByteArray}{ov:List Val}(h:Qao w B t 7 ok.length)(f:Nat->Sl × Sl):Qfg w B t ok ov 0 f:=⟨h,λ_ _ h=>absurd h (by omega),λ_ _ h=>absurd h (by omega),λ_ _ h=>absurd h (by omega)⟩
theorem Qfg.step{wr W:World}{B t k:Nat}{ok:List ByteArray}{ov:List Val}{f:Nat->Sl × Sl}(h:Qfg wr B t ok ov k f)(R:Ext wr W){x:ByteArray}(U:ok[k]? = some x){d:Val}(hd:ov[k]? = some d)(hr:RV W (In wr.heap.size W.heap.size) d sl so) :
  Qfg (Qe8 W B (k*7) x d sl so) B t ok ov (k+1) (λj=>if j=k then(sl,so)else f j):=by
 have X:=h.row.lt;have hk:k<ok.length:=(ah.1 U).1;have I:Qao W B t 7 ok.length:=h.row.agree (F:=Lt wr) (R.agree λ_ h=>h) X;refine⟨I.Qe8 _ _ _ _ _ _,λj Y Z J=>?_,λj d' Z D=>?_,λj d' Z D=>?_⟩
 ·by_cases z:j=k
  ·subst z
   obtain rfl:x=Y:=by rw[U]at J;injection J
   exact(Qg3 I _ _ _ _ (by omega)).1
  rw[QbJ _ _ _ _ _ _ _ _ (by omega)];exact(R.cell X).trans (h.keys j Y (by omega) J)
 ·by_cases z:j=k
  ·subst z
   obtain rfl:d=d':=by rw[hd]at D;injection D
   simp only[if_pos];exact(Qg3 I _ _ _ _ (by omega)).2
  simp only[if_neg z];exact((h.cells j d' (by omega) D).agree (F:=Lt wr) (R.agree λ_ h=>h) X).QtL _ _ _ _ _ (by omega)
 have N:Agree (In (B+1) W.heap.size) W (Qe8 W B (k*7) x d sl so):=Qc7 _ _ _ _ _ _ _ (by omega);rw[Qg4];by_cases z:j=k
 ·subst z
  obtain rfl:d=d':=by rw[hd]at D;injection D
  simp only[if_pos];exact(hr.mono (λi hi=>⟨by omega,hi.2⟩)).agree N
 simp only[if_neg z];exact(((h.reads j d' (by omega) D).ext R (λb hb=>hb.2)).mono (λi hi=>⟨hi.1,by have:=R.size;omega⟩)).agree N
theorem Qfg.done{B t:Nat}{ok:List ByteArray}{ov:List Val}{f:Nat->Sl × Sl}(h:Qfg w B t ok ov ok.length f)(I:ov.length=ok.length)(D:∀(j:Nat) (x:ByteArray),ok[j]? = some x->x.size<=maxLen)(J:n<=B):RO w (In n w.heap.size) B 0 ok ov f:=
 ⟨λj x z=>⟨by rw[aA];exact h.keys j x (ah.1 z).1 z,D j x z⟩,
   λj d hd=>by rw[aA];exact h.cells j d (by have:=(ah.1 hd).1;omega) hd,λj d hd=>(h.reads j d (by have:=(ah.1 hd).1;omega) hd).mono λi hi=>⟨by omega,hi.2⟩⟩
theorem RL.nil(w:World)(F:Nat->Prop)(b o:Nat)(f:Nat->Sl × Sl):RL w F b o [] f:=⟨λ_ _ h=>by simp at h,λ_ _ h=>by simp at h⟩
theorem RO.nil(w:World)(F:Nat->Prop)(b o:Nat)(f:Nat->Sl × Sl):RO w F b o [] [] f:=⟨λ_ _ h=>by simp at h,λ_ _ h=>by simp at h,λ_ _ h=>by simp at h⟩
theorem QtT{cs:Array Value}(h:cs.size=6):∃R z N J I D,cs=#[R,z,N,J,I,D]:=by
 obtain⟨l⟩:=cs
 match l,h with
 |[R,z,N,J,I,D],_=>exact⟨_,_,_,_,_,_,rfl⟩
theorem RL.agree{b o:Nat}{l:List Val}{f:Nat->Sl × Sl}(h:RL w F b o l f)(z:Agree F w w')(D:0<l.length->F b):RL w' F b o l f:=
 ⟨λj d hd=>(h.cells j d hd).agree z (D (QbS hd)),λj d hd=>(h.reads j d hd).agree z⟩
theorem RL.mono{b o:Nat}{l:List Val}{f:Nat->Sl × Sl}(h:RL w F b o l f)(z:∀i,F i->G i):RL w G b o l f:=⟨h.cells,λj d hd=>(h.reads j d hd).mono z⟩
theorem RO.agree{b o:Nat}{ok:List ByteArray}{ov:List Val}{f:Nat->Sl × Sl}(h:RO w F b o ok ov f)(D:Agree F w w')(I:ov.length=ok.length)(J:0<ok.length->F b):RO w' F b o ok ov f:=
 ⟨λj k z=>⟨(D.cell (J (QbS z))).trans (h.keys j k z).1,(h.keys j k z).2⟩,λj d hd=>(h.cells j d hd).agree D (J (I▸QbS hd)),λj d hd=>(h.reads j d hd).agree D⟩
theorem RV.of{z:Int}{b:Bool}{i:Int}{t:ByteArray}{l:List Val}{ok:List ByteArray}{ov:List Val}{J I D U:Nat}{Y X:Nat->Sl × Sl}
  (hl:QeM F sl l.length J I) (ho:QeM F so ok.length D U) (N:ov.length=ok.length) (Z:RL w F J I l Y) (R:RO w F D U ok ov X)
  (bk:(Lit.int .i64 z).wf=true) (bi:(Lit.int .i64 i).wf=true) (bt:t.size<=maxLen) (nl:l.length*88<=140737488355328) (no:ok.length*104<=140737488355328):RV w F (.mk z b i t l ok ov) sl so:=
 .mk J I D U Y X hl ho N Z.cells Z.reads R.keys R.cells R.reads bk bi bt nl no
variable{P:Program}
theorem Qci(t e:TypeId)(i:TypeInfo)(z:Value)(U:P.underlying t=some (.slice e))(hi:P.info? e=some i)(R:i.zero=some z)
  (I J:IntKind) (n c:Nat) (X:n<=c) (D:i.bytes*c<=281474976710656) (Z:c<=9223372036854775807) (w:World) :
  (Instr.makeSlice t (.int I (n:Int)) (.int J (c:Int))).run P w=.ok (.slice (some ⟨w,0,none⟩) n c) (w.alloc (.cells (madeCells z.cells (c*i.size)) e)):=by
 have Y:(i.bytes:Int)*(c:Int)<=281474976710656:=by
  have h:((i.bytes*c:Nat):Int)<=281474976710656:=by omega
  rwa[Int.natCast_mul]at h
 have N:=run_make (P:=P) w t e i z U hi R I J n c (by omega) (by omega) Y (by omega);simp only[Int.toNat_natCast]at N;exact N
abbrev fv:=@Ext.refl
abbrev fA:=@Blk.new
abbrev fC:=@Agree.setCell
abbrev fJ:=@Agree.drewN
abbrev eA:=@World.size_setCell
abbrev eD:=@bodyPost_ret
abbrev eG:=@info_parts
theorem Tryz.Qa1:(prog.info? 70).map (λi=>(i.zero,i.size,i.bytes))=some (some (.agg #[.string ByteArray.empty,.int .i64 0,.bool false,.int .i64 0,.string ByteArray.empty,.slice none 0 0,.slice none 0 0]),7,104):=by kernel_rfl
theorem Tryz.QmQ:(prog.info? 121).map (λi=>(i.zero,i.size,i.bytes))=some (some (.agg #[.string ByteArray.empty,.int .i64 0,.bool false,.int .i64 0,.string ByteArray.empty,.slice none 0 0,.slice none 0 0]),7,104):=by kernel_rfl
theorem Tryz.QgL:(prog.info? 28).map (λi=>(i.zero,i.size,i.bytes))=some (some (.agg #[.int .i64 0,.bool false,.int .i64 0,.string ByteArray.empty,.slice none 0 0,.slice none 0 0]),6,88):=by kernel_rfl
abbrev Qbg(d:Val)(sl so:Sl):Value:=.agg #[.int .i64 d.kind,.bool d.b,.int .i64 d.i,.string d.t,.slice sl.a d.l.length sl.c,.slice so.a d.ok.length so.c]
def QeJ(d:Val)(w:World)(e:Ending)(w':World):Prop:=
 ∃sl so,e=.returned (Qbg d sl so)/\Ext w w'/\RVC w' (In w.heap.size w'.heap.size) d sl so
def Quv(d:Val)(sl so:Sl)(w wc:World):Prop:=
 ∃(sl1:Sl) (B:Nat) (f:Nat->Sl × Sl),Ext w wc/\w.heap.size+3<=wc.heap.size/\Blk wc w.heap.size 28 #[.int .i64 d.kind,.bool d.b,.int .i64 d.i,.string d.t,.slice sl.a d.l.length sl.c,.slice so.a d.ok.length so.c]/\
  (∃cs,Blk wc (w.heap.size+1) 28 cs/\cs.size=6)/\Blk wc (w.heap.size+1+1) 28 #[.int .i64 d.kind,.bool d.b,.int .i64 d.i,.string d.t,.slice sl1.a d.l.length sl1.c,.slice none 0 0]/\
  (QeM (In (w.heap.size+3) wc.heap.size) sl1 d.l.length B 0/\sl1.c=d.l.length)/\RL wc (In (w.heap.size+3) wc.heap.size) B 0 d.l f
def Qt3(d:Val)(sl1:Sl)(B:Nat)(f:Nat->Sl × Sl)(w wc:World):Prop:=
 ∃(so1:Sl) (C:Nat) (g:Nat->Sl × Sl),Ext w wc/\w.heap.size+3<=wc.heap.size/\(∃cs,Blk wc (w.heap.size+1) 28 cs/\cs.size=6)/\
  Blk wc (w.heap.size+1+1) 28 #[.int .i64 d.kind,.bool d.b,.int .i64 d.i,.string d.t,.slice sl1.a d.l.length sl1.c,.slice so1.a d.ok.length so1.c]/\
  (QeM (In (w.heap.size+3) wc.heap.size) sl1 d.l.length B 0/\sl1.c=d.l.length)/\RL wc (In (w.heap.size+3) wc.heap.size) B 0 d.l f/\
  QeM (In (w.heap.size+3) wc.heap.size) so1 d.ok.length C 0/\RO wc (In (w.heap.size+3) wc.heap.size) C 0 d.ok d.ov g
theorem Qga(m:Nat):∀(d:Val),SizeOf.sizeOf d<=m->∀(w:World) (sl so:Sl),RV w (Lt w.heap.size) d sl so->Calls prog 42 #[Qbg d sl so] w (QeJ d w):=by
 induction m with
 |zero=>intro d hd;have:=Val.Qb7 d;omega
 |succ m ih=>
 intro d hd w sl so h;have HI:=hY ih;clear ih;obtain⟨i0,hi,g8,k1,j7⟩:=eG Tryz.QgL;obtain⟨j0,hj,i1,k0,i3⟩:=eG Tryz.QmQ;obtain⟨k,b,i,t,l,J,ov⟩:=d;show Calls _ _ #[.agg #[.int .i64 k,.bool b,.int .i64 i,.string t,.slice sl.a l.length sl.c,.slice so.a J.length so.c]] _ _;cases h with
 |mk bl fl bo fo cl co hl ho hov el rl ek eo ro bk bi bt nl no=>
 have g3:∀(j:Nat) (d:Val),l[j]? = some d->SizeOf.sizeOf d<=m:=λj d hj=>bq (ab (Val.Qqm hj) hd)
 have f9:∀(j:Nat) (d:Val),ov[j]? = some d->SizeOf.sizeOf d<=m:=λj d hj=>bq (ab (Val.Qqn hj) hd)
 have g0:=hY g3;have f2:=hY f9;have f5:=hY el;have b4:=hY rl;have e1:=hY ek;have f8:=hY eo;have c4:=hY ro;have c0:=hY hov;clear g3 f9 el rl ek eo ro hov hd;go_in;go_upto_if 14 with fail;go_cut [] (λwc=>Quv (.mk k b i t l J ov) sl so w wc)
 case first=>
  by_cases h0:0<l.length
  ·have e3:=fun W=>Qci (P:=prog) 25 28 i0 _ underlying25 hi g8 .i64 .i64 l.length l.length (an _) (by rw [j7];omega) (by omega) W
   obtain⟨sa,sc⟩:=sl;obtain⟨rfl,i6,g7⟩:=hl.eq h0;have j1:=hl.fits h0;go_wp2_with fail;clear e3;generalize Z:World.alloc _ _=W0;obtain⟨b6,c7,I,D,z,g5⟩:=QgJ w _ _ _ _ _ _ _ _ W0 Z;have b3:=Qao.of g5 (size_madeCells _ _);clear Z g5;go_loopw[23] (λq wr=>∃(j:Nat) (f:Nat->Sl × Sl),j<=l.length/\q=.int .i64 j/\Ext w wr/\Qh5 wr (w.heap.size+1+1+1) 28 l j f/\
     Blk wr w.heap.size 28 #[.int .i64 k,.bool b,.int .i64 i,.string t,.slice (some ⟨bl,fl,none⟩) l.length sc,.slice so.a J.length so.c]/\
     (∃cs,Blk wr (w.heap.size+1) 28 cs/\cs.size=6)/\Blk wr (w.heap.size+1+1) 28 #[.int .i64 k,.bool b,.int .i64 i,.string t,.slice (some ⟨w.heap.size+1+1+1,0,none⟩) l.length l.length,.slice none 0 0])
    (λq _=>l.length -(intOf q).toNat)
   case atStart=>exact⟨0,λ_=>(Sl.none,Sl.none),aw _,rfl,b6,Qh5.start b3 _,I,⟨_,D,rfl⟩,z⟩
   obtain⟨j,f,hj,rfl,X,U,I,D,z⟩:=hrel;by_cases b5:j<l.length
   ·obtain ⟨d,hd⟩:∃ d,l[j]? = some d:=⟨_,ac b5⟩
    have b0:Agree (Lt w.heap.size) w wr:=X.agree λ_ h=>h
    obtain⟨v0,v1,v2,v3,v4,v5⟩:=(f5.o j d hd).agree b0 j1;have k4:=z.c6.2.2.2.2.1;have d3:∀W,Ext wr W->Calls prog 42 #[Qbg d (cl j).1 (cl j).2] W (QeJ d W):=λW hW=>
     HI.o d (g0.o j d hd) W _ _ (((b4.o j d hd).agree (b0.trans (hW.agree λ_ h=>ab h X.size))).mono λi hi=>ab hi (al X.size hW.size))
    have HD:=hY hd;have HF:=hY U;have HX:=hY X;have d7:=hY I;have e2:=hY D;have e0:=hY z;have hb:w.heap.size+1+1+1<wr.heap.size:=U.row.lt;have i8:w.heap.size+1+1<wr.heap.size:=by omega
    have i7:w.heap.size+1<wr.heap.size:=by omega
    have j4:¬w.heap.size+1+1+1=wr.heap.size:=by omega
    obtain⟨x0,b6⟩:∃v,wr.cell? ⟨w.heap.size+1+1+1,j*6,none⟩=some v:=U.row.cell (by omega);obtain⟨x1,i5⟩:∃v,wr.cell? ⟨w.heap.size+1+1+1,j*6+1,none⟩=some v:=U.row.cell (by omega);obtain⟨x2,g9⟩:∃v,wr.cell? ⟨w.heap.size+1+1+1,j*6+2,none⟩=some v:=U.row.cell (by omega);obtain⟨x3,f0⟩:∃v,wr.cell? ⟨w.heap.size+1+1+1,j*6+3,none⟩=some v:=U.row.cell (by omega);obtain⟨x4,i4⟩:∃v,wr.cell? ⟨w.heap.size+1+1+1,j*6+4,none⟩=some v:=U.row.cell (by omega);obtain⟨x5,j5⟩:∃v,wr.cell? ⟨w.heap.size+1+1+1,j*6+5,none⟩=some v:=U.row.cell (by omega);have j3:=U.row.frozen;clear hd b0 U X I D z;go_wp2_with fail;go_region_held3 (λw'=>w'.cell? ⟨w.heap.size+1+1,4,none⟩=some (.slice (some ⟨w.heap.size+1+1+1,0,none⟩) l.length l.length)/\w'.cell? ⟨wr.heap.size,0,none⟩=some (.int .i64 d.kind)/\w'.cell? ⟨wr.heap.size,1,none⟩=some (.bool d.b)/\w'.cell? ⟨wr.heap.size,2,none⟩=some (.int .i64 d.i)/\w'.cell? ⟨wr.heap.size,3,none⟩=some (.string d.t)/\w'.cell? ⟨wr.heap.size,4,none⟩=some (.slice (cl j).1.a d.l.length (cl j).1.c)/\w'.cell? ⟨wr.heap.size,5,none⟩=some (.slice (cl j).2.a d.ok.length (cl j).2.c)) (go_keep)
     ((go_at_call 42;refine(d3 _ (((fv wr).alloc _ _).drew)).mono ?_;rintro e w1 ⟨sl,so,rfl,c2,d6⟩;have i9:=c2.olds))
    have Y:Ext wr w1:=(((fv wr).alloc _ _).drew).trans c2;have b8:=HF.o.step Y (HD.o) (d6.mono λi hi=>⟨Nat.le_trans (by simp) hi.1,hi.2⟩);have d5:=(d7.o.ext Y).agree (Qbm w1 (w.heap.size+1+1+1) (j*6) d sl so (F:=λb=>b<w.heap.size+1+1+1) (by omega)) (by omega);have d8:=(e0.o.ext Y).agree (Qbm w1 (w.heap.size+1+1+1) (j*6) d sl so (F:=λb=>b<w.heap.size+1+1+1) (by omega)) (by omega);have e4:∃cs,Blk (QdP w1 (w.heap.size+1+1+1) (j*6) d sl so) (w.heap.size+1) 28 cs/\cs.size=6:=by
     obtain⟨cs,h1,h2⟩:=e2.o;exact⟨cs,(h1.ext Y).agree (Qbm w1 (w.heap.size+1+1+1) (j*6) d sl so (F:=λb=>b<w.heap.size+1+1+1) (by omega)) (by omega),h2⟩
    have hX:=(HX.o.trans Y).QdP (b:=w.heap.size+1+1+1) (by omega) (j*6) d sl so;have e6:=hY b8;clear b8;go_wp2_with fail;go_roundw
    case rel=>exact⟨j+1,_,b5,by go_num,hX,e6.o,d5,e4,d8⟩
    simp[intOf];omega
   obtain rfl:j=l.length:=by omega
   have hz:=U.row.lt;have R:=U.done (n:=w.heap.size+3) (by omega);have H:Quv (.mk k b i t l J ov) ⟨some ⟨bl,fl,none⟩,sc⟩ so w wr:=
    ⟨⟨some ⟨w.heap.size+1+1+1,0,none⟩,l.length⟩,w.heap.size+1+1+1,f,X,by omega,I,D,z,⟨.some _ _ _ _ (an _) (by unfold maxLen;omega) ⟨by omega,hz⟩,rfl⟩,R⟩
   clear R I D z U X;go_wp2_with fail;go_meet;exact H
  obtain rfl:l=[]:=ar (by omega);have hh:decide ((0:Int)<0)=false:=rfl;go_wp2_with fail;generalize f4:World.alloc _ _=W3;obtain⟨f0,k6,I,D,z⟩:=Qas w _ _ _ _ _ _ W3 f4;clear f4;go_meet;exact⟨Sl.none,0,λ_=>(Sl.none,Sl.none),f0,by omega,I,⟨_,D,rfl⟩,z,⟨.nil _ _,rfl⟩,RL.nil _ _ _ _ _⟩
 obtain⟨N,B,f,X,hz,I,D,z,⟨a9,c9⟩,R⟩:=hcut;have c3:=hY c9;clear c9;clear hl g0 f5 b4;obtain⟨-,-,-,-,-,p5⟩:=I.c6;dsimp only[Val.l,Val.ok,Val.ov]at *;go_upto_if 38 with fail;go_cut [] (λwc=>Qt3 (.mk k b i t l J ov) N B f w wc)
 case first=>
  by_cases h0:0<J.length
  ·have e3:=fun W=>Qci (P:=prog) 26 121 j0 _ underlying26 hj i1 .i64 .i64 J.length J.length (an _) (by rw [i3];omega) (by omega) W
   obtain⟨sa,sc⟩:=so;obtain⟨rfl,i6,g7⟩:=ho.eq h0;have f6:=ho.fits h0;have q5:=z.cell 5;have qf:=z.frozen 5;have k3:w.heap.size<wc.heap.size:=by omega
   have j9:=z.lt;simp at q5;go_wp2_with fail;clear e3 q5 qf;generalize Z:World.alloc (World.setCell _ _ _) _=W0;have b6:Ext w W0:=by rw[<-Z];exact(X.setCell (p:=⟨w.heap.size+1+1,5,none⟩) (show w.heap.size<=w.heap.size+1+1 by omega) _).alloc _ _
   have c7:W0.heap.size=wc.heap.size+1:=by rw[<-Z];simp
   have f3:Blk W0 w.heap.size 28 #[.int .i64 k,.bool b,.int .i64 i,.string t,.slice sl.a l.length sl.c,.slice (some ⟨bo,fo,none⟩) J.length sc]:=by rw[<-Z];exact(I.far (show w.heap.size≠w.heap.size+1+1 by omega) _).alloc _
   have g6:∃cs,Blk W0 (w.heap.size+1) 28 cs/\cs.size=6:=by
    obtain⟨cs,h1,h2⟩:=D;rw[<-Z];exact⟨cs,(h1.far (show w.heap.size+1≠w.heap.size+1+1 by omega) _).alloc _,h2⟩
   have f7:Blk W0 (w.heap.size+1+1) 28 #[.int .i64 k,.bool b,.int .i64 i,.string t,.slice N.a l.length N.c,.slice (some ⟨wc.heap.size,0,none⟩) J.length J.length]:=by
    rw[<-Z];exact(z.Qdz 5 _).alloc _
   have b3:Qao W0 wc.heap.size 121 7 J.length:=by
    have h:=Qao.made (w:=wc.setCell ⟨w.heap.size+1+1,5,none⟩ (.slice (some ⟨wc.heap.size,0,none⟩) J.length J.length)) (t:=121) (madeCells #[.string ByteArray.empty,.int .i64 0,.bool false,.int .i64 0,.string ByteArray.empty,.slice none 0 0,.slice none 0 0] (J.length*7)) (size_madeCells _ _);rw[eA]at h;rw[<-Z];exact h
   have d0:Agree (In (w.heap.size+3) wc.heap.size) wc W0:=by
    rw[<-Z];exact(fC wc ⟨w.heap.size+1+1,5,none⟩ _ (show ¬(w.heap.size+3<=w.heap.size+1+1/\w.heap.size+1+1<wc.heap.size)by omega)).trans (Agree.alloc _ _ (λb hb=>by rw[eA];exact hb.2))
   have c8:=R.agree d0 a9.fits;clear R I D z X d0 Z;go_loopw[47] (λq wr=>∃(j:Nat) (g:Nat->Sl × Sl),j<=J.length/\q=.int .i64 j/\Ext w wr/\Qfg wr wc.heap.size 121 J ov j g/\
     Blk wr w.heap.size 28 #[.int .i64 k,.bool b,.int .i64 i,.string t,.slice sl.a l.length sl.c,.slice (some ⟨bo,fo,none⟩) J.length sc]/\
     (∃cs,Blk wr (w.heap.size+1) 28 cs/\cs.size=6)/\Blk wr (w.heap.size+1+1) 28 #[.int .i64 k,.bool b,.int .i64 i,.string t,.slice N.a l.length N.c,.slice (some ⟨wc.heap.size,0,none⟩) J.length J.length]/\
     RL wr (In (w.heap.size+3) wc.heap.size) B 0 l f)
    (λq _=>J.length -(intOf q).toNat)
   case atStart=>exact⟨0,λ_=>(Sl.none,Sl.none),aw _,rfl,b6,Qfg.start b3 _,f3,g6,f7,c8⟩
   clear b6 c7 f3 g6 f7 b3 c8 W0;obtain⟨j,g,hj,rfl,X,U,I,D,z,R⟩:=hrel;have i2:wc.heap.size<wr.heap.size:=U.row.lt;by_cases b5:j<J.length
   ·obtain ⟨x,d4⟩:∃ x,J[j]? = some x:=⟨_,ac b5⟩
    obtain⟨d,hd⟩:∃d,ov[j]? = some d:=⟨_,ac (by rw[c0.o];exact b5)⟩;have b0:Agree (Lt w.heap.size) w wr:=X.agree λ_ h=>h
    obtain⟨v0,v1,v2,v3,v4,v5⟩:=((f8.o j d hd).agree b0 f6).m;have vk:=(b0.cell f6).trans (e1.o j x d4).1;have k5:=z.c6.2.2.2.2.2;have d3:∀W,Ext wr W->Calls prog 42 #[Qbg d (co j).1 (co j).2] W (QeJ d W):=λW hW=>
     HI.o d (f2.o j d hd) W _ _ (((c4.o j d hd).agree (b0.trans (hW.agree λ_ h=>ab h X.size))).mono λi hi=>ab hi (al X.size hW.size))
    have HD:=hY hd;have HK:=hY d4;have HF:=hY U;have HX:=hY X;have d7:=hY I;have e2:=hY D;have e0:=hY z;have b4:=hY R;have b7:=hY a9;have i8:w.heap.size+1+1<wr.heap.size:=by omega
    have i7:w.heap.size+1<wr.heap.size:=by omega
    have j4:¬wc.heap.size=wr.heap.size:=by omega
    have j8:¬wc.heap.size=w.heap.size+1+1:=by omega
    obtain⟨x0,b6⟩:∃v,wr.cell? ⟨wc.heap.size,j*7,none⟩=some v:=U.row.cell (by omega);obtain⟨x1,i5⟩:∃v,wr.cell? ⟨wc.heap.size,j*7+1,none⟩=some v:=U.row.cell (by omega);obtain⟨x2,g9⟩:∃v,wr.cell? ⟨wc.heap.size,j*7+2,none⟩=some v:=U.row.cell (by omega);obtain⟨x3,f0⟩:∃v,wr.cell? ⟨wc.heap.size,j*7+3,none⟩=some v:=U.row.cell (by omega);obtain⟨x4,i4⟩:∃v,wr.cell? ⟨wc.heap.size,j*7+4,none⟩=some v:=U.row.cell (by omega);obtain⟨x5,j5⟩:∃v,wr.cell? ⟨wc.heap.size,j*7+5,none⟩=some v:=U.row.cell (by omega);obtain⟨x6,k2⟩:∃v,wr.cell? ⟨wc.heap.size,j*7+6,none⟩=some v:=U.row.cell (by omega);have j3:=U.row.frozen;clear hd d4 b0 U X I D z R a9;go_wp2_with fail;go_region_held3 (λw'=>w'.cell? ⟨w.heap.size+1+1,5,none⟩=some (.slice (some ⟨wc.heap.size,0,none⟩) J.length J.length)/\w'.cell? ⟨wr.heap.size,0,none⟩=some (.string x)/\w'.cell? ⟨wr.heap.size,1,none⟩=some (.int .i64 d.kind)/\w'.cell? ⟨wr.heap.size,2,none⟩=some (.bool d.b)/\w'.cell? ⟨wr.heap.size,3,none⟩=some (.int .i64 d.i)/\w'.cell? ⟨wr.heap.size,4,none⟩=some (.string d.t)/\w'.cell? ⟨wr.heap.size,5,none⟩=some (.slice (co j).1.a d.l.length (co j).1.c)/\w'.cell? ⟨wr.heap.size,6,none⟩=some (.slice (co j).2.a d.ok.length (co j).2.c)) (go_keep)
     ((go_at_call 42;refine(d3 _ (((fv wr).alloc _ _).drew)).mono ?_;rintro e w1 ⟨e8,e7,rfl,c2,d6⟩;have i9:=c2.olds))
    have Y:Ext wr w1:=(((fv wr).alloc _ _).drew).trans c2;have hP:∀F:Nat->Prop,¬F wc.heap.size->Agree F w1 (Qe8 w1 wc.heap.size (j*7) x d e8 e7):=λF hF=>Qc7 _ _ _ _ _ _ _ hF
    have b8:=HF.o.step Y HK.o HD.o (d6.mono λi hi=>⟨Nat.le_trans (by simp) hi.1,hi.2⟩);have d5:=(d7.o.ext Y).agree (hP (λb=>b<wc.heap.size) (by omega)) (by omega);have d8:=(e0.o.ext Y).agree (hP (λb=>b<wc.heap.size) (by omega)) (by omega);have e4:∃cs,Blk (Qe8 w1 wc.heap.size (j*7) x d e8 e7) (w.heap.size+1) 28 cs/\cs.size=6:=by
     obtain⟨cs,h1,h2⟩:=e2.o;exact⟨cs,(h1.ext Y).agree (hP (λb=>b<wc.heap.size) (by omega)) (by omega),h2⟩
    have hX:=(HX.o.trans Y).Qe8 (b:=wc.heap.size) (by omega) (j*7) x d e8 e7;have hR:=(b4.o.agree (Y.agree (F:=In (w.heap.size+3) wc.heap.size) (by omega)) b7.o.fits).agree (hP (In (w.heap.size+3) wc.heap.size) (by omega)) b7.o.fits;have e6:=hY b8;have HR:=hY hR;clear b8 hP hR;go_wp2_with fail;go_roundw
    case rel=>exact⟨j+1,_,b5,by go_num,hX,e6.o,d5,e4,d8,HR.o⟩
    simp[intOf];omega
   obtain rfl:j=J.length:=by omega
   have c1:=U.done c0.o (λj x X=>(e1.o j x X).2) (n:=w.heap.size+3) hz;have H:Qt3 (.mk k b i t l J ov) N B f w wr:=
    ⟨⟨some ⟨wc.heap.size,0,none⟩,J.length⟩,wc.heap.size,g,X,by omega,D,z,⟨a9.mono (fun i hi=>⟨hi.1,by have:=hi.2;omega⟩),c3.o⟩,R.mono (fun i hi=>⟨hi.1,by have:=hi.2;omega⟩),
      .some _ _ _ _ (an _) (by unfold maxLen;omega) ⟨hz,i2⟩,c1⟩
   clear c1 R I D z U X;go_wp2_with fail;go_meet;exact H
  obtain rfl:J=[]:=ar (by omega);have hh:decide ((0:Int)<0)=false:=rfl;obtain rfl:ov=[]:=ar c0.o;have H:Qt3 (.mk k b i t l [] []) N B f w wc:=
   ⟨Sl.none,0,λ_=>(Sl.none,Sl.none),X,by omega,D,z,⟨a9,c3.o⟩,R,.nil _ _,RO.nil _ _ _ _ _⟩
  clear R I D z X a9;go_wp2_with fail;go_meet;exact H
 clear X hz I D z a9 R ho f2 e1 f8 c4 HI p5;rename_i wd;obtain⟨a6,C,g,X,hz,⟨cs,D,j6⟩,z,⟨a9,-⟩,R,g4,c1⟩:=hcut;dsimp only[Val.kind,Val.b,Val.i,Val.t,Val.l,Val.ok,Val.ov]at *;obtain⟨p0,p1,p2,p3,p4,p5⟩:=z.c6;obtain⟨a0,a1,a2,a3,a4,a5,rfl⟩:=QtT j6;obtain⟨q0,q1,q2,q3,q4,q5⟩:=D.c6;have qf:=D.frozen;have HX:=hY X;have H1:=hY D;have b4:=hY R;have b7:=hY a9;have c4:=hY c1;have f1:=hY g4;clear X D z R a9 c1 g4;go_wp2_with fail;have hF:∀F:Nat->Prop,¬F (w.heap.size+1)->Agree F wc (QdP wc (w.heap.size+1) 0 (.mk k b i t l J ov) N a6):=λF h=>Qbm _ _ _ _ _ _ h
 refine eD (v:=.agg #[.int .i64 k,.bool b,.int .i64 i,.string t,.slice N.a l.length N.c,.slice a6.a J.length a6.c]) (by simp[results,results42,go_sem,q0,q1,q2,q3,q4,q5]) rfl ?_;refine⟨N,a6,rfl,HX.o.QdP (b:=w.heap.size+1) (by omega) 0 (.mk k b i t l J ov) N a6,?_,c3.o⟩;have j2:(QdP wc (w.heap.size+1) 0 (.mk k b i t l J ov) N a6).heap.size=wc.heap.size:=QdQ _ _ _ _ _ _;have r1:=b4.o.agree (hF (In (w.heap.size+3) wc.heap.size) (by omega)) b7.o.fits;have r2:=c4.o.agree (hF (In (w.heap.size+3) wc.heap.size) (by omega)) c0.o f1.o.fits;have r3:RV (QdP wc (w.heap.size+1) 0 (.mk k b i t l J ov) N a6) (In (w.heap.size+3) wc.heap.size) (.mk k b i t l J ov) N a6:=RV.of b7.o f1.o c0.o r1 r2 bk bi bt nl no;show RV (QdP wc (w.heap.size+1) 0 (.mk k b i t l J ov) N a6) (In w.heap.size (QdP wc (w.heap.size+1) 0 (.mk k b i t l J ov) N a6).heap.size) _ _ _;rw[j2];exact r3.mono λi hi=>⟨by omega,hi.2⟩
abbrev eI:=@World.ownsRow_nil
abbrev eN:=@run_underlying
abbrev eQ:=@setRow_heap
abbrev eT:=@Result.andThen_ok
abbrev eZ:=@Sem.run_pure
abbrev fa:=@Sem.run_bind
abbrev fi:=@if_true
abbrev fq:=@setRow_other
abbrev fr:=@size_zeroCells
def Rd(w:World)(F:Nat->Prop)(size:Nat)(s:Sl)(n:Nat)(cs:List Value):Prop:=
 ∃b o,QeM F s n b o/\cs.length=n*size/\∀j u,cs[j]? = some u->w.cell? ⟨b,o+j,none⟩=some u
variable{s:Sl}{cs:List Value}
theorem Rd.agree{size:Nat}(h:Rd w F size s n cs)(J:Agree F w w'):Rd w' F size s n cs:=by
 obtain⟨b,o,h1,h2,I⟩:=h;refine⟨b,o,h1,h2,λj u D=>(J.cell (h1.fits ?_)).trans (I j u D)⟩;rcases Nat.eq_zero_or_pos n with z|z
 .subst z;have:=(ah.1 D).1;omega
 exact z
theorem Rd.mono{size:Nat}(h:Rd w F size s n cs)(D:∀i,F i->G i):Rd w G size s n cs:=by
 obtain⟨b,o,h1,h2,z⟩:=h;exact⟨b,o,h1.mono D,h2,z⟩
theorem Rd.nil(w:World)(F:Nat->Prop)(size:Nat):Rd w F size Sl.none 0 []:=⟨0,0,.nil _ _,by simp,λj u h=>by simp at h⟩
theorem Qbu(b o j:Nat):(⟨b,o,none⟩:Addr).add j=⟨b,o+j,none⟩:=by unfold Addr.add;split<;>simp_all
theorem Rd.QaB{w:World}{base e size n c:Nat}{a:Option Addr}{cs:List Value}(h:w.ownsRow base e size (.slice a n c) n cs):Rd w (In base w.heap.size) size ⟨a,c⟩ n cs:=by
 rcases h.2 with⟨z,hn⟩ |⟨g,J,U,z,N,Y,I,D,X,Z⟩
 ·simp only [Value.slice.injEq] at z
  obtain⟨rfl,rfl,rfl⟩:=z;have:cs=[]:=ar (by simpa using h.1);subst this;exact Rd.nil _ _ _
 simp only[Value.slice.injEq]at z;obtain⟨rfl,-,rfl⟩:=z;refine⟨g,0,.some _ _ _ _ I D ⟨N,fm Y⟩,h.1,λj u R=>?_⟩;have:=h.cells (g:=g) rfl j u R;rw[aA];rw[Addr.add]at this;split at this
 .rename_i h0;subst h0;exact this
 simpa using this
structure Wr(w w':World)(row:Option Nat):Prop where
 grown:w.grownBy w' row
 fz:∀b o,w'.frozen? ⟨b,o,none⟩=w.frozen? ⟨b,o,none⟩
theorem Wr.refl(w:World)(z:Option Nat):Wr w w z:=⟨⟨rfl,rfl,rfl,an _,λ_ _ _=>rfl⟩,λ_ _=>rfl⟩
theorem Wr.below{z:Option Nat}(h:Wr w w' z)(D:B<=w.heap.size)(I:∀k,z=some k->B<=k):Below B w w':=(Below.refl B w).grown h.grown D I
theorem Ext.wr{a w w':World}{z:Option Nat}(h:Ext a w)(k:Wr w w' z)(I:∀i,z=some i->a<=i):Ext a w':=
 ⟨h.below.trans (k.below h.size I),λb o D=>(k.fz b o).trans (h.free b o D)⟩
theorem Wr.agree{z:Option Nat}(h:Wr w w' z)(hF:∀i,F i->i<w)(I:∀k,z=some k->¬F k):Agree F w w':=
 λb D=>h.grown.block b (hF b D) (λe=>I b e.symm D)
theorem QlD(w:World)(c:Array Value)(t:TypeId)(b o:Nat):(w.alloc (.cells c t)).frozen? ⟨b,o,none⟩=w.frozen? ⟨b,o,none⟩:=by
 by_cases h:b=w.heap.size
 .subst h;rw[frozen_none (an _)];simp
 exact World.frozen?_alloc_old w _ _ h
theorem Qju(w:World)(g:Nat)(cs:Array Value)(b o:Nat):(w.setRow g cs).frozen? ⟨b,o,none⟩=w.frozen? ⟨b,o,none⟩:=by
 by_cases h:g=b
 ·subst h
  simp only[World.frozen?,World.setRow,Array.getElem?_modify,if_true];cases z:w.heap[g]? with
  |none=>rfl
  |some ob=>cases ob<;>rfl
 simp only[World.frozen?,World.setRow,Array.getElem?_modify,if_neg h]
def Sl.row(s:Sl):Option Nat:=s.a.map Addr.block
theorem QhV{α:Type}(C xs ys:List α)(p q z a b c d t:Nat)(J:xs=C.take q)(I:ys.length=z)(a0:p<=q)(hq:q+z<=C.length)(Z:a=p+z)(Y:b=a+(xs.drop p).length)(R:c=p)(hd:d=p+ys.length)(X:t=q+z) :
  ((C.take a++xs.drop p++C.drop b).take c++ys++(C.take a++xs.drop p++C.drop b).drop d).take t=xs.take p++ys++xs.drop p:=by
 subst Z Y R hd X;have D:xs.length=q:=by rw[J,ap];omega
 have h1:(C.take (c+z)).length=c+z:=by rw[ap];omega
 have N:(C.take (c+z)++xs.drop c++C.drop (c+z+(xs.drop c).length)).take c=xs.take c:=by
  rw[aS,aZ (by omega),cU,J,cU];congr 1;omega
 have U:(C.take (c+z)++xs.drop c++C.drop (c+z+(xs.drop c).length)).drop (c+ys.length)=xs.drop c++C.drop (c+z+(xs.drop c).length):=by
  rw[aS,I,List.drop_append,h1,cW,dz,bC (by omega),aJ]
 rw[N,U,<-aS,aZ (by simp[D,I];omega),a7 (by simp[D,I];omega)]
theorem Qjx{α:Type}(C xs ys:List α)(p q z a b c d t:Nat)(R:C.take p=xs.take p)(D:xs.length=q)(I:ys.length=z)(Z:p<=q)(hq:q+z<=C.length)(N:c=p+z)(hd:d=c+(xs.drop p).length)(Y:a=p)(X:b=p+ys.length)(U:t=q+z) :
  ((C.take a++ys++C.drop b).take c++xs.drop p++(C.take a++ys++C.drop b).drop d).take t=xs.take p++ys++xs.drop p:=by
 subst Y X N hd U;have h1:(C.take a).length=a:=by rw[ap];omega
 have J:(C.take a++ys++C.drop (a+ys.length)).take (a+z)=xs.take a++ys:=by
  rw[aZ (by simp only[List.length_append,h1,I];omega),a7 (by simp only[List.length_append,h1,I];omega),R]
 rw[J,aZ (by simp[D,I];omega),a7 (by simp[D,I];omega)]
section
variable{P : Program}(w : World)
theorem QfL(base:Nat)(t ty e:TypeId)(i:TypeInfo)(z:Value)(size a2:Nat)(ht:P.underlying t=some (.slice e))(hi:P.info? e=some i)(hz:i.zero=some z)
  (a6:i.size=size) (c7:i.bytes=a2) (c4:z.cells.size=size) (_hsz:0<size)
  (s:Sl) (n:Nat) (xs:List Value) (I:w.ownsRow base e size (.slice s.a n s.c) n xs)
  (F:Nat->Prop) (sx:Sl) (m:Nat) (D:List Value) (b8:Rd w F size sx m D) (h1:∀u∈D,u.oneCell'=true)
  (b5:n+m<=maxLen) (Z:(n+m)*a2<=140737488355328) (b3:base<=w.heap.size) :
  ∃(s':Sl) (w':World),(Builtin.append_ #[t,t] ty #[.slice s.a n s.c,.slice sx.a m sx.c]).run P w=.ok (.slice s'.a (n+m) s'.c) w'/\
   w'.ownsRow base e size (.slice s'.a (n+m) s'.c) (n+m) (xs++D)/\Wr w w' s.row/\(s'.a=s.a\/s'.a=some ⟨w,0,none⟩/\Wr w w' none):=by
 subst a6;subst c7;have c3:n+m<=9223372036854775807:=by simp only[maxLen]at b5;omega
 obtain⟨b,o,hs,hl,hc⟩:=b8;have a0:(xs++D).length=(n+m)*i.size:=by rw[ak,I.1,hl,ec]
 have a3:∀(a1:Nat),0<n+m->
   (w.drew.alloc (.cells (xs.toArray++D.toArray++Builtin.zeroCells z.cells (grownCap w (n+m) a1 e -(n+m))) e)).ownsRow base e i.size
     (.slice (some ⟨w,0,none⟩) (n+m) (grownCap w (n+m) a1 e)) (n+m) (xs++D):=by
  intro a1 _;have c8:=grownCap_ge w (n+m) a1 e;have b4:grownCap w (n+m) a1 e<=maxLen:=grownCap_le_maxLen w (n+m) a1 e b5;refine⟨a0,.inr ⟨w,_,_,rfl,b3,fh w.drew _,c8,b4,?_,?_⟩⟩
  ·simp only [Array.size_append,List.size_toArray,size_zeroCells,c4,I.1,hl,←Nat.add_mul]
   congr 1;omega
  simp only[Array.toList_append,List.append_assoc];rw[<-aS,<-a0];exact dA
 have wr:∀(c:Array Value) (b7:Option Nat),Wr w (w.drew.alloc (.cells c e)) b7:=λc b7=>
  ⟨⟨rfl,rfl,rfl,by simp,λk hk _=>eJ w.drew _ k hk⟩,λb o=>QlD w.drew c e b o⟩
 cases hs with
 | nil=>
   have hn:D=[]:=ar (by simpa using hl);subst hn;refine⟨s,w,?_,by simpa using I,Wr.refl _ _,.inl rfl⟩;rcases I.2 with⟨U,c1⟩ |⟨g,N,a4,U,_,_,a5,_⟩
   ·simp only [Value.slice.injEq] at U
    obtain⟨R,rfl,J⟩:=U;rw[R,J];simp[Builtin.append_,run_underlying ht,sizeOf,typeInfo,hi,Builtin.lenOf,Builtin.firstCells]
   simp only[Value.slice.injEq]at U;obtain⟨R,-,J⟩:=U;rw[R,J];simp[Builtin.append_,run_underlying ht,sizeOf,typeInfo,hi,Builtin.lenOf,Builtin.firstCells,a5,storeCells]
 | zero ad=>
   have hn:D=[]:=ar (by simpa using hl);subst hn;refine⟨s,w,?_,by simpa using I,Wr.refl _ _,.inl rfl⟩;rcases I.2 with⟨U,c1⟩ |⟨g,N,a4,U,_,_,a5,_⟩
   ·simp only [Value.slice.injEq] at U
    obtain⟨R,rfl,J⟩:=U;rw[R,J];simp[Builtin.append_,run_underlying ht,sizeOf,typeInfo,hi,Builtin.lenOf,Builtin.firstCells,loadCells,loadCellsFrom]
   simp only[Value.slice.injEq]at U;obtain⟨R,-,J⟩:=U;rw[R,J];simp[Builtin.append_,run_underlying ht,sizeOf,typeInfo,hi,Builtin.lenOf,Builtin.firstCells,a5,loadCells,loadCellsFrom,storeCells]
 | some _ c _ _ hmc b4 hb=>
   have X:∀j u,D[j]? = some u->w.cell? ((⟨b,o,none⟩:Addr).add j)=some u:=λj u hj=>by rw[Qbu];exact hc j u hj
   rcases I.2 with⟨U,c1⟩ |⟨g,N,a4,U,c6,hg,a5,b6,c9,a9⟩
   ·simp only [Value.slice.injEq] at U
    obtain⟨R,rfl,J⟩:=U;have hx:xs=[]:=ar (by simpa using I.1);subst hx;by_cases hm:m=0
    ·subst hm
     have hn:D=[]:=ar (by simpa using hl);subst hn;refine⟨Sl.none,w,?_,eI w base e i.size,Wr.refl _ _,.inl R.symm⟩;rw[R,J];simp[Builtin.append_,run_underlying ht,sizeOf,typeInfo,hi,Builtin.lenOf,Builtin.firstCells,loadCells,loadCellsFrom]
    have hr:=run_append_nil (P:=P) w t ty e i z ht hi hz ⟨b,o,none⟩ m c D hl X (by omega) (by omega) (by have hb:=Z;simp only[Nat.zero_add]at hb;omega);have c0:=a3 0 (by omega);simp only[Nat.zero_add,List.nil_append,Array.empty_append]at c0 ⊢;refine⟨⟨some ⟨w,0,none⟩,grownCap w m 0 e⟩,_,?_,c0,wr _ _,.inr ⟨rfl,wr _ _⟩⟩;rw[R,J];exact hr
   simp only[Value.slice.injEq]at U;obtain⟨R,-,J⟩:=U;by_cases Y:n+m<=N
   ·have c2:n*i.size+D.length≤a4.size:=by rw [hl,c9,←ec];exact cg _ Y
    have hr:=run_append_room (P:=P) w t ty e i ht hi g n N a4 hg ⟨b,o,none⟩ m c D hl X h1 Y c2;refine⟨⟨some ⟨g,0,none⟩,N⟩,_,by rw[R,J];exact hr,⟨a0,.inr ⟨g,N,_,rfl,c6,eQ w g a4 _ e _ hg,Y,b6,?_,?_⟩⟩,
     ⟨⟨rfl,rfl,rfl,by simp,λk _ hk=>fq w g k _ (λe=>hk (by simp[Sl.row,R,e]))⟩,λb o=>Qju _ _ _ _ _⟩,.inl R.symm⟩
    ·simp only [List.size_toArray,List.length_append,List.length_take,List.length_drop,Array.length_toList]
     omega
    rw[a9,<-a0];exact dA
   rw[R,J]at I;have b0:∀j u,xs[j]? = some u->w.cell? ((⟨g,0,none⟩:Addr).add j)=some u:=I.cells (g:=g) rfl;have hr:=run_append_grow (P:=P) w t ty e i z ht hi hz ⟨g,0,none⟩ n N xs I.1 b0 ⟨b,o,none⟩ m c D hl X (by omega) (by omega) (growslice_fits (by omega) Z);refine⟨⟨some ⟨w,0,none⟩,grownCap w (n+m) N e⟩,_,by rw[R,J];exact hr,a3 N (by omega),wr _ _,.inr ⟨rfl,wr _ _⟩⟩
theorem QeH{o:Oper}{a:Act}{K:Act->World->Prop}{Q:Exit->Act->World->Prop}(s' x:Operand)(t:TypeId)
  (ho:o.op=.call { callee:=.builtin .append,args:=#[s',x],argTypes:=#[t,t] })
  (base:Nat) (e:TypeId) (i:TypeInfo) (z:Value) (size D:Nat) (ht:P.underlying t=some (.slice e)) (hi:P.info? e=some i) (hz:i.zero=some z)
  (N:i.size=size) (a0:i.bytes=D) (Z:z.cells.size=size) (a2:0<size)
  (s:Sl) (n:Nat) (xs:List Value) (hs:a.eval s'=.slice s.a n s.c) (X:w.ownsRow base e size (.slice s.a n s.c) n xs)
  (F:Nat->Prop) (Y:Sl) (m:Nat) (I:List Value) (hx:a.eval x=.slice Y.a m Y.c) (U:Rd w F size Y m I) (h1:∀u∈I,u.oneCell'=true)
  (a1:n+m<=maxLen) (J:(n+m)*D<=140737488355328) (R:base<=w.heap.size)
  (h:∀(s':Sl) (w':World),w'.ownsRow base e size (.slice s'.a (n+m) s'.c) (n+m) (xs++I)->Wr w w' s.row->(s'.a=s.a\/s'.a=some ⟨w,0,none⟩/\Wr w w' none)->K (a.put o.dst (.slice s'.a (n+m) s'.c)) w'):o.wp P a w K Q:=by
 obtain⟨v',w',hr,h2,h3,h4⟩:=QfL (P:=P) w base t o.type e i z size D ht hi hz N a0 Z a2 s n xs X F Y m I U h1 a1 J R;unfold Oper.wp execOp;simp only[ho,resolve,invoke,builtin,Sem.run_bind,Sem.run_pure,Result.andThen_ok,List.map_toArray,List.map_cons,List.map_nil,hs,hx,hr];exact h v' w' h2 h3 h4
theorem Qac{ops:Array Oper}{rest:List Oper}{o:Oper}{a:Act}{Q:Exit->Act->World->Prop}(a3:o.guard=none)(s' x:Operand)(t:TypeId)
  (ho:o.op=.call { callee:=.builtin .append,args:=#[s',x],argTypes:=#[t,t] })
  (base:Nat) (e:TypeId) (i:TypeInfo) (z:Value) (size D:Nat) (ht:P.underlying t=some (.slice e)) (hi:P.info? e=some i) (hz:i.zero=some z)
  (N:i.size=size) (a0:i.bytes=D) (Z:z.cells.size=size) (a2:0<size)
  (s:Sl) (n:Nat) (xs:List Value) (hs:a.eval s'=.slice s.a n s.c) (X:w.ownsRow base e size (.slice s.a n s.c) n xs)
  (F:Nat->Prop) (Y:Sl) (m:Nat) (I:List Value) (hx:a.eval x=.slice Y.a m Y.c) (U:Rd w F size Y m I) (h1:∀u∈I,u.oneCell'=true)
  (a1:n+m<=maxLen) (J:(n+m)*D<=140737488355328) (R:base<=w.heap.size)
  (h:∀(s':Sl) (w':World),w'.ownsRow base e size (.slice s'.a (n+m) s'.c) (n+m) (xs++I)->Wr w w' s.row->(s'.a=s.a\/s'.a=some ⟨w,0,none⟩/\Wr w w' none)->wpList P ops Q rest (a.put o.dst (.slice s'.a (n+m) s'.c)) w'):wpList P ops Q (o::rest) a w:=
 wpList_plain a3 λ_ hK=>QeH w s' x t ho base e i z size D ht hi hz N a0 Z a2 s n xs hs X F Y m I hx U h1 a1 J R λv' w' h2 h3 h4=>hK _ _ (h v' w' h2 h3 h4)
end
section
variable{P : Program}(w : World)
theorem QbL(dT sT ty I:TypeId)(size:Nat)(g o D U:Nat)(R:Sl)(m:Nat)(z:Array Value)(t:TypeId)(cs:List Value)
  (hu:P.underlying dT=some (.slice I)) (hs:(P.info? I).map (·.size)=some size)
  (hg:w.heap[g]? = some (.cells z t (0,0))) (hn:cs.length=Nat.min m D*size) (Z:R.a=none->cs=[])
  (X:∀b o',R.a=some ⟨b,o',none⟩->∀j v,cs[j]? = some v->w.cell? ⟨b,o'+j,none⟩=some v) (J:∀a,R.a=some a->a.spot=none) (a0:o+cs.length<=z.size) (h1:∀v∈cs,v.oneCell'=true) :
  (Builtin.copy_ #[dT,sT] ty #[.slice (some ⟨g,o,none⟩) D U,.slice R.a m R.c]).run P w =
    .ok (goInt (Nat.min m D)) (w.setRow g (z.toList.take o++cs++z.toList.drop (o+cs.length)).toArray):=by
 have N:=run_storeCells_at P g o t cs 0 z w hg (by simpa using a0) h1;obtain⟨i,hq,hi⟩:∃i,P.info? I=some i/\i.size=size:=by
  cases hq:P.info? I with
  |none=>simp[hq]at hs
  |some i=>exact⟨i,rfl,by simpa[hq]using hs⟩
 obtain⟨sa,sc⟩:=R;cases sa with
 | none=>
   have hc:=Z rfl;subst hc;have a1:(storeCells ⟨g,o,none⟩ []).run P w=.ok () (w.setRow g (z.toList.take o++[]++z.toList.drop (o+0)).toArray):=by simpa using N
   simp[Builtin.copy_,run_underlying hu,Builtin.lenOf,Builtin.firstCells,sizeOf,typeInfo,hq,a1]
 | some a=>
   obtain⟨b,o',sp⟩:=a;have Y:=J _ rfl;dsimp only at Y;subst Y;have hl:=run_firstCells_some (P:=P) w size (Nat.min m D) ⟨b,o',none⟩ m sc cs hn (λj v hj=>by rw[Qbu];exact X b o' rfl j v hj);simp only[Nat.add_zero]at N;simp[Builtin.copy_,run_underlying hu,Builtin.lenOf,sizeOf,typeInfo,hq,hi,hl,N]
theorem Qko{o:Oper}{a:Act}{K:Act->World->Prop}{Q:Exit->Act->World->Prop}(d s:Operand)(t D:TypeId)
  (I:o.op=.call { callee:=.builtin .copy,args:=#[d,s],argTypes:=#[t,D] }) (v u:Value) (hd:a.eval d=v) (hs:a.eval s=u) {z:Value} {w':World}
  (J:(Builtin.copy_ #[t,D] o.type #[v,u]).run P w=.ok z w') (h:K (a.put o.dst z) w'):o.wp P a w K Q:=by
 unfold Oper.wp execOp;simp only[I,resolve,invoke,builtin,Sem.run_bind,Sem.run_pure,Result.andThen_ok,List.map_toArray,List.map_cons,List.map_nil,hd,hs,J];exact h
theorem Qcl{ops:Array Oper}{rest:List Oper}{o:Oper}{a:Act}{Q:Exit->Act->World->Prop}(z:o.guard=none)(d s:Operand)(t D:TypeId)
  (J:o.op=.call { callee:=.builtin .copy,args:=#[d,s],argTypes:=#[t,D] }) (v u:Value) (hd:a.eval d=v) (hs:a.eval s=u) {I:Value} {w':World}
  (R:(Builtin.copy_ #[t,D] o.type #[v,u]).run P w=.ok I w') (h:wpList P ops Q rest (a.put o.dst I) w'):wpList P ops Q (o::rest) a w:=
 wpList_plain z λ_ N=>Qko w d s t D J v u hd hs R (N _ _ h)
theorem Qdq{ops:Array Oper}{o:Oper}{a:Act}{K:Act->World->Prop}{Q:Exit->Act->World->Prop}{E:Prop}(z:o.guard=none)(d s:Operand)(t D:TypeId)
  (J:o.op=.call { callee:=.builtin .copy,args:=#[d,s],argTypes:=#[t,D] }) (v u:Value) (hd:a.eval d=v) (hs:a.eval s=u) {I:Value} {w':World}
  (R:(Builtin.copy_ #[t,D] o.type #[v,u]).run P w=.ok I w') (h:K (a.put o.dst I) w') :
  if Region.wanted o (yielded ops a.tmps)=true then Oper.wp P o a w K Q else E:=by
 have N:Region.wanted o (yielded ops a.tmps)=true:=by simp[Region.wanted,z]
 rw[em N];exact Qko w d s t D J v u hd hs R h
theorem wpList_append_run{ops:Array Oper}{rest:List Oper}{o:Oper}{a:Act}{Q:Exit->Act->World->Prop}(z:o.guard=none)(d s:Operand)(t I:TypeId)
  (J:o.op=.call { callee:=.builtin .append,args:=#[d,s],argTypes:=#[t,I] }) (v u:Value) (hd:a.eval d=v) (hs:a.eval s=u) {D:Value} {w':World}
  (R:(Builtin.append_ #[t,I] o.type #[v,u]).run P w=.ok D w') (h:wpList P ops Q rest (a.put o.dst D) w'):wpList P ops Q (o::rest) a w:=by
 refine wpList_plain z λ_ N=>?_
 unfold Oper.wp execOp;simp only[J,resolve,invoke,builtin,Sem.run_bind,Sem.run_pure,Result.andThen_ok,List.map_toArray,List.map_cons,List.map_nil,hd,hs,R];exact N _ _ h
theorem Wr.setRow{g:Nat}(cs:Array Value):Wr w (w.setRow g cs) (some g):=
 ⟨⟨rfl,rfl,rfl,by simp,λk _ z=>fq w g k _ (λe=>z (by simp[e]))⟩,λb o=>Qju _ _ _ _ _⟩
theorem Wr.trans{a b c:World}{r:Option Nat}(h:Wr a b r){D:Option Nat}(k:Wr b c D)(J:∀i,D=some i->r=some i\/a<=i):Wr a c r:=
 ⟨⟨k.grown.os.trans h.grown.os,k.grown.tape.trans h.grown.tape,k.grown.output.trans h.grown.output,al h.grown.size k.grown.size,fun i hi z=>(k.grown.block i (ab hi h.grown.size) (fun e=>by
   rcases J i e.symm with I|I
   .exact z I.symm
   omega)).trans (h.grown.block i hi z)⟩,λb o=>(k.fz b o).trans (h.fz b o)⟩
theorem Wr.drew{a b:World}{r:Option Nat}(h:Wr a b r):Wr a b.drew r:=⟨⟨h.grown.os,h.grown.tape,h.grown.output,h.grown.size,h.grown.block⟩,h.fz⟩
theorem Wr.alloc{a b:World}{r:Option Nat}(h:Wr a b r)(c:Array Value)(t:TypeId):Wr a (b.alloc (.cells c t)) r:=
 ⟨⟨h.grown.os,h.grown.tape,h.grown.output,by have:=h.grown.size;simp;omega,λi hi z=>(eJ b _ i (ab hi h.grown.size)).trans (h.grown.block i hi z)⟩,λD o=>(QlD b c t D o).trans (h.fz D o)⟩
end
abbrev fE:=@Rd.QaB
abbrev fK:=@Wr.setRow
def QcX(n:Nat)(p:Nat->Bool)(w:World)(e:Ending)(w':World):Prop:=
 ∃k:Nat,e=.returned (.int .i64 k)/\k<=n/\(∀i,i<k->p i=false)/\(∀i,k<=i->i<n->p i=true)/\Ext w w'
theorem Qed(g:Nat)(v1 v2:Value)(n:Nat)(p:Nat->Bool)(w:World)(eg:∀args w,(callFunc g args).run prog w=.ok (.enter g args) w)(hn:n<4611686018427387904)
  (hg:∀(i:Nat) (W:World),i<n->Ext w W->Calls prog g #[.int .i64 i,v1,v2] W λe w'=>e=.returned (.bool (p i))/\Ext W w')
  (hm:∀i j,i<=j->j<n->p i=true->p j=true) :
  Calls prog 97 #[.int .i64 n,.func (.func g) #[] #[v1,v2]] w (QcX n p w):=by
 have HG:=hY hg;have HM:=hY hm;clear hg hm;go_in;go_wp2_with fail;go_loopw[5,6] (λi j wr=>∃a b:Nat,i=.int .i64 a/\j=.int .i64 b/\a<=b/\b<=n/\(∀i,i<a->p i=false)/\(∀i,b<=i->i<n->p i=true)/\Ext w wr) (λi j _=>(intOf j).toNat -(intOf i).toNat)
 case atStart=>exact⟨0,n,rfl,rfl,aw _,an _,λ_ h=>absurd h (by omega),λ_ h h'=>absurd h (by omega),fv _⟩
 obtain⟨a,b,rfl,rfl,a2,J,R,U,Z⟩:=hrel;have I:=hY R;have N:=hY U;clear R U;by_cases a1:a<b
 ·go_wp2_with fail
  rw[show((a:Int)+b)/2=(((a+b)/2:Nat):Int)from by omega];have Y:=HG.o ((a+b)/2) wr (by omega) Z;generalize hh:(a+b)/2=h at *;have h1:a<=h:=by omega
  have h2:h<b:=by omega
  clear hh;cases D:p h with
  | false=>
    rw[D]at Y;have HP:=hY D;clear D;refine Y.mono ?_;rintro e w1 ⟨rfl,z⟩;go_wp2_with fail;go_roundw
    case rel=>exact⟨h+1,b,by go_num,rfl,by omega,J,λi hi=>by
     by_cases X:p i=true
     ·have:=HM.o i h (by omega) (by omega) X
      rw[HP.o]at this;cases this
     simpa using X,N.o,Z.trans z⟩
    simp[intOf];omega
  | true=>
    rw[D]at Y;have HP:=hY D;clear D;refine Y.mono ?_;rintro e w1 ⟨rfl,z⟩;go_wp2_with fail;go_roundw
    case rel=>exact⟨a,h,rfl,rfl,h1,by omega,I.o,λi hi a0=>HM.o h i hi a0 HP.o,Z.trans z⟩
    simp[intOf];omega
 obtain rfl:a=b:=by omega
 go_wp2_with fail;go_ret;exact⟨a,rfl,J,I.o,N.o,Z⟩
abbrev eu:=@beq_eq_false_iff_ne
abbrev eB:=@ByteArray.toList_eq
abbrev eF:=@Bool.and_eq_true
abbrev eK:=@decide_eq_true_eq
abbrev eX:=@if_false
abbrev klt(a b:ByteArray):Bool:=Op.bytesLess a.toList b.toList
theorem Qi6:∀a:List UInt8,Op.bytesLess a a=false
 |[]=>rfl
 |a::x=>by simp[Op.bytesLess,Qi6 x]
theorem Qlt:∀a b c:List UInt8,Op.bytesLess a b=true->Op.bytesLess b c=true->Op.bytesLess a c=true
 |_,_,[],_,h=>by simp[Op.bytesLess]at h
 |_,[],_::_,h,_=>by simp[Op.bytesLess]at h
 |[],_::_,_::_,_,_=>rfl
 | a :: x,b :: y,c :: z,h,D=>by
   simp only[Op.bytesLess,Bool.or_eq_true,Bool.and_eq_true,decide_eq_true_eq,beq_iff_eq]at h D ⊢;rcases h with h |⟨rfl,h⟩<;>rcases D with D |⟨rfl,D⟩
   .exact .inl (UInt8.lt_trans h D)
   .exact .inl h
   .exact .inl D
   exact .inr ⟨rfl,Qlt x y z h D⟩
theorem Qls:∀a b:List UInt8,Op.bytesLess a b=false->Op.bytesLess b a=false->a=b
 |[],[],_,_=>rfl
 |[],_::_,h,_=>by simp[Op.bytesLess]at h
 |_::_,[],_,h=>by simp[Op.bytesLess]at h
 | a :: x,b :: y,h,h'=>by
   simp only[Op.bytesLess,Bool.or_eq_false_iff,decide_eq_false_iff_not,Bool.and_eq_false_iff,beq_eq_false_iff_ne]at h h';have e:a=b:=by
    have h1:=h.1;have h2:=h'.1;exact UInt8.le_antisymm (UInt8.not_lt.1 h2) (UInt8.not_lt.1 h1)
   subst e;have h1:=h.2.resolve_left (by simp);have h2:=h'.2.resolve_left (by simp);rw[Qls x y h1 h2]
theorem toList_inj{a b:ByteArray}(h:a.toList=b.toList):a=b:=by
 rw[eB,eB]at h;cases a;cases b;simp only[ByteArray.mk.injEq];exact Array.ext' h
theorem Qah(a:ByteArray):klt a a=false:=Qi6 _
theorem QaI{a b c:ByteArray}(h:klt a b=true)(k:klt b c=true):klt a c=true:=Qlt _ _ _ h k
theorem QbR{a b:ByteArray}(h:klt a b=false)(k:klt b a=false):a=b:=toList_inj (Qls _ _ h k)
theorem Qby{a b:ByteArray}(h:klt a b=true):klt b a=false:=by
 cases z:klt b a
 .rfl
 have:=QaI h z;rw[Qah]at this;cases this
theorem Qc3{a b:ByteArray}(h:klt a b=false)(z:a≠b):klt b a=true:=by
 cases D:klt b a
 .exact absurd (QbR h D) z
 rfl
theorem QdJ{a b c:ByteArray}(h:klt b a=false)(k:klt b c=true):klt a c=true:=by
 cases z:klt a b
 .rw [QbR z h];exact k
 exact QaI z k
theorem QfG{a b c:ByteArray}(h:klt a b=true)(k:klt c b=false):klt a c=true:=by
 cases z:klt b c
 .rw [<-QbR z k];exact h
 exact QaI h z
theorem beq_toList(a b:ByteArray):(a.toList==b.toList)=decide (a=b):=by
 by_cases h:a=b
 .subst h;simp
 simp only[h,decide_false,beq_eq_false_iff_ne]
 exactλe=>h (toList_inj e)
theorem Qtt(a b:ByteArray):(!(Op.bytesLess a.toList b.toList||a.toList==b.toList))=klt b a:=by
 cases h:klt b a
 ·cases z:klt a b
  .rw [QbR h z];simp
  show(!(klt a b||_))=false;rw[z];rfl
 have h1:=Qby h;have h2:a≠b:=by rintro rfl;rw[Qah]at h;cases h
 show(!(klt a b||_))=true;rw[h1,beq_toList];simp[h2]
abbrev Ent:=ByteArray × Val
def Sorted(es:List Ent):Prop:=es.Pairwise λa b=>klt a.1 b.1=true
def Qbq:List Ent->ByteArray->Val->List Ent
 |[],k,v=>[(k,v)]
 |e::es,k,v=>if klt e.1 k then e::Qbq es k v else if e.1=k then(k,v)::es else(k,v)::e::es
def Qb2:List Ent->ByteArray->List Ent
 |[],_=>[]
 |e::es,k=>if klt e.1 k then e::Qb2 es k else if e.1=k then es else e::es
def Qam:List Ent->ByteArray->Option Val
 |[],_=>none
 |e::es,k=>if e.1=k then some e.2 else Qam es k
theorem Qit{A:List Ent}{k:ByteArray}(h:∀e∈A,klt e.1 k=true)(B:List Ent)(v:Val):Qbq (A++B) k v=A++Qbq B k v:=by
 induction A with
 |nil=>rfl
 | cons a A ih=>
   have D:=h a (az ..);simp only[List.cons_append,Qbq,D,if_true];rw[ih λe z=>h e (aI _ z)]
theorem QgN{C:List Ent}{k:ByteArray}(h:∀e∈C,klt k e.1=true)(v:Val):∀B:List Ent,Qbq (B++C) k v=Qbq B k v++C
 | []=>by
   cases C with
   |nil=>rfl
   | cons c C=>
     have z:=h c (az ..);have h1:=Qby z;have h2:c.1≠k:=by rintro rfl;rw[Qah]at z;cases z
     simp[Qbq,h1,h2]
 | b :: B=>by
   simp only[List.cons_append,Qbq];split
   .rw [QgN h v B,aF]
   split<;>rfl
theorem Qsy{B:List Ent}{k:ByteArray}(h:∀e∈B,klt e.1 k=false)(v:Val):Qbq B k v=(k,v) ::(if B.head?.map Prod.fst=some k then B.tail else B):=by
 cases B with
 |nil=>rfl
 | cons b B=>
   have z:=h b (az ..);simp only[Qbq,z,Bool.false_eq_true,if_false,List.head?_cons,Option.map_some,Option.some.injEq,List.tail_cons];split<;>rfl
theorem Qig{A:List Ent}{k:ByteArray}(h:∀e∈A,klt e.1 k=true)(B:List Ent):Qb2 (A++B) k=A++Qb2 B k:=by
 induction A with
 |nil=>rfl
 | cons a A ih=>
   have z:=h a (az ..);simp only[List.cons_append,Qb2,z,if_true];rw[ih λe D=>h e (aI _ D)]
theorem QgG{C:List Ent}{k:ByteArray}(h:∀e∈C,klt k e.1=true):∀B:List Ent,Qb2 (B++C) k=Qb2 B k++C
 | []=>by
   cases C with
   |nil=>rfl
   | cons c C=>
     have z:=h c (az ..);have h1:=Qby z;have h2:c.1≠k:=by rintro rfl;rw[Qah]at z;cases z
     simp[Qb2,h1,h2]
 | b :: B=>by
   simp only[List.cons_append,Qb2];split
   .rw [QgG h B,aF]
   split<;>rfl
theorem Qsp{B:List Ent}{k:ByteArray}(h:∀e∈B,klt e.1 k=false):Qb2 B k=if B.head?.map Prod.fst=some k then B.tail else B:=by
 cases B with
 |nil=>simp[Qb2]
 | cons b B=>
   have z:=h b (az ..);simp only[Qb2,z,Bool.false_eq_true,if_false,List.head?_cons,Option.map_some,Option.some.injEq,List.tail_cons]
theorem QeY{B:List Ent}{k:ByteArray}(h:∀e∈B,e.1≠k):Qam B k=none:=by
 induction B with
 |nil=>rfl
 |cons b B ih=>simp only[Qam,h b (List.mem_cons_self ..),if_false];exact ih λe z=>h e (aI _ z)
theorem QlF{A:List Ent}{k:ByteArray}(h:∀e∈A,klt e.1 k=true)(B:List Ent):Qam (A++B) k=Qam B k:=by
 induction A with
 |nil=>rfl
 | cons a A ih=>
   have z:=h a (az ..);have h2:a.1≠k:=by rintro rfl;rw[Qah]at z;cases z
   simp only[List.cons_append,Qam,h2,if_false];exact ih λe D=>h e (aI _ D)
theorem Qjv{C:List Ent}{k:ByteArray}(h:∀e∈C,klt k e.1=true):∀B:List Ent,Qam (B++C) k=Qam B k
 |[]=>QeY λe z=>by rintro rfl;have:=h e z;rw[Qah]at this;cases this
 |b::B=>by simp only[List.cons_append,Qam];rw[Qjv h B]
theorem QiB{es:List Ent}{k:ByteArray}{v:Val}{x:Ent}(h:x∈Qbq es k v):x=(k,v)\/x∈es:=by
 induction es with
 |nil=>simpa[Qbq]using h
 | cons e es ih=>
   simp only[Qbq]at h;split at h
   ·rcases aG.1 h with h | h
    .exact .inr (by simp[h])
    rcases ih h with h|h
    .exact .inl h
    exact .inr (aI _ h)
   split at h
   ·rcases aG.1 h with h | h
    .exact .inl h
    exact .inr (aI _ h)
   rcases aG.1 h with h|h
   .exact .inl h
   exact .inr h
theorem QaS{es:List Ent}(h:Sorted es)(k:ByteArray)(v:Val):Sorted (Qbq es k v):=by
 induction es with
 |nil=>exact List.pairwise_singleton ..
 | cons e es ih=>
   have I:=aW.1 h;simp only[Qbq];split
   ·rename_i z
    refine aW.2 ⟨λx D=>?_,ih I.2⟩;rcases QiB D with rfl|D
    .exact z
    exact I.1 x D
   rename_i z;have z:klt e.1 k=false:=by simpa using z
   split
   ·rename_i he
    subst he;exact aW.2 ⟨λx D=>I.1 x D,I.2⟩
   rename_i he;have J:=Qc3 z he;refine aW.2 ⟨λx D=>?_,h⟩;rcases aG.1 D with rfl|D
   .exact J
   exact QaI J (I.1 x D)
theorem Qba(es:List Ent)(k:ByteArray):(Qb2 es k).Sublist es:=by
 induction es with
 |nil=>exact .slnil
 | cons e es ih=>
   simp only[Qb2];split
   .exact ih.cons_cons _
   split
   .exact List.sublist_cons_self ..
   exact List.Sublist.refl _
theorem QaR{es:List Ent}(h:Sorted es)(k:ByteArray):Sorted (Qb2 es k):=cE (Qba es k) h
def PT:Nat->Type
 |0=>Nat × List Ent
 |h+1=>Nat × List (PT h)
def addr:(h:Nat)->PT h->Nat
 |0,t=>t.1
 |_+1,t=>t.1
def size:(h:Nat)->PT h->Nat
 |0,t=>t.2.length
 |_+1,t=>t.2.length
def ents:(h:Nat)->PT h->List Ent
 |0,t=>t.2
 |h+1,t=>t.2.flatMap (ents h)
def thin:(h:Nat)->PT h->Bool
 |0,_=>false
 |h+1,t=>t.2.any λk=>thin h k||decide (size h k<4)
def OkT:(h:Nat)->PT h->Prop
 |0,t=>t.2.length<=8
 |h+1,t=>2<=t.2.length/\t.2.length<=8/\∀k∈t.2,OkT h k/\4<=size h k
def Qaw(es:List Ent):ByteArray:=(es.head?.map Prod.fst).getD ByteArray.empty
def QbM(es:List Ent):ByteArray:=(es.getLast?.map Prod.fst).getD ByteArray.empty
theorem QbB:∀(h:Nat) (t:PT h),OkT h t->1<=size h t->0<(ents h t).length
 |0,_,_,hs=>hs
 | h+1,t,ok,hs=>by
   obtain⟨a,ks⟩:=t;cases ks with
   |nil=>simp[size]at hs
   | cons k ks=>
     have:=ok.2.2 k (az ..);have:=QbB h k this.1 (by omega);simp only[ents,List.flatMap_cons,List.length_append];omega
theorem Qc2:∀(h:Nat) (t:PT h),OkT h t->1<=size h t->h<(ents h t).length
 |0,_,_,hs=>hs
 | h+1,t,ok,hs=>by
   obtain⟨a,ks⟩:=t
   match ks,ok with
   |[],ok=>exact absurd ok.1 (by simp)
   |[k],ok=>exact absurd ok.1 (by simp)
   | k :: k' :: ks,ok=>
     have h1:=ok.2.2 k (az ..);have h2:=ok.2.2 k' (aI _ (az ..));have h1:=Qc2 h k h1.1 (by omega);have h2:=QbB h k' h2.1 (by omega);simp only[ents,List.flatMap_cons,List.length_append];omega
abbrev eH:=@World.block_lt_of_cell?
structure LE where
 k:ByteArray
 v:Val
 sl:Sl
 so:Sl
def LE.ent(x:LE):Ent:=(x.k,x.v)
def LE.cells(x:LE):List Value:=[.string x.k,.int .i64 x.v.kind,.bool x.v.b,.int .i64 x.v.i,.string x.v.t,.slice x.sl.a x.v.l.length x.sl.c,.slice x.so.a x.v.ok.length x.so.c]
def Qai(xs:List LE):List Value:=xs.flatMap LE.cells
theorem QoD:Qai []=[]:=rfl
theorem QbZ(x:LE)(xs:List LE):Qai (x::xs)=x.cells++Qai xs:=by simp[Qai]
theorem QaA(xs ys:List LE):Qai (xs++ys)=Qai xs++Qai ys:=by simp[Qai]
theorem LE.len(x:LE):x.cells.length=7:=rfl
theorem Qcy(xs:List LE):(Qai xs).length=xs.length*7:=by
 induction xs with
 |nil=>rfl
 |cons x xs ih=>rw[QbZ,ak,ih,LE.len,av];omega
theorem QcK:∀{xs:List LE} {i:Nat} {x:LE},xs[i]? = some x->∀c,c<7->(Qai xs)[i*7+c]? = x.cells[c]?
 |[],i,x,h,_,_=>by simp at h
 | y :: ys,0,x,h,c,hc=>by
   simp at h;subst h;rw[QbZ,cN,aA,bp (by rw[LE.len];exact hc)]
 | y :: ys,i+1,x,h,c,hc=>by
   simp at h;rw[QbZ,aU (by rw[LE.len];omega),LE.len,show(i+1)*7+c-7=i*7+c from by omega];exact QcK h c hc
theorem Qc1(xs:List LE)(i:Nat):(Qai xs).take (i*7)=Qai (xs.take i):=by
 induction xs generalizing i with
 |nil=>simp[Qai]
 | cons x xs ih=>
   cases i with
   |zero=>simp[Qai]
   | succ i=>
     rw[aV,QbZ,QbZ,List.take_append,LE.len,a7 (by rw[LE.len];omega),show(i+1)*7-7=i*7 from by omega,ih]
theorem Qc0(xs:List LE)(i:Nat):(Qai xs).drop (i*7)=Qai (xs.drop i):=by
 induction xs generalizing i with
 |nil=>simp[Qai]
 | cons x xs ih=>
   cases i with
   |zero=>simp
   | succ i=>
     rw[List.drop_succ_cons,QbZ,List.drop_append,LE.len,bC (by rw[LE.len];omega),show(i+1)*7-7=i*7 from by omega,ih,aJ]
def Qmw(w:World)(F:Nat->Prop)(xs:List LE):Prop:=∀x∈xs,RV w F x.v x.sl x.so/\x.k.size<=maxLen
variable{xs:List LE}
theorem Qmw.agree(h:Qmw w F xs)(D:Agree F w w'):Qmw w' F xs:=λx z=>⟨(h x z).1.agree D,(h x z).2⟩
theorem Qmw.mono(h:Qmw w F xs)(D:∀i,F i->G i):Qmw w G xs:=λx z=>⟨(h x z).1.mono D,(h x z).2⟩
structure ES(w:World)(F:Nat->Prop)(s:Sl)(xs:List LE):Prop where
 rd:Rd w F 7 s xs.length (Qai xs)
 vals:Qmw w F xs
 few:xs.length*104<=140737488355328
theorem ES.agree(h:ES w F s xs)(z:Agree F w w'):ES w' F s xs:=⟨h.rd.agree z,h.vals.agree z,h.few⟩
theorem ES.mono(h:ES w F s xs)(z:∀i,F i->G i):ES w G s xs:=⟨h.rd.mono z,h.vals.mono z,h.few⟩
variable{x:LE}
theorem ES.at(h:ES w F s xs){i:Nat}(D:xs[i]? = some x) :
  ∃b o,s.a=some ⟨b,o,none⟩/\F b/\xs.length<=s.c/\s.c<=maxLen/\w.cell? ⟨b,o+i*7,none⟩=some (.string x.k)/\QaL w b (o+i*7+1) x.v x.sl x.so/\RV w F x.v x.sl x.so/\x.k.size<=maxLen:=by
 obtain⟨b,o,h1,h2,U⟩:=h.rd;have hi:i<xs.length:=(ah.1 D).1;obtain⟨J,N,R⟩:=h1.eq (by omega);have z:∀c u,c<7->x.cells[c]? = some u->w.cell? ⟨b,o+i*7+c,none⟩=some u:=λc u z hu=>by
  rw[bH];exact U _ u (by rw[QcK D c z];exact hu)
 have I:=h.vals x (am D);exact⟨b,o,J,h1.fits (by omega),N,R,z 0 _ (by omega) rfl,⟨z 1 _ (by omega) rfl,z 2 _ (by omega) rfl,z 3 _ (by omega) rfl,z 4 _ (by omega) rfl,z 5 _ (by omega) rfl,z 6 _ (by omega) rfl⟩,I.1,I.2⟩
abbrev ptr(h:Nat)(t:PT h):Value:=.pointer (some ⟨addr h t,0,none⟩)
def ptrs(h:Nat)(ks:List (PT h)):List Value:=ks.map (ptr h)
def IsN(w:World)(F:Nat->Prop):(h:Nat)->PT h->Prop
 |0,t=>F t.1/\∃(s:Sl) (xs:List LE),Blk w t.1 144 #[.slice s.a xs.length s.c,.slice none 0 0,.int .i64 0,.int .i64 xs.length,.string (Qaw t.2),.string (QbM t.2),.bool false]/\ES w F s xs/\xs.map LE.ent=t.2
 |h+1,t=>F t.1/\∃s:Sl,Blk w t.1 144 #[.slice none 0 0,.slice s.a t.2.length s.c,.int .i64 ((h+1:Nat):Int),.int .i64 (ents (h+1) t).length,.string (Qaw (ents (h+1) t)),.string (QbM (ents (h+1) t)),.bool (thin (h+1) t)]/\
    Rd w F 1 s t.2.length (ptrs h t.2)/\∀k∈t.2,IsN w F h k
theorem IsN.agree(z:Agree F w w'):∀{h:Nat} {t:PT h},IsN w F h t->IsN w' F h t
 |0,_,⟨h1,s,xs,h2,h3,h4⟩=>⟨h1,s,xs,h2.agree z h1,h3.agree z,h4⟩
 |_+1,_,⟨h1,s,h2,h3,h4⟩=>⟨h1,s,h2.agree z h1,h3.agree z,λk D=>(h4 k D).agree z⟩
theorem IsN.mono(z:∀i,F i->G i):∀{h:Nat} {t:PT h},IsN w F h t->IsN w G h t
 |0,_,⟨h1,s,xs,h2,h3,h4⟩=>⟨z _ h1,s,xs,h2,h3.mono z,h4⟩
 |_+1,_,⟨h1,s,h2,h3,h4⟩=>⟨z _ h1,s,h2,h3.mono z,λk D=>(h4 k D).mono z⟩
variable{h:Nat}
theorem IsN.ext{t:PT h}(D:IsN w (Lt w) h t)(z:Ext w w'):IsN w' (Lt w') h t:=
 (D.agree (z.agree λ_ h=>h)).mono λ_ hi=>ab hi z.size
theorem IsN.cells:∀{h:Nat} {t:PT h},IsN w F h t->F (addr h t)/\∃(z J:Sl) (I D:Nat),I+D=size h t/\
  Blk w (addr h t) 144 #[.slice z.a I z.c,.slice J.a D J.c,.int .i64 h,.int .i64 (ents h t).length,.string (Qaw (ents h t)),.string (QbM (ents h t)),.bool (thin h t)]
 |0,_,⟨h1,s,xs,h2,h3,h4⟩=>⟨h1,s,Sl.none,xs.length,0,by rw[size,<-h4,ao];rfl,by rw[show(ents 0 _).length=xs.length from by rw[ents,<-h4,ao]];exact h2⟩
 |_+1,_,⟨h1,s,h2,h3,h4⟩=>⟨h1,Sl.none,s,0,_,by rw[size,aA],h2⟩
variable{g:Nat}
theorem Blk.c7{t:TypeId}{v0 J z R I D N:Value}(h:Blk w g t #[v0,J,z,R,I,D,N]):w.cell? ⟨g,0,none⟩=some v0/\w.cell? ⟨g,1,none⟩=some J/\w.cell? ⟨g,2,none⟩=some z/\w.cell? ⟨g,3,none⟩=some R/\w.cell? ⟨g,4,none⟩=some I/\w.cell? ⟨g,5,none⟩=some D/\w.cell? ⟨g,6,none⟩=some N:=
 ⟨h.cell 0,h.cell 1,h.cell 2,h.cell 3,h.cell 4,h.cell 5,h.cell 6⟩
theorem Qd8(w:World):Calls prog 94 #[.pointer none] w λe w'=>e=.returned (.int .i64 0)/\w=w':=by
 go_in;go_wp2;go_ret;exact⟨rfl,rfl⟩
theorem QaO{t:PT h}(z:IsN w F h t):Calls prog 94 #[ptr h t] w λe w'=>e=.returned (.int .i64 h)/\w=w':=by
 obtain⟨-,J,R,I,N,-,D⟩:=z.cells;obtain⟨-,-,h2,-,-,-,-⟩:=D.c7;go_in;go_wp2;go_ret;exact⟨rfl,rfl⟩
theorem count_nil(w:World):Calls prog 58 #[.pointer none] w λe w'=>e=.returned (.int .i64 0)/\w=w':=by
 go_in;go_wp2;go_ret;exact⟨rfl,rfl⟩
theorem Qjg{t:PT h}(z:IsN w F h t):Calls prog 58 #[ptr h t] w λe w'=>e=.returned (.int .i64 (ents h t).length)/\w=w':=by
 obtain⟨-,I,R,U,N,-,D⟩:=z.cells;obtain⟨-,-,-,J,-,-,-⟩:=D.c7;go_in;go_wp2;go_ret;exact⟨rfl,rfl⟩
theorem Qjr{t:PT h}(z:IsN w F h t):Calls prog 143 #[ptr h t] w λe w'=>e=.returned (.string (Qaw (ents h t)))/\w=w':=by
 obtain⟨-,I,N,R,J,-,D⟩:=z.cells;obtain⟨-,-,-,-,U,-,-⟩:=D.c7;go_in;go_wp2;go_ret;exact⟨rfl,rfl⟩
theorem Qme(w:World):Calls prog 98 #[.pointer none] w λe w'=>e=.returned (.int .i64 0)/\w=w':=by
 go_in;go_wp2;go_ret;exact⟨rfl,rfl⟩
theorem Qgo{t:PT h}(J:IsN w F h t)(hs:size h t<=1000):Calls prog 98 #[ptr h t] w λe w'=>e=.returned (.int .i64 (size h t))/\∃q,w'=w.drewN q:=by
 obtain⟨-,X,Y,U,D,z,N⟩:=J.cells;obtain⟨Z,h1,-,-,-,-,-⟩:=N.c7;have I:U<=1000:=by omega
 have R:D<=1000:=by omega
 rw[<-z];clear z;go_in;go_wp2_with fail;go_quiet (fail);go_wp2;go_ret;exact⟨by simp,_,rfl⟩
theorem QqW{t:PT h}(z:IsN w F h t):Calls prog 251 #[ptr h t] w λe w'=>e=.returned (.string (QbM (ents h t)))/\w=w':=by
 obtain⟨-,I,R,U,N,-,D⟩:=z.cells;obtain⟨-,-,-,-,-,J,-⟩:=D.c7;go_in;go_wp2;go_ret;exact⟨rfl,rfl⟩
def QfN(h:Nat)(t:PT h):Bool:=!thin h t&&decide (4<=size h t)
theorem Qp0{t:PT h}(I:IsN w F h t)(hs:size h t<=1000):Calls prog 152 #[ptr h t,.bool false] w λe w'=>e=.returned (.bool (QfN h t))/\∃q,w'=w.drewN q:=by
 obtain⟨-,R,X,Y,U,-,N⟩:=I.cells;obtain⟨-,-,-,-,-,-,D⟩:=N.c7;have J:=Qgo I hs;clear N;cases z:thin h t
 ·rw [z] at D
  have e:QfN h t=decide (4<=size h t):=by simp[QfN,z]
  rw[e];clear e z;go_in;go_wp2_with fail;refine J.mono ?_;rintro e w' ⟨rfl,q,rfl⟩;go_wp2_with fail;go_ret;exact⟨by simp;omega,q,rfl⟩
 rw[z]at D;have e:QfN h t=false:=by simp[QfN,z]
 rw[e];clear e z J;go_in;go_wp2_with fail;go_ret;exact⟨rfl,0,rfl⟩
theorem Tryz.QbQ:(prog.info? 39).map (λi=>(i.zero,i.size,i.bytes))=some (some (.pointer none),1,8):=by kernel_rfl
theorem QbT(h:Nat)(ks:List (PT h)):∀u∈ptrs h ks,u.oneCell'=true:=by
 intro u hu;obtain⟨k,-,rfl⟩:=bE.1 hu;rfl
def QeI(e':TypeId)(n:Nat)(cs:List Value)(w:World)(e:Ending)(w':World):Prop:=
 ∃s':Sl,e=.returned (.slice s'.a n s'.c)/\w'.ownsRow w.heap.size e' 1 (.slice s'.a n s'.c) n cs/\Ext w w'
theorem Qoe(w:World):Calls prog 141 #[.slice none 0 0] w λe w'=>e=.returned (.slice none 0 0)/\w=w':=by
 have z:=λw'=>Lib.run_eql_slice_nil (P:=prog) w' 114 39 none 0 0 0 0 underlying114
 go_in;go_wp2_with fail;go_ret;exact⟨rfl,rfl⟩
theorem Qod(hr:Rd w F 1 s n cs)(h1:∀u∈cs,u.oneCell'=true)(hn:n<=1000) :
  Calls prog 141 #[.slice s.a n s.c] w (QeI 39 n cs w):=by
 obtain⟨i0,hi,U,X,Z⟩:=eG Tryz.QbQ;obtain⟨b,o,hs,Y,hc⟩:=hr;cases hs with
 | nil=>
   have:cs=[]:=ar (by simpa using Y);subst this;have he:=λw'=>Lib.run_eql_slice_nil (P:=prog) w' 114 39 none 0 0 0 0 underlying114
   go_in;go_wp2_with fail;go_ret;exact⟨Sl.none,rfl,eI _ _ _ _,fv _⟩
 | zero ad=>
   have:cs=[]:=ar (by simpa using Y);subst this;have he:=λw'=>Lib.run_eql_slice_nil (P:=prog) w' 114 39 (some ad) 0 0 0 0 underlying114
   have z:Rd (w.alloc (.cells #[] 39)) F 1 ⟨some ad,0⟩ 0 []:=⟨b,o,.zero _ _ _,rfl,λj u N=>by simp at N⟩;have HN:=hY z;have J:0+0<=maxLen:=by unfold maxLen;omega
   clear z hc h1 Y;go_in;go_wp2_with(at_builtin;refine Qac _ rfl _ _ 114 rfl w.heap.size 39 i0 (.pointer none) 1 8 underlying114 hi U X Z rfl (by decide) ⟨some ⟨w,0,none⟩,0⟩ 0 [] rfl (World.ownsRow_made w #[] 0 (an _) (by decide) rfl) F ⟨some ad,0⟩ 0 [] rfl HN.o (by simp) J (by omega) (by simp) ?_;intro s' w1 D I _;simp only[Nat.zero_add,List.nil_append]at D);go_ret;exact⟨s',by simp,D,((fv w).alloc _ _).wr I (by rintro i ⟨⟩;exact an _)⟩
 | some _ c _ _ hnc hcm hb=>
   have he:=λw'=>Lib.run_eql_slice_nil (P:=prog) w' 114 39 (some ⟨b,o,none⟩) n c 0 0 underlying114
   have R:∀j u,cs[j]? = some u->b<w:=λj u N=>eH w _ (hc j u N)
   have z:Rd (w.alloc (.cells #[] 39)) F 1 ⟨some ⟨b,o,none⟩,c⟩ n cs:=⟨b,o,.some _ _ _ _ hnc hcm hb,Y,λj u N=>(World.cell?_alloc_lt _ _ _ (R j u N)).trans (hc j u N)⟩;have HN:=hY z;have H1:=hY h1;have J:0+n<=maxLen:=by unfold maxLen;omega
   clear z hc h1 Y R;go_in;go_wp2_with(at_builtin;refine Qac _ rfl _ _ 114 rfl w.heap.size 39 i0 (.pointer none) 1 8 underlying114 hi U X Z rfl (by decide) ⟨some ⟨w,0,none⟩,0⟩ 0 [] rfl (World.ownsRow_made w #[] 0 (an _) (by decide) rfl) F ⟨some ⟨b,o,none⟩,c⟩ n cs rfl HN.o H1.o J (by omega) (by simp) ?_;intro s' w1 D I _;simp only[Nat.zero_add,List.nil_append]at D);go_ret;exact⟨s',by simp,D,((fv w).alloc _ _).wr I (by rintro i ⟨⟩;exact an _)⟩
theorem QcO{t:PT (h+1)}(J:IsN w F (h+1) t)(hs:t.2.length<=1000):Calls prog 95 #[ptr (h+1) t] w (QeI 39 t.2.length (ptrs h t.2) w):=by
 obtain⟨-,s,D,z,-⟩:=J;have h1:w.cell? ⟨addr (h+1) t,1,none⟩=some (.slice s.a t.2.length s.c):=D.c7.2.1;have N:=Qod z (QbT _ _) hs;have U:=hY z;clear D z;go_in;go_wp2_with fail;refine N.mono ?_;rintro e w' ⟨s',rfl,h2,I⟩;have R:=hY h2;clear h2;go_wp2_with fail;go_ret;exact⟨s',rfl,R.o,I⟩
theorem QjA{t:PT 0}(D:IsN w F 0 t):Calls prog 95 #[ptr 0 t] w λe w'=>e=.returned (.slice none 0 0)/\w=w':=by
 obtain⟨-,s,xs,z,-,-⟩:=D;have h1:w.cell? ⟨addr 0 t,1,none⟩=some (.slice none 0 0):=z.c7.2.1;have I:=Qoe w;clear z;go_in;go_wp2_with fail;refine I.mono ?_;rintro e w' ⟨rfl,rfl⟩;go_wp2_with fail;go_ret;exact⟨rfl,rfl⟩
structure OE(w:World)(base:Nat)(s:Sl)(xs:List LE):Prop where
 own:w.ownsRow base 70 7 (.slice s.a xs.length s.c) xs.length (Qai xs)
 vals:Qmw w (λb=>(base<=b/\b<w.heap.size)/\s.row≠some b) xs
 few:xs.length*104<=140737488355328
theorem OE.nil(w:World)(base:Nat):OE w base Sl.none []:=⟨World.ownsRow_nil _ _ _ _,λx h=>by simp at h,by simp⟩
theorem OE.es{base:Nat}(h:OE w base s xs):ES w (In base w.heap.size) s xs:=⟨fE h.own,h.vals.mono λ_ hi=>hi.1,h.few⟩
theorem Qae{base e size n:Nat}{xs:List Value}(h:w.ownsRow base e size (.slice s.a n s.c) n xs)(R:Agree F w w')(hF:∀b,s.row=some b->F b):w'.ownsRow base e size (.slice s.a n s.c) n xs:=by
 refine⟨h.1,?_⟩;rcases h.2 with N |⟨g,z,D,I,J,U,r⟩
 .exact .inl N
 refine .inr ⟨g,z,D,I,J,?_,r⟩;simp only[Value.slice.injEq]at I;exact(R g (hF g (by simp[Sl.row,I.1]))).trans U
theorem OE.ext{base:Nat}(h:OE w base s xs)(z:Ext w w'):OE w' base s xs:=
 ⟨Qae h.own (z.agree (F:=Lt w) λ_ hi=>hi) λb D=>(h.own.lt b (by obtain⟨a,c⟩:=s;cases a<;>simp_all [Value.ownBlock,Sl.row])).2,
   (h.vals.agree (z.agree λ_ hi=>hi.1.2)).mono λi hi=>⟨⟨hi.1.1,ab hi.1.2 z.size⟩,hi.2⟩,h.few⟩
theorem Qfg.own(I:Qao w B 70 7 xs.length)(Y:∀j x,xs[j]? = some x->w.cell? ⟨B,j*7,none⟩=some (.string x.k)/\QaL w B (j*7+1) x.v x.sl x.so)(Z:n<=B)(R:xs.length<=maxLen) :
  w.ownsRow n 70 7 (.slice (some ⟨B,0,none⟩) xs.length xs.length) xs.length (Qai xs):=by
 obtain⟨z,h1,h2⟩:=I;refine⟨Qcy xs,.inr ⟨B,xs.length,z,rfl,Z,h1,an _,R,h2,?_⟩⟩;rw[a7 (by rw[aH,h2];exact an _)];apply bK;intro p;by_cases hp:p<xs.length*7
 ·obtain ⟨j,c,rfl,J⟩:∃ j c,p=j*7+c∧c<7:=⟨p / 7,p % 7,by omega,by omega⟩
  obtain⟨x,N⟩:∃x,xs[j]? = some x:=⟨_,ac (by omega)⟩;obtain⟨X,e⟩:=Y _ _ N;rw[QcK N c J];have U:∀o,w.cell? ⟨B,o,none⟩=z.toList[o]?:=λo=>by rw[eY w B o z _ _ h1];simp
  rw[<-U];have D:c=0\/c=1\/c=2\/c=3\/c=4\/c=5\/c=6:=by omega
  rcases D with rfl|rfl|rfl|rfl|rfl|rfl|rfl
  .exact X
  .exact e.c0
  .exact e.c1
  .exact e.c2
  .exact e.c3
  .exact e.c4
  exact e.c5
 rw[aQ (by rw[aH,h2];omega),aQ (by rw[Qcy];omega)]
def Qhy(xs:List LE)(w:World)(e:Ending)(w':World):Prop:=
 ∃(s':Sl) (xs':List LE),e=.returned (.slice s'.a xs'.length s'.c)/\xs'.map LE.ent=xs.map LE.ent/\OE w' w.heap.size s' xs'/\Ext w w'
theorem QhG(hs:ES w (Lt w.heap.size) s xs):Calls prog 144 #[.slice s.a xs.length s.c] w (Qhy xs w):=by
 obtain⟨i0,hi,b5,d8,c4⟩:=eG Tryz.Qa1;have b0:=hs.few;have b6:=λW=>Qci (P:=prog) 22 70 i0 _ underlying22 hi b5 .i64 .i64 xs.length xs.length (an _) (by rw[c4];omega) (by omega) W
 have HS:=hY hs;clear hs;go_in;go_wp2_with fail;clear b6;generalize R:World.alloc _ _=W0;have a0:Ext w W0:=by rw[<-R];exact(fv w).alloc _ _
 have hz:W0.heap.size=w.heap.size+1:=by rw[<-R];simp
 have Y:Qao W0 w.heap.size 70 7 (xs.map LE.k).length:=by
  rw[<-R,ao];exact Qao.made _ (size_madeCells _ _)
 clear R;go_loopw[11] (λq wr=>∃(j:Nat) (f:Nat->Sl × Sl),j<=xs.length/\q=.int .i64 j/\Ext w wr/\Qfg wr w.heap.size 70 (xs.map LE.k) (xs.map LE.v) j f) (λq _=>xs.length -(intOf q).toNat)
 case atStart=>exact⟨0,λ_=>(Sl.none,Sl.none),aw _,rfl,a0,Qfg.start Y _⟩
 clear a0 hz Y W0;obtain⟨j,f,hj,rfl,D,N⟩:=hrel;have d3:w.heap.size<wr.heap.size:=N.row.lt;by_cases a5:j<xs.length
 ·obtain ⟨x,Z⟩:∃ x,xs[j]? = some x:=⟨_,ac a5⟩
  have U:Agree (Lt w.heap.size) w wr:=D.agree λ_ h=>h
  obtain⟨b,o,ha,a3,e1,c6,b4,hv,a4,b8⟩:=HS.o.at Z;obtain⟨v0,v1,v2,v3,v4,v5⟩:=(hv.agree U a3).m;have vk:=(U.cell a3).trans b4;have b7:∀W,Ext wr W->Calls prog 42 #[Qbg x.v x.sl x.so] W (QeJ x.v W):=λW hW=>
   Qga _ x.v (an _) W _ _ ((a4.agree (U.trans (hW.agree λ_ h=>ab h D.size))).mono λi hi=>ab hi (al D.size hW.size))
  have b3:=hY Z;have HF:=hY N;have HX:=hY D;have d5:¬w.heap.size=wr.heap.size:=by omega
  have z:=N.row;rw[ao]at z;obtain⟨x0,a0⟩:∃v,wr.cell? ⟨w.heap.size,j*7,none⟩=some v:=z.cell (by omega);obtain⟨x1,d6⟩:∃v,wr.cell? ⟨w.heap.size,j*7+1,none⟩=some v:=z.cell (by omega);obtain⟨x2,c9⟩:∃v,wr.cell? ⟨w.heap.size,j*7+2,none⟩=some v:=z.cell (by omega);obtain⟨x3,d7⟩:∃v,wr.cell? ⟨w.heap.size,j*7+3,none⟩=some v:=z.cell (by omega);obtain⟨x4,d4⟩:∃v,wr.cell? ⟨w.heap.size,j*7+4,none⟩=some v:=z.cell (by omega);obtain⟨x5,e0⟩:∃v,wr.cell? ⟨w.heap.size,j*7+5,none⟩=some v:=z.cell (by omega);obtain⟨x6,c8⟩:∃v,wr.cell? ⟨w.heap.size,j*7+6,none⟩=some v:=z.cell (by omega);have d0:=z.frozen;rw[ha];have HA:=hY ha;clear Z U N D hv b4 z ha a4 b8;go_wp2_with fail;go_region_held3 (λw'=>w'.cell? ⟨wr.heap.size,0,none⟩=some (.string x.k)/\w'.cell? ⟨wr.heap.size,1,none⟩=some (.int .i64 x.v.kind)/\w'.cell? ⟨wr.heap.size,2,none⟩=some (.bool x.v.b)/\w'.cell? ⟨wr.heap.size,3,none⟩=some (.int .i64 x.v.i)/\w'.cell? ⟨wr.heap.size,4,none⟩=some (.string x.v.t)/\w'.cell? ⟨wr.heap.size,5,none⟩=some (.slice x.sl.a x.v.l.length x.sl.c)/\w'.cell? ⟨wr.heap.size,6,none⟩=some (.slice x.so.a x.v.ok.length x.so.c)) (go_keep)
   ((go_at_call 42;refine(b7 _ (((fv wr).alloc _ _).drew)).mono ?_;rintro e w1 ⟨c3,c2,rfl,a6,c0⟩;have c7:=a6.olds))
  have a9:Ext wr w1:=(((fv wr).alloc _ _).drew).trans a6;have a1:=HF.o.step a9 (x:=x.k) (d:=x.v) (by rw[aq,b3.o];rfl) (by rw[aq,b3.o];rfl) (c0.mono λi hi=>⟨Nat.le_trans (by simp) hi.1,hi.2⟩);have hX:=(HX.o.trans a9).Qe8 (b:=w.heap.size) (an _) (j*7) x.k x.v c3 c2;have c1:=hY a1;clear a1;go_wp2_with fail;go_roundw
  case rel=>exact⟨j+1,_,a5,by go_num,hX,c1.o⟩
  simp[intOf];omega
 obtain rfl:j=xs.length:=by omega
 have HF:=hY N;clear N;go_wp2_with fail;go_ret;have N:=HF.o;obtain⟨J,a2,I⟩:∃J:List LE,(∀(j:Nat) (x:LE),J[j]? = some x->∃y:LE,xs[j]? = some y/\x=LE.mk y.k y.v (f j).1 (f j).2)/\J.length=xs.length/\J.map LE.ent=xs.map LE.ent:=by
  refine⟨xs.mapIdx λj y=>LE.mk y.k y.v (f j).1 (f j).2,λj x D=>?_,by simp,?_⟩
  ·rw [dd] at D
   cases X:xs[j]? with
   |none=>rw[X]at D;cases D
   |some y=>rw[X]at D;exact⟨y,rfl,by simpa using D.symm⟩
  apply bK;intro j;rw[aq,dd,aq];cases xs[j]?<;>rfl
 have hb:∀(j:Nat) (x:LE),J[j]? = some x->j<xs.length/\(xs.map LE.k)[j]? = some x.k/\(xs.map LE.v)[j]? = some x.v/\x.sl=(f j).1/\x.so=(f j).2:=λj x D=>by
  obtain⟨y,X,rfl⟩:=a2 j x D;exact⟨(ah.1 X).1,by rw[aq,X];rfl,by rw[aq,X];rfl,rfl,rfl⟩
 have z:=N.row;rw[ao,<-I.1]at z;refine⟨⟨some ⟨w.heap.size,0,none⟩,J.length⟩,J,by simp[I.1],I.2,OE.mk ?_ ?_ (by rw[I.1];exact b0),D⟩
 .exact Qfg.own z (λj x D=>by
   obtain⟨h1,h2,h3,h4,h5⟩:=hb j x D;rw[h4,h5];exact⟨N.keys j _ h1 h2,N.cells j _ h1 h3⟩) (an _) (by rw[I.1];unfold maxLen;omega)
 intro x D;obtain⟨j,hj⟩:=bv D;obtain⟨h1,h2,h3,h4,h5⟩:=hb j x hj;rw[h4,h5];refine⟨(N.reads j _ h1 h3).mono λi hi=>⟨⟨by omega,hi.2⟩,by simp[Sl.row];omega⟩,?_⟩;obtain⟨y,X,rfl⟩:=a2 j x hj;exact(HS.o.vals y (am X)).2
abbrev fg:=@World.size_drew
abbrev Qgu(k:ByteArray)(v:Val)(sl so:Sl):Value:=.agg #[.string k,.int .i64 v.kind,.bool v.b,.int .i64 v.i,.string v.t,.slice sl.a v.l.length sl.c,.slice so.a v.ok.length so.c]
def QaQ(es:List Ent)(w:World)(e:Ending)(w':World):Prop:=
 ∃(s':Sl) (xs':List LE),e=.returned (.slice s'.a xs'.length s'.c)/\xs'.map LE.ent=es/\OE w' w.heap.size s' xs'/\Ext w w'
theorem Qey(w:World):Calls prog 101 #[.pointer none] w λe w'=>e=.returned (.slice none 0 0)/\w=w':=by
 go_in;go_wp2;go_ret;exact⟨rfl,rfl⟩
theorem Qii{t:PT (h+1)}(D:IsN w F (h+1) t):Calls prog 101 #[ptr (h+1) t] w λe w'=>e=.returned (.slice none 0 0)/\w=w':=by
 obtain⟨-,s,z,-⟩:=D;have I:w.cell? ⟨addr (h+1) t,0,none⟩=some (.slice none 0 0):=z.c7.1;clear z;go_in;go_wp2;go_ret;exact⟨rfl,rfl⟩
theorem Qbh{t:PT 0}(Y:IsN w (Lt w) 0 t):Calls prog 101 #[ptr 0 t] w (QaQ (ents 0 t) w):=by
 obtain⟨-,s,xs,U,hs,D⟩:=Y;have h0:w.cell? ⟨addr 0 t,0,none⟩=some (.slice s.a xs.length s.c):=U.c7.1;have J:=QhG hs;have N:=hY D;clear U D;by_cases R:xs.length=0
 ·have z:xs=[]:=ar R
  subst z;clear J;go_in;go_wp2_with fail;go_ret;exact⟨Sl.none,[],rfl,N.o,OE.nil _ _,fv _⟩
 have z:((xs.length:Int)==0)=false:=eu.2 (by omega);clear R;go_in;go_wp2_with fail;refine J.mono ?_;rintro e w' ⟨s',I,rfl,h1,h2,X⟩;have Z:=hY h1;clear h1;go_wp2_with fail;go_ret;exact⟨s',I,rfl,Z.o.trans N.o,h2,X⟩
def zeroV:Val:=.mk 0 false 0 ByteArray.empty [] [] []
def QdA(k:ByteArray)(v:Val)(w:World)(e:Ending)(w':World):Prop:=
 ∃sl so,e=.returned (.tuple #[Qgu k v sl so,.bool true])/\Ext w w'/\RVC w' (In w.heap.size w'.heap.size) v sl so
theorem Qjo{t:PT 0}(hn:IsN w (Lt w.heap.size) 0 t){i:Nat}{k:ByteArray}{v:Val}(hi:(ents 0 t)[i]? = some (k,v)) :
  Calls prog 100 #[ptr 0 t,.int .i64 i] w (QdA k v w):=by
 obtain⟨-,s,xs,hb,hs,R⟩:=hn;have h0:w.cell? ⟨addr 0 t,0,none⟩=some (.slice s.a xs.length s.c):=hb.c7.1;have a9:addr 0 t<w.heap.size:=hb.lt;obtain⟨x,J,rfl,rfl⟩:∃x,xs[i]? = some x/\x.k=k/\x.v=v:=by
  rw[show ents 0 t=xs.map LE.ent from R.symm,aq]at hi;cases J:xs[i]? with
  |none=>rw[J]at hi;cases hi
  |some x=>rw[J]at hi;simp[LE.ent]at hi;exact⟨x,rfl,hi.1,hi.2⟩
 obtain⟨b,o,ha,U,b5,a5,b6,hv,N,a1⟩:=hs.at J;obtain⟨v0,v1,v2,v3,v4,v5⟩:=hv.m;have b3:i<xs.length:=(ah.1 J).1;have a3:=hs.few;have a4:(i:Int)<(xs.length:Int):=by omega
 have b0:decide ((xs.length:Int)<=(i:Int))=false:=by simp;omega
 have b4:decide ((i:Int)<0)=false:=by simp
 have Z:∀W,Ext w W->Calls prog 42 #[Qbg x.v x.sl x.so] W (QeJ x.v W):=λW hW=>
  Qga _ x.v (an _) W _ _ ((N.agree (hW.agree λ_ h=>h)).mono λi hi=>ab hi hW.size)
 rw[ha]at h0;have a2:b<w.heap.size:=U;clear hb R hs hi hv N a1 ha J U;go_in;go_wp2_with fail;go_region_held3 (λw'=>w'.cell? ⟨w.heap.size+1,0,none⟩=some (.string x.k)/\w'.cell? ⟨w.heap.size+1,1,none⟩=some (.int .i64 x.v.kind)/\w'.cell? ⟨w.heap.size+1,2,none⟩=some (.bool x.v.b)/\w'.cell? ⟨w.heap.size+1,3,none⟩=some (.int .i64 x.v.i)/\w'.cell? ⟨w.heap.size+1,4,none⟩=some (.string x.v.t)/\w'.cell? ⟨w.heap.size+1,5,none⟩=some (.slice x.sl.a x.v.l.length x.sl.c)/\w'.cell? ⟨w.heap.size+1,6,none⟩=some (.slice x.so.a x.v.ok.length x.so.c)) (go_keep)
  ((go_at_call 42;refine(Z _ ((((fv w).alloc _ _).alloc _ _).drew)).mono ?_;rintro e w1 ⟨D,z,rfl,I,X⟩;have a6:=I.olds))
 have hX:Ext w w1:=((((fv w).alloc _ _).alloc _ _).drew).trans I;go_wp2_with fail;have Y:Blk w1 w.heap.size 70 #[.string ByteArray.empty,.int .i64 0,.bool false,.int .i64 0,.string ByteArray.empty,.slice none 0 0,.slice none 0 0]:=(I.heap (by rw[fg,ey,ey];omega)).trans (heap_alloc2_old w _ _);obtain⟨q0,q1,q2,q3,q4,q5,q6⟩:=Y.c7;refine eD (v:=.tuple #[Qgu x.k x.v D z,.bool true]) (by simp[results,results100,go_sem,q0,q1,q2,q3,q4,q5,q6]) rfl ?_;have hE:Ext w (Qe8 w1 w.heap.size 0 x.k x.v D z):=hX.Qe8 (an _) 0 x.k x.v D z;refine⟨D,z,rfl,hE,?_,X.cap⟩;show RV (Qe8 w1 w.heap.size 0 x.k x.v D z) (In w.heap.size (Qe8 w1 w.heap.size 0 x.k x.v D z).heap.size) _ _ _;rw[Qg4];have a0:RV w1 (In (w.heap.size+1) w1.heap.size) x.v D z:=X.mono λi hi=>⟨by have:=hi.1;simp at this;omega,hi.2⟩
 exact(a0.agree (Qc7 _ _ _ _ _ _ _ (by omega))).mono λi hi=>⟨by omega,hi.2⟩
theorem QhH{t:PT 0}(R:IsN w (Lt w) 0 t){i:Int}(hi:i<0\/(ents 0 t).length<=i) :
  Calls prog 100 #[ptr 0 t,.int .i64 i] w λe w'=>e=.returned (.tuple #[Qgu ByteArray.empty zeroV Sl.none Sl.none,.bool false])/\Ext w w':=by
 obtain⟨-,s,xs,J,hs,D⟩:=R;have Y:w.cell? ⟨addr 0 t,0,none⟩=some (.slice s.a xs.length s.c):=J.c7.1;have X:addr 0 t<w:=J.lt;have N:(ents 0 t).length=xs.length:=by rw[show ents 0 t=xs.map LE.ent from D.symm,ao]
 rw[N]at hi;clear J hs D N;by_cases z:i<0
 ·have I:decide (i<0)=true:=by simpa using z
  clear hi z;go_in;go_wp2_with fail;refine eD (v:=.tuple #[Qgu ByteArray.empty zeroV Sl.none Sl.none,.bool false]) (by simp[results,results100,go_sem];exact⟨rfl,rfl,rfl,rfl,rfl,rfl,rfl⟩) rfl ⟨rfl,(fv w).alloc _ _⟩
 have U:decide ((xs.length:Int)<=i)=true:=by simp;omega
 have I:decide (i<0)=false:=by simpa using z
 clear hi z;go_in;go_wp2_with fail;refine eD (v:=.tuple #[Qgu ByteArray.empty zeroV Sl.none Sl.none,.bool false]) (by simp[results,results100,go_sem];exact⟨rfl,rfl,rfl,rfl,rfl,rfl,rfl⟩) rfl ⟨rfl,(fv w).alloc _ _⟩
abbrev eO:=@enters_of
abbrev eU:=@Bool.not_eq_true'
def Qcc(es:List Ent)(k:ByteArray):Nat:=(es.takeWhile λe=>klt e.1 k).length
theorem Qk3(es:List Ent)(k:ByteArray):Qcc es k<=es.length:=(List.takeWhile_sublist _).length_le
variable{p:Nat}
theorem QgZ{es:List Ent}{k:ByteArray}(J:p<=es.length)(z:∀i e,i<p->es[i]? = some e->klt e.1 k=true)(D:∀e,es[p]? = some e->klt e.1 k=false):Qcc es k=p:=by
 induction es generalizing p with
 |nil=>simp at J;subst J;rfl
 | cons a es ih=>
   cases p with
   |zero=>simp[Qcc,D a rfl]
   | succ p=>
     have N:=z 0 a (by omega) rfl;have:=ih (p:=p) (by simpa using J) (λi e hi I=>z (i+1) e (by omega) (by simpa using I)) (λe I=>D e (by simpa using I));simp only[Qcc,List.takeWhile_cons,N,if_true,List.length_cons];rw[<-this];rfl
theorem QdX{es:List Ent}(h:Sorted es){i j:Nat}(z:i<j){a b:Ent}(I:es[i]? = some a)(D:es[j]? = some b):klt a.1 b.1=true:=by
 obtain⟨hi,rfl⟩:=ah.1 I;obtain⟨J,rfl⟩:=ah.1 D;exact List.pairwise_iff_getElem.1 h i j hi J z
variable{W:World}{b1 b2:Nat}
theorem Qnb(hs:ES w (Lt w) s xs){k:ByteArray}(h1:W.cell? ⟨b1,0,none⟩=some (.slice s.a xs.length s.c))(h2:W.cell? ⟨b2,0,none⟩=some (.string k))(J:Ext w W)
  {i:Nat} (hi:xs[i]? = some x):Calls prog 146 #[.int .i64 i,.pointer (some ⟨b1,0,none⟩),.pointer (some ⟨b2,0,none⟩)] W λe w'=>e=.returned (.bool !(klt x.k k))/\Ext W w':=by
 obtain⟨b,o,R,D,Y,X,z,-⟩:=hs.at hi;have Z:W.cell? ⟨b,o+i*7,none⟩=some (.string x.k):=(J.cell D).trans z;have U:i<xs.length:=(ah.1 hi).1;have N:(i:Int)<(xs.length:Int):=by omega
 have I:=hs.few;rw[R]at h1;clear hs hi J R z;go_in;go_wp2_with fail;go_quiet (fail);go_wp2;go_ret;exact⟨rfl,(fv W).drewN _⟩
def Qgs(es:List Ent)(k:ByteArray)(w:World)(e:Ending)(w':World):Prop:=
 e=.returned (.tuple #[.int .i64 (Qcc es k),.bool (decide ((es[Qcc es k]?).map Prod.fst=some k))])/\Ext w w'
theorem QjT(hs:ES w (Lt w) s xs)(k:ByteArray)(D:Sorted (xs.map LE.ent)) :
  Calls prog 103 #[.slice s.a xs.length s.c,.string k] w (Qgs (xs.map LE.ent) k w):=by
 have b0:=hs.few;have HS:=hY hs;have HO:=hY D;have a3:∀W,Ext w W->W.cell? ⟨w,0,none⟩=some (.slice s.a xs.length s.c)->W.cell? ⟨w+1,0,none⟩=some (.string k)->
   Calls prog 97 #[.int .i64 xs.length,.func (.func 146) #[] #[.pointer (some ⟨w,0,none⟩),.pointer (some ⟨w+1,0,none⟩)]] W (QcX xs.length (λi=>!(klt ((xs[i]?.map LE.k).getD ByteArray.empty) k)) W):=by
  intro W hW h1 h2;refine Qed 146 _ _ xs.length _ W (eO func146 (by kernel_rfl) rfl) (by omega) ?_ ?_
  ·intro i W' hi Y
   obtain⟨x,z⟩:∃x,xs[i]? = some x:=⟨_,ac hi⟩;rw[z];have I:=eH W _ h1;have R:=eH W _ h2;exact Qnb HS.o ((Y.cell I).trans h1) ((Y.cell R).trans h2) (hW.trans Y) z
  intro i j b5 hj N;by_cases a0:i=j
  .subst a0;exact N
  have X:=HO.o;obtain⟨x,z⟩:∃x,xs[i]? = some x:=⟨_,ac (by omega)⟩;obtain⟨y,hy⟩:∃y,xs[j]? = some y:=⟨_,ac hj⟩;have a5:=QdX X (i:=i) (j:=j) (by omega) (by rw[aq,z];rfl) (by rw[aq,hy];rfl);rw[z]at N;rw[hy];simp only[Option.map_some,Option.getD_some,Bool.not_eq_true']at N ⊢;cases a6:klt y.k k
  .rfl
  have:=QaI a5 a6;rw[show klt x.ent.1 k=klt x.k k from rfl,N]at this;cases this
 clear hs D;go_in;go_wp2_with fail;refine(a3 _ (((fv w).alloc _ _).alloc _ _) (by simp) (by simp)).mono ?_;rintro e w1 ⟨p,rfl,hp,a1,a2,J⟩;have I:Blk w1 w.heap.size 22 #[.slice s.a xs.length s.c]:=(J.heap (by rw[ey,ey];omega)).trans (heap_alloc2_old w _ _);have R:Blk w1 (w.heap.size+1) 9 #[.string k]:=(J.heap (by rw[ey,ey];omega)).trans (heap_alloc2_new w _ _);have q1:=I.cell 0;have q2:=R.cell 0;have hX:Ext w w1:=(((fv w).alloc _ _).alloc _ _).trans J;have U:Qcc (xs.map LE.ent) k=p:=QgZ (by simpa using hp) (λi e hi Z=>by
   rw[aq]at Z;obtain⟨x,z,rfl⟩:=dB.1 Z;have:(!(klt ((xs[i]?.map LE.k).getD ByteArray.empty) k))=false:=a1 i hi;rw[z]at this;show klt x.k k=true;simpa using this) (λe Z=>by
   rw[aq]at Z;obtain⟨x,z,rfl⟩:=dB.1 Z;have:(!(klt ((xs[p]?.map LE.k).getD ByteArray.empty) k))=true:=a2 p (an _) (ah.1 z).1;rw[z]at this;show klt x.k k=false;simpa using this)
 have HP:=hY U;clear a1 a2 U a3 J I R;simp only[List.getElem?_toArray,List.getElem?_cons_zero]at q1 q2;by_cases X:p<xs.length
 ·obtain ⟨x,z⟩:∃ x,xs[p]? = some x:=⟨_,ac X⟩
  obtain⟨b,o,ha,a9,b6,b4,a4,-⟩:=HS.o.at z;have hk:w1.cell? ⟨b,o+p*7,none⟩=some (.string x.k):=(hX.cell a9).trans a4;have hd:decide ((p:Int)<(xs.length:Int))=true:=by simp;omega
  have b3:(p:Int)<(xs.length:Int):=by omega
  have HX:=hY z;have HE:=hY hX;rw[ha]at q1;clear a4 z hX ha;go_wp2_with fail;go_quiet (fail);go_wp2;go_ret2;refine⟨?_,HE.o.drewN _⟩;rw[HP.o,aq,HX.o];show Ending.returned (.tuple #[.int .i64 p,.bool (x.k.toList==k.toList)])=_;rw[beq_toList];simp[LE.ent]
 have hd:decide ((p:Int)<(xs.length:Int))=false:=by simp;omega
 have HE:=hY hX;clear hX;go_wp2_with fail;go_quiet (fail);go_wp2;go_ret2;refine⟨?_,HE.o.drewN _⟩;rw[HP.o,aq,aQ (by omega)];rfl
abbrev ew:=@IntKind.wrap_i64
abbrev eV:=@World.cell?_drew
def QeK(base:Nat)(s:Sl)(n i:Nat)(xs ys:List Value)(w:World)(e:Ending)(w':World):Prop:=
 ∃s':Sl,e=.returned (.slice s'.a (n+1) s'.c)/\w'.ownsRow base 70 7 (.slice s'.a (n+1) s'.c) (n+1) (xs.take (i*7)++ys++xs.drop (i*7))/\Wr w w' s.row/\(s'.row=s.row\/∃b,s'.row=some b/\w.heap.size<=b)
section
variable{w : World}{base n i : Nat}{s : Sl}{xs ys : List Value}{vb : Nat}
theorem QqR(z:w.ownsRow base 70 7 (.slice s.a n s.c) n xs)(I:base<=w.heap.size)(hn:n<=1000)(hy:ys.length=7)(R:Blk w vb 70 ys.toArray)(h1:∀u∈ys,u.oneCell'=true) :
  Calls prog 104 #[.slice s.a n s.c,.int .i64 n,.slice (some ⟨vb,0,none⟩) 1 1] w (QeK base s n n xs ys w):=by
 obtain⟨i0,hi,X,a0,a1⟩:=eG Tryz.Qa1;have D:Rd w (λ_=>True) 7 ⟨some ⟨vb,0,none⟩,1⟩ 1 ys:=⟨vb,0,.some _ _ _ _ (an _) (by decide) trivial,by simpa using hy,λj u hj=>by rw[R.cell];simpa using hj⟩;have N:xs.take (n*7)++ys++xs.drop (n*7)=xs++ys:=by
  rw[a7 (by rw[z.1];exact an _),bC (by rw[z.1];exact an _),aY]
 have HO:=hY z;have HS:=hY D;have H1:=hY h1;have HX:=hY N;have Z:n+1<=maxLen:=by unfold maxLen;omega
 have a2:n<=s.c:=by
  rcases z.2 with⟨R,h0⟩ |⟨g,a3,a4,R,_,_,a5,_⟩
  .omega
  simp only[Value.slice.injEq]at R;omega
 have a6:((n:Int) ==(n:Int))=true:=by simp
 clear z D R h1 hy N;obtain⟨sa,sc⟩:=s;dsimp only at *;go_in;go_wp2_with(at_builtin;refine Qac _ rfl _ _ 22 rfl base 70 i0 (.agg #[.string ByteArray.empty,.int .i64 0,.bool false,.int .i64 0,.string ByteArray.empty,.slice none 0 0,.slice none 0 0]) 7 104 underlying22 hi X a0 a1 rfl (by decide) ⟨sa,sc⟩ n xs rfl HO.o (λ_=>True) ⟨some ⟨vb,0,none⟩,1⟩ 1 ys rfl HS.o H1.o Z (by omega) I ?_;intro s' w1 J Y U)
 all_goals
  go_ret;refine⟨s',by simp,by rw[HX.o];exact J,Y,?_⟩;rcases U with h |⟨h,-⟩
  .exact .inl (by simp[Sl.row,h])
  exact .inr ⟨w,by simp[Sl.row,h],an _⟩
theorem QmS{g cap:Nat}{z:Array Value}(a1:xs.length=n*7)(b8:base<=g)(hg:w.heap[g]? = some (.cells z 70 (0,0)))(a4:n+1<=cap)(a6:cap<=maxLen)(c2:z.size=cap*7)(D:z.toList.take (n*7)=xs)
  (hn:n<=1000) (d6:i<n) (hy:ys.length=7) (hv:Blk w vb 70 ys.toArray) (a9:vb≠g) (h1:∀u∈ys,u.oneCell'=true) (b4:∀u∈xs,u.oneCell'=true) :
  Calls prog 104 #[.slice (some ⟨g,0,none⟩) n cap,.int .i64 i,.slice (some ⟨vb,0,none⟩) 1 1] w (QeK base ⟨some ⟨g,0,none⟩,cap⟩ n i xs ys w):=by
 obtain⟨i0,hi,c9,a2,e0⟩:=eG Tryz.Qa1;have d3:((i:Int) ==(n:Int))=false:=eu.2 (by omega);have c4:(i:Int)<(n:Int):=by omega
 have d4:¬(cap:Int)<(n:Int)+1:=by omega
 have c6:(cap:Int)<=9223372036854775807:=by unfold maxLen at a6;omega
 have d5:¬cap=i:=by omega
 have d7:¬cap=i+1:=by omega
 have d0:IntKind.i64.wrap ((i:Int)+1)=(i:Int)+1:=by rw[ew];omega
 have c8:(0:Int)<=(i:Int)+1:=by omega
 have d8:((i:Int)+1).toNat=i+1:=by omega
 have c3:i<=n:=by omega
 have c7:(i:Int)<=(n:Int)+1:=by omega
 have c0:∀lb cb,(callFunc 147 #[.slice (some ⟨vb,0,none⟩) 1 1,.slice (some ⟨g,(i+1)*7,none⟩) lb cb]).run prog w=.ok (.value (.bool false)) w:=λlb cb=>by
  rw[run_callFunc_extern func147 (by kernel_rfl) (by kernel_rfl) (by kernel_rfl) (e:=Extern.SlicesOverlaps.overlaps #[22,22] #[4]) (by kernel_rfl),
   Lib.run_overlaps_apart w 22 4 70 underlying22 7 (λw=>by simp[sizeOf,typeInfo,hi,a2]) ⟨vb,0,none⟩ ⟨g,(i+1)*7,none⟩ 1 1 lb cb a9 70 70 ys.toArray.size z.size (by simp[World.shape?,show w.heap[vb]? = some (.cells ys.toArray 70 (0,0))from hv]) (by simp[World.shape?,hg]) (by omega) (hv.frozen _) (hv.frozen _)]
  rfl
 have a0:(xs.drop (i*7)).length=(n-i)*7:=by rw[au,a1,<-dv]
 have b0:∀j v,(xs.drop (i*7))[j]? = some v->w.drew.cell? ⟨g,i*7+j,none⟩=some v:=λj v hj=>by
  rw[eV,eY w g _ z 70 (0,0) hg];rw[bj,<-D,bm]at hj;split at hj
  .simpa using hj
  cases hj
 obtain⟨I,U⟩:∃I,I=(z.toList.take ((i+1)*7)++xs.drop (i*7)++z.toList.drop ((i+1)*7+(xs.drop (i*7)).length)).toArray:=⟨_,rfl⟩;obtain⟨N,J⟩:∃N,N=w.drew.setRow g I:=⟨_,rfl⟩;have a5:∀ty Z sc,(Builtin.copy_ #[22,22] ty #[.slice (some ⟨g,(i+1)*7,none⟩) (n-i) Z,.slice (some ⟨g,i*7,none⟩) (n+1-i) sc]).run prog w.drew=.ok (goInt (Nat.min (n+1-i) (n-i))) N:=λty Z sc=>by
  rw[J,U];exact QbL w.drew 22 22 ty 70 7 g ((i+1)*7) (n-i) Z ⟨some ⟨g,i*7,none⟩,sc⟩ (n+1-i) z 70 (xs.drop (i*7)) underlying22 (by rw[hi];simp[a2]) hg
   (by rw[a0,show Nat.min (n+1-i) (n-i)=n-i from by simp only[Nat.min_def];split<;>omega]) (by simp) (by rintro b o' ⟨⟩;exact b0) (by rintro a ⟨⟩;rfl) (by rw[a0];omega) (λu hu=>b4 u (aD hu))
 have c1:I.size=z.size:=by rw[U];simp;omega
 have a3:N.heap[g]? = some (.cells I 70 (0,0)):=by rw[J];exact eQ w.drew g z I 70 (0,0) hg
 have b5:Blk N vb 70 ys.toArray:=by rw[J];exact(fq w.drew g vb I a9).trans hv
 obtain⟨A2,R⟩:∃A2,A2=(I.toList.take (i*7)++ys++I.toList.drop (i*7+ys.length)).toArray:=⟨_,rfl⟩;obtain⟨W2,X⟩:∃W2,W2=N.setRow g A2:=⟨_,rfl⟩;have b6:∀ty Z,(Builtin.copy_ #[22,22] ty #[.slice (some ⟨g,i*7,none⟩) (n+1-i) Z,.slice (some ⟨vb,0,none⟩) 1 1]).run prog N=.ok (goInt (Nat.min 1 (n+1-i))) W2:=λty Z=>by
  rw[X,R];exact QbL N 22 22 ty 70 7 g (i*7) (n+1-i) Z ⟨some ⟨vb,0,none⟩,1⟩ 1 I 70 ys underlying22 (by rw[hi];simp[a2]) a3
   (by rw[hy,show Nat.min 1 (n+1-i)=1 from by simp only[Nat.min_def];split<;>omega]) (by simp) (by rintro b o' ⟨⟩;exactλj v hj=>by rw[b5.cell];simpa using hj) (by rintro a ⟨⟩;rfl) (by omega) h1
 have b7:W2.heap[g]? = some (.cells A2 70 (0,0)):=by rw[X];exact eQ N g I A2 70 (0,0) a3
 have b3:Wr w W2 (some g):=by
  rw[X,J];exact((Wr.refl w (some g)).drew.trans (fK w.drew I) (λi hi=>.inl hi)).trans (fK (w.drew.setRow g I) A2) (λi hi=>.inl hi)
 have Y:W2.ownsRow base 70 7 (.slice (some ⟨g,0,none⟩) (n+1) cap) (n+1) (xs.take (i*7)++ys++xs.drop (i*7)):=by
  refine⟨by simp[a1,hy];omega,.inr ⟨g,cap,A2,rfl,b8,b7,a4,a6,by rw[R];simp;omega,?_⟩⟩;rw[R,U];exact QhV z.toList xs ys (i*7) (n*7) 7 _ _ _ _ _ D.symm hy (by omega) (by rw[aH];omega) (by omega) rfl (by omega) (by omega) (by omega)
 have HF:=hY Y;have HW:=hY b3;clear Y b3 b7 a3 b5 c1 X J R U b0 a0 hg hv h1 b4 a1 D c2;go_in;go_wp2_with(simp only[c0]);go_region_law (refine Qdq _ rfl _ _ 22 22 rfl _ _ (by simp[Act.eval,Act.put]) (by simp[Act.eval,Act.put]) (a5 _ _ _) ?_);go_wp2_with(at_builtin;refine Qcl _ rfl _ _ 22 22 rfl _ _ rfl rfl (b6 _ _) ?_);go_ret;exact⟨⟨some ⟨g,0,none⟩,cap⟩,rfl,HF.o,HW.o,.inl rfl⟩
theorem QoQ{g cap:Nat}{Z:Array Value}(N:xs.length=n*7)(b4:base<=w.heap.size)(hg:w.heap[g]? = some (.cells Z 70 (0,0)))(f7:n<=cap)(b3:cap<n+1)(e0:Z.size=cap*7)(D:Z.toList.take (n*7)=xs)
  (hn:n<=1000) (f8:i<n) (hy:ys.length=7) (hv:Blk w vb 70 ys.toArray) (e7:vb≠g) (h1:∀u∈ys,u.oneCell'=true) (c7:∀u∈xs,u.oneCell'=true) :
  Calls prog 104 #[.slice (some ⟨g,0,none⟩) n cap,.int .i64 i,.slice (some ⟨vb,0,none⟩) 1 1] w (QeK base ⟨some ⟨g,0,none⟩,cap⟩ n i xs ys w):=by
 obtain⟨i0,hi,d4,b6,c9⟩:=eG Tryz.Qa1;have f5:((i:Int) ==(n:Int))=false:=eu.2 (by omega);have e4:(i:Int)<(n:Int):=by omega
 have f1:(cap:Int)<(n:Int)+1:=by omega
 have f6:¬cap=i:=by omega
 have f4:IntKind.i64.wrap ((i:Int)+1)=(i:Int)+1:=by rw[ew];omega
 have f0:(0:Int)<=(i:Int)+1:=by omega
 have f2:((i:Int)+1).toNat=i+1:=by omega
 have e2:i<=n:=by omega
 have f3:(i:Int)<=(n:Int):=by omega
 have e8:(i:Int)+1<=(n:Int)+1:=by omega
 have d3:g<w.heap.size:=fm hg;have d7:vb<w.heap.size:=hv.lt;obtain⟨G,hG⟩:∃G,G=grownCap w (n+1) cap 70:=⟨_,rfl⟩;have d8:n+1<=G:=by rw[hG];exact grownCap_ge w _ _ _
 have e3:G<=9223372036854775807:=by
  have:=grownCap_le_maxLen w (n+1) cap 70 (by unfold maxLen;omega);rw[<-hG]at this;unfold maxLen at this;omega
 have b5:i+(n+1-i)=n+1:=by omega
 obtain⟨z,J⟩:∃z:Array Value,z=(xs.take (i*7)).toArray++Builtin.zeroCells ((.agg #[.string ByteArray.empty,.int .i64 0,.bool false,.int .i64 0,.string ByteArray.empty,.slice none 0 0,.slice none 0 0]):Value).cells (n+1-i)++Builtin.zeroCells ((.agg #[.string ByteArray.empty,.int .i64 0,.bool false,.int .i64 0,.string ByteArray.empty,.slice none 0 0,.slice none 0 0]):Value).cells (G -(n+1)):=⟨_,rfl⟩;have e1:z.size=G*7:=by
  rw[J];simp only[Array.size_append,List.size_toArray,size_zeroCells,List.length_take,N];rw[show((.agg #[.string ByteArray.empty,.int .i64 0,.bool false,.int .i64 0,.string ByteArray.empty,.slice none 0 0,.slice none 0 0]):Value).cells.size=7 from rfl];omega
 have c4:z.toList.take (i*7)=xs.take (i*7):=by
  rw[J];simp only[Array.toList_append,List.append_assoc];rw[aZ (by simp[N];omega),a7 (by simp;omega)]
 obtain⟨U,a1⟩:∃U,U=w.drew.alloc (.cells z 70):=⟨_,rfl⟩;have d5:∀Y,(Builtin.append_ #[22,3] Y #[.slice (some ⟨g,0,none⟩) i cap,.int .i64 ((n:Int)+1 -(i:Int))]).run prog w=.ok (.slice (some ⟨w.heap.size,0,none⟩) (n+1) G) U:=λY=>by
  have c3:(Builtin.firstCells i0.size i (.slice (some ⟨g,0,none⟩) i cap)).run prog w.drew=.ok (xs.take (i*7)).toArray w.drew:=by
   rw[b6];exact run_firstCells_some w.drew 7 i ⟨g,0,none⟩ i cap (xs.take (i*7)) (by rw[ap];omega) (λj v I=>by
    rw[Qbu,aA,eV,eY w g _ Z 70 (0,0) hg];rw[bm]at I;split at I
    ·rw [←D,bm] at I
     split at I
     .simpa using I
     cases I
    cases I)
  have h:=Lib.run_append_grow_zeros w 22 3 Y 70 i0 _ .i64 .i64 underlying22 underlying3 hi d4 (some ⟨g,0,none⟩) i cap (xs.take (i*7)) c3 (n+1-i) (by omega) (by omega) (by omega) (by omega) (by rw[c9];omega) (by rw[c9,b5];exact growslice_fits b3 (by omega));rw[b5,<-hG,<-J,<-a1]at h;rw[show(n:Int)+1 -(i:Int)=((n+1-i:Nat):Int)from by omega];exact h
 have b8:U.heap[w.heap.size]? = some (.cells z 70 (0,0)):=by rw[a1];exact fh w.drew _
 have a0:∀k,k<w.heap.size->U.heap[k]? = w.heap[k]?:=λk hk=>by rw[a1];exact eJ w.drew _ k hk
 have c8:Blk U vb 70 ys.toArray:=(a0 vb d7).trans hv;obtain⟨R,a5⟩:∃R,R=(z.toList.take (i*7)++ys++z.toList.drop (i*7+ys.length)).toArray:=⟨_,rfl⟩;have d6:R.size=G*7:=by rw[a5];simp;omega
 obtain⟨X,a2⟩:∃X,X=U.setRow w.heap.size R:=⟨_,rfl⟩;have c1:∀Y dc,(Builtin.copy_ #[22,22] Y #[.slice (some ⟨w.heap.size,i*7,none⟩) (n+1-i) dc,.slice (some ⟨vb,0,none⟩) 1 1]).run prog U=.ok (goInt (Nat.min 1 (n+1-i))) X:=λY dc=>by
  rw[a2,a5];exact QbL U 22 22 Y 70 7 w.heap.size (i*7) (n+1-i) dc ⟨some ⟨vb,0,none⟩,1⟩ 1 z 70 ys underlying22 (by rw[hi];simp[b6]) b8
   (by rw[hy,show Nat.min 1 (n+1-i)=1 from by simp only[Nat.min_def];split<;>omega]) (by simp) (by rintro b o' ⟨⟩;exactλj v I=>by rw[c8.cell];simpa using I) (by rintro a ⟨⟩;rfl) (by omega) h1
 have b7:X.heap[w.heap.size]? = some (.cells R 70 (0,0)):=by rw[a2];exact eQ U _ z R 70 (0,0) b8
 have a6:∀k,k<w.heap.size->X.heap[k]? = w.heap[k]?:=λk hk=>by rw[a2];exact(fq U _ k R (by omega)).trans (a0 k hk)
 have b0:(xs.drop (i*7)).length=(n-i)*7:=by rw[au,N,<-dv]
 have c0:∀j v,(xs.drop (i*7))[j]? = some v->X.drew.cell? ⟨g,i*7+j,none⟩=some v:=λj v I=>by
  rw[eV,eY X g _ Z 70 (0,0) ((a6 g d3).trans hg)];rw[bj,<-D,bm]at I;split at I
  .simpa using I
  cases I
 obtain⟨A2,a3⟩:∃A2,A2=(R.toList.take ((i+1)*7)++xs.drop (i*7)++R.toList.drop ((i+1)*7+(xs.drop (i*7)).length)).toArray:=⟨_,rfl⟩;obtain⟨W3,a4⟩:∃W3,W3=X.drew.setRow w.heap.size A2:=⟨_,rfl⟩;have d0:∀Y dc sc,(Builtin.copy_ #[22,22] Y #[.slice (some ⟨w.heap.size,(i+1)*7,none⟩) (n-i) dc,.slice (some ⟨g,i*7,none⟩) (n-i) sc]).run prog X.drew=.ok (goInt (Nat.min (n-i) (n-i))) W3:=λY dc sc=>by
  rw[a4,a3];exact QbL X.drew 22 22 Y 70 7 w.heap.size ((i+1)*7) (n-i) dc ⟨some ⟨g,i*7,none⟩,sc⟩ (n-i) R 70 (xs.drop (i*7)) underlying22 (by rw[hi];simp[b6]) b7
   (by rw[b0,show Nat.min (n-i) (n-i)=n-i from by simp]) (by simp) (by rintro b o' ⟨⟩;exact c0) (by rintro a ⟨⟩;rfl) (by rw[b0];omega) (λu hu=>c7 u (aD hu))
 have c2:W3.heap[w.heap.size]? = some (.cells A2 70 (0,0)):=by rw[a4];exact eQ X.drew _ R A2 70 (0,0) b7
 have c6:Wr w W3 (some g):=by
  rw[a4,a2,a1];exact(((((Wr.refl w (some g)).drew).alloc z 70).trans (fK _ R) (λi hi=>.inr (by injection hi with hi;omega))).drew).trans (fK _ A2) (λi hi=>.inr (by injection hi with hi;omega))
 have a9:W3.ownsRow base 70 7 (.slice (some ⟨w.heap.size,0,none⟩) (n+1) G) (n+1) (xs.take (i*7)++ys++xs.drop (i*7)):=by
  refine⟨by simp[N,hy];omega,.inr ⟨w.heap.size,G,A2,rfl,b4,c2,d8,by unfold maxLen;omega,by rw[a3];simp;omega,?_⟩⟩;rw[a3,a5];exact Qjx z.toList xs ys (i*7) (n*7) 7 _ _ _ _ _ c4 N hy (by omega) (by rw[aH];omega) (by omega) rfl (by omega) (by omega) (by omega)
 have HF:=hY a9;have HW:=hY c6;clear a9 c6 c2 b7 b8 c8 d6 a4 a2 a1 a3 a5 c0 b0 hg hv h1 c7 N D e0 a0 a6 c4 e1 J hG b5;have f9:¬(G=i):=by omega
 have e6:¬(G=i+1):=by omega
 go_in;go_wp2_with(first
  |(at_builtin;refine wpList_append_run _ rfl _ _ 22 3 rfl _ _ rfl rfl (d5 _) ?_)
  |(at_builtin;refine Qcl _ rfl _ _ 22 22 rfl _ _ rfl rfl (c1 _ _) ?_))
 go_region_law (refine Qdq _ rfl _ _ 22 22 rfl _ _ (by simp[Act.eval,Act.put]) (by simp[Act.eval,Act.put]) (d0 _ _ _) ?_);go_wp2;go_ret;exact⟨⟨some ⟨w.heap.size,0,none⟩,G⟩,rfl,HF.o,HW.o,.inr ⟨_,rfl,an _⟩⟩
theorem QlL(z:w.ownsRow base 70 7 (.slice s.a n s.c) n xs)(D:base<=w.heap.size)(hn:n<=1000)(a2:i<=n)(hy:ys.length=7)(hv:Blk w vb 70 ys.toArray)(X:s.row≠some vb)(h1:∀u∈ys,u.oneCell'=true)(N:∀u∈xs,u.oneCell'=true) :
  Calls prog 104 #[.slice s.a n s.c,.int .i64 i,.slice (some ⟨vb,0,none⟩) 1 1] w (QeK base s n i xs ys w):=by
 by_cases he:i=n
 .subst he;exact QqR z D hn hy hv h1
 rcases z.2 with⟨hs,h0⟩ |⟨g,J,a3,hs,a0,hg,a1,Y,R,I⟩
 .omega
 simp only[Value.slice.injEq]at hs;obtain⟨ha,-,hc⟩:=hs;have U:vb≠g:=λe=>X (by simp[Sl.row,ha,e])
 have Z:s=⟨some ⟨g,0,none⟩,J⟩:=by cases s;simp_all
 have hl:=z.1;clear z;subst Z;by_cases hr:n+1<=J
 .exact QmS hl a0 hg hr Y R I hn (by omega) hy hv U h1 N
 exact QoQ hl D hg a1 (by omega) R I hn (by omega) hy hv U h1 N
end
theorem Qo5(k:ByteArray)(v:Val)(sl so:Sl)(k':ByteArray)(z:Val)(sl' so':Sl)(w:World) :
  Calls prog 201 #[Qgu k v sl so,Qgu k' z sl' so'] w λe w'=>e=.returned (.bool (klt k k'))/\Ext w w':=by
 go_in;go_wp2;go_ret;exact⟨rfl,((fv w).alloc _ _).alloc _ _⟩
def QbH(xs:List LE):Prop:=∀i x y,xs[i]? = some x->xs[i+1]? = some y->klt x.k y.k=true
theorem Qnk(hs:ES w (Lt w) s xs)(hr:QbH xs) :
  Calls prog 200 #[.slice s.a xs.length s.c,.func (.func 201) #[] #[]] w λe w'=>e=.returned (.bool true)/\Ext w w':=by
 have a3:=hs.few;have HS:=hY hs;have HR:=hY hr;clear hs hr;go_in;go_wp2_with fail;go_loopw[5] (λq wr=>∃m:Nat,(m+1<=xs.length\/m=0)/\q=.int .i64 ((m:Int)+1)/\Ext w wr) (λq _=>xs.length -(intOf q).toNat)
 case atStart=>exact⟨0,.inr rfl,rfl,fv _⟩
 obtain⟨m,hj,rfl,hx⟩:=hrel;by_cases a1:m+1<xs.length
 ·obtain ⟨x,R⟩:∃ x,xs[m]? = some x:=⟨_,ac (by omega)⟩
  obtain⟨y,N⟩:∃y,xs[m+1]? = some y:=⟨_,ac a1⟩;obtain⟨b,o,ha,D,b4,a4,Z,hv,-⟩:=HS.o.at R;obtain⟨b',o',J,-,-,-,I,X,-⟩:=HS.o.at N;rw[ha]at J;simp only[Option.some.injEq,Addr.mk.injEq,and_true]at J;obtain⟨rfl,rfl⟩:=J;have z:Agree (Lt w) w wr:=hx.agree λ_ h=>h
  obtain⟨v0,v1,v2,v3,v4,v5⟩:=(hv.agree z D).m;have vk:=(z.cell D).trans Z;obtain⟨u0,u1,u2,u3,u4,u5⟩:=(X.agree z D).m;have uk:=(z.cell D).trans I;have U:=HR.o m x y R N;have HK:=hY U;rw[ha];have a6:(m:Int)+1<(xs.length:Int):=by omega
  have b3:(m:Int)<(xs.length:Int):=by omega
  have a9:IntKind.i64.wrap (m:Int)=(m:Int):=by rw[ew];omega
  have a5:(0:Int)<=(m:Int)+1:=by omega
  have b0:((m:Int)+1).toNat=m+1:=by omega
  clear R N Z I hv X z ha U;go_wp2_with fail;have a0:b<wr:=ab D hx.size;go_region_held3 (λw'=>w'.cell? ⟨b,o+m*7,none⟩=some (.string x.k)/\w'.cell? ⟨b,o+m*7+1,none⟩=some (.int .i64 x.v.kind)/\w'.cell? ⟨b,o+m*7+2,none⟩=some (.bool x.v.b)/\w'.cell? ⟨b,o+m*7+3,none⟩=some (.int .i64 x.v.i)/\w'.cell? ⟨b,o+m*7+4,none⟩=some (.string x.v.t)/\w'.cell? ⟨b,o+m*7+5,none⟩=some (.slice x.sl.a x.v.l.length x.sl.c)/\w'.cell? ⟨b,o+m*7+6,none⟩=some (.slice x.so.a x.v.ok.length x.so.c)/\w'.cell? ⟨b,o+(m+1)*7,none⟩=some (.string y.k)/\w'.cell? ⟨b,o+(m+1)*7+1,none⟩=some (.int .i64 y.v.kind)/\w'.cell? ⟨b,o+(m+1)*7+2,none⟩=some (.bool y.v.b)/\w'.cell? ⟨b,o+(m+1)*7+3,none⟩=some (.int .i64 y.v.i)/\w'.cell? ⟨b,o+(m+1)*7+4,none⟩=some (.string y.v.t)/\w'.cell? ⟨b,o+(m+1)*7+5,none⟩=some (.slice y.sl.a y.v.l.length y.sl.c)/\w'.cell? ⟨b,o+(m+1)*7+6,none⟩=some (.slice y.so.a y.v.ok.length y.so.c)) (go_keep)
   ((go_at_call 201;refine(Qo5 _ _ _ _ _ _ _ _ _).mono ?_;rintro e w' ⟨rfl,Y⟩;have a2:∀o',w'.cell? ⟨b,o',none⟩=wr.cell? ⟨b,o',none⟩:=λo'=>Y.cell a0))
  have hX:=hx.trans ((fv wr).drew.trans Y);have HX:=hY hX;clear hX a2;rw[HK.o];go_wp2_with fail;go_roundw
  case rel=>exact⟨m+1,.inl (by omega),by go_num,HX.o⟩
  simp[intOf];omega
 go_wp2_with fail;go_ret;exact⟨rfl,hx⟩
variable{w2 w3:World}{s':Sl}
theorem QjH{xs z:List LE}{a:Nat}{f l:ByteArray}(X:Ext w w2)(D:Ext w2 w3)(Y:z.map LE.ent=xs.map LE.ent)(J:w.heap.size<=B)(N:OE w2 B s' z)
  (Z:w2<=a) (U:f=Qaw (xs.map LE.ent)) (R:l=QbM (xs.map LE.ent)) (I:Blk w3 a 144 #[.slice s'.a z.length s'.c,.slice none 0 0,.int .i64 0,.int .i64 z.length,.string f,.string l,.bool false]) :
  IsN w3 (In w.heap.size w3.heap.size) 0 (a,xs.map LE.ent):=
 ⟨⟨Nat.le_trans X.size Z,I.lt⟩,s',z,by subst U R;exact I,(N.es.agree (D.agree λ_ h=>h.2)).mono λ_ h=>⟨Nat.le_trans J h.1,ab h.2 D.size⟩,Y⟩
def Qqu(es:List Ent)(w:World)(e:Ending)(w':World):Prop:=
 ∃a:Nat,e=.returned (.tuple #[.pointer (some ⟨a,0,none⟩),.int .i64 0])/\w.heap.size<=a/\IsN w' (In w.heap.size w'.heap.size) 0 (a,es)/\Ext w w'
theorem Qpo(hs:ES w (Lt w) s xs)(hr:QbH xs)(h8:xs.length<=8) :
  Calls prog 149 #[.slice s.a xs.length s.c] w (Qqu (xs.map LE.ent) w):=by
 have HS:=hY hs;have R:=Qnk hs hr;have hg:¬(8:Int)<(xs.length:Int):=by omega
 have b8:decide ((8:Int)<(xs.length:Int))=false:=by simp;omega
 have a2:∀W,Ext w W->Calls prog 144 #[.slice s.a xs.length s.c] W (Qhy xs W):=λW hW=>
  QhG ((HS.o.agree (hW.agree λ_ h=>h)).mono λi hi=>ab hi hW.size)
 have HC:=hY a2;clear hs a2 hr;go_in;go_wp2_with fail;refine R.mono ?_;rintro e w1 ⟨rfl,z⟩;go_wp2_with fail;refine(HC.o w1 z).mono ?_;rintro e w2 ⟨s',a5,rfl,hm,ho,N⟩;have HM:=hY hm;have HO:=hY ho;have D:a5.length=xs.length:=by have:=congrArg List.length hm;simpa using this
 have HL:=hY D;have hX:=z.trans N;have Z:=hY hX;have a1:=z.size;by_cases h0:0<xs.length
 ·obtain ⟨x,U⟩:∃ x,xs[0]? = some x:=⟨_,ac h0⟩
  obtain⟨y,J⟩:∃y,xs[xs.length-1]? = some y:=⟨_,ac (by omega)⟩;obtain⟨b,o,ha,X,b7,a9,Y,-⟩:=HS.o.at U;obtain⟨b',o',I,-,-,-,a3,-⟩:=HS.o.at J;rw[ha]at I;simp only[Option.some.injEq,Addr.mk.injEq,and_true]at I;obtain⟨rfl,rfl⟩:=I;rw[cN,cx]at Y;have vk:=(hX.cell X).trans Y;have vl:=(hX.cell X).trans a3;have a6:b<w2:=ab X hX.size;have hf:Qaw (xs.map LE.ent)=x.k:=by rw[Qaw,List.head?_map,List.head?_eq_getElem?,U];rfl
  have hl:QbM (xs.map LE.ent)=y.k:=by rw[QbM,List.getLast?_map,List.getLast?_eq_getElem?,J];rfl
  have a0:=hY (And.intro hf hl);have b3:IntKind.i64.wrap ((xs.length:Int)-1)=(xs.length:Int)-1:=by rw[ew];omega
  have b0:(0:Int)<=(xs.length:Int)-1:=by omega
  have b5:(xs.length:Int)-1<(xs.length:Int):=by omega
  have b6:(0:Int)<(xs.length:Int):=by omega
  have b4:((xs.length:Int)-1).toNat=xs.length-1:=by omega
  rw[ha];clear hm ho R D hX U J Y a3 ha hf hl z N;go_wp2_with fail;go_region
  all_goals go_wp2_with fail
  all_goals go_ret2
  refine⟨w2,rfl,Z.o.size,?_,(Z.o.alloc _ _).drew⟩;refine QjH Z.o (((fv w2).alloc _ _).drew) HM.o a1 HO.o (an _) a0.o.1.symm a0.o.2.symm ?_;rw[HL.o];exact fA _ _ _
 have a4:xs=[]:=ar (by omega);subst a4;clear hm ho R hX z N;go_wp2_with fail;go_ret2;refine⟨w2,rfl,Z.o.size,?_,Z.o.alloc _ _⟩;refine QjH Z.o ((fv w2).alloc _ _) HM.o a1 HO.o (an _) (f:=ByteArray.empty) (l:=ByteArray.empty) rfl rfl ?_;rw[HL.o];exact fA _ _ _
def QcV(es:List Ent)(w:World)(e:Ending)(w':World):Prop:=
 ∃t:PT 0,e=.returned (ptr 0 t)/\t.2=es/\w.heap.size<=addr 0 t/\IsN w' (In w.heap.size w'.heap.size) 0 t/\Ext w w'
theorem QdZ(hs:ES w (Lt w) s xs)(I:n=xs.length)(z:QbH xs)(N:xs.length<=8) :
  Calls prog 106 #[.slice s.a n s.c] w (QcV (xs.map LE.ent) w):=by
 subst I;have J:=Qpo hs z N;clear hs z;go_in;go_wp2_with fail;refine J.mono ?_;rintro e w' ⟨a,rfl,h1,h2,D⟩;have R:=hY h2;clear h2;go_wp2_with fail;go_ret;exact⟨(a,xs.map LE.ent),rfl,rfl,h1,R.o,D⟩
theorem Rd.take{size n:Nat}(h:Rd w F size s n cs){m:Nat}(J:m<=n):Rd w F size s m (cs.take (m*size)):=by
 obtain⟨b,o,h1,h2,I⟩:=h;have D:m*size<=n*size:=cg _ J;refine⟨b,o,?_,by rw[ap];omega,λj u z=>I j u ?_⟩
 ·cases h1 with
  | nil=>have:m=0:=by omega
         subst this;exact .nil _ _
  |some _ c _ _ h hc hb=>exact .some _ c _ _ (by omega) hc hb
  | zero a=>have:m=0:=by omega
            subst this;exact .zero a _ _
 rw[bm]at z;split at z
 .exact z
 cases z
theorem Rd.drop{size n b o c:Nat}(h:Rd w F size ⟨some ⟨b,o,none⟩,c⟩ n cs){m:Nat}(N:m<=n):Rd w F size ⟨some ⟨b,o+m*size,none⟩,c-m⟩ (n-m) (cs.drop (m*size)):=by
 obtain⟨D,I,h1,h2,J⟩:=h;cases h1 with
 | some _ _ _ _ h hc hb=>
   refine⟨b,o+m*size,.some _ _ _ _ (by omega) (by omega) hb,by rw[au,h2,<-dv],λj u z=>?_⟩;rw[bj]at z;rw[bH];exact J _ u z
 | zero=>
   obtain rfl:m=0:=by omega
   refine⟨D,I,?_,by rw[au,h2];simp,λj u z=>?_⟩
   .simpa using QeM.zero (F:=F) ⟨b,o,none⟩ D I
   have:cs=[]:=ar (by simpa using h2);subst this;simp at z
theorem ES.take(h:ES w F s xs){m:Nat}(z:m<=xs.length):ES w F s (xs.take m):=
 ⟨by rw[ap,bx z,<-Qc1];exact h.rd.take z,λx D=>h.vals x (aN D),by have:=h.few;rw[ap];omega⟩
theorem ES.drop{b o c:Nat}(h:ES w F ⟨some ⟨b,o,none⟩,c⟩ xs){m:Nat}(D:m<=xs.length):ES w F ⟨some ⟨b,o+m*7,none⟩,c-m⟩ (xs.drop m):=
 ⟨by rw[au,<-Qc0];exact h.rd.drop D,λx z=>h.vals x (aD z),by have:=h.few;rw[au];omega⟩
theorem QbH.take(h:QbH xs)(m:Nat):QbH (xs.take m):=λi x y z D=>by
 rw[bm]at z D;split at z<;>split at D
 .exact h i x y z D
 all_goals first|cases z|cases D
theorem QbH.drop(h:QbH xs)(m:Nat):QbH (xs.drop m):=λi x y z D=>by
 rw[bj]at z D;exact h _ x y z D
theorem Qc8(h:Sorted (xs.map LE.ent)):QbH xs:=λi x y z D=>
 QdX (a:=x.ent) (b:=y.ent) h (dj i) (by rw[aq,z];rfl) (by rw[aq,D];rfl)
def two(h:Nat):List (PT h)->Ending
 |[t]=>.returned (.tuple #[ptr h t,.pointer none])
 |[t,u]=>.returned (.tuple #[ptr h t,ptr h u])
 |_=>.returned (.tuple #[])
def chunk{α:Type}(l:List α):List (List α):=if l.length<=8 then[l]else[l.take 4,l.drop 4]
def Qmu(es:List Ent)(w:World)(e:Ending)(w':World):Prop:=
 ∃ts:List (PT 0),e=two 0 ts/\ts.map Prod.snd=chunk es/\(∀t∈ts,w.heap.size<=addr 0 t/\IsN w' (In w.heap.size w'.heap.size) 0 t)/\Ext w w'
variable{w1:World}
theorem QcV.grow{t:PT 0}(h1:Ext w w1)(h2:Ext w2 w3)(D:w1.heap.size<=addr 0 t)(z:IsN w2 (In w1.heap.size w2.heap.size) 0 t):w.heap.size<=addr 0 t/\IsN w3 (In w.heap.size w3.heap.size) 0 t:=
 ⟨Nat.le_trans h1.size D,(z.agree (h2.agree λ_ h=>h.2)).mono λ_ h=>⟨Nat.le_trans h1.size h.1,ab h.2 h2.size⟩⟩
theorem QhX(hs:ES w (Lt w) s xs)(X:QbH xs)(h8:xs.length<=9) :
  Calls prog 105 #[.slice s.a xs.length s.c,.func (.func 106) #[] #[]] w (Qmu (xs.map LE.ent) w):=by
 by_cases h:xs.length<=8
 ·have hc:=QdZ hs rfl X h
  have hl:(xs.length:Int)<=8:=by omega
  clear hs X;go_in;go_wp2_with fail;refine hc.mono ?_;rintro e w' ⟨t,rfl,h1,h2,N,Y⟩;have H3:=hY N;clear N;go_wp2_with fail;go_ret2;exact⟨[t],rfl,by show[t.2]=_;rw[h1,chunk,em (by simpa using h)],by simpa using⟨h2,H3.o⟩,Y⟩
 have h9:xs.length=9:=by omega
 have a0:=hs.at (i:=0) (x:=xs[0]'(by omega)) (ac (by omega));obtain⟨b,o,ha,a3,a1,Z,-⟩:=a0;have z:s=⟨some ⟨b,o,none⟩,s.c⟩:=by cases s;simp_all
 have D:∀W,Ext w W->Calls prog 106 #[.slice (some ⟨b,o,none⟩) 4 s.c] W (QcV ((xs.take 4).map LE.ent) W):=λW U=>by
  have:=QdZ (w:=W) (n:=4) (s:=s) (xs:=xs.take 4) (((hs.take (m:=4) (by omega)).agree (U.agree λ_ h=>h)).mono λi hi=>ab hi U.size) (by rw[ap];omega) (X.take 4) (by rw[ap];omega);rw[z]at this;exact this
 have R:∀W,Ext w W->Calls prog 106 #[.slice (some ⟨b,o+28,none⟩) 5 (s.c-4)] W (QcV ((xs.drop 4).map LE.ent) W):=λW U=>by
  have J:=hs;rw[z]at J;exact QdZ (w:=W) (n:=5) (s:=⟨some ⟨b,o+28,none⟩,s.c-4⟩) (xs:=xs.drop 4) (((J.drop (m:=4) (by omega)).agree (U.agree λ_ h=>h)).mono λi hi=>ab hi U.size) (by rw[au];omega) (X.drop 4) (by rw[au];omega)
 have HL:=hY D;have HR:=hY R;clear D R hs X z;rw[ha,h9];rw[h9]at a1;have a2:4<=s.c:=by omega
 unfold maxLen at Z;go_in;go_wp2_with fail;go_region_with (first
  |(go_at_call_of 106 (Value.slice (some ⟨b,o,none⟩) 4 s.c);refine(HL.o _ ?_).mono ?_;exact(fv w).drew;rintro e w1 ⟨t,rfl,h1,h2,N,Y⟩;have H3:=hY N;clear N)
  |(go_at_call 106;refine(HR.o _ ?_).mono ?_;exact(fv w).drew.trans Y;rintro e w2 ⟨u,rfl,k1,k2,k3,k4⟩;have K3:=hY k3;clear k3))
 all_goals go_wp2_with fail
 all_goals go_ret2
 have hX:=(fv w).drew.trans Y;refine⟨[t,u],rfl,?_,?_,hX.trans k4⟩
 ·show [t.2,u.2]=_
  rw[h1,k1,chunk,ef (by simp;omega),cO,cy]
 intro x I;rcases aG.1 I with rfl|I
 .exact QcV.grow (fv w).drew k4 h2 H3.o
 rcases aG.1 I with rfl|I
 .exact QcV.grow hX (fv w2) k2 K3.out
 simp at I
end Go.Proofs.YtkjkafgnnoidpaaGreatDoor
