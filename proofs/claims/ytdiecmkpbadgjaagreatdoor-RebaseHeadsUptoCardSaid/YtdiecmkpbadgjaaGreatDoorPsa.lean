/- What the theorem needs: no condition of its own. -/
import Derived.Deep.RegionHeld3
import Derived.Lib.Hide
import Derived.WalkLawsBesides
import Derived.WalkSpells
import Derived.Deep.DeepCutAuto
import Derived.BigQuiet
import Derived.Test.YtdiecmkpbadgjaaGreatDoorProg
import Derived.Shelf.Abstract
import Derived.Lib.Overlaps
import Derived.Deep.RegionLaw
import Derived.Lib.AppendZerosOnto
set_option linter.all false
set_option maxRecDepth 100000
set_option maxHeartbeats 2000000
namespace Go.Proofs.YtdiecmkpbadgjaaGreatDoor
def Yd(p:Prop):Prop:=p
theorem Yd.o{p:Prop}(h:Yd p):p:=h
theorem Yd.out{p:Prop}(h:Yd p):p:=h
theorem hY{p:Prop}(h:p):Yd p:=h
theorem Yb{p q:Prop}(a:p)(b:q):Yd p/\Yd q:=⟨a,b⟩
theorem Yc{p q r:Prop}(a:p)(b:q)(c:r):Yd p/\Yd q/\Yd r:=⟨a,b,c⟩
theorem Ye{p q r s:Prop}(a:p)(b:q)(c:r)(d:s):Yd p/\Yd q/\Yd r/\Yd s:=⟨a,b,c,d⟩
theorem Yf{p q r s t:Prop}(a:p)(b:q)(c:r)(d:s)(e:t):Yd p/\Yd q/\Yd r/\Yd s/\Yd t:=⟨a,b,c,d,e⟩
theorem Yg{p q r s t u:Prop}(a:p)(b:q)(c:r)(d:s)(e:t)(f:u):Yd p/\Yd q/\Yd r/\Yd s/\Yd t/\Yd u:=⟨a,b,c,d,e,f⟩
theorem Yh{p q r s t u v:Prop}(a:p)(b:q)(c:r)(d:s)(e:t)(f:u)(g:v):Yd p/\Yd q/\Yd r/\Yd s/\Yd t/\Yd u/\Yd v:=⟨a,b,c,d,e,f,g⟩
theorem oM{p:Prop}(h:p:=by omega):p:=h
theorem oN{p:Prop}(h:p:=by decide):p:=h
theorem kM{p:Prop}(h:p:=by kernel_rfl):p:=h
theorem oO{p:Prop}(h:p:=by simp):p:=h
instance zA:Coe Nat Addr:=⟨λb=>⟨b,0,none⟩⟩
instance zN:Coe Nat Value:=⟨λn=>.int .i64 n⟩
instance zI:Coe Int Value:=⟨.int .i64⟩
instance zB:Coe Bool Value:=⟨.bool⟩
instance zS:Coe ByteArray Value:=⟨.string⟩
instance zW:Coe World Nat:=⟨λw=>w.heap.size⟩
open Go.Proofs.Tryz
open Go.RowKit
abbrev eH:=@if_pos
abbrev ab:=@Nat.lt_of_lt_of_le
abbrev ac:=@List.getElem?_eq_getElem
abbrev ae:=@List.getElem?_eq_some_iff
abbrev ai:=@List.setIfInBounds_toArray
abbrev aj:=@List.length_append
abbrev ak:=@Nat.le_trans
abbrev am:=@List.mem_of_getElem?
abbrev an:=@List.set_cons_zero
abbrev ao:=@Nat.le_refl
abbrev ap:=@List.set_cons_succ
abbrev aq:=@List.length_map
abbrev ar:=@List.getElem?_map
abbrev au:=@List.eq_nil_of_length_eq_zero
abbrev av:=@List.length_take
abbrev aw:=@List.length_drop
abbrev az:=@Array.getElem?_eq_some_iff
abbrev aA:=@Nat.zero_le
abbrev aB:=@List.map_append
abbrev aC:=@List.length_cons
abbrev aD:=@Nat.zero_add
abbrev aE:=@List.drop_eq_getElem_cons
abbrev aF:=@List.mem_cons_self
abbrev aG:=@List.nil_append
abbrev aH:=@List.mem_cons
abbrev aI:=@List.getElem?_eq_none
abbrev aJ:=@List.take_add_one
abbrev aK:=@ByteArray.size_append
abbrev aL:=@Array.length_toList
abbrev aM:=@List.cons_append
abbrev aN:=@List.mem_of_mem_drop
abbrev aO:=@List.mem_append
abbrev aP:=@List.getElem?_append_right
abbrev aQ:=@List.flatMap_append
abbrev aR:=@List.take_length
abbrev aS:=@List.mem_cons_of_mem
abbrev aT:=@List.append_assoc
abbrev aU:=@List.append_nil
abbrev aV:=@List.mem_singleton
abbrev aW:=@List.take_of_length_le
abbrev aX:=@List.take_append_drop
abbrev aY:=@Bool.eq_false_or_eq_true
abbrev aZ:=@List.flatMap_cons
abbrev ba:=@List.mem_of_mem_take
abbrev bc:=@List.getElem?_drop
abbrev be:=@List.pairwise_cons
abbrev bg:=@List.length_nil
abbrev bj:=@List.take_append_of_le_length
abbrev bm:=@List.size_toArray
abbrev bn:=@List.map_cons
abbrev bp:=@List.take_succ_cons
abbrev bq:=@Bool.and_eq_true
abbrev br:=@List.getElem?_take
abbrev bu:=@List.getElem?_append_left
abbrev bv:=@Nat.le_of_lt_succ
abbrev bz:=@List.getElem?_of_mem
abbrev bA:=@List.length_singleton
abbrev bB:=@List.filter_cons
abbrev bC:=@List.length_range
abbrev bD:=@List.length_filter_le
abbrev bE:=@Array.replicate_succ
abbrev bF:=@Array.replicate_zero
abbrev bG:=@List.append_toArray
abbrev bH:=@Nat.add_assoc
abbrev bI:=@List.ext_getElem?
abbrev bJ:=@List.map_nil
abbrev bK:=@Option.map_some
abbrev bL:=@List.not_mem_nil
abbrev bM:=@List.push_toArray
abbrev bN:=@List.drop_eq_nil_iff
abbrev bO:=@List.mem_of_getLast?
abbrev bP:=@List.filter_append
abbrev bQ:=@List.mem_filter
abbrev bR:=@Nat.min_eq_left
abbrev bS:=@List.getElem?_take_of_lt
abbrev bT:=@Array.getElem?_toList
abbrev bU:=@List.pairwise_map
abbrev bV:=@Bool.false_eq_true
abbrev bW:=@ByteArray.size_extract
abbrev bX:=@List.drop_eq_nil_of_le
abbrev bY:=@List.mem_map
abbrev bZ:=@Nat.le_of_lt
abbrev cd:=@List.toList_toArray
abbrev ce:=@List.length_set
abbrev cf:=@List.length_eq_zero_iff
abbrev cg:=@Nat.mul_le_mul_right
abbrev ci:=@List.set_eq_take_append_cons_drop
abbrev cm:=@Bool.not_eq_true'
abbrev cp:=@List.tail_cons
abbrev cq:=@List.take_zero
abbrev ct:=@Nat.add_zero
abbrev cu:=@Nat.sub_self
abbrev cz:=@Array.getElem?_eq_getElem
abbrev cA:=@List.mem_or_eq_of_mem_set
abbrev cE:=@Nat.zero_mul
abbrev cF:=@List.pairwise_append
abbrev cG:=@Nat.le_succ
abbrev cH:=@List.prefix_iff_eq_take
abbrev cJ:=@List.filter_sublist
abbrev cN:=@List.map_map
abbrev cO:=@List.map_drop
abbrev cQ:=@List.drop_length
abbrev cR:=@List.mem_flatMap
abbrev cT:=@List.isPrefixOf_iff_prefix
abbrev cU:=@List.take_take
abbrev cV:=@Bool.and_eq_false_iff
abbrev cW:=@List.getLast?_eq_none_iff
abbrev cY:=@Nat.not_succ_le_self
abbrev cZ:=@List.map_take
abbrev da:=@Nat.lt_irrefl
abbrev db:=@Option.isSome_iff_exists
abbrev dd:=@List.map_eq_nil_iff
abbrev de:=@List.mem_map_of_mem
abbrev df:=@List.getElem?_set_self
abbrev dg:=@List.headD_cons
abbrev dh:=@Array.getElem?_modify
abbrev di:=@List.Pairwise.sublist
abbrev dj:=@List.drop_length_add_append
abbrev dm:=@List.dropLast_subset
abbrev dn:=@List.drop_zero
abbrev dq:=@List.getD_eq_getElem?_getD
abbrev dt:=@List.getElem?_mapIdx
abbrev du:=@List.getElem?_set_ne
abbrev dv:=@Nat.sub_mul
abbrev dw:=@List.all_eq_true
abbrev dx:=@List.map_toArray
abbrev dy:=@Nat.le_add_right
abbrev dz:=@Nat.lt_succ_self
abbrev dA:=@List.takeWhile_cons
abbrev dB:=@Option.any_some
abbrev dC:=@List.getElem?_cons_zero
abbrev dD:=@Nat.mul_one
abbrev dE:=@Option.bind_eq_some_iff
abbrev dG:=@Array.size_append
abbrev dH:=@List.map_set
abbrev dI:=@List.take_left
abbrev dJ:=@Option.map_eq_some_iff
abbrev dK:=@List.cons_lt_cons_iff
abbrev dL:=@List.set_append_right
abbrev dM:=@List.singleton_append
abbrev dN:=@List.sizeOf_lt_of_mem
abbrev dO:=@Array.toList_inj
abbrev dP:=@List.prefix_refl
abbrev dQ:=@Option.bind_some
abbrev dR:=@Option.getD_some
abbrev dS:=@Bool.or_eq_false_iff
abbrev dU:=@Nat.min_def
abbrev dV:=@List.foldl_cons
abbrev dW:=@List.sum_append
abbrev dX:=@Array.toList_append
abbrev dY:=@List.drop_succ_cons
abbrev dZ:=@List.replicate_succ
abbrev d9:=@Nat.lt_or_ge
abbrev ec:=@Option.toList_some
abbrev ed:=@List.drop_sublist
abbrev ee:=@List.foldl_append
abbrev ef:=@Nat.le_succ_of_le
abbrev eh:=@List.sum_cons
abbrev ej:=@Nat.mul_comm
abbrev em:=@Bool.or_eq_true
abbrev eu:=@List.all_append
abbrev ew:=@Nat.not_lt_zero
abbrev ey:=@Option.any_none
abbrev ez:=@Bool.not_false
abbrev eA:=@List.drop_drop
abbrev eB:=@Nat.add_mul
abbrev eC:=@Prod.ext
abbrev eD:=@Bool.false_or
section
variable{P : Program}{ops : Array Oper}{Q : Exit -> Act -> World -> Prop}{md : Region.Mode}{S : World -> Prop}
theorem Qk8{i:Nat}{Z:Oper}{d:Option Tmp}{v:Value}{N:Nat}{I:Array Bool}{a:Act}{w:World}(hi:ops[i]? = some Z)(hd:Z.dst=d)
  (hs:Region.noSelect ops=true) (hf:Region.free md ops I i=true) (hr:(Region.ready md ops I).contains i=true)
  (hQ:∀c a w,Q (.panic c) (a.put d v) w->Q (.panic c) a w) (hw:Region.wanted Z (yielded ops a.tmps)=true) (hS:S w) (hy:∀w,S w->(execOp a.eval Z).run P w=.ok (.value v) w)
  (h:wpAnyH P md ops Q S N (I.setIfInBounds i true) (a.put d v) w):wpAnyH P md ops Q S (N+1) I a w:=by
 subst hd;exact wpAnyH_take hi hs hf hr hQ (.inl ⟨hw,hy⟩) hS h
theorem Qrt{i:Nat}{Z:Oper}{d:Option Tmp}{N:Nat}{I:Array Bool}{a:Act}{w:World}(hi:ops[i]? = some Z)(hd:Z.dst=d)
  (hs:Region.noSelect ops=true) (hf:Region.free md ops I i=true) (hr:(Region.ready md ops I).contains i=true)
  (hQ:∀c a w,Q (.panic c) (a.put d undef) w->Q (.panic c) a w) (hw:Region.wanted Z (yielded ops a.tmps)=false) (hS:S w)
  (h:wpAnyH P md ops Q S N (I.setIfInBounds i true) (a.put d undef) w):wpAnyH P md ops Q S (N+1) I a w:=by
 subst hd;exact wpAnyH_take hi hs hf hr hQ (.inr ⟨hw,rfl⟩) hS h
theorem Qac{i:Nat}{oi:Oper}{N:Nat}{I:Array Bool}{a:Act}{w:World}(hr:Region.ready md ops I=[i])(hi:ops[i]? = some oi)(hw:Region.wanted oi (yielded ops a.tmps)=true)
  (h:∀Z:Act->World->Prop,Shut (∀a w,S w->(S w->wpAnyH P md ops Q S N (I.setIfInBounds i true) a w)->Z a w)->Oper.wp P oi a w Z Q):wpAnyH P md ops Q S (N+1) I a w:=
 wpAnyH_ready hr oO (AllReadyH.cons hi (λZ hK=>by rw[eH hw];exact h Z hK) AllReadyH.nil)
end
section
variable{P : Program}{ops : Array Oper}{Q : Exit -> Act -> World -> Prop}{md : Region.Mode}{S C : World -> Prop}
theorem QfN(i:Nat)(d:Option Tmp){Z:Oper}{N:Nat}{I l':Array Bool}{a a':Act}{w:World}(hS:S w)(h:wpAnyH P md ops Q S N l' a' w)
  (hi:ops[i]? = some Z:=by rfl) (hd:Z.dst=d:=by rfl) (hs:Region.noSelect ops=true:=by kernel_rfl) (hf:Region.free md ops I i=true:=by kernel_rfl) (hr:(Region.ready md ops I).contains i=true:=by kernel_rfl)
  (hQ:∀c a w,Q (.panic c) (a.put d undef) w->Q (.panic c) a w:=by exactλ_ _ _ h=>h) (hw:Region.wanted Z (yielded ops a.tmps)=false:=by rfl)
  (hl:I.setIfInBounds i true=l':=by first |(simp only[List.setIfInBounds_toArray,List.set_cons_zero,List.set_cons_succ];rfl)|rfl)
  (hp:a.put d undef=a':=by first |(go_frame;rfl)|rfl):wpAnyH P md ops Q S (N+1) I a w:=by
 subst hl hp;exact Qrt hi hd hs hf hr hQ hw hS h
theorem Qaf(i:Nat)(d:Option Tmp){v:Value}{Z:Oper}{N:Nat}{I l':Array Bool}{a a':Act}{w:World}(hC:Yd (∀W,S W->C W))(hS:S w)(h:wpAnyH P md ops Q S N l' a' w)
  (hi:ops[i]? = some Z:=by rfl) (hd:Z.dst=d:=by rfl) (hs:Region.noSelect ops=true:=by kernel_rfl) (hf:Region.free md ops I i=true:=by kernel_rfl) (hr:(Region.ready md ops I).contains i=true:=by kernel_rfl)
  (hy:∀w,C w->(execOp a.eval Z).run P w=.ok (.value v) w:=by(intro w a0;go_simp;first|done|with_reducible rfl))
  (hQ:∀c a w,Q (.panic c) (a.put d v) w->Q (.panic c) a w:=by exactλ_ _ _ h=>h) (hw:Region.wanted Z (yielded ops a.tmps)=true:=by rfl)
  (hl:I.setIfInBounds i true=l':=by first |(simp only[List.setIfInBounds_toArray,List.set_cons_zero,List.set_cons_succ];rfl)|rfl)
  (hp:a.put d v=a':=by first |(go_frame;rfl)|rfl):wpAnyH P md ops Q S (N+1) I a w:=by
 subst hl hp;exact Qk8 hi hd hs hf hr hQ hw hS (λw hw=>hy w (hC.out w hw)) h
theorem Qar(i:Nat)(d:Option Tmp){v:Value}{Z:Oper}{N:Nat}{I l':Array Bool}{a a':Act}{w:World}(hS:S w)(h:wpAnyH P md ops Q S N l' a' w)
  (hi:ops[i]? = some Z:=by rfl) (hd:Z.dst=d:=by rfl) (hs:Region.noSelect ops=true:=by kernel_rfl) (hf:Region.free md ops I i=true:=by kernel_rfl) (hr:(Region.ready md ops I).contains i=true:=by kernel_rfl)
  (hy:∀w,S w->(execOp a.eval Z).run P w=.ok (.value v) w:=by(intro w a0;(try dsimp only at a0);go_simp;first|done|with_reducible rfl))
  (hQ:∀c a w,Q (.panic c) (a.put d v) w->Q (.panic c) a w:=by exactλ_ _ _ h=>h) (hw:Region.wanted Z (yielded ops a.tmps)=true:=by rfl)
  (hl:I.setIfInBounds i true=l':=by first |(simp only[List.setIfInBounds_toArray,List.set_cons_zero,List.set_cons_succ];rfl)|rfl)
  (hp:a.put d v=a':=by first |(go_frame;rfl)|rfl):wpAnyH P md ops Q S (N+1) I a w:=by
 subst hl hp;exact Qk8 hi hd hs hf hr hQ hw hS hy h
end
section
variable{P : Program}{ops : Array Oper}{Q : Exit -> Act -> World -> Prop}{md : Region.Mode}{S : World -> Prop}
theorem Qix{i j:Nat}{oi oj:Oper}{N:Nat}{I:Array Bool}{a:Act}{w:World}(hr:Region.ready md ops I=[i,j])(hi:ops[i]? = some oi)(hj:ops[j]? = some oj)(hw:Region.wanted oi (yielded ops a.tmps)=true)(hv:Region.wanted oj (yielded ops a.tmps)=true)
  (h:∀Z:Act->World->Prop,Shut (∀a w,S w->(S w->wpAnyH P md ops Q S N (I.setIfInBounds i true) a w)->Z a w)->Oper.wp P oi a w Z Q)
  (h':∀Z:Act->World->Prop,Shut (∀a w,S w->(S w->wpAnyH P md ops Q S N (I.setIfInBounds j true) a w)->Z a w)->Oper.wp P oj a w Z Q):wpAnyH P md ops Q S (N+1) I a w:=
 wpAnyH_ready hr oO (AllReadyH.cons hi (λZ hK=>by rw[eH hw];exact h Z hK) (AllReadyH.cons hj (λZ hK=>by rw[eH hv];exact h' Z hK) AllReadyH.nil))
end
section
variable{P : Program}{ops : Array Oper}{Q : Exit -> Act -> World -> Prop}{md : Region.Mode}{S : World -> Prop}
inductive Tag:Nat->Prop
 |mk (n:Nat):Tag n
theorem Qrr(i:Nat){Z:Oper}{N:Nat}{I:Array Bool}{a:Act}{w:World}
  (h:∀K':Act->World->Prop,Tag i->Shut (∀a w,S w->(S w->wpAnyH P md ops Q S N (I.setIfInBounds i true) a w)->K' a w)->Oper.wp P Z a w K' Q)
  (hr:Region.ready md ops I=[i]:=by kernel_rfl) (hi:ops[i]? = some Z:=by rfl) (hw:Region.wanted Z (yielded ops a.tmps)=true:=by rfl):wpAnyH P md ops Q S (N+1) I a w:=
 Qac hr hi hw λK hK=>h K (.mk i) hK
theorem Quj(i j:Nat){oi oj:Oper}{N:Nat}{I:Array Bool}{a:Act}{w:World}
  (h:∀Z:Act->World->Prop,Tag i->Shut (∀a w,S w->(S w->wpAnyH P md ops Q S N (I.setIfInBounds i true) a w)->Z a w)->Oper.wp P oi a w Z Q)
  (h':∀Z:Act->World->Prop,Tag j->Shut (∀a w,S w->(S w->wpAnyH P md ops Q S N (I.setIfInBounds j true) a w)->Z a w)->Oper.wp P oj a w Z Q)
  (hr:Region.ready md ops I=[i,j]:=by kernel_rfl) (hi:ops[i]? = some oi:=by rfl) (hj:ops[j]? = some oj:=by rfl) (hw:Region.wanted oi (yielded ops a.tmps)=true:=by rfl) (hv:Region.wanted oj (yielded ops a.tmps)=true:=by rfl):wpAnyH P md ops Q S (N+1) I a w:=
 Qix hr hi hj hw hv (λK hK=>h K (.mk i) hK) λK hK=>h' K (.mk j) hK
end
abbrev eE:=@if_neg
abbrev eK:=@World.size_alloc
abbrev eY:=@Below.heap_alloc
abbrev fb:=@World.cell?_of_block
abbrev fc:=@World.cell?_setCell_same
abbrev fh:=@Below.heap_setCell
abbrev fB:=@cell_of_row
abbrev fI:=@heap_alloc_new
abbrev fM:=@lt_of_block
structure Ext(w w':World):Prop where
 below:Below w.heap.size w w'
 free:∀b o,w.heap.size<=b->w'.frozen? ⟨b,o,none⟩=false
variable{w:World}
theorem frozen_none{b o:Nat}(h:w<=b):w.frozen? ⟨b,o,none⟩=false:=by
 have:w.heap[b]? = none:=by simp;omega
 simp[World.frozen?,this]
theorem Ext.refl(w:World):Ext w w:=⟨Below.refl _ _,λ_ _ h=>frozen_none h⟩
variable{w':World}
theorem Ext.size(h:Ext w w'):w.heap.size<=w'.heap.size:=h.below.size
theorem Ext.trans{a b c:World}(h:Ext a b)(k:Ext b c):Ext a c:=by
 refine⟨h.below.trans (k.below.mono h.size),λi o hi=>?_⟩;rcases d9 i b.heap.size with I|I
 .rw [k.below.frozen (p:=⟨i,o,none⟩) I];exact h.free i o hi
 exact k.free i o I
theorem Ext.drew{a w:World}(h:Ext a w):Ext a w.drew:=⟨h.below.drew,λb o I=>h.free b o I⟩
theorem Ext.drewN{a w:World}(h:Ext a w)(n:Nat):Ext a (w.drewN n):=⟨below_drewN h.below n,λb o I=>h.free b o I⟩
theorem Ext.alloc{a w:World}(h:Ext a w)(c:Array Value)(t:TypeId):Ext a (w.alloc (.cells c t)):=by
 refine h.trans ⟨(Below.refl _ _).alloc (ao _) _,λb o N=>?_⟩;by_cases I:b=w.heap.size
 .subst I;simp
 exact frozen_none (by simp;omega)
theorem Ext.setCell{a w:World}(h:Ext a w){p:Addr}(I:a.heap.size<=p.block)(u:Value):Ext a (w.setCell p u):=
 ⟨h.below.setCell I u,λb o N=>by rw[World.frozen?_setCell];exact h.free b o N⟩
theorem Ext.cell(h:Ext w w'){b o:Nat}(I:b<w):w'.cell? ⟨b,o,none⟩=w.cell? ⟨b,o,none⟩:=h.below.cell (p:=⟨b,o,none⟩) I
theorem Ext.frozen(h:Ext w w'){b o:Nat}(I:b<w):w'.frozen? ⟨b,o,none⟩=w.frozen? ⟨b,o,none⟩:=h.below.frozen (p:=⟨b,o,none⟩) I
theorem Ext.heap(h:Ext w w'){b:Nat}(I:b<w):w'.heap[b]? = w.heap[b]?:=h.below.block b I
theorem Ext.olds(h:Ext w w'):(∀b o,b<w.heap.size->w'.cell? ⟨b,o,none⟩=w.cell? ⟨b,o,none⟩)/\(∀b o,b<w.heap.size->w'.frozen? ⟨b,o,none⟩=w.frozen? ⟨b,o,none⟩):=
 ⟨λ_ _ I=>h.cell I,λ_ _ I=>h.frozen I⟩
def Agree(F:Nat->Prop)(w w':World):Prop:=∀b,F b->w'.heap[b]? = w.heap[b]?
variable{F:Nat->Prop}
theorem Agree.cell(h:Agree F w w'){b o:Nat}(I:F b):w'.cell? ⟨b,o,none⟩=w.cell? ⟨b,o,none⟩:=fb (w:=w) (a:=⟨b,o,none⟩) (h b I)
variable{B:Nat}
theorem Agree.of_below(h:Below B w w')(hF:∀b,F b->b<B):Agree F w w':=λb I=>h.block b (hF b I)
theorem Ext.agree(h:Ext w w')(hF:∀b,F b->b<w.heap.size):Agree F w w':=Agree.of_below h.below hF
theorem Agree.setCell{F:Nat->Prop}(w:World)(p:Addr)(u:Value)(I:¬F p.block):Agree F w (w.setCell p u):=λb N=>fh w p u b (λe=>I (e▸N))
theorem Agree.alloc(w:World)(o:Obj)(hF:∀b,F b->b<w.heap.size):Agree F w (w.alloc o):=λb I=>eY w o b (hF b I)
theorem Agree.drewN(w:World)(n:Nat):Agree F w (w.drewN n):=λ_ _=>rfl
theorem Agree.trans{a b c:World}(h:Agree F a b)(k:Agree F b c):Agree F a c:=λi hi=>(k i hi).trans (h i hi)
theorem Agree.refl(w:World):Agree F w w:=λ_ _=>rfl
variable{G:Nat->Prop}
theorem Agree.mono{a b:World}(h:Agree F a b)(I:∀i,G i->F i):Agree G a b:=λi hi=>h i (I i hi)
abbrev Lt(n:Nat):Nat->Prop:=λb=>b<n
abbrev In(m n:Nat):Nat->Prop:=λb=>m<=b/\b<n
structure Sl where
 a:Option Addr
 c:Nat
abbrev Sl.none:Sl:=⟨Option.none,0⟩
inductive Qd5 (F:Nat->Prop):Sl->Nat->Nat->Nat->Prop
 |nil (b o:Nat):Qd5 F ⟨Option.none,0⟩ 0 b o
 |some (n c b o:Nat) (h:n<=c) (hc:c<=maxLen) (hb:F b):Qd5 F ⟨Option.some ⟨b,o,Option.none⟩,c⟩ n b o
 |zero (a:Addr) (b o:Nat):Qd5 F ⟨Option.some a,0⟩ 0 b o
theorem Qd5.mono{v:Sl}{n b o:Nat}(h:Qd5 F v n b o)(I:∀i,F i->G i):Qd5 G v n b o:=by
 cases h with
 |nil=>exact .nil _ _
 |some _ c _ _ h hc hb=>exact .some _ c _ _ h hc (I _ hb)
 |zero a=>exact .zero a _ _
theorem Qd5.fits{v:Sl}{n b o:Nat}(h:Qd5 F v n b o)(I:0<n):F b:=by
 cases h with
 |nil=>omega
 |some _ c _ _ h hc hb=>exact hb
 |zero a=>omega
theorem Qd5.eq{v:Sl}{n b o:Nat}(h:Qd5 F v n b o)(I:0<n):v.a=Option.some ⟨b,o,Option.none⟩/\n<=v.c/\v.c<=maxLen:=by
 cases h with
 |nil=>omega
 |some _ c _ _ h hc hb=>exact⟨rfl,h,hc⟩
 |zero a=>omega
inductive Val where
 |mk (kind:Int) (b:Bool) (i:Int) (t:ByteArray) (l:List Val) (ok:List ByteArray) (ov:List Val)
def Val.kind:Val->Int | .mk k _ _ _ _ _ _=>k
def Val.b:Val->Bool | .mk _ b _ _ _ _ _=>b
def Val.i:Val->Int | .mk _ _ i _ _ _ _=>i
def Val.t:Val->ByteArray | .mk _ _ _ t _ _ _=>t
def Val.l:Val->List Val | .mk _ _ _ _ l _ _=>l
def Val.ok:Val->List ByteArray | .mk _ _ _ _ _ ok _=>ok
def Val.ov:Val->List Val | .mk _ _ _ _ _ _ ov=>ov
theorem Val.Qb6(d:Val):0<SizeOf.sizeOf d:=by cases d;simp only[Val.mk.sizeOf_spec];omega
variable{j:Nat}
theorem Val.QtM{k:Int}{b:Bool}{i:Int}{t:ByteArray}{l:List Val}{ok:List ByteArray}{ov:List Val}{d:Val}(h:l[j]? = some d):SizeOf.sizeOf d<SizeOf.sizeOf (Val.mk k b i t l ok ov):=by
 have:=dN (am h);simp only[Val.mk.sizeOf_spec];omega
theorem Val.QtN{k:Int}{b:Bool}{i:Int}{t:ByteArray}{l:List Val}{ok:List ByteArray}{ov:List Val}{d:Val}(h:ov[j]? = some d):SizeOf.sizeOf d<SizeOf.sizeOf (Val.mk k b i t l ok ov):=by
 have:=dN (am h);simp only[Val.mk.sizeOf_spec];omega
structure QaV(w:World)(b o:Nat)(d:Val)(sl so:Sl):Prop where
 c0:w.cell? ⟨b,o,none⟩=some (.int .i64 d.kind)
 c1:w.cell? ⟨b,o+1,none⟩=some (.bool d.b)
 c2:w.cell? ⟨b,o+2,none⟩=some (.int .i64 d.i)
 c3:w.cell? ⟨b,o+3,none⟩=some (.string d.t)
 c4:w.cell? ⟨b,o+4,none⟩=some (.slice sl.a d.l.length sl.c)
 c5:w.cell? ⟨b,o+5,none⟩=some (.slice so.a d.ok.length so.c)
variable{sl so:Sl}
theorem QaV.agree{b o:Nat}{d:Val}(h:QaV w b o d sl so)(N:Agree F w w')(I:F b):QaV w' b o d sl so:=
 ⟨(N.cell I).trans h.c0,(N.cell I).trans h.c1,(N.cell I).trans h.c2,(N.cell I).trans h.c3,(N.cell I).trans h.c4,(N.cell I).trans h.c5⟩
inductive RV (w:World) (F:Nat->Prop):Val->Sl->Sl->Prop
 |mk {kind:Int} {b:Bool} {i:Int} {t:ByteArray} {l:List Val} {ok:List ByteArray} {ov:List Val} {sl so:Sl} (bl fl bo fo:Nat) (cl co:Nat->Sl × Sl)
    (hl:Qd5 F sl l.length bl fl) (ho:Qd5 F so ok.length bo fo) (hov:ov.length=ok.length)
    (el:∀j d,l[j]? = some d->QaV w bl (fl+j*6) d (cl j).1 (cl j).2)
    (rl:∀j d,l[j]? = some d->RV w F d (cl j).1 (cl j).2)
    (ek:∀j k,ok[j]? = some k->w.cell? ⟨bo,fo+j*7,none⟩=some (.string k)/\k.size<=maxLen)
    (eo:∀j d,ov[j]? = some d->QaV w bo (fo+j*7+1) d (co j).1 (co j).2)
    (ro:∀j d,ov[j]? = some d->RV w F d (co j).1 (co j).2)
    (bk:(Lit.int .i64 kind).wf=true) (bi:(Lit.int .i64 i).wf=true) (bt:t.size<=maxLen)
    (nl:l.length*88<=140737488355328) (no:ok.length*104<=140737488355328):RV w F (.mk kind b i t l ok ov) sl so
theorem QaW{α:Type}{l:List α}{d:α}(h:l[j]? = some d):0<l.length:=Nat.lt_of_le_of_lt (aA _) (ae.1 h).1
theorem RV.agree{d:Val}(h:RV w F d sl so)(N:Agree F w w'):RV w' F d sl so:=by
 induction h with
 | mk bl fl bo fo cl co hl ho hov el rl ek eo ro bk bi bt nl no ihl iho=>
   exact .mk bl fl bo fo cl co hl ho hov (λj d I=>(el j d I).agree N (hl.fits (QaW I))) (λj d I=>ihl j d I) (λj k I=>⟨(N.cell (ho.fits (QaW I))).trans (ek j k I).1,(ek j k I).2⟩)
    (λj d I=>(eo j d I).agree N (ho.fits (hov▸QaW I))) (λj d I=>iho j d I) bk bi bt nl no
theorem RV.mono{d:Val}(h:RV w F d sl so)(N:∀i,F i->G i):RV w G d sl so:=by
 induction h with
 | mk bl fl bo fo cl co hl ho hov el rl ek eo ro bk bi bt nl no ihl iho=>
   exact .mk bl fl bo fo cl co (hl.mono N) (ho.mono N) hov el (λj d I=>ihl j d I) ek eo (λj d I=>iho j d I) bk bi bt nl no
theorem RV.ext{d:Val}(h:RV w F d sl so)(I:Ext w w')(hF:∀b,F b->b<w.heap.size):RV w' F d sl so:=h.agree (I.agree hF)
structure RVC(w:World)(F:Nat->Prop)(d:Val)(sl so:Sl):Prop where
 rv:RV w F d sl so
 cap:sl.c=d.l.length
theorem RVC.agree{d:Val}(h:RVC w F d sl so)(I:Agree F w w'):RV w' F d sl so:=h.rv.agree I
theorem RVC.mono{d:Val}(h:RVC w F d sl so)(I:∀i,F i->G i):RV w G d sl so:=h.rv.mono I
structure RL(w:World)(F:Nat->Prop)(b o:Nat)(l:List Val)(c:Nat->Sl × Sl):Prop where
 cells:∀j d,l[j]? = some d->QaV w b (o+j*6) d (c j).1 (c j).2
 reads:∀j d,l[j]? = some d->RV w F d (c j).1 (c j).2
structure RO(w:World)(F:Nat->Prop)(b o:Nat)(ok:List ByteArray)(ov:List Val)(c:Nat->Sl × Sl):Prop where
 keys:∀j k,ok[j]? = some k->w.cell? ⟨b,o+j*7,none⟩=some (.string k)/\k.size<=maxLen
 cells:∀j d,ov[j]? = some d->QaV w b (o+j*7+1) d (c j).1 (c j).2
 reads:∀j d,ov[j]? = some d->RV w F d (c j).1 (c j).2
def Qap(wr:World)(B t size n:Nat):Prop:=∃arr,wr.heap[B]? = some (.cells arr t (0,0))/\arr.size=n*size
theorem Qap.agree{B t size n:Nat}(h:Qap w B t size n)(N:Agree F w w')(hF:F B):Qap w' B t size n:=by
 obtain⟨I,h1,h2⟩:=h;exact⟨I,(N B hF).trans h1,h2⟩
theorem Qap.lt{B t size n:Nat}(h:Qap w B t size n):B<w.heap.size:=by obtain⟨I,h1,_⟩:=h;exact fM h1
theorem Qap.frozen{B t size n:Nat}(h:Qap w B t size n)(o:Nat):w.frozen? ⟨B,o,none⟩=false:=by
 obtain⟨I,h1,h2⟩:=h;simp[World.frozen?,h1]
variable{o:Nat}
theorem Qap.cell{B t size n:Nat}(h:Qap w B t size n)(N:o<n*size):∃v,w.cell? ⟨B,o,none⟩=some v:=by
 obtain⟨I,h1,h2⟩:=h;exact⟨I[o]' oM,by rw[fB w B o I t (0,0) h1];simp⟩
theorem Qap.setCell{B t size n:Nat}(h:Qap w B t size n)(p:Addr)(u:Value):Qap (w.setCell p u) B t size n:=by
 obtain⟨I,h1,h2⟩:=h;by_cases N:B=p.block
 ·subst N
  refine⟨if p.spot.isSome then I else I.setIfInBounds p.off u,?_,?_⟩
  .simp [World.setCell,Array.getElem?_modify,h1]
  split<;>simp[h2]
 exact⟨I,(fh w p u B N).trans h1,h2⟩
def Blk(w:World)(g:Nat)(t:TypeId)(cs:Array Value):Prop:=w.heap[g]? = some (.cells cs t (0,0))
section
variable{w w' : World}{g : Nat}{t : TypeId}{cs : Array Value}
theorem Blk.lt(h:Blk w g t cs):g<w:=fM h
theorem Blk.cell(h:Blk w g t cs)(i:Nat):w.cell? ⟨g,i,none⟩=cs[i]?:=fB w g i cs t (0,0) h
theorem Blk.frozen(h:Blk w g t cs)(i:Nat):w.frozen? ⟨g,i,none⟩=false:=by
 unfold Blk at h;simp[World.frozen?,h]
theorem Blk.new(w:World)(t:TypeId)(cs:Array Value):Blk (w.alloc (.cells cs t)) w.heap.size t cs:=fI w _
theorem Blk.QbH(h:Blk w g t cs)(i:Nat)(u:Value):Blk (w.setCell ⟨g,i,none⟩ u) g t (cs.setIfInBounds i u):=by
 unfold Blk at h ⊢;simp[World.setCell,Array.getElem?_modify,h]
theorem Blk.agree(h:Blk w g t cs){F:Nat->Prop}(I:Agree F w w')(hF:F g):Blk w' g t cs:=(I g hF).trans h
theorem Blk.ext(h:Blk w g t cs)(I:Ext w w'):Blk w' g t cs:=(I.heap h.lt).trans h
theorem Blk.alloc(h:Blk w g t cs)(o:Obj):Blk (w.alloc o) g t cs:=(eY w o g h.lt).trans h
theorem Blk.far(h:Blk w g t cs){p:Addr}(I:g≠p.block)(u:Value):Blk (w.setCell p u) g t cs:=(fh w p u g I).trans h
theorem Blk.c6{v0 I Z v3 v4 N:Value}(h:Blk w g t #[v0,I,Z,v3,v4,N]):w.cell? g=some v0/\w.cell? ⟨g,1,none⟩=some I/\w.cell? ⟨g,2,none⟩=some Z/\w.cell? ⟨g,3,none⟩=some v3/\w.cell? ⟨g,4,none⟩=some v4/\w.cell? ⟨g,5,none⟩=some N:=
 ⟨h.cell 0,h.cell 1,h.cell 2,h.cell 3,h.cell 4,h.cell 5⟩
end
theorem Qal(w:World)(N t1 t2:TypeId)(I Z c2:Array Value):∀W,((w.alloc (.cells I N)).alloc (.cells Z t1)).alloc (.cells c2 t2)=W->
  Ext w W/\W.heap.size=w.heap.size+3/\Blk W w.heap.size N I/\Blk W (w.heap.size+1) t1 Z/\Blk W (w.heap.size+1+1) t2 c2:=by
 rintro W rfl;refine⟨(((Ext.refl w).alloc _ _).alloc _ _).alloc _ _,oO,((Blk.new w N I).alloc _).alloc _,?_,?_⟩
 ·have h:=(Blk.new (w.alloc (.cells I N)) t1 Z).alloc (.cells c2 t2)
  rw[eK]at h;exact h
 have h:=Blk.new ((w.alloc (.cells I N)).alloc (.cells Z t1)) t2 c2;rw[eK,eK]at h;exact h
theorem Qgx(w:World)(t0 t1 t2 t3:TypeId)(N I Z c3:Array Value):∀W,(((w.alloc (.cells N t0)).alloc (.cells I t1)).alloc (.cells Z t2)).alloc (.cells c3 t3)=W->
  Ext w W/\W.heap.size=w.heap.size+4/\Blk W w.heap.size t0 N/\Blk W (w.heap.size+1) t1 I/\Blk W (w.heap.size+1+1) t2 Z/\Blk W (w.heap.size+1+1+1) t3 c3:=by
 rintro W rfl;obtain⟨h1,h2,h3,h4,h5⟩:=Qal w t0 t1 t2 N I Z _ rfl;refine⟨h1.alloc _ _,oO,h3.alloc _,h4.alloc _,h5.alloc _,?_⟩;have h:=Blk.new (((w.alloc (.cells N t0)).alloc (.cells I t1)).alloc (.cells Z t2)) t3 c3;rw[h2]at h;exact h
theorem Qap.of{B t:Nat}{cs:Array Value}{size n:Nat}(h:Blk w B t cs)(hs:cs.size=n*size):Qap w B t size n:=⟨cs,h,hs⟩
theorem Qap.made{t:TypeId}(cs:Array Value){size n:Nat}(h:cs.size=n*size):Qap (w.alloc (.cells cs t)) w.heap.size t size n:=⟨cs,Blk.new w t cs,h⟩
def QdE(w:World)(b o:Nat)(d:Val)(sl so:Sl):World:=
 (((((w.setCell ⟨b,o,none⟩ (.int .i64 d.kind)).setCell ⟨b,o+1,none⟩ (.bool d.b)).setCell ⟨b,o+2,none⟩ (.int .i64 d.i)).setCell ⟨b,o+3,none⟩ (.string d.t)).setCell ⟨b,o+4,none⟩ (.slice sl.a d.l.length sl.c)).setCell ⟨b,o+5,none⟩ (.slice so.a d.ok.length so.c)
theorem Qbm(w:World)(b o:Nat)(d:Val)(sl so:Sl)(hF:¬F b):Agree F w (QdE w b o d sl so):=
 ((((((Agree.refl w).trans (Agree.setCell _ _ _ hF)).trans (Agree.setCell _ _ _ hF)).trans (Agree.setCell _ _ _ hF)).trans (Agree.setCell _ _ _ hF)).trans (Agree.setCell _ _ _ hF)).trans (Agree.setCell _ _ _ hF)
theorem QdF(w:World)(b o:Nat)(d:Val)(sl so:Sl):(QdE w b o d sl so).heap.size=w.heap.size:=by simp[QdE]
theorem Ext.QdE{a w:World}(h:Ext a w){b:Nat}(I:a<=b)(o:Nat)(d:Val)(sl so:Sl):Ext a (QdE w b o d sl so):=
 (((((h.setCell (p:=⟨b,_,none⟩) I _).setCell (p:=⟨b,_,none⟩) I _).setCell (p:=⟨b,_,none⟩) I _).setCell (p:=⟨b,_,none⟩) I _).setCell (p:=⟨b,_,none⟩) I _).setCell (p:=⟨b,_,none⟩) I _
theorem Qap.QdE{B t size n:Nat}(h:Qap w B t size n)(b o:Nat)(d:Val)(sl so:Sl):Qap (QdE w b o d sl so) B t size n:=
 (((((h.setCell _ _).setCell _ _).setCell _ _).setCell _ _).setCell _ _).setCell _ _
theorem Qae(w:World)(b o o':Nat)(u:Value)(h:o≠o'):(w.setCell ⟨b,o,none⟩ u).cell? ⟨b,o',none⟩=w.cell? ⟨b,o',none⟩:=
 World.cell?_setCell_other w _ _ u (λe=>h (congrArg Addr.off e))
theorem Qbz(w:World)(b o:Nat)(d:Val)(sl so:Sl)(o':Nat)(h:o'<o\/o+6<=o'):(QdE w b o d sl so).cell? ⟨b,o',none⟩=w.cell? ⟨b,o',none⟩:=by
 unfold QdE;rw[Qae _ _ _ _ _ oM,Qae _ _ _ _ _ oM,Qae _ _ _ _ _ oM,Qae _ _ _ _ _ oM,Qae _ _ _ _ _ oM,Qae _ _ _ _ _ oM]
theorem Qap.here{B t size n:Nat}(h:Qap w B t size n)(N:o<n*size)(u:Value):(w.setCell ⟨B,o,none⟩ u).cell? ⟨B,o,none⟩=some u:=by
 obtain⟨v,I⟩:=h.cell N;exact fc w _ u I
theorem Qkg{B t size n:Nat}(h:Qap w B t size n)(d:Val)(sl so:Sl)(I:o+6<=n*size):QaV (QdE w B o d sl so) B o d sl so:=by
 unfold QdE;refine⟨?_,?_,?_,?_,?_,?_⟩
 ·rw [Qae _ _ _ _ _ oM,Qae _ _ _ _ _ oM,Qae _ _ _ _ _ oM,Qae _ _ _ _ _ oM,Qae _ _ _ _ _ oM]
  exact h.here oM _
 ·rw [Qae _ _ _ _ _ oM,Qae _ _ _ _ _ oM,Qae _ _ _ _ _ oM,Qae _ _ _ _ _ oM]
  exact(h.setCell _ _).here oM _
 ·rw [Qae _ _ _ _ _ oM,Qae _ _ _ _ _ oM,Qae _ _ _ _ _ oM]
  exact((h.setCell _ _).setCell _ _).here oM _
 ·rw [Qae _ _ _ _ _ oM,Qae _ _ _ _ _ oM]
  exact(((h.setCell _ _).setCell _ _).setCell _ _).here oM _
 ·rw [Qae _ _ _ _ _ oM]
  exact((((h.setCell _ _).setCell _ _).setCell _ _).setCell _ _).here oM _
 exact(((((h.setCell _ _).setCell _ _).setCell _ _).setCell _ _).setCell _ _).here oM _
theorem QaV.other{b o:Nat}{d:Val}(h:QaV w b o d sl so)(o':Nat)(d':Val)(sl' so':Sl)(hd:o+6<=o'\/o'+6<=o):QaV (QdE w b o' d' sl' so') b o d sl so:=
 ⟨(Qbz _ _ _ _ _ _ _ oM).trans h.c0,(Qbz _ _ _ _ _ _ _ oM).trans h.c1,(Qbz _ _ _ _ _ _ _ oM).trans h.c2,(Qbz _ _ _ _ _ _ _ oM).trans h.c3,(Qbz _ _ _ _ _ _ _ oM).trans h.c4,(Qbz _ _ _ _ _ _ _ oM).trans h.c5⟩
structure Qh0(wr:World)(B t:Nat)(l:List Val)(k:Nat)(f:Nat->Sl × Sl):Prop where
 row:Qap wr B t 6 l.length
 cells:∀j d,j<k->l[j]? = some d->QaV wr B (j*6) d (f j).1 (f j).2
 reads:∀j d,j<k->l[j]? = some d->RV wr (In (B+1) wr.heap.size) d (f j).1 (f j).2
theorem Qh0.start{B t:Nat}{l:List Val}(h:Qap w B t 6 l.length)(f:Nat->Sl × Sl):Qh0 w B t l 0 f:=⟨h,λ_ _ h=>absurd h oM,λ_ _ h=>absurd h oM⟩
theorem Qh0.step{wr W:World}{B t k:Nat}{l:List Val}{f:Nat->Sl × Sl}(h:Qh0 wr B t l k f)(hx:Ext wr W){d:Val}(hd:l[k]? = some d)(hr:RV W (In wr.heap.size W.heap.size) d sl so) :
  Qh0 (QdE W B (k*6) d sl so) B t l (k+1) (λj=>if j=k then(sl,so)else f j):=by
 have hB:=h.row.lt;have hk:k<l.length:=(ae.1 hd).1;have Z:Qap W B t 6 l.length:=h.row.agree (F:=Lt wr) (hx.agree λ_ h=>h) hB;refine⟨Z.QdE _ _ _ _ _,λj d' hj I=>?_,λj d' hj I=>?_⟩
 ·by_cases N:j=k
  ·subst N
   obtain rfl:d=d':=by rw[hd]at I;injection I
   simp only[if_pos];exact Qkg Z _ _ _ oM
  simp only[if_neg N];exact((h.cells j d' oM I).agree (F:=Lt wr) (hx.agree λ_ h=>h) hB).other _ _ _ _ oM
 have a0:Agree (In (B+1) W.heap.size) W (QdE W B (k*6) d sl so):=Qbm _ _ _ _ _ _ oM;rw[QdF];by_cases N:j=k
 ·subst N
  obtain rfl:d=d':=by rw[hd]at I;injection I
  simp only[if_pos];exact(hr.mono (λi hi=>⟨oM,hi.2⟩)).agree a0
 simp only[if_neg N];exact(((h.reads j d' oM I).ext hx (λb hb=>hb.2)).mono (λi hi=>⟨hi.1,by have:=hx.size;omega⟩)).agree a0
variable{n:Nat}
theorem Qh0.done{B t:Nat}{l:List Val}{f:Nat->Sl × Sl}(h:Qh0 w B t l l.length f)(I:n<=B):RL w (In n w.heap.size) B 0 l f:=
 ⟨λj d hd=>by rw[aD];exact h.cells j d (ae.1 hd).1 hd,λj d hd=>(h.reads j d (ae.1 hd).1 hd).mono λi hi=>⟨oM,hi.2⟩⟩
theorem QaV.m{b o:Nat}{d:Val}(h:QaV w b (o+1) d sl so):w.cell? ⟨b,o+1,none⟩=some (.int .i64 d.kind)/\w.cell? ⟨b,o+2,none⟩=some (.bool d.b)/\w.cell? ⟨b,o+3,none⟩=some (.int .i64 d.i)/\w.cell? ⟨b,o+4,none⟩=some (.string d.t)/\
  w.cell? ⟨b,o+5,none⟩=some (.slice sl.a d.l.length sl.c)/\w.cell? ⟨b,o+6,none⟩=some (.slice so.a d.ok.length so.c):=⟨h.c0,h.c1,h.c2,h.c3,h.c4,h.c5⟩
def QeW(w:World)(b o:Nat)(k:ByteArray)(d:Val)(sl so:Sl):World:=QdE (w.setCell ⟨b,o,none⟩ (.string k)) b (o+1) d sl so
theorem QcY(w:World)(b o:Nat)(k:ByteArray)(d:Val)(sl so:Sl)(hF:¬F b):Agree F w (QeW w b o k d sl so):=(Agree.setCell _ _ _ hF).trans (Qbm _ _ _ _ _ _ hF)
theorem QgS(w:World)(b o:Nat)(k:ByteArray)(d:Val)(sl so:Sl):(QeW w b o k d sl so).heap.size=w.heap.size:=by simp[QeW,QdF]
theorem Ext.QeW{a w:World}(h:Ext a w){b:Nat}(I:a<=b)(o:Nat)(k:ByteArray)(d:Val)(sl so:Sl):Ext a (QeW w b o k d sl so):=(h.setCell (p:=⟨b,_,none⟩) I _).QdE I _ _ _ _
theorem Qap.QeW{B t size n:Nat}(h:Qap w B t size n)(b o:Nat)(k:ByteArray)(d:Val)(sl so:Sl):Qap (QeW w b o k d sl so) B t size n:=(h.setCell _ _).QdE _ _ _ _ _
theorem Qby(w:World)(b o:Nat)(k:ByteArray)(d:Val)(sl so:Sl)(o':Nat)(h:o'<o\/o+7<=o'):(QeW w b o k d sl so).cell? ⟨b,o',none⟩=w.cell? ⟨b,o',none⟩:=by
 unfold QeW;rw[Qbz _ _ _ _ _ _ _ oM,Qae _ _ _ _ _ oM]
theorem QgR{B t size n:Nat}(h:Qap w B t size n)(k:ByteArray)(d:Val)(sl so:Sl)(I:o+7<=n*size):(QeW w B o k d sl so).cell? ⟨B,o,none⟩=some (.string k)/\QaV (QeW w B o k d sl so) B (o+1) d sl so:=by
 refine⟨?_,Qkg (h.setCell _ _) _ _ _ oM⟩;unfold QeW;rw[Qbz _ _ _ _ _ _ _ oM];exact h.here oM _
theorem QaV.QuI{b o:Nat}{d:Val}(h:QaV w b o d sl so)(o':Nat)(k:ByteArray)(d':Val)(sl' so':Sl)(hd:o+6<=o'\/o'+7<=o):QaV (QeW w b o' k d' sl' so') b o d sl so:=
 ⟨(Qby _ _ _ _ _ _ _ _ oM).trans h.c0,(Qby _ _ _ _ _ _ _ _ oM).trans h.c1,(Qby _ _ _ _ _ _ _ _ oM).trans h.c2,(Qby _ _ _ _ _ _ _ _ oM).trans h.c3,(Qby _ _ _ _ _ _ _ _ oM).trans h.c4,(Qby _ _ _ _ _ _ _ _ oM).trans h.c5⟩
structure Qe8(wr:World)(B t:Nat)(ok:List ByteArray)(ov:List Val)(k:Nat)(f:Nat->Sl × Sl):Prop where
 row:Qap wr B t 7 ok.length
 keys:∀j x,j<k->ok[j]? = some x->wr.cell? ⟨B,j*7,none⟩=some (.string x)
 cells:∀j d,j<k->ov[j]? = some d->QaV wr B (j*7+1) d (f j).1 (f j).2
 reads:∀j d,j<k->ov[j]? = some d->RV wr (In (B+1) wr.heap.size) d (f j).1 (f j).2
theorem Qe8.start{B t:Nat}{ok:List ByteArray}{ov:List Val}(h:Qap w B t 7 ok.length)(f:Nat->Sl × Sl):Qe8 w B t ok ov 0 f:=⟨h,λ_ _ h=>absurd h oM,λ_ _ h=>absurd h oM,λ_ _ h=>absurd h oM⟩
theorem Qe8.step{wr W:World}{B t k:Nat}{ok:List ByteArray}{ov:List Val}{f:Nat->Sl × Sl}(h:Qe8 wr B t ok ov k f)(hx:Ext wr W){x:ByteArray}(a2:ok[k]? = some x){d:Val}(hd:ov[k]? = some d)(hr:RV W (In wr.heap.size W.heap.size) d sl so) :
  Qe8 (QeW W B (k*7) x d sl so) B t ok ov (k+1) (λj=>if j=k then(sl,so)else f j):=by
 have hB:=h.row.lt;have hk:k<ok.length:=(ae.1 a2).1;have Z:Qap W B t 7 ok.length:=h.row.agree (F:=Lt wr) (hx.agree λ_ h=>h) hB;refine⟨Z.QeW _ _ _ _ _ _,λj x' hj a0=>?_,λj d' hj N=>?_,λj d' hj N=>?_⟩
 ·by_cases I:j=k
  ·subst I
   obtain rfl:x=x':=by rw[a2]at a0;injection a0
   exact(QgR Z _ _ _ _ oM).1
  rw[Qby _ _ _ _ _ _ _ _ oM];exact(hx.cell hB).trans (h.keys j x' oM a0)
 ·by_cases I:j=k
  ·subst I
   obtain rfl:d=d':=by rw[hd]at N;injection N
   simp only[if_pos];exact(QgR Z _ _ _ _ oM).2
  simp only[if_neg I];exact((h.cells j d' oM N).agree (F:=Lt wr) (hx.agree λ_ h=>h) hB).QuI _ _ _ _ _ oM
 have a1:Agree (In (B+1) W.heap.size) W (QeW W B (k*7) x d sl so):=QcY _ _ _ _ _ _ _ oM;rw[QgS];by_cases I:j=k
 ·subst I
  obtain rfl:d=d':=by rw[hd]at N;injection N
  simp only[if_pos];exact(hr.mono (λi hi=>⟨oM,hi.2⟩)).agree a1
 simp only[if_neg I];exact(((h.reads j d' oM N).ext hx (λb hb=>hb.2)).mono (λi hi=>⟨hi.1,by have:=hx.size;omega⟩)).agree a1
theorem Qe8.done{B t:Nat}{ok:List ByteArray}{ov:List Val}{f:Nat->Sl × Sl}(h:Qe8 w B t ok ov ok.length f)(Z:ov.length=ok.length)(N:∀(j:Nat) (x:ByteArray),ok[j]? = some x->x.size<=maxLen)(hn:n<=B):RO w (In n w.heap.size) B 0 ok ov f:=
 ⟨λj x I=>⟨by rw[aD];exact h.keys j x (ae.1 I).1 I,N j x I⟩,
   λj d hd=>by rw[aD];exact h.cells j d (by have:=(ae.1 hd).1;omega) hd,λj d hd=>(h.reads j d (by have:=(ae.1 hd).1;omega) hd).mono λi hi=>⟨oM,hi.2⟩⟩
theorem RL.nil(w:World)(F:Nat->Prop)(b o:Nat)(f:Nat->Sl × Sl):RL w F b o [] f:=⟨λ_ _ h=>by simp at h,λ_ _ h=>by simp at h⟩
theorem RO.nil(w:World)(F:Nat->Prop)(b o:Nat)(f:Nat->Sl × Sl):RO w F b o [] [] f:=⟨λ_ _ h=>by simp at h,λ_ _ h=>by simp at h,λ_ _ h=>by simp at h⟩
theorem QuT{cs:Array Value}(h:cs.size=6):∃a0 I Z N a4 a5,cs=#[a0,I,Z,N,a4,a5]:=by
 obtain⟨l⟩:=cs
 match l,h with
 |[a0,I,Z,N,a4,a5],_=>exact⟨_,_,_,_,_,_,rfl⟩
theorem RL.agree{b o:Nat}{l:List Val}{f:Nat->Sl × Sl}(h:RL w F b o l f)(I:Agree F w w')(N:0<l.length->F b):RL w' F b o l f:=
 ⟨λj d hd=>(h.cells j d hd).agree I (N (QaW hd)),λj d hd=>(h.reads j d hd).agree I⟩
theorem RL.mono{b o:Nat}{l:List Val}{f:Nat->Sl × Sl}(h:RL w F b o l f)(I:∀i,F i->G i):RL w G b o l f:=⟨h.cells,λj d hd=>(h.reads j d hd).mono I⟩
theorem RO.agree{b o:Nat}{ok:List ByteArray}{ov:List Val}{f:Nat->Sl × Sl}(h:RO w F b o ok ov f)(Z:Agree F w w')(N:ov.length=ok.length)(hb:0<ok.length->F b):RO w' F b o ok ov f:=
 ⟨λj k I=>⟨(Z.cell (hb (QaW I))).trans (h.keys j k I).1,(h.keys j k I).2⟩,λj d hd=>(h.cells j d hd).agree Z (hb (N▸QaW hd)),λj d hd=>(h.reads j d hd).agree Z⟩
theorem RV.of{I:Int}{b:Bool}{i:Int}{t:ByteArray}{l:List Val}{ok:List ByteArray}{ov:List Val}{bl fl bo Z:Nat}{cl co:Nat->Sl × Sl}
  (hl:Qd5 F sl l.length bl fl) (ho:Qd5 F so ok.length bo Z) (N:ov.length=ok.length) (rl:RL w F bl fl l cl) (ro:RO w F bo Z ok ov co)
  (bk:(Lit.int .i64 I).wf=true) (bi:(Lit.int .i64 i).wf=true) (bt:t.size<=maxLen) (nl:l.length*88<=140737488355328) (no:ok.length*104<=140737488355328):RV w F (.mk I b i t l ok ov) sl so:=
 .mk bl fl bo Z cl co hl ho N rl.cells rl.reads ro.keys ro.cells ro.reads bk bi bt nl no
variable{P:Program}
theorem QbG(t e:TypeId)(i:TypeInfo)(z:Value)(ht:P.underlying t=some (.slice e))(hi:P.info? e=some i)(hz:i.zero=some z)
  (Z kc:IntKind) (n c:Nat) (a1:n<=c) (I:i.bytes*c<=281474976710656) (a0:c<=9223372036854775807) (w:World) :
  (Instr.makeSlice t (.int Z (n:Int)) (.int kc (c:Int))).run P w=.ok (.slice (some w) n c) (w.alloc (.cells (madeCells z.cells (c*i.size)) e)):=by
 have hb:(i.bytes:Int)*(c:Int)<=281474976710656:=by
  have h:((i.bytes*c:Nat):Int)<=281474976710656:=oM
  rwa[Int.natCast_mul]at h
 have N:=run_make (P:=P) w t e i z ht hi hz Z kc n c oM oM hb oM;simp only[Int.toNat_natCast]at N;exact N
abbrev gh:=@Ext.refl
abbrev gm:=@Blk.new
abbrev gw:=@Agree.setCell
abbrev eN:=@bodyPost_ret
abbrev eP:=@World.size_setCell
abbrev eR:=@info_parts
abbrev fV:=@size_madeCells
theorem Tryz.Qa8:(prog.info? 78).map (λi=>(i.zero,i.size,i.bytes))=some (some (.agg #[ByteArray.empty,.int .i64 0,false,.int .i64 0,ByteArray.empty,.slice none 0 0,.slice none 0 0]),7,104):=kM
theorem Tryz.Qnj:(prog.info? 124).map (λi=>(i.zero,i.size,i.bytes))=some (some (.agg #[ByteArray.empty,.int .i64 0,false,.int .i64 0,ByteArray.empty,.slice none 0 0,.slice none 0 0]),7,104):=kM
theorem Tryz.QjM:(prog.info? 34).map (λi=>(i.zero,i.size,i.bytes))=some (some (.agg #[.int .i64 0,false,.int .i64 0,ByteArray.empty,.slice none 0 0,.slice none 0 0]),6,88):=kM
abbrev QbV(d:Val)(sl so:Sl):Value:=.agg #[.int .i64 d.kind,.bool d.b,.int .i64 d.i,.string d.t,.slice sl.a d.l.length sl.c,.slice so.a d.ok.length so.c]
def Qeu(d:Val)(w:World)(e:Ending)(w':World):Prop:=
 ∃sl so,e=.returned (QbV d sl so)/\Ext w w'/\RVC w' (In w.heap.size w'.heap.size) d sl so
def QvB(d:Val)(sl so:Sl)(w wc:World):Prop:=
 ∃(sl1:Sl) (B:Nat) (f:Nat->Sl × Sl),Ext w wc/\w.heap.size+3<=wc.heap.size/\Blk wc w.heap.size 34 #[.int .i64 d.kind,.bool d.b,.int .i64 d.i,.string d.t,.slice sl.a d.l.length sl.c,.slice so.a d.ok.length so.c]/\
  (∃cs,Blk wc (w.heap.size+1) 34 cs/\cs.size=6)/\Blk wc (w.heap.size+1+1) 34 #[.int .i64 d.kind,.bool d.b,.int .i64 d.i,.string d.t,.slice sl1.a d.l.length sl1.c,.slice none 0 0]/\
  (Qd5 (In (w.heap.size+3) wc.heap.size) sl1 d.l.length B 0/\sl1.c=d.l.length)/\RL wc (In (w.heap.size+3) wc.heap.size) B 0 d.l f
def Qu6(d:Val)(sl1:Sl)(B:Nat)(f:Nat->Sl × Sl)(w wc:World):Prop:=
 ∃(so1:Sl) (C:Nat) (g:Nat->Sl × Sl),Ext w wc/\w.heap.size+3<=wc.heap.size/\(∃cs,Blk wc (w.heap.size+1) 34 cs/\cs.size=6)/\
  Blk wc (w.heap.size+1+1) 34 #[.int .i64 d.kind,.bool d.b,.int .i64 d.i,.string d.t,.slice sl1.a d.l.length sl1.c,.slice so1.a d.ok.length so1.c]/\
  (Qd5 (In (w.heap.size+3) wc.heap.size) sl1 d.l.length B 0/\sl1.c=d.l.length)/\RL wc (In (w.heap.size+3) wc.heap.size) B 0 d.l f/\
  Qd5 (In (w.heap.size+3) wc.heap.size) so1 d.ok.length C 0/\RO wc (In (w.heap.size+3) wc.heap.size) C 0 d.ok d.ov g
theorem QdS(m:Nat):∀(d:Val),SizeOf.sizeOf d<=m->∀(w:World) (sl so:Sl),RV w (Lt w.heap.size) d sl so->Calls prog 55 #[QbV d sl so] w (Qeu d w):=by
 induction m with
 |zero=>intro d hd;have:=Val.Qb6 d;omega
 |succ m ih=>
 intro d hd w sl so h;have HI:=hY ih;clear ih;obtain⟨i0,hi,i6,k3,i4⟩:=eR Tryz.QjM;obtain⟨j0,hj,i2,k8,i9⟩:=eR Tryz.Qnj;obtain⟨k,b,i,t,l,Z,ov⟩:=d;show Calls _ _ #[.agg #[k,b,i,t,.slice sl.a l.length sl.c,.slice so.a Z.length so.c]] _ _;cases h with
 |mk bl fl bo fo cl co hl ho hov el rl ek eo ro bk bi bt nl no=>
 have f5:∀(j:Nat) (d:Val),l[j]? = some d->SizeOf.sizeOf d<=m:=λj d hj=>bv (ab (Val.QtM hj) hd)
 have g6:∀(j:Nat) (d:Val),ov[j]? = some d->SizeOf.sizeOf d<=m:=λj d hj=>bv (ab (Val.QtN hj) hd)
 obtain⟨g4,f3,f4,b8,e1,g0,c8⟩:=Yh f5 g6 el rl ek eo ro;have c1:=hY hov;clear f5 g6 el rl ek eo ro hov hd;go_in;go_upto_if 14 with fail;go_cut [] (λwc=>QvB (.mk k b i t l Z ov) sl so w wc)
 case first=>
  by_cases h0:0<l.length
  ·have e6:=fun W=>QbG (P:=prog) 31 34 i0 _ underlying31 hi i6 .i64 .i64 l.length l.length (ao _) (by rw [i4];omega) oM W
   obtain⟨sa,sc⟩:=sl;obtain⟨rfl,j5,g9⟩:=hl.eq h0;have j9:=hl.fits h0;go_wp2_with fail;clear e6;generalize b0:World.alloc _ _=W0;obtain⟨b7,d0,a6,N,I,f6⟩:=Qgx w _ _ _ _ _ _ _ _ W0 b0;have b6:=Qap.of f6 (fV _ _);clear b0 f6;go_loopw[23] (λq wr=>∃(j:Nat) (f:Nat->Sl × Sl),j<=l.length/\q=.int .i64 j/\Ext w wr/\Qh0 wr (w.heap.size+1+1+1) 34 l j f/\
     Blk wr w.heap.size 34 #[.int .i64 k,.bool b,.int .i64 i,.string t,.slice (some ⟨bl,fl,none⟩) l.length sc,.slice so.a Z.length so.c]/\
     (∃cs,Blk wr (w.heap.size+1) 34 cs/\cs.size=6)/\Blk wr (w.heap.size+1+1) 34 #[.int .i64 k,.bool b,.int .i64 i,.string t,.slice (some ⟨w.heap.size+1+1+1,0,none⟩) l.length l.length,.slice none 0 0])
    (λq _=>l.length -(intOf q).toNat)
   case atStart=>exact⟨0,λ_=>(Sl.none,Sl.none),aA _,rfl,b7,Qh0.start b6 _,a6,⟨_,N,rfl⟩,I⟩
   obtain⟨j,f,hj,rfl,hx,hf,a6,N,I⟩:=hrel;by_cases b9:j<l.length
   ·obtain ⟨d,hd⟩:∃ d,l[j]? = some d:=⟨_,ac b9⟩
    have b5:Agree (Lt w.heap.size) w wr:=hx.agree λ_ h=>h
    obtain⟨v0,v1,v2,v3,v4,v5⟩:=(f4.o j d hd).agree b5 j9;have k7:=I.c6.2.2.2.2.1;have e4:∀W,Ext wr W->Calls prog 55 #[QbV d (cl j).1 (cl j).2] W (Qeu d W):=λW hW=>
     HI.o d (g4.o j d hd) W _ _ (((b8.o j d hd).agree (b5.trans (hW.agree λ_ h=>ab h hx.size))).mono λi hi=>ab hi (ak hx.size hW.size))
    obtain⟨HD,HF,HX,e8,d7,e3⟩:=Yg hd hf hx a6 N I;have hb:w.heap.size+1+1+1<wr.heap.size:=hf.row.lt;have j1:w.heap.size+1+1<wr.heap.size:=oM
    have j3:w.heap.size+1<wr.heap.size:=oM
    have j6:¬w.heap.size+1+1+1=wr.heap.size:=oM
    obtain⟨x0,b7⟩:∃v,wr.cell? ⟨w.heap.size+1+1+1,j*6,none⟩=some v:=hf.row.cell oM;obtain⟨x1,i5⟩:∃v,wr.cell? ⟨w.heap.size+1+1+1,j*6+1,none⟩=some v:=hf.row.cell oM;obtain⟨x2,i1⟩:∃v,wr.cell? ⟨w.heap.size+1+1+1,j*6+2,none⟩=some v:=hf.row.cell oM;obtain⟨x3,e7⟩:∃v,wr.cell? ⟨w.heap.size+1+1+1,j*6+3,none⟩=some v:=hf.row.cell oM;obtain⟨x4,j2⟩:∃v,wr.cell? ⟨w.heap.size+1+1+1,j*6+4,none⟩=some v:=hf.row.cell oM;obtain⟨x5,j4⟩:∃v,wr.cell? ⟨w.heap.size+1+1+1,j*6+5,none⟩=some v:=hf.row.cell oM;have i3:=hf.row.frozen;clear hd b5 hf hx a6 N I;go_wp2_with fail;go_region_held3 (λw'=>w'.cell? ⟨w.heap.size+1+1,4,none⟩=some (.slice (some ⟨w.heap.size+1+1+1,0,none⟩) l.length l.length)/\w'.cell? wr=some (.int .i64 d.kind)/\w'.cell? ⟨wr.heap.size,1,none⟩=some (.bool d.b)/\w'.cell? ⟨wr.heap.size,2,none⟩=some (.int .i64 d.i)/\w'.cell? ⟨wr.heap.size,3,none⟩=some (.string d.t)/\w'.cell? ⟨wr.heap.size,4,none⟩=some (.slice (cl j).1.a d.l.length (cl j).1.c)/\w'.cell? ⟨wr.heap.size,5,none⟩=some (.slice (cl j).2.a d.ok.length (cl j).2.c)) (go_keep)
     ((go_at_call 55;refine(e4 _ (((gh wr).alloc _ _).drew)).mono ?_;rintro e w1 ⟨sl,so,rfl,c7,f2⟩;have j7:=c7.olds))
    have a9:Ext wr w1:=(((gh wr).alloc _ _).drew).trans c7;have c0:=HF.o.step a9 (HD.o) (f2.mono λi hi=>⟨Nat.le_trans oO hi.1,hi.2⟩);have d8:=(e8.o.ext a9).agree (Qbm w1 (w.heap.size+1+1+1) (j*6) d sl so (F:=λb=>b<w.heap.size+1+1+1) oM) oM;have e2:=(e3.o.ext a9).agree (Qbm w1 (w.heap.size+1+1+1) (j*6) d sl so (F:=λb=>b<w.heap.size+1+1+1) oM) oM;have e0:∃cs,Blk (QdE w1 (w.heap.size+1+1+1) (j*6) d sl so) (w.heap.size+1) 34 cs/\cs.size=6:=by
     obtain⟨cs,h1,h2⟩:=d7.o;exact⟨cs,(h1.ext a9).agree (Qbm w1 (w.heap.size+1+1+1) (j*6) d sl so (F:=λb=>b<w.heap.size+1+1+1) oM) oM,h2⟩
    have hX:=(HX.o.trans a9).QdE (b:=w.heap.size+1+1+1) oM (j*6) d sl so;have d5:=hY c0;clear c0;go_wp2_with fail;go_roundw
    case rel=>exact⟨j+1,_,b9,by go_num,hX,d5.o,d8,e0,e2⟩
    simp[intOf];omega
   obtain rfl:j=l.length:=oM
   have hz:=hf.row.lt;have a8:=hf.done (n:=w.heap.size+3) oM;have H:QvB (.mk k b i t l Z ov) ⟨some ⟨bl,fl,none⟩,sc⟩ so w wr:=
    ⟨⟨some ⟨w.heap.size+1+1+1,0,none⟩,l.length⟩,w.heap.size+1+1+1,f,hx,oM,a6,N,I,⟨.some _ _ _ _ (ao _) (by unfold maxLen;omega) ⟨oM,hz⟩,rfl⟩,a8⟩
   clear a8 a6 N I hf hx;go_wp2_with fail;go_meet;exact H
  obtain rfl:l=[]:=au oM;have hh:decide ((0:Int)<0)=false:=rfl;go_wp2_with fail;generalize g7:World.alloc _ _=W3;obtain⟨e7,k4,a6,N,I⟩:=Qal w _ _ _ _ _ _ W3 g7;clear g7;go_meet;exact⟨Sl.none,0,λ_=>(Sl.none,Sl.none),e7,oM,a6,⟨_,N,rfl⟩,I,⟨.nil _ _,rfl⟩,RL.nil _ _ _ _ _⟩
 obtain⟨a7,B,f,hx,hz,a6,N,I,⟨b4,c9⟩,a8⟩:=hcut;have c4:=hY c9;clear c9;clear hl g4 f4 b8;obtain⟨-,-,-,-,-,p5⟩:=a6.c6;dsimp only[Val.l,Val.ok,Val.ov]at *;go_upto_if 38 with fail;go_cut [] (λwc=>Qu6 (.mk k b i t l Z ov) a7 B f w wc)
 case first=>
  by_cases h0:0<Z.length
  ·have e6:=fun W=>QbG (P:=prog) 32 124 j0 _ underlying32 hj i2 .i64 .i64 Z.length Z.length (ao _) (by rw [i9];omega) oM W
   obtain⟨sa,sc⟩:=so;obtain⟨rfl,j5,g9⟩:=ho.eq h0;have g3:=ho.fits h0;have q5:=I.cell 5;have qf:=I.frozen 5;have k5:w.heap.size<wc.heap.size:=oM
   have k1:=I.lt;simp at q5;go_wp2_with fail;clear e6 q5 qf;generalize b0:World.alloc (World.setCell _ _ _) _=W0;have b7:Ext w W0:=by rw[<-b0];exact(hx.setCell (p:=⟨w.heap.size+1+1,5,none⟩) (show w.heap.size<=w.heap.size+1+1 by omega) _).alloc _ _
   have d0:W0.heap.size=wc.heap.size+1:=by rw[<-b0];simp
   have f8:Blk W0 w.heap.size 34 #[.int .i64 k,.bool b,.int .i64 i,.string t,.slice sl.a l.length sl.c,.slice (some ⟨bo,fo,none⟩) Z.length sc]:=by rw[<-b0];exact(a6.far (show w.heap.size≠w.heap.size+1+1 by omega) _).alloc _
   have f7:∃cs,Blk W0 (w.heap.size+1) 34 cs/\cs.size=6:=by
    obtain⟨cs,h1,h2⟩:=N;rw[<-b0];exact⟨cs,(h1.far (show w.heap.size+1≠w.heap.size+1+1 by omega) _).alloc _,h2⟩
   have g8:Blk W0 (w.heap.size+1+1) 34 #[.int .i64 k,.bool b,.int .i64 i,.string t,.slice a7.a l.length a7.c,.slice (some wc) Z.length Z.length]:=by
    rw[<-b0];exact(I.QbH 5 _).alloc _
   have b6:Qap W0 wc.heap.size 124 7 Z.length:=by
    have h:=Qap.made (w:=wc.setCell ⟨w.heap.size+1+1,5,none⟩ (.slice (some wc) Z.length Z.length)) (t:=124) (madeCells #[.string ByteArray.empty,.int .i64 0,.bool false,.int .i64 0,.string ByteArray.empty,.slice none 0 0,.slice none 0 0] (Z.length*7)) (fV _ _);rw[eP]at h;rw[<-b0];exact h
   have d4:Agree (In (w.heap.size+3) wc.heap.size) wc W0:=by
    rw[<-b0];exact(gw wc ⟨w.heap.size+1+1,5,none⟩ _ (show ¬(w.heap.size+3<=w.heap.size+1+1/\w.heap.size+1+1<wc.heap.size)by omega)).trans (Agree.alloc _ _ (λb hb=>by rw[eP];exact hb.2))
   have d3:=a8.agree d4 b4.fits;clear a8 a6 N I hx d4 b0;go_loopw[47] (λq wr=>∃(j:Nat) (g:Nat->Sl × Sl),j<=Z.length/\q=.int .i64 j/\Ext w wr/\Qe8 wr wc.heap.size 124 Z ov j g/\
     Blk wr w.heap.size 34 #[.int .i64 k,.bool b,.int .i64 i,.string t,.slice sl.a l.length sl.c,.slice (some ⟨bo,fo,none⟩) Z.length sc]/\
     (∃cs,Blk wr (w.heap.size+1) 34 cs/\cs.size=6)/\Blk wr (w.heap.size+1+1) 34 #[.int .i64 k,.bool b,.int .i64 i,.string t,.slice a7.a l.length a7.c,.slice (some wc) Z.length Z.length]/\
     RL wr (In (w.heap.size+3) wc.heap.size) B 0 l f)
    (λq _=>Z.length -(intOf q).toNat)
   case atStart=>exact⟨0,λ_=>(Sl.none,Sl.none),aA _,rfl,b7,Qe8.start b6 _,f8,f7,g8,d3⟩
   clear b7 d0 f8 f7 g8 b6 d3 W0;obtain⟨j,g,hj,rfl,hx,hf,a6,N,I,a8⟩:=hrel;have j8:wc.heap.size<wr.heap.size:=hf.row.lt;by_cases b9:j<Z.length
   ·obtain ⟨x,d6⟩:∃ x,Z[j]? = some x:=⟨_,ac b9⟩
    obtain⟨d,hd⟩:∃d,ov[j]? = some d:=⟨_,ac (by rw[c1.o];exact b9)⟩;have b5:Agree (Lt w.heap.size) w wr:=hx.agree λ_ h=>h
    obtain⟨v0,v1,v2,v3,v4,v5⟩:=((g0.o j d hd).agree b5 g3).m;have vk:=(b5.cell g3).trans (e1.o j x d6).1;have k6:=I.c6.2.2.2.2.2;have e4:∀W,Ext wr W->Calls prog 55 #[QbV d (co j).1 (co j).2] W (Qeu d W):=λW hW=>
     HI.o d (f3.o j d hd) W _ _ (((c8.o j d hd).agree (b5.trans (hW.agree λ_ h=>ab h hx.size))).mono λi hi=>ab hi (ak hx.size hW.size))
    obtain⟨HD,HK,HF,HX,e8,d7,e3⟩:=Yh hd d6 hf hx a6 N I;obtain⟨b8,c3⟩:=Yb a8 b4;have j1:w.heap.size+1+1<wr.heap.size:=oM
    have j3:w.heap.size+1<wr.heap.size:=oM
    have j6:¬wc.heap.size=wr.heap.size:=oM
    have k0:¬wc.heap.size=w.heap.size+1+1:=oM
    obtain⟨x0,b7⟩:∃v,wr.cell? ⟨wc.heap.size,j*7,none⟩=some v:=hf.row.cell oM;obtain⟨x1,i5⟩:∃v,wr.cell? ⟨wc.heap.size,j*7+1,none⟩=some v:=hf.row.cell oM;obtain⟨x2,i1⟩:∃v,wr.cell? ⟨wc.heap.size,j*7+2,none⟩=some v:=hf.row.cell oM;obtain⟨x3,e7⟩:∃v,wr.cell? ⟨wc.heap.size,j*7+3,none⟩=some v:=hf.row.cell oM;obtain⟨x4,j2⟩:∃v,wr.cell? ⟨wc.heap.size,j*7+4,none⟩=some v:=hf.row.cell oM;obtain⟨x5,j4⟩:∃v,wr.cell? ⟨wc.heap.size,j*7+5,none⟩=some v:=hf.row.cell oM;obtain⟨x6,k2⟩:∃v,wr.cell? ⟨wc.heap.size,j*7+6,none⟩=some v:=hf.row.cell oM;have i3:=hf.row.frozen;clear hd d6 b5 hf hx a6 N I a8 b4;go_wp2_with fail;go_region_held3 (λw'=>w'.cell? ⟨w.heap.size+1+1,5,none⟩=some (.slice (some wc) Z.length Z.length)/\w'.cell? wr=some (.string x)/\w'.cell? ⟨wr.heap.size,1,none⟩=some (.int .i64 d.kind)/\w'.cell? ⟨wr.heap.size,2,none⟩=some (.bool d.b)/\w'.cell? ⟨wr.heap.size,3,none⟩=some (.int .i64 d.i)/\w'.cell? ⟨wr.heap.size,4,none⟩=some (.string d.t)/\w'.cell? ⟨wr.heap.size,5,none⟩=some (.slice (co j).1.a d.l.length (co j).1.c)/\w'.cell? ⟨wr.heap.size,6,none⟩=some (.slice (co j).2.a d.ok.length (co j).2.c)) (go_keep)
     ((go_at_call 55;refine(e4 _ (((gh wr).alloc _ _).drew)).mono ?_;rintro e w1 ⟨f1,f0,rfl,c7,f2⟩;have j7:=c7.olds))
    have a9:Ext wr w1:=(((gh wr).alloc _ _).drew).trans c7;have hP:∀F:Nat->Prop,¬F wc.heap.size->Agree F w1 (QeW w1 wc.heap.size (j*7) x d f1 f0):=λF hF=>QcY _ _ _ _ _ _ _ hF
    have c0:=HF.o.step a9 HK.o HD.o (f2.mono λi hi=>⟨Nat.le_trans oO hi.1,hi.2⟩);have d8:=(e8.o.ext a9).agree (hP (λb=>b<wc.heap.size) oM) oM;have e2:=(e3.o.ext a9).agree (hP (λb=>b<wc.heap.size) oM) oM;have e0:∃cs,Blk (QeW w1 wc.heap.size (j*7) x d f1 f0) (w.heap.size+1) 34 cs/\cs.size=6:=by
     obtain⟨cs,h1,h2⟩:=d7.o;exact⟨cs,(h1.ext a9).agree (hP (λb=>b<wc.heap.size) oM) oM,h2⟩
    have hX:=(HX.o.trans a9).QeW (b:=wc.heap.size) oM (j*7) x d f1 f0;have hR:=(b8.o.agree (a9.agree (F:=In (w.heap.size+3) wc.heap.size) oM) c3.o.fits).agree (hP (In (w.heap.size+3) wc.heap.size) oM) c3.o.fits;obtain⟨d5,HR⟩:=Yb c0 hR;clear c0 hP hR;go_wp2_with fail;go_roundw
    case rel=>exact⟨j+1,_,b9,by go_num,hX,d5.o,d8,e0,e2,HR.o⟩
    simp[intOf];omega
   obtain rfl:j=Z.length:=oM
   have c2:=hf.done c1.o (λj x hx=>(e1.o j x hx).2) (n:=w.heap.size+3) hz;have H:Qu6 (.mk k b i t l Z ov) a7 B f w wr:=
    ⟨⟨some wc,Z.length⟩,wc.heap.size,g,hx,oM,N,I,⟨b4.mono (fun i hi=>⟨hi.1,by have:=hi.2;omega⟩),c4.o⟩,a8.mono (fun i hi=>⟨hi.1,by have:=hi.2;omega⟩),
      .some _ _ _ _ (ao _) (by unfold maxLen;omega) ⟨hz,j8⟩,c2⟩
   clear c2 a8 a6 N I hf hx;go_wp2_with fail;go_meet;exact H
  obtain rfl:Z=[]:=au oM;have hh:decide ((0:Int)<0)=false:=rfl;obtain rfl:ov=[]:=au c1.o;have H:Qu6 (.mk k b i t l [] []) a7 B f w wc:=
   ⟨Sl.none,0,λ_=>(Sl.none,Sl.none),hx,oM,N,I,⟨b4,c4.o⟩,a8,.nil _ _,RO.nil _ _ _ _ _⟩
  clear a8 a6 N I hx b4;go_wp2_with fail;go_meet;exact H
 clear hx hz a6 N I b4 a8 ho f3 e1 g0 c8 HI p5;rename_i wd;obtain⟨b3,C,g,hx,hz,⟨cs,N,i7⟩,I,⟨b4,-⟩,a8,g5,c2⟩:=hcut;dsimp only[Val.kind,Val.b,Val.i,Val.t,Val.l,Val.ok,Val.ov]at *;obtain⟨p0,p1,p2,p3,p4,p5⟩:=I.c6;obtain⟨a0,a1,a2,a3,a4,a5,rfl⟩:=QuT i7;obtain⟨q0,q1,q2,q3,q4,q5⟩:=N.c6;have qf:=N.frozen;obtain⟨HX,H1,b8,c3,c8,f9⟩:=Yg hx N a8 b4 c2 g5;clear hx N I a8 b4 c2 g5;go_wp2_with fail;have hF:∀F:Nat->Prop,¬F (w.heap.size+1)->Agree F wc (QdE wc (w.heap.size+1) 0 (.mk k b i t l Z ov) a7 b3):=λF h=>Qbm _ _ _ _ _ _ h
 refine eN (v:=.agg #[k,b,i,t,.slice a7.a l.length a7.c,.slice b3.a Z.length b3.c]) (by simp[results,results55,go_sem,q0,q1,q2,q3,q4,q5]) rfl ?_;refine⟨a7,b3,rfl,HX.o.QdE (b:=w.heap.size+1) oM 0 (.mk k b i t l Z ov) a7 b3,?_,c4.o⟩;have i8:(QdE wc (w.heap.size+1) 0 (.mk k b i t l Z ov) a7 b3).heap.size=wc.heap.size:=QdF _ _ _ _ _ _;have r1:=b8.o.agree (hF (In (w.heap.size+3) wc.heap.size) oM) c3.o.fits;have r2:=c8.o.agree (hF (In (w.heap.size+3) wc.heap.size) oM) c1.o f9.o.fits;have r3:RV (QdE wc (w.heap.size+1) 0 (.mk k b i t l Z ov) a7 b3) (In (w.heap.size+3) wc.heap.size) (.mk k b i t l Z ov) a7 b3:=RV.of c3.o f9.o c1.o r1 r2 bk bi bt nl no;show RV (QdE wc (w.heap.size+1) 0 (.mk k b i t l Z ov) a7 b3) (In w.heap.size (QdE wc (w.heap.size+1) 0 (.mk k b i t l Z ov) a7 b3).heap.size) _ _ _;rw[i8];exact r3.mono λi hi=>⟨oM,hi.2⟩
abbrev eS:=@World.ownsRow_nil
abbrev eZ:=@run_underlying
abbrev fe:=@Sem.run_bind
abbrev fg:=@Result.andThen_ok
abbrev fm:=@setRow_heap
abbrev fu:=@Sem.run_pure
abbrev fJ:=@if_true
abbrev fP:=@wpList_plain
abbrev fQ:=@setRow_other
abbrev fU:=@size_zeroCells
def Rd(w:World)(F:Nat->Prop)(size:Nat)(s:Sl)(n:Nat)(cs:List Value):Prop:=
 ∃b o,Qd5 F s n b o/\cs.length=n*size/\∀j u,cs[j]? = some u->w.cell? ⟨b,o+j,none⟩=some u
variable{s:Sl}{cs:List Value}
theorem Rd.agree{size:Nat}(h:Rd w F size s n cs)(ha:Agree F w w'):Rd w' F size s n cs:=by
 obtain⟨b,o,h1,h2,Z⟩:=h;refine⟨b,o,h1,h2,λj u N=>(ha.cell (h1.fits ?_)).trans (Z j u N)⟩;rcases Nat.eq_zero_or_pos n with I|I
 .subst I;have:=(ae.1 N).1;omega
 exact I
theorem Rd.mono{size:Nat}(h:Rd w F size s n cs)(I:∀i,F i->G i):Rd w G size s n cs:=by
 obtain⟨b,o,h1,h2,N⟩:=h;exact⟨b,o,h1.mono I,h2,N⟩
theorem Rd.nil(w:World)(F:Nat->Prop)(size:Nat):Rd w F size Sl.none 0 []:=⟨0,0,.nil _ _,oO,λj u h=>by simp at h⟩
theorem Qbc(b o j:Nat):(⟨b,o,none⟩:Addr).add j=⟨b,o+j,none⟩:=by unfold Addr.add;split<;>simp_all
theorem Rd.QaI{w:World}{base e size n c:Nat}{a:Option Addr}{cs:List Value}(h:w.ownsRow base e size (.slice a n c) n cs):Rd w (In base w.heap.size) size ⟨a,c⟩ n cs:=by
 rcases h.2 with⟨I,hn⟩ |⟨g,a1,a0,I,hg,hh,Z,N,a2,ht⟩
 ·simp only [Value.slice.injEq] at I
  obtain⟨rfl,rfl,rfl⟩:=I;have:cs=[]:=au (by simpa using h.1);subst this;exact Rd.nil _ _ _
 simp only[Value.slice.injEq]at I;obtain⟨rfl,-,rfl⟩:=I;refine⟨g,0,.some _ _ _ _ Z N ⟨hg,fM hh⟩,h.1,λj u hj=>?_⟩;have:=h.cells (g:=g) rfl j u hj;rw[aD];rw[Addr.add]at this;split at this
 .rename_i h0;subst h0;exact this
 simpa using this
structure Wr(w w':World)(row:Option Nat):Prop where
 grown:w.grownBy w' row
 fz:∀b o,w'.frozen? ⟨b,o,none⟩=w.frozen? ⟨b,o,none⟩
theorem Wr.refl(w:World)(row:Option Nat):Wr w w row:=⟨⟨rfl,rfl,rfl,ao _,λ_ _ _=>rfl⟩,λ_ _=>rfl⟩
theorem Wr.below{row:Option Nat}(h:Wr w w' row)(N:B<=w.heap.size)(I:∀k,row=some k->B<=k):Below B w w':=(Below.refl B w).grown h.grown N I
theorem Ext.wr{a w w':World}{row:Option Nat}(h:Ext a w)(k:Wr w w' row)(I:∀i,row=some i->a.heap.size<=i):Ext a w':=
 ⟨h.below.trans (k.below h.size I),λb o N=>(k.fz b o).trans (h.free b o N)⟩
theorem Wr.agree{row:Option Nat}(h:Wr w w' row)(hF:∀i,F i->i<w.heap.size)(N:∀k,row=some k->¬F k):Agree F w w':=
 λb I=>h.grown.block b (hF b I) (λe=>N b e.symm I)
theorem Ql1(w:World)(c:Array Value)(t:TypeId)(b o:Nat):(w.alloc (.cells c t)).frozen? ⟨b,o,none⟩=w.frozen? ⟨b,o,none⟩:=by
 by_cases h:b=w.heap.size
 .subst h;rw[frozen_none (ao _)];simp
 exact World.frozen?_alloc_old w _ _ h
theorem QjF(w:World)(g:Nat)(cs:Array Value)(b o:Nat):(w.setRow g cs).frozen? ⟨b,o,none⟩=w.frozen? ⟨b,o,none⟩:=by
 by_cases h:g=b
 ·subst h
  simp only[World.frozen?,World.setRow,Array.getElem?_modify,if_true];cases I:w.heap[g]? with
  |none=>rfl
  |some ob=>cases ob<;>rfl
 simp only[World.frozen?,World.setRow,Array.getElem?_modify,if_neg h]
def Sl.row(s:Sl):Option Nat:=s.a.map Addr.block
theorem QhL{α:Type}(C xs ys:List α)(p q z a b c d t:Nat)(Z:xs=C.take q)(N:ys.length=z)(a0:p<=q)(hq:q+z<=C.length)(ha:a=p+z)(hb:b=a+(xs.drop p).length)(hc:c=p)(hd:d=p+ys.length)(ht:t=q+z) :
  ((C.take a++xs.drop p++C.drop b).take c++ys++(C.take a++xs.drop p++C.drop b).drop d).take t=xs.take p++ys++xs.drop p:=by
 subst ha hb hc hd ht;have I:xs.length=q:=by rw[Z,av];omega
 have h1:(C.take (c+z)).length=c+z:=by rw[av];omega
 have e1:(C.take (c+z)++xs.drop c++C.drop (c+z+(xs.drop c).length)).take c=xs.take c:=by
  rw[aT,bj oM,cU,Z,cU];congr 1;omega
 have e2:(C.take (c+z)++xs.drop c++C.drop (c+z+(xs.drop c).length)).drop (c+ys.length)=xs.drop c++C.drop (c+z+(xs.drop c).length):=by
  rw[aT,N,List.drop_append,h1,cu,dn,bX oM,aG]
 rw[e1,e2,<-aT,bj (by simp[I,N];omega),aW (by simp[I,N];omega)]
theorem QjK{α:Type}(C xs ys:List α)(p q z a b c d t:Nat)(hp:C.take p=xs.take p)(I:xs.length=q)(N:ys.length=z)(a0:p<=q)(hq:q+z<=C.length)(hc:c=p+z)(hd:d=c+(xs.drop p).length)(ha:a=p)(hb:b=p+ys.length)(ht:t=q+z) :
  ((C.take a++ys++C.drop b).take c++xs.drop p++(C.take a++ys++C.drop b).drop d).take t=xs.take p++ys++xs.drop p:=by
 subst ha hb hc hd ht;have h1:(C.take a).length=a:=by rw[av];omega
 have Z:(C.take a++ys++C.drop (a+ys.length)).take (a+z)=xs.take a++ys:=by
  rw[bj (by simp only[List.length_append,h1,N];omega),aW (by simp only[List.length_append,h1,N];omega),hp]
 rw[Z,bj (by simp[I,N];omega),aW (by simp[I,N];omega)]
section
variable{P : Program}(w : World)
theorem QfG(base:Nat)(t ty e:TypeId)(i:TypeInfo)(z:Value)(size a8:Nat)(ht:P.underlying t=some (.slice e))(hi:P.info? e=some i)(hz:i.zero=some z)
  (b4:i.size=size) (c8:i.bytes=a8) (c4:z.cells.size=size) (_hsz:0<size)
  (s:Sl) (n:Nat) (xs:List Value) (N:w.ownsRow base e size (.slice s.a n s.c) n xs)
  (F:Nat->Prop) (sx:Sl) (m:Nat) (I:List Value) (b8:Rd w F size sx m I) (h1:∀u∈I,u.oneCell'=true)
  (c0:n+m<=maxLen) (a4:(n+m)*a8<=140737488355328) (b5:base<=w.heap.size) :
  ∃(s':Sl) (w':World),(Builtin.append_ #[t,t] ty #[.slice s.a n s.c,.slice sx.a m sx.c]).run P w=.ok (.slice s'.a (n+m) s'.c) w'/\
   w'.ownsRow base e size (.slice s'.a (n+m) s'.c) (n+m) (xs++I)/\Wr w w' s.row/\(s'.a=s.a\/s'.a=some ⟨w,0,none⟩/\Wr w w' none):=by
 subst b4;subst c8;have c3:n+m<=9223372036854775807:=by simp only[maxLen]at c0;omega
 obtain⟨b,o,hs,hl,hc⟩:=b8;have a3:(xs++I).length=(n+m)*i.size:=by rw[aj,N.1,hl,eB]
 have a6:∀(a5:Nat),0<n+m->
   (w.drew.alloc (.cells (xs.toArray++I.toArray++Builtin.zeroCells z.cells (grownCap w (n+m) a5 e -(n+m))) e)).ownsRow base e i.size
     (.slice (some w) (n+m) (grownCap w (n+m) a5 e)) (n+m) (xs++I):=by
  intro a5 _;have c6:=grownCap_ge w (n+m) a5 e;have b7:grownCap w (n+m) a5 e<=maxLen:=grownCap_le_maxLen w (n+m) a5 e c0;refine⟨a3,.inr ⟨w,_,_,rfl,b5,fI w.drew _,c6,b7,?_,?_⟩⟩
  ·simp only [Array.size_append,List.size_toArray,size_zeroCells,c4,N.1,hl,←Nat.add_mul]
   congr 1;omega
  simp only[Array.toList_append,List.append_assoc];rw[<-aT,<-a3];exact dI
 have wr:∀(c:Array Value) (row:Option Nat),Wr w (w.drew.alloc (.cells c e)) row:=λc row=>
  ⟨⟨rfl,rfl,rfl,oO,λk hk _=>eY w.drew _ k hk⟩,λb o=>Ql1 w.drew c e b o⟩
 cases hs with
 | nil=>
   have hn:I=[]:=au (by simpa using hl);subst hn;refine⟨s,w,?_,by simpa using N,Wr.refl _ _,.inl rfl⟩;rcases N.2 with⟨hv,b9⟩ |⟨g,a0,a7,hv,_,_,a9,_⟩
   ·simp only [Value.slice.injEq] at hv
    obtain⟨ha,rfl,Z⟩:=hv;rw[ha,Z];simp[Builtin.append_,run_underlying ht,sizeOf,typeInfo,hi,Builtin.lenOf,Builtin.firstCells]
   simp only[Value.slice.injEq]at hv;obtain⟨ha,-,Z⟩:=hv;rw[ha,Z];simp[Builtin.append_,run_underlying ht,sizeOf,typeInfo,hi,Builtin.lenOf,Builtin.firstCells,a9,storeCells]
 | zero ad=>
   have hn:I=[]:=au (by simpa using hl);subst hn;refine⟨s,w,?_,by simpa using N,Wr.refl _ _,.inl rfl⟩;rcases N.2 with⟨hv,b9⟩ |⟨g,a0,a7,hv,_,_,a9,_⟩
   ·simp only [Value.slice.injEq] at hv
    obtain⟨ha,rfl,Z⟩:=hv;rw[ha,Z];simp[Builtin.append_,run_underlying ht,sizeOf,typeInfo,hi,Builtin.lenOf,Builtin.firstCells,loadCells,loadCellsFrom]
   simp only[Value.slice.injEq]at hv;obtain⟨ha,-,Z⟩:=hv;rw[ha,Z];simp[Builtin.append_,run_underlying ht,sizeOf,typeInfo,hi,Builtin.lenOf,Builtin.firstCells,a9,loadCells,loadCellsFrom,storeCells]
 | some _ c _ _ hmc b7 hb=>
   have a2:∀j u,I[j]? = some u->w.cell? ((⟨b,o,none⟩:Addr).add j)=some u:=λj u hj=>by rw[Qbc];exact hc j u hj
   rcases N.2 with⟨hv,b9⟩ |⟨g,a0,a7,hv,c9,hg,a9,c2,c7,b3⟩
   ·simp only [Value.slice.injEq] at hv
    obtain⟨ha,rfl,Z⟩:=hv;have hx:xs=[]:=au (by simpa using N.1);subst hx;by_cases hm:m=0
    ·subst hm
     have hn:I=[]:=au (by simpa using hl);subst hn;refine⟨Sl.none,w,?_,eS w base e i.size,Wr.refl _ _,.inl ha.symm⟩;rw[ha,Z];simp[Builtin.append_,run_underlying ht,sizeOf,typeInfo,hi,Builtin.lenOf,Builtin.firstCells,loadCells,loadCellsFrom]
    have hr:=run_append_nil (P:=P) w t ty e i z ht hi hz ⟨b,o,none⟩ m c I hl a2 oM oM (by have hb:=a4;simp only[Nat.zero_add]at hb;omega);have c1:=a6 0 oM;simp only[Nat.zero_add,List.nil_append,Array.empty_append]at c1 ⊢;refine⟨⟨some w,grownCap w m 0 e⟩,_,?_,c1,wr _ _,.inr ⟨rfl,wr _ _⟩⟩;rw[ha,Z];exact hr
   simp only[Value.slice.injEq]at hv;obtain⟨ha,-,Z⟩:=hv;by_cases a1:n+m<=a0
   ·have b6:n*i.size+I.length≤a7.size:=by rw [hl,c7,←eB];exact cg _ a1
    have hr:=run_append_room (P:=P) w t ty e i ht hi g n a0 a7 hg ⟨b,o,none⟩ m c I hl a2 h1 a1 b6;refine⟨⟨some g,a0⟩,_,by rw[ha,Z];exact hr,⟨a3,.inr ⟨g,a0,_,rfl,c9,fm w g a7 _ e _ hg,a1,c2,?_,?_⟩⟩,
     ⟨⟨rfl,rfl,rfl,oO,λk _ hk=>fQ w g k _ (λe=>hk (by simp[Sl.row,ha,e]))⟩,λb o=>QjF _ _ _ _ _⟩,.inl ha.symm⟩
    ·simp only [List.size_toArray,List.length_append,List.length_take,List.length_drop,Array.length_toList]
     omega
    rw[b3,<-a3];exact dI
   rw[ha,Z]at N;have b0:∀j u,xs[j]? = some u->w.cell? ((g:Addr).add j)=some u:=N.cells (g:=g) rfl;have hr:=run_append_grow (P:=P) w t ty e i z ht hi hz g n a0 xs N.1 b0 ⟨b,o,none⟩ m c I hl a2 oM oM (growslice_fits oM a4);refine⟨⟨some w,grownCap w (n+m) a0 e⟩,_,by rw[ha,Z];exact hr,a6 a0 oM,wr _ _,.inr ⟨rfl,wr _ _⟩⟩
theorem Qdl{o:Oper}{a:Act}{K:Act->World->Prop}{Q:Exit->Act->World->Prop}(s' x:Operand)(t:TypeId)
  (ho:o.op=.call { callee:=.builtin .append,args:=#[s',x],argTypes:=#[t,t] })
  (base:Nat) (e:TypeId) (i:TypeInfo) (z:Value) (size I:Nat) (ht:P.underlying t=some (.slice e)) (hi:P.info? e=some i) (hz:i.zero=some z)
  (a0:i.size=size) (a4:i.bytes=I) (a5:z.cells.size=size) (a7:0<size)
  (s:Sl) (n:Nat) (xs:List Value) (hs:a.eval s'=.slice s.a n s.c) (a3:w.ownsRow base e size (.slice s.a n s.c) n xs)
  (F:Nat->Prop) (sx:Sl) (m:Nat) (N:List Value) (hx:a.eval x=.slice sx.a m sx.c) (a2:Rd w F size sx m N) (h1:∀u∈N,u.oneCell'=true)
  (a6:n+m<=maxLen) (Z:(n+m)*I<=140737488355328) (a1:base<=w.heap.size)
  (h:∀(s':Sl) (w':World),w'.ownsRow base e size (.slice s'.a (n+m) s'.c) (n+m) (xs++N)->Wr w w' s.row->(s'.a=s.a\/s'.a=some ⟨w,0,none⟩/\Wr w w' none)->K (a.put o.dst (.slice s'.a (n+m) s'.c)) w'):o.wp P a w K Q:=by
 obtain⟨v',w',hr,h2,h3,h4⟩:=QfG (P:=P) w base t o.type e i z size I ht hi hz a0 a4 a5 a7 s n xs a3 F sx m N a2 h1 a6 Z a1;unfold Oper.wp execOp;simp only[ho,resolve,invoke,builtin,Sem.run_bind,Sem.run_pure,Result.andThen_ok,List.map_toArray,List.map_cons,List.map_nil,hs,hx,hr];exact h v' w' h2 h3 h4
theorem Qak{ops:Array Oper}{rest:List Oper}{o:Oper}{a:Act}{Q:Exit->Act->World->Prop}(a7:o.guard=none)(s' x:Operand)(t:TypeId)
  (ho:o.op=.call { callee:=.builtin .append,args:=#[s',x],argTypes:=#[t,t] })
  (base:Nat) (e:TypeId) (i:TypeInfo) (z:Value) (size I:Nat) (ht:P.underlying t=some (.slice e)) (hi:P.info? e=some i) (hz:i.zero=some z)
  (a0:i.size=size) (a4:i.bytes=I) (a5:z.cells.size=size) (a8:0<size)
  (s:Sl) (n:Nat) (xs:List Value) (hs:a.eval s'=.slice s.a n s.c) (a3:w.ownsRow base e size (.slice s.a n s.c) n xs)
  (F:Nat->Prop) (sx:Sl) (m:Nat) (N:List Value) (hx:a.eval x=.slice sx.a m sx.c) (a2:Rd w F size sx m N) (h1:∀u∈N,u.oneCell'=true)
  (a6:n+m<=maxLen) (Z:(n+m)*I<=140737488355328) (a1:base<=w.heap.size)
  (h:∀(s':Sl) (w':World),w'.ownsRow base e size (.slice s'.a (n+m) s'.c) (n+m) (xs++N)->Wr w w' s.row->(s'.a=s.a\/s'.a=some ⟨w,0,none⟩/\Wr w w' none)->wpList P ops Q rest (a.put o.dst (.slice s'.a (n+m) s'.c)) w'):wpList P ops Q (o::rest) a w:=
 fP a7 λ_ hK=>Qdl w s' x t ho base e i z size I ht hi hz a0 a4 a5 a8 s n xs hs a3 F sx m N hx a2 h1 a6 Z a1 λv' w' h2 h3 h4=>hK _ _ (h v' w' h2 h3 h4)
end
section
variable{P : Program}(w : World)
theorem QbA(dT sT ty N:TypeId)(size:Nat)(g o Z a7:Nat)(sx:Sl)(m:Nat)(I:Array Value)(t:TypeId)(cs:List Value)
  (hu:P.underlying dT=some (.slice N)) (hs:(P.info? N).map (·.size)=some size)
  (hg:w.heap[g]? = some (.cells I t (0,0))) (hn:cs.length=Nat.min m Z*size) (a5:sx.a=none->cs=[])
  (a4:∀b o',sx.a=some ⟨b,o',none⟩->∀j v,cs[j]? = some v->w.cell? ⟨b,o'+j,none⟩=some v) (a1:∀a,sx.a=some a->a.spot=none) (a2:o+cs.length<=I.size) (h1:∀v∈cs,v.oneCell'=true) :
  (Builtin.copy_ #[dT,sT] ty #[.slice (some ⟨g,o,none⟩) Z a7,.slice sx.a m sx.c]).run P w =
    .ok (goInt (Nat.min m Z)) (w.setRow g (I.toList.take o++cs++I.toList.drop (o+cs.length)).toArray):=by
 have a0:=run_storeCells_at P g o t cs 0 I w hg (by simpa using a2) h1;obtain⟨i,hq,hi⟩:∃i,P.info? N=some i/\i.size=size:=by
  cases hq:P.info? N with
  |none=>simp[hq]at hs
  |some i=>exact⟨i,rfl,by simpa[hq]using hs⟩
 obtain⟨sa,sc⟩:=sx;cases sa with
 | none=>
   have hc:=a5 rfl;subst hc;have a6:(storeCells ⟨g,o,none⟩ []).run P w=.ok () (w.setRow g (I.toList.take o++[]++I.toList.drop (o+0)).toArray):=by simpa using a0
   simp[Builtin.copy_,run_underlying hu,Builtin.lenOf,Builtin.firstCells,sizeOf,typeInfo,hq,a6]
 | some a=>
   obtain⟨b,o',sp⟩:=a;have a3:=a1 _ rfl;dsimp only at a3;subst a3;have hl:=run_firstCells_some (P:=P) w size (Nat.min m Z) ⟨b,o',none⟩ m sc cs hn (λj v hj=>by rw[Qbc];exact a4 b o' rfl j v hj);simp only[Nat.add_zero]at a0;simp[Builtin.copy_,run_underlying hu,Builtin.lenOf,sizeOf,typeInfo,hq,hi,hl,a0]
theorem QkM{o:Oper}{a:Act}{K:Act->World->Prop}{Q:Exit->Act->World->Prop}(d s:Operand)(t I:TypeId)
  (ho:o.op=.call { callee:=.builtin .copy,args:=#[d,s],argTypes:=#[t,I] }) (v u:Value) (hd:a.eval d=v) (hs:a.eval s=u) {N:Value} {w':World}
  (Z:(Builtin.copy_ #[t,I] o.type #[v,u]).run P w=.ok N w') (h:K (a.put o.dst N) w'):o.wp P a w K Q:=by
 unfold Oper.wp execOp;simp only[ho,resolve,invoke,builtin,Sem.run_bind,Sem.run_pure,Result.andThen_ok,List.map_toArray,List.map_cons,List.map_nil,hd,hs,Z];exact h
theorem Qcd{ops:Array Oper}{rest:List Oper}{o:Oper}{a:Act}{Q:Exit->Act->World->Prop}(N:o.guard=none)(d s:Operand)(t I:TypeId)
  (ho:o.op=.call { callee:=.builtin .copy,args:=#[d,s],argTypes:=#[t,I] }) (v u:Value) (hd:a.eval d=v) (hs:a.eval s=u) {Z:Value} {w':World}
  (hr:(Builtin.copy_ #[t,I] o.type #[v,u]).run P w=.ok Z w') (h:wpList P ops Q rest (a.put o.dst Z) w'):wpList P ops Q (o::rest) a w:=
 fP N λ_ hK=>QkM w d s t I ho v u hd hs hr (hK _ _ h)
theorem Qdj{ops:Array Oper}{o:Oper}{a:Act}{K:Act->World->Prop}{Q:Exit->Act->World->Prop}{E:Prop}(N:o.guard=none)(d s:Operand)(t I:TypeId)
  (ho:o.op=.call { callee:=.builtin .copy,args:=#[d,s],argTypes:=#[t,I] }) (v u:Value) (hd:a.eval d=v) (hs:a.eval s=u) {Z:Value} {w':World}
  (hr:(Builtin.copy_ #[t,I] o.type #[v,u]).run P w=.ok Z w') (h:K (a.put o.dst Z) w') :
  if Region.wanted o (yielded ops a.tmps)=true then Oper.wp P o a w K Q else E:=by
 have hw:Region.wanted o (yielded ops a.tmps)=true:=by simp[Region.wanted,N]
 rw[eH hw];exact QkM w d s t I ho v u hd hs hr h
theorem wpList_append_run{ops:Array Oper}{rest:List Oper}{o:Oper}{a:Act}{Q:Exit->Act->World->Prop}(I:o.guard=none)(d s:Operand)(t Z:TypeId)
  (ho:o.op=.call { callee:=.builtin .append,args:=#[d,s],argTypes:=#[t,Z] }) (v u:Value) (hd:a.eval d=v) (hs:a.eval s=u) {N:Value} {w':World}
  (hr:(Builtin.append_ #[t,Z] o.type #[v,u]).run P w=.ok N w') (h:wpList P ops Q rest (a.put o.dst N) w'):wpList P ops Q (o::rest) a w:=by
 refine fP I λ_ hK=>?_
 unfold Oper.wp execOp;simp only[ho,resolve,invoke,builtin,Sem.run_bind,Sem.run_pure,Result.andThen_ok,List.map_toArray,List.map_cons,List.map_nil,hd,hs,hr];exact hK _ _ h
theorem Wr.setRow{g:Nat}(cs:Array Value):Wr w (w.setRow g cs) (some g):=
 ⟨⟨rfl,rfl,rfl,oO,λk _ I=>fQ w g k _ (λe=>I (by simp[e]))⟩,λb o=>QjF _ _ _ _ _⟩
theorem Wr.trans{a b c:World}{r:Option Nat}(h:Wr a b r){Z:Option Nat}(k:Wr b c Z)(hr:∀i,Z=some i->r=some i\/a.heap.size<=i):Wr a c r:=
 ⟨⟨k.grown.os.trans h.grown.os,k.grown.tape.trans h.grown.tape,k.grown.output.trans h.grown.output,ak h.grown.size k.grown.size,fun i hi I=>(k.grown.block i (ab hi h.grown.size) (fun e=>by
   rcases hr i e.symm with N|N
   .exact I N.symm
   omega)).trans (h.grown.block i hi I)⟩,λb o=>(k.fz b o).trans (h.fz b o)⟩
theorem Wr.drew{a b:World}{r:Option Nat}(h:Wr a b r):Wr a b.drew r:=⟨⟨h.grown.os,h.grown.tape,h.grown.output,h.grown.size,h.grown.block⟩,h.fz⟩
theorem Wr.alloc{a b:World}{r:Option Nat}(h:Wr a b r)(c:Array Value)(t:TypeId):Wr a (b.alloc (.cells c t)) r:=
 ⟨⟨h.grown.os,h.grown.tape,h.grown.output,by have:=h.grown.size;simp;omega,λi hi I=>(eY b _ i (ab hi h.grown.size)).trans (h.grown.block i hi I)⟩,λN o=>(Ql1 b c t N o).trans (h.fz N o)⟩
end
abbrev gz:=@Rd.QaI
abbrev gD:=@Wr.setRow
def QcL(n:Nat)(p:Nat->Bool)(w:World)(e:Ending)(w':World):Prop:=
 ∃k:Nat,e=.returned (.int .i64 k)/\k<=n/\(∀i,i<k->p i=false)/\(∀i,k<=i->i<n->p i=true)/\Ext w w'
theorem Qd0(g:Nat)(v1 v2:Value)(n:Nat)(p:Nat->Bool)(w:World)(eg:∀args w,(callFunc g args).run prog w=.ok (.enter g args) w)(hn:n<4611686018427387904)
  (hg:∀(i:Nat) (W:World),i<n->Ext w W->Calls prog g #[.int .i64 i,v1,v2] W λe w'=>e=.returned (p i)/\Ext W w')
  (hm:∀i j,i<=j->j<n->p i=true->p j=true) :
  Calls prog 69 #[.int .i64 n,.func (.func g) #[] #[v1,v2]] w (QcL n p w):=by
 obtain⟨HG,HM⟩:=Yb hg hm;clear hg hm;go_in;go_wp2_with fail;go_loopw[5,6] (λi j wr=>∃a b:Nat,i=.int .i64 a/\j=.int .i64 b/\a<=b/\b<=n/\(∀i,i<a->p i=false)/\(∀i,b<=i->i<n->p i=true)/\Ext w wr) (λi j _=>(intOf j).toNat -(intOf i).toNat)
 case atStart=>exact⟨0,n,rfl,rfl,aA _,ao _,λ_ h=>absurd h oM,λ_ h h'=>absurd h oM,gh _⟩
 obtain⟨a,b,rfl,rfl,a7,a0,a1,a2,hx⟩:=hrel;obtain⟨a3,a4⟩:=Yb a1 a2;clear a1 a2;by_cases a6:a<b
 ·go_wp2_with fail
  rw[show((a:Int)+b)/2=(((a+b)/2:Nat):Int)from oM];have hc:=HG.o ((a+b)/2) wr oM hx;generalize hh:(a+b)/2=h at *;have h1:a<=h:=oM
  have h2:h<b:=oM
  clear hh;cases N:p h with
  | false=>
    rw[N]at hc;have HP:=hY N;clear N;refine hc.mono ?_;rintro e w1 ⟨rfl,I⟩;go_wp2_with fail;go_roundw
    case rel=>exact⟨h+1,b,by go_num,rfl,oM,a0,λi hi=>by
     by_cases Z:p i=true
     ·have:=HM.o i h oM oM Z
      rw[HP.o]at this;cases this
     simpa using Z,a4.o,hx.trans I⟩
    simp[intOf];omega
  | true=>
    rw[N]at hc;have HP:=hY N;clear N;refine hc.mono ?_;rintro e w1 ⟨rfl,I⟩;go_wp2_with fail;go_roundw
    case rel=>exact⟨a,h,rfl,rfl,h1,oM,a3.o,λi hi a5=>HM.o h i hi a5 HP.o,hx.trans I⟩
    simp[intOf];omega
 obtain rfl:a=b:=oM
 go_wp2_with fail;go_ret;exact⟨a,rfl,a0,a3.o,a4.o,hx⟩
abbrev eJ:=@beq_eq_false_iff_ne
abbrev eQ:=@ByteArray.toList_eq
abbrev eU:=@Bool.and_eq_true
abbrev e9:=@decide_eq_true_eq
abbrev fA:=@if_false
abbrev klt(a b:ByteArray):Bool:=Op.bytesLess a.toList b.toList
theorem Qje:∀a:List UInt8,Op.bytesLess a a=false
 |[]=>rfl
 |a::x=>by simp[Op.bytesLess,Qje x]
theorem QlT:∀a b c:List UInt8,Op.bytesLess a b=true->Op.bytesLess b c=true->Op.bytesLess a c=true
 |_,_,[],_,h=>by simp[Op.bytesLess]at h
 |_,[],_::_,h,_=>by simp[Op.bytesLess]at h
 |[],_::_,_::_,_,_=>rfl
 | a :: x,b :: y,c :: z,h,I=>by
   simp only[Op.bytesLess,Bool.or_eq_true,Bool.and_eq_true,decide_eq_true_eq,beq_iff_eq]at h I ⊢;rcases h with h |⟨rfl,h⟩<;>rcases I with I |⟨rfl,I⟩
   .exact .inl (UInt8.lt_trans h I)
   .exact .inl h
   .exact .inl I
   exact .inr ⟨rfl,QlT x y z h I⟩
theorem QlS:∀a b:List UInt8,Op.bytesLess a b=false->Op.bytesLess b a=false->a=b
 |[],[],_,_=>rfl
 |[],_::_,h,_=>by simp[Op.bytesLess]at h
 |_::_,[],_,h=>by simp[Op.bytesLess]at h
 | a :: x,b :: y,h,h'=>by
   simp only[Op.bytesLess,Bool.or_eq_false_iff,decide_eq_false_iff_not,Bool.and_eq_false_iff,beq_eq_false_iff_ne]at h h';have e:a=b:=by
    have h1:=h.1;have h2:=h'.1;exact UInt8.le_antisymm (UInt8.not_lt.1 h2) (UInt8.not_lt.1 h1)
   subst e;have h1:=h.2.resolve_left oO;have h2:=h'.2.resolve_left oO;rw[QlS x y h1 h2]
theorem toList_inj{a b:ByteArray}(h:a.toList=b.toList):a=b:=by
 rw[eQ,eQ]at h;cases a;cases b;simp only[ByteArray.mk.injEq];exact Array.ext' h
theorem Qag(a:ByteArray):klt a a=false:=Qje _
theorem QaH{a b c:ByteArray}(h:klt a b=true)(k:klt b c=true):klt a c=true:=QlT _ _ _ h k
theorem QbE{a b:ByteArray}(h:klt a b=false)(k:klt b a=false):a=b:=toList_inj (QlS _ _ h k)
theorem Qbh{a b:ByteArray}(h:klt a b=true):klt b a=false:=by
 cases I:klt b a
 .rfl
 have:=QaH h I;rw[Qag]at this;cases this
theorem QcU{a b:ByteArray}(h:klt a b=false)(I:a≠b):klt b a=true:=by
 cases N:klt b a
 .exact absurd (QbE h N) I
 rfl
theorem Qdx{a b c:ByteArray}(h:klt b a=false)(k:klt b c=true):klt a c=true:=by
 cases I:klt a b
 .rw [QbE I h];exact k
 exact QaH I k
theorem QfA{a b c:ByteArray}(h:klt a b=true)(k:klt c b=false):klt a c=true:=by
 cases I:klt b c
 .rw [<-QbE I k];exact h
 exact QaH h I
theorem beq_toList(a b:ByteArray):(a.toList==b.toList)=decide (a=b):=by
 by_cases h:a=b
 .subst h;simp
 simp only[h,decide_false,beq_eq_false_iff_ne]
 exactλe=>h (toList_inj e)
theorem Quo(a b:ByteArray):(!(Op.bytesLess a.toList b.toList||a.toList==b.toList))=klt b a:=by
 cases h:klt b a
 ·cases I:klt a b
  .rw [QbE h I];simp
  show(!(klt a b||_))=false;rw[I];rfl
 have h1:=Qbh h;have h2:a≠b:=by rintro rfl;rw[Qag]at h;cases h
 show(!(klt a b||_))=true;rw[h1,beq_toList];simp[h2]
abbrev Ent:=ByteArray × Val
def Sorted(es:List Ent):Prop:=es.Pairwise λa b=>klt a.1 b.1=true
def QbY:List Ent->ByteArray->Val->List Ent
 |[],k,v=>[(k,v)]
 |e::es,k,v=>if klt e.1 k then e::QbY es k v else if e.1=k then(k,v)::es else(k,v)::e::es
def QbM:List Ent->ByteArray->List Ent
 |[],_=>[]
 |e::es,k=>if klt e.1 k then e::QbM es k else if e.1=k then es else e::es
def Qaq:List Ent->ByteArray->Option Val
 |[],_=>none
 |e::es,k=>if e.1=k then some e.2 else Qaq es k
theorem Qiz{A:List Ent}{k:ByteArray}(h:∀e∈A,klt e.1 k=true)(B:List Ent)(v:Val):QbY (A++B) k v=A++QbY B k v:=by
 induction A with
 |nil=>rfl
 | cons a A ih=>
   have N:=h a (aF ..);simp only[List.cons_append,QbY,N,if_true];rw[ih λe I=>h e (aS _ I)]
theorem QgD{C:List Ent}{k:ByteArray}(h:∀e∈C,klt k e.1=true)(v:Val):∀B:List Ent,QbY (B++C) k v=QbY B k v++C
 | []=>by
   cases C with
   |nil=>rfl
   | cons c C=>
     have I:=h c (aF ..);have h1:=Qbh I;have h2:c.1≠k:=by rintro rfl;rw[Qag]at I;cases I
     simp[QbY,h1,h2]
 | b :: B=>by
   simp only[List.cons_append,QbY];split
   .rw [QgD h v B,aM]
   split<;>rfl
theorem Qtg{B:List Ent}{k:ByteArray}(h:∀e∈B,klt e.1 k=false)(v:Val):QbY B k v=(k,v) ::(if B.head?.map Prod.fst=some k then B.tail else B):=by
 cases B with
 |nil=>rfl
 | cons b B=>
   have I:=h b (aF ..);simp only[QbY,I,Bool.false_eq_true,if_false,List.head?_cons,Option.map_some,Option.some.injEq,List.tail_cons];split<;>rfl
theorem Qik{A:List Ent}{k:ByteArray}(h:∀e∈A,klt e.1 k=true)(B:List Ent):QbM (A++B) k=A++QbM B k:=by
 induction A with
 |nil=>rfl
 | cons a A ih=>
   have N:=h a (aF ..);simp only[List.cons_append,QbM,N,if_true];rw[ih λe I=>h e (aS _ I)]
theorem Qgu{C:List Ent}{k:ByteArray}(h:∀e∈C,klt k e.1=true):∀B:List Ent,QbM (B++C) k=QbM B k++C
 | []=>by
   cases C with
   |nil=>rfl
   | cons c C=>
     have I:=h c (aF ..);have h1:=Qbh I;have h2:c.1≠k:=by rintro rfl;rw[Qag]at I;cases I
     simp[QbM,h1,h2]
 | b :: B=>by
   simp only[List.cons_append,QbM];split
   .rw [Qgu h B,aM]
   split<;>rfl
theorem Qs5{B:List Ent}{k:ByteArray}(h:∀e∈B,klt e.1 k=false):QbM B k=if B.head?.map Prod.fst=some k then B.tail else B:=by
 cases B with
 |nil=>simp[QbM]
 | cons b B=>
   have I:=h b (aF ..);simp only[QbM,I,Bool.false_eq_true,if_false,List.head?_cons,Option.map_some,Option.some.injEq,List.tail_cons]
theorem QeL{B:List Ent}{k:ByteArray}(h:∀e∈B,e.1≠k):Qaq B k=none:=by
 induction B with
 |nil=>rfl
 |cons b B ih=>simp only[Qaq,h b (List.mem_cons_self ..),if_false];exact ih λe I=>h e (aS _ I)
theorem Ql3{A:List Ent}{k:ByteArray}(h:∀e∈A,klt e.1 k=true)(B:List Ent):Qaq (A++B) k=Qaq B k:=by
 induction A with
 |nil=>rfl
 | cons a A ih=>
   have I:=h a (aF ..);have h2:a.1≠k:=by rintro rfl;rw[Qag]at I;cases I
   simp only[List.cons_append,Qaq,h2,if_false];exact ih λe N=>h e (aS _ N)
theorem QjG{C:List Ent}{k:ByteArray}(h:∀e∈C,klt k e.1=true):∀B:List Ent,Qaq (B++C) k=Qaq B k
 |[]=>QeL λe I=>by rintro rfl;have:=h e I;rw[Qag]at this;cases this
 |b::B=>by simp only[List.cons_append,Qaq];rw[QjG h B]
theorem QiF{es:List Ent}{k:ByteArray}{v:Val}{x:Ent}(h:x∈QbY es k v):x=(k,v)\/x∈es:=by
 induction es with
 |nil=>simpa[QbY]using h
 | cons e es ih=>
   simp only[QbY]at h;split at h
   ·rcases aH.1 h with h | h
    .exact .inr (by simp[h])
    rcases ih h with h|h
    .exact .inl h
    exact .inr (aS _ h)
   split at h
   ·rcases aH.1 h with h | h
    .exact .inl h
    exact .inr (aS _ h)
   rcases aH.1 h with h|h
   .exact .inl h
   exact .inr h
theorem Qa1{es:List Ent}(h:Sorted es)(k:ByteArray)(v:Val):Sorted (QbY es k v):=by
 induction es with
 |nil=>exact List.pairwise_singleton ..
 | cons e es ih=>
   have Z:=be.1 h;simp only[QbY];split
   ·rename_i I
    refine be.2 ⟨λx N=>?_,ih Z.2⟩;rcases QiF N with rfl|N
    .exact I
    exact Z.1 x N
   rename_i I;have I:klt e.1 k=false:=by simpa using I
   split
   ·rename_i he
    subst he;exact be.2 ⟨λx N=>Z.1 x N,Z.2⟩
   rename_i he;have hk:=QcU I he;refine be.2 ⟨λx N=>?_,h⟩;rcases aH.1 N with rfl|N
   .exact hk
   exact QaH hk (Z.1 x N)
theorem Qa3(es:List Ent)(k:ByteArray):(QbM es k).Sublist es:=by
 induction es with
 |nil=>exact .slnil
 | cons e es ih=>
   simp only[QbM];split
   .exact ih.cons_cons _
   split
   .exact List.sublist_cons_self ..
   exact List.Sublist.refl _
theorem QaN{es:List Ent}(h:Sorted es)(k:ByteArray):Sorted (QbM es k):=di (Qa3 es k) h
def PT:Nat->Type
 |0=>Nat × List Ent
 |h+1=>Nat × List (PT h)
def addr:(h:Nat)->PT h->Nat
 |0,t=>t.1
 |_+1,t=>t.1
def size:(h:Nat)->PT h->Nat
 |0,t=>t.2.length
 |_+1,t=>t.2.length
def ents:(h:Nat)->PT h->List Ent
 |0,t=>t.2
 |h+1,t=>t.2.flatMap (ents h)
def thin:(h:Nat)->PT h->Bool
 |0,_=>false
 |h+1,t=>t.2.any λk=>thin h k||decide (size h k<4)
def OkT:(h:Nat)->PT h->Prop
 |0,t=>t.2.length<=8
 |h+1,t=>2<=t.2.length/\t.2.length<=8/\∀k∈t.2,OkT h k/\4<=size h k
def Qav(es:List Ent):ByteArray:=(es.head?.map Prod.fst).getD ByteArray.empty
def Qbl(es:List Ent):ByteArray:=(es.getLast?.map Prod.fst).getD ByteArray.empty
theorem Qbk:∀(h:Nat) (t:PT h),OkT h t->1<=size h t->0<(ents h t).length
 |0,_,_,hs=>hs
 | h+1,t,ok,hs=>by
   obtain⟨a,ks⟩:=t;cases ks with
   |nil=>simp[size]at hs
   | cons k ks=>
     have:=ok.2.2 k (aF ..);have:=Qbk h k this.1 oM;simp only[ents,List.flatMap_cons,List.length_append];omega
theorem QcT:∀(h:Nat) (t:PT h),OkT h t->1<=size h t->h<(ents h t).length
 |0,_,_,hs=>hs
 | h+1,t,ok,hs=>by
   obtain⟨a,ks⟩:=t
   match ks,ok with
   |[],ok=>exact absurd ok.1 oO
   |[k],ok=>exact absurd ok.1 oO
   | k :: k' :: ks,ok=>
     have h1:=ok.2.2 k (aF ..);have h2:=ok.2.2 k' (aS _ (aF ..));have h1:=QcT h k h1.1 oM;have h2:=Qbk h k' h2.1 oM;simp only[ents,List.flatMap_cons,List.length_append];omega
abbrev eX:=@World.block_lt_of_cell?
structure LE where
 k:ByteArray
 v:Val
 sl:Sl
 so:Sl
def LE.ent(x:LE):Ent:=(x.k,x.v)
def LE.cells(x:LE):List Value:=[.string x.k,.int .i64 x.v.kind,.bool x.v.b,.int .i64 x.v.i,.string x.v.t,.slice x.sl.a x.v.l.length x.sl.c,.slice x.so.a x.v.ok.length x.so.c]
def QaD(xs:List LE):List Value:=xs.flatMap LE.cells
theorem Qpe:QaD []=[]:=rfl
theorem QbO(x:LE)(xs:List LE):QaD (x::xs)=x.cells++QaD xs:=by simp[QaD]
theorem Qcp(xs ys:List LE):QaD (xs++ys)=QaD xs++QaD ys:=by simp[QaD]
theorem LE.len(x:LE):x.cells.length=7:=rfl
theorem QcR(xs:List LE):(QaD xs).length=xs.length*7:=by
 induction xs with
 |nil=>rfl
 |cons x xs ih=>rw[QbO,aj,ih,LE.len,aC];omega
theorem Qc4:∀{xs:List LE} {i:Nat} {x:LE},xs[i]? = some x->∀c,c<7->(QaD xs)[i*7+c]? = x.cells[c]?
 |[],i,x,h,_,_=>by simp at h
 | y :: ys,0,x,h,c,hc=>by
   simp at h;subst h;rw[QbO,cE,aD,bu (by rw[LE.len];exact hc)]
 | y :: ys,i+1,x,h,c,hc=>by
   simp at h;rw[QbO,aP (by rw[LE.len];omega),LE.len,show(i+1)*7+c-7=i*7+c from oM];exact Qc4 h c hc
theorem QcS(xs:List LE)(i:Nat):(QaD xs).take (i*7)=QaD (xs.take i):=by
 induction xs generalizing i with
 |nil=>simp[QaD]
 | cons x xs ih=>
   cases i with
   |zero=>simp[QaD]
   | succ i=>
     rw[bp,QbO,QbO,List.take_append,LE.len,aW (by rw[LE.len];omega),show(i+1)*7-7=i*7 from oM,ih]
theorem QcQ(xs:List LE)(i:Nat):(QaD xs).drop (i*7)=QaD (xs.drop i):=by
 induction xs generalizing i with
 |nil=>simp[QaD]
 | cons x xs ih=>
   cases i with
   |zero=>simp
   | succ i=>
     rw[dY,QbO,List.drop_append,LE.len,bX (by rw[LE.len];omega),show(i+1)*7-7=i*7 from oM,ih,aG]
def QmT(w:World)(F:Nat->Prop)(xs:List LE):Prop:=∀x∈xs,RV w F x.v x.sl x.so/\x.k.size<=maxLen
variable{xs:List LE}
theorem QmT.agree(h:QmT w F xs)(N:Agree F w w'):QmT w' F xs:=λx I=>⟨(h x I).1.agree N,(h x I).2⟩
theorem QmT.mono(h:QmT w F xs)(N:∀i,F i->G i):QmT w G xs:=λx I=>⟨(h x I).1.mono N,(h x I).2⟩
structure ES(w:World)(F:Nat->Prop)(s:Sl)(xs:List LE):Prop where
 rd:Rd w F 7 s xs.length (QaD xs)
 vals:QmT w F xs
 few:xs.length*104<=140737488355328
theorem ES.agree(h:ES w F s xs)(I:Agree F w w'):ES w' F s xs:=⟨h.rd.agree I,h.vals.agree I,h.few⟩
theorem ES.mono(h:ES w F s xs)(I:∀i,F i->G i):ES w G s xs:=⟨h.rd.mono I,h.vals.mono I,h.few⟩
theorem ES.nil(w:World)(F:Nat->Prop):ES w F Sl.none []:=⟨Rd.nil _ _ _,λx h=>by simp at h,oO⟩
variable{x:LE}
theorem ES.at(h:ES w F s xs){i:Nat}(N:xs[i]? = some x) :
  ∃b o,s.a=some ⟨b,o,none⟩/\F b/\xs.length<=s.c/\s.c<=maxLen/\w.cell? ⟨b,o+i*7,none⟩=some (.string x.k)/\QaV w b (o+i*7+1) x.v x.sl x.so/\RV w F x.v x.sl x.so/\x.k.size<=maxLen:=by
 obtain⟨b,o,h1,h2,h3⟩:=h.rd;have hi:i<xs.length:=(ae.1 N).1;obtain⟨e1,e2,e3⟩:=h1.eq oM;have I:∀c u,c<7->x.cells[c]? = some u->w.cell? ⟨b,o+i*7+c,none⟩=some u:=λc u I hu=>by
  rw[bH];exact h3 _ u (by rw[Qc4 N c I];exact hu)
 have Z:=h.vals x (am N);exact⟨b,o,e1,h1.fits oM,e2,e3,I 0 _ oM rfl,⟨I 1 _ oM rfl,I 2 _ oM rfl,I 3 _ oM rfl,I 4 _ oM rfl,I 5 _ oM rfl,I 6 _ oM rfl⟩,Z.1,Z.2⟩
abbrev ptr(h:Nat)(t:PT h):Value:=.pointer (some ⟨addr h t,0,none⟩)
def ptrs(h:Nat)(ks:List (PT h)):List Value:=ks.map (ptr h)
def IsN(w:World)(F:Nat->Prop):(h:Nat)->PT h->Prop
 |0,t=>F t.1/\∃(s:Sl) (xs:List LE),Blk w t.1 159 #[.slice s.a xs.length s.c,.slice none 0 0,.int .i64 0,.int .i64 xs.length,.string (Qav t.2),.string (Qbl t.2),.bool false]/\ES w F s xs/\xs.map LE.ent=t.2
 |h+1,t=>F t.1/\∃s:Sl,Blk w t.1 159 #[.slice none 0 0,.slice s.a t.2.length s.c,.int .i64 ((h+1:Nat):Int),.int .i64 (ents (h+1) t).length,.string (Qav (ents (h+1) t)),.string (Qbl (ents (h+1) t)),.bool (thin (h+1) t)]/\
    Rd w F 1 s t.2.length (ptrs h t.2)/\∀k∈t.2,IsN w F h k
theorem IsN.agree(I:Agree F w w'):∀{h:Nat} {t:PT h},IsN w F h t->IsN w' F h t
 |0,_,⟨h1,s,xs,h2,h3,h4⟩=>⟨h1,s,xs,h2.agree I h1,h3.agree I,h4⟩
 |_+1,_,⟨h1,s,h2,h3,h4⟩=>⟨h1,s,h2.agree I h1,h3.agree I,λk N=>(h4 k N).agree I⟩
theorem IsN.mono(I:∀i,F i->G i):∀{h:Nat} {t:PT h},IsN w F h t->IsN w G h t
 |0,_,⟨h1,s,xs,h2,h3,h4⟩=>⟨I _ h1,s,xs,h2,h3.mono I,h4⟩
 |_+1,_,⟨h1,s,h2,h3,h4⟩=>⟨I _ h1,s,h2,h3.mono I,λk N=>(h4 k N).mono I⟩
variable{h:Nat}
theorem IsN.ext{t:PT h}(N:IsN w (Lt w) h t)(I:Ext w w'):IsN w' (Lt w') h t:=
 (N.agree (I.agree λ_ h=>h)).mono λ_ hi=>ab hi I.size
theorem IsN.cells:∀{h:Nat} {t:PT h},IsN w F h t->F (addr h t)/\∃(Z sk:Sl) (I N:Nat),I+N=size h t/\
  Blk w (addr h t) 159 #[.slice Z.a I Z.c,.slice sk.a N sk.c,.int .i64 h,.int .i64 (ents h t).length,.string (Qav (ents h t)),.string (Qbl (ents h t)),.bool (thin h t)]
 |0,_,⟨h1,s,xs,h2,h3,h4⟩=>⟨h1,s,Sl.none,xs.length,0,by rw[size,<-h4,aq];rfl,by rw[show(ents 0 _).length=xs.length from by rw[ents,<-h4,aq]];exact h2⟩
 |_+1,_,⟨h1,s,h2,h3,h4⟩=>⟨h1,Sl.none,s,0,_,by rw[size,aD],h2⟩
variable{g:Nat}
theorem Blk.c7{t:TypeId}{v0 I v2 v3 v4 N Z:Value}(h:Blk w g t #[v0,I,v2,v3,v4,N,Z]):w.cell? g=some v0/\w.cell? ⟨g,1,none⟩=some I/\w.cell? ⟨g,2,none⟩=some v2/\w.cell? ⟨g,3,none⟩=some v3/\w.cell? ⟨g,4,none⟩=some v4/\w.cell? ⟨g,5,none⟩=some N/\w.cell? ⟨g,6,none⟩=some Z:=
 ⟨h.cell 0,h.cell 1,h.cell 2,h.cell 3,h.cell 4,h.cell 5,h.cell 6⟩
theorem QdV(w:World):Calls prog 66 #[.pointer none] w λe w'=>e=.returned (.int .i64 0)/\w=w':=by
 go_in;go_wp2;go_ret;exact⟨rfl,rfl⟩
theorem QaC{t:PT h}(I:IsN w F h t):Calls prog 66 #[ptr h t] w λe w'=>e=.returned h/\w=w':=by
 obtain⟨-,se,Z,ne,nk,-,N⟩:=I.cells;obtain⟨-,-,h2,-,-,-,-⟩:=N.c7;go_in;go_wp2;go_ret;exact⟨rfl,rfl⟩
theorem count_nil(w:World):Calls prog 73 #[.pointer none] w λe w'=>e=.returned (.int .i64 0)/\w=w':=by
 go_in;go_wp2;go_ret;exact⟨rfl,rfl⟩
theorem Qjp{t:PT h}(I:IsN w F h t):Calls prog 73 #[ptr h t] w λe w'=>e=.returned (.int .i64 (ents h t).length)/\w=w':=by
 obtain⟨-,se,Z,ne,nk,-,N⟩:=I.cells;obtain⟨-,-,-,h3,-,-,-⟩:=N.c7;go_in;go_wp2;go_ret;exact⟨rfl,rfl⟩
theorem Qgv{t:PT h}(I:IsN w F h t):Calls prog 102 #[ptr h t] w λe w'=>e=.returned (.string (Qav (ents h t)))/\w=w':=by
 obtain⟨-,se,sk,ne,nk,-,N⟩:=I.cells;obtain⟨-,-,-,-,Z,-,-⟩:=N.c7;go_in;go_wp2;go_ret;exact⟨rfl,rfl⟩
theorem QmD(w:World):Calls prog 70 #[.pointer none] w λe w'=>e=.returned (.int .i64 0)/\w=w':=by
 go_in;go_wp2;go_ret;exact⟨rfl,rfl⟩
theorem Qf8{t:PT h}(hn:IsN w F h t)(hs:size h t<=1000):Calls prog 70 #[ptr h t] w λe w'=>e=.returned (size h t)/\∃q,w'=w.drewN q:=by
 obtain⟨-,se,sk,ne,nk,I,Z⟩:=hn.cells;obtain⟨h0,h1,-,-,-,-,-⟩:=Z.c7;have a0:ne<=1000:=oM
 have N:nk<=1000:=oM
 rw[<-I];clear I;go_in;go_wp2_with fail;go_quiet (fail);go_wp2;go_ret;exact⟨oO,_,rfl⟩
theorem Qme{t:PT h}(I:IsN w F h t):Calls prog 177 #[ptr h t] w λe w'=>e=.returned (.string (Qbl (ents h t)))/\w=w':=by
 obtain⟨-,se,Z,ne,nk,-,N⟩:=I.cells;obtain⟨-,-,-,-,-,h5,-⟩:=N.c7;go_in;go_wp2;go_ret;exact⟨rfl,rfl⟩
def QfI(h:Nat)(t:PT h):Bool:=!thin h t&&decide (4<=size h t)
theorem QqA{t:PT h}(hn:IsN w F h t)(hs:size h t<=1000):Calls prog 119 #[ptr h t,false] w λe w'=>e=.returned (QfI h t)/\∃q,w'=w.drewN q:=by
 obtain⟨-,se,sk,ne,nk,-,Z⟩:=hn.cells;obtain⟨-,-,-,-,-,-,h6⟩:=Z.c7;have N:=Qf8 hn hs;clear Z;cases I:thin h t
 ·rw [I] at h6
  have e:QfI h t=decide (4<=size h t):=by simp[QfI,I]
  rw[e];clear e I;go_in;go_wp2_with fail;refine N.mono ?_;rintro e w' ⟨rfl,q,rfl⟩;go_wp2_with fail;go_ret;exact⟨by simp;omega,q,rfl⟩
 rw[I]at h6;have e:QfI h t=false:=by simp[QfI,I]
 rw[e];clear e I N;go_in;go_wp2_with fail;go_ret;exact⟨rfl,0,rfl⟩
theorem Tryz.Qbg:(prog.info? 46).map (λi=>(i.zero,i.size,i.bytes))=some (some (.pointer none),1,8):=kM
theorem QbF(h:Nat)(ks:List (PT h)):∀u∈ptrs h ks,u.oneCell'=true:=by
 intro u hu;obtain⟨k,-,rfl⟩:=bY.1 hu;rfl
def Qet(e':TypeId)(n:Nat)(cs:List Value)(w:World)(e:Ending)(w':World):Prop:=
 ∃s':Sl,e=.returned (.slice s'.a n s'.c)/\w'.ownsRow w.heap.size e' 1 (.slice s'.a n s'.c) n cs/\Ext w w'
theorem QoM(w:World):Calls prog 100 #[.slice none 0 0] w λe w'=>e=.returned (.slice none 0 0)/\w=w':=by
 have I:=λw'=>Lib.run_eql_slice_nil (P:=prog) w' 108 46 none 0 0 0 0 underlying108
 go_in;go_wp2_with fail;go_ret;exact⟨rfl,rfl⟩
theorem QoL(hr:Rd w F 1 s n cs)(h1:∀u∈cs,u.oneCell'=true)(hn:n<=1000) :
  Calls prog 100 #[.slice s.a n s.c] w (Qet 46 n cs w):=by
 obtain⟨i0,hi,a1,a4,a3⟩:=eR Tryz.Qbg;obtain⟨b,o,hs,hl,hc⟩:=hr;cases hs with
 | nil=>
   have:cs=[]:=au (by simpa using hl);subst this;have he:=λw'=>Lib.run_eql_slice_nil (P:=prog) w' 108 46 none 0 0 0 0 underlying108
   go_in;go_wp2_with fail;go_ret;exact⟨Sl.none,rfl,eS _ _ _ _,gh _⟩
 | zero ad=>
   have:cs=[]:=au (by simpa using hl);subst this;have he:=λw'=>Lib.run_eql_slice_nil (P:=prog) w' 108 46 (some ad) 0 0 0 0 underlying108
   have I:Rd (w.alloc (.cells #[] 46)) F 1 ⟨some ad,0⟩ 0 []:=⟨b,o,.zero _ _ _,rfl,λj u hj=>by simp at hj⟩;have HN:=hY I;have Z:0+0<=maxLen:=by unfold maxLen;omega
   clear I hc h1 hl;go_in;go_wp2_with(at_builtin;refine Qak _ rfl _ _ 108 rfl w.heap.size 46 i0 (.pointer none) 1 8 underlying108 hi a1 a4 a3 rfl oN ⟨some w,0⟩ 0 [] rfl (World.ownsRow_made w #[] 0 (ao _) oN rfl) F ⟨some ad,0⟩ 0 [] rfl HN.o oO Z oM oO ?_;intro s' w1 N a0 _;simp only[Nat.zero_add,List.nil_append]at N);go_ret;exact⟨s',oO,N,((gh w).alloc _ _).wr a0 (by rintro i ⟨⟩;exact ao _)⟩
 | some _ c _ _ hnc hcm hb=>
   have he:=λw'=>Lib.run_eql_slice_nil (P:=prog) w' 108 46 (some ⟨b,o,none⟩) n c 0 0 underlying108
   have a2:∀j u,cs[j]? = some u->b<w:=λj u hj=>eX w _ (hc j u hj)
   have I:Rd (w.alloc (.cells #[] 46)) F 1 ⟨some ⟨b,o,none⟩,c⟩ n cs:=⟨b,o,.some _ _ _ _ hnc hcm hb,hl,λj u hj=>(World.cell?_alloc_lt _ _ _ (a2 j u hj)).trans (hc j u hj)⟩;obtain⟨HN,H1⟩:=Yb I h1;have Z:0+n<=maxLen:=by unfold maxLen;omega
   clear I hc h1 hl a2;go_in;go_wp2_with(at_builtin;refine Qak _ rfl _ _ 108 rfl w.heap.size 46 i0 (.pointer none) 1 8 underlying108 hi a1 a4 a3 rfl oN ⟨some w,0⟩ 0 [] rfl (World.ownsRow_made w #[] 0 (ao _) oN rfl) F ⟨some ⟨b,o,none⟩,c⟩ n cs rfl HN.o H1.o Z oM oO ?_;intro s' w1 N a0 _;simp only[Nat.zero_add,List.nil_append]at N);go_ret;exact⟨s',oO,N,((gh w).alloc _ _).wr a0 (by rintro i ⟨⟩;exact ao _)⟩
theorem Qb9{t:PT (h+1)}(hn:IsN w F (h+1) t)(hs:t.2.length<=1000):Calls prog 67 #[ptr (h+1) t] w (Qet 46 t.2.length (ptrs h t.2) w):=by
 obtain⟨-,s,N,I,-⟩:=hn;have h1:w.cell? ⟨addr (h+1) t,1,none⟩=some (.slice s.a t.2.length s.c):=N.c7.2.1;have Z:=QoL I (QbF _ _) hs;have HR:=hY I;clear N I;go_in;go_wp2_with fail;refine Z.mono ?_;rintro e w' ⟨s',rfl,h2,h3⟩;have H2:=hY h2;clear h2;go_wp2_with fail;go_ret;exact⟨s',rfl,H2.o,h3⟩
theorem QjP{t:PT 0}(Z:IsN w F 0 t):Calls prog 67 #[ptr 0 t] w λe w'=>e=.returned (.slice none 0 0)/\w=w':=by
 obtain⟨-,s,xs,I,-,-⟩:=Z;have h1:w.cell? ⟨addr 0 t,1,none⟩=some (.slice none 0 0):=I.c7.2.1;have N:=QoM w;clear I;go_in;go_wp2_with fail;refine N.mono ?_;rintro e w' ⟨rfl,rfl⟩;go_wp2_with fail;go_ret;exact⟨rfl,rfl⟩
structure OE(w:World)(base:Nat)(s:Sl)(xs:List LE):Prop where
 own:w.ownsRow base 78 7 (.slice s.a xs.length s.c) xs.length (QaD xs)
 vals:QmT w (λb=>(base<=b/\b<w.heap.size)/\s.row≠some b) xs
 few:xs.length*104<=140737488355328
theorem OE.nil(w:World)(base:Nat):OE w base Sl.none []:=⟨World.ownsRow_nil _ _ _ _,λx h=>by simp at h,oO⟩
theorem OE.es{base:Nat}(h:OE w base s xs):ES w (In base w.heap.size) s xs:=⟨gz h.own,h.vals.mono λ_ hi=>hi.1,h.few⟩
theorem Qab{base e size n:Nat}{xs:List Value}(h:w.ownsRow base e size (.slice s.a n s.c) n xs)(ha:Agree F w w')(hF:∀b,s.row=some b->F b):w'.ownsRow base e size (.slice s.a n s.c) n xs:=by
 refine⟨h.1,?_⟩;rcases h.2 with hl |⟨g,N,I,Z,hg,hh,r⟩
 .exact .inl hl
 refine .inr ⟨g,N,I,Z,hg,?_,r⟩;simp only[Value.slice.injEq]at Z;exact(ha g (hF g (by simp[Sl.row,Z.1]))).trans hh
theorem OE.ext{base:Nat}(h:OE w base s xs)(I:Ext w w'):OE w' base s xs:=
 ⟨Qab h.own (I.agree (F:=Lt w) λ_ hi=>hi) λb N=>(h.own.lt b (by obtain⟨a,c⟩:=s;cases a<;>simp_all [Value.ownBlock,Sl.row])).2,
   (h.vals.agree (I.agree λ_ hi=>hi.1.2)).mono λi hi=>⟨⟨hi.1.1,ab hi.1.2 I.size⟩,hi.2⟩,h.few⟩
theorem Qe8.own(Z:Qap w B 78 7 xs.length)(hk:∀j x,xs[j]? = some x->w.cell? ⟨B,j*7,none⟩=some (.string x.k)/\QaV w B (j*7+1) x.v x.sl x.so)(hn:n<=B)(hm:xs.length<=maxLen) :
  w.ownsRow n 78 7 (.slice (some B) xs.length xs.length) xs.length (QaD xs):=by
 obtain⟨I,h1,h2⟩:=Z;refine⟨QcR xs,.inr ⟨B,xs.length,I,rfl,hn,h1,ao _,hm,h2,?_⟩⟩;rw[aW (by rw[aL,h2];exact ao _)];apply bI;intro p;by_cases hp:p<xs.length*7
 ·obtain ⟨j,c,rfl,a0⟩:∃ j c,p=j*7+c∧c<7:=⟨p / 7,p % 7,oM,oM⟩
  obtain⟨x,hx⟩:∃x,xs[j]? = some x:=⟨_,ac oM⟩;obtain⟨e0,e⟩:=hk _ _ hx;rw[Qc4 hx c a0];have hc:∀o,w.cell? ⟨B,o,none⟩=I.toList[o]?:=λo=>by rw[fB w B o I _ _ h1];simp
  rw[<-hc];have N:c=0\/c=1\/c=2\/c=3\/c=4\/c=5\/c=6:=oM
  rcases N with rfl|rfl|rfl|rfl|rfl|rfl|rfl
  .exact e0
  .exact e.c0
  .exact e.c1
  .exact e.c2
  .exact e.c3
  .exact e.c4
  exact e.c5
 rw[aI (by rw[aL,h2];omega),aI (by rw[QcR];omega)]
def Qhi(xs:List LE)(w:World)(e:Ending)(w':World):Prop:=
 ∃(s':Sl) (xs':List LE),e=.returned (.slice s'.a xs'.length s'.c)/\xs'.map LE.ent=xs.map LE.ent/\OE w' w.heap.size s' xs'/\Ext w w'
theorem Qhr(hs:ES w (Lt w.heap.size) s xs):Calls prog 112 #[.slice s.a xs.length s.c] w (Qhi xs w):=by
 obtain⟨i0,hi,c2,d3,b9⟩:=eR Tryz.Qa8;have a9:=hs.few;have c1:=λW=>QbG (P:=prog) 41 78 i0 _ underlying41 hi c2 .i64 .i64 xs.length xs.length (ao _) (by rw[b9];omega) oM W
 have HS:=hY hs;clear hs;go_in;go_wp2_with fail;clear c1;generalize a2:World.alloc _ _=W0;have a5:Ext w W0:=by rw[<-a2];exact(gh w).alloc _ _
 have hz:W0.heap.size=w.heap.size+1:=by rw[<-a2];simp
 have a3:Qap W0 w.heap.size 78 7 (xs.map LE.k).length:=by
  rw[<-a2,aq];exact Qap.made _ (fV _ _)
 clear a2;go_loopw[11] (λq wr=>∃(j:Nat) (f:Nat->Sl × Sl),j<=xs.length/\q=.int .i64 j/\Ext w wr/\Qe8 wr w.heap.size 78 (xs.map LE.k) (xs.map LE.v) j f) (λq _=>xs.length -(intOf q).toNat)
 case atStart=>exact⟨0,λ_=>(Sl.none,Sl.none),aA _,rfl,a5,Qe8.start a3 _⟩
 clear a5 hz a3 W0;obtain⟨j,f,hj,rfl,N,hf⟩:=hrel;have e2:w.heap.size<wr.heap.size:=hf.row.lt;by_cases b0:j<xs.length
 ·obtain ⟨x,a4⟩:∃ x,xs[j]? = some x:=⟨_,ac b0⟩
  have a1:Agree (Lt w.heap.size) w wr:=N.agree λ_ h=>h
  obtain⟨b,o,ha,a6,d6,c8,a8,hv,b3,c4⟩:=HS.o.at a4;obtain⟨v0,v1,v2,v3,v4,v5⟩:=(hv.agree a1 a6).m;have vk:=(a1.cell a6).trans a8;have c0:∀W,Ext wr W->Calls prog 55 #[QbV x.v x.sl x.so] W (Qeu x.v W):=λW hW=>
   QdS _ x.v (ao _) W _ _ ((b3.agree (a1.trans (hW.agree λ_ h=>ab h N.size))).mono λi hi=>ab hi (ak N.size hW.size))
  obtain⟨b6,HF,HX⟩:=Yc a4 hf N;have d8:¬w.heap.size=wr.heap.size:=oM
  have I:=hf.row;rw[aq]at I;obtain⟨x0,a5⟩:∃v,wr.cell? ⟨w.heap.size,j*7,none⟩=some v:=I.cell oM;obtain⟨x1,d4⟩:∃v,wr.cell? ⟨w.heap.size,j*7+1,none⟩=some v:=I.cell oM;obtain⟨x2,e3⟩:∃v,wr.cell? ⟨w.heap.size,j*7+2,none⟩=some v:=I.cell oM;obtain⟨x3,d7⟩:∃v,wr.cell? ⟨w.heap.size,j*7+3,none⟩=some v:=I.cell oM;obtain⟨x4,e1⟩:∃v,wr.cell? ⟨w.heap.size,j*7+4,none⟩=some v:=I.cell oM;obtain⟨x5,d5⟩:∃v,wr.cell? ⟨w.heap.size,j*7+5,none⟩=some v:=I.cell oM;obtain⟨x6,c9⟩:∃v,wr.cell? ⟨w.heap.size,j*7+6,none⟩=some v:=I.cell oM;have d0:=I.frozen;rw[ha];have HA:=hY ha;clear a4 a1 hf N hv a8 I ha b3 c4;go_wp2_with fail;go_region_held3 (λw'=>w'.cell? wr=some (.string x.k)/\w'.cell? ⟨wr.heap.size,1,none⟩=some (.int .i64 x.v.kind)/\w'.cell? ⟨wr.heap.size,2,none⟩=some (.bool x.v.b)/\w'.cell? ⟨wr.heap.size,3,none⟩=some (.int .i64 x.v.i)/\w'.cell? ⟨wr.heap.size,4,none⟩=some (.string x.v.t)/\w'.cell? ⟨wr.heap.size,5,none⟩=some (.slice x.sl.a x.v.l.length x.sl.c)/\w'.cell? ⟨wr.heap.size,6,none⟩=some (.slice x.so.a x.v.ok.length x.so.c)) (go_keep)
   ((go_at_call 55;refine(c0 _ (((gh wr).alloc _ _).drew)).mono ?_;rintro e w1 ⟨c6,c3,rfl,b4,c7⟩;have e0:=b4.olds))
  have a7:Ext wr w1:=(((gh wr).alloc _ _).drew).trans b4;have b7:=HF.o.step a7 (x:=x.k) (d:=x.v) (by rw[ar,b6.o];rfl) (by rw[ar,b6.o];rfl) (c7.mono λi hi=>⟨Nat.le_trans oO hi.1,hi.2⟩);have hX:=(HX.o.trans a7).QeW (b:=w.heap.size) (ao _) (j*7) x.k x.v c6 c3;have b8:=hY b7;clear b7;go_wp2_with fail;go_roundw
  case rel=>exact⟨j+1,_,b0,by go_num,hX,b8.o⟩
  simp[intOf];omega
 obtain rfl:j=xs.length:=oM
 have HF:=hY hf;clear hf;go_wp2_with fail;go_ret;have hf:=HF.o;obtain⟨a0,b5,Z⟩:∃a0:List LE,(∀(j:Nat) (x:LE),a0[j]? = some x->∃y:LE,xs[j]? = some y/\x=LE.mk y.k y.v (f j).1 (f j).2)/\a0.length=xs.length/\a0.map LE.ent=xs.map LE.ent:=by
  refine⟨xs.mapIdx λj y=>LE.mk y.k y.v (f j).1 (f j).2,λj x N=>?_,oO,?_⟩
  ·rw [dt] at N
   cases hy:xs[j]? with
   |none=>rw[hy]at N;cases N
   |some y=>rw[hy]at N;exact⟨y,rfl,by simpa using N.symm⟩
  apply bI;intro j;rw[ar,dt,ar];cases xs[j]?<;>rfl
 have hb:∀(j:Nat) (x:LE),a0[j]? = some x->j<xs.length/\(xs.map LE.k)[j]? = some x.k/\(xs.map LE.v)[j]? = some x.v/\x.sl=(f j).1/\x.so=(f j).2:=λj x N=>by
  obtain⟨y,hy,rfl⟩:=b5 j x N;exact⟨(ae.1 hy).1,by rw[ar,hy];rfl,by rw[ar,hy];rfl,rfl,rfl⟩
 have I:=hf.row;rw[aq,<-Z.1]at I;refine⟨⟨some w,a0.length⟩,a0,by simp[Z.1],Z.2,OE.mk ?_ ?_ (by rw[Z.1];exact a9),N⟩
 .exact Qe8.own I (λj x N=>by
   obtain⟨h1,h2,h3,h4,h5⟩:=hb j x N;rw[h4,h5];exact⟨hf.keys j _ h1 h2,hf.cells j _ h1 h3⟩) (ao _) (by rw[Z.1];unfold maxLen;omega)
 intro x N;obtain⟨j,hj⟩:=bz N;obtain⟨h1,h2,h3,h4,h5⟩:=hb j x hj;rw[h4,h5];refine⟨(hf.reads j _ h1 h3).mono λi hi=>⟨⟨oM,hi.2⟩,by simp[Sl.row];omega⟩,?_⟩;obtain⟨y,hy,rfl⟩:=b5 j x hj;exact(HS.o.vals y (am hy)).2
abbrev fC:=@World.size_drew
abbrev Qfu(k:ByteArray)(v:Val)(sl so:Sl):Value:=.agg #[.string k,.int .i64 v.kind,.bool v.b,.int .i64 v.i,.string v.t,.slice sl.a v.l.length sl.c,.slice so.a v.ok.length so.c]
def QaU(es:List Ent)(w:World)(e:Ending)(w':World):Prop:=
 ∃(s':Sl) (xs':List LE),e=.returned (.slice s'.a xs'.length s'.c)/\xs'.map LE.ent=es/\OE w' w.heap.size s' xs'/\Ext w w'
theorem Qej(w:World):Calls prog 76 #[.pointer none] w λe w'=>e=.returned (.slice none 0 0)/\w=w':=by
 go_in;go_wp2;go_ret;exact⟨rfl,rfl⟩
theorem Qin{t:PT (h+1)}(N:IsN w F (h+1) t):Calls prog 76 #[ptr (h+1) t] w λe w'=>e=.returned (.slice none 0 0)/\w=w':=by
 obtain⟨-,s,I,-⟩:=N;have Z:w.cell? ⟨addr (h+1) t,0,none⟩=some (.slice none 0 0):=I.c7.1;clear I;go_in;go_wp2;go_ret;exact⟨rfl,rfl⟩
theorem Qa5{t:PT 0}(hn:IsN w (Lt w) 0 t):Calls prog 76 #[ptr 0 t] w (QaU (ents 0 t) w):=by
 obtain⟨-,s,xs,hb,hs,I⟩:=hn;have h0:w.cell? ⟨addr 0 t,0,none⟩=some (.slice s.a xs.length s.c):=hb.c7.1;have hc:=Qhr hs;have HX:=hY I;clear hb I;by_cases hl:xs.length=0
 ·have N:xs=[]:=au hl
  subst N;clear hc;go_in;go_wp2_with fail;go_ret;exact⟨Sl.none,[],rfl,HX.o,OE.nil _ _,gh _⟩
 have N:((xs.length:Int)==0)=false:=eJ.2 oM;clear hl;go_in;go_wp2_with fail;refine hc.mono ?_;rintro e w' ⟨s',Z,rfl,h1,h2,h3⟩;have H1:=hY h1;clear h1;go_wp2_with fail;go_ret;exact⟨s',Z,rfl,H1.o.trans HX.o,h2,h3⟩
def zeroV:Val:=.mk 0 false 0 ByteArray.empty [] [] []
def Qdq(k:ByteArray)(v:Val)(w:World)(e:Ending)(w':World):Prop:=
 ∃sl so,e=.returned (.tuple #[Qfu k v sl so,.bool true])/\Ext w w'/\RVC w' (In w.heap.size w'.heap.size) v sl so
theorem Qjx{t:PT 0}(hn:IsN w (Lt w.heap.size) 0 t){i:Nat}{k:ByteArray}{v:Val}(hi:(ents 0 t)[i]? = some (k,v)) :
  Calls prog 72 #[ptr 0 t,i] w (Qdq k v w):=by
 obtain⟨-,s,xs,hb,hs,a2⟩:=hn;have h0:w.cell? ⟨addr 0 t,0,none⟩=some (.slice s.a xs.length s.c):=hb.c7.1;have c0:addr 0 t<w.heap.size:=hb.lt;obtain⟨x,hx,rfl,rfl⟩:∃x,xs[i]? = some x/\x.k=k/\x.v=v:=by
  rw[show ents 0 t=xs.map LE.ent from a2.symm,ar]at hi;cases hx:xs[i]? with
  |none=>rw[hx]at hi;cases hi
  |some x=>rw[hx]at hi;simp[LE.ent]at hi;exact⟨x,rfl,hi.1,hi.2⟩
 obtain⟨b,o,ha,a1,b8,b3,b9,hv,a0,a7⟩:=hs.at hx;obtain⟨v0,v1,v2,v3,v4,v5⟩:=hv.m;have b5:i<xs.length:=(ae.1 hx).1;have a9:=hs.few;have b0:(i:Int)<(xs.length:Int):=oM
 have b4:decide ((xs.length:Int)<=(i:Int))=false:=by simp;omega
 have b7:decide ((i:Int)<0)=false:=oO
 have a5:∀W,Ext w W->Calls prog 55 #[QbV x.v x.sl x.so] W (Qeu x.v W):=λW hW=>
  QdS _ x.v (ao _) W _ _ ((a0.agree (hW.agree λ_ h=>h)).mono λi hi=>ab hi hW.size)
 rw[ha]at h0;have a8:b<w.heap.size:=a1;clear hb a2 hs hi hv a0 a7 ha hx a1;go_in;go_wp2_with fail;go_region_held3 (λw'=>w'.cell? ⟨w.heap.size+1,0,none⟩=some (.string x.k)/\w'.cell? ⟨w.heap.size+1,1,none⟩=some (.int .i64 x.v.kind)/\w'.cell? ⟨w.heap.size+1,2,none⟩=some (.bool x.v.b)/\w'.cell? ⟨w.heap.size+1,3,none⟩=some (.int .i64 x.v.i)/\w'.cell? ⟨w.heap.size+1,4,none⟩=some (.string x.v.t)/\w'.cell? ⟨w.heap.size+1,5,none⟩=some (.slice x.sl.a x.v.l.length x.sl.c)/\w'.cell? ⟨w.heap.size+1,6,none⟩=some (.slice x.so.a x.v.ok.length x.so.c)) (go_keep)
  ((go_at_call 55;refine(a5 _ ((((gh w).alloc _ _).alloc _ _).drew)).mono ?_;rintro e w1 ⟨N,I,rfl,Z,a3⟩;have b6:=Z.olds))
 have hX:Ext w w1:=((((gh w).alloc _ _).alloc _ _).drew).trans Z;go_wp2_with fail;have a4:Blk w1 w.heap.size 78 #[.string ByteArray.empty,.int .i64 0,.bool false,.int .i64 0,.string ByteArray.empty,.slice none 0 0,.slice none 0 0]:=(Z.heap (by rw[fC,eK,eK];omega)).trans (heap_alloc2_old w _ _);obtain⟨q0,q1,q2,q3,q4,q5,q6⟩:=a4.c7;refine eN (v:=.tuple #[Qfu x.k x.v N I,true]) (by simp[results,results72,go_sem,q0,q1,q2,q3,q4,q5,q6]) rfl ?_;have hE:Ext w (QeW w1 w.heap.size 0 x.k x.v N I):=hX.QeW (ao _) 0 x.k x.v N I;refine⟨N,I,rfl,hE,?_,a3.cap⟩;show RV (QeW w1 w.heap.size 0 x.k x.v N I) (In w.heap.size (QeW w1 w.heap.size 0 x.k x.v N I).heap.size) _ _ _;rw[QgS];have a6:RV w1 (In (w.heap.size+1) w1.heap.size) x.v N I:=a3.mono λi hi=>⟨by have:=hi.1;simp at this;omega,hi.2⟩
 exact(a6.agree (QcY _ _ _ _ _ _ _ oM)).mono λi hi=>⟨oM,hi.2⟩
theorem Qhs{t:PT 0}(hn:IsN w (Lt w) 0 t){i:Int}(hi:i<0\/(ents 0 t).length<=i) :
  Calls prog 72 #[ptr 0 t,i] w λe w'=>e=.returned (.tuple #[Qfu ByteArray.empty zeroV Sl.none Sl.none,false])/\Ext w w':=by
 obtain⟨-,s,xs,hb,hs,N⟩:=hn;have h0:w.cell? ⟨addr 0 t,0,none⟩=some (.slice s.a xs.length s.c):=hb.c7.1;have a1:addr 0 t<w:=hb.lt;have hl:(ents 0 t).length=xs.length:=by rw[show ents 0 t=xs.map LE.ent from N.symm,aq]
 rw[hl]at hi;clear hb hs N hl;by_cases I:i<0
 ·have Z:decide (i<0)=true:=by simpa using I
  clear hi I;go_in;go_wp2_with fail;refine eN (v:=.tuple #[Qfu ByteArray.empty zeroV Sl.none Sl.none,false]) (by simp[results,results72,go_sem];exact⟨rfl,rfl,rfl,rfl,rfl,rfl,rfl⟩) rfl ⟨rfl,(gh w).alloc _ _⟩
 have a0:decide ((xs.length:Int)<=i)=true:=by simp;omega
 have Z:decide (i<0)=false:=by simpa using I
 clear hi I;go_in;go_wp2_with fail;refine eN (v:=.tuple #[Qfu ByteArray.empty zeroV Sl.none Sl.none,false]) (by simp[results,results72,go_sem];exact⟨rfl,rfl,rfl,rfl,rfl,rfl,rfl⟩) rfl ⟨rfl,(gh w).alloc _ _⟩
abbrev ff:=@enters_of
abbrev ft:=@Bool.not_eq_true'
def Qct(es:List Ent)(k:ByteArray):Nat:=(es.takeWhile λe=>klt e.1 k).length
theorem Qp8(es:List Ent)(k:ByteArray):Qct es k<=es.length:=(List.takeWhile_sublist _).length_le
theorem Qlr{es:List Ent}{k:ByteArray}{p:Nat}(hp:p<=es.length)(N:∀i e,i<p->es[i]? = some e->klt e.1 k=true)(I:∀e,es[p]? = some e->klt e.1 k=false):Qct es k=p:=by
 induction es generalizing p with
 |nil=>simp at hp;subst hp;rfl
 | cons a es ih=>
   cases p with
   |zero=>simp[Qct,I a rfl]
   | succ p=>
     have h0:=N 0 a oM rfl;have:=ih (p:=p) (by simpa using hp) (λi e hi Z=>N (i+1) e oM (by simpa using Z)) (λe Z=>I e (by simpa using Z));simp only[Qct,List.takeWhile_cons,h0,if_true,List.length_cons];rw[<-this];rfl
theorem QdK{es:List Ent}(h:Sorted es){i j:Nat}(I:i<j){a b:Ent}(ha:es[i]? = some a)(N:es[j]? = some b):klt a.1 b.1=true:=by
 obtain⟨hi,rfl⟩:=ae.1 ha;obtain⟨Z,rfl⟩:=ae.1 N;exact List.pairwise_iff_getElem.1 h i j hi Z I
variable{W:World}{b1 b2:Nat}
theorem QnG(hs:ES w (Lt w) s xs){k:ByteArray}(h1:W.cell? b1=some (.slice s.a xs.length s.c))(h2:W.cell? b2=some (.string k))(hx:Ext w W)
  {i:Nat} (hi:xs[i]? = some x):Calls prog 113 #[i,.pointer (some b1),.pointer (some b2)] W λe w'=>e=.returned (.bool !(klt x.k k))/\Ext W w':=by
 obtain⟨b,o,ha,N,a3,a2,I,-⟩:=hs.at hi;have hk:W.cell? ⟨b,o+i*7,none⟩=some (.string x.k):=(hx.cell N).trans I;have a1:i<xs.length:=(ae.1 hi).1;have a0:(i:Int)<(xs.length:Int):=oM
 have Z:=hs.few;rw[ha]at h1;clear hs hi hx ha I;go_in;go_wp2_with fail;go_quiet (fail);go_wp2;go_ret;exact⟨rfl,(gh W).drewN _⟩
def Qgf(es:List Ent)(k:ByteArray)(w:World)(e:Ending)(w':World):Prop:=
 e=.returned (.tuple #[.int .i64 (Qct es k),.bool (decide ((es[Qct es k]?).map Prod.fst=some k))])/\Ext w w'
theorem Qkd(hs:ES w (Lt w) s xs)(k:ByteArray)(N:Sorted (xs.map LE.ent)) :
  Calls prog 77 #[.slice s.a xs.length s.c,k] w (Qgf (xs.map LE.ent) k w):=by
 have b6:=hs.few;obtain⟨HS,HO⟩:=Yb hs N;have a9:∀W,Ext w W->W.cell? w=some (.slice s.a xs.length s.c)->W.cell? ⟨w+1,0,none⟩=some (.string k)->
   Calls prog 69 #[.int .i64 xs.length,.func (.func 113) #[] #[.pointer (some w),.pointer (some ⟨w+1,0,none⟩)]] W (QcL xs.length (λi=>!(klt ((xs[i]?.map LE.k).getD ByteArray.empty) k)) W):=by
  intro W hW h1 h2;refine Qd0 113 _ _ xs.length _ W (ff func113 kM rfl) oM ?_ ?_
  ·intro i W' hi a5
   obtain⟨x,I⟩:∃x,xs[i]? = some x:=⟨_,ac hi⟩;rw[I];have a0:=eX W _ h1;have a2:=eX W _ h2;exact QnG HS.o ((a5.cell a0).trans h1) ((a5.cell a2).trans h2) (hW.trans a5) I
  intro i j b9 hj Z;by_cases a6:i=j
  .subst a6;exact Z
  have a4:=HO.o;obtain⟨x,I⟩:∃x,xs[i]? = some x:=⟨_,ac oM⟩;obtain⟨y,hy⟩:∃y,xs[j]? = some y:=⟨_,ac hj⟩;have b4:=QdK a4 (i:=i) (j:=j) oM (by rw[ar,I];rfl) (by rw[ar,hy];rfl);rw[I]at Z;rw[hy];simp only[Option.map_some,Option.getD_some,Bool.not_eq_true']at Z ⊢;cases b3:klt y.k k
  .rfl
  have:=QaH b4 b3;rw[show klt x.ent.1 k=klt x.k k from rfl,Z]at this;cases this
 clear hs N;go_in;go_wp2_with fail;refine(a9 _ (((gh w).alloc _ _).alloc _ _) oO oO).mono ?_;rintro e w1 ⟨p,rfl,hp,a7,a8,a1⟩;have a0:Blk w1 w.heap.size 41 #[.slice s.a xs.length s.c]:=(a1.heap (by rw[eK,eK];omega)).trans (heap_alloc2_old w _ _);have a2:Blk w1 (w.heap.size+1) 9 #[.string k]:=(a1.heap (by rw[eK,eK];omega)).trans (heap_alloc2_new w _ _);have q1:=a0.cell 0;have q2:=a2.cell 0;have hX:Ext w w1:=(((gh w).alloc _ _).alloc _ _).trans a1;have a3:Qct (xs.map LE.ent) k=p:=Qlr (by simpa using hp) (λi e hi he=>by
   rw[ar]at he;obtain⟨x,I,rfl⟩:=dJ.1 he;have:(!(klt ((xs[i]?.map LE.k).getD ByteArray.empty) k))=false:=a7 i hi;rw[I]at this;show klt x.k k=true;simpa using this) (λe he=>by
   rw[ar]at he;obtain⟨x,I,rfl⟩:=dJ.1 he;have:(!(klt ((xs[p]?.map LE.k).getD ByteArray.empty) k))=true:=a8 p (ao _) (ae.1 I).1;rw[I]at this;show klt x.k k=false;simpa using this)
 have HP:=hY a3;clear a7 a8 a3 a9 a1 a0 a2;simp only[List.getElem?_toArray,List.getElem?_cons_zero]at q1 q2;by_cases a4:p<xs.length
 ·obtain ⟨x,I⟩:∃ x,xs[p]? = some x:=⟨_,ac a4⟩
  obtain⟨b,o,ha,b5,c0,b8,b0,-⟩:=HS.o.at I;have hk:w1.cell? ⟨b,o+p*7,none⟩=some (.string x.k):=(hX.cell b5).trans b0;have hd:decide ((p:Int)<(xs.length:Int))=true:=by simp;omega
  have b7:(p:Int)<(xs.length:Int):=oM
  obtain⟨HX,HE⟩:=Yb I hX;rw[ha]at q1;clear b0 I hX ha;go_wp2_with fail;go_quiet (fail);go_wp2;go_ret2;refine⟨?_,HE.o.drewN _⟩;rw[HP.o,ar,HX.o];show Ending.returned (.tuple #[p,.bool (x.k.toList==k.toList)])=_;rw[beq_toList];simp[LE.ent]
 have hd:decide ((p:Int)<(xs.length:Int))=false:=by simp;omega
 have HE:=hY hX;clear hX;go_wp2_with fail;go_quiet (fail);go_wp2;go_ret2;refine⟨?_,HE.o.drewN _⟩;rw[HP.o,ar,aI oM];rfl
abbrev eM:=@IntKind.wrap_i64
abbrev fv:=@World.cell?_drew
def Qev(base:Nat)(s:Sl)(n i:Nat)(xs ys:List Value)(w:World)(e:Ending)(w':World):Prop:=
 ∃s':Sl,e=.returned (.slice s'.a (n+1) s'.c)/\w'.ownsRow base 78 7 (.slice s'.a (n+1) s'.c) (n+1) (xs.take (i*7)++ys++xs.drop (i*7))/\Wr w w' s.row/\(s'.row=s.row\/∃b,s'.row=some b/\w.heap.size<=b)
section
variable{w : World}{base n i : Nat}{s : Sl}{xs ys : List Value}{vb : Nat}
theorem Qrx(I:w.ownsRow base 78 7 (.slice s.a n s.c) n xs)(Z:base<=w.heap.size)(hn:n<=1000)(hy:ys.length=7)(hv:Blk w vb 78 ys.toArray)(h1:∀u∈ys,u.oneCell'=true) :
  Calls prog 78 #[.slice s.a n s.c,n,.slice (some vb) 1 1] w (Qev base s n n xs ys w):=by
 obtain⟨i0,hi,a2,a4,a3⟩:=eR Tryz.Qa8;have N:Rd w (λ_=>True) 7 ⟨some vb,1⟩ 1 ys:=⟨vb,0,.some _ _ _ _ (ao _) oN trivial,by simpa using hy,λj u hj=>by rw[hv.cell];simpa using hj⟩;have a1:xs.take (n*7)++ys++xs.drop (n*7)=xs++ys:=by
  rw[aW (by rw[I.1];exact ao _),bX (by rw[I.1];exact ao _),aU]
 obtain⟨HO,HS,H1,HX⟩:=Ye I N h1 a1;have a5:n+1<=maxLen:=by unfold maxLen;omega
 have a8:n<=s.c:=by
  rcases I.2 with⟨hv,h0⟩ |⟨g,b3,a9,hv,_,_,b4,_⟩
  .omega
  simp only[Value.slice.injEq]at hv;omega
 have b0:((n:Int) ==(n:Int))=true:=oO
 clear I N hv h1 hy a1;obtain⟨sa,sc⟩:=s;dsimp only at *;go_in;go_wp2_with(at_builtin;refine Qak _ rfl _ _ 41 rfl base 78 i0 (.agg #[ByteArray.empty,.int .i64 0,false,.int .i64 0,ByteArray.empty,.slice none 0 0,.slice none 0 0]) 7 104 underlying41 hi a2 a4 a3 rfl oN ⟨sa,sc⟩ n xs rfl HO.o (λ_=>True) ⟨some vb,1⟩ 1 ys rfl HS.o H1.o a5 oM Z ?_;intro s' w1 a0 a6 a7)
 all_goals
  go_ret;refine⟨s',oO,by rw[HX.o];exact a0,a6,?_⟩;rcases a7 with h |⟨h,-⟩
  .exact .inl (by simp[Sl.row,h])
  exact .inr ⟨w,by simp[Sl.row,h],ao _⟩
theorem Qnl{g cap:Nat}{I:Array Value}(a7:xs.length=n*7)(c4:base<=g)(hg:w.heap[g]? = some (.cells I 78 (0,0)))(a5:n+1<=cap)(b3:cap<=maxLen)(c3:I.size=cap*7)(N:I.toList.take (n*7)=xs)
  (hn:n<=1000) (e2:i<n) (hy:ys.length=7) (hv:Blk w vb 78 ys.toArray) (b6:vb≠g) (h1:∀u∈ys,u.oneCell'=true) (b4:∀u∈xs,u.oneCell'=true) :
  Calls prog 78 #[.slice (some g) n cap,i,.slice (some vb) 1 1] w (Qev base ⟨some g,cap⟩ n i xs ys w):=by
 obtain⟨i0,hi,c9,a8,d4⟩:=eR Tryz.Qa8;have d6:((i:Int) ==(n:Int))=false:=eJ.2 oM;have c6:(i:Int)<(n:Int):=oM
 have e0:¬(cap:Int)<(n:Int)+1:=oM
 have c8:(cap:Int)<=9223372036854775807:=by unfold maxLen at b3;omega
 have e1:¬cap=i:=oM
 have d5:¬cap=i+1:=oM
 have d3:IntKind.i64.wrap ((i:Int)+1)=(i:Int)+1:=by rw[eM];omega
 have d0:(0:Int)<=(i:Int)+1:=oM
 have d7:((i:Int)+1).toNat=i+1:=oM
 have c7:i<=n:=oM
 have d8:(i:Int)<=(n:Int)+1:=oM
 have c2:∀lb cb,(callFunc 114 #[.slice (some vb) 1 1,.slice (some ⟨g,(i+1)*7,none⟩) lb cb]).run prog w=.ok (.value (.bool false)) w:=λlb cb=>by
  rw[run_callFunc_extern func114 kM kM kM (e:=Extern.SlicesOverlaps.overlaps #[41,41] #[4]) kM,
   Lib.run_overlaps_apart w 41 4 78 underlying41 7 (λw=>by simp[sizeOf,typeInfo,hi,a8]) vb ⟨g,(i+1)*7,none⟩ 1 1 lb cb b6 78 78 ys.toArray.size I.size (by simp[World.shape?,show w.heap[vb]? = some (.cells ys.toArray 78 (0,0))from hv]) (by simp[World.shape?,hg]) oM (hv.frozen _) (hv.frozen _)]
  rfl
 have a6:(xs.drop (i*7)).length=(n-i)*7:=by rw[aw,a7,<-dv]
 have b5:∀j v,(xs.drop (i*7))[j]? = some v->w.drew.cell? ⟨g,i*7+j,none⟩=some v:=λj v hj=>by
  rw[fv,fB w g _ I 78 (0,0) hg];rw[bc,<-N,br]at hj;split at hj
  .simpa using hj
  cases hj
 obtain⟨Z,a3⟩:∃Z,Z=(I.toList.take ((i+1)*7)++xs.drop (i*7)++I.toList.drop ((i+1)*7+(xs.drop (i*7)).length)).toArray:=⟨_,rfl⟩;obtain⟨W1,a0⟩:∃W1,W1=w.drew.setRow g Z:=⟨_,rfl⟩;have b0:∀ty dc sc,(Builtin.copy_ #[41,41] ty #[.slice (some ⟨g,(i+1)*7,none⟩) (n-i) dc,.slice (some ⟨g,i*7,none⟩) (n+1-i) sc]).run prog w.drew=.ok (goInt (Nat.min (n+1-i) (n-i))) W1:=λty dc sc=>by
  rw[a0,a3];exact QbA w.drew 41 41 ty 78 7 g ((i+1)*7) (n-i) dc ⟨some ⟨g,i*7,none⟩,sc⟩ (n+1-i) I 78 (xs.drop (i*7)) underlying41 (by rw[hi];simp[a8]) hg
   (by rw[a6,show Nat.min (n+1-i) (n-i)=n-i from by simp only[Nat.min_def];split<;>omega]) oO (by rintro b o' ⟨⟩;exact b5) (by rintro a ⟨⟩;rfl) (by rw[a6];omega) (λu hu=>b4 u (aN hu))
 have c1:Z.size=I.size:=by rw[a3];simp;omega
 have a9:W1.heap[g]? = some (.cells Z 78 (0,0)):=by rw[a0];exact fm w.drew g I Z 78 (0,0) hg
 have b7:Blk W1 vb 78 ys.toArray:=by rw[a0];exact(fQ w.drew g vb Z b6).trans hv
 obtain⟨A2,a2⟩:∃A2,A2=(Z.toList.take (i*7)++ys++Z.toList.drop (i*7+ys.length)).toArray:=⟨_,rfl⟩;obtain⟨W2,a1⟩:∃W2,W2=W1.setRow g A2:=⟨_,rfl⟩;have b8:∀ty dc,(Builtin.copy_ #[41,41] ty #[.slice (some ⟨g,i*7,none⟩) (n+1-i) dc,.slice (some vb) 1 1]).run prog W1=.ok (goInt (Nat.min 1 (n+1-i))) W2:=λty dc=>by
  rw[a1,a2];exact QbA W1 41 41 ty 78 7 g (i*7) (n+1-i) dc ⟨some vb,1⟩ 1 Z 78 ys underlying41 (by rw[hi];simp[a8]) a9
   (by rw[hy,show Nat.min 1 (n+1-i)=1 from by simp only[Nat.min_def];split<;>omega]) oO (by rintro b o' ⟨⟩;exactλj v hj=>by rw[b7.cell];simpa using hj) (by rintro a ⟨⟩;rfl) oM h1
 have b9:W2.heap[g]? = some (.cells A2 78 (0,0)):=by rw[a1];exact fm W1 g Z A2 78 (0,0) a9
 have c0:Wr w W2 (some g):=by
  rw[a1,a0];exact((Wr.refl w (some g)).drew.trans (gD w.drew Z) (λi hi=>.inl hi)).trans (gD (w.drew.setRow g Z) A2) (λi hi=>.inl hi)
 have a4:W2.ownsRow base 78 7 (.slice (some g) (n+1) cap) (n+1) (xs.take (i*7)++ys++xs.drop (i*7)):=by
  refine⟨by simp[a7,hy];omega,.inr ⟨g,cap,A2,rfl,c4,b9,a5,b3,by rw[a2];simp;omega,?_⟩⟩;rw[a2,a3];exact QhL I.toList xs ys (i*7) (n*7) 7 _ _ _ _ _ N.symm hy oM (by rw[aL];omega) oM rfl oM oM oM
 obtain⟨HF,HW⟩:=Yb a4 c0;clear a4 c0 b9 a9 b7 c1 a1 a0 a2 a3 b5 a6 hg hv h1 b4 a7 N c3;go_in;go_wp2_with(simp only[c2]);go_region_law (refine Qdj _ rfl _ _ 41 41 rfl _ _ (by simp[Act.eval,Act.put]) (by simp[Act.eval,Act.put]) (b0 _ _ _) ?_);go_wp2_with(at_builtin;refine Qcd _ rfl _ _ 41 41 rfl _ _ rfl rfl (b8 _ _) ?_);go_ret;exact⟨⟨some g,cap⟩,rfl,HF.o,HW.o,.inl rfl⟩
theorem Qpo{g cap:Nat}{a3:Array Value}(a0:xs.length=n*7)(b5:base<=w.heap.size)(hg:w.heap[g]? = some (.cells a3 78 (0,0)))(f2:n<=cap)(b0:cap<n+1)(d8:a3.size=cap*7)(N:a3.toList.take (n*7)=xs)
  (hn:n<=1000) (f8:i<n) (hy:ys.length=7) (hv:Blk w vb 78 ys.toArray) (e7:vb≠g) (h1:∀u∈ys,u.oneCell'=true) (c2:∀u∈xs,u.oneCell'=true) :
  Calls prog 78 #[.slice (some g) n cap,i,.slice (some vb) 1 1] w (Qev base ⟨some g,cap⟩ n i xs ys w):=by
 obtain⟨i0,hi,d7,b3,c3⟩:=eR Tryz.Qa8;have f4:((i:Int) ==(n:Int))=false:=eJ.2 oM;have e3:(i:Int)<(n:Int):=oM
 have f0:(cap:Int)<(n:Int)+1:=oM
 have f7:¬cap=i:=oM
 have f3:IntKind.i64.wrap ((i:Int)+1)=(i:Int)+1:=by rw[eM];omega
 have e6:(0:Int)<=(i:Int)+1:=oM
 have e8:((i:Int)+1).toNat=i+1:=oM
 have e1:i<=n:=oM
 have f6:(i:Int)<=(n:Int):=oM
 have f1:(i:Int)+1<=(n:Int)+1:=oM
 have d0:g<w.heap.size:=fM hg;have d5:vb<w.heap.size:=hv.lt;obtain⟨G,hG⟩:∃G,G=grownCap w (n+1) cap 78:=⟨_,rfl⟩;have d4:n+1<=G:=by rw[hG];exact grownCap_ge w _ _ _
 have e2:G<=9223372036854775807:=by
  have:=grownCap_le_maxLen w (n+1) cap 78 (by unfold maxLen;omega);rw[<-hG]at this;unfold maxLen at this;omega
 have b8:i+(n+1-i)=n+1:=oM
 obtain⟨I,Z⟩:∃I:Array Value,I=(xs.take (i*7)).toArray++Builtin.zeroCells ((.agg #[ByteArray.empty,.int .i64 0,false,.int .i64 0,ByteArray.empty,.slice none 0 0,.slice none 0 0]):Value).cells (n+1-i)++Builtin.zeroCells ((.agg #[ByteArray.empty,.int .i64 0,false,.int .i64 0,ByteArray.empty,.slice none 0 0,.slice none 0 0]):Value).cells (G -(n+1)):=⟨_,rfl⟩;have d3:I.size=G*7:=by
  rw[Z];simp only[Array.size_append,List.size_toArray,size_zeroCells,List.length_take,a0];rw[show((.agg #[ByteArray.empty,.int .i64 0,false,.int .i64 0,ByteArray.empty,.slice none 0 0,.slice none 0 0]):Value).cells.size=7 from rfl];omega
 have b9:I.toList.take (i*7)=xs.take (i*7):=by
  rw[Z];simp only[Array.toList_append,List.append_assoc];rw[bj (by simp[a0];omega),aW (by simp;omega)]
 obtain⟨W1,a4⟩:∃W1,W1=w.drew.alloc (.cells I 78):=⟨_,rfl⟩;have e0:∀ty,(Builtin.append_ #[41,3] ty #[.slice (some g) i cap,.int .i64 ((n:Int)+1 -(i:Int))]).run prog w=.ok (.slice (some w) (n+1) G) W1:=λty=>by
  have c0:(Builtin.firstCells i0.size i (.slice (some g) i cap)).run prog w.drew=.ok (xs.take (i*7)).toArray w.drew:=by
   rw[b3];exact run_firstCells_some w.drew 7 i g i cap (xs.take (i*7)) (by rw[av];omega) (λj v hj=>by
    rw[Qbc,aD,fv,fB w g _ a3 78 (0,0) hg];rw[br]at hj;split at hj
    ·rw [←N,br] at hj
     split at hj
     .simpa using hj
     cases hj
    cases hj)
  have h:=Lib.run_append_grow_zeros w 41 3 ty 78 i0 _ .i64 .i64 underlying41 underlying3 hi d7 (some g) i cap (xs.take (i*7)) c0 (n+1-i) oM oM oM oM (by rw[c3];omega) (by rw[c3,b8];exact growslice_fits b0 oM);rw[b8,<-hG,<-Z,<-a4]at h;rw[show(n:Int)+1 -(i:Int)=((n+1-i:Nat):Int)from oM];exact h
 have b7:W1.heap[w.heap.size]? = some (.cells I 78 (0,0)):=by rw[a4];exact fI w.drew _
 have a2:∀k,k<w.heap.size->W1.heap[k]? = w.heap[k]?:=λk hk=>by rw[a4];exact eY w.drew _ k hk
 have c4:Blk W1 vb 78 ys.toArray:=(a2 vb d5).trans hv;obtain⟨A1,a5⟩:∃A1,A1=(I.toList.take (i*7)++ys++I.toList.drop (i*7+ys.length)).toArray:=⟨_,rfl⟩;have d6:A1.size=G*7:=by rw[a5];simp;omega
 obtain⟨W2,a1⟩:∃W2,W2=W1.setRow w.heap.size A1:=⟨_,rfl⟩;have c8:∀ty dc,(Builtin.copy_ #[41,41] ty #[.slice (some ⟨w.heap.size,i*7,none⟩) (n+1-i) dc,.slice (some vb) 1 1]).run prog W1=.ok (goInt (Nat.min 1 (n+1-i))) W2:=λty dc=>by
  rw[a1,a5];exact QbA W1 41 41 ty 78 7 w.heap.size (i*7) (n+1-i) dc ⟨some vb,1⟩ 1 I 78 ys underlying41 (by rw[hi];simp[b3]) b7
   (by rw[hy,show Nat.min 1 (n+1-i)=1 from by simp only[Nat.min_def];split<;>omega]) oO (by rintro b o' ⟨⟩;exactλj v hj=>by rw[c4.cell];simpa using hj) (by rintro a ⟨⟩;rfl) oM h1
 have b6:W2.heap[w.heap.size]? = some (.cells A1 78 (0,0)):=by rw[a1];exact fm W1 _ I A1 78 (0,0) b7
 have a8:∀k,k<w.heap.size->W2.heap[k]? = w.heap[k]?:=λk hk=>by rw[a1];exact(fQ W1 _ k A1 oM).trans (a2 k hk)
 have b4:(xs.drop (i*7)).length=(n-i)*7:=by rw[aw,a0,<-dv]
 have c7:∀j v,(xs.drop (i*7))[j]? = some v->W2.drew.cell? ⟨g,i*7+j,none⟩=some v:=λj v hj=>by
  rw[fv,fB W2 g _ a3 78 (0,0) ((a8 g d0).trans hg)];rw[bc,<-N,br]at hj;split at hj
  .simpa using hj
  cases hj
 obtain⟨A2,a7⟩:∃A2,A2=(A1.toList.take ((i+1)*7)++xs.drop (i*7)++A1.toList.drop ((i+1)*7+(xs.drop (i*7)).length)).toArray:=⟨_,rfl⟩;obtain⟨W3,a6⟩:∃W3,W3=W2.drew.setRow w.heap.size A2:=⟨_,rfl⟩;have c1:∀ty dc sc,(Builtin.copy_ #[41,41] ty #[.slice (some ⟨w.heap.size,(i+1)*7,none⟩) (n-i) dc,.slice (some ⟨g,i*7,none⟩) (n-i) sc]).run prog W2.drew=.ok (goInt (Nat.min (n-i) (n-i))) W3:=λty dc sc=>by
  rw[a6,a7];exact QbA W2.drew 41 41 ty 78 7 w.heap.size ((i+1)*7) (n-i) dc ⟨some ⟨g,i*7,none⟩,sc⟩ (n-i) A1 78 (xs.drop (i*7)) underlying41 (by rw[hi];simp[b3]) b6
   (by rw[b4,show Nat.min (n-i) (n-i)=n-i from oO]) oO (by rintro b o' ⟨⟩;exact c7) (by rintro a ⟨⟩;rfl) (by rw[b4];omega) (λu hu=>c2 u (aN hu))
 have c9:W3.heap[w.heap.size]? = some (.cells A2 78 (0,0)):=by rw[a6];exact fm W2.drew _ A1 A2 78 (0,0) b6
 have c6:Wr w W3 (some g):=by
  rw[a6,a1,a4];exact(((((Wr.refl w (some g)).drew).alloc I 78).trans (gD _ A1) (λi hi=>.inr (by injection hi with hi;omega))).drew).trans (gD _ A2) (λi hi=>.inr (by injection hi with hi;omega))
 have a9:W3.ownsRow base 78 7 (.slice (some w) (n+1) G) (n+1) (xs.take (i*7)++ys++xs.drop (i*7)):=by
  refine⟨by simp[a0,hy];omega,.inr ⟨w.heap.size,G,A2,rfl,b5,c9,d4,by unfold maxLen;omega,by rw[a7];simp;omega,?_⟩⟩;rw[a7,a5];exact QjK I.toList xs ys (i*7) (n*7) 7 _ _ _ _ _ b9 a0 hy oM (by rw[aL];omega) oM rfl oM oM oM
 obtain⟨HF,HW⟩:=Yb a9 c6;clear a9 c6 c9 b6 b7 c4 d6 a6 a1 a4 a7 a5 c7 b4 hg hv h1 c2 a0 N d8 a2 a8 b9 d3 Z hG b8;have f5:¬(G=i):=oM
 have e4:¬(G=i+1):=oM
 go_in;go_wp2_with(first
  |(at_builtin;refine wpList_append_run _ rfl _ _ 41 3 rfl _ _ rfl rfl (e0 _) ?_)
  |(at_builtin;refine Qcd _ rfl _ _ 41 41 rfl _ _ rfl rfl (c8 _ _) ?_))
 go_region_law (refine Qdj _ rfl _ _ 41 41 rfl _ _ (by simp[Act.eval,Act.put]) (by simp[Act.eval,Act.put]) (c1 _ _ _) ?_);go_wp2;go_ret;exact⟨⟨some w,G⟩,rfl,HF.o,HW.o,.inr ⟨_,rfl,ao _⟩⟩
theorem Qma(I:w.ownsRow base 78 7 (.slice s.a n s.c) n xs)(Z:base<=w.heap.size)(hn:n<=1000)(b0:i<=n)(hy:ys.length=7)(hv:Blk w vb 78 ys.toArray)(a7:s.row≠some vb)(h1:∀u∈ys,u.oneCell'=true)(a2:∀u∈xs,u.oneCell'=true) :
  Calls prog 78 #[.slice s.a n s.c,i,.slice (some vb) 1 1] w (Qev base s n i xs ys w):=by
 by_cases he:i=n
 .subst he;exact Qrx I Z hn hy hv h1
 rcases I.2 with⟨hs,h0⟩ |⟨g,a0,a9,hs,a6,hg,a8,a4,a1,N⟩
 .omega
 simp only[Value.slice.injEq]at hs;obtain⟨ha,-,hc⟩:=hs;have a3:vb≠g:=λe=>a7 (by simp[Sl.row,ha,e])
 have a5:s=⟨some g,a0⟩:=by cases s;simp_all
 have hl:=I.1;clear I;subst a5;by_cases hr:n+1<=a0
 .exact Qnl hl a6 hg hr a4 a1 N hn oM hy hv a3 h1 a2
 exact Qpo hl Z hg a8 oM a1 N hn oM hy hv a3 h1 a2
end
abbrev fW:=@and_true
theorem QpD(k:ByteArray)(v:Val)(sl so:Sl)(k':ByteArray)(I:Val)(sl' so':Sl)(w:World) :
  Calls prog 151 #[Qfu k v sl so,Qfu k' I sl' so'] w λe w'=>e=.returned (klt k k')/\Ext w w':=by
 go_in;go_wp2;go_ret;exact⟨rfl,((gh w).alloc _ _).alloc _ _⟩
def Qbv(xs:List LE):Prop:=∀i x y,xs[i]? = some x->xs[i+1]? = some y->klt x.k y.k=true
theorem QnQ(hs:ES w (Lt w) s xs)(hr:Qbv xs) :
  Calls prog 150 #[.slice s.a xs.length s.c,.func (.func 151) #[] #[]] w λe w'=>e=.returned true/\Ext w w':=by
 have b0:=hs.few;obtain⟨HS,HR⟩:=Yb hs hr;clear hs hr;go_in;go_wp2_with fail;go_loopw[5] (λq wr=>∃m:Nat,(m+1<=xs.length\/m=0)/\q=.int .i64 ((m:Int)+1)/\Ext w wr) (λq _=>xs.length -(intOf q).toNat)
 case atStart=>exact⟨0,.inr rfl,rfl,gh _⟩
 obtain⟨m,hj,rfl,hx⟩:=hrel;by_cases a7:m+1<xs.length
 ·obtain ⟨x,a2⟩:∃ x,xs[m]? = some x:=⟨_,ac oM⟩
  obtain⟨y,a1⟩:∃y,xs[m+1]? = some y:=⟨_,ac a7⟩;obtain⟨b,o,ha,I,b8,b3,a5,hv,-⟩:=HS.o.at a2;obtain⟨b',o',a0,-,-,-,Z,a3,-⟩:=HS.o.at a1;rw[ha]at a0;simp only[Option.some.injEq,Addr.mk.injEq,and_true]at a0;obtain⟨rfl,rfl⟩:=a0;have N:Agree (Lt w) w wr:=hx.agree λ_ h=>h
  obtain⟨v0,v1,v2,v3,v4,v5⟩:=(hv.agree N I).m;have vk:=(N.cell I).trans a5;obtain⟨u0,u1,u2,u3,u4,u5⟩:=(a3.agree N I).m;have uk:=(N.cell I).trans Z;have a6:=HR.o m x y a2 a1;have HK:=hY a6;rw[ha];have b7:(m:Int)+1<(xs.length:Int):=oM
  have b6:(m:Int)<(xs.length:Int):=oM
  have b4:IntKind.i64.wrap (m:Int)=(m:Int):=by rw[eM];omega
  have b9:(0:Int)<=(m:Int)+1:=oM
  have b5:((m:Int)+1).toNat=m+1:=oM
  clear a2 a1 a5 Z hv a3 N ha a6;go_wp2_with fail;have a9:b<wr:=ab I hx.size;go_region_held3 (λw'=>w'.cell? ⟨b,o+m*7,none⟩=some (.string x.k)/\w'.cell? ⟨b,o+m*7+1,none⟩=some (.int .i64 x.v.kind)/\w'.cell? ⟨b,o+m*7+2,none⟩=some (.bool x.v.b)/\w'.cell? ⟨b,o+m*7+3,none⟩=some (.int .i64 x.v.i)/\w'.cell? ⟨b,o+m*7+4,none⟩=some (.string x.v.t)/\w'.cell? ⟨b,o+m*7+5,none⟩=some (.slice x.sl.a x.v.l.length x.sl.c)/\w'.cell? ⟨b,o+m*7+6,none⟩=some (.slice x.so.a x.v.ok.length x.so.c)/\w'.cell? ⟨b,o+(m+1)*7,none⟩=some (.string y.k)/\w'.cell? ⟨b,o+(m+1)*7+1,none⟩=some (.int .i64 y.v.kind)/\w'.cell? ⟨b,o+(m+1)*7+2,none⟩=some (.bool y.v.b)/\w'.cell? ⟨b,o+(m+1)*7+3,none⟩=some (.int .i64 y.v.i)/\w'.cell? ⟨b,o+(m+1)*7+4,none⟩=some (.string y.v.t)/\w'.cell? ⟨b,o+(m+1)*7+5,none⟩=some (.slice y.sl.a y.v.l.length y.sl.c)/\w'.cell? ⟨b,o+(m+1)*7+6,none⟩=some (.slice y.so.a y.v.ok.length y.so.c)) (go_keep)
   ((go_at_call 151;refine(QpD _ _ _ _ _ _ _ _ _).mono ?_;rintro e w' ⟨rfl,a4⟩;have a8:∀o',w'.cell? ⟨b,o',none⟩=wr.cell? ⟨b,o',none⟩:=λo'=>a4.cell a9))
  have hX:=hx.trans ((gh wr).drew.trans a4);have HX:=hY hX;clear hX a8;rw[HK.o];go_wp2_with fail;go_roundw
  case rel=>exact⟨m+1,.inl oM,by go_num,HX.o⟩
  simp[intOf];omega
 go_wp2_with fail;go_ret;exact⟨rfl,hx⟩
variable{w2 w3:World}{s':Sl}
theorem QjW{xs I:List LE}{a:Nat}{f l:ByteArray}(hX:Ext w w2)(Z:Ext w2 w3)(hm:I.map LE.ent=xs.map LE.ent)(hB:w.heap.size<=B)(ho:OE w2 B s' I)
  (ha:w2<=a) (hf:f=Qav (xs.map LE.ent)) (hl:l=Qbl (xs.map LE.ent)) (N:Blk w3 a 159 #[.slice s'.a I.length s'.c,.slice none 0 0,.int .i64 0,.int .i64 I.length,.string f,.string l,.bool false]) :
  IsN w3 (In w.heap.size w3.heap.size) 0 (a,xs.map LE.ent):=
 ⟨⟨Nat.le_trans hX.size ha,N.lt⟩,s',I,by subst hf hl;exact N,(ho.es.agree (Z.agree λ_ h=>h.2)).mono λ_ h=>⟨Nat.le_trans hB h.1,ab h.2 Z.size⟩,hm⟩
def QqY(es:List Ent)(w:World)(e:Ending)(w':World):Prop:=
 ∃a:Nat,e=.returned (.tuple #[.pointer (some ⟨a,0,none⟩),.int .i64 0])/\w.heap.size<=a/\IsN w' (In w.heap.size w'.heap.size) 0 (a,es)/\Ext w w'
theorem QpS(hs:ES w (Lt w) s xs)(hr:Qbv xs)(h8:xs.length<=8) :
  Calls prog 116 #[.slice s.a xs.length s.c] w (QqY (xs.map LE.ent) w):=by
 have HS:=hY hs;have a0:=QnQ hs hr;have hg:¬(8:Int)<(xs.length:Int):=oM
 have b9:decide ((8:Int)<(xs.length:Int))=false:=by simp;omega
 have a7:∀W,Ext w W->Calls prog 112 #[.slice s.a xs.length s.c] W (Qhi xs W):=λW hW=>
  Qhr ((HS.o.agree (hW.agree λ_ h=>h)).mono λi hi=>ab hi hW.size)
 have HC:=hY a7;clear hs a7 hr;go_in;go_wp2_with fail;refine a0.mono ?_;rintro e w1 ⟨rfl,I⟩;go_wp2_with fail;refine(HC.o w1 I).mono ?_;rintro e w2 ⟨s',b3,rfl,hm,ho,a4⟩;obtain⟨HM,HO⟩:=Yb hm ho;have N:b3.length=xs.length:=by have:=congrArg List.length hm;simpa using this
 have HL:=hY N;have hX:=I.trans a4;have HX:=hY hX;have a9:=I.size;by_cases h0:0<xs.length
 ·obtain ⟨x,a1⟩:∃ x,xs[0]? = some x:=⟨_,ac h0⟩
  obtain⟨y,a5⟩:∃y,xs[xs.length-1]? = some y:=⟨_,ac oM⟩;obtain⟨b,o,ha,a2,c0,b5,a3,-⟩:=HS.o.at a1;obtain⟨b',o',Z,-,-,-,a6,-⟩:=HS.o.at a5;rw[ha]at Z;simp only[Option.some.injEq,Addr.mk.injEq,and_true]at Z;obtain⟨rfl,rfl⟩:=Z;rw[cE,ct]at a3;have vk:=(hX.cell a2).trans a3;have vl:=(hX.cell a2).trans a6;have c2:b<w2:=ab a2 hX.size;have hf:Qav (xs.map LE.ent)=x.k:=by rw[Qav,List.head?_map,List.head?_eq_getElem?,a1];rfl
  have hl:Qbl (xs.map LE.ent)=y.k:=by rw[Qbl,List.getLast?_map,List.getLast?_eq_getElem?,a5];rfl
  have a8:=hY (And.intro hf hl);have b6:IntKind.i64.wrap ((xs.length:Int)-1)=(xs.length:Int)-1:=by rw[eM];omega
  have c1:(0:Int)<=(xs.length:Int)-1:=oM
  have b7:(xs.length:Int)-1<(xs.length:Int):=oM
  have b4:(0:Int)<(xs.length:Int):=oM
  have b8:((xs.length:Int)-1).toNat=xs.length-1:=oM
  rw[ha];clear hm ho a0 N hX a1 a5 a3 a6 ha hf hl I a4;go_wp2_with fail;go_region
  all_goals go_wp2_with fail
  all_goals go_ret2
  refine⟨w2,rfl,HX.o.size,?_,(HX.o.alloc _ _).drew⟩;refine QjW HX.o (((gh w2).alloc _ _).drew) HM.o a9 HO.o (ao _) a8.o.1.symm a8.o.2.symm ?_;rw[HL.o];exact gm _ _ _
 have b0:xs=[]:=au oM;subst b0;clear hm ho a0 hX I a4;go_wp2_with fail;go_ret2;refine⟨w2,rfl,HX.o.size,?_,HX.o.alloc _ _⟩;refine QjW HX.o ((gh w2).alloc _ _) HM.o a9 HO.o (ao _) (f:=ByteArray.empty) (l:=ByteArray.empty) rfl rfl ?_;rw[HL.o];exact gm _ _ _
def QcJ(es:List Ent)(w:World)(e:Ending)(w':World):Prop:=
 ∃t:PT 0,e=.returned (ptr 0 t)/\t.2=es/\w.heap.size<=addr 0 t/\IsN w' (In w.heap.size w'.heap.size) 0 t/\Ext w w'
theorem QdM(hs:ES w (Lt w) s xs)(hn:n=xs.length)(I:Qbv xs)(N:xs.length<=8) :
  Calls prog 80 #[.slice s.a n s.c] w (QcJ (xs.map LE.ent) w):=by
 subst hn;have Z:=QpS hs I N;clear hs I;go_in;go_wp2_with fail;refine Z.mono ?_;rintro e w' ⟨a,rfl,h1,h2,h3⟩;have H2:=hY h2;clear h2;go_wp2_with fail;go_ret;exact⟨(a,xs.map LE.ent),rfl,rfl,h1,H2.o,h3⟩
theorem Rd.take{size n:Nat}(h:Rd w F size s n cs){m:Nat}(N:m<=n):Rd w F size s m (cs.take (m*size)):=by
 obtain⟨b,o,h1,h2,Z⟩:=h;have a0:m*size<=n*size:=cg _ N;refine⟨b,o,?_,by rw[av];omega,λj u I=>Z j u ?_⟩
 ·cases h1 with
  | nil=>have:m=0:=oM
         subst this;exact .nil _ _
  |some _ c _ _ h hc hb=>exact .some _ c _ _ oM hc hb
  | zero a=>have:m=0:=oM
            subst this;exact .zero a _ _
 rw[br]at I;split at I
 .exact I
 cases I
theorem Rd.drop{size n b o c:Nat}(h:Rd w F size ⟨some ⟨b,o,none⟩,c⟩ n cs){m:Nat}(hm:m<=n):Rd w F size ⟨some ⟨b,o+m*size,none⟩,c-m⟩ (n-m) (cs.drop (m*size)):=by
 obtain⟨N,Z,h1,h2,h3⟩:=h;cases h1 with
 | some _ _ _ _ h hc hb=>
   refine⟨b,o+m*size,.some _ _ _ _ oM oM hb,by rw[aw,h2,<-dv],λj u I=>?_⟩;rw[bc]at I;rw[bH];exact h3 _ u I
 | zero=>
   obtain rfl:m=0:=oM
   refine⟨N,Z,?_,by rw[aw,h2];simp,λj u I=>?_⟩
   .simpa using Qd5.zero (F:=F) ⟨b,o,none⟩ N Z
   have:cs=[]:=au (by simpa using h2);subst this;simp at I
theorem ES.take(h:ES w F s xs){m:Nat}(I:m<=xs.length):ES w F s (xs.take m):=
 ⟨by rw[av,bR I,<-QcS];exact h.rd.take I,λx N=>h.vals x (ba N),by have:=h.few;rw[av];omega⟩
theorem ES.drop{b o c:Nat}(h:ES w F ⟨some ⟨b,o,none⟩,c⟩ xs){m:Nat}(N:m<=xs.length):ES w F ⟨some ⟨b,o+m*7,none⟩,c-m⟩ (xs.drop m):=
 ⟨by rw[aw,<-QcQ];exact h.rd.drop N,λx I=>h.vals x (aN I),by have:=h.few;rw[aw];omega⟩
theorem Qbv.take(h:Qbv xs)(m:Nat):Qbv (xs.take m):=λi x y N I=>by
 rw[br]at N I;split at N<;>split at I
 .exact h i x y N I
 all_goals first|cases N|cases I
theorem Qbv.drop(h:Qbv xs)(m:Nat):Qbv (xs.drop m):=λi x y N I=>by
 rw[bc]at N I;exact h _ x y N I
theorem Qc0(h:Sorted (xs.map LE.ent)):Qbv xs:=λi x y N I=>
 QdK (a:=x.ent) (b:=y.ent) h (dz i) (by rw[ar,N];rfl) (by rw[ar,I];rfl)
def two(h:Nat):List (PT h)->Ending
 |[t]=>.returned (.tuple #[ptr h t,.pointer none])
 |[t,u]=>.returned (.tuple #[ptr h t,ptr h u])
 |_=>.returned (.tuple #[])
def chunk{α:Type}(l:List α):List (List α):=if l.length<=8 then[l]else[l.take 4,l.drop 4]
def QmR(es:List Ent)(w:World)(e:Ending)(w':World):Prop:=
 ∃ts:List (PT 0),e=two 0 ts/\ts.map Prod.snd=chunk es/\(∀t∈ts,w.heap.size<=addr 0 t/\IsN w' (In w.heap.size w'.heap.size) 0 t)/\Ext w w'
variable{w1:World}
theorem QcJ.grow{t:PT 0}(h1:Ext w w1)(h2:Ext w2 w3)(N:w1.heap.size<=addr 0 t)(I:IsN w2 (In w1.heap.size w2.heap.size) 0 t):w.heap.size<=addr 0 t/\IsN w3 (In w.heap.size w3.heap.size) 0 t:=
 ⟨Nat.le_trans h1.size N,(I.agree (h2.agree λ_ h=>h.2)).mono λ_ h=>⟨Nat.le_trans h1.size h.1,ab h.2 h2.size⟩⟩
theorem QhN(hs:ES w (Lt w) s xs)(hr:Qbv xs)(h8:xs.length<=9) :
  Calls prog 79 #[.slice s.a xs.length s.c,.func (.func 80) #[] #[]] w (QmR (xs.map LE.ent) w):=by
 by_cases h:xs.length<=8
 ·have hc:=QdM hs rfl hr h
  have hl:(xs.length:Int)<=8:=oM
  clear hs hr;go_in;go_wp2_with fail;refine hc.mono ?_;rintro e w' ⟨t,rfl,h1,h2,h3,h4⟩;have H3:=hY h3;clear h3;go_wp2_with fail;go_ret2;exact⟨[t],rfl,by show[t.2]=_;rw[h1,chunk,eH (by simpa using h)],by simpa using⟨h2,H3.o⟩,h4⟩
 have h9:xs.length=9:=oM
 have a2:=hs.at (i:=0) (x:=xs[0]' oM) (ac oM);obtain⟨b,o,ha,a4,a3,a1,-⟩:=a2;have I:s=⟨some ⟨b,o,none⟩,s.c⟩:=by cases s;simp_all
 have a0:∀W,Ext w W->Calls prog 80 #[.slice (some ⟨b,o,none⟩) 4 s.c] W (QcJ ((xs.take 4).map LE.ent) W):=λW hW=>by
  have:=QdM (w:=W) (n:=4) (s:=s) (xs:=xs.take 4) (((hs.take (m:=4) oM).agree (hW.agree λ_ h=>h)).mono λi hi=>ab hi hW.size) (by rw[av];omega) (hr.take 4) (by rw[av];omega);rw[I]at this;exact this
 have N:∀W,Ext w W->Calls prog 80 #[.slice (some ⟨b,o+28,none⟩) 5 (s.c-4)] W (QcJ ((xs.drop 4).map LE.ent) W):=λW hW=>by
  have Z:=hs;rw[I]at Z;exact QdM (w:=W) (n:=5) (s:=⟨some ⟨b,o+28,none⟩,s.c-4⟩) (xs:=xs.drop 4) (((Z.drop (m:=4) oM).agree (hW.agree λ_ h=>h)).mono λi hi=>ab hi hW.size) (by rw[aw];omega) (hr.drop 4) (by rw[aw];omega)
 obtain⟨HL,HR⟩:=Yb a0 N;clear a0 N hs hr I;rw[ha,h9];rw[h9]at a3;have a5:4<=s.c:=oM
 unfold maxLen at a1;go_in;go_wp2_with fail;go_region_with (first
  |(go_at_call_of 80 (Value.slice (some ⟨b,o,none⟩) 4 s.c);refine(HL.o _ ?_).mono ?_;exact(gh w).drew;rintro e w1 ⟨t,rfl,h1,h2,h3,h4⟩;have H3:=hY h3;clear h3)
  |(go_at_call 80;refine(HR.o _ ?_).mono ?_;exact(gh w).drew.trans h4;rintro e w2 ⟨u,rfl,k1,k2,k3,k4⟩;have K3:=hY k3;clear k3))
 all_goals go_wp2_with fail
 all_goals go_ret2
 have hX:=(gh w).drew.trans h4;refine⟨[t,u],rfl,?_,?_,hX.trans k4⟩
 ·show [t.2,u.2]=_
  rw[h1,k1,chunk,eE (by simp;omega),cZ,cO]
 intro x hx;rcases aH.1 hx with rfl|hx
 .exact QcJ.grow (gh w).drew k4 h2 H3.o
 rcases aH.1 hx with rfl|hx
 .exact QcJ.grow hX (gh w2) k2 K3.out
 simp at hx
end Go.Proofs.YtdiecmkpbadgjaaGreatDoor
