/- What the theorem needs of the texts Pl12: no condition of its own. -/
import Derived.Laws.IdiomStrings
import Derived.WalkArith
import Derived.OrdersIn
import Derived.Test.YtechahocffcbpaaGreatDoorPwa
import Derived.Test.YtechahocffcbpaaGreatDoorPwb
import Derived.Test.YtechahocffcbpaaGreatDoorPwc
import Derived.Test.YtechahocffcbpaaGreatDoorPwd
import Derived.Test.YtechahocffcbpaaGreatDoorPwe
import Derived.Test.YtechahocffcbpaaGreatDoorPwf
import Derived.Test.YtechahocffcbpaaGreatDoorPwg
import Derived.Test.YtechahocffcbpaaGreatDoorPwh
import Derived.Test.YtechahocffcbpaaGreatDoorPwi
import Derived.Test.YtechahocffcbpaaGreatDoorPwj
import Derived.Test.YtechahocffcbpaaGreatDoorPwk
import Derived.Test.YtechahocffcbpaaGreatDoorPwl
import Derived.Test.YtechahocffcbpaaGreatDoorPwm
namespace Go.Proofs.YtechahocffcbpaaGreatDoor
open Go.RowKit Go.Maps Go.Shelf
set_option linter.unusedVariables false
set_option linter.unusedSimpArgs false
theorem putAll_sortedP:∀ (l:List Ent) {es:List Ent},Sorted es→Sorted (putAll es l)
 | [],_,h=>h
 | e :: r,es,h=>putAll_sortedP r (insE_sorted h e.1 e.2)
theorem putAll_takeP {l:List Ent} {j:Nat} {e:Ent} (h:l[j]? = some e):putAll [] (l.take (j+1))=insE (putAll [] (l.take j)) e.1 e.2:=by
 rw [List.take_add_one,h];exact putAll_snoc _ _ _
def onlyP (R:Act→World→Prop):Exit→Act→World→Prop
 | .normal,a,w=>R a w
 | _,_,_=>False
theorem onlyP_mk {R:Act→World→Prop} {a:Act} {w:World} (h:R a w):onlyP R .normal a w:=h
def putB (tm:Array Value):List (Nat × Value)→Array Value
 | []=>tm
 | (i,v) :: l=>putB (tm.setIfInBounds i v) l
theorem wp_meetB {P:Program} {c:Code} {Q:Exit→Act→World→Prop} {a:Act} {w:World} (Rw:World→Nat→Prop) (ds:List Nat) (kn:Nat→List (Nat × Value))
  (h1:c.wp P (onlyP fun a' w'=>∃ b,Rw w' b∧a'.defers=a.defers∧a'.tmps=putB a.tmps ((ds.map fun d=>(d,a'.tmps.getD d undef))++kn b)) a w)
  (h2:∀ (w':World) (b:Nat) (vs:Nat→Value),Rw w' b→Q .normal { tmps:=putB a.tmps ((ds.map fun d=>(d,vs d))++kn b),defers:=a.defers } w'):c.wp P Q a w:=
 wp_mono h1 fun e a' w' h=>by
  cases e with
  | normal=>
    obtain ⟨b,hr,hd,ht⟩:=h
    have:=h2 w' b (fun d=>a'.tmps.getD d undef) hr
    rw [←ht,←hd] at this
    exact this
  | _=>exact h.elim
theorem blk6P {W:World} {b:Nat} {t:TypeId} {a0 a1 a2 a3 a4 a5 c0 c1 c2 c3 c4 c5:Value} (h:Blk W b t #[a0,a1,a2,a3,a4,a5]):Blk ((((((W.setCell ⟨b,0,none⟩ c0).setCell ⟨b,1,none⟩ c1).setCell ⟨b,2,none⟩ c2).setCell ⟨b,3,none⟩ c3).setCell ⟨b,4,none⟩ c4).setCell ⟨b,5,none⟩ c5) b t #[c0,c1,c2,c3,c4,c5]:=by
 have h0:Blk _ b t #[c0,a1,a2,a3,a4,a5]:=h.set_ 0 c0
 have h1:Blk _ b t #[c0,c1,a2,a3,a4,a5]:=h0.set_ 1 c1
 have h2:Blk _ b t #[c0,c1,c2,a3,a4,a5]:=h1.set_ 2 c2
 have h3:Blk _ b t #[c0,c1,c2,c3,a4,a5]:=h2.set_ 3 c3
 have h4:Blk _ b t #[c0,c1,c2,c3,c4,a5]:=h3.set_ 4 c4
 have h5:Blk _ b t #[c0,c1,c2,c3,c4,c5]:=h4.set_ 5 c5
 exact h5
theorem ext6P {w W:World} {b:Nat} {c0 c1 c2 c3 c4 c5:Value} (h:Ext w W) (hb:w.heap.size≤b):Ext w ((((((W.setCell ⟨b,0,none⟩ c0).setCell ⟨b,1,none⟩ c1).setCell ⟨b,2,none⟩ c2).setCell ⟨b,3,none⟩ c3).setCell ⟨b,4,none⟩ c4).setCell ⟨b,5,none⟩ c5):=by
 have s:∀ {X:World} (i:Nat) (v:Value),Ext w X→Ext w (X.setCell ⟨b,i,none⟩ v):=fun i v hx=>hx.setCell (p:=⟨b,i,none⟩) hb v
 exact s 5 _ (s 4 _ (s 3 _ (s 2 _ (s 1 _ (s 0 _ (h))))))
abbrev valB (v:Val) (sl so:Sl):Array Value:=#[.int .i64 v.kind,.bool v.b,.int .i64 v.i,.string v.t,.slice sl.a v.l.length sl.c,.slice so.a v.ok.length so.c]
abbrev entB (v:Val) (sl so:Sl):Array Value:=#[.string ByteArray.empty,.int .i64 v.kind,.bool v.b,.int .i64 v.i,.string v.t,.slice sl.a v.l.length sl.c,.slice so.a v.ok.length so.c]
theorem same_boxes {W:World} {g g':Nat} {v u:Val} {sl so sl' so':Sl} (h1:Blk W g 64 (entB v sl so)) (h2:Blk W g' 64 (entB u sl' so')) (h3:RV W (Lt W.heap.size) v sl so) (h4:RV W (Lt W.heap.size) u sl' so') (hs:cmpV v u=0) :
  Calls Tryz.prog 27 #[.slice (some ⟨g,0,none⟩) 1 1,.slice (some ⟨g',0,none⟩) 1 1] W fun e w'=>e=.returned (.bool true)∧Ext W w':=by
 have:=sameEnt_any (es_one (x:=⟨ByteArray.empty,v,sl,so⟩) h1 h3 (show ByteArray.empty.size≤maxLen by decide)) (es_one (x:=⟨ByteArray.empty,u,sl',so'⟩) h2 h4 (show ByteArray.empty.size≤maxLen by decide))
 rw [show sameE ([(⟨ByteArray.empty,v,sl,so⟩:LE)].map LE.ent) ([(⟨ByteArray.empty,u,sl',so'⟩:LE)].map LE.ent)=true by simp [sameE,LE.ent,hs]] at this
 exact this
theorem keys_both {B:List Ent} {C:Slots} {es:List Ent} (h:RelO B C es) {p:ByteArray} {ks:List ByteArray} (hr:ks.Pairwise fun x y=>klt x y=true) (hk:∀ k,k∈ks↔(beginsO p k=true∧(nowE B C k).isSome=true)):ks=keysE (beginsO p) es:=
 rise_ext hr (keysE_rise h.sorted) fun k=>by rw [hk,mem_keysE h.sorted,simO_isB (h.now k)]
end Go.Proofs.YtechahocffcbpaaGreatDoor
