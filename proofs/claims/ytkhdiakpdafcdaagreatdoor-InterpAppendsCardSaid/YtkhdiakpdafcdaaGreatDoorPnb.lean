/- What the theorem needs of the texts Held3: no condition of its own. -/
import Derived.KernelRfl
import Derived.Test.YtkhdiakpdafcdaaGreatDoorPna
namespace Go.Proofs.YtkhdiakpdafcdaaGreatDoor
open Go.RowKit
section
variable {P : Program} {ops : Array Oper} {Q : Exit → Act → World → Prop} {md : Region.Mode} {S : World → Prop}
inductive Tag:Nat→Prop
 | mk (n:Nat):Tag n
theorem heldC (i:Nat) {oi:Oper} {fuel:Nat} {listed:Array Bool} {a:Act} {w:World}
  (h:∀ K':Act→World→Prop,Tag i→Shut (∀ a w,S w→(S w→wpAnyH P md ops Q S fuel (listed.setIfInBounds i true) a w)→K' a w)→Oper.wp P oi a w K' Q)
  (hr:Region.ready md ops listed=[i]:=by kernel_rfl) (hi:ops[i]? = some oi:=by rfl) (hw:Region.wanted oi (yielded ops a.tmps)=true:=by rfl):wpAnyH P md ops Q S (fuel+1) listed a w:=
 held_call hr hi hw fun K hK=>h K (.mk i) hK
theorem heldW (i j:Nat) {oi oj:Oper} {fuel:Nat} {listed:Array Bool} {a:Act} {w:World}
  (h:∀ K':Act→World→Prop,Tag i→Shut (∀ a w,S w→(S w→wpAnyH P md ops Q S fuel (listed.setIfInBounds i true) a w)→K' a w)→Oper.wp P oi a w K' Q)
  (h':∀ K':Act→World→Prop,Tag j→Shut (∀ a w,S w→(S w→wpAnyH P md ops Q S fuel (listed.setIfInBounds j true) a w)→K' a w)→Oper.wp P oj a w K' Q)
  (hr:Region.ready md ops listed=[i,j]:=by kernel_rfl) (hi:ops[i]? = some oi:=by rfl) (hj:ops[j]? = some oj:=by rfl) (hw:Region.wanted oi (yielded ops a.tmps)=true:=by rfl) (hv:Region.wanted oj (yielded ops a.tmps)=true:=by rfl):wpAnyH P md ops Q S (fuel+1) listed a w:=
 held_two hr hi hj hw hv (fun K hK=>h K (.mk i) hK) fun K hK=>h' K (.mk j) hK
end
end Go.Proofs.YtkhdiakpdafcdaaGreatDoor
