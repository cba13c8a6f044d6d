/- What the theorem needs of the texts Held3: no condition of its own. -/
import Derived.Test.YtdiecmkpbadgjaaGreatDoorPna
set_option linter.unusedVariables false
set_option linter.unusedSimpArgs false
set_option linter.unnecessarySimpa false
namespace Go.Proofs.YtdiecmkpbadgjaaGreatDoor
open Go.RowKit
section
variable{P : Program}{ops : Array Oper}{Q : Exit -> Act -> World -> Prop}{md : Region.Mode}{S : World -> Prop}
inductive Tag:Nat->Prop
 |mk (n:Nat):Tag n
theorem Qrr(i:Nat){Z:Oper}{N:Nat}{I:Array Bool}{a:Act}{w:World}
  (h:∀K':Act->World->Prop,Tag i->Shut (∀a w,S w->(S w->wpAnyH P md ops Q S N (I.setIfInBounds i true) a w)->K' a w)->Oper.wp P Z a w K' Q)
  (hr:Region.ready md ops I=[i]:=by kernel_rfl) (hi:ops[i]? = some Z:=by rfl) (hw:Region.wanted Z (yielded ops a.tmps)=true:=by rfl):wpAnyH P md ops Q S (N+1) I a w:=
 Qac hr hi hw λK hK=>h K (.mk i) hK
theorem Quj(i j:Nat){oi oj:Oper}{N:Nat}{I:Array Bool}{a:Act}{w:World}
  (h:∀Z:Act->World->Prop,Tag i->Shut (∀a w,S w->(S w->wpAnyH P md ops Q S N (I.setIfInBounds i true) a w)->Z a w)->Oper.wp P oi a w Z Q)
  (h':∀Z:Act->World->Prop,Tag j->Shut (∀a w,S w->(S w->wpAnyH P md ops Q S N (I.setIfInBounds j true) a w)->Z a w)->Oper.wp P oj a w Z Q)
  (hr:Region.ready md ops I=[i,j]:=by kernel_rfl) (hi:ops[i]? = some oi:=by rfl) (hj:ops[j]? = some oj:=by rfl) (hw:Region.wanted oi (yielded ops a.tmps)=true:=by rfl) (hv:Region.wanted oj (yielded ops a.tmps)=true:=by rfl):wpAnyH P md ops Q S (N+1) I a w:=
 Qix hr hi hj hw hv (λK hK=>h K (.mk i) hK) λK hK=>h' K (.mk j) hK
end
end Go.Proofs.YtdiecmkpbadgjaaGreatDoor
