/- What the theorem needs of the texts Held3: no condition of its own. -/
import Derived.Test.YtkjkafgnnoidpaaGreatDoorPha
set_option linter.unusedVariables false
set_option linter.unusedSimpArgs false
set_option linter.unnecessarySimpa false
namespace Go.Proofs.YtkjkafgnnoidpaaGreatDoor
open Go.RowKit
section
variable{P : Program}{ops : Array Oper}{Q : Exit -> Act -> World -> Prop}{md : Region.Mode}{S : World -> Prop}
inductive Tag:Nat->Prop
 |mk (n:Nat):Tag n
theorem QcH(i:Nat){I:Oper}{D:Nat}{z:Array Bool}{a:Act}{w:World}
  (h:∀J:Act->World->Prop,Tag i->Shut (∀a w,S w->(S w->wpAnyH P md ops Q S D (z.setIfInBounds i true) a w)->J a w)->Oper.wp P I a w J Q)
  (U:Region.ready md ops z=[i]:=by kernel_rfl) (hi:ops[i]? = some I:=by rfl) (N:Region.wanted I (yielded ops a.tmps)=true:=by rfl):wpAnyH P md ops Q S (D+1) z a w:=
 Qag U hi N λK R=>h K (.mk i) R
theorem QfT(i j:Nat){R J:Oper}{D:Nat}{z:Array Bool}{a:Act}{w:World}
  (h:∀I:Act->World->Prop,Tag i->Shut (∀a w,S w->(S w->wpAnyH P md ops Q S D (z.setIfInBounds i true) a w)->I a w)->Oper.wp P R a w I Q)
  (h':∀I:Act->World->Prop,Tag j->Shut (∀a w,S w->(S w->wpAnyH P md ops Q S D (z.setIfInBounds j true) a w)->I a w)->Oper.wp P J a w I Q)
  (Z:Region.ready md ops z=[i,j]:=by kernel_rfl) (hi:ops[i]? = some R:=by rfl) (U:ops[j]? = some J:=by rfl) (X:Region.wanted R (yielded ops a.tmps)=true:=by rfl) (Y:Region.wanted J (yielded ops a.tmps)=true:=by rfl):wpAnyH P md ops Q S (D+1) z a w:=
 QlI Z hi U X Y (λK N=>h K (.mk i) N) λK N=>h' K (.mk j) N
end
end Go.Proofs.YtkjkafgnnoidpaaGreatDoor
