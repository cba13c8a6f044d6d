/- What the theorem needs of the texts LaidQ: no condition of its own. -/
import Derived.Test.YtkjkafgnnoidpaaGreatDoorPhg
set_option linter.unusedVariables false
set_option linter.unusedSimpArgs false
set_option linter.unnecessarySimpa false
namespace Go.Proofs.YtkjkafgnnoidpaaGreatDoor
open Go.Proofs.Tryz
open Go.RowKit Go.Maps Go.Shelf
variable{w:World}
theorem libq_of(h:laidMetH prog Qfn w):Qb9 w:=by
 refine⟨QsI h,Qtk h,λW N n D h1=>?_⟩;have R:laidMet prog Qfn w:=h;have z:=Lib.laidMet.reads R (n:= "internal/strconv.uint64pow10") (d:=Rows.laid_internal_strconv_uint64pow10) (by simp[Qfn]);rw[Qpw]at z;exact(Any.strconv_FormatInt_10 Tryz.QfH n D h1 W (Qr6 N (Qj3 z))).mono λe w' h=>by
  obtain⟨J,k,I,rfl⟩:=h;exact⟨J,(fx ((fv W).drewN k)).trans (QlZ _ I)⟩
end Go.Proofs.YtkjkafgnnoidpaaGreatDoor
