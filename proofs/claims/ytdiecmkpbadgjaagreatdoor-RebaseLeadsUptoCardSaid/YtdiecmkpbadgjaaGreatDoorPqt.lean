/- What the theorem needs of the texts LaidQ: no condition of its own. -/
import Derived.Test.YtdiecmkpbadgjaaGreatDoorPqf
set_option linter.unusedVariables false
set_option linter.unusedSimpArgs false
set_option linter.unnecessarySimpa false
namespace Go.Proofs.YtdiecmkpbadgjaaGreatDoor
open Go.Proofs.Tryz
open Go.RowKit Go.Maps Go.Shelf
variable{w:World}
theorem libq_of(h:laidMetH prog Qfi w):Qb4 w:=by
 refine⟨Qtq h,Quc h,λW hW n Z h1=>?_⟩;have N:laidMet prog Qfi w:=h;have I:=Lib.laidMet.reads N (n:= "internal/strconv.uint64pow10") (d:=Rows.laid_internal_strconv_uint64pow10) (by simp[Qfi]);rw[Qqa]at I;exact(Any.strconv_FormatInt_10 Tryz.QfB n Z h1 W (QsI hW (Qkm I))).mono λe w' h=>by
  obtain⟨he,k,os,rfl⟩:=h;exact⟨he,(fT ((fQ W).drewN k)).trans (Qmq _ os)⟩
end Go.Proofs.YtdiecmkpbadgjaaGreatDoor
