/- What the theorem needs of the texts LaidQ: no condition of its own. -/
import Derived.Test.YtdiecmkpbadgjaaGreatDoorPnf
set_option linter.unusedVariables false
set_option linter.unusedSimpArgs false
set_option linter.unnecessarySimpa false
namespace Go.Proofs.YtdiecmkpbadgjaaGreatDoor
open Go.Proofs.Tryz
open Go.RowKit Go.Maps Go.Shelf
variable{w:World}
theorem libq_of(h:laidMetH prog Qfi w):Qb4 w:=by
 refine⟨Qtq h,Quc h,λW N n h0 h1=>?_⟩;have Z:laidMet prog Qfi w:=h;have I:=Lib.laidMet.reads Z (n:= "internal/strconv.uint64pow10") (d:=Rows.laid_internal_strconv_uint64pow10) (by simp[Qfi]);rw[Qqa]at I;exact(Any.strconv_FormatInt_10 Tryz.QfB n h0 h1 W (QsI N (Qkm I))).mono λe w' h=>by
  obtain⟨he,k,os,rfl⟩:=h;exact⟨he,(fJ ((fI W).drewN k)).trans (Qmq _ os)⟩
end Go.Proofs.YtdiecmkpbadgjaaGreatDoor
