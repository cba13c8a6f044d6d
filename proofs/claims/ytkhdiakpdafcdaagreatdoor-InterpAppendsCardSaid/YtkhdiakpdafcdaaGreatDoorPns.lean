/- What the theorem needs of the texts LaidQ: no condition of its own. -/
import Derived.Laws.IdiomStrings
import Derived.WalkArith
import Derived.Test.YtkhdiakpdafcdaaGreatDoorPna
import Derived.Test.YtkhdiakpdafcdaaGreatDoorPnc
import Derived.Test.YtkhdiakpdafcdaaGreatDoorPnd
import Derived.Test.YtkhdiakpdafcdaaGreatDoorPne
import Derived.Test.YtkhdiakpdafcdaaGreatDoorPnf
import Derived.Test.YtkhdiakpdafcdaaGreatDoorPng
import Derived.Test.YtkhdiakpdafcdaaGreatDoorPnh
namespace Go.Proofs.YtkhdiakpdafcdaaGreatDoor
open Go.RowKit Go.Maps Go.Shelf
set_option linter.unusedVariables false
theorem libq_of {w:World} (h:laidMetH Tryz.prog laid5 w):LibQ w:=by
 refine ⟨lib0_of h,dec_of h,fun W hW n h0 h1=>?_⟩
 have h':laidMet Tryz.prog laid5 w:=h
 have hp:=Lib.laidMet.reads h' (n:= "internal/strconv.uint64pow10") (d:=Rows.laid_internal_strconv_uint64pow10) (by simp [laid5])
 rw [pow_eqO] at hp
 exact (Any.strconv_FormatInt_10 Tryz.layFormatInt n h0 h1 W (tab_g6 hW (reads_pow hp))).mono fun e w' h=>by
  obtain ⟨he,k,os,rfl⟩:=h
  exact ⟨he,(Nw.of ((Ext.refl W).drewN k)).trans (nw_growO _ os)⟩
end Go.Proofs.YtkhdiakpdafcdaaGreatDoor
