/- What the theorem needs of the texts LeftL: no condition of its own. -/
import Derived.Test.YtdiecmkpbadgjaaGreatDoorPlo
set_option linter.unusedVariables false
set_option linter.unusedSimpArgs false
set_option linter.unnecessarySimpa false
set_option maxRecDepth 100000
set_option maxHeartbeats 2000000
namespace Go.Proofs.YtdiecmkpbadgjaaGreatDoor
open Go.Proofs.Tryz
open Go.RowKit Go.Maps Go.Shelf
variable{w:World}{s:Sl}
theorem leftL{last:Int}{l:List Nm}(hw:(Lit.int .u64 last).wf=true)(hr:Qa7 w (Lt w) s l)(hL:Qb4 w) :
  Calls prog 3 #[.int .u64 last,.slice s.a l.length s.c] w λe w'=>e=.returned (.bool true)/\Nw w w':=by
 obtain⟨a3,HR⟩:=Yb (λW (hW:Nw w W)=>Qpz (hL.nw hW)) hr;clear hL hr;go_in;by_cases b0:100<l.length
 ·have l1:decide ((100:Int)<(l.length:Int))=true:=dY oM
  go_wp2_with fail;refine(a3.o w (fu _ _)).mono ?_;rintro e w1 ⟨rfl,hn⟩;have HN:=hY hn;clear hn;go_wp2_with fail;go_ret;exact⟨rfl,HN.o⟩
 have l1:decide ((100:Int)<(l.length:Int))=false:=dV oM;go_wp2_with fail;refine(Qfk (last:=last) HR.o λb Z=>Z).mono ?_;rintro e w1 ⟨s1,rfl,I,a0⟩;obtain⟨a8,a6,a5⟩:=Yc I a0 (Qle (last:=last) (HR.o.ext I λb Z=>Z) λb Z=>ab Z I.size);clear I a0;go_wp2_with fail;refine a5.o.mono ?_;rintro e w2 ⟨s2,rfl,N,a1⟩;obtain⟨a7,a9⟩:=Yb N (QgX (s:=s1) (s':=s2) (a6.o.up (λb Z=>Z.2) (fr N)) a1);clear N a1;go_wp2_with fail;refine a9.o.mono ?_;rintro e w3 ⟨rfl,a2⟩;have a4:=hY (((fr a8.o).trans (fr a7.o)).trans (fr a2));clear a2;go_wp2_with fail;refine(a3.o w3 a4.o).mono ?_;rintro e w4 ⟨rfl,hn⟩;have HN:=hY (a4.o.trans hn);clear hn;go_wp2_with fail;go_ret;exact⟨rfl,HN.o⟩
end Go.Proofs.YtdiecmkpbadgjaaGreatDoor
