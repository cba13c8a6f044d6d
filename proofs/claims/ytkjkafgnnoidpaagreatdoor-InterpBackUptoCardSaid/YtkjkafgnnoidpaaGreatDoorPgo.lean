/- What the theorem needs of the texts Begins13: no condition of its own. -/
import Derived.Test.YtkjkafgnnoidpaaGreatDoorPgg
set_option linter.unusedVariables false
set_option linter.unusedSimpArgs false
set_option linter.unnecessarySimpa false
set_option maxRecDepth 100000
set_option maxHeartbeats 1000000
namespace Go.Proofs.YtkjkafgnnoidpaaGreatDoor
open Go.Proofs.Tryz
open Go.RowKit Go.Maps Go.Shelf
theorem Qi4(w:World)(k p:ByteArray)(U:k.size<=maxLen)(X:p.size<=maxLen):Calls prog 32 #[.string k,.string p] w λe w'=>e=.returned (.bool (p.toList.isPrefixOf k.toList))/\w=w':=by
 unfold maxLen at U X;have L:=Qbj k;have I:=Qbj p;by_cases h:p.size<=k.size
 ·have g1:(p.size:Int)≤(k.size:Int):=by omega
  have g2:min p.size k.size=p.size:=by omega
  have D:(k.extract 0 p.size).toList=k.toList.take p.size:=extract_toList k p.size;have J:((k.extract 0 p.size).toList==p.toList)=p.toList.isPrefixOf k.toList:=by
   rw[D];cases z:p.toList.isPrefixOf k.toList with
   | true=>
     have:=ce.1 (bU.1 z);rw[<-I,<-this];simp
   | false=>
     rw[eu];intro e;have:p.toList <+: k.toList:=by rw[<-e];exact List.take_prefix _ _
     rw[bU.2 this]at z;cases z
  have R:=hY J;clear J D L I;go_in;go_wp2_with fail;go_ret;exact⟨by rw[<-R.o];rfl,rfl⟩
 have g1:¬(p.size:Int)<=(k.size:Int):=by omega
 have Y:decide ((p.size:Int)<=(k.size:Int))=false:=eh g1;have N:p.toList.isPrefixOf k.toList=false:=by
  cases z:p.toList.isPrefixOf k.toList with
  |true=>have:=(bU.1 z).length_le;omega
  |false=>rfl
 rw[N];clear L I N;go_in;go_wp2_with fail;go_ret;exact⟨rfl,rfl⟩
end Go.Proofs.YtkjkafgnnoidpaaGreatDoor
