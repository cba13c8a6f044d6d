/- What the theorem needs of the texts OvLay, FitI, FitL, KeysMay, OddV, MayV, DeepV, OwnS, OvLay2, LaidO, Bldr, Quo1, Runes, RangeP, RunS, LetR, Quo, QuoW, OwnV, OwnW, OwnM: no condition of its own. -/
import Derived.Shelf.SlIter.Nil
import Derived.Shelf.SortM.Plain
import Derived.Shelf.SortM.SortNone
import Derived.Shelf.Strconv.Itoa4
import Derived.Shelf.Unicode.ValidAny
import Derived.Shelf.Small.Wraps
import Derived.Lib.LaidU8
import Derived.Lib.ItoaLen
import Derived.Test.YtkjkafgnnoidpaaGreatDoorRows
import Derived.Shelf.Unicode.DecodeLastEight
import Derived.Shelf.Strings.MapAny
import Derived.Maps.OwnIn
import Derived.Test.YtkjkafgnnoidpaaGreatDoorPhf
set_option linter.unusedVariables false
set_option linter.unusedSimpArgs false
set_option linter.unnecessarySimpa false
set_option maxRecDepth 100000
set_option maxHeartbeats 4000000
namespace Go.Proofs.YtkjkafgnnoidpaaGreatDoor
open Go.Proofs.Tryz
open Go.RowKit Go.Maps Go.Sort Go.Shelf
def Tryz.QgP:Go.Shelf.Ren:=⟨λ| 7=>49|10=>86|n=>n,λ| 23=>77|26=>9|3=>87|28=>94|0=>0|27=>93|33=>47|4=>4|n=>n,λ| n=>n⟩
theorem Tryz.QsA:Go.Proofs.SlLaysZ.n7 prog Tryz.QgP:={
 mixed:=by kernel_rfl
 f7:=⟨Tryz.f49.name,by decide,func49.trans (congrArg some (by kernel_rfl))⟩
 f10:=⟨Tryz.f86.name,by decide,func86.trans (congrArg some (by kernel_rfl))⟩
 t0:=underlying0
 a0:=isAgg0
 z0:=sizeOf0
 v0:=zeroValue0
 t4:=underlying4
 a4:=isAgg4
 z4:=sizeOf4
 v4:=zeroValue4
 t23:=underlying77
 a23:=isAgg77
 z23:=sizeOf77
 v23:=zeroValue77
 t26:=underlying9
 a26:=isAgg9
 z26:=sizeOf9
 v26:=zeroValue9
 t27:=underlying93
 a27:=isAgg93
 z27:=sizeOf93
 v27:=zeroValue93
 t28:=underlying94
 a28:=isAgg94
 z28:=sizeOf94
 v28:=zeroValue94
 t33:=underlying47
 a33:=isAgg47
 z33:=sizeOf47
 v33:=zeroValue47 }
def Tryz.Qhh:Go.Shelf.Ren:=⟨λ| 6=>48|8=>84|9=>85|11=>124|13=>126|12=>125|23=>184|24=>185|14=>175|15=>176|16=>177|17=>178|18=>179|19=>180|20=>181|21=>182|22=>183|25=>213|26=>214|27=>215|28=>216|29=>217|30=>218|31=>241|n=>n,λ| 26=>9|28=>94|24=>91|0=>0|3=>3|37=>174|48=>215|50=>217|4=>4|40=>209|39=>208|45=>88|5=>5|9=>9|51=>245|55=>249|57=>275|58=>229|33=>47|n=>n,λ| n=>n⟩
theorem Tryz.QpY:Go.Proofs.SlLaysZ.n6 prog Tryz.Qhh:={
 mixed:=by kernel_rfl
 f6:=⟨Tryz.f48.name,by decide,func48.trans (congrArg some (by kernel_rfl))⟩
 f8:=⟨Tryz.f84.name,by decide,func84.trans (congrArg some (by kernel_rfl))⟩
 f11:=⟨Tryz.f124.name,by decide,func124.trans (congrArg some (by kernel_rfl))⟩
 t0:=underlying0
 a0:=isAgg0
 z0:=sizeOf0
 v0:=zeroValue0
 t24:=underlying91
 a24:=isAgg91
 z24:=sizeOf91
 v24:=zeroValue91
 t26:=underlying9
 a26:=isAgg9
 z26:=sizeOf9
 v26:=zeroValue9
 t28:=underlying94
 a28:=isAgg94
 z28:=sizeOf94
 v28:=zeroValue94
 i26:=by kernel_rfl }
def Tryz.QpX:Go.Shelf.Ren:=⟨λ| 6=>85|8=>126|9=>125|19=>184|20=>185|21=>175|22=>176|23=>177|24=>178|25=>179|26=>180|27=>181|28=>182|29=>183|36=>213|31=>214|32=>215|37=>216|38=>217|39=>218|41=>241|n=>n,λ| 27=>91|29=>9|3=>3|32=>174|26=>91|0=>0|44=>215|46=>217|4=>4|36=>209|35=>208|41=>88|5=>5|9=>9|53=>245|57=>249|63=>275|64=>229|n=>n,λ| n=>n⟩
theorem Tryz.QrI:Go.Proofs.SlLaysM.n6 prog Tryz.QpX:={
 mixed:=by kernel_rfl
 f6:=⟨Tryz.f85.name,by decide,func85.trans (congrArg some (by kernel_rfl))⟩
 f8:=func126.trans (congrArg some (by kernel_rfl))
 f9:=⟨Tryz.f125.name,by decide,func125.trans (congrArg some (by kernel_rfl))⟩
 f19:=func184.trans (congrArg some (by kernel_rfl))
 f20:=func185.trans (congrArg some (by kernel_rfl))
 f21:=⟨Tryz.f175.name,by decide,func175.trans (congrArg some (by kernel_rfl))⟩
 f22:=⟨Tryz.f176.name,by decide,func176.trans (congrArg some (by kernel_rfl))⟩
 f23:=⟨Tryz.f177.name,by decide,func177.trans (congrArg some (by kernel_rfl))⟩
 f24:=⟨Tryz.f178.name,by decide,func178.trans (congrArg some (by kernel_rfl))⟩
 f25:=⟨Tryz.f179.name,by decide,func179.trans (congrArg some (by kernel_rfl))⟩
 f26:=⟨Tryz.f180.name,by decide,func180.trans (congrArg some (by kernel_rfl))⟩
 f27:=⟨Tryz.f181.name,by decide,func181.trans (congrArg some (by kernel_rfl))⟩
 f28:=⟨Tryz.f182.name,by decide,func182.trans (congrArg some (by kernel_rfl))⟩
 f29:=⟨Tryz.f183.name,by decide,func183.trans (congrArg some (by kernel_rfl))⟩
 f31:=func214.trans (congrArg some (by kernel_rfl))
 f32:=func215.trans (congrArg some (by kernel_rfl))
 f36:=⟨Tryz.f213.name,by decide,func213.trans (congrArg some (by kernel_rfl))⟩
 f37:=⟨Tryz.f216.name,by decide,func216.trans (congrArg some (by kernel_rfl))⟩
 f38:=⟨Tryz.f217.name,by decide,func217.trans (congrArg some (by kernel_rfl))⟩
 f39:=⟨Tryz.f218.name,by decide,func218.trans (congrArg some (by kernel_rfl))⟩
 f41:=⟨Tryz.f241.name,by decide,func241.trans (congrArg some (by kernel_rfl))⟩
 t0:=underlying0
 a0:=isAgg0
 z0:=sizeOf0
 v0:=zeroValue0
 t3:=underlying3
 a3:=isAgg3
 z3:=sizeOf3
 v3:=zeroValue3
 t4:=underlying4
 a4:=isAgg4
 z4:=sizeOf4
 v4:=zeroValue4
 t5:=underlying5
 a5:=isAgg5
 z5:=sizeOf5
 v5:=zeroValue5
 t9:=underlying9
 a9:=isAgg9
 z9:=sizeOf9
 v9:=zeroValue9
 t26:=underlying91
 a26:=isAgg91
 z26:=sizeOf91
 v26:=zeroValue91
 t27:=underlying91
 a27:=isAgg91
 z27:=sizeOf91
 v27:=zeroValue91
 t29:=underlying9
 a29:=isAgg9
 z29:=sizeOf9
 v29:=zeroValue9
 t32:=underlying174
 a32:=isAgg174
 z32:=sizeOf174
 v32:=zeroValue174
 t35:=underlying208
 a35:=isAgg208
 z35:=sizeOf208
 v35:=zeroValue208
 t36:=underlying209
 a36:=isAgg209
 z36:=sizeOf209
 v36:=zeroValue209
 t41:=underlying88
 a41:=isAgg88
 z41:=sizeOf88
 v41:=zeroValue88
 t44:=underlying215
 a44:=isAgg215
 z44:=sizeOf215
 v44:=zeroValue215
 t46:=underlying217
 a46:=isAgg217
 z46:=sizeOf217
 v46:=zeroValue217
 t53:=underlying245
 a53:=isAgg245
 z53:=sizeOf245
 v53:=zeroValue245
 t57:=underlying249
 a57:=isAgg249
 z57:=sizeOf249
 v57:=zeroValue249
 t63:=underlying275
 a63:=isAgg275
 z63:=sizeOf275
 v63:=zeroValue275
 t64:=underlying229
 a64:=isAgg229
 z64:=sizeOf229
 v64:=zeroValue229 }
def Tryz.QfY:Go.Shelf.Ren:=⟨λ| 99=>174|206=>212|n=>n,λ| 9=>9|4=>4|3=>3|n=>n,λ| n=>n⟩
theorem Tryz.QjC:Go.Proofs.Lays.n99 prog Tryz.QfY:={
 mixed:=by kernel_rfl
 f99:=func174.trans (congrArg some (by kernel_rfl))
 f206:=func212.trans (congrArg some (by kernel_rfl))
 t3:=underlying3
 a3:=isAgg3
 z3:=sizeOf3
 v3:=zeroValue3
 t4:=underlying4
 a4:=isAgg4
 z4:=sizeOf4
 v4:=zeroValue4
 t9:=underlying9
 a9:=isAgg9
 z9:=sizeOf9
 v9:=zeroValue9 }
def Tryz.QfX:Go.Shelf.Ren:=⟨λ| 173=>161|246=>206|283=>228|284=>229|285=>230|286=>231|129=>185|317=>243|318=>244|319=>245|320=>246|337=>253|338=>254|n=>n,λ| 2=>2|3=>3|9=>9|4=>4|171=>257|0=>0|53=>217|37=>156|5=>5|173=>259|212=>280|51=>215|20=>20|213=>281|46=>174|232=>288|233=>289|n=>n,λ| 17=>3|18=>4|19=>5|n=>n⟩
theorem Tryz.QfH:Go.Proofs.LaysM.n173 prog Tryz.QfX:={
 mixed:=by kernel_rfl
 f129:=func185.trans (congrArg some (by kernel_rfl))
 f173:=func161.trans (congrArg some (by kernel_rfl))
 f246:=func206.trans (congrArg some (by kernel_rfl))
 f283:=func228.trans (congrArg some (by kernel_rfl))
 f284:=func229.trans (congrArg some (by kernel_rfl))
 f285:=func230.trans (congrArg some (by kernel_rfl))
 f286:=func231.trans (congrArg some (by kernel_rfl))
 f317:=func243.trans (congrArg some (by kernel_rfl))
 f318:=func244.trans (congrArg some (by kernel_rfl))
 f319:=func245.trans (congrArg some (by kernel_rfl))
 f320:=func246.trans (congrArg some (by kernel_rfl))
 f337:=func253.trans (congrArg some (by kernel_rfl))
 f338:=func254.trans (congrArg some (by kernel_rfl))
 t0:=underlying0
 a0:=isAgg0
 z0:=sizeOf0
 v0:=zeroValue0
 t2:=underlying2
 a2:=isAgg2
 z2:=sizeOf2
 v2:=zeroValue2
 t3:=underlying3
 a3:=isAgg3
 z3:=sizeOf3
 v3:=zeroValue3
 t4:=underlying4
 a4:=isAgg4
 z4:=sizeOf4
 v4:=zeroValue4
 t5:=underlying5
 a5:=isAgg5
 z5:=sizeOf5
 v5:=zeroValue5
 t9:=underlying9
 a9:=isAgg9
 z9:=sizeOf9
 v9:=zeroValue9
 t20:=underlying20
 a20:=isAgg20
 z20:=sizeOf20
 v20:=zeroValue20
 t37:=underlying156
 a37:=isAgg156
 z37:=sizeOf156
 v37:=zeroValue156
 t46:=underlying174
 a46:=isAgg174
 z46:=sizeOf174
 v46:=zeroValue174
 t51:=underlying215
 a51:=isAgg215
 z51:=sizeOf215
 v51:=zeroValue215
 t53:=underlying217
 a53:=isAgg217
 z53:=sizeOf217
 v53:=zeroValue217
 t171:=underlying257
 a171:=isAgg257
 z171:=sizeOf257
 v171:=zeroValue257
 t173:=underlying259
 a173:=isAgg259
 z173:=sizeOf259
 v173:=zeroValue259
 t212:=underlying280
 a212:=isAgg280
 z212:=sizeOf280
 v212:=zeroValue280
 t213:=underlying281
 a213:=isAgg281
 z213:=sizeOf281
 t232:=underlying288
 a232:=isAgg288
 z232:=sizeOf288
 v232:=zeroValue288
 t233:=underlying289
 a233:=isAgg289
 z233:=sizeOf289
 v233:=zeroValue289
 g17:=by kernel_rfl
 g18:=by kernel_rfl
 g19:=by kernel_rfl
 i0:=by kernel_rfl
 i2:=by kernel_rfl
 i3:=by kernel_rfl
 i4:=by kernel_rfl
 i5:=by kernel_rfl
 i9:=by kernel_rfl
 i20:=by kernel_rfl
 i37:=by kernel_rfl
 i46:=by kernel_rfl
 i51:=by kernel_rfl
 i53:=by kernel_rfl
 i171:=by kernel_rfl
 i173:=by kernel_rfl
 i212:=by kernel_rfl
 i232:=by kernel_rfl
 i233:=by kernel_rfl
 m17:=by kernel_rfl
 m18:=by kernel_rfl
 m19:=by kernel_rfl }
def Tryz.QjD:Go.Shelf.Ren:=⟨λ| 196=>155|259=>203|n=>n,λ| 9=>9|4=>4|3=>3|5=>5|12=>12|119=>233|0=>0|46=>174|139=>236|138=>235|53=>217|n=>n,λ| 3=>0|4=>1|n=>n⟩
theorem Tryz.QqX:Go.Proofs.Lays.n196 prog Tryz.QjD:={
 mixed:=by kernel_rfl
 f196:=func155.trans (congrArg some (by kernel_rfl))
 f259:=func203.trans (congrArg some (by kernel_rfl))
 t0:=underlying0
 a0:=isAgg0
 z0:=sizeOf0
 v0:=zeroValue0
 t3:=underlying3
 a3:=isAgg3
 z3:=sizeOf3
 v3:=zeroValue3
 t4:=underlying4
 a4:=isAgg4
 z4:=sizeOf4
 v4:=zeroValue4
 t5:=underlying5
 a5:=isAgg5
 z5:=sizeOf5
 v5:=zeroValue5
 t9:=underlying9
 a9:=isAgg9
 z9:=sizeOf9
 v9:=zeroValue9
 t12:=underlying12
 a12:=isAgg12
 z12:=sizeOf12
 v12:=zeroValue12
 t46:=underlying174
 a46:=isAgg174
 z46:=sizeOf174
 v46:=zeroValue174
 t53:=underlying217
 a53:=isAgg217
 z53:=sizeOf217
 v53:=zeroValue217
 t119:=underlying233
 a119:=isAgg233
 z119:=sizeOf233
 t138:=underlying235
 a138:=isAgg235
 z138:=sizeOf235
 v138:=zeroValue235
 t139:=underlying236
 a139:=isAgg236
 z139:=sizeOf236
 v139:=zeroValue236
 g3:=by kernel_rfl
 g4:=by kernel_rfl }
def Tryz.Qfp:Go.Shelf.Ren:=⟨λ| 121=>159|214=>205|n=>n,λ| 4=>4|9=>9|n=>n,λ| n=>n⟩
theorem Tryz.Qix:Go.Proofs.Lays.n121 prog Tryz.Qfp:={
 mixed:=by kernel_rfl
 f121:=func159.trans (congrArg some (by kernel_rfl))
 f214:=func205.trans (congrArg some (by kernel_rfl))
 t4:=underlying4
 a4:=isAgg4
 z4:=sizeOf4
 v4:=zeroValue4
 t9:=underlying9
 a9:=isAgg9
 z9:=sizeOf9
 v9:=zeroValue9 }
theorem Tryz.QpZ(m:Nat):AnyZ.SortsIn prog Tryz.Qhh Fence.wide m:=
 ⟨fun I D cap ss W N z J=>eC.2 (AnyM.slices_Sort_string Tryz.QrI I D cap ss W N z J),
  λp cap W=>eC.2 (AnyM.slices_Sort_string_none Tryz.QrI p cap W)⟩
theorem Tryz.QhM(mb:Option Nat)(W:World):CallsIn Fence.wide 5 prog 49 #[.map mb] W λe w'=>e=.returned (.func (.func 86) #[] #[.pointer (some ⟨W,0,none⟩)])/\w'=W.alloc (.cells #[.map mb] 77):=
 AnyZ.keys_in Tryz.QsA Fence.wide 5 trivial rfl mb W
theorem Tryz.QeD{H:Type}(b Y:Nat)(I:DataW H)(R:Value->Option (DataW H × List MemPlace))(w:World)(D:w.ownsMap prog 9 R b Y I)(U:Maps.size I<=maxLen)(z:Maps.size I*16<=140737488355328) :
  CallsIn Fence.wide 5 prog 48 #[.func (.func 86) #[] #[.pointer (some ⟨w,0,none⟩)]] (w.alloc (.cells #[.map (some b)] 77)) λe w'=>∃(v:Value) (ss:List (List UInt8)),e=.returned v/\ss.Perm (strKeys I)/\
   w'.ownsRow (w.alloc (.cells #[.map (some b)] 77)).heap.size 9 1 v ss.length ((ss.mergeSort (λx y=>decide (x<=y))).map encStr)/\(v=.slice none 0 0↔ss=[])/\Below (w.alloc (.cells #[.map (some b)] 77)).heap.size (w.alloc (.cells #[.map (some b)] 77)) w':=by
 have X:=D.lt;have N:SeqGives Fence.wide 2 prog 86 #[.pointer (some ⟨w,0,none⟩)] encStr (λss=>ss.Perm (strKeys I)) (Maps.size I) (w.alloc (.cells #[.map (some b)] 77)):=
  AnyZ.keys_gives (ρ:=Tryz.QgP) { Tryz.QsA with } Fence.wide _ trivial rfl (by omega) w.heap.size b Y I _ (by simp) (by simp) (by
   obtain⟨es,J,hb,Z,hs,hD⟩:=D;exact⟨es,J,(eJ _ _ b X).trans hb,Z,hs,hD⟩)
 exact AnyZ.sorted_in Tryz.QpY Fence.wide 5 trivial trivial trivial trivial rfl (by omega) (Tryz.QpZ _) (eO func85 (by kernel_rfl) rfl) 86 #[.pointer (some ⟨w,0,none⟩)] trivial (eO func86 (by kernel_rfl) rfl) _ _ U z _ N
theorem Tryz.Qdo(w:World) :
  CallsIn Fence.wide 5 prog 48 #[.func (.func 86) #[] #[.pointer (some ⟨w,0,none⟩)]] (w.alloc (.cells #[.map none] 77)) λe w'=>∃(v:Value) (ss:List (List UInt8)),e=.returned v/\ss=[]/\
   w'.ownsRow (w.alloc (.cells #[.map none] 77)).heap.size 9 1 v ss.length ((ss.mergeSort (λx y=>decide (x<=y))).map encStr)/\(v=.slice none 0 0↔ss=[])/\Below (w.alloc (.cells #[.map none] 77)).heap.size (w.alloc (.cells #[.map none] 77)) w':=by
 have z:SeqGives Fence.wide 2 prog 86 #[.pointer (some ⟨w,0,none⟩)] encStr (λss:List (List UInt8)=>ss=[]) 0 (w.alloc (.cells #[.map none] 77)):=
  AnyZ.keys_gives_nil (ρ:=Tryz.QgP) { Tryz.QsA with } Fence.wide _ trivial rfl w.heap.size _ (by simp) (by simp)
 exact AnyZ.sorted_in Tryz.QpY Fence.wide 5 trivial trivial trivial trivial rfl (by omega) (Tryz.QpZ _) (eO func85 (by kernel_rfl) rfl) 86 #[.pointer (some ⟨w,0,none⟩)] trivial (eO func86 (by kernel_rfl) rfl) _ 0 (aw _) (by omega) _ z
abbrev Qbs(n:Int):Val:=.mk 3 false n ByteArray.empty [] [] []
abbrev QuH(n:Int):Value:=.agg #[.int .i64 3,.bool false,.int .i64 n,.string ByteArray.empty,.slice none 0 0,.slice none 0 0]
def Qhp(ks:List ByteArray):Nat:=(ks.map ByteArray.size).sum
variable{ks:List ByteArray}{j:Nat}
theorem Qp4{k:ByteArray}(h:ks[j]? = some k):Qhp (ks.take (j+1))=Qhp (ks.take j)+k.size:=by
 obtain⟨z,rfl⟩:=ah.1 h;unfold Qhp;rw[List.take_succ_eq_append_getElem z,aL,List.sum_append];simp
theorem Qs1(ks:List ByteArray)(j:Nat):Qhp (ks.take j)<=Qhp ks:=by
 have:Qhp ks=Qhp (ks.take j)+Qhp (ks.drop j):=by unfold Qhp;rw[<-List.sum_append,<-aL,aX]
 omega
abbrev wrC(a b:Value)(n:Nat):Array Value:=#[.bool false,a,b,.int .i64 (n:Int)]
variable{w:World}{B n:Nat}{F:Nat->Prop}{s:Sl}
theorem Qiu{a b:Value}(hB:Blk w B 160 (wrC a b n))(hr:Rd w F 1 s ks.length (ks.map .string))(hF:∀i,F i->i<w/\i≠B)(hn:n+Qhp ks<=100000000)(a4:ks.length<=1000000) :
  Calls prog 158 #[.pointer (some ⟨B,0,none⟩),.slice s.a ks.length s.c] w λe w'=>(∃r,e=.returned r)/\Blk w' B 160 (wrC a b (n+Qhp ks))/\St (λc=>c=B) w w':=by
 obtain⟨g,o,h1,-,h3⟩:=hr;have H1:=hY h1;have H3:=hY h3;have HF:=hY hF;have HB:=hY hB;clear h1 h3 hF hB;go_in;go_wp2_with fail;go_loopw[8] (λq wr=>∃j:Nat,q=.int .i64 (j:Int)/\j<=ks.length/\Blk wr B 160 (wrC a b (n+Qhp (ks.take j)))/\St (λc=>c=B) w wr) (λq _=>ks.length -(intOf q).toNat)
 case atStart=>exact⟨0,rfl,aw _,by simpa[Qhp]using HB.o,St.refl _ _⟩
 obtain⟨j,rfl,a3,D,z⟩:=hrel;by_cases I:j<ks.length
 ·have g1:decide ((j:Int)<(ks.length:Int))=true:=ej (by omega)
  have a2:(j:Int)<(ks.length:Int):=by omega
  obtain⟨k,hk⟩:∃k,ks[j]? = some k:=⟨_,ac I⟩;obtain⟨e1,hc,Y⟩:=H1.o.eq (by omega);have lg:=HF.o g (H1.o.fits (by omega));obtain⟨sa,sc⟩:=s;dsimp only at e1 hc Y;subst e1;have c0:wr.cell? ⟨g,o+j,none⟩=some (.string k):=(z.cell lg.1 lg.2).trans (H3.o j _ (by rw[aq,hk];rfl));have c3:wr.cell? ⟨B,3,none⟩=some (.int .i64 ((n+Qhp (ks.take j):Nat):Int)):=D.cell 3;have ck:wr.cell? ⟨B,0,none⟩=some (.bool false):=D.cell 0;have f3:=D.frozen 3;have lB:=D.lt;have R:=Qp4 hk;have Z:=Qs1 ks (j+1);obtain⟨m,hm⟩:∃m,n+Qhp (ks.take j)=m:=⟨_,rfl⟩;have J:n+Qhp (ks.take (j+1))=m+k.size:=by omega
  rw[hm]at c3 D;have g2:IntKind.i64.wrap ((m:Int)+(k.size:Int))=(m:Int)+(k.size:Int):=by rw[ew];omega
  have a0:=hY D;have U:=hY z;have a1:=hY J;clear D z hk R Z hm J;go_wp2_with fail;have N:St (λc=>c=B) wr (wr.setCell ⟨B,3,none⟩ (.int .i64 ((m:Int)+(k.size:Int)))):=(St.refl (λc=>c=B) wr).set (p:=⟨B,3,none⟩) (.inr rfl) _;have X:=a0.o.Qdz 3 (.int .i64 ((m:Int)+(k.size:Int)));exact⟨⟨j+1,rfl,I,by rw[a1.o];exact X,U.o.trans N⟩,by show ks.length -((j:Int)+1).toNat<ks.length -(j:Int).toNat;omega⟩
 obtain rfl:j=ks.length:=by omega
 have g1:decide ((ks.length:Int)<(ks.length:Int))=false:=eh (by omega);rw[aM]at D;go_wp2_with fail;go_end0;exact⟨⟨_,rfl⟩,D,z⟩
def Qta(n:Int)(W:World):Prop:=Calls prog 161 #[.int .i64 n,.int .i64 10] W λe w'=>∃s:ByteArray,e=.returned (.string s)/\s.size<=21/\Nw W w'
theorem join_one{a b:Value}{m:Nat}(s:ByteArray)(z:Blk w B 160 (wrC a b m))(N:m<=10000000)(hs:s.size<=1000) :
  Calls prog 158 #[.pointer (some ⟨B,0,none⟩),.slice (some ⟨w,0,none⟩) 1 1] (w.alloc (.cells #[.string s] 9)) λe w'=>(∃r,e=.returned r)/\Blk w' B 160 (wrC a b (m+s.size))/\Sb (λc=>c=B) w w':=by
 have D:Ext w (w.alloc (.cells #[.string s] 9)):=(fv w).alloc _ _;have J:=z.lt;have I:=Qiu (s:=⟨some ⟨w,0,none⟩,1⟩) (ks:=[s]) (z.ext D) (fH (fA w 9 #[.string s]) (by decide) rfl) (λi hi=>by subst hi;exact⟨by simp,by omega⟩) (by simp[Qhp];omega) (by simp);exact I.mono λe w' ⟨h1,h2,h3⟩=>⟨h1,by simpa[Qhp]using h2,(Nw.any (fx D) _).trans h3.sb⟩
def G5(w W:World):Prop:=∀b,b<6->W.heap[b]? = w.heap[b]?
theorem G5.refl(w:World):G5 w w:=λ_ _=>rfl
theorem G5.trans{a b c:World}(h:G5 a b)(k:G5 b c):G5 a c:=λi hi=>(k i hi).trans (h i hi)
variable{H:Nat->Prop}{w':World}
theorem Sb.g5(h:Sb H w w')(I:6<=w.heap.size)(z:∀b,b<6->¬H b):G5 w w':=λb D=>h.block b (by omega) (z b D)
structure QiW(w:World):Prop where
 big:6<=w.heap.size
 fmt:∀W,G5 w W->∀n:Int,-9223372036854775808<=n->n<=9223372036854775807->Qta n W
 val:∀W,G5 w W->∀s:ByteArray,s.size<=maxLen->Calls prog 155 #[.string s] W λe w'=>e=.returned (.bool (Lib.validD s.data.toList))/\Nw W w'
theorem QiW.sb(h:QiW w)(k:Sb H w w')(D:∀b,b<6->¬H b):QiW w':=
 ⟨Nat.le_trans h.big k.size,λW z=>h.fmt W ((k.g5 h.big D).trans z),λW z=>h.val W ((k.g5 h.big D).trans z)⟩
theorem QiW.nw(h:QiW w)(k:Nw w w'):QiW w':=h.sb k λ_ _ e=>e
def Qbd(k:ByteArray):Int:=if k.size=0 then 8 else if 64<k.size then 6 else if Lib.validD k.data.toList then 0 else 3
theorem QsU{k:ByteArray}(D:Blk w B 9 #[.string k]):Calls prog 110 #[.pointer (some ⟨B,0,none⟩)] w λe w'=>e=.returned (.bool (decide (k.size=0)))/\w'=w:=by
 have N:w.cell? ⟨B,0,none⟩=some (.string k):=D.cell 0;have z:k.toList.isEmpty=decide (k.size=0):=by
  rw[eB];by_cases h:k.size=0
  ·have:k.data.toList=[]:=ar (by rw [aH];exact h)
   rw[this,ej h];rfl
  rw[eh h];cases I:k.data.toList with
  |nil=>exact absurd (by have:=congrArg List.length I;rw[aH]at this;exact this) h
  |cons a l=>rfl
 have J:=hY z;clear z;clear D;go_in;go_wp2_with fail;go_ret;exact⟨by rw[<-J.o];rfl,rfl⟩
theorem QsV{k:ByteArray}(z:Blk w B 9 #[.string k]):Calls prog 111 #[.pointer (some ⟨B,0,none⟩)] w λe w'=>e=.returned (.bool (decide (64<k.size)))/\w'=w:=by
 have D:w.cell? ⟨B,0,none⟩=some (.string k):=z.cell 0;clear z;go_in;go_wp2_with fail;go_ret;exact⟨by rw[show decide (64<k.size)=decide ((64:Int)<(k.size:Int))from decide_eq_decide.2 (by omega)];rfl,rfl⟩
theorem QsW{k:ByteArray}(I:Blk w B 9 #[.string k])(U:k.size<=maxLen)(J:QiW w):Calls prog 112 #[.pointer (some ⟨B,0,none⟩)] w λe w'=>e=.returned (.bool (!Lib.validD k.data.toList))/\Nw w w':=by
 have Z:w.cell? ⟨B,0,none⟩=some (.string k):=I.cell 0;have hu:∀W,G5 w W->Calls prog 113 #[.string k] W λe w'=>e=.returned (.bool (Lib.validD k.data.toList))/\Nw W w':=λW R=>by
  have N:=J.val W R k U;have Y:=hY N;clear N J I Z R;go_in;go_wp2_with fail;refine Y.o.mono ?_;rintro e w' ⟨rfl,z⟩;have D:=hY z;clear z;go_wp2_with fail;go_ret;exact⟨rfl,D.o⟩
 have X:=hY (hu w (G5.refl w));clear I J hu;go_in;go_wp2_with fail;refine X.o.mono ?_;rintro e w' ⟨rfl,z⟩;have D:=hY z;clear z;go_wp2_with fail;go_ret;exact⟨rfl,D.o⟩
abbrev QrD(B:Nat):Array Value:=#[.int .i64 8,.func (.func 110) #[] #[.pointer (some ⟨B,0,none⟩)],.int .i64 6,.func (.func 111) #[] #[.pointer (some ⟨B,0,none⟩)],.int .i64 3,.func (.func 112) #[] #[.pointer (some ⟨B,0,none⟩)]]
theorem Qk6(w:World)(k:ByteArray):Calls prog 65 #[.string k] w λe w'=>e=.returned (.slice (some ⟨w+1,0,none⟩) 3 3)/\Ext w w'/\Blk w' w.heap.size 9 #[.string k]/\∃t,Blk w' (w.heap.size+1) t (QrD w.heap.size):=by
 go_in;go_wp2_with fail;go_ret;generalize I:World.alloc _ _=W0;obtain⟨z,N,J,D⟩:=Qap w _ _ _ _ W0 I;exact⟨rfl,z,J,_,D⟩
theorem Qha(P:Program)(w:World)(a:Addr)(f:Fn)(z lb:Array Value)(m:Mode):(store a (.func f z lb) m).run P w=stored P w a (.func f z lb) m:=run_store P w a _ m rfl
attribute [local go_sem] Qha
theorem Qdj{k:ByteArray}(hk:k.size<=maxLen)(hL:QiW w):Calls prog 39 #[.string k] w λe w'=>e=.returned (.int .i64 (Qbd k))/\Nw w w':=by
 have hr:=λW=>Qk6 W k
 have HR:=hY hr;have HL:=hY hL;clear hr hL;go_in;go_wp2_with fail;refine(HR.o w).mono ?_;rintro e w1 ⟨rfl,a2,a0,t,z⟩;have a1:=hY a2;have a3:=hY a0;have a4:=hY z;have a5:=hY (HL.o.nw (fx a2));have l1:=z.lt;clear a2 a0 z HR;go_wp2_with fail;go_loopw[8] (λq wr=>∃j:Nat,q=.int .i64 (j:Int)/\j<=3/\(1<=j->k.size≠0)/\(2<=j->k.size<=64)/\(3<=j->Lib.validD k.data.toList=true)/\Nw w1 wr) (λq _=>3 -(intOf q).toNat)
 case atStart=>exact⟨0,rfl,by omega,by omega,by omega,by omega,fD _ _⟩
 obtain⟨j,rfl,hj,h1,h2,h3,hn⟩:=hrel;have a0:=hn.blk a3.o;have z:=fF hn a4.o;have c0:wr.cell? ⟨w+1,0,none⟩=some (.int .i64 8):=z.cell 0;have c1:wr.cell? ⟨w+1,1,none⟩=some (.func (.func 110) #[] #[.pointer (some ⟨w,0,none⟩)]):=z.cell 1;have c2:wr.cell? ⟨w+1,2,none⟩=some (.int .i64 6):=z.cell 2;have c3:wr.cell? ⟨w+1,3,none⟩=some (.func (.func 111) #[] #[.pointer (some ⟨w,0,none⟩)]):=z.cell 3;have c4:wr.cell? ⟨w+1,4,none⟩=some (.int .i64 3):=z.cell 4;have c5:wr.cell? ⟨w+1,5,none⟩=some (.func (.func 112) #[] #[.pointer (some ⟨w,0,none⟩)]):=z.cell 5;have HN:=hY hn;have HB:=hY a0;clear a0 z hn;rcases(by omega:j=0\/j=1\/j=2\/j=3)with rfl|rfl|rfl|rfl
 ·go_wp2_with fail
  have D:=(fv wr).alloc #[.int .i64 8,.func (.func 110) #[] #[.pointer (some ⟨w,0,none⟩)]] 118;have J:=HB.o.ext D;have N:=HN.o.trans (fx D);have Y:=hY N;have Z:=hY (fA wr 118 #[.int .i64 8,.func (.func 110) #[] #[.pointer (some ⟨w,0,none⟩)]]);clear D N c0 c1 c2 c3 c4 c5;refine((QsU J).mono λe w' h=>(show e=_/\Nw _ w' from⟨h.1,by rw[h.2];exact fD _ _⟩)).mono ?_;rintro e w4 ⟨rfl,I⟩;have R:=fF I Z.o;have c0:w4.cell? ⟨wr,0,none⟩=some (.int .i64 8):=R.cell 0;have U:=hY (Y.o.trans I);clear I R J;by_cases X:k.size=0
  ·have g0:decide (k.size=0)=true:=ej X
   rw[g0];go_wp2_with fail;go_ret;exact⟨by rw[show Qbd k=8 by rw[Qbd,em X]]<;>rfl,(fx a1.o).trans U.o⟩
  have g0:decide (k.size=0)=false:=eh X;rw[g0];go_wp2_with fail;exact⟨⟨1,by go_num,by omega,λ_=>X,by omega,by omega,U.o⟩,by simp[intOf]⟩
 ·go_wp2_with fail
  have D:=(fv wr).alloc #[.int .i64 6,.func (.func 111) #[] #[.pointer (some ⟨w,0,none⟩)]] 118;have J:=HB.o.ext D;have N:=HN.o.trans (fx D);have Y:=hY N;have Z:=hY (fA wr 118 #[.int .i64 6,.func (.func 111) #[] #[.pointer (some ⟨w,0,none⟩)]]);clear D N c0 c1 c2 c3 c4 c5;refine((QsV J).mono λe w' h=>(show e=_/\Nw _ w' from⟨h.1,by rw[h.2];exact fD _ _⟩)).mono ?_;rintro e w4 ⟨rfl,I⟩;have R:=fF I Z.o;have c0:w4.cell? ⟨wr,0,none⟩=some (.int .i64 6):=R.cell 0;have U:=hY (Y.o.trans I);clear I R J;by_cases X:64<k.size
  ·have g0:decide (64<k.size)=true:=ej X
   rw[g0];go_wp2_with fail;go_ret;exact⟨by rw[show Qbd k=6 by rw[Qbd,ef (h1 (by omega)),em X]]<;>rfl,(fx a1.o).trans U.o⟩
  have g0:decide (64<k.size)=false:=eh X;rw[g0];go_wp2_with fail;exact⟨⟨2,by go_num,by omega,λ_=>h1 (by omega),λ_=>by omega,by omega,U.o⟩,by simp[intOf]⟩
 ·go_wp2_with fail
  have D:=(fv wr).alloc #[.int .i64 3,.func (.func 112) #[] #[.pointer (some ⟨w,0,none⟩)]] 118;have J:=HB.o.ext D;have N:=HN.o.trans (fx D);have Y:=hY N;have Z:=hY (fA wr 118 #[.int .i64 3,.func (.func 112) #[] #[.pointer (some ⟨w,0,none⟩)]]);clear D c0 c1 c2 c3 c4 c5;refine(QsW J hk (a5.o.nw N)).mono ?_;rintro e w4 ⟨rfl,I⟩;have R:=fF I Z.o;have c0:w4.cell? ⟨wr,0,none⟩=some (.int .i64 3):=R.cell 0;have U:=hY (Y.o.trans I);clear I R J;by_cases X:Lib.validD k.data.toList=false
  ·have g0:(!Lib.validD k.data.toList)=true:=by rw [X];rfl
   rw[g0];go_wp2_with fail;go_ret;exact⟨by rw[show Qbd k=3 by rw[Qbd,ef (h1 (by omega)),ef (by have:=h2 (by omega);omega),ef (by rw[X];simp)]]<;>rfl,(fx a1.o).trans U.o⟩
  have g0:(!Lib.validD k.data.toList)=false:=by rw[Bool.not_eq_false]at X;rw[X];rfl
  rw[g0];go_wp2_with fail;exact⟨⟨3,by go_num,by omega,λ_=>h1 (by omega),λ_=>h2 (by omega),λ_=>by simpa using X,U.o⟩,by simp[intOf]⟩
 go_wp2_with fail;go_ret;exact⟨by rw[show Qbd k=0 by rw[Qbd,ef (h1 (by omega)),ef (by have:=h2 (by omega);omega),em (h3 (by omega))]];rfl,(fx a1.o).trans HN.o⟩
end Go.Proofs.YtkjkafgnnoidpaaGreatDoor
namespace Go.Proofs.YtkjkafgnnoidpaaGreatDoor
open Go.Proofs.Tryz
open Go.RowKit Go.Maps Go.Shelf
def QbD(k:Int)(b:Bool)(i:Int)(t:ByteArray)(ln on:Nat):Bool:=
 if k<1\/6<k then true
 else(k != 2&&b) ||(k != 3&&i != 0) ||(k != 4&&t.size != 0) ||(k != 5&&ln != 0) ||(k != 6&&on != 0)
def Qt0(v:Val):Bool:=QbD v.kind v.b v.i v.t v.l.length v.ok.length
theorem Qbc{t:ByteArray}(h:t.size=0):t.toList.isEmpty=true:=by
 rw[eB,List.isEmpty_iff];exact ar (by rw[aH];exact h)
theorem Qbx{t:ByteArray}(h:¬t.size=0):t.toList.isEmpty=false:=by
 rw[Bool.eq_false_iff];intro e;rw[eB,List.isEmpty_iff]at e;have:=congrArg List.length e;rw[aH]at this;exact h this
theorem QtC(w:World)(b:Bool)(i:Int)(t:ByteArray)(I z lc oc:Nat)(la oa:Option Addr) :
  Calls prog 156 #[.agg #[.int .i64 1,.bool b,.int .i64 i,.string t,.slice la I lc,.slice oa z oc]] w λe w'=>e=.returned (.bool (QbD 1 b i t I z))/\Ext w w':=by
 by_cases Z:b=true
 ·subst Z
  go_in;go_wp2_with fail;go_ret;exact⟨by simp[QbD],(fv w).alloc _ _⟩
 obtain rfl:b=false:=by simpa using Z
 by_cases hi:i=0
 rotate_left
 ·have gi:(i != 0)=true:=by simp [hi]
  go_in;go_wp2_with fail;go_ret;exact⟨by simp[QbD,hi],(fv w).alloc _ _⟩
 subst hi;by_cases J:t.size=0
 rotate_left
 ·have gt:=Qbx J
  go_in;go_wp2_with fail;go_ret;exact⟨by simp[QbD,J],(fv w).alloc _ _⟩
 have gt:=Qbc J;by_cases D:I=0
 rotate_left
 ·have U:(0:Int)<(I:Int):=by omega
  have Y:decide ((0:Int)<(I:Int))=true:=ej U;go_in;go_wp2_with fail;go_ret;exact⟨by simp[QbD,J,D,(show 0<I by omega)],(fv w).alloc _ _⟩
 have U:decide ((0:Int)<(I:Int))=false:=eh (by omega);by_cases R:z=0
 rotate_left
 ·have N:(0:Int)<(z:Int):=by omega
  have X:decide ((0:Int)<(z:Int))=true:=ej N;go_in;go_wp2_with fail;go_ret;exact⟨by simp[QbD,J,D,R,(show 0<z by omega)],(fv w).alloc _ _⟩
 have N:decide ((0:Int)<(z:Int))=false:=eh (by omega);go_in;go_wp2_with fail;go_ret;exact⟨by simp[QbD,J,D,R],(fv w).alloc _ _⟩
theorem QtD(w:World)(b:Bool)(i:Int)(t:ByteArray)(I z lc oc:Nat)(la oa:Option Addr) :
  Calls prog 156 #[.agg #[.int .i64 2,.bool b,.int .i64 i,.string t,.slice la I lc,.slice oa z oc]] w λe w'=>e=.returned (.bool (QbD 2 b i t I z))/\Ext w w':=by
 by_cases hi:i=0
 rotate_left
 ·have gi:(i != 0)=true:=by simp [hi]
  go_in;go_wp2_with fail;go_ret;exact⟨by simp[QbD,hi],(fv w).alloc _ _⟩
 subst hi;by_cases J:t.size=0
 rotate_left
 ·have Z:=Qbx J
  go_in;go_wp2_with fail;go_ret;exact⟨by simp[QbD,J],(fv w).alloc _ _⟩
 have Z:=Qbc J;by_cases D:I=0
 rotate_left
 ·have U:(0:Int)<(I:Int):=by omega
  have Y:decide ((0:Int)<(I:Int))=true:=ej U;go_in;go_wp2_with fail;go_ret;exact⟨by simp[QbD,J,D,(show 0<I by omega)],(fv w).alloc _ _⟩
 have U:decide ((0:Int)<(I:Int))=false:=eh (by omega);by_cases R:z=0
 rotate_left
 ·have N:(0:Int)<(z:Int):=by omega
  have X:decide ((0:Int)<(z:Int))=true:=ej N;go_in;go_wp2_with fail;go_ret;exact⟨by simp[QbD,J,D,R,(show 0<z by omega)],(fv w).alloc _ _⟩
 have N:decide ((0:Int)<(z:Int))=false:=eh (by omega);go_in;go_wp2_with fail;go_ret;exact⟨by simp[QbD,J,D,R],(fv w).alloc _ _⟩
theorem QtE(w:World)(b:Bool)(i:Int)(t:ByteArray)(I z lc oc:Nat)(la oa:Option Addr) :
  Calls prog 156 #[.agg #[.int .i64 3,.bool b,.int .i64 i,.string t,.slice la I lc,.slice oa z oc]] w λe w'=>e=.returned (.bool (QbD 3 b i t I z))/\Ext w w':=by
 by_cases Z:b=true
 ·subst Z
  go_in;go_wp2_with fail;go_ret;exact⟨by simp[QbD],(fv w).alloc _ _⟩
 obtain rfl:b=false:=by simpa using Z
 by_cases J:t.size=0
 rotate_left
 ·have gt:=Qbx J
  go_in;go_wp2_with fail;go_ret;exact⟨by simp[QbD,J],(fv w).alloc _ _⟩
 have gt:=Qbc J;by_cases D:I=0
 rotate_left
 ·have U:(0:Int)<(I:Int):=by omega
  have Y:decide ((0:Int)<(I:Int))=true:=ej U;go_in;go_wp2_with fail;go_ret;exact⟨by simp[QbD,J,D,(show 0<I by omega)],(fv w).alloc _ _⟩
 have U:decide ((0:Int)<(I:Int))=false:=eh (by omega);by_cases R:z=0
 rotate_left
 ·have N:(0:Int)<(z:Int):=by omega
  have X:decide ((0:Int)<(z:Int))=true:=ej N;go_in;go_wp2_with fail;go_ret;exact⟨by simp[QbD,J,D,R,(show 0<z by omega)],(fv w).alloc _ _⟩
 have N:decide ((0:Int)<(z:Int))=false:=eh (by omega);go_in;go_wp2_with fail;go_ret;exact⟨by simp[QbD,J,D,R],(fv w).alloc _ _⟩
theorem QtF(w:World)(b:Bool)(i:Int)(t:ByteArray)(I z lc oc:Nat)(Z oa:Option Addr) :
  Calls prog 156 #[.agg #[.int .i64 4,.bool b,.int .i64 i,.string t,.slice Z I lc,.slice oa z oc]] w λe w'=>e=.returned (.bool (QbD 4 b i t I z))/\Ext w w':=by
 by_cases Y:b=true
 ·subst Y
  go_in;go_wp2_with fail;go_ret;exact⟨by simp[QbD],(fv w).alloc _ _⟩
 obtain rfl:b=false:=by simpa using Y
 by_cases hi:i=0
 rotate_left
 ·have gi:(i != 0)=true:=by simp [hi]
  go_in;go_wp2_with fail;go_ret;exact⟨by simp[QbD,hi],(fv w).alloc _ _⟩
 subst hi;by_cases D:I=0
 rotate_left
 ·have R:(0:Int)<(I:Int):=by omega
  have X:decide ((0:Int)<(I:Int))=true:=ej R;go_in;go_wp2_with fail;go_ret;exact⟨by simp[QbD,D,(show 0<I by omega)],(fv w).alloc _ _⟩
 have R:decide ((0:Int)<(I:Int))=false:=eh (by omega);by_cases N:z=0
 rotate_left
 ·have J:(0:Int)<(z:Int):=by omega
  have U:decide ((0:Int)<(z:Int))=true:=ej J;go_in;go_wp2_with fail;go_ret;exact⟨by simp[QbD,D,N,(show 0<z by omega)],(fv w).alloc _ _⟩
 have J:decide ((0:Int)<(z:Int))=false:=eh (by omega);go_in;go_wp2_with fail;go_ret;exact⟨by simp[QbD,D,N],(fv w).alloc _ _⟩
theorem QtG(w:World)(b:Bool)(i:Int)(t:ByteArray)(R z lc oc:Nat)(Y Z:Option Addr) :
  Calls prog 156 #[.agg #[.int .i64 5,.bool b,.int .i64 i,.string t,.slice Y R lc,.slice Z z oc]] w λe w'=>e=.returned (.bool (QbD 5 b i t R z))/\Ext w w':=by
 by_cases U:b=true
 ·subst U
  go_in;go_wp2_with fail;go_ret;exact⟨by simp[QbD],(fv w).alloc _ _⟩
 obtain rfl:b=false:=by simpa using U
 by_cases hi:i=0
 rotate_left
 ·have gi:(i != 0)=true:=by simp [hi]
  go_in;go_wp2_with fail;go_ret;exact⟨by simp[QbD,hi],(fv w).alloc _ _⟩
 subst hi;by_cases J:t.size=0
 rotate_left
 ·have X:=Qbx J
  go_in;go_wp2_with fail;go_ret;exact⟨by simp[QbD,J],(fv w).alloc _ _⟩
 have X:=Qbc J;by_cases I:z=0
 rotate_left
 ·have D:(0:Int)<(z:Int):=by omega
  have N:decide ((0:Int)<(z:Int))=true:=ej D;go_in;go_wp2_with fail;go_ret;exact⟨by simp[QbD,J,I,(show 0<z by omega)],(fv w).alloc _ _⟩
 have D:decide ((0:Int)<(z:Int))=false:=eh (by omega);go_in;go_wp2_with fail;go_ret;exact⟨by simp[QbD,J,I],(fv w).alloc _ _⟩
theorem QtH(w:World)(b:Bool)(i:Int)(t:ByteArray)(z R lc oc:Nat)(Y Z:Option Addr) :
  Calls prog 156 #[.agg #[.int .i64 6,.bool b,.int .i64 i,.string t,.slice Y z lc,.slice Z R oc]] w λe w'=>e=.returned (.bool (QbD 6 b i t z R))/\Ext w w':=by
 by_cases U:b=true
 ·subst U
  go_in;go_wp2_with fail;go_ret;exact⟨by simp[QbD],(fv w).alloc _ _⟩
 obtain rfl:b=false:=by simpa using U
 by_cases hi:i=0
 rotate_left
 ·have gi:(i != 0)=true:=by simp [hi]
  go_in;go_wp2_with fail;go_ret;exact⟨by simp[QbD,hi],(fv w).alloc _ _⟩
 subst hi;by_cases D:t.size=0
 rotate_left
 ·have X:=Qbx D
  go_in;go_wp2_with fail;go_ret;exact⟨by simp[QbD,D],(fv w).alloc _ _⟩
 have X:=Qbc D;by_cases I:z=0
 rotate_left
 ·have J:(0:Int)<(z:Int):=by omega
  have N:decide ((0:Int)<(z:Int))=true:=ej J;go_in;go_wp2_with fail;go_ret;exact⟨by simp[QbD,D,I,(show 0<z by omega)],(fv w).alloc _ _⟩
 have J:decide ((0:Int)<(z:Int))=false:=eh (by omega);go_in;go_wp2_with fail;go_ret;exact⟨by simp[QbD,D,I],(fv w).alloc _ _⟩
theorem Qpq(w:World){k:Int}(J:k<1\/6<k)(b:Bool)(i:Int)(t:ByteArray)(D z U X:Nat)(N R:Option Addr) :
  Calls prog 156 #[.agg #[.int .i64 k,.bool b,.int .i64 i,.string t,.slice N D U,.slice R z X]] w λe w'=>e=.returned (.bool (QbD k b i t D z))/\Ext w w':=by
 have h1:(k==1)=false:=by simp;omega
 have h2:(k==2)=false:=by simp;omega
 have Z:(k==3)=false:=by simp;omega
 have h4:(k==4)=false:=by simp;omega
 have h5:(k==5)=false:=by simp;omega
 have Y:(k==6)=false:=by simp;omega
 have I:QbD k b i t D z=true:=by unfold QbD;rw[em J]
 rw[I];clear J I;go_in;go_wp2_with fail;go_ret;exact⟨rfl,(fv w).alloc _ _⟩
theorem QsM(w:World)(v:Val)(sl so:Sl):Calls prog 156 #[Qbg v sl so] w λe w'=>e=.returned (.bool (Qt0 v))/\Ext w w':=by
 obtain⟨k,b,i,t,l,D,I⟩:=v;by_cases z:k<1\/6<k
 .exact Qpq w z b i t _ _ _ _ _ _
 rcases(show k=1\/k=2\/k=3\/k=4\/k=5\/k=6 by omega)with rfl|rfl|rfl|rfl|rfl|rfl
 .exact QtC w b i t _ _ _ _ _ _
 .exact QtD w b i t _ _ _ _ _ _
 .exact QtE w b i t _ _ _ _ _ _
 .exact QtF w b i t _ _ _ _ _ _
 .exact QtG w b i t _ _ _ _ _ _
 exact QtH w b i t _ _ _ _ _ _
mutual
def QbN:Val->Nat->Int
 |.mk k b i t l ok ov,j=>if QbD k b i t l.length ok.length=true then 9 else if 64<j then 5 else if k=4 then(if Lib.validD t.data.toList then 0 else 3)else if k=5 then Qbz l (j+1)else if k=6 then Qer none ok ov (j+1)else 0
def Qbz:List Val->Nat->Int
 |[],_=>0
 |d::r,j=>if QbN d j≠0 then QbN d j else Qbz r j
def Qer:Option ByteArray->List ByteArray->List Val->Nat->Int
 |_,_,[],_=>0
 |p,ks,d::s,j=>if !Lib.validD (ks.headD ByteArray.empty).data.toList then 3 else if p.any (λq=>!klt q (ks.headD ByteArray.empty))then 8 else if QbN d j≠0 then QbN d j else Qer (some (ks.headD ByteArray.empty)) ks.tail s j
end
variable{j:Nat}
theorem Qpf{l:List Val}{i:Nat}{d:Val}(h:l[i]? = some d):Qbz (l.drop i) j=if QbN d j≠0 then QbN d j else Qbz (l.drop (i+1)) j:=by
 obtain⟨h1,h2⟩:=ah.1 h;rw[aE h1,h2,Qbz]
theorem QrY{a b:ByteArray}(h:klt a b=true):Op.bytesLess b.toList a.toList=false:=by
 show klt b a=false;cases z:klt b a with
 |false=>rfl
 |true=>have:=QaI h z;rw[Qah]at this;cases this
theorem Qp5{a b:ByteArray}(h:a≠b):(a.toList==b.toList)=false:=by
 rw[eu];intro e;rw[eB,eB]at e;exact h (by cases a;cases b;congr 1;exact df.1 e)
def prevK(ok:List ByteArray):Nat->Option ByteArray
 |0=>none
 |j+1=>ok[j]?
theorem Qpg{p:Option ByteArray}{ok:List ByteArray}{ov:List Val}{Q i:Nat}{d:Val}{k:ByteArray}(h:ov[i]? = some d)(z:ok[i]? = some k):Qer p (ok.drop i) (ov.drop i) Q =
  if !Lib.validD k.data.toList then 3 else if p.any (λq=>!klt q k)then 8 else if QbN d Q≠0 then QbN d Q else Qer (some k) (ok.drop (i+1)) (ov.drop (i+1)) Q:=by
 obtain⟨h1,h2⟩:=ah.1 h;obtain⟨I,D⟩:=ah.1 z;rw[aE h1,h2,aE I,D,Qer,cX,bZ]
variable{w:World}
theorem Qd2(z:QiW w){k:ByteArray}(N:k.size<=maxLen):Calls prog 113 #[.string k] w λe w'=>e=.returned (.bool (Lib.validD k.data.toList))/\Nw w w':=by
 have I:=z.val w (G5.refl w) k N;have R:=hY I;clear I z;go_in;go_wp2_with fail;refine R.o.mono ?_;rintro e w' ⟨rfl,D⟩;have J:=hY D;clear D;go_wp2_with fail;go_ret;exact⟨rfl,J.o⟩
theorem Qpe(m:Nat):∀(d:Val),SizeOf.sizeOf d<=m->∀(w:World) (sl so:Sl) (q:Nat),q<=65->RV w (Lt w) d sl so->QiW w->
  Calls prog 114 #[Qbg d sl so,.int .i64 (q:Int)] w λe w'=>e=.returned (.int .i64 (QbN d q))/\Nw w w':=by
 induction m with
 |zero=>intro d hd;have:=Val.Qb7 d;omega
 |succ m ih=>
 intro d hd w sl so q hq h hL;have HI:=hY ih;clear ih;obtain⟨k,b,i,t,l,J,ov⟩:=d;have c1:=λW=>QsM W (.mk k b i t l J ov) sl so
 show Calls _ _ #[.agg #[.int .i64 k,.bool b,.int .i64 i,.string t,.slice sl.a l.length sl.c,.slice so.a J.length so.c],.int .i64 q] _ _;have f4:=h;cases h with
 |mk bl fl bo fo cl co hl ho hov el rl ek eo ro bk bi bt nl no=>
 have e4:∀(j:Nat) (d:Val),l[j]? = some d->SizeOf.sizeOf d<=m:=λj d hj=>bq (ab (Val.Qqm hj) hd)
 have d8:∀(j:Nat) (d:Val),ov[j]? = some d->SizeOf.sizeOf d<=m:=λj d hj=>bq (ab (Val.Qqn hj) hd)
 have hu:=λW (hW:Nw w W)=>Qd2 (hL.nw hW) bt
 have f6:=hY e4;have f2:=hY d8;have f3:=hY el;have f7:=hY rl;have d4:=hY ek;have f5:=hY eo;have g7:=hY ro;have d7:=hY hov;have HL:=hY hL;have HU:=hY hu;have c0:=hY c1;have c2:=hY hl;have c4:=hY ho;clear e4 d8 el rl ek eo ro hov hd hL hu c1 f4;obtain⟨r,U⟩:∃r,QbN (.mk k b i t l J ov) q=r:=⟨_,rfl⟩;rw[U];unfold QbN at U;go_in;go_wp2_with fail;have f0:=(fv w).alloc #[.int .i64 k,.bool b,.int .i64 i,.string t,.slice sl.a l.length sl.c,.slice so.a J.length so.c] 28;have b4:=fA w 28 #[.int .i64 k,.bool b,.int .i64 i,.string t,.slice sl.a l.length sl.c,.slice so.a J.length so.c];refine(c0.o _).mono ?_;rintro e w1 ⟨rfl,a5⟩;obtain⟨q0,q1,q2,q3,q4,q5⟩:=(b4.ext a5).c6;have lq:=(b4.ext a5).lt;have HX:=hY (f0.trans a5);have HB:=hY (b4.ext a5);clear f0 a5 b4 c0;unfold Qt0;dsimp only[Val.kind,Val.b,Val.i,Val.t,Val.l,Val.ok];by_cases b7:QbD k b i t l.length J.length=true
 ·rw [em b7] at U
  subst U;rw[b7];go_wp2_with fail;go_ret;exact⟨rfl,fx HX.o⟩
 rw[ef b7]at U;rw[show QbD k b i t l.length J.length=false by simpa using b7];by_cases c3:64<q
 ·rw [em c3] at U
  subst U;have g0:decide ((64:Int)<(q:Int))=true:=ej (by omega);go_wp2_with fail;go_ret;exact⟨rfl,fx HX.o⟩
 rw[ef c3]at U;have g0:decide ((64:Int)<(q:Int))=false:=eh (by omega);by_cases h4:k=4
 ·subst h4
  rw[em rfl]at U;go_wp2_with fail;refine(HU.o _ (fx HX.o)).mono ?_;rintro e w2 ⟨rfl,e0⟩;have e1:=hY ((fx HX.o).trans e0);clear e0;cases hv:Lib.validD t.data.toList with
  | true=>
    rw[hv,em rfl]at U;subst U;go_wp2_with fail;go_ret;exact⟨rfl,e1.o⟩
  | false=>
    rw[hv,ef (by decide)]at U;subst U;go_wp2_with fail;go_ret;exact⟨rfl,e1.o⟩
 rw[ef h4]at U;have g4:(k==4)=false:=by simpa using h4
 by_cases h5:k=5
 ·subst h5
  rw[em rfl]at U;go_wp2_with fail;go_loopw[30] (λqq wr=>∃j:Nat,qq=.int .i64 j/\j<=l.length/\Qbz (l.drop j) (q+1)=r/\Nw w1 wr) (λqq _=>l.length -(intOf qq).toNat)
  case atStart=>exact⟨0,rfl,aw _,U,fD _ _⟩
  obtain⟨j,rfl,hj,hm,hn⟩:=hrel;by_cases a2:j<l.length
  ·have g1:(j:Int)<(l.length:Int):=by omega
   have f1:decide ((j:Int)<(l.length:Int))=true:=ej g1;obtain⟨d,hd⟩:∃d,l[j]? = some d:=⟨_,ac a2⟩;have I:Nw w wr:=(fx HX.o).trans hn;have X:Agree (Lt w) w wr:=fB I λ_ h=>h
   obtain⟨b3,d0,c8⟩:=c2.o.eq (by omega);have R:=c2.o.fits (show 0<l.length by omega);obtain⟨sa,sc⟩:=sl;dsimp only at b3 d0 c8;subst b3;obtain⟨v0,v1,v2,v3,v4,v5⟩:=(f3.o j d hd).agree X R;have lb:bl<wr:=ab R I.size;have a4:∀W,Nw wr W->Calls prog 114 #[Qbg d (cl j).1 (cl j).2,.int .i64 ((q:Int)+1)] W λe w'=>e=.returned (.int .i64 (QbN d (q+1)))/\Nw W w':=λW hW=>by
    rw[show(q:Int)+1=((q+1:Nat):Int)by omega];exact HI.o d (f6.o j d hd) W _ _ (q+1) (by omega) (((f7.o j d hd).agree (X.trans (fB hW λ_ h=>ab h I.size))).mono λi hi=>ab hi (al I.size hW.size)) (HL.o.nw (I.trans hW))
   have z:=Qpf (j:=q+1) hd;rw[hm]at z;have g2:IntKind.i64.wrap ((q:Int)+1)=(q:Int)+1:=by rw[ew];omega
   have a3:=hY a4;have D:=hY z;have HN:=hY hn;clear hd I X a4 z hn hm;go_wp2_with fail;have a0:=(fv wr).alloc #[.int .i64 d.kind,.bool d.b,.int .i64 d.i,.string d.t,.slice (cl j).1.a d.l.length (cl j).1.c,.slice (cl j).2.a d.ok.length (cl j).2.c] 28;refine(a3.o _ (fx a0)).mono ?_;rintro e w3 ⟨rfl,Z⟩;have d6:=hY ((HN.o.trans (fx a0)).trans Z);have z:=D.o;clear a0 Z v0 v1 v2 v3 v4 v5 a3 D HN;generalize QbN d (q+1)=c at z;by_cases hc:c=0
   ·subst hc
    rw[ef (by simp)]at z;have D:=hY z.symm;clear z;go_wp2_with fail;go_roundw
    case rel=>exact⟨j+1,by go_num,a2,D.o,d6.o⟩
    simp[intOf];omega
   rw[em hc]at z;subst z;have g3:(r != 0)=true:=by simpa using hc
   have N:=hY ((fx HX.o).trans d6.o);clear hc;go_wp2_with fail;go_ret;exact⟨rfl,N.o⟩
  obtain rfl:j=l.length:=by omega
  have g1:decide ((l.length:Int)<(l.length:Int))=false:=eh (by omega);have hz:r=0:=by rw[<-hm,cz,Qbz]
  subst hz;have HN:=hY ((fx HX.o).trans hn);clear hn hm;go_wp2_with fail;go_ret;exact⟨rfl,HN.o⟩
 rw[ef h5]at U;have g5:(k==5)=false:=by simpa using h5
 by_cases h6:k=6
 ·subst h6
  rw[em rfl]at U;go_wp2_with fail;go_loopw[47] (λqq wr=>∃j:Nat,qq=.int .i64 j/\j<=J.length/\Qer (prevK J j) (J.drop j) (ov.drop j) (q+1)=r/\Nw w1 wr) (λqq _=>J.length -(intOf qq).toNat)
  case atStart=>exact⟨0,rfl,aw _,U,fD _ _⟩
  obtain⟨j,rfl,hj,hm,hn⟩:=hrel;by_cases a2:j<J.length
  ·have g1:(j:Int)<(J.length:Int):=by omega
   have f1:decide ((j:Int)<(J.length:Int))=true:=ej g1;obtain⟨Y,hk⟩:∃Y,J[j]? = some Y:=⟨_,ac a2⟩;obtain⟨d,hd⟩:∃d,ov[j]? = some d:=⟨_,ac (by rw[d7.o];exact a2)⟩;have I:Nw w wr:=(fx HX.o).trans hn;have X:Agree (Lt w) w wr:=fB I λ_ h=>h
   obtain⟨b3,d0,c8⟩:=c4.o.eq (by omega);have R:=c4.o.fits (show 0<J.length by omega);obtain⟨sa,sc⟩:=so;dsimp only at b3 d0 c8;subst b3;obtain⟨v0,v1,v2,v3,v4,v5⟩:=(f5.o j d hd).agree X R;have lb:bo<wr:=ab R I.size;have kc:wr.cell? ⟨bo,fo+j*7,none⟩=some (.string Y):=(X.cell R).trans (d4.o j Y hk).1;have e3:=(d4.o j Y hk).2;have a4:∀W,Nw wr W->Calls prog 114 #[Qbg d (co j).1 (co j).2,.int .i64 ((q:Int)+1)] W λe w'=>e=.returned (.int .i64 (QbN d (q+1)))/\Nw W w':=λW hW=>by
    rw[show(q:Int)+1=((q+1:Nat):Int)by omega];exact HI.o d (f2.o j d hd) W _ _ (q+1) (by omega) (((g7.o j d hd).agree (X.trans (fB hW λ_ h=>ab h I.size))).mono λi hi=>ab hi (al I.size hW.size)) (HL.o.nw (I.trans hW))
   have e2:∀W,Nw wr W->Calls prog 113 #[.string Y] W λe w'=>e=.returned (.bool (Lib.validD Y.data.toList))/\Nw W w':=λW hW=>Qd2 (HL.o.nw (I.trans hW)) e3
   have z:=Qpg (p:=prevK J j) (Q:=q+1) hd hk;rw[hm]at z;have g2:IntKind.i64.wrap ((q:Int)+1)=(q:Int)+1:=by rw[ew];omega
   have a3:=hY a4;have D:=hY z;have e6:=hY e2;have HN:=hY hn;have d5:=hY hk;have f9:=hY (And.intro X R);clear hd I X a4 z hn hm e2 hk e3;go_wp2_with fail;have a0:=(fv wr).alloc #[.string Y,.int .i64 d.kind,.bool d.b,.int .i64 d.i,.string d.t,.slice (co j).1.a d.l.length (co j).1.c,.slice (co j).2.a d.ok.length (co j).2.c] 121;have c9:=fA wr 121 #[.string Y,.int .i64 d.kind,.bool d.b,.int .i64 d.i,.string d.t,.slice (co j).1.a d.l.length (co j).1.c,.slice (co j).2.a d.ok.length (co j).2.c];refine(e6.o _ (fx a0)).mono ?_;rintro e w3 ⟨rfl,Z⟩;have a9:=(HN.o.trans (fx a0)).trans Z;obtain⟨u0,u1,u2,u3,u4,u5,u6⟩:=(fF Z c9).c7;have ul:=(fF Z c9).lt;have p5:w3.cell? ⟨w,5,none⟩=some (.slice (some ⟨bo,fo,none⟩) J.length sc):=(fF a9 HB.o).cell 5;have pl:=(fF a9 HB.o).lt;have b8:=hY a9;have d3:=hY ((fx a0).trans Z);have e8:∀i y,j=i+1->J[i]? = some y->w3.cell? ⟨bo,fo+i*7,none⟩=some (.string y):=λi y _ hy=>
    (fB (((fx HX.o).trans a9)) (λ_ h=>h)).cell f9.o.2 |>.trans (d4.o i y hy).1
   have b5:=hY e8;have i0:bo<w3:=by have:=d3.o.size;omega
   have z:=D.o;clear a0 c9 Z a9 v0 v1 v2 v3 v4 v5 kc D e6 HN e8;cases hv:Lib.validD Y.data.toList with
   | false=>
     rw[hv]at z;rw[em (by decide)]at z;subst z;have N:=hY ((fx HX.o).trans b8.o);go_wp2_with fail;go_ret;exact⟨rfl,N.o⟩
   | true=>
     rw[hv]at z;rw[ef (by decide)]at z;by_cases b6:j=0
     ·subst b6
      rw[show prevK J 0=none from rfl,dW,ef (by decide)]at z;have gg:decide ((0:Int)<((0:Nat):Int))=false:=by decide
      have D:=hY z;clear z;go_wp2_with fail;go_quiet (fail);go_wp2_with fail;refine(a3.o _ (d3.o.trans (fx ((fv w3).drewN _)))).mono ?_;rintro e w4 ⟨rfl,b0⟩;have a6:=hY ((b8.o.trans (fx ((fv w3).drewN _))).trans b0);have z:=D.o;clear b0 a3 D u0 u1 u2 u3 u4 u5 u6;generalize QbN d (q+1)=c at z;by_cases hc:c=0
      ·subst hc
       rw[ef (by simp)]at z;have D:=hY z.symm;clear z;go_wp2_with fail;go_roundw
       case rel=>exact⟨0+1,by go_num,a2,by rw[show prevK J (0+1)=some Y from d5.o];exact D.o,a6.o⟩
       simp[intOf];omega
      rw[em hc]at z;subst z;have g3:(r != 0)=true:=by simpa using hc
      have N:=hY ((fx HX.o).trans a6.o);clear hc;go_wp2_with fail;go_ret;exact⟨rfl,N.o⟩
     obtain⟨i,rfl⟩:∃i,j=i+1:=⟨j-1,by omega⟩;obtain⟨y,hy⟩:∃y,J[i]? = some y:=⟨_,ac (by omega)⟩;have pk:=b5.o i y rfl hy;rw[show prevK J (i+1)=some y from hy,dt]at z;have gg:decide ((0:Int)<((i+1:Nat):Int))=true:=ej (by omega);have i1:(0:Int)<((i+1:Nat):Int):=by omega
     have gs:IntKind.i64.wrap (((i+1:Nat):Int)-1)=(i:Int):=by rw[ew];omega
     have g8:(0:Int)<=(i:Int):=by omega
     have g9:(i:Int)<(J.length:Int):=by omega
     cases a1:klt y Y with
     | false=>
       rw[a1,em (by decide)]at z;subst z;have N:=hY ((fx HX.o).trans b8.o);cases e7:klt Y y with
       | true=>
         have R:Op.bytesLess Y.toList y.toList=true:=e7;clear hy b6 b5;go_wp2_with fail;go_quiet (fail);go_wp2_with fail;go_ret;exact⟨rfl,N.o.trans (fx ((fv w3).drewN _))⟩
       | false=>
         obtain rfl:y=Y:=QbR a1 e7;have R:Op.bytesLess y.toList y.toList=false:=a1;have f8:(y.toList==y.toList)=true:=by simp
         clear hy b6 b5;go_wp2_with fail;go_quiet (fail);go_wp2_with fail;go_ret;exact⟨rfl,N.o.trans (fx ((fv w3).drewN _))⟩
     | true=>
       rw[a1,ef (by decide)]at z;have R:Op.bytesLess Y.toList y.toList=false:=QrY a1;have f8:(Y.toList==y.toList)=false:=Qp5 (λe=>by rw[e,Qah]at a1;cases a1);have D:=hY z;clear z hy b6 b5;go_wp2_with fail;go_quiet (fail);go_wp2_with fail;refine(a3.o _ (d3.o.trans (fx ((fv w3).drewN _)))).mono ?_;rintro e w4 ⟨rfl,b0⟩;have a6:=hY ((b8.o.trans (fx ((fv w3).drewN _))).trans b0);have z:=D.o;clear b0 a3 D u0 u1 u2 u3 u4 u5 u6;generalize QbN d (q+1)=c at z;by_cases hc:c=0
       ·subst hc
        rw[ef (by simp)]at z;have D:=hY z.symm;clear z;go_wp2_with fail;go_roundw
        case rel=>exact⟨(i+1)+1,by go_num,a2,by rw[show prevK J ((i+1)+1)=some Y from d5.o];exact D.o,a6.o⟩
        simp[intOf];omega
       rw[em hc]at z;subst z;have g3:(r != 0)=true:=by simpa using hc
       have N:=hY ((fx HX.o).trans a6.o);clear hc;go_wp2_with fail;go_ret;exact⟨rfl,N.o⟩
  obtain rfl:j=J.length:=by omega
  have g1:decide ((J.length:Int)<(J.length:Int))=false:=eh (by omega);have hz:r=0:=by rw[<-hm,<-d7.o,cz (l:=ov),Qer]
  subst hz;have HN:=hY ((fx HX.o).trans hn);clear hn hm;go_wp2_with fail;go_ret;exact⟨rfl,HN.o⟩
 rw[ef h6]at U;subst U;have g6:(k==6)=false:=by simpa using h6
 go_wp2_with fail;go_ret;exact⟨rfl,fx HX.o⟩
variable{sl so:Sl}
theorem Qq7{v:Val}(h:RV w (Lt w) v sl so)(J:QiW w):Calls prog 66 #[Qbg v sl so] w λe w'=>e=.returned (.int .i64 (QbN v 1))/\Nw w w':=by
 have z:=(fv w).alloc #[.int .i64 v.kind,.bool v.b,.int .i64 v.i,.string v.t,.slice sl.a v.l.length sl.c,.slice so.a v.ok.length so.c] 28;have N:=Qpe _ v (an _) (w.alloc (.cells #[.int .i64 v.kind,.bool v.b,.int .i64 v.i,.string v.t,.slice sl.a v.l.length sl.c,.slice so.a v.ok.length so.c] 28)) sl so 1 (by decide) ((h.agree (z.agree λ_ h=>h)).mono λi hi=>ab hi z.size) (J.nw (fx z));have U:=hY N;have I:=hY z;clear N h z J;go_in;go_wp2_with fail;refine U.o.mono ?_;rintro e w1 ⟨rfl,D⟩;have R:=hY ((fx I.o).trans D);clear D;go_wp2_with fail;go_ret;exact⟨rfl,R.o⟩
mutual
def Qbp:Val->Nat
 |.mk k b i t l ok ov=>1+(if k=5 then Qa8 l else if k=6 then Qa8 ov else 0)
def Qa8:List Val->Nat
 |[]=>0
 |d::r=>max (Qbp d) (Qa8 r)
end
theorem Qd5:∀{l:List Val} {j:Nat} {d:Val},l[j]? = some d->Qa8 (l.take (j+1))=max (Qa8 (l.take j)) (Qbp d)
 |[],j,d,h=>by simp at h
 | x :: r,0,d,h=>by
   simp at h;subst h;simp[Qa8]
 | x :: r,j+1,d,h=>by
   have z:r[j]? = some d:=by simpa using h
   rw[aV,aV,Qa8,Qa8,Qd5 z,Nat.max_assoc]
theorem Qgb:∀{l:List Val} {j:Nat} {d:Val},l[j]? = some d->Qbp d<=Qa8 l
 |[],j,d,h=>by simp at h
 | x :: r,0,d,h=>by
   simp at h;subst h;rw[Qa8];exact Nat.le_max_left _ _
 | x :: r,j+1,d,h=>by
   have z:r[j]? = some d:=by simpa using h
   rw[Qa8];exact al (Qgb z) (Nat.le_max_right _ _)
theorem Qoj(l:List Val)(j:Nat):Qa8 (l.take j)<=Qa8 l:=by
 induction l generalizing j with
 |nil=>simp
 | cons x r ih=>
   cases j with
   |zero=>simp[Qa8]
   |succ j=>rw[aV,Qa8,Qa8];have:=ih j;omega
mutual
theorem Qgc:∀(v:Val) (q:Nat),QbN v q=0->Qbp v+q<=65
 | .mk k b i t l ok ov,q,h=>by
   unfold QbN at h;unfold Qbp;split at h
   .cases h
   split at h
   .cases h
   split at h
   ·rename_i h4
    subst h4;simp;omega
   split at h
   ·rename_i h5
    rw[em h5];have:=Qjh l (q+1) h;omega
   split at h
   ·rename_i h5 h6
    rw[ef h5,em h6];have:=Qji _ _ ov (q+1) h;omega
   rename_i h5 h6;rw[ef h5,ef h6];omega
theorem Qjh:∀(l:List Val) (q:Nat),Qbz l q=0->Qa8 l+q<=65\/Qa8 l=0
 |[],q,h=>.inr rfl
 | d :: r,q,h=>by
   rw[Qbz]at h;split at h
   .rename_i h1;exact absurd h h1
   rename_i h1;have h2:=Qgc d q (by simpa using h1);have z:=Qjh r q h;rw[Qa8];left;omega
theorem Qji:∀(p:Option ByteArray) (ks:List ByteArray) (l:List Val) (q:Nat),Qer p ks l q=0->Qa8 l+q<=65\/Qa8 l=0
 |p,ks,[],q,h=>.inr rfl
 | p,ks,d :: r,q,h=>by
   rw[Qer]at h;split at h
   .cases h
   split at h
   .cases h
   split at h
   .rename_i h1;exact absurd h h1
   rename_i h1;have h2:=Qgc d q (by simpa using h1);have z:=Qji _ _ r q h;rw[Qa8];left;omega
end
theorem QmH(m:Nat):∀(d:Val),SizeOf.sizeOf d<=m->Qbp d<=1000000->∀(w:World) (sl so:Sl),RV w (Lt w) d sl so->
  Calls prog 67 #[Qbg d sl so] w λe w'=>e=.returned (.int .i64 (Qbp d:Int))/\Ext w w':=by
 induction m with
 |zero=>intro d hd;have:=Val.Qb7 d;omega
 |succ m ih=>
 intro d hd c4 w sl so h;have HI:=hY ih;clear ih;obtain⟨k,b,i,t,l,R,ov⟩:=d;show Calls _ _ #[.agg #[.int .i64 k,.bool b,.int .i64 i,.string t,.slice sl.a l.length sl.c,.slice so.a R.length so.c]] _ _;cases h with
 |mk bl fl bo fo cl co hl ho hov el rl ek eo ro bk bi bt nl no=>
 have b7:∀(j:Nat) (d:Val),l[j]? = some d->SizeOf.sizeOf d<=m:=λj d hj=>bq (ab (Val.Qqm hj) hd)
 have b6:∀(j:Nat) (d:Val),ov[j]? = some d->SizeOf.sizeOf d<=m:=λj d hj=>bq (ab (Val.Qqn hj) hd)
 have c7:=hY b7;have c1:=hY b6;have c2:=hY el;have b8:=hY rl;have c3:=hY eo;have c6:=hY ro;have b5:=hY hov;have a4:=hY hl;have a5:=hY ho;obtain⟨r,hr⟩:∃r,Qbp (.mk k b i t l R ov)=r:=⟨_,rfl⟩;rw[hr]at c4 ⊢;unfold Qbp at hr;clear b7 b6 el rl eo ro hov hd;go_in;by_cases h5:k=5
 ·subst h5
  rw[em rfl]at hr;go_wp2_with fail;generalize Y:World.alloc w _=w1;have a3:Ext w w1:=by rw[<-Y];exact(fv w).alloc _ _
  have HX:=hY a3;clear Y a3;go_loopw[3,15] (λdp qq wr=>∃j:Nat,dp=.int .i64 (Qa8 (l.take j):Int)/\qq=.int .i64 j/\j<=l.length/\Ext w1 wr) (λ_ qq _=>l.length -(intOf qq).toNat)
  case atStart=>exact⟨0,rfl,rfl,aw _,fv _⟩
  obtain⟨j,rfl,rfl,hj,X⟩:=hrel;by_cases N:j<l.length
  ·have g1:(j:Int)<(l.length:Int):=by omega
   have c0:decide ((j:Int)<(l.length:Int))=true:=ej g1;obtain⟨d,hd⟩:∃d,l[j]? = some d:=⟨_,ac N⟩;have z:Ext w wr:=HX.o.trans X;have D:Agree (Lt w) w wr:=z.agree λ_ h=>h
   obtain⟨a0,b4,a6⟩:=a4.o.eq (by omega);have J:=a4.o.fits (show 0<l.length by omega);obtain⟨sa,sc⟩:=sl;dsimp only at a0 b4 a6;subst a0;obtain⟨v0,v1,v2,v3,v4,v5⟩:=(c2.o j d hd).agree D J;have lb:bl<wr:=ab J z.size;have b3:=Qgb hd;have Z:∀W,Ext wr W->Calls prog 67 #[Qbg d (cl j).1 (cl j).2] W λe w'=>e=.returned (.int .i64 (Qbp d:Int))/\Ext W w':=λW hW=>
    HI.o d (c7.o j d hd) (by omega) W _ _ (((b8.o j d hd).agree (D.trans (hW.agree λ_ h=>ab h z.size))).mono λi hi=>ab hi (al z.size hW.size))
   have a1:=Qd5 hd;have a2:=hY Z;have b0:=hY a1;have HN:=hY X;clear hd z D Z X a1 b3;go_wp2_with fail;have I:=(fv wr).alloc #[.int .i64 d.kind,.bool d.b,.int .i64 d.i,.string d.t,.slice (cl j).1.a d.l.length (cl j).1.c,.slice (cl j).2.a d.ok.length (cl j).2.c] 28;refine(a2.o _ I).mono ?_;rintro e w3 ⟨rfl,U⟩;have a9:=hY ((HN.o.trans I).trans U);clear I U v0 v1 v2 v3 v4 v5 a2 HN;go_wp2_with fail;go_roundw
   case rel=>exact⟨j+1,by rw[b0.o];go_num,by go_num,N,a9.o⟩
   simp[intOf];omega
  obtain rfl:j=l.length:=by omega
  have g1:decide ((l.length:Int)<(l.length:Int))=false:=eh (by omega);rw[aM];have g2:IntKind.i64.wrap (1+(Qa8 l:Int))=1+(Qa8 l:Int):=by rw[ew];omega
  have hz:(r:Int)=1+(Qa8 l:Int):=by omega
  have HZ:=hY hz;have HN:=hY (HX.o.trans X);clear X hz;go_wp2_with fail;go_ret;exact⟨by rw[HZ.o];rfl,HN.o⟩
 rw[ef h5]at hr;have g5:(k==5)=false:=by simpa using h5
 by_cases h6:k=6
 ·subst h6
  rw[em rfl]at hr;go_wp2_with fail;generalize Y:World.alloc w _=w1;have a3:Ext w w1:=by rw[<-Y];exact(fv w).alloc _ _
  have HX:=hY a3;clear Y a3;go_loopw[3,29] (λdp qq wr=>∃j:Nat,dp=.int .i64 (Qa8 (ov.take j):Int)/\qq=.int .i64 j/\j<=R.length/\Ext w1 wr) (λ_ qq _=>R.length -(intOf qq).toNat)
  case atStart=>exact⟨0,rfl,rfl,aw _,fv _⟩
  obtain⟨j,rfl,rfl,hj,X⟩:=hrel;by_cases N:j<R.length
  ·have g1:(j:Int)<(R.length:Int):=by omega
   have c0:decide ((j:Int)<(R.length:Int))=true:=ej g1;obtain⟨kk,hk⟩:∃kk,R[j]? = some kk:=⟨_,ac N⟩;obtain⟨d,hd⟩:∃d,ov[j]? = some d:=⟨_,ac (by rw[b5.o];exact N)⟩;have z:Ext w wr:=HX.o.trans X;have D:Agree (Lt w) w wr:=z.agree λ_ h=>h
   obtain⟨a0,b4,a6⟩:=a5.o.eq (by omega);have J:=a5.o.fits (show 0<R.length by omega);obtain⟨sa,sc⟩:=so;dsimp only at a0 b4 a6;subst a0;obtain⟨v0,v1,v2,v3,v4,v5⟩:=(c3.o j d hd).agree D J;have lb:bo<wr:=ab J z.size;have kc:wr.cell? ⟨bo,fo+j*7,none⟩=some (.string kk):=(D.cell J).trans (ek j kk hk).1;have b3:=Qgb hd;have Z:∀W,Ext wr W->Calls prog 67 #[Qbg d (co j).1 (co j).2] W λe w'=>e=.returned (.int .i64 (Qbp d:Int))/\Ext W w':=λW hW=>
    HI.o d (c1.o j d hd) (by omega) W _ _ (((c6.o j d hd).agree (D.trans (hW.agree λ_ h=>ab h z.size))).mono λi hi=>ab hi (al z.size hW.size))
   have a1:=Qd5 hd;have a2:=hY Z;have b0:=hY a1;have HN:=hY X;clear hd z D Z X a1 b3 hk;go_wp2_with fail;have I:=(fv wr).alloc #[.string kk,.int .i64 d.kind,.bool d.b,.int .i64 d.i,.string d.t,.slice (co j).1.a d.l.length (co j).1.c,.slice (co j).2.a d.ok.length (co j).2.c] 121;refine(a2.o _ I).mono ?_;rintro e w3 ⟨rfl,U⟩;have a9:=hY ((HN.o.trans I).trans U);clear I U v0 v1 v2 v3 v4 v5 kc a2 HN;go_wp2_with fail;go_roundw
   case rel=>exact⟨j+1,by rw[b0.o];go_num,by go_num,N,a9.o⟩
   simp[intOf];omega
  obtain rfl:j=R.length:=by omega
  have g1:decide ((R.length:Int)<(R.length:Int))=false:=eh (by omega);rw[<-b5.o,aM];have g2:IntKind.i64.wrap (1+(Qa8 ov:Int))=1+(Qa8 ov:Int):=by rw[ew];omega
  have hz:(r:Int)=1+(Qa8 ov:Int):=by omega
  have HZ:=hY hz;have HN:=hY (HX.o.trans X);clear X hz;go_wp2_with fail;go_ret;exact⟨by rw[HZ.o];rfl,HN.o⟩
 rw[ef h6]at hr;subst hr;have g6:(k==6)=false:=by simpa using h6
 go_wp2_with fail;go_ret;exact⟨rfl,(fv w).alloc _ _⟩
variable{B:Nat}
theorem Qrn{a b:Value}{m:Nat}(N:Blk w B 160 (wrC a b m))(X:m<=10000000) :
  Calls prog 168 #[.pointer (some ⟨B,0,none⟩)] w λe w'=>(∃r,e=.returned r)/\Blk w' B 160 (wrC a b (m+4))/\Sb (λc=>c=B) w w':=by
 have R:=join_one (w:=w) ⟨#[110,117,108,108]⟩ N X (by decide);have U:=hY R;clear R N;go_in;go_wp2_with fail;refine U.o.mono ?_;rintro e w1 ⟨⟨r,rfl⟩,z,D⟩;have J:=hY z;have I:=hY D;clear z D;go_wp2_with fail;go_end0;exact⟨⟨_,rfl⟩,J.o,I.o⟩
def Qs8(x:Bool):Nat:=(ByteArray.mk (Lib.formatBool x).toArray).size
theorem QsG(x:Bool):Qs8 x=if x then 4 else 5:=by cases x<;>decide
variable{V:Nat}
theorem Qri{a b:Value}{x:Bool}{m:Nat}{c0 c2 c3 c4 c5:Value}(Y:Blk w V 28 #[c0,.bool x,c2,c3,c4,c5])(R:Blk w B 160 (wrC a b m))(N:m<=10000000) :
  Calls prog 157 #[.pointer (some ⟨B,0,none⟩),.pointer (some ⟨V,0,none⟩)] w λe w'=>(∃r,e=.returned r)/\Blk w' B 160 (wrC a b (m+Qs8 x))/\Sb (λc=>c=B) w w':=by
 have U:=λW=>Any.strconv_FormatBool Tryz.Qix x W
 have c1:w.cell? ⟨V,1,none⟩=some (.bool x):=Y.cell 1;have Z:=hY U;have HB:=hY R;have HM:=hY N;clear U Y R N;go_in;go_wp2_with fail;refine(Z.o _).mono ?_;rintro e w1 ⟨rfl,rfl⟩;have X:=join_one (w:=w1) ⟨(Lib.formatBool x).toArray⟩ HB.o HM.o (by cases x<;>decide);have HJ:=hY X;clear X c1;go_wp2_with fail;refine HJ.o.mono ?_;rintro e w2 ⟨⟨r,rfl⟩,z,D⟩;have J:=hY z;have I:=hY D;clear z D;go_wp2_with fail;go_end0;refine⟨⟨_,rfl⟩,?_,I.o⟩;exact J.o
open Go.Sort
def Tryz.Qiw:Go.Shelf.Ren:=⟨λ| 197=>248|260=>255|n=>n,λ| 9=>9|21=>21|3=>3|4=>4|5=>5|105=>283|119=>233|0=>0|46=>174|139=>236|138=>235|n=>n,λ| 3=>0|4=>1|n=>n⟩
theorem Tryz.Qo4:Go.Proofs.Lays.n197 prog Tryz.Qiw:={
 mixed:=by kernel_rfl
 f197:=func248.trans (congrArg some (by kernel_rfl))
 f260:=func255.trans (congrArg some (by kernel_rfl))
 t0:=underlying0
 a0:=isAgg0
 z0:=sizeOf0
 v0:=zeroValue0
 t3:=underlying3
 a3:=isAgg3
 z3:=sizeOf3
 v3:=zeroValue3
 t4:=underlying4
 a4:=isAgg4
 z4:=sizeOf4
 v4:=zeroValue4
 t5:=underlying5
 a5:=isAgg5
 z5:=sizeOf5
 v5:=zeroValue5
 t9:=underlying9
 a9:=isAgg9
 z9:=sizeOf9
 v9:=zeroValue9
 t21:=underlying21
 a21:=isAgg21
 z21:=sizeOf21
 v21:=zeroValue21
 t46:=underlying174
 a46:=isAgg174
 z46:=sizeOf174
 v46:=zeroValue174
 t105:=underlying283
 a105:=isAgg283
 z105:=sizeOf283
 v105:=zeroValue283
 t119:=underlying233
 a119:=isAgg233
 z119:=sizeOf233
 t138:=underlying235
 a138:=isAgg235
 z138:=sizeOf235
 v138:=zeroValue235
 t139:=underlying236
 a139:=isAgg236
 z139:=sizeOf236
 v139:=zeroValue236
 g3:=by kernel_rfl
 g4:=by kernel_rfl }
def Tryz.Qej:Go.Shelf.Ren:=⟨λ| 169=>237|n=>n,λ| 70=>155|9=>9|0=>0|72=>158|37=>156|127=>286|3=>3|5=>5|n=>n,λ| n=>n⟩
theorem Tryz.QfV:Go.Proofs.Lays.n169 prog Tryz.Qej:={
 mixed:=by kernel_rfl
 f169:=func237.trans (congrArg some (by kernel_rfl))
 t0:=underlying0
 a0:=isAgg0
 z0:=sizeOf0
 v0:=zeroValue0
 t3:=underlying3
 a3:=isAgg3
 z3:=sizeOf3
 v3:=zeroValue3
 t9:=underlying9
 a9:=isAgg9
 z9:=sizeOf9
 v9:=zeroValue9
 t37:=underlying156
 a37:=isAgg156
 z37:=sizeOf156
 v37:=zeroValue156
 t70:=underlying155
 a70:=isAgg155
 z70:=sizeOf155
 v70:=zeroValue155
 t72:=underlying158
 a72:=isAgg158
 z72:=sizeOf158
 v72:=zeroValue158
 t127:=underlying286
 a127:=isAgg286
 z127:=sizeOf286
 v127:=zeroValue286 }
def Tryz.Qe2:Go.Shelf.Ren:=⟨λ| 166=>204|167=>232|168=>235|240=>227|276=>242|242=>249|278=>256|n=>n,λ| 37=>156|70=>155|72=>158|75=>238|80=>185|164=>277|46=>174|51=>215|n=>n,λ| n=>n⟩
theorem Tryz.Qhs:Go.Proofs.Lays.n166 prog Tryz.Qe2:={
 mixed:=by kernel_rfl
 f166:=func204.trans (congrArg some (by kernel_rfl))
 f240:=func227.trans (congrArg some (by kernel_rfl))
 f276:=func242.trans (congrArg some (by kernel_rfl))
 t0:=underlying0
 a0:=isAgg0
 z0:=sizeOf0
 v0:=zeroValue0
 t3:=underlying3
 a3:=isAgg3
 z3:=sizeOf3
 v3:=zeroValue3
 t4:=underlying4
 a4:=isAgg4
 z4:=sizeOf4
 v4:=zeroValue4
 t9:=underlying9
 a9:=isAgg9
 z9:=sizeOf9
 v9:=zeroValue9
 t20:=underlying20
 a20:=isAgg20
 z20:=sizeOf20
 v20:=zeroValue20
 t37:=underlying156
 a37:=isAgg156
 z37:=sizeOf156
 v37:=zeroValue156
 t70:=underlying155
 a70:=isAgg155
 z70:=sizeOf155
 v70:=zeroValue155
 t72:=underlying158
 a72:=isAgg158
 z72:=sizeOf158
 v72:=zeroValue158
 t75:=underlying238
 a75:=isAgg238
 z75:=sizeOf238
 v75:=zeroValue238
 t164:=underlying277
 a164:=isAgg277
 z164:=sizeOf277
 v164:=zeroValue277 }
def Tryz.QfZ:Go.Shelf.Ren:=⟨λ| 166=>204|167=>232|168=>235|240=>227|276=>242|242=>249|278=>256|n=>n,λ| 37=>156|70=>155|72=>158|75=>238|80=>185|164=>277|46=>174|51=>215|n=>n,λ| n=>n⟩
theorem Tryz.QjE:Go.Proofs.Lays.n167 prog Tryz.QfZ:={
 mixed:=by kernel_rfl
 f167:=func232.trans (congrArg some (by kernel_rfl))
 f240:=func227.trans (congrArg some (by kernel_rfl))
 f276:=func242.trans (congrArg some (by kernel_rfl))
 t0:=underlying0
 a0:=isAgg0
 z0:=sizeOf0
 v0:=zeroValue0
 t4:=underlying4
 a4:=isAgg4
 z4:=sizeOf4
 v4:=zeroValue4
 t5:=underlying5
 a5:=isAgg5
 z5:=sizeOf5
 v5:=zeroValue5
 t9:=underlying9
 a9:=isAgg9
 z9:=sizeOf9
 v9:=zeroValue9
 t20:=underlying20
 a20:=isAgg20
 z20:=sizeOf20
 v20:=zeroValue20
 t37:=underlying156
 a37:=isAgg156
 z37:=sizeOf156
 v37:=zeroValue156
 t70:=underlying155
 a70:=isAgg155
 z70:=sizeOf155
 v70:=zeroValue155
 t72:=underlying158
 a72:=isAgg158
 z72:=sizeOf158
 v72:=zeroValue158
 t75:=underlying238
 a75:=isAgg238
 z75:=sizeOf238
 v75:=zeroValue238
 t164:=underlying277
 a164:=isAgg277
 z164:=sizeOf277
 v164:=zeroValue277 }
def Tryz.Qf0:Go.Shelf.Ren:=⟨λ| 166=>204|167=>232|168=>235|240=>227|276=>242|242=>249|278=>256|n=>n,λ| 37=>156|70=>155|72=>158|75=>238|80=>185|164=>277|46=>174|51=>215|n=>n,λ| n=>n⟩
theorem Tryz.QjF:Go.Proofs.Lays.n168 prog Tryz.Qf0:={
 mixed:=by kernel_rfl
 f168:=func235.trans (congrArg some (by kernel_rfl))
 f240:=func227.trans (congrArg some (by kernel_rfl))
 f242:=func249.trans (congrArg some (by kernel_rfl))
 f276:=func242.trans (congrArg some (by kernel_rfl))
 f278:=func256.trans (congrArg some (by kernel_rfl))
 t0:=underlying0
 a0:=isAgg0
 z0:=sizeOf0
 v0:=zeroValue0
 t3:=underlying3
 a3:=isAgg3
 z3:=sizeOf3
 v3:=zeroValue3
 t4:=underlying4
 a4:=isAgg4
 z4:=sizeOf4
 v4:=zeroValue4
 t5:=underlying5
 a5:=isAgg5
 z5:=sizeOf5
 v5:=zeroValue5
 t9:=underlying9
 a9:=isAgg9
 z9:=sizeOf9
 v9:=zeroValue9
 t20:=underlying20
 a20:=isAgg20
 z20:=sizeOf20
 v20:=zeroValue20
 t21:=underlying21
 a21:=isAgg21
 z21:=sizeOf21
 v21:=zeroValue21
 t37:=underlying156
 a37:=isAgg156
 z37:=sizeOf156
 v37:=zeroValue156
 t46:=underlying174
 a46:=isAgg174
 z46:=sizeOf174
 v46:=zeroValue174
 t51:=underlying215
 a51:=isAgg215
 z51:=sizeOf215
 v51:=zeroValue215
 t70:=underlying155
 a70:=isAgg155
 z70:=sizeOf155
 v70:=zeroValue155
 t72:=underlying158
 a72:=isAgg158
 z72:=sizeOf158
 v72:=zeroValue158
 t75:=underlying238
 a75:=isAgg238
 z75:=sizeOf238
 v75:=zeroValue238
 t164:=underlying277
 a164:=isAgg277
 z164:=sizeOf277
 v164:=zeroValue277 }
theorem QlZ(w:World)(os:Array Obj):Nw w (Go.Sort.grow w os):=
 ⟨rfl,rfl,rfl,by simp[Go.Sort.grow],λi hi _=>by simp[Go.Sort.grow,Array.getElem?_append_left hi]⟩
theorem Qsu(n:Int)(z : -9223372036854775808<=n)(h1:n<=9223372036854775807)(D:Lib.TabIs prog w "internal/strconv.uint64pow10" .u64 Lib.pow10Tab):Qta n w:=
 (Any.strconv_FormatInt_10 Tryz.QfH n z h1 w D).mono λe w' h=>by
   obtain⟨I,k,os,rfl⟩:=h;exact⟨_,I,by have:=Lib.itoa_length_le n z h1;simpa[ByteArray.size]using this,(fx ((fv w).drewN k)).trans (QlZ _ os)⟩
theorem Qs5(s:ByteArray)(hs:s.size<=maxLen)(z:Lib.Utf8Tabs 0 1 w):Calls prog 155 #[.string s] w λe w'=>e=.returned (.bool (Lib.validD s.data.toList))/\Nw w w':=
 (Any.utf8_ValidString Tryz.QqX s w (al hs (by decide)) z).mono λe w' h=>⟨h.1,Sb.new h.2⟩
variable{W:World}
theorem Qr6(h:G5 w W)(z:Lib.TabIs prog w "internal/strconv.uint64pow10" .u64 Lib.pow10Tab):Lib.TabIs prog W "internal/strconv.uint64pow10" .u64 Lib.pow10Tab:=by
 have D:prog.globalNamed "internal/strconv.uint64pow10" =some 3:=by kernel_rfl
 unfold Lib.TabIs World.var? at *;rw[D]at z ⊢;simp only[Option.bind_some]at z ⊢;rw[h 3 (by decide)];exact z
theorem QtX(h:G5 w W)(z:Lib.Utf8Tabs 0 1 w):Lib.Utf8Tabs 0 1 W:=by
 have D:∀b o,b<6->W.cell? ⟨b,o,none⟩=w.cell? ⟨b,o,none⟩:=λb o I=>eS (w:=w) (a:=⟨b,o,none⟩) (h b I)
 exact⟨λc h=>(D 0 _ (by decide)).trans (z.1 c h),λi h=>⟨(D 1 _ (by decide)).trans (z.2 i h).1,(D 1 _ (by decide)).trans (z.2 i h).2⟩⟩
theorem Qjs:Go.Pinned.utf8First=Lib.firstData:=by kernel_rfl
theorem Qhz:(Rows.laid_unicode_utf8_acceptRanges:DataW Unit)=Lib.acceptData:=by kernel_rfl
theorem Qpw:(Rows.laid_internal_strconv_uint64pow10:DataW Unit)=Lib.tabData .u64 Lib.pow10Tab:=by kernel_rfl
theorem n0:prog.globalNamed "unicode/utf8.first" =some 0:=by kernel_rfl
theorem n1:prog.globalNamed "unicode/utf8.acceptRanges" =some 1:=by kernel_rfl
theorem n3:prog.globalNamed "internal/strconv.uint64pow10" =some 3:=by kernel_rfl
theorem n5:prog.globalNamed "math/bits.deBruijn64tab" =some 5:=by kernel_rfl
theorem ty0:(prog.globals[0]?).map (·.type)=some 233:=by kernel_rfl
theorem ty1:(prog.globals[1]?).map (·.type)=some 236:=by kernel_rfl
theorem ty3:(prog.globals[3]?).map (·.type)=some 280:=by kernel_rfl
theorem c5:prog.cellsOf 5=1:=by kernel_rfl
theorem QuQ:prog.cellsOf 217=1:=by kernel_rfl
theorem QuR:prog.cellsOf 233=256:=by kernel_rfl
theorem QuB:prog.cellsOf 235=2:=by kernel_rfl
theorem QuS:prog.cellsOf 280=20:=by kernel_rfl
abbrev Qfn:List (String × DataW Unit):=[("math/bits.deBruijn32tab",Rows.laid_math_bits_deBruijn32tab),("math/bits.deBruijn64tab",Rows.laid_math_bits_deBruijn64tab),("internal/strconv.uint64pow10",Rows.laid_internal_strconv_uint64pow10),("unicode/utf8.acceptRanges",Rows.laid_unicode_utf8_acceptRanges),("unicode/utf8.first",Rows.laid_unicode_utf8_first)]
theorem Ql8(h3:Lib.VarReads prog w "unicode/utf8.first" Lib.firstData) (h4:Lib.VarReads prog w "unicode/utf8.acceptRanges" Lib.acceptData):Lib.Utf8Tabs 0 1 w:=by
 refine⟨λc hc=>?_,λi hi=>?_⟩
 ·obtain ⟨g,t,cs,U,p,N,J,z,hd⟩:=h3
  obtain rfl:=Option.some.inj (n0.symm.trans N);obtain rfl:=Option.some.inj (ty0.symm.trans J);have I:=Lib.cells_of_tab underlying233 underlying5 c5 QuR hd;rw[World.var?_cell N z c,<-bR,I];simp[Lib.firstTab,hc]
 obtain⟨g,t,cs,U,p,N,J,z,hd⟩:=h4;obtain rfl:=Option.some.inj (n1.symm.trans N);obtain rfl:=Option.some.inj (ty1.symm.trans J);obtain⟨X,d,q,R,Z⟩:=Lib.array_elem underlying236 hd i hi;simp only[List.getElem?_map,List.getElem?_range hi,Option.map_some,Option.some.injEq]at R;subst R;rw[QuB]at Z;have I:=Lib.ints_of_struct underlying235 (λj f D=>by
  match j,D with
  |0,D=>simp at D;subst D;exact⟨underlying5,rfl,c5⟩
  |1,D=>simp at D;subst D;exact⟨underlying5,rfl,c5⟩
  |j+2,D=>simp at D) (by rw[QuB];rfl) Z
 have e0:=congrArg (·[0]?) I;have Y:=congrArg (·[1]?) I;simp only[List.getElem?_take,List.getElem?_drop]at e0 Y;constructor
 ·rw [World.var?_cell N z (2*i),←bR]
  simpa[Nat.mul_comm]using e0
 rw[World.var?_cell N z (2*i+1),<-bR];simpa[Nat.mul_comm]using Y
theorem Qj3(h:Lib.VarReads prog w "internal/strconv.uint64pow10" (Lib.tabData .u64 Lib.pow10Tab)):Lib.TabIs prog w "internal/strconv.uint64pow10" .u64 Lib.pow10Tab:=by
 obtain⟨g,t,cs,I,p,J,D,z,hd⟩:=h;obtain rfl:=Option.some.inj (n3.symm.trans J);obtain rfl:=Option.some.inj (ty3.symm.trans D);unfold Lib.TabIs;rw[z,<-Lib.cells_of_tab underlying280 underlying217 QuQ QuS hd]
theorem QpJ{d:DataW Unit}(h:Lib.VarReads prog w "math/bits.deBruijn64tab" d):6<=w.heap.size:=by
 obtain⟨g,t,cs,D,p,N,J,z,hd⟩:=h;unfold World.var? at z;rw[n5,dG]at z;have:(w.heap[5]?).isSome:=by
  cases I:w.heap[5]? with
  |none=>rw[I]at z;cases z
  |some o=>rfl
 have:=(aC.1 (Option.some_get this).symm).1;omega
theorem QsI(h:laidMetH prog Qfn w):QiW w:=by
 have z:laidMet prog Qfn w:=h;have I:=Lib.laidMet.reads z (n:= "unicode/utf8.first") (d:=Rows.laid_unicode_utf8_first) (by simp[Qfn]);have J:=Lib.laidMet.reads z (n:= "unicode/utf8.acceptRanges") (d:=Rows.laid_unicode_utf8_acceptRanges) (by simp[Qfn]);have N:=Lib.laidMet.reads z (n:= "internal/strconv.uint64pow10") (d:=Rows.laid_internal_strconv_uint64pow10) (by simp[Qfn]);have U:=Lib.laidMet.reads z (n:= "math/bits.deBruijn64tab") (d:=Rows.laid_math_bits_deBruijn64tab) (by simp[Qfn]);rw[show Rows.laid_unicode_utf8_first=Lib.firstData from Qjs]at I;rw[Qhz]at J;rw[Qpw]at N;exact⟨QpJ U,λW D n R h1=>Qsu n R h1 (Qr6 D (Qj3 N)),λW D s hs=>Qs5 s hs (QtX D (Ql8 I J))⟩
theorem QtZ(ρ:Go.Shelf.Ren)(h72:ρ.t 72=158)(h5:ρ.t 5=5):Builder.Extra prog ρ where
 sizeBuilder:=by rw[h72];kernel_rfl
 liesBuilder:=by rw[h72];kernel_rfl
 t5:=by rw[h5];exact underlying5
 a5:=by rw[h5];exact isAgg5
 z5:=by rw[h5];exact sizeOf5
 v5:=by rw[h5];exact zeroValue5
 infoByte:=by rw[h5];kernel_rfl
 cellsByte:=by rw[h5];kernel_rfl
 sizeByte:=by rw[h5];kernel_rfl
 neB5:=by rw[h72,h5];decide
abbrev Bld(B b:Nat)(bs:List Value)(w:World):Prop:=Lib.IsBuilderF 158 5 B b bs w
variable{bs:List Value}
theorem Qb8{B b:Nat}(c:Int)(h:Bld B b bs w)(D:bs.length+1<=140737488355328)(z:B<=w.heap.size) :
  Calls prog 232 #[.pointer (some ⟨b,0,none⟩),.int .u8 c] w λe w'=>e=.returned .nilIface/\Bld B b (bs++[.int .u8 c]) w'/\Below B w w'/\Lib.OthersKept 5 (some b) w w':=
 (Any.Builder_WriteByte_k Tryz.QjE (QtZ _ rfl rfl) B b bs c w h D z).mono λe w' h=>⟨h.1,.inr h.2.1,h.2.2.1,h.2.2.2⟩
theorem Qmn{B b:Nat}(s:ByteArray)(h:Bld B b bs w)(D:bs.length+s.size<=140737488355328)(z:B<=w.heap.size) :
  Calls prog 204 #[.pointer (some ⟨b,0,none⟩),.string s] w λe w'=>(∃r,e=.returned r)/\Bld B b (bs++Lib.strCells s) w'/\Below B w w'/\Lib.OthersKept 5 (some b) w w':=
 (Any.Builder_WriteString_k Tryz.Qhs (QtZ _ rfl rfl) B b bs s w h D z).mono λe w' h=>⟨⟨_,h.1⟩,.inr h.2.1,h.2.2.1,h.2.2.2⟩
theorem Qho{B b:Nat}(r:Int)(D : -2147483648<=r)(J:r<=2147483647)(h:Bld B b bs w)(I:bs.length+4<=140737488355328)(z:B<=w.heap.size) :
  Calls prog 235 #[.pointer (some ⟨b,0,none⟩),.int .i32 r] w λe w'=>e=.returned (.tuple #[.int .i64 (Lib.runeCells r).length,.nilIface])/\Bld B b (bs++Lib.runeCells r) w'/\Below B w w'/\Lib.OthersKept 5 (some b) w w':=
 (Any.Builder_WriteRune_k Tryz.QjF (QtZ _ rfl rfl) B b bs r D J w h I z).mono λe w' h=>⟨h.1,.inr h.2.1,h.2.2.1,h.2.2.2⟩
def Qmo(w:World):Prop:=∀W,G5 w W->∀s:ByteArray,Calls prog 248 #[.string s] W λe w'=>e=.returned (.tuple #[.int .i32 (Lib.decodeGo s).1,.int .i64 (Lib.decodeGo s).2])/\Nw W w'
theorem Qtk(h:laidMetH prog Qfn w):Qmo w:=λW J s=>by
 have I:laidMet prog Qfn w:=h;have z:=Lib.laidMet.reads I (n:= "unicode/utf8.first") (d:=Rows.laid_unicode_utf8_first) (by simp[Qfn]);have D:=Lib.laidMet.reads I (n:= "unicode/utf8.acceptRanges") (d:=Rows.laid_unicode_utf8_acceptRanges) (by simp[Qfn]);rw[show Rows.laid_unicode_utf8_first=Lib.firstData from Qjs]at z;rw[Qhz]at D;exact(Any.utf8_DecodeRuneInString Tryz.Qo4 s W (QtX J (Ql8 z D))).mono λe w' h=>⟨h.1,Sb.new h.2⟩
variable{H:Nat->Prop}{w':World}
theorem Qmo.sb(h:Qmo w)(D:6<=w.heap.size)(k:Sb H w w')(z:∀b,b<6->¬H b):Qmo w':=λW I=>h W ((k.g5 D z).trans I)
def Qb1(r:Int):Bool:=decide (32<=r)&&r != 34&&r != 92
theorem Qnq(w:World)(r:Int):Calls prog 234 #[.int .i32 r] w λe w'=>e=.returned (.bool (Qb1 r))/\w'=w:=by
 by_cases h1:32<=r
 ·by_cases h2:r=34
  ·subst h2
   go_in;go_wp2_with fail;go_ret;exact⟨rfl,rfl⟩
  have g1:decide ((32:Int)<=r)=true:=ej h1;have g2:(r != 34)=true:=by simpa using h2
  by_cases z:r=92
  ·subst z
   go_in;go_wp2_with fail;go_ret;exact⟨rfl,rfl⟩
  have D:(r != 92)=true:=by simpa using z
  have hs:Qb1 r=true:=by simp[Qb1,h1,h2,z]
  rw[hs];go_in;go_wp2_with fail;go_ret;exact⟨rfl,rfl⟩
 have g1:decide ((32:Int)<=r)=false:=eh h1;have hs:Qb1 r=false:=by simp[Qb1,h1]
 rw[hs];go_in;go_wp2_with fail;go_ret;exact⟨rfl,rfl⟩
def Qa9(s:ByteArray):Nat->Nat->List (Nat × Nat)
 |0,_=>[]
 |f+1,p=>if s.size<=p then[]else if Utf8.decode s p=(65533,1)then[]else(p,(Utf8.decode s p).1)::Qa9 s f (p+(Utf8.decode s p).2)
def QbA(s:ByteArray):List (Nat × Nat):=Qa9 s s.size 0
variable{p:Nat}
theorem Qde{s:ByteArray}(h:p<s.size):1<=(Utf8.decode s p).2/\p+(Utf8.decode s p).2<=s.size/\(Utf8.decode s p).1<=1114111:=by
 refine⟨Lib.width_pos s p,?_,Lib.rune_le s p⟩;have:=Lib.decodeN_le_n (s.size-p) (s.get! p).toNat (s.get! (p+1)).toNat (s.get! (p+2)).toNat (s.get! (p+3)).toNat (by omega);rw[Lib.decode_at];omega
theorem QcD(s:ByteArray):∀(f p:Nat),(Qa9 s f p).length<=s.size-p
 |0,p=>aw _
 | f+1,p=>by
   unfold Qa9;split
   .simp
   split
   .simp
   have:=QcD s f (p+(Utf8.decode s p).2);have:=Qde (s:=s) (p:=p) (by omega);simp only[List.length_cons];omega
theorem QdV{s:ByteArray}:∀{f p:Nat} {x:Nat × Nat},x∈Qa9 s f p->x.2<=1114111/\x.1<s.size
 |0,p,x,h=>by cases h
 | f+1,p,x,h=>by
   unfold Qa9 at h;split at h
   .cases h
   split at h
   .cases h
   rcases aG.1 h with rfl|h
   .exact ⟨Lib.rune_le s p,by show p<_;omega⟩
   exact QdV h
theorem QfM{s:ByteArray}{f p:Nat}(h:s.size<=p):Qa9 s f p=[]:=by
 cases f with
 |zero=>rfl
 |succ f=>rw[Qa9,em h]
theorem Qhd{s:ByteArray}{f p:Nat}(h:Utf8.decode s p=(65533,1)):Qa9 s f p=[]:=by
 cases f with
 |zero=>rfl
 |succ f=>rw[Qa9,em h,ite_self]
theorem Qfu{s:ByteArray}{f p:Nat}(D:p<s.size)(z:s.size<=p+f)(h:Utf8.decode s p≠(65533,1)):Qa9 s f p=(p,(Utf8.decode s p).1)::Qa9 s (f-1) (p+(Utf8.decode s p).2):=by
 cases f with
 |zero=>omega
 |succ f=>rw[Qa9,ef (by omega),ef h];rfl
def Qbr(r:Nat):Option Nat:=if r=34 then some 34 else if r=92 then some 92 else if r=8 then some 98 else if r=9 then some 116 else if r=10 then some 110 else if r=12 then some 102 else if r=13 then some 114 else none
def QnQ(k:Nat):UInt8:=if k<10 then(48+k).toUInt8 else(87+k).toUInt8
def Qcf(r:Nat):List UInt8:=if Qb1 r then Lib.encodeRune r else match Qbr r with
 |some c=>[92,c.toUInt8]
 |none=>[92,117,48,48,QnQ (r/16),QnQ (r%16)]
def Qbf(l:List (Nat × Nat)):List UInt8:=(l.map λx=>Qcf x.2).flatten
def Qb6(s:ByteArray):List UInt8:=34::Qbf (QbA s)++[34]
theorem Qb0(l:List (Nat × Nat))(x:Nat × Nat):Qbf (l++[x])=Qbf l++Qcf x.2:=by simp[Qbf]
theorem Qnf(r:Nat):(Qcf r).length<=6:=by
 unfold Qcf;split
 ·have:=Lib.runeCells_le r
  rw[Lib.runeCells_length]at this;omega
 split<;>simp
theorem Qcq:∀l:List (Nat × Nat),(Qbf l).length<=6*l.length
 |[]=>by simp[Qbf]
 | x :: r=>by
   have:=Qcq r;have:=Qnf x.2;simp only[Qbf,List.map_cons,List.flatten_cons,List.length_append,List.length_cons]at *;omega
theorem Qnh(s:ByteArray):(Qb6 s).length<=6*s.size+2:=by
 have h1:=Qcq (QbA s);have h2:=QcD s s.size 0;unfold Qb6 QbA at *;simp only[List.length_cons,List.length_append,List.length_nil];omega
variable{P:Program}
theorem Qax{l n:Nat}{f:FuncId}{args:Array Value}{R:Ending->World->Prop}(h:Calls P f args w R):CallsIn (Fence.wide.inRound l) n P f args w R:=eC.2 h
def Qte{α:Type}(P:Program)(l:Nat)(encs:α->Array Value)(K:Nat->Prop)(G:List α->α->World->World->Prop)(J Jx:List α->World->Prop):Prop:=
 ∀pre x W0 W1,J pre W0->Nw W0 W1->G pre x W0 W1->YieldAt Fence.wide 4 P l (encs x) W1 λe W'=>
  (e=.returned (.bool true)/\J (pre++[x]) W'/\Agree K W1 W'/\W1.heap.size<=W'.heap.size)\/(e=.returned (.bool false)/\Jx (pre++[x]) W')
def Qt8{α:Type}(P:Program)(g:Nat)(lb:Array Value)(encs:α->Array Value)(K:Nat->Prop)(G:List α->α->World->World->Prop)(S Sp:List α->Prop)(w0:World):Prop:=
 ∀(l:Nat) (J Jx:List α->World->Prop) (W:World),Qte P l encs K G J Jx->Agree K w0 W->w0.heap.size<=W.heap.size->J [] W->
  Calls P g (#[.func (.yield l) #[] #[]]++lb) W λe W'=>(∃v,e=.returned v)/\((∃xs W0,S xs/\J xs W0/\Nw W0 W')\/(∃pre W0,Sp pre/\Jx pre W0/\Nw W0 W'))
def Qrq{α:Type}(K:Nat->Prop)(I:List α->World->Prop)(Ix:Code->List α->World->Prop)(xs:List α)(W:World):Exit->Act->World->Prop
 |.normal,_,W'=>I xs W'/\Agree K W W'/\W.heap.size<=W'.heap.size
 |.ret,_,W'=>Agree K W W'/\Ix .ret xs W'
 |.exit id,_,W'=>Agree K W W'/\Ix (.exit id) xs W'
 |.goto t,_,W'=>Agree K W W'/\Ix (.goto t) xs W'
 |.panic _,_,_=>False
 |.outgrown,_,_=>False
variable{n:Nat}{Q:Exit->Act->World->Prop}{a:Act}{w0:World}
theorem Qhn{α:Type}{g:Operand}{ps:Array Tmp}{assign body:Code} 
  {gf:Nat} {lb:Array Value} (hg:a.eval g=.func (.func gf) #[] lb) (eg:∀args w,(callFunc gf args).run P w=.ok (.enter gf args) w)
  {encs:α->Array Value} {K:Nat->Prop} {G:List α->α->World->World->Prop} {S Sp:List α->Prop} (hseq:Qt8 P gf lb encs K G S Sp w0)
  (hA:Agree K w0 w) (hsz:w0.heap.size<=w.heap.size) (hK:∀b,K b->b<w.heap.size) (hps:∀x,(encs x).size=ps.size)
  (I:List α->World->Prop) (Ix:Code->List α->World->Prop)
  (hI:∀{s W W'},I s W->Sb (λb=>b=w.heap.size+1) W W'->(∃r,W.heap[w.heap.size+1]? = some (.loop r))->(∃r,W'.heap[w.heap.size+1]? = some (.loop r))->I s W') (hIx:∀{c s W W'},Ix c s W->Sb (λb=>b=w.heap.size+1) W W'->(∃r,W.heap[w.heap.size+1]? = some (.loop r))->(∃r,W'.heap[w.heap.size+1]? = some (.loop r))->Ix c s W')
  (h0:∀W,Ext w W->w.heap.size+2<=W.heap.size->I [] W)
  (hround:∀(pre:List α) (x:α) (W0 W1:World),I pre W0->w.heap.size+2<=W0.heap.size->Nw W0 W1->G pre x W0 W1->
    assign.wpIn (Fence.wide.inRound (w.heap.size+1)) 4 P (Exit.then (λa1 W2=>Nw W1 W2/\∀W3,Sb (λb=>b=w.heap.size+1) W2 W3->(∃r,W2.heap[w.heap.size+1]? = some (.loop r))->(∃r,W3.heap[w.heap.size+1]? = some (.loop r))->W3.heap[w.heap.size]? = some (.deferred (some []))->body.wpIn (Fence.wide.inRound (w.heap.size+1)) 4 P (Qrq (λb=>K b\/b=w.heap.size\/b=w.heap.size+1) I Ix (pre++[x]) W3) a1 W3) (λ_ _ _=>False))
     { tmps:=(ps.zip (encs x)).foldl (λt (p,v)=>t.setIfInBounds p v) a.tmps,defers:=[] } W1)
  (hdone:∀(D:Nat) (xs:List α) (W:World),D=w.heap.size->S xs->I xs W->W.heap[D]? = some (.deferred (some []))->Q .normal { a with defers:={ target:=.collected D,args:=#[] }::a.defers } W)
  (hstop:∀(D:Nat) (c:Code) (pre:List α) (W:World),D=w.heap.size->Sp pre->Ix c pre W->W.heap[D]? = some (.deferred (some []))->c.wpIn Fence.wide n P Q { a with defers:={ target:=.collected D,args:=#[] }::a.defers } W) :
  (Code.rangeFunc g ps assign body).wpIn Fence.wide n P Q a w:=by
 refine wpIn_rangeFunc λfn hfn=>?_
 rw[show Fence.wide.round=none from rfl]
 let rec_:LoopState->Option Code->Obj:=λst pe=>.loop { state:=st,pending:=pe,fn,tmps:=a.tmps,params:=ps,assign,body,defers:=w.heap.size }
 let BK:LoopState->Option Code->World->Prop:=λst pe W=>W.heap[w.heap.size+1]? = some (rec_ st pe)/\W.heap[w.heap.size]? = some (.deferred (some []))
 have bkL:∀{st pe W},BK st pe W->w.heap.size+1<W.heap.size:=λh=>(aC.1 h.1).1
 have bkr:∀{st pe W},BK st pe W->∃r,W.heap[w.heap.size+1]? = some (.loop r):=λh=>⟨_,h.1⟩
 have bkE:∀{st pe W W'},BK st pe W->Nw W W'->BK st pe W':=λh he=>⟨(he.block _ (aC.1 h.1).1 (λe=>e)).trans h.1,(he.block _ (aC.1 h.2).1 (λe=>e)).trans h.2⟩
 have bkS:∀{st pe W W'} {C:Nat->Prop},BK st pe W->Agree C W W'->C (w.heap.size+1)->C w.heap.size->BK st pe W':=λh hk h1 h2=>⟨(hk _ h1).trans h.1,(hk _ h2).trans h.2⟩
 have bkP:∀{st pe W} (st':LoopState) (pe':Option Code),BK st pe W->BK st' pe' (W.putObj (w.heap.size+1) (rec_ st' pe'))/\Sb (λb=>b=w.heap.size+1) W (W.putObj (w.heap.size+1) (rec_ st' pe')):=λst' pe' h=>
  ⟨⟨World.putObj_heap_same (aC.1 h.1).1,(e9 (by omega)).trans h.2⟩,(St.put h.1 rfl rfl).sb⟩
 have e1:Ext w (w.alloc (.deferred (some []))):=Qik w _ λW i j h=>by simp[World.frozen?,h]
 have e2:Ext (w.alloc (.deferred (some []))) ((w.alloc (.deferred (some []))).alloc (rec_ .ready none)):=Qik _ _ λW i j h=>by simp[World.frozen?,h,rec_]
 have hrun:=run_enterLoop_outer (P:=P) (w:=w) fn a.tmps ps assign body;have bk1:BK .ready none ((w.alloc (.deferred (some []))).alloc (rec_ .ready none)):=
  ⟨by have:=fc (w.alloc (.deferred (some []))) (rec_ .ready none);rwa[ey]at this,(eJ _ _ _ (by simp)).trans (fc w _)⟩
 have eW:=e1.trans e2;have hs1:w.heap.size+2<=((w.alloc (.deferred (some []))).alloc (rec_ .ready none)).heap.size:=by simp
 change _=Result.ok _ ((w.alloc (.deferred (some []))).alloc (rec_ .ready none))at hrun;generalize (w.alloc (.deferred (some []))).alloc (rec_ .ready none)=W1 at *;refine⟨w.heap.size+1,_,W1,{ target:=.fn (.func gf) lb,args:=#[.func (.yield (w.heap.size+1)) #[] #[]] },W1,gf,#[.func (.yield (w.heap.size+1)) #[] #[]]++lb,W1,hrun,?_,?_,?_,λh=>by simp[Fence.wide]at h,?_⟩
 ·simp only [resolve,hg]
  simp[go_sem]
 .intro f' hf';trivial
 .simp [invoke,go_sem,eg]
 refine eC.2 ((hseq (w.heap.size+1) (λpre W=>I pre W/\BK .ready none W) (λpre W=>∃c,Ix c pre W/\BK .done (some c) W) W1 ?_ (hA.trans (eW.agree hK)) (al hsz eW.size) ⟨h0 W1 eW hs1,bk1⟩).mono ?_)
 ·rintro pre x W0 Wy ⟨hi,hbk⟩ hx hgd
  have hbk1:=bkE hbk hx;have hl0:=bkL hbk;refine⟨fn,_,assign,body,run_yield (args:=encs x) hbk1.1 (hps x),roundIn_of_wpIn hfn (wpIn_mono (hround pre x W0 Wy hi (by omega) hx hgd) ?_)⟩;rintro e a3 W2 hp;cases e with
  | normal=>
    obtain⟨hx2,hb⟩:=hp;have hbk2:=bkE hbk1 hx2;obtain⟨hbk3,ht3⟩:=bkP .busy none hbk2;refine⟨_,run_beginRound hbk2.1 rfl,wpIn_mono (hb _ ht3 (bkr hbk2) (bkr hbk3) hbk3.2) ?_⟩;have hl3:=bkL hbk3;have hl2:=bkL hbk2;have hl1:=bkL hbk1;generalize W2.putObj (w.heap.size+1) (rec_ .busy none)=W3 at *;rintro e a4 W4 hq;cases e with
    | normal=>
      obtain⟨hi4,hst,hlt4⟩:=hq;have hbk4:=bkS hbk3 hst (.inr (.inr rfl)) (.inr (.inl rfl));obtain⟨hbk5,ht5⟩:=bkP .ready none hbk4;refine⟨_,_,fe none hbk4.1,.inl ⟨rfl,⟨hI hi4 ht5 (bkr hbk4) (bkr hbk5),hbk5⟩,λb hb=>?_,?_⟩⟩
      ·have hbw:=hK b hb
       have h1:=hx2.block b (by omega) (λe=>e);have h2:=ht3.block b (by omega) (λe=>by omega);have h3:=hst b (.inl hb);have h4:=ht5.block b (by have:=bkL hbk4;omega) (λe=>by omega);exact h4.trans (h3.trans (h2.trans h1))
      have:=hx2.size;have:=ht3.size;simp;omega
    | ret=>
      have hbk4:=bkS hbk3 hq.1 (.inr (.inr rfl)) (.inr (.inl rfl));obtain⟨hbk5,ht5⟩:=bkP .done (some .ret) hbk4;exact⟨_,_,fe (some .ret) hbk4.1,.inr ⟨rfl,.ret,hIx hq.2 ht5 (bkr hbk4) (bkr hbk5),hbk5⟩⟩
    | exit id=>
      have hbk4:=bkS hbk3 hq.1 (.inr (.inr rfl)) (.inr (.inl rfl));obtain⟨hbk5,ht5⟩:=bkP .done (some (.exit id)) hbk4;exact⟨_,_,fe (some (.exit id)) hbk4.1,.inr ⟨rfl,.exit id,hIx hq.2 ht5 (bkr hbk4) (bkr hbk5),hbk5⟩⟩
    | goto t=>
      have hbk4:=bkS hbk3 hq.1 (.inr (.inr rfl)) (.inr (.inl rfl));obtain⟨hbk5,ht5⟩:=bkP .done (some (.goto t)) hbk4;exact⟨_,_,fe (some (.goto t)) hbk4.1,.inr ⟨rfl,.goto t,hIx hq.2 ht5 (bkr hbk4) (bkr hbk5),hbk5⟩⟩
    |panic ch=>exact hq.elim
    |outgrown=>exact hq.elim
  |ret=>exact hp.elim
  |exit id=>exact hp.elim
  |goto t=>exact hp.elim
  |panic ch=>exact hp.elim
  |outgrown=>exact hp.elim
 rintro e W2 ⟨⟨v,rfl⟩,(⟨xs,W0,hS,⟨hi,hbk⟩,hx⟩ |⟨pre,W0,hSp,⟨c,hi,hbk⟩,hx⟩)⟩
 ·have hbk2:=bkE hbk hx
  have hbk0:=hbk;obtain⟨hbk5,ht5⟩:=bkP .exhausted none hbk2;exact⟨none,_,run_endLoop hbk2.1 (by simp),hdone _ xs _ rfl hS (hI hi ((hx.any _).trans ht5) (bkr hbk0) (bkr hbk5)) hbk5.2⟩
 have hbk2:=bkE hbk hx;have hbk0:=hbk;obtain⟨hbk5,ht5⟩:=bkP .exhausted (some c) hbk2;exact⟨some c,_,run_endLoop hbk2.1 (by simp),hstop _ c pre _ rfl hSp (hIx hi ((hx.any _).trans ht5) (bkr hbk0) (bkr hbk5)) hbk5.2⟩
attribute [local go_sem] Oper.semAt_some
theorem QpP(w:World)(s:ByteArray):Calls prog 233 #[.string s] w λe w'=>e=.returned (.func (.func 247) #[] #[.pointer (some ⟨w,0,none⟩)])/\Ext w w'/\Blk w' w.heap.size 9 #[.string s]:=by
 go_in;go_wp2_with fail;go_ret;exact⟨rfl,(fv w).alloc _ _,fA w _ _⟩
abbrev Qox(x:Nat × Nat):Array Value:=#[.int .i64 (x.1:Int),.int .i32 (x.2:Int)]
def Qh6(s:ByteArray)(xs:List (Nat × Nat)):Prop:=xs=QbA s
def Qt7(s:ByteArray)(pre:List (Nat × Nat))(x:Nat × Nat)(W0 W1:World):Prop:=(QbA s)[pre.length]? = some x
structure Qku(s:ByteArray)(J:List (Nat × Nat)->World->Prop)(K:Nat->Prop)(W:World)(p f:Nat)(pre:List (Nat × Nat))(Wj wr:World):Prop where
 inv:J pre Wj
 nw:Nw Wj wr
 pre_:QbA s=pre++Qa9 s f p
 few:s.size<=p+f
 ag:Agree K W wr
 sz:W.heap.size<=wr.heap.size
theorem Qku.grow{s:ByteArray}{J:List (Nat × Nat)->World->Prop}{K:Nat->Prop}{p f:Nat}{pre:List (Nat × Nat)}{z wr w6:World}(h:Qku s J K W p f pre z wr)(I:∀b,K b->b<W)(k:Nw wr w6):Qku s J K W p f pre z w6:=
 ⟨h.inv,h.nw.trans k,h.pre_,h.few,h.ag.trans (k.agree λb D=>ab (I b D) h.sz),al h.sz k.size⟩
theorem Qnl{s:ByteArray}{J:List (Nat × Nat)->World->Prop}{K:Nat->Prop}{p f r z:Nat}{pre:List (Nat × Nat)}{D wr w6:World}(h:Qku s J K W p f pre D wr)(N:p<s.size)(hd:Utf8.decode s p=(r,z))(X:1<=z)(R:Utf8.decode s p≠(65533,1))
  (I:J (pre++[(p,r)]) w6) (U:Agree K wr w6) (hs:wr.heap.size<=w6.heap.size):Qku s J K W (p+z) (f-1) (pre++[(p,r)]) w6 w6:=by
 refine⟨I,fD _ _,?_,?_,h.ag.trans U,al h.sz hs⟩
 .rw [h.pre_,Qfu N h.few R,hd,aS];rfl
 have:=h.few;omega
theorem QpQ{s:ByteArray}(hB:Blk w0 B 9 #[.string s])(hD:Qmo w0)(X:6<=w0.heap.size)(hs:s.size<=1000000000000) :
  Qt8 prog 247 #[.pointer (some ⟨B,0,none⟩)] Qox (λb=>b=B\/b<6) (Qt7 s) (Qh6 s) (λ_=>True) w0:=by
 intro l J Jx W b0 hA c9 hJ;have c2:=hB.lt;have b5:∀b,(b=B\/b<6)->b<W:=λb hb=>by rcases hb with rfl|hb<;>omega
 have a2:∀R,Agree (λb=>b=B\/b<6) W R->W.heap.size<=R.heap.size->R.cell? ⟨B,0,none⟩=some (.string s)/\B<R.heap.size/\G5 w0 R:=λR hW hz=>
  ⟨(hW.cell (.inl rfl)).trans ((eS (w:=w0) (a:=⟨B,0,none⟩) (hA B (.inl rfl))).trans (hB.cell 0)),by omega,
    λb hb=>(hW b (.inr hb)).trans (hA b (.inr hb))⟩
 have a1:∀R p r z,Agree (λb=>b=B\/b<6) W R->W.heap.size<=R.heap.size->p<s.size->Utf8.decode s p=(r,z)->Calls prog 248 #[.string (s.extract p s.size)] R λe w'=>e=.returned (.tuple #[.int .i32 (r:Int),.int .i64 (z:Int)])/\Nw R w':=λR p r z hW hz hp hd=>by
  have h:=hD R (a2 R hW hz).2.2 (s.extract p s.size);rw[Lib.decodeGo_extract s p hp,hd]at h;exact h
 have c7:=hY b0;have c8:=hY a2;have HJ:=hY hJ;have b7:=hY a1;have c3:=hY b5;clear b0 hA hJ hB a2 a1 hD X c2 c9 b5;show Calls _ _ #[.func (.yield l) #[] #[],.pointer (some ⟨B,0,none⟩)] W _;refine(eC (n:=5)).1 ?_;refine callsIn_of_wp func247 rfl trivial ?_ rfl;simp only[ntmps247,List.size_toArray,List.length_cons,List.length_nil,Nat.reduceAdd,Nat.reduceSub,Array.replicate_succ,Array.replicate_zero,List.push_toArray,List.append_toArray,List.nil_append,List.cons_append];gi_wp2_with fail;gi_loopw [3] (λv wr=>∃(p f:Nat) (D:List (Nat × Nat)) (Wj:World),v=.int .i64 (p:Int)/\p<=s.size/\Yd (Qku s J (λb=>b=B\/b<6) W p f D Wj wr)) (λv _=>s.size -(intOf v).toNat)
 case atStart=>exact⟨0,s.size,[],W,rfl,aw _,hY ⟨HJ.o,fD _ _,rfl,by omega,Agree.refl _,an _⟩⟩
 obtain⟨p,f,D,Wj,rfl,hp,HS⟩:=hrel;obtain⟨c0,lB,-⟩:=c8.o wr HS.o.ag HS.o.sz;by_cases Y:p<s.size
 ·obtain ⟨r,z,hd⟩:∃ r z,Utf8.decode s p=(r,z):=⟨_,_,rfl⟩
  obtain⟨U,a0,hr⟩:=Qde Y;rw[hd]at U a0 hr;dsimp only at U a0 hr;have b4:=b7.o wr p r z HS.o.ag HS.o.sz Y hd;have g1:(p:Int)<(s.size:Int):=by omega
  have g2:(0:Int)<=(p:Int):=by omega
  have g3:(p:Int)<=(s.size:Int):=by omega
  have g4:IntKind.i64.wrap ((p:Int)+(z:Int))=(p:Int)+(z:Int):=by rw[ew];omega
  have c6:=hY b4;have HD:=hY hd;clear b4 hd;gi_wp2_with fail;refine⟨trivial,?_⟩;refine(eC.2 c6.o).mono ?_;rintro e w2 ⟨rfl,b6⟩;have N:=hY (HS.o.grow c3.o b6);clear b6;by_cases I:r=65533/\z=1
  ·obtain ⟨rfl,rfl⟩:=I
   have HE:=hY (show Qh6 s D by show D=QbA s;rw[N.o.pre_,Qhd HD.o,aY]);gi_wp2_with fail;refine eD (v:=.tuple #[]) (by simp[results,results247,go_sem]) rfl ?_;exact⟨⟨_,rfl⟩,.inl ⟨D,Wj,HE.o,N.o.inv,N.o.nw⟩⟩
  have a3:Utf8.decode s p≠(65533,1):=by rw[HD.o];intro e;injection e with e1 e2;exact I ⟨e1,e2⟩
  have hy:=c7.o D (p,r) Wj w2 N.o.inv N.o.nw (by show _[_]? = _;rw[N.o.pre_,Qfu Y N.o.few a3,HD.o,aU (an _),cW];rfl);obtain⟨fn,d0,b8,d3,hy,hR⟩:=hy;have HR:=hY hR;have c1:=hY a3;have a6:=hY U;dsimp only[Qox]at hy;clear hR a3;have b3:∀(e:Ending) (w':World),((e=.returned (.bool true)/\J (D++[(p,r)]) w'/\Agree (λb=>b=B\/b<6) w2 w'/\w2.heap.size<=w'.heap.size)\/(e=.returned (.bool false)/\Jx (D++[(p,r)]) w'))->
    (e=.returned (.bool true)/\Yd (Qku s J (λb=>b=B\/b<6) W (p+z) (f-1) (D++[(p,r)]) w' w'))\/(e=.returned (.bool false)/\Jx (D++[(p,r)]) w'):=by
   rintro e w' (⟨rfl,h1,h2,h3⟩ |⟨rfl,h1⟩)
   .exact .inl ⟨rfl,hY (Qnl N.o Y HD.o a6.o c1.o h1 h2 h3)⟩
   exact .inr ⟨rfl,h1⟩
  have a9:=hY b3;clear b3;by_cases Z:r=65533
  ·have c4:z≠1:=fun e=>I ⟨Z,e⟩
   have b1:((r:Int)==65533)=true:=by simp[Z]
   have b2:((z:Int)==1)=false:=by simp;omega
   clear Z c4 I U;gi_wp2_with fail;refine HR.o.mono ?_;intro e w6 X;rcases a9.o e w6 X with⟨rfl,a4⟩ |⟨rfl,a5⟩
   ·clear X hy
    gi_wp2_with fail;go_roundw
    case rel=>exact⟨p+z,f-1,_,w6,by go_num,a0,a4⟩
    have:=a6.o;simp[intOf];omega
   clear X hy;gi_wp2_with fail;refine eD (v:=.tuple #[]) (by simp[results,results247,go_sem]) rfl ?_;exact⟨⟨_,rfl⟩,.inr ⟨_,w6,trivial,a5,fD _ _⟩⟩
  have b1:((r:Int)==65533)=false:=by simp;omega
  clear Z I U;gi_wp2_with fail;refine HR.o.mono ?_;intro e w6 X;rcases a9.o e w6 X with⟨rfl,a4⟩ |⟨rfl,a5⟩
  ·clear X hy
   gi_wp2_with fail;go_roundw
   case rel=>exact⟨p+z,f-1,_,w6,by go_num,a0,a4⟩
   have:=a6.o;simp[intOf];omega
  clear X hy;gi_wp2_with fail;refine eD (v:=.tuple #[]) (by simp[results,results247,go_sem]) rfl ?_;exact⟨⟨_,rfl⟩,.inr ⟨_,w6,trivial,a5,fD _ _⟩⟩
 obtain rfl:p=s.size:=by omega
 have HE:=hY (show Qh6 s D by show D=QbA s;rw[HS.o.pre_,QfM (an _),aY]);have g1:¬(s.size:Int)<(s.size:Int):=by omega
 gi_wp2_with fail;go_end0;exact⟨⟨_,rfl⟩,.inl ⟨D,HE.o,Wj,HS.o.inv,HS.o.nw⟩⟩
end Go.Proofs.YtkjkafgnnoidpaaGreatDoor
namespace Go.Proofs.YtkjkafgnnoidpaaGreatDoor
open Go.Proofs.Tryz
open Go.RowKit Go.Maps Go.Shelf
theorem QdU:Keyed prog 21:=int_keyed (q:=.i32) underlying21
abbrev QdO(D:DataW Unit)(r c:Int):DataW Unit:=D.put (.int .i32 r) (.lit (.int .i32 c))
def Qe3:DataW Unit:=QdO (QdO (QdO (QdO (QdO (QdO (QdO (.map []) 34 34) 92 92) 8 98) 9 116) 10 110) 12 102) 13 114
theorem Qco{D:DataW Unit}(z:IsMap D)(r c:Int):IsMap (QdO D r c):=z.put _ _
theorem Qdh{D:DataW Unit}(z:IsMap D)(r c x:Int):Maps.has (QdO D r c) (.int .i32 x)=(decide (x=r)||Maps.has D (.int .i32 x)):=by
 by_cases h:x=r
 .subst h;rw[QdO,has_put_same z (show WideAt.IsKeyLit (.int .i32 x)from trivial)];simp
 rw[QdO,has_put_other (λe=>h (by injection e))];simp[h]
theorem Qex{D:DataW Unit}(I:IsMap D)(r c x:Int)(z:DataW Unit):(QdO D r c).atKey (.int .i32 x) z=if x=r then .lit (.int .i32 c)else D.atKey (.int .i32 x) z:=by
 by_cases h:x=r
 .subst h;rw[QdO,atKey_put_same I (show WideAt.IsKeyLit (.int .i32 x)from trivial),em rfl]
 rw[QdO,atKey_put_other (λe=>h (by injection e)),ef h]
theorem QoS:IsMap (.map []:DataW Unit):=⟨_,rfl⟩
theorem QoT:IsMap (QdO (.map []) 34 34):=Qco QoS _ _
theorem QoU:IsMap (QdO (QdO (.map []) 34 34) 92 92):=Qco QoT _ _
theorem QoV:IsMap (QdO (QdO (QdO (.map []) 34 34) 92 92) 8 98):=Qco QoU _ _
theorem QoW:IsMap (QdO (QdO (QdO (QdO (.map []) 34 34) 92 92) 8 98) 9 116):=Qco QoV _ _
theorem QoX:IsMap (QdO (QdO (QdO (QdO (QdO (.map []) 34 34) 92 92) 8 98) 9 116) 10 110):=Qco QoW _ _
theorem QrX:IsMap (QdO (QdO (QdO (QdO (QdO (QdO (.map []) 34 34) 92 92) 8 98) 9 116) 10 110) 12 102):=Qco QoX _ _
theorem QkU(r:Nat):Maps.has Qe3 (.int .i32 (r:Int))=(Qbr r).isSome:=by
 have z:Maps.has (.map []:DataW Unit) (.int .i32 (r:Int))=false:=rfl;rw[Qe3,Qdh QrX,Qdh QoX,Qdh QoW,Qdh QoV,Qdh QoU,Qdh QoT,Qdh QoS,z];unfold Qbr
 repeat' split
 all_goals (try subst_vars)
 all_goals simp
 all_goals omega
theorem QmY(r:Nat):Qe3.atKey (.int .i32 (r:Int)) (.lit (.int .i32 0))=.lit (.int .i32 (((Qbr r).getD 0:Nat):Int)):=by
 have z:(.map []:DataW Unit).atKey (.int .i32 (r:Int)) (.lit (.int .i32 0))=.lit (.int .i32 0):=rfl;rw[Qe3,Qex QrX,Qex QoX,Qex QoW,Qex QoV,Qex QoU,Qex QoT,Qex QoS,z];unfold Qbr
 repeat' split
 all_goals first|rfl |(exfalso;omega)
abbrev Qhq(w:World)(M:Nat):Prop:=w.ownsMap prog 21 (plainElem prog 21) M 7 Qe3
theorem QdL(c:Int)(z:(Lit.int .i32 c).wf=true):plainElem (H:=Unit) prog 21 (.int .i32 c)=some (.lit (.int .i32 c),[]):=plainElem_int underlying21 z
theorem QdK(c:Int)(z:(Lit.int .i32 c).wf=true):keyOf prog 21 (.int .i32 c)=some (.int .i32 c):=keyOf_int_mk underlying21 z
theorem QqZ(w:World):Calls prog 236 #[] w λe w'=>e=.returned (.map (some w.heap.size))/\Nw w w'/\Qhq w' w.heap.size:=by
 have a5:=@run_makeMap prog;have U:=World.ownsMap_made w prog 21 (plainElem (H:=Unit) prog 21);obtain⟨w1,r1,I,a4⟩:=U.update QdU underlying261 (by decide) (QdK 34 (by decide)) (QdL 34 (by decide));obtain⟨w2,r2,D,a3⟩:=I.update QdU underlying261 (by decide) (QdK 92 (by decide)) (QdL 92 (by decide));obtain⟨w3,r3,N,a2⟩:=D.update QdU underlying261 (by decide) (QdK 8 (by decide)) (QdL 98 (by decide));obtain⟨w4,r4,R,a1⟩:=N.update QdU underlying261 (by decide) (QdK 9 (by decide)) (QdL 116 (by decide));obtain⟨w5,r5,J,Y⟩:=R.update QdU underlying261 (by decide) (QdK 10 (by decide)) (QdL 110 (by decide));obtain⟨w6,r6,X,a0⟩:=J.update QdU underlying261 (by decide) (QdK 12 (by decide)) (QdL 102 (by decide));obtain⟨w7,r7,z,Z⟩:=X.update QdU underlying261 (by decide) (QdK 13 (by decide)) (QdL 114 (by decide));have HM:=hY z;clear U I D N R J X z;go_in;go_wp2_with fail;go_ret;refine⟨rfl,?_,HM.o⟩;have h0:Nw w (w.alloc (.map #[] 0)):=Sb.made (World.grownBy_alloc _ _ _);exact((((((h0.comp (Sb.grown a4) λi hi e=>by have e:i=w.heap.size:=e;omega).comp (Sb.grown a3) λi hi e=>by have e:i=w.heap.size:=e;omega).comp (Sb.grown a2) λi hi e=>by have e:i=w.heap.size:=e;omega).comp (Sb.grown a1) λi hi e=>by have e:i=w.heap.size:=e;omega).comp (Sb.grown Y) λi hi e=>by have e:i=w.heap.size:=e;omega).comp (Sb.grown a0) λi hi e=>by have e:i=w.heap.size:=e;omega).comp (Sb.grown Z) λi hi e=>by have e:i=w.heap.size:=e;omega
attribute [local go_sem] Oper.semAt_some
structure Qb9(w:World):Prop where
 lib:QiW w
 dec:Qmo w
 num:∀W,G5 w W->∀n:Int,-9223372036854775808<=n->n<=9223372036854775807->Calls prog 161 #[.int .i64 n,.int .i64 10] W λe w'=>e=.returned (.string ⟨(Lib.itoa n).toArray⟩)/\Nw W w'
variable{H:Nat->Prop}{w w':World}
theorem Qb9.sb(h:Qb9 w)(k:Sb H w w')(z:∀b,b<6->¬H b):Qb9 w':=
 ⟨h.lib.sb k z,h.dec.sb h.lib.big k z,λW D=>h.num W ((k.g5 h.lib.big z).trans D)⟩
theorem Qb9.nw(h:Qb9 w)(k:Nw w w'):Qb9 w':=h.sb k λ_ _ e=>e
def Qa6(s:ByteArray):ByteArray:=if Lib.validD s.data.toList then⟨(Qb6 s).toArray⟩else ByteArray.empty
theorem QrM(w:World):(zeroValue 21).run prog w=.ok (.int .i32 0) w:=by kernel_rfl
variable{W:World}
theorem QgU{M:Nat}(h:Qhq W M)(r:Nat)(N:r<=1114111) :
  (Instr.lookup 261 (.map (some M)) (.int .i32 (r:Int)) true).run prog W=.ok (.tuple #[.int .i32 (((Qbr r).getD 0:Nat):Int),.bool (Qbr r).isSome]) W:=by
 obtain⟨v,J,z,D⟩:=World.ownsMap.look_ok h QdU underlying261 (QrM W) (QdL 0 (by decide)) (QdK r (by simp[Lit.wf,IntKind.min,IntKind.max,IntKind.signed,IntKind.bits];omega));rw[QmY]at D;rw[QkU]at z;obtain⟨c,rfl,I,-⟩:=plainElem_int_inv underlying21 D;have:=congrArg Prod.fst I;simp only[DataW.lit.injEq,Lit.int.injEq,true_and]at this;rw[z,this]
theorem Qhq.set{M:Nat}(h:Qhq W M){p:Addr}(z:M≠p.block)(u:Value):Qhq (W.setCell p u) M:=QbI h (eP _ _ _ _ z)
variable{bs:List Value}{W':World}
theorem Bld.keep{B b x:Nat}(h:Bld B b bs W)(k:Sb (λi=>i=x) W W')(Z:b≠x)(U:∀c D,W.heap[x]?≠some (.cells c 5 D)):Bld B b bs W':=by
 have N:W.grownBy W' (some x):=⟨k.os,k.tape,k.output,k.size,λi hi Y=>k.block i hi λe=>Y (by rw[e])⟩;have J:∀p,Lib.BuilderAtF 158 5 B b p bs W->Lib.BuilderAtF 158 5 B b p bs W':=by
  rintro p ⟨h1,v,h2,I,h4⟩;refine⟨h1,v,(k.block b (fm h2) Z).trans h2,I.kept N ?_,h4⟩;rcases I.2 with⟨rfl,_⟩ |⟨g,R,X,D,rfl,_,z,_⟩
  .exact .inl rfl
  refine .inr λe=>?_
  simp only[Value.ownBlock,Option.some.injEq]at e;subst e;exact U _ _ z
 exact h.imp (J _) (J _)
theorem Bld.nw{B b:Nat}(h:Bld B b bs W)(k:Nw W W'):Bld B b bs W':=by
 have I:W.grownBy W' none:=⟨k.os,k.tape,k.output,k.size,λi hi _=>k.block i hi λe=>e⟩;have z:∀p,Lib.BuilderAtF 158 5 B b p bs W->Lib.BuilderAtF 158 5 B b p bs W':=by
  rintro p ⟨h1,v,h2,D,J⟩;refine⟨h1,v,(k.block b (fm h2) λe=>e).trans h2,D.kept I ?_,J⟩;cases v.ownBlock with
  |none=>exact .inl rfl
  |some x=>exact .inr (by simp)
 exact h.imp (z _) (z _)
theorem Bld.lt{B b:Nat}(h:Bld B b bs W):b<W:=h.elim (λh=>h.lt) (λh=>h.lt)
structure QK(B:Nat)(w w':World):Prop where
 os:w'.os=w.os
 tape:w'.tape=w.tape
 output:w'.output=w.output
 size:w.heap.size<=w'.heap.size
 block:∀k,k<B->k<w.heap.size->w'.heap[k]? = w.heap[k]?
 others:∀k o,w.heap[k]? = some o->k≠B->k≠B+1->(∀c fz,o≠.cells c 5 fz)->w'.heap[k]? = some o
theorem QK.refl(B:Nat)(w:World):QK B w w:=⟨rfl,rfl,rfl,an _,λ_ _ _=>rfl,λ_ _ h _ _ _=>h⟩
variable{B:Nat}
theorem QK.trans{a b c:World}(h:QK B a b)(k:QK B b c):QK B a c:=
 ⟨k.os.trans h.os,k.tape.trans h.tape,k.output.trans h.output,al h.size k.size,λi hi D=>(k.block i hi (ab D h.size)).trans (h.block i hi D),λi o I h1 h2 z=>k.others i o (h.others i o I h1 h2 z) h1 h2 z⟩
theorem QK.nw(h:Nw w w'):QK B w w':=
 ⟨h.os,h.tape,h.output,h.size,λk _ D=>h.block k D λe=>e,λk o z _ _ _=>(h.block k (aC.1 z).1 λe=>e).trans z⟩
theorem QK.of(h:Below B w w')(k:Lib.OthersKept 5 (some (B+1)) w w'):QK B w w':=
 ⟨h.os,h.tape,h.output,h.size,λi hi _=>h.block i hi,λi o D _ h2 z=>k i o D (λe=>h2 (by injection e)) z⟩
theorem QK.set(w:World)(u:Value):QK B w (w.setCell ⟨B,0,none⟩ u):=
 ⟨rfl,rfl,rfl,by simp,λk D _=>eP _ _ _ _ (by show k≠B;omega),λk o z h1 _ _=>(eP _ _ _ _ h1).trans z⟩
variable{g:Nat}
theorem QK.blk(h:QK B w w'){t:TypeId}{cs:Array Value}(D:Blk w g t cs)(h1:g≠B)(h2:g≠B+1)(z:t≠5):Blk w' g t cs:=
 h.others g _ D h1 h2 λc I e=>z (by injection e)
theorem QK.Qq0(h:QK B w w'){M:Nat}(I:Qhq w M)(h1:M≠B)(h2:M≠B+1):Qhq w' M:=by
 refine QbI I ?_;obtain⟨es,z,D,-⟩:=I;rw[D];exact h.others M _ D h1 h2 λc J e=>by cases e
variable{w1:World}
theorem QK.old(h:Nw w1 W)(k:QK w1.heap.size W W'):Nw w1 W':=
 ⟨k.os.trans h.os,k.tape.trans h.tape,k.output.trans h.output,al h.size k.size,λb z D=>(k.block b z (ab z h.size)).trans (h.block b z D)⟩
theorem QK.agree{K:Nat->Prop}(k:QK w1.heap.size W W')(J:∀b,K b->(b<w1/\b<W)\/∃o,W.heap[b]? = some o/\b≠w1.heap.size/\b≠w1.heap.size+1/\∀c z,o≠.cells c 5 z):Agree K W W':=λb I=>by
 rcases J b I with⟨h1,h2⟩ |⟨o,h1,h2,D,N⟩
 .exact k.block b h1 h2
 rw[h1];exact k.others b o h1 h2 D N
structure QI(w1:World)(pre:List (Nat × Nat))(W:World):Prop where
 bld:Bld w1.heap.size (w1.heap.size+1) (Lib.byteCells (34::Qbf pre)) W
 Qq0:∃mb,Blk W w1.heap.size 261 #[.map mb]/\∀M,mb=some M->M≠w1.heap.size/\M≠w1.heap.size+1/\Qhq W M
 old:Nw w1 W
theorem QI.nw{pre:List (Nat × Nat)}(h:QI w1 pre W)(k:Nw W W'):QI w1 pre W':=by
 obtain⟨D,h1,h2⟩:=h.Qq0;exact⟨h.bld.nw k,⟨D,k.blk h1,λM z=>⟨(h2 M z).1,(h2 M z).2.1,QbI (h2 M z).2.2 (k.block M (World.ownsMap.lt (h2 M z).2.2) λe=>e)⟩⟩,h.old.trans k⟩
theorem QI.turn{pre:List (Nat × Nat)}{x:Nat}(h:QI w1 pre W)(k:Sb (λi=>i=x) W W')(X:w1.heap.size+1<x)(R:∃r,W.heap[x]? = some (.loop r)):QI w1 pre W':=by
 obtain⟨N,h1,h2⟩:=h.Qq0;obtain⟨r,J⟩:=R;refine⟨h.bld.keep k (by omega) (λc U e=>by rw[J]at e;cases e),⟨N,k.blk h1 (by omega),λM z=>⟨(h2 M z).1,(h2 M z).2.1,QbI (h2 M z).2.2 (k.block M (World.ownsMap.lt (h2 M z).2.2) λe=>?_)⟩⟩,h.old.comp k λi hi e=>by omega⟩;obtain⟨es,D,I,-⟩:=(h2 M z).2.2;subst e;rw[J]at I;cases I
theorem QI.snoc{pre:List (Nat × Nat)}{x:Nat × Nat}{mb:Option Nat}(h:QI w1 pre W)(k:QK w1.heap.size W W')(I:Bld w1.heap.size (w1.heap.size+1) (Lib.byteCells (34::Qbf (pre++[x]))) W')
  (z:Blk W' w1.heap.size 261 #[.map mb]) (D:∀M,mb=some M->M≠w1.heap.size/\M≠w1.heap.size+1/\Qhq W' M):QI w1 (pre++[x]) W':=
 ⟨I,⟨mb,z,D⟩,k.old h.old⟩
theorem byteCells_snoc(l r:List UInt8):Lib.byteCells (l++r)=Lib.byteCells l++Lib.byteCells r:=by simp[Lib.byteCells]
variable{r:Nat}
theorem Qtf(h:r<32):bits .and .i32 (r:Int) 15=(r:Int)%16:=by
 have:∀k:Fin 32,bits .and .i32 ((k.val:Nat):Int) 15=((k.val:Nat):Int)%16:=by decide
 exact this ⟨r,h⟩
theorem Qis(k:Nat)(z:k<16)(h:k<(ByteArray.mk #[48,49,50,51,52,53,54,55,56,57,97,98,99,100,101,102]).size):(ByteArray.mk #[48,49,50,51,52,53,54,55,56,57,97,98,99,100,101,102])[k]'h=QnQ k:=by
 have:∀k:Fin 16,(ByteArray.mk #[48,49,50,51,52,53,54,55,56,57,97,98,99,100,101,102])[k.val]'k.isLt=QnQ k.val:=by decide
 exact this ⟨k,z⟩
theorem QI.next{pre:List (Nat × Nat)}{x:Nat × Nat}{mb:Option Nat}{z D:Nat}{s:ByteArray}(h:QI w1 pre W)(hs:Blk W z 9 #[.string s])(U:w1.heap.size+1<z)(Y:W.heap[D]? = some (.deferred (some [])))(a0:w1.heap.size+1<D)(R:∃r,W.heap[D+1]? = some (.loop r))(h6:6<=w1.heap.size)
  (k:QK w1.heap.size W W') (I:Bld w1.heap.size (w1.heap.size+1) (Lib.byteCells (34::Qbf (pre++[x]))) W') (N:Blk W' w1.heap.size 261 #[.map mb]) (X:∀M,mb=some M->M≠w1.heap.size/\M≠w1.heap.size+1/\Qhq W' M) :
  (QI w1 (pre++[x]) W'/\Blk W' z 9 #[.string s])/\Agree (λb=>(b=z\/b<6)\/b=D\/b=D+1) W W'/\W.heap.size<=W'.heap.size:=by
 have ho:=h.old.size;refine⟨⟨h.snoc k I N X,k.blk hs (by omega) (by omega) (by decide)⟩,k.agree λb I=>?_,k.size⟩;rcases I with(rfl|I)|rfl|rfl
 .exact .inr ⟨_,hs,by omega,by omega,λc J e=>by injection e with e1 e2;exact absurd e2 (by decide)⟩
 .exact .inl ⟨by omega,by omega⟩
 .exact .inr ⟨_,Y,by omega,by omega,λc J e=>by cases e⟩
 obtain⟨r,Z⟩:=R;exact .inr ⟨_,Z,by omega,by omega,λc J e=>by cases e⟩
variable{px:Nat}
theorem Qk4{pre:List (Nat × Nat)}(h:Qb1 (r:Int)=true):Lib.byteCells (34::Qbf (pre++[(px,r)]))=Lib.byteCells (34::Qbf pre)++Lib.runeCells (r:Int):=by
 have:Qcf r=Lib.encodeRune r:=by unfold Qcf;rw[h];rfl
 rw[Qb0,this,<-aF,byteCells_snoc,Lib.byteCells_encodeRune]
theorem Qhb{c:Nat}(h:c<128):Lib.runeCells (c:Int)=Lib.byteCells [c.toUInt8]:=by
 rw[Lib.runeCells,Lib.encodeRuneZ_one (by omega) (by omega)];simp[Lib.byteCells];omega
theorem QgT{r c:Nat}(z:Qbr r=some c):c<128:=by
 unfold Qbr at z
 repeat' split at z
 all_goals first |(cases z;done) |(injection z with z;omega)
theorem QfJ{pre:List (Nat × Nat)}{px r c:Nat}(h:Qb1 (r:Int)=false)(D:Qbr r=some c):Lib.byteCells (34::Qbf (pre++[(px,r)]))=(Lib.byteCells (34::Qbf pre)++[.int .u8 92])++Lib.runeCells (c:Int):=by
 have z:=QgT D;have:Qcf r=[92]++[c.toUInt8]:=by unfold Qcf;rw[h,D];rfl
 rw[Qb0,this,<-aF,<-aS,byteCells_snoc,byteCells_snoc,Qhb z];rfl
theorem Qj1{pre:List (Nat × Nat)}(h:Qb1 (r:Int)=false)(z:Qbr r=none):Lib.byteCells (34::Qbf (pre++[(px,r)]))=((Lib.byteCells (34::Qbf pre)++Lib.strCells ⟨#[92,117,48,48]⟩)++[.int .u8 (QnQ (r/16)).toNat])++[.int .u8 (QnQ (r%16)).toNat]:=by
 have:Qcf r=[92,117,48,48]++[QnQ (r/16)]++[QnQ (r%16)]:=by unfold Qcf;rw[h,z];rfl
 rw[Qb0,this,<-aF,<-aS,<-aS,byteCells_snoc,byteCells_snoc,byteCells_snoc];rfl
theorem QoA(h:Qb1 (r:Int)=false)(z:Qbr r=none):r<32:=by
 unfold Qbr at z;simp only[Qb1,Bool.and_eq_false_iff,decide_eq_false_iff_not,bne_eq_false_iff_eq]at h
 repeat' split at z
 all_goals first |(cases z;done)|omega
end Go.Proofs.YtkjkafgnnoidpaaGreatDoor
namespace Go.Proofs.YtkjkafgnnoidpaaGreatDoor
open Go.Proofs.Tryz
open Go.RowKit Go.Maps Go.Shelf
abbrev fu:=@run_takeDeferred
attribute [local go_sem] Oper.semAt_some
variable{w:World}
theorem Qn9{B b:Nat}{l:List UInt8}(h:Bld B b (Lib.byteCells l) w)(z:B<=w.heap.size) :
  Calls prog 237 #[.pointer (some ⟨b,0,none⟩)] w λe w'=>e=.returned (.string ⟨l.toArray⟩)/\Below B w w'/\Lib.OthersKept 5 (some b) w w':=
 (Any.Builder_String_any_k Tryz.QfV (QtZ _ rfl rfl) B b l w h z).mono λe w' h=>⟨h.1,h.2.2.1,h.2.2.2⟩
def Qoh(s:ByteArray):Int:=if Lib.validD s.data.toList then 0 else 3
theorem Qkh(hL:Qb9 w){s:ByteArray}(hs:s.size<=10000000) :
  Calls prog 207 #[.string s] w λe w'=>e=.returned (.tuple #[.string (Qa6 s),.int .i64 (Qoh s)])/\Nw w w':=by
 have hv:=Qd2 hL.lib (k:=s) (by unfold maxLen;omega);have q1:∀(w:World) (r:Option Nat),(binOp .eql 261 (.map r) (.map none)).run prog w=.ok (.bool r.isNone) w:=λw r=>run_eql_map_nil w _ _ _ r underlying261
 have HV:=hY hv;have HL:=hY hL;clear hv hL;refine(eC (n:=6)).1 ?_;refine callsIn_of_wp_marks func207 rfl trivial ?_ rfl;simp only[ntmps207,List.size_toArray,List.length_cons,List.length_nil,Nat.reduceAdd,Nat.reduceSub,Array.replicate_succ,Array.replicate_zero,List.push_toArray,List.append_toArray,List.nil_append,List.cons_append];gi_wp2_with fail;refine⟨trivial,?_⟩;refine(eC.2 HV.o).mono ?_;rintro e w1 ⟨rfl,f0⟩;cases d0:Lib.validD s.data.toList with
 | false=>
   have HQ:=hY (show Qa6 s=ByteArray.empty by unfold Qa6;rw[d0];rfl);have i9:=hY (show Qoh s=3 by unfold Qoh;rw[d0];rfl);have HN:=hY f0;clear f0 d0;gi_wp2_with fail;refine⟨.tuple #[.string ⟨#[]⟩,.int .i64 3],by simp[results,results207,go_sem],?_⟩;exact⟨by rw[HQ.o,i9.o];rfl,HN.o⟩
 | true=>
   have HQ:=hY (show Qa6 s=⟨(Qb6 s).toArray⟩by unfold Qa6;rw[d0];rfl);have i9:=hY (show Qoh s=0 by unfold Qoh;rw[d0];rfl);have k4:=HL.o.nw f0;have k6:=hY f0;have j9:=hY k4;clear f0 d0 k4;gi_wp2_with fail;generalize j8:World.alloc (World.alloc _ _) _=W0;obtain⟨l0,p8,n4,j4⟩:=Qap w1 _ _ _ _ W0 j8;have e0:Bld w1.heap.size (w1.heap.size+1) [] W0:=.inl ⟨Nat.le_succ _,.slice none 0 0,j4,World.ownsRowF_of (eI _ _ _ _),by simp[Value.ownBlock]⟩;have a4:=Qb8 34 e0 (by simp) (by omega);have d7:=hY a4;have o5:=hY l0;have n6:=hY n4;clear j8 e0 a4 l0 j4;refine⟨trivial,?_⟩;refine(eC.2 d7.o).mono ?_;rintro e w2 ⟨rfl,c1,g4,f2⟩;have g3:=QK.of g4 f2;have d8:QI w1 [] w2:=⟨c1,⟨none,f2 _ _ n6.o (by simp) (λc fz e=>by cases e),λM hM=>by cases hM⟩,QK.old (fx o5.o) g3⟩;have q4:w1.heap.size+1<w2.heap.size:=c1.lt;have l3:=j9.o.nw d8.old;have k2:=hY d8;have n7:=hY l3;clear c1 g4 f2 g3 d8 l3;gi_wp2_with fail;refine⟨trivial,?_⟩;refine(eC.2 (QpP w2 s)).mono ?_;rintro e w3 ⟨rfl,f5,f4⟩;have g5:=k2.o.nw (fx f5);have i7:=n7.o.nw (fx f5);have p2:=f5.size;have p7:=f4.lt;have l6:=i7.lib.big;have d3:=j9.o.lib.big;have l5:=hY (QpQ (w0:=w3) f4 i7.dec l6 (by omega));have l2:=hY g5;have o4:=hY f4;clear f5 g5 i7 f4;gi_wp2_with fail;refine Qhn (gf:=247) (lb:=#[.pointer (some ⟨w2,0,none⟩)]) rfl (eO func247 (by kernel_rfl) rfl) l5.o (Agree.refl _) (an _)
    (λb hb=>by rcases hb with rfl|hb<;>omega) (λ_=>rfl) (λc7 W=>QI w1 c7 W/\Blk W w2.heap.size 9 #[.string s]) (λ_ _ _=>False)
    (λh k hl q6=>⟨h.1.turn k (by omega) hl,k.blk h.2 (by omega)⟩) (λh _ _ _=>h) (λW hW hz=>⟨l2.o.nw (fx hW),o4.o.ext hW⟩) ?round ?done ?stop
   case stop=>
    rintro D c c7 W hD p9 hX j2;exact hX.elim
   case round=>
    rintro c7 x q0 W1 hI q5 c6 hG;have g0:x∈QbA s:=am hG;have g8:=(QdV g0).1;have p3:c7.length<s.size:=by
     have h1:=(ah.1 hG).1;have h2:=QcD s s.size 0;unfold QbA at h1;omega
    have i2:=Qcq c7;have q2:(Lib.byteCells (34::Qbf c7)).length<=60000001:=by simp[Lib.byteCells];omega
    have i1:=hY (And.intro (hI.1.nw c6) (c6.blk hI.2));have p5:=c6.size;clear hI hG g0 c6 i2;obtain⟨px,r⟩:=x;dsimp only at g8;gi_wp2_with fail;refine⟨fD _ _,λW3 k3 k7 k5 l1=>?_⟩;have Y:=hY (And.intro (i1.o.1.turn k3 (by omega) k7) (k3.blk i1.o.2 (by omega)));have f1:=hY k5;have d4:=hY l1;have q3:=k3.size;have p6:=Y.o.1.old.size;clear k3 k7 i1 k5 l1;gi_wp2_with fail;refine⟨trivial,?_⟩;refine(Qax (Qnq W3 r)).mono ?_;rintro e w4 ⟨rfl,rfl⟩;obtain⟨mb,k1,j6⟩:=Y.o.1.Qq0;have c9:=hY k1;have b6:=hY j6;clear k1 j6;cases f3:Qb1 (r:Int)with
    | true=>
      have R:=Qho (r:Int) (by omega) (by omega) Y.o.1.bld (by omega) (by omega);have b3:=hY R;have b8:=hY f3;clear R f3;gi_wp2_with fail;refine⟨trivial,?_⟩;refine(Qax b3.o).mono ?_;rintro e w5 ⟨rfl,j7,f8,e4⟩;have g9:=QK.of f8 e4;have a1:=hY (Y.o.1.next (x:=(px,r)) Y.o.2 (by omega) d4.o (by omega) f1.o d3 g9 (by rw[Qk4 b8.o];exact j7) (e4 _ _ c9.o (by simp) λc fz e=>by cases e) (λM hM=>⟨(b6.o M hM).1,(b6.o M hM).2.1,g9.Qq0 (b6.o M hM).2.2 (b6.o M hM).1 (b6.o M hM).2.1⟩));clear j7 f8 e4 g9;gi_wp2_with fail;exact a1.o
    | false=>
      have b8:=hY f3;have n8:w4.cell? ⟨w1,0,none⟩=some (.map mb):=c9.o.cell 0;have l8:=c9.o.lt;have l4:=c9.o.frozen 0;clear f3;rcases mb with _|M
      ·have f7:=QqZ w4
       have g6:=hY f7;clear f7;gi_wp2_with fail;refine⟨trivial,?_⟩;refine(Qax g6.o).mono ?_;rintro e w5 ⟨rfl,f6,e3⟩;have b0:=f6.blk c9.o;have o8:w5.cell? ⟨w1,0,none⟩=some (.map none):=b0.cell 0;have o9:=b0.lt;have p1:=b0.frozen 0;clear n8 l4;gi_upto_region 12 with(fail);have c8:=hY (((Y.o.1.bld.nw f6).keep (x:=w1) ((fD (λi=>i=w1.heap.size) w5).set (p:=⟨w1,0,none⟩) (.inr rfl) (.map (some w4.heap.size))) (by omega) (λc fz e=>by have e2:=b0.symm.trans e;injection e2 with e2;injection e2 with _ e2;exact absurd e2 (by decide))));have b5:=hY ((QK.nw (B:=w1) f6).trans (QK.set w5 (.map (some w4.heap.size))));have Z:=hY (b0.Qdz 0 (.map (some w4.heap.size)));have c0:=hY (e3.set (p:=⟨w1,0,none⟩) (by show w4.heap.size≠w1.heap.size;omega) (.map (some w4.heap.size)));obtain⟨M,hM⟩:∃M,M=w4.heap.size:=⟨_,rfl⟩;have U:=hY (show M≠w1.heap.size/\M≠w1.heap.size+1 by omega);have p4:=Y.o.1.bld.lt;rw[<-hM]at c8 b5 Z c0 ⊢;generalize World.setCell w5 _ _=W at *;clear hM f6 e3 b0 o8 o9 p1 l8 g6;have j5:=hY (Lib.OthersKept.refl 5 (some (w1.heap.size+1)) W);have b4:=QgU c0.o r g8;have cL:W.cell? ⟨w1,0,none⟩=some (.map (some M)):=Z.o.cell 0;have lL:=Z.o.lt;have n2:=b5.o.size;cases X:Qbr r with
       | some c=>
         rw[X]at b4;have c3:=hY X;have i5:=QgT X;have a4:=Qb8 92 c8.o (by omega) (by omega);have d7:=hY a4;clear a4 X;gi_wp2_with fail;refine⟨trivial,?_⟩;refine(Qax d7.o).mono ?_;rintro e w6 ⟨rfl,a2,z,I⟩;have i0:=z.size;have R:=Qho (c:Int) (by omega) (by omega) a2 (by rw[ak];simp only[List.length_cons,List.length_nil];omega) (by omega);have b3:=hY R;have c2:=hY (QK.of z I);have c4:=hY I;clear R a2 z I cL b4;gi_wp2_with fail;refine⟨trivial,?_⟩;refine(Qax b3.o).mono ?_;rintro e w7 ⟨rfl,a3,N,J⟩;have a9:=c2.o.trans (QK.of N J);have a1:=hY (Y.o.1.next (x:=(px,r)) (mb:=some M) Y.o.2 (by omega) d4.o (by omega) f1.o d3 (b5.o.trans a9) (by rw[QfJ b8.o c3.o];exact a3) ((c4.o.trans J) _ _ Z.o (by simp) λc fz e=>by cases e) (λM' a0=>by injection a0 with a0;subst a0;exact⟨U.o.1,U.o.2,a9.Qq0 c0.o U.o.1 U.o.2⟩));clear a3 N J a9;gi_wp2_with fail;exact a1.o
       | none=>
         rw[X]at b4;have e6:=QoA b8.o X;have l7:=Qtf e6;have c3:=hY X;have e8:=Qmn ⟨#[92,117,48,48]⟩ c8.o (by show _+4<=_;omega) (by omega);have i6:=hY e8;clear e8 X;gi_wp2_with fail;refine⟨trivial,?_⟩;refine(Qax i6.o).mono ?_;rintro e w6 ⟨⟨rs,rfl⟩,a2,z,I⟩;have i0:=z.size;have R:=Qb8 (QnQ (r/16)).toNat a2 (by rw[ak,show(Lib.strCells ⟨#[92,117,48,48]⟩).length=4 from rfl];omega) (by omega);have b3:=hY R;have c2:=hY (QK.of z I);have c4:=hY I;clear R a2 z I cL b4;gi_wp2_with fail;rw[Qis (r/16) (by omega)];refine⟨trivial,?_⟩;refine(Qax b3.o).mono ?_;rintro e w7 ⟨rfl,a3,N,J⟩;have p0:=N.size;have R:=Qb8 (QnQ (r%16)).toNat a3 (by rw[ak,ak,show(Lib.strCells ⟨#[92,117,48,48]⟩).length=4 from rfl];simp only[List.length_cons,List.length_nil];omega) (by omega);have d5:=hY R;have i3:=hY (c2.o.trans (QK.of N J));have j3:=hY (c4.o.trans J);clear R a3 N J;gi_wp2_with fail;rw[Qis (r%16) (by omega)];refine⟨trivial,?_⟩;refine(Qax d5.o).mono ?_;rintro e w8 ⟨rfl,d6,b7,a6⟩;have a5:=i3.o.trans (QK.of b7 a6);have a1:=hY (Y.o.1.next (x:=(px,r)) (mb:=some M) Y.o.2 (by omega) d4.o (by omega) f1.o d3 (b5.o.trans a5) (by rw[Qj1 b8.o c3.o];exact d6) ((j3.o.trans a6) _ _ Z.o (by simp) λc fz e=>by cases e) (λM' a0=>by injection a0 with a0;subst a0;exact⟨U.o.1,U.o.2,a5.Qq0 c0.o U.o.1 U.o.2⟩));clear d6 b7 a6 a5;gi_wp2_with fail;exact a1.o
      gi_upto_region 12 with(fail);have c8:=hY Y.o.1.bld;have b5:=hY (QK.refl w1.heap.size w4);have Z:=c9;have c0:=hY (b6.o M rfl).2.2;have U:=hY (And.intro (b6.o M rfl).1 (b6.o M rfl).2.1);have j5:=hY (Lib.OthersKept.refl 5 (some (w1.heap.size+1)) w4);have b4:=QgU c0.o r g8;have cL:w4.cell? ⟨w1,0,none⟩=some (.map (some M)):=Z.o.cell 0;have lL:=Z.o.lt;have n2:=b5.o.size;cases X:Qbr r with
      | some c=>
        rw[X]at b4;have c3:=hY X;have i5:=QgT X;have a4:=Qb8 92 c8.o (by omega) (by omega);have d7:=hY a4;clear a4 X;gi_wp2_with fail;refine⟨trivial,?_⟩;refine(Qax d7.o).mono ?_;rintro e w6 ⟨rfl,a2,z,I⟩;have i0:=z.size;have R:=Qho (c:Int) (by omega) (by omega) a2 (by rw[ak];simp only[List.length_cons,List.length_nil];omega) (by omega);have b3:=hY R;have c2:=hY (QK.of z I);have c4:=hY I;clear R a2 z I cL b4;gi_wp2_with fail;refine⟨trivial,?_⟩;refine(Qax b3.o).mono ?_;rintro e w7 ⟨rfl,a3,N,J⟩;have a9:=c2.o.trans (QK.of N J);have a1:=hY (Y.o.1.next (x:=(px,r)) (mb:=some M) Y.o.2 (by omega) d4.o (by omega) f1.o d3 (b5.o.trans a9) (by rw[QfJ b8.o c3.o];exact a3) ((c4.o.trans J) _ _ Z.o (by simp) λc fz e=>by cases e) (λM' a0=>by injection a0 with a0;subst a0;exact⟨U.o.1,U.o.2,a9.Qq0 c0.o U.o.1 U.o.2⟩));clear a3 N J a9;gi_wp2_with fail;exact a1.o
      | none=>
        rw[X]at b4;have e6:=QoA b8.o X;have l7:=Qtf e6;have c3:=hY X;have e8:=Qmn ⟨#[92,117,48,48]⟩ c8.o (by show _+4<=_;omega) (by omega);have i6:=hY e8;clear e8 X;gi_wp2_with fail;refine⟨trivial,?_⟩;refine(Qax i6.o).mono ?_;rintro e w6 ⟨⟨rs,rfl⟩,a2,z,I⟩;have i0:=z.size;have R:=Qb8 (QnQ (r/16)).toNat a2 (by rw[ak,show(Lib.strCells ⟨#[92,117,48,48]⟩).length=4 from rfl];omega) (by omega);have b3:=hY R;have c2:=hY (QK.of z I);have c4:=hY I;clear R a2 z I cL b4;gi_wp2_with fail;rw[Qis (r/16) (by omega)];refine⟨trivial,?_⟩;refine(Qax b3.o).mono ?_;rintro e w7 ⟨rfl,a3,N,J⟩;have p0:=N.size;have R:=Qb8 (QnQ (r%16)).toNat a3 (by rw[ak,ak,show(Lib.strCells ⟨#[92,117,48,48]⟩).length=4 from rfl];simp only[List.length_cons,List.length_nil];omega) (by omega);have d5:=hY R;have i3:=hY (c2.o.trans (QK.of N J));have j3:=hY (c4.o.trans J);clear R a3 N J;gi_wp2_with fail;rw[Qis (r%16) (by omega)];refine⟨trivial,?_⟩;refine(Qax d5.o).mono ?_;rintro e w8 ⟨rfl,d6,b7,a6⟩;have a5:=i3.o.trans (QK.of b7 a6);have a1:=hY (Y.o.1.next (x:=(px,r)) (mb:=some M) Y.o.2 (by omega) d4.o (by omega) f1.o d3 (b5.o.trans a5) (by rw[Qj1 b8.o c3.o];exact d6) ((j3.o.trans a6) _ _ Z.o (by simp) λc fz e=>by cases e) (λM' a0=>by injection a0 with a0;subst a0;exact⟨U.o.1,U.o.2,a5.Qq0 c0.o U.o.1 U.o.2⟩));clear d6 b7 a6 a5;gi_wp2_with fail;exact a1.o
   rintro D xs W hD hS ⟨hI,-⟩ j2;have i8:xs=QbA s:=hS;have i2:=Qcq xs;have n9:xs.length<=s.size:=by rw[i8];exact QcD s s.size 0
   have a4:=Qb8 34 hI.bld (by simp[Lib.byteCells];omega) hI.old.size;have k9:=hY a4;have HI:=hY hI;have o1:=hY j2;have o6:=hY i8;have e7:=hY hD;clear hS i2 n9 a4 hI j2 i8 hD;gi_wp2_with fail;refine⟨trivial,?_⟩;refine(eC.2 k9.o).mono ?_;rintro e w6 ⟨rfl,a2,z,I⟩;have j1:=QK.of z I;have f9:Bld w1.heap.size (w1.heap.size+1) (Lib.byteCells (Qb6 s)) w6:=by
    have e1:Lib.byteCells (Qb6 s)=Lib.byteCells (34::Qbf xs)++[.int .u8 34]:=by
     rw[Qb6,<-o6.o,byteCells_snoc];rfl
    rw[e1];exact a2
   have g7:=QK.old HI.o.old j1;have k0:w6.heap[D]? = some (.deferred (some [])):=j1.others D _ o1.o (by have:=e7.o;omega) (by have:=e7.o;omega) (λc fz e=>by cases e);have o7:=hY (Qn9 f9 g7.size);have o0:=hY g7;have l9:=hY k0;clear a2 z I j1 f9 g7 k0;gi_wp2_with fail;refine⟨trivial,?_⟩;refine(eC.2 o7.o).mono ?_;rintro e w7 ⟨rfl,N,J⟩;have j0:=QK.of N J;have i4:w7.heap[D]? = some (.deferred (some [])):=j0.others D _ l9.o (by have:=e7.o;omega) (by have:=e7.o;omega) (λc fz e=>by cases e);have k8:=QK.old o0.o j0;have o3:=hY ((k6.o.trans k8).comp (St.put (o':=.deferred none) i4 rfl rfl).sb λi hi e=>by have:=e7.o;have:=k6.o.size;omega);have o2:=hY i4;clear N J j0 i4 k8;gi_wp2_with fail;refine⟨by simp,.inl ⟨_,_,rfl,fu o2.o,?_⟩⟩;refine⟨.tuple #[.string ⟨(Qb6 s).toArray⟩,.int .i64 0],?_,by rw[HQ.o,i9.o],o3.o⟩;simp[results,results207,go_sem]
theorem Qj0(z:Qb9 w){s:ByteArray}(hs:s.size<=10000000):Calls prog 163 #[.string s] w λe w'=>e=.returned (.string (Qa6 s))/\Nw w w':=by
 have I:=Qkh z hs;have N:=hY I;clear I z hs;go_in;go_wp2_with fail;refine N.o.mono ?_;rintro e w1 ⟨rfl,D⟩;have J:=hY D;clear D;go_wp2_with fail;go_ret;exact⟨rfl,J.o⟩
end Go.Proofs.YtkjkafgnnoidpaaGreatDoor
namespace Go.Proofs.YtkjkafgnnoidpaaGreatDoor
open Go.Proofs.Tryz
open Go.RowKit Go.Maps Go.Shelf
mutual
def Qdy:Val->Nat
 |.mk k b i t l ok ov=>if k=2 then Qs8 b else if k=3 then(Lib.itoa i).length else if k=4 then(Qa6 t).size else if k=5 then 2+Qek l+(l.length-1)else if k=6 then 2+Qeq ok ov+(ov.length-1)else 4
def Qek:List Val->Nat
 |[]=>0
 |d::r=>Qdy d+Qek r
def Qeq:List ByteArray->List Val->Nat
 |_,[]=>0
 |ks,d::r=>(Qa6 (ks.headD ByteArray.empty)).size+1+Qdy d+Qeq ks.tail r
end
theorem QgQ:∀{l:List Val} {j:Nat} {d:Val},l[j]? = some d->Qek (l.take (j+1))=Qek (l.take j)+Qdy d
 |[],j,d,h=>by simp at h
 | x :: r,0,d,h=>by
   simp at h;subst h;simp[Qek]
 | x :: r,j+1,d,h=>by
   have z:r[j]? = some d:=by simpa using h
   rw[aV,aV,Qek,Qek,QgQ z,bH]
theorem Qiy(l:List Val)(j:Nat):Qek (l.take j)<=Qek l:=by
 induction l generalizing j with
 |nil=>simp
 | cons x r ih=>
   cases j with
   |zero=>simp[Qek]
   |succ j=>rw[aV,Qek,Qek];have:=ih j;omega
theorem QgR:∀{ks:List ByteArray} {l:List Val} {j:Nat} {d:Val} {k:ByteArray},l[j]? = some d->ks[j]? = some k->Qeq ks (l.take (j+1))=Qeq ks (l.take j)+((Qa6 k).size+1+Qdy d)
 |ks,[],j,d,k,h,_=>by simp at h
 |[],x::r,j,d,k,h,hk=>by simp at hk
 | y :: ks,x :: r,0,d,k,h,hk=>by
   simp at h hk;subst h hk;simp[Qeq]
 | y :: ks,x :: r,j+1,d,k,h,hk=>by
   have D:r[j]? = some d:=by simpa using h
   have z:ks[j]? = some k:=by simpa using hk
   rw[aV,aV,Qeq,Qeq,bZ,QgR D z];omega
theorem Qgg:∀(ks:List ByteArray) (l:List Val) (j:Nat),Qeq ks (l.take j)<=Qeq ks l
 |ks,[],j=>by simp
 |ks,x::r,0=>by simp[Qeq]
 | ks,x :: r,j+1=>by
   rw[aV,Qeq,Qeq];have:=Qgg ks.tail r j;omega
variable{w:World}{B:Nat}
theorem Qcz{a b:Value}{m:Nat}(s:ByteArray)(D:Blk w B 160 (wrC a b m))(N:m+s.size<=100000000) :
  Calls prog 158 #[.pointer (some ⟨B,0,none⟩),.slice (some ⟨w,0,none⟩) 1 1] (w.alloc (.cells #[.string s] 9)) λe w'=>(∃r,e=.returned r)/\Blk w' B 160 (wrC a b (m+s.size))/\Sb (λc=>c=B) w w':=by
 have z:Ext w (w.alloc (.cells #[.string s] 9)):=(fv w).alloc _ _;have J:=D.lt;have I:=Qiu (s:=⟨some ⟨w,0,none⟩,1⟩) (ks:=[s]) (D.ext z) (fH (fA w 9 #[.string s]) (by decide) rfl) (λi hi=>by subst hi;exact⟨by simp,by omega⟩) (by simp[Qhp];omega) (by simp);exact I.mono λe w' ⟨h1,h2,h3⟩=>⟨h1,by simpa[Qhp]using h2,(Nw.any (fx z) _).trans h3.sb⟩
theorem QqU{a b:Value}{m:Nat}(s t:ByteArray)(z:Blk w B 160 (wrC a b m))(N:m+s.size+t.size<=100000000) :
  Calls prog 158 #[.pointer (some ⟨B,0,none⟩),.slice (some ⟨w,0,none⟩) 2 2] (w.alloc (.cells #[.string s,.string t] 9)) λe w'=>(∃r,e=.returned r)/\Blk w' B 160 (wrC a b (m+s.size+t.size))/\Sb (λc=>c=B) w w':=by
 have D:Ext w (w.alloc (.cells #[.string s,.string t] 9)):=(fv w).alloc _ _;have J:=z.lt;have I:=Qiu (s:=⟨some ⟨w,0,none⟩,2⟩) (ks:=[s,t]) (z.ext D) (fH (fA w 9 #[.string s,.string t]) (by decide) rfl) (λi hi=>by subst hi;exact⟨by simp,by omega⟩) (by simp[Qhp];omega) (by simp);exact I.mono λe w' ⟨h1,h2,h3⟩=>⟨h1,by simpa[Qhp,Nat.add_assoc]using h2,(Nw.any (fx D) _).trans h3.sb⟩
variable{V:Nat}
theorem Qrj{a b:Value}{n:Int}{m:Nat}{c0 c1 c3 c4 c5:Value}(Z:Blk w V 28 #[c0,c1,.int .i64 n,c3,c4,c5])(U:Blk w B 160 (wrC a b m))(Y : -9223372036854775808<=n)(h1:n<=9223372036854775807)(hm:m+(Lib.itoa n).length<=100000000)(hL:Qb9 w) :
  Calls prog 160 #[.pointer (some ⟨B,0,none⟩),.pointer (some ⟨V,0,none⟩)] w λe w'=>(∃r,e=.returned r)/\Blk w' B 160 (wrC a b (m+(Lib.itoa n).length))/\Sb (λc=>c=B) w w':=by
 have X:=hL.num w (G5.refl w) n Y h1;have c2:w.cell? ⟨V,2,none⟩=some (.int .i64 n):=Z.cell 2;have HF:=hY X;have HB:=hY U;have HM:=hY hm;clear X Z U hm Y h1 hL;go_in;go_wp2_with fail;refine HF.o.mono ?_;rintro e w1 ⟨rfl,z⟩;have N:=Qcz (w:=w1) ⟨(Lib.itoa n).toArray⟩ (z.blk HB.o) (by have:=HM.o;simpa[ByteArray.size]using this);rw[show(ByteArray.mk (Lib.itoa n).toArray).size=(Lib.itoa n).length by simp[ByteArray.size]]at N;have HJ:=hY N;have HN:=hY z;clear N z c2;go_wp2_with fail;refine HJ.o.mono ?_;rintro e w2 ⟨⟨r,rfl⟩,D,I⟩;have R:=hY D;have J:=hY ((HN.o.any _).trans I);clear D I;go_wp2_with fail;go_end0;exact⟨⟨_,rfl⟩,R.o,J.o⟩
theorem Qrk{a b:Value}{t:ByteArray}{m:Nat}{c0 c1 R c4 c5:Value}(hV:Blk w V 28 #[c0,c1,R,.string t,c4,c5])(U:Blk w B 160 (wrC a b m))(Z:t.size<=10000000)(hm:m+(Qa6 t).size<=100000000)(hL:Qb9 w) :
  Calls prog 162 #[.pointer (some ⟨B,0,none⟩),.pointer (some ⟨V,0,none⟩)] w λe w'=>(∃r,e=.returned r)/\Blk w' B 160 (wrC a b (m+(Qa6 t).size))/\Sb (λc=>c=B) w w':=by
 have X:=Qj0 hL Z;have R:w.cell? ⟨V,3,none⟩=some (.string t):=hV.cell 3;have HF:=hY X;have HB:=hY U;have HM:=hY hm;clear X hV U hm hL Z;go_in;go_wp2_with fail;refine HF.o.mono ?_;rintro e w1 ⟨rfl,z⟩;have Y:=Qcz (w:=w1) (Qa6 t) (z.blk HB.o) HM.o;have HJ:=hY Y;have HN:=hY z;clear Y z R;go_wp2_with fail;refine HJ.o.mono ?_;rintro e w2 ⟨⟨r,rfl⟩,D,I⟩;have N:=hY D;have J:=hY ((HN.o.any _).trans I);clear D I;go_wp2_with fail;go_end0;exact⟨⟨_,rfl⟩,N.o,J.o⟩
def fnO(k:Int):Nat:=if k=2 then 157 else if k=3 then 160 else if k=4 then 162 else if k=5 then 164 else if k=6 then 166 else 168
def bsO(k:Int)(V:Nat):Array Value:=if k=2\/k=3\/k=4\/k=5\/k=6 then#[.pointer (some ⟨V,0,none⟩)]else#[]
abbrev Qlj(d:Val)(sl so:Sl):Array Value:=#[.int .i64 d.kind,.bool d.b,.int .i64 d.i,.string d.t,.slice sl.a d.l.length sl.c,.slice so.a d.ok.length so.c]
theorem QkY(w:World)(d:Val)(sl so:Sl):Calls prog 115 #[Qbg d sl so] w λe w'=>e=.returned (.func (.func (fnO d.kind)) #[] (bsO d.kind w.heap.size))/\Ext w w'/\Blk w' w.heap.size 28 (Qlj d sl so):=by
 obtain⟨k,b,i,t,l,N,Z⟩:=d;show Calls _ _ #[.agg #[.int .i64 k,.bool b,.int .i64 i,.string t,.slice sl.a l.length sl.c,.slice so.a N.length so.c]] _ λe w'=>e=.returned (.func (.func (fnO k)) #[] (bsO k w.heap.size))/\Ext w w'/\Blk w' w.heap.size 28 #[.int .i64 k,.bool b,.int .i64 i,.string t,.slice sl.a l.length sl.c,.slice so.a N.length so.c]
 by_cases h2:k=2
 ·subst h2
  go_in;go_wp2_with fail;go_ret;exact⟨rfl,(fv w).alloc _ _,fA w _ _⟩
 by_cases D:k=3
 ·subst D
  go_in;go_wp2_with fail;go_ret;exact⟨rfl,(fv w).alloc _ _,fA w _ _⟩
 by_cases J:k=4
 ·subst J
  go_in;go_wp2_with fail;go_ret;exact⟨rfl,(fv w).alloc _ _,fA w _ _⟩
 by_cases I:k=5
 ·subst I
  go_in;go_wp2_with fail;go_ret;exact⟨rfl,(fv w).alloc _ _,fA w _ _⟩
 by_cases z:k=6
 ·subst z
  go_in;go_wp2_with fail;go_ret;exact⟨rfl,(fv w).alloc _ _,fA w _ _⟩
 have g2:(k==2)=false:=by simpa using h2
 have X:(k==3)=false:=by simpa using D
 have Y:(k==4)=false:=by simpa using J
 have g5:(k==5)=false:=by simpa using I
 have g6:(k==6)=false:=by simpa using z
 have R:fnO k=168:=by simp[fnO,h2,D,J,I,z]
 have U:bsO k w.heap.size=#[]:=by simp[bsO,h2,D,J,I,z]
 rw[R,U];clear h2 D J I z R U;go_in;go_wp2_with fail;go_ret;exact⟨rfl,(fv w).alloc _ _,fA w _ _⟩
mutual
def Qb4:Val->Nat
 |.mk k b i t l ok ov=>7+t.size+Qd4 l+QfR ok ov
def Qd4:List Val->Nat
 |[]=>0
 |d::r=>Qb4 d+Qd4 r
def QfR:List ByteArray->List Val->Nat
 |_,[]=>0
 |ks,d::r=>(ks.headD ByteArray.empty).size+2+Qb4 d+QfR ks.tail r
end
theorem Qid:∀{l:List Val} {j:Nat} {d:Val},l[j]? = some d->Qb4 d<=Qd4 l
 |[],j,d,h=>by simp at h
 |x::r,0,d,h=>by simp at h;subst h;rw[Qd4];omega
 |x::r,j+1,d,h=>by have:=Qid (l:=r) (j:=j) (by simpa using h);rw[Qd4];omega
theorem QdG:∀{ks:List ByteArray} {l:List Val} {j:Nat} {d:Val} {k:ByteArray},l[j]? = some d->ks[j]? = some k->Qb4 d+k.size<=QfR ks l
 |ks,[],j,d,k,h,_=>by simp at h
 |[],x::r,j,d,k,h,hk=>by simp at hk
 |y::ks,x::r,0,d,k,h,hk=>by simp at h hk;subst h hk;rw[QfR,cX];omega
 |y::ks,x::r,j+1,d,k,h,hk=>by have:=QdG (ks:=ks) (l:=r) (j:=j) (by simpa using h) (by simpa using hk);rw[QfR,bZ];omega
theorem Qfs(s:ByteArray):(Qa6 s).size<=6*s.size+2:=by
 unfold Qa6;split
 ·have:=Qnh s
  show(Qb6 s).toArray.size<=_;rw[br];exact this
 show 0<=_;omega
theorem QsH(x:Bool):Qs8 x<=5:=by rw[QsG];split<;>omega
mutual
theorem Qgh(F:Nat->Prop)(w:World):∀(d:Val) (sl so:Sl),RV w F d sl so->Qdy d+2<=6*Qb4 d
 | .mk k b i t l ok ov,sl,so,h=>by
   unfold Qdy Qb4;cases h with
   |mk bl fl bo fo cl co hl ho hov el rl ek eo ro bk bi bt nl no=>
   split
   .have:=QsH b;omega
   split
   ·have:=Lib.itoa_length_le i (by simp [Lit.wf,IntKind.min,IntKind.max,IntKind.signed,IntKind.bits] at bi;omega) (by simp [Lit.wf,IntKind.min,IntKind.max,IntKind.signed,IntKind.bits] at bi;omega)
    omega
   split
   .have:=Qfs t;omega
   split
   ·have:=QlR F w l cl (fun j d z=>rl j d z)
    omega
   split
   ·have:=QlS F w ok ov co (fun j d z=>ro j d z) hov
    omega
   omega
theorem QlR(F:Nat->Prop)(w:World):∀(l:List Val) (c:Nat->Sl × Sl),(∀j d,l[j]? = some d->RV w F d (c j).1 (c j).2)->Qek l+2*l.length<=6*Qd4 l
 |[],c,h=>by simp[Qek,Qd4]
 | d :: r,c,h=>by
   have h1:=Qgh F w d _ _ (h 0 d rfl);have h2:=QlR F w r (λj=>c (j+1)) (λj d z=>h (j+1) d (by simpa using z));rw[Qek,Qd4,av];omega
theorem QlS(F:Nat->Prop)(w:World):∀(ks:List ByteArray) (l:List Val) (c:Nat->Sl × Sl),(∀j d,l[j]? = some d->RV w F d (c j).1 (c j).2)->l.length=ks.length->Qeq ks l+2*l.length<=6*QfR ks l
 |ks,[],c,h,z=>by simp[Qeq,QfR]
 |[],d::r,c,h,z=>by cases z
 | k :: ks,d :: r,c,h,z=>by
   have h1:=Qgh F w d _ _ (h 0 d rfl);have h2:=QlS F w ks r (λj=>c (j+1)) (λj d D=>h (j+1) d (by simpa using D)) (by simpa using z);have I:=Qfs k;rw[Qeq,QfR,av,cX,bZ];omega
end
def QkE(j:Nat):ByteArray:=if j=0 then ByteArray.empty else⟨#[44]⟩
theorem Qi5(w:World)(j:Nat):Calls prog 165 #[.int .i64 (j:Int)] w λe w'=>e=.returned (.string (QkE j))/\w'=w:=by
 by_cases h:j=0
 ·subst h
  go_in;go_wp2_with fail;go_ret;exact⟨rfl,rfl⟩
 have D:((j:Int)==0)=false:=by simp;omega
 have z:QkE j=⟨#[44]⟩:=ef h;rw[z];clear z h;go_in;go_wp2_with fail;go_ret;exact⟨rfl,rfl⟩
theorem Qif(j:Nat):(QkE j).size=j -(j-1):=by
 unfold QkE;by_cases h:j=0
 .subst h;rfl
 rw[ef h];show 1=_;omega
def QrQ(B:Nat)(a b:Value)(n:Nat)(d:Val)(w:World)(e:Ending)(w':World):Prop:=
 (∃r,e=.returned r)/\Blk w' B 160 (wrC a b (n+Qdy d))/\Sb (λc=>c=B) w w'
def Qt9(P:Val->Prop):Prop:=∀(d:Val),P d->Qb4 d<=1100000->∀(w:World) (F:Nat->Prop) (V B:Nat) (sl so:Sl) (a b:Value) (n:Nat),Blk w V 28 (Qlj d sl so)->RV w F d sl so->(∀i,F i->i<w.heap.size/\i≠B)->V≠B->Blk w B 160 (wrC a b n)->n+Qdy d<=9000000->Qb9 w->6<=B->
 Calls prog (fnO d.kind) (#[.pointer (some ⟨B,0,none⟩)]++bsO d.kind V) w (QrQ B a b n d w)
theorem Qfk(k:Int):∀args w,(callFunc (fnO k) args).run prog w=.ok (.enter (fnO k) args) w:=by
 unfold fnO;split
 .exact eO func157 (by kernel_rfl) rfl
 split
 .exact eO func160 (by kernel_rfl) rfl
 split
 .exact eO func162 (by kernel_rfl) rfl
 split
 .exact eO func164 (by kernel_rfl) rfl
 split
 .exact eO func166 (by kernel_rfl) rfl
 exact eO func168 (by kernel_rfl) rfl
variable{F:Nat->Prop}{sl so:Sl}{n:Nat}
theorem Qrl{P:Val->Prop}(hI:Qt9 P){bo:Bool}{i:Int}{t:ByteArray}{l:List Val}{ok:List ByteArray}{ov:List Val}{a b:Value} 
  (hP:∀(j:Nat) (d:Val),l[j]? = some d->P d) (hc:Qd4 l<=1100000)
  (hV:Blk w V 28 #[.int .i64 5,.bool bo,.int .i64 i,.string t,.slice sl.a l.length sl.c,.slice so.a ok.length so.c]) (h:RV w F (.mk 5 bo i t l ok ov) sl so) (hF:∀i,F i->i<w/\i≠B) (d7:V≠B) (hB:Blk w B 160 (wrC a b n)) (hn:n+(2+Qek l+(l.length-1))<=9000000) (hL:Qb9 w) (h6:6<=B) :
  Calls prog 164 #[.pointer (some ⟨B,0,none⟩),.pointer (some ⟨V,0,none⟩)] w λe w'=>(∃r,e=.returned r)/\Blk w' B 160 (wrC a b (n+(2+Qek l+(l.length-1))))/\Sb (λc=>c=B) w w':=by
 cases h with
 |mk bl fl bo' fo cl co hl ho hov el rl ek eo ro bk bi bt nl no=>
 have b4:=Qcz (w:=w) ⟨#[91]⟩ hB (by show n+1<=_;omega);have b7:=λW j=>Qi5 W j
 have b6:=hY b4;have f1:=hY b7;have HV:=hY hV;have HF:=hY hF;have e6:=hY el;have d3:=hY rl;have a4:=hY hl;have e3:=hY hL;have HI:=hY hI;have HP:=hY hP;have HC:=hY hc;have HN:=hY hn;have f8:=hV.lt;have f9:=hB.lt;have f7:l.length<=2000000000000:=by omega
 clear b4 b7 hV hB hF el rl ek eo ro hl ho hov hL hI hP hc hn bk bi bt nl no;go_in;go_wp2_with fail;refine b6.o.mono ?_;rintro e w1 ⟨⟨r,rfl⟩,a5,Z⟩;obtain⟨q0,q1,q2,q3,q4,q5⟩:=(Z.blk HV.o d7).c6;have d8:=hY a5;have d4:=hY Z;clear a5 Z b6;go_wp2_with fail;go_loopw[11] (λq wr=>∃(j:Nat),q=.int .i64 j/\j<=l.length/\Blk wr B 160 (wrC a b (n+1+(Qek (l.take j)+(j-1))))/\Sb (λc=>c=B) w wr) (λq _=>l.length -(intOf q).toNat)
 case atStart=>exact⟨0,rfl,aw _,d8.o,d4.o⟩
 obtain⟨j,rfl,hj,hb,hs⟩:=hrel;by_cases h1:j<l.length
 ·have g1:(j:Int)<(l.length:Int):=by omega
  have f5:decide ((j:Int)<(l.length:Int))=true:=ej g1;obtain⟨d,hd⟩:∃d,l[j]? = some d:=⟨_,ac h1⟩;obtain⟨c3,f4,d5⟩:=a4.o.eq (by omega);have a6:=HF.o bl (a4.o.fits (by omega));have c9:Agree F w wr:=λx hx=>hs.block x (HF.o x hx).1 (HF.o x hx).2
  have e7:=a4.o.fits (show 0<l.length by omega);obtain⟨sa,sc⟩:=sl;dsimp only at c3 f4 d5;subst c3;obtain⟨v0,v1,v2,v3,v4,v5⟩:=(e6.o j d hd).agree c9 e7;have lb:bl<wr:=ab a6.1 hs.size;have hcut:=Qiy l (j+1);have c7:=QgQ hd;have U:=Qif j;have N:n+1+(Qek (l.take j)+(j-1))+(QkE j).size+Qdy d<=9000000:=by have:=HN.o;omega
  have c8:Qb4 d<=1100000:=al (Qid hd) HC.o;have HD:=hY hd;have HB:=hY hb;have HS:=hY hs;have c1:=hY N;have e8:=hY c7;have d6:=hY U;have e1:=hY c8;have f2:=hY (HP.o j d hd);have f6:=Qfk d.kind;clear hb hs c9 a6 hcut c7 U N c8 hd;go_wp2_with fail;refine(f1.o _ j).mono ?_;rintro e w2 ⟨rfl,a3⟩;have Y:Ext wr w2:=by rw[a3];exact(fv wr).alloc _ _
  have d0:Blk w2 wr.heap.size 28 (Qlj d (cl j).1 (cl j).2):=by rw[a3];exact fA wr 28 _
  clear a3;have b0:=Qcz (w:=w2) (QkE j) (HB.o.ext Y) (by have:=c1.o;omega);have c2:=hY b0;have e4:=hY d0;have f0:=hY (HS.o.ext Y);have g0:=HB.o.lt;clear Y d0 b0;go_wp2_with fail;refine c2.o.mono ?_;rintro e w3 ⟨⟨r2,rfl⟩,I,z⟩;have b5:=z.blk e4.o (by omega);obtain⟨u0,u1,u2,u3,u4,u5⟩:=b5.c6;have R:=hY I;have a1:=hY (f0.o.trans z);clear I z b5 c2 v0 v1 v2 v3 v4 v5;go_wp2_with fail;refine(QkY _ d (cl j).1 (cl j).2).mono ?_;rintro e w4 ⟨rfl,a0,c0⟩;have D:=a1.o.ext a0;have X:Agree F w w4:=λx hx=>D.block x (HF.o x hx).1 (HF.o x hx).2
  have J:=HI.o d f2.o e1.o w4 F w3.heap.size B (cl j).1 (cl j).2 a b (n+1+(Qek (l.take j)+(j-1))+(QkE j).size) c0 ((d3.o j d HD.o).agree X) (λi hi=>⟨Nat.lt_of_lt_of_le (HF.o i hi).1 D.size,(HF.o i hi).2⟩) (by have:=R.o.lt;omega) (R.o.ext a0) c1.o
   (e3.o.sb D λc hc e=>by have e:c=B:=e;omega) h6
  have a2:=hY J;have e2:=hY D;clear a0 c0 D X J u0 u1 u2 u3 u4 u5;go_wp2_with fail;refine a2.o.mono ?_;rintro e w5 ⟨⟨r3,rfl⟩,a9,c4⟩;have f3:=hY a9;have e0:=hY (e2.o.trans c4);clear a9 c4;go_wp2_with fail;go_roundw
  case rel=>exact⟨j+1,by go_num,h1,by rw[show n+1+(Qek (l.take (j+1))+(j+1-1))=n+1+(Qek (l.take j)+(j-1))+(QkE j).size+Qdy d by rw[e8.o,d6.o];omega];exact f3.o,e0.o⟩
  simp[intOf];omega
 obtain rfl:j=l.length:=by omega
 rw[aM]at hb;have b3:=Qcz (w:=wr) ⟨#[93]⟩ hb (by have:=HN.o;show _+1<=_;omega);have b8:=hY b3;have HS:=hY hs;have g1:decide ((l.length:Int)<(l.length:Int))=false:=eh (by omega);clear b3 hb hs;go_wp2_with fail;refine b8.o.mono ?_;rintro e w3 ⟨⟨r2,rfl⟩,I,z⟩;have R:=hY I;have a1:=hY (HS.o.trans z);clear I z b8;go_wp2_with fail;go_end0;exact⟨⟨_,rfl⟩,by rw[show n+(2+Qek l+(l.length-1))=n+1+(Qek l+(l.length-1))+1 by omega];exact R.o,a1.o⟩
attribute [local go_sem] Oper.semAt_some
theorem Qrd(w:World)(a:Option Addr)(n c:Nat):Calls prog 167 #[.slice a n c] w λe w'=>e=.returned (.func (.func 208) #[] #[.pointer (some ⟨w,0,none⟩)])/\Ext w w'/\Blk w' w.heap.size 26 #[.slice a n c]:=by
 go_in;go_wp2_with fail;go_ret;exact⟨rfl,(fv w).alloc _ _,fA w _ _⟩
structure ME where
 t:ByteArray
 d:Val
 V:Nat
 sl:Sl
 so:Sl
abbrev QuC(x:ME):Array Value:=#[.string x.t,.func (.func (fnO x.d.kind)) #[] (bsO x.d.kind x.V)]
def Qtc(ok:List ByteArray)(xs:List ME):Prop:=xs.length=ok.length
structure MG(F:Nat->Prop)(ok:List ByteArray)(ov:List Val)(pre:List ME)(x:ME)(W0 W1:World):Prop where
 ex:∃k,ok[pre.length]? = some k/\ov[pre.length]? = some x.d/\x.t=QkE pre.length++Qa6 k
 blk:Blk W1 x.V 28 (Qlj x.d x.sl x.so)
 val:RV W1 F x.d x.sl x.so
 new:W0.heap.size<=x.V
structure MS(J:List ME->World->Prop)(K:Nat->Prop)(W:World)(j:Nat)(pre:List ME)(Wj wr:World):Prop where
 inv:J pre Wj
 nw:Nw Wj wr
 len:pre.length=j
 ag:Agree K W wr
 sz:W.heap.size<=wr.heap.size
structure MOk(w:World)(F:Nat->Prop)(so:Sl)(ok:List ByteArray)(ov:List Val):Prop where
 ex:∃(bo fo:Nat) (co:Nat->Sl × Sl),QeM F so ok.length bo fo/\RO w F bo fo ok ov co
 len:ov.length=ok.length
 few:∀k∈ok,k.size<=10000000
variable{w':World}
theorem MOk.agree{ok:List ByteArray}{ov:List Val}(h:MOk w F so ok ov)(N:Agree F w w'):MOk w' F so ok ov:=by
 obtain⟨⟨D,J,I,h1,h2⟩,z,R⟩:=h;exact⟨⟨D,J,I,h1,h2.agree N z (λh=>h1.fits h)⟩,z,R⟩
variable{j:Nat}
theorem MOk.at{ok:List ByteArray}{ov:List Val}(h:MOk w F so ok ov)(R:j<ok.length) :
  ∃(b o:Nat) (k:ByteArray) (d:Val) (D z:Sl),so.a=some ⟨b,o,none⟩/\F b/\ok.length<=so.c/\so.c<=maxLen/\ok[j]? = some k/\ov[j]? = some d/\w.cell? ⟨b,o+j*7,none⟩=some (.string k)/\QaL w b (o+j*7+1) d D z/\RV w F d D z/\k.size<=10000000:=by
 obtain⟨⟨b,o,Y,h1,h2⟩,Z,X⟩:=h;obtain⟨J,N,U⟩:=h1.eq (by omega);have I:=ac R;have hd:=ac (l:=ov) (i:=j) (by omega);exact⟨b,o,_,_,_,_,J,h1.fits (by omega),N,U,I,hd,(h2.keys j _ I).1,h2.cells j _ hd,h2.reads j _ hd,X _ (am I)⟩
theorem Qur{J:List ME->World->Prop}{F K:Nat->Prop}{ok:List ByteArray}{ov:List Val}{W D wr z w5:World}{pre:List ME}{k:ByteArray}{d:Val}(h:MS J K W j pre D wr)(I:ok[j]? = some k/\ov[j]? = some d)(U:Blk w5 z.heap.size 28 (Qlj d sl so))(X:RV wr F d sl so)(R:Nw wr w5)(hF:∀b,F b->b<wr)(N:wr.heap.size<=z.heap.size) :
  MG F ok ov pre ⟨QkE j++Qa6 k,d,z.heap.size,sl,so⟩ D w5:=
 ⟨⟨k,by rw[h.len];exact I.1,by rw[h.len];exact I.2,by rw[h.len]⟩,U,X.agree (R.agree hF),al h.nw.size N⟩
def QuN(J Jx:List ME->World->Prop)(K:Nat->Prop)(W:World)(j:Nat)(xs:List ME)(bb:Bool)(w':World):Prop:=(bb=true/\MS J K W (j+1) xs w' w')\/(bb=false/\Jx xs w')
theorem QsK{J Jx:List ME->World->Prop}{K:Nat->Prop}{W D wr w5:World}{pre:List ME}{x:ME}(h:MS J K W j pre D wr)(k:Nw wr w5)(I:∀b,K b->b<W)(e:Ending)(w':World)
  (N:(e=.returned (.bool true)/\J (pre++[x]) w'/\Agree K w5 w'/\w5.heap.size<=w'.heap.size)\/(e=.returned (.bool false)/\Jx (pre++[x]) w')):∃z:Bool,e=.returned (.bool z)/\Yd (QuN J Jx K W j (pre++[x]) z w'):=by
 rcases N with⟨rfl,h1,h2,R⟩ |⟨rfl,h1⟩
 .exact ⟨true,rfl,hY (.inl ⟨rfl,h1,fD _ _,by simp[h.len],(h.ag.trans (k.agree λb U=>ab (I b U) h.sz)).trans h2,al (al h.sz k.size) R⟩)⟩
 exact⟨false,rfl,hY (.inr ⟨rfl,h1⟩)⟩
variable{w0:World}
theorem Qre{D:Nat}{ok:List ByteArray}{ov:List Val}(hB:Blk w0 D 26 #[.slice so.a ok.length so.c])(hM:MOk w0 F so ok ov)(hF:∀b,F b->b<w0)(hL:Qb9 w0)(hn:ok.length<=100000000) :
  Qt8 prog 208 #[.pointer (some ⟨D,0,none⟩)] QuC (λb=>F b\/b=D\/b<6) (MG F ok ov) (Qtc ok) (λ_=>True) w0:=by
 intro l J Jx W b5 hA e8 hJ;have h6:=hL.lib.big;have d5:=hB.lt;have c1:∀b,(F b\/b=D\/b<6)->b<W:=λb X=>by
  rcases X with X|rfl|X
  .have:=hF b X;omega
  .omega
  omega
 have a4:∀W1,Agree (λb=>F b\/b=D\/b<6) W W1->W.heap.size<=W1.heap.size->Blk W1 D 26 #[.slice so.a ok.length so.c]/\MOk W1 F so ok ov/\Qb9 W1:=λW1 hW hz=>by
  have ha:Agree (λb=>F b\/b=D\/b<6) w0 W1:=hA.trans hW;refine⟨(ha D (.inr (.inl rfl))).trans hB,hM.agree (ha.mono λb X=>.inl X),?_⟩;have hg:G5 w0 W1:=λb X=>ha b (.inr (.inr X))
  exact⟨⟨by omega,λW2 z=>hL.lib.fmt W2 (hg.trans z),λW2 z=>hL.lib.val W2 (hg.trans z)⟩,λW2 z=>hL.dec W2 (hg.trans z),λW2 z=>hL.num W2 (hg.trans z)⟩
 have e4:=hY b5;have e7:=hY a4;have HJ:=hY hJ;have a1:=hY c1;have f5:(ok.length:Int)<=100000000:=by omega
 have c0:W.cell? ⟨D,0,none⟩=some (.slice so.a ok.length so.c):=(a4 W (Agree.refl _) (an _)).1.cell 0;have lB:D<W.heap.size:=by omega
 clear b5 hA hJ hB a4 hL h6 d5 e8 c1 hM hF;show Calls _ _ #[.func (.yield l) #[] #[],.pointer (some ⟨D,0,none⟩)] W _;refine(eC (n:=5)).1 ?_;refine callsIn_of_wp func208 rfl trivial ?_ rfl;simp only[ntmps208,List.size_toArray,List.length_cons,List.length_nil,Nat.reduceAdd,Nat.reduceSub,Array.replicate_succ,Array.replicate_zero,List.push_toArray,List.append_toArray,List.nil_append,List.cons_append];gi_wp2_with fail;clear c0;gi_loopw [7] (λv wr=>∃(j:Nat) (R:List ME) (Wj:World),v=.int .i64 (j:Int)/\j<=ok.length/\Yd (MS J (λb=>F b\/b=D\/b<6) W j R Wj wr)) (λv _=>ok.length -(intOf v).toNat)
 case atStart=>exact⟨0,[],W,rfl,aw _,hY ⟨HJ.o,fD _ _,rfl,Agree.refl _,an _⟩⟩
 obtain⟨j,R,Wj,rfl,hj,U⟩:=hrel;obtain⟨-,hm,a5⟩:=e7.o wr U.o.ag U.o.sz;by_cases c2:j<ok.length
 ·obtain ⟨bo,fo,k,d,N,I,c3,e6,f0,d4,hk,hd,kc,c8,b6,d0⟩:=hm.at c2
  have f4:bo<wr:=ab (a1.o bo (.inl e6)) U.o.sz;obtain⟨sa,sc⟩:=so;dsimp only at c3 f0 d4;subst c3;obtain⟨v0,v1,v2,v3,v4,v5⟩:=c8.m;have g1:(j:Int)<(ok.length:Int):=by omega
  have f3:decide ((j:Int)<(ok.length:Int))=true:=ej g1;have d6:=hY (λ(b:Nat) (X:F b)=>ab (a1.o b (.inl X)) U.o.sz);have d8:=hY a5;have e1:=hY b6;have HK:=hY (And.intro hk hd);have c4:=hY d0;clear hm a5 c8 b6 hk hd d0;gi_wp2_with fail;generalize a3:wr.alloc _=W3;have a6:Ext wr W3:=by rw[<-a3];exact(fv wr).alloc _ _
  have Y:Blk W3 wr.heap.size 121 #[.string k,.int .i64 d.kind,.bool d.b,.int .i64 d.i,.string d.t,.slice N.a d.l.length N.c,.slice I.a d.ok.length I.c]:=by rw[<-a3];exact fA wr _ _
  obtain⟨q0,q1,q2,q3,q4,q5,q6⟩:=Y.c7;have lq:=Y.lt;have hq:Calls prog 163 #[.string k] W3.drew λe w'=>e=.returned (.string (Qa6 k))/\Nw W3.drew w':=Qj0 (d8.o.nw (fx (a6.drew))) c4.o
  have e0:=Qif j;have e2:=Qfs k;have b7:=c4.o;have b3:∀W:World,(Op.stringOp .add (QkE j) (Qa6 k)).run prog W=.ok (.string (QkE j++Qa6 k)) W:=λW=>run_string_add_sum (w:=W) _ _ (by omega)
  clear e0 e2 b7;have HQ:=hY hq;have a2:=hY Y;have b8:=hY a6;clear a3 hq Y a6 v0 v1 v2 v3 v4 v5 kc;gi_region_with (first
   |(refine⟨trivial,?_⟩;refine(eC.2 (Qi5 _ j)).mono ?_;rintro e w4 ⟨rfl,rfl⟩)
   |(refine⟨trivial,?_⟩;refine(eC.2 HQ.o).mono ?_;rintro e w4 ⟨rfl,Z⟩;have b0:=hY Z;obtain⟨p0,p1,p2,p3,p4,p5,p6⟩:=(Z.blk (show Blk W3.drew _ _ _ from a2.o)).c7;have lp:=(Z.blk (show Blk W3.drew _ _ _ from a2.o)).lt;clear Z)
   |(refine⟨trivial,?_⟩;refine(eC.2 (QkY _ d N I)).mono ?_;rintro e w5 ⟨rfl,c9,b4⟩;have a0:=((fx b8.o.drew).trans b0.o).trans (fx c9);have hy:=e4.o R ⟨QkE j++Qa6 k,d,w4.heap.size,N,I⟩ Wj w5 U.o.inv (U.o.nw.trans a0) (Qur U.o HK.o b4 e1.o a0 d6.o (al b8.o.size b0.o.size));have HH:=hY (QsK (Jx:=Jx) (x:=⟨QkE j++Qa6 k,d,w4.heap.size,N,I⟩) U.o a0 a1.o);obtain⟨fn,f1,d3,f2,hy,hR⟩:=hy;have HR:=hY hR;dsimp only[QuC]at hy;clear hR c9 b4 a0)
   |(refine HR.o.mono ?_;intro e w6 h6;obtain⟨bb,rfl,H7⟩:=HH.o e w6 h6;clear h6))
  all_goals
   clear p0 p1 p2 p3 p4 p5 p6 q0 q1 q2 q3 q4 q5 q6 b3 HQ a2 hy HR HH;rcases H7.o with⟨rfl,a9⟩ |⟨rfl,c6⟩
   ·have e3:=hY a9
    clear a9 H7;gi_wp2_with fail;go_roundw
    case rel=>exact⟨j+1,_,w6,by go_num,c2,e3⟩
    simp[intOf];omega
   have d7:=hY c6;clear c6 H7;gi_wp2_with fail;refine eD (v:=.tuple #[]) (by simp[results,results208,go_sem]) rfl ?_;exact⟨⟨_,rfl⟩,.inr ⟨_,w6,trivial,d7.o,fD _ _⟩⟩
 obtain rfl:j=ok.length:=by omega
 have g1:decide ((ok.length:Int)<(ok.length:Int))=false:=eh (by omega);have HE:=hY (show Qtc ok R from U.o.len);clear hm a5;gi_wp2_with fail;go_end0;exact⟨⟨_,rfl⟩,.inl ⟨R,Wj,HE.o,U.o.inv,U.o.nw⟩⟩
end Go.Proofs.YtkjkafgnnoidpaaGreatDoor
