/- What the theorem needs of the texts OvLay, FitI, FitL, KeysMay, OddV, MayV, DeepV, OwnS, OvLay2, LaidO, Bldr, Quo1, Runes, RangeP, RunS, LetR, Quo: no condition of its own. -/
import Derived.Shelf.SlIter.Nil
import Derived.Shelf.SortM.Plain
import Derived.Shelf.SortM.SortNone
import Derived.Ground.GgzProg
import Derived.Ground.SlgmProg
import Derived.Ground.NamesProg
import Derived.Shelf.Strings.Prefix
import Derived.Shelf.Strconv.Itoa4
import Derived.Shelf.Unicode.ValidAny
import Derived.Shelf.Small.Wraps
import Derived.Laws.IdiomStrings
import Derived.WalkArith
import Derived.Shelf.Strings.Builder1
import Derived.Shelf.Strings.BuilderRune
import Derived.Shelf.Unicode.DecodeAny
import Derived.Lib.LaidU8
import Derived.Lib.LaidTab
import Derived.Lib.ItoaLen
import GoSem.PinnedTables
import Derived.KernelRfl
import Derived.Test.YtkhdiakpdafcdaaGreatDoorRows
import Derived.Shelf.Strings.BuilderK
import Derived.Lib.MapLaws
import Derived.Lib.TrimUEq
import Derived.Lib.RuneBytes
import Derived.Shelf.Unicode.DecodeLastEight
import Derived.Shelf.Strings.MapAny
import Derived.Sort.LoopGhostIn
import Derived.Maps.OwnIn
import Derived.Maps.OwnOps
import Derived.Maps.Views
import Derived.Test.YtkhdiakpdafcdaaGreatDoorPna
import Derived.Test.YtkhdiakpdafcdaaGreatDoorPnc
import Derived.Test.YtkhdiakpdafcdaaGreatDoorPnd
import Derived.Test.YtkhdiakpdafcdaaGreatDoorPne
import Derived.Test.YtkhdiakpdafcdaaGreatDoorPnf
import Derived.Test.YtkhdiakpdafcdaaGreatDoorPng
set_option maxRecDepth 100000
set_option maxHeartbeats 4000000
namespace Go.Proofs.YtkhdiakpdafcdaaGreatDoor
open Go.RowKit Go.Maps Go.Sort Go.Shelf
set_option linter.unusedVariables false
def Tryz.keysO_ren:Go.Shelf.Ren:=⟨fun | 7=>52 | 10=>89 | n=>n,fun | 23=>80 | 26=>9 | 3=>89 | 28=>96 | 0=>0 | 27=>95 | 33=>47 | 4=>4 | n=>n,fun | n=>n⟩
theorem Tryz.keysO:Go.Proofs.SlLaysZ.n7 Tryz.prog Tryz.keysO_ren:={
 mixed:=by kernel_rfl
 f7:=⟨Tryz.f52.name,by decide,Tryz.func52.trans (congrArg some (by kernel_rfl))⟩
 f10:=⟨Tryz.f89.name,by decide,Tryz.func89.trans (congrArg some (by kernel_rfl))⟩
 t0:=Tryz.underlying0
 a0:=Tryz.isAgg0
 z0:=Tryz.sizeOf0
 v0:=Tryz.zeroValue0
 t4:=Tryz.underlying4
 a4:=Tryz.isAgg4
 z4:=Tryz.sizeOf4
 v4:=Tryz.zeroValue4
 t23:=Tryz.underlying80
 a23:=Tryz.isAgg80
 z23:=Tryz.sizeOf80
 v23:=Tryz.zeroValue80
 t26:=Tryz.underlying9
 a26:=Tryz.isAgg9
 z26:=Tryz.sizeOf9
 v26:=Tryz.zeroValue9
 t27:=Tryz.underlying95
 a27:=Tryz.isAgg95
 z27:=Tryz.sizeOf95
 v27:=Tryz.zeroValue95
 t28:=Tryz.underlying96
 a28:=Tryz.isAgg96
 z28:=Tryz.sizeOf96
 v28:=Tryz.zeroValue96
 t33:=Tryz.underlying47
 a33:=Tryz.isAgg47
 z33:=Tryz.sizeOf47
 v33:=Tryz.zeroValue47 }
def Tryz.sortedO_ren:Go.Shelf.Ren:=⟨fun | 6=>51 | 8=>87 | 9=>88 | 11=>127 | 13=>129 | 12=>128 | 23=>187 | 24=>188 | 14=>178 | 15=>179 | 16=>180 | 17=>181 | 18=>182 | 19=>183 | 20=>184 | 21=>185 | 22=>186 | 25=>216 | 26=>217 | 27=>218 | 28=>219 | 29=>220 | 30=>221 | 31=>244 | n=>n,fun | 26=>9 | 28=>96 | 24=>93 | 0=>0 | 3=>3 | 37=>176 | 48=>217 | 50=>219 | 4=>4 | 40=>211 | 39=>210 | 45=>90 | 5=>5 | 9=>9 | 51=>247 | 55=>251 | 57=>277 | 58=>232 | 33=>47 | n=>n,fun | n=>n⟩
theorem Tryz.sortedO:Go.Proofs.SlLaysZ.n6 Tryz.prog Tryz.sortedO_ren:={
 mixed:=by kernel_rfl
 f6:=⟨Tryz.f51.name,by decide,Tryz.func51.trans (congrArg some (by kernel_rfl))⟩
 f8:=⟨Tryz.f87.name,by decide,Tryz.func87.trans (congrArg some (by kernel_rfl))⟩
 f11:=⟨Tryz.f127.name,by decide,Tryz.func127.trans (congrArg some (by kernel_rfl))⟩
 t0:=Tryz.underlying0
 a0:=Tryz.isAgg0
 z0:=Tryz.sizeOf0
 v0:=Tryz.zeroValue0
 t24:=Tryz.underlying93
 a24:=Tryz.isAgg93
 z24:=Tryz.sizeOf93
 v24:=Tryz.zeroValue93
 t26:=Tryz.underlying9
 a26:=Tryz.isAgg9
 z26:=Tryz.sizeOf9
 v26:=Tryz.zeroValue9
 t28:=Tryz.underlying96
 a28:=Tryz.isAgg96
 z28:=Tryz.sizeOf96
 v28:=Tryz.zeroValue96
 i26:=by kernel_rfl }
def Tryz.sortO_ren:Go.Shelf.Ren:=⟨fun | 6=>88 | 8=>129 | 9=>128 | 19=>187 | 20=>188 | 21=>178 | 22=>179 | 23=>180 | 24=>181 | 25=>182 | 26=>183 | 27=>184 | 28=>185 | 29=>186 | 36=>216 | 31=>217 | 32=>218 | 37=>219 | 38=>220 | 39=>221 | 41=>244 | n=>n,fun | 27=>93 | 29=>9 | 3=>3 | 32=>176 | 26=>93 | 0=>0 | 44=>217 | 46=>219 | 4=>4 | 36=>211 | 35=>210 | 41=>90 | 5=>5 | 9=>9 | 53=>247 | 57=>251 | 63=>277 | 64=>232 | n=>n,fun | n=>n⟩
theorem Tryz.sortO:Go.Proofs.SlLaysM.n6 Tryz.prog Tryz.sortO_ren:={
 mixed:=by kernel_rfl
 f6:=⟨Tryz.f88.name,by decide,Tryz.func88.trans (congrArg some (by kernel_rfl))⟩
 f8:=Tryz.func129.trans (congrArg some (by kernel_rfl))
 f9:=⟨Tryz.f128.name,by decide,Tryz.func128.trans (congrArg some (by kernel_rfl))⟩
 f19:=Tryz.func187.trans (congrArg some (by kernel_rfl))
 f20:=Tryz.func188.trans (congrArg some (by kernel_rfl))
 f21:=⟨Tryz.f178.name,by decide,Tryz.func178.trans (congrArg some (by kernel_rfl))⟩
 f22:=⟨Tryz.f179.name,by decide,Tryz.func179.trans (congrArg some (by kernel_rfl))⟩
 f23:=⟨Tryz.f180.name,by decide,Tryz.func180.trans (congrArg some (by kernel_rfl))⟩
 f24:=⟨Tryz.f181.name,by decide,Tryz.func181.trans (congrArg some (by kernel_rfl))⟩
 f25:=⟨Tryz.f182.name,by decide,Tryz.func182.trans (congrArg some (by kernel_rfl))⟩
 f26:=⟨Tryz.f183.name,by decide,Tryz.func183.trans (congrArg some (by kernel_rfl))⟩
 f27:=⟨Tryz.f184.name,by decide,Tryz.func184.trans (congrArg some (by kernel_rfl))⟩
 f28:=⟨Tryz.f185.name,by decide,Tryz.func185.trans (congrArg some (by kernel_rfl))⟩
 f29:=⟨Tryz.f186.name,by decide,Tryz.func186.trans (congrArg some (by kernel_rfl))⟩
 f31:=Tryz.func217.trans (congrArg some (by kernel_rfl))
 f32:=Tryz.func218.trans (congrArg some (by kernel_rfl))
 f36:=⟨Tryz.f216.name,by decide,Tryz.func216.trans (congrArg some (by kernel_rfl))⟩
 f37:=⟨Tryz.f219.name,by decide,Tryz.func219.trans (congrArg some (by kernel_rfl))⟩
 f38:=⟨Tryz.f220.name,by decide,Tryz.func220.trans (congrArg some (by kernel_rfl))⟩
 f39:=⟨Tryz.f221.name,by decide,Tryz.func221.trans (congrArg some (by kernel_rfl))⟩
 f41:=⟨Tryz.f244.name,by decide,Tryz.func244.trans (congrArg some (by kernel_rfl))⟩
 t0:=Tryz.underlying0
 a0:=Tryz.isAgg0
 z0:=Tryz.sizeOf0
 v0:=Tryz.zeroValue0
 t3:=Tryz.underlying3
 a3:=Tryz.isAgg3
 z3:=Tryz.sizeOf3
 v3:=Tryz.zeroValue3
 t4:=Tryz.underlying4
 a4:=Tryz.isAgg4
 z4:=Tryz.sizeOf4
 v4:=Tryz.zeroValue4
 t5:=Tryz.underlying5
 a5:=Tryz.isAgg5
 z5:=Tryz.sizeOf5
 v5:=Tryz.zeroValue5
 t9:=Tryz.underlying9
 a9:=Tryz.isAgg9
 z9:=Tryz.sizeOf9
 v9:=Tryz.zeroValue9
 t26:=Tryz.underlying93
 a26:=Tryz.isAgg93
 z26:=Tryz.sizeOf93
 v26:=Tryz.zeroValue93
 t27:=Tryz.underlying93
 a27:=Tryz.isAgg93
 z27:=Tryz.sizeOf93
 v27:=Tryz.zeroValue93
 t29:=Tryz.underlying9
 a29:=Tryz.isAgg9
 z29:=Tryz.sizeOf9
 v29:=Tryz.zeroValue9
 t32:=Tryz.underlying176
 a32:=Tryz.isAgg176
 z32:=Tryz.sizeOf176
 v32:=Tryz.zeroValue176
 t35:=Tryz.underlying210
 a35:=Tryz.isAgg210
 z35:=Tryz.sizeOf210
 v35:=Tryz.zeroValue210
 t36:=Tryz.underlying211
 a36:=Tryz.isAgg211
 z36:=Tryz.sizeOf211
 v36:=Tryz.zeroValue211
 t41:=Tryz.underlying90
 a41:=Tryz.isAgg90
 z41:=Tryz.sizeOf90
 v41:=Tryz.zeroValue90
 t44:=Tryz.underlying217
 a44:=Tryz.isAgg217
 z44:=Tryz.sizeOf217
 v44:=Tryz.zeroValue217
 t46:=Tryz.underlying219
 a46:=Tryz.isAgg219
 z46:=Tryz.sizeOf219
 v46:=Tryz.zeroValue219
 t53:=Tryz.underlying247
 a53:=Tryz.isAgg247
 z53:=Tryz.sizeOf247
 v53:=Tryz.zeroValue247
 t57:=Tryz.underlying251
 a57:=Tryz.isAgg251
 z57:=Tryz.sizeOf251
 v57:=Tryz.zeroValue251
 t63:=Tryz.underlying277
 a63:=Tryz.isAgg277
 z63:=Tryz.sizeOf277
 v63:=Tryz.zeroValue277
 t64:=Tryz.underlying232
 a64:=Tryz.isAgg232
 z64:=Tryz.sizeOf232
 v64:=Tryz.zeroValue232 }
def Tryz.layHasPrefix_ren:Go.Shelf.Ren:=⟨fun | 99=>177 | 206=>215 | n=>n,fun | 9=>9 | 4=>4 | 3=>3 | n=>n,fun | n=>n⟩
theorem Tryz.layHasPrefix:Go.Proofs.Lays.n99 Tryz.prog Tryz.layHasPrefix_ren:={
 mixed:=by kernel_rfl
 f99:=Tryz.func177.trans (congrArg some (by kernel_rfl))
 f206:=Tryz.func215.trans (congrArg some (by kernel_rfl))
 t3:=Tryz.underlying3
 a3:=Tryz.isAgg3
 z3:=Tryz.sizeOf3
 v3:=Tryz.zeroValue3
 t4:=Tryz.underlying4
 a4:=Tryz.isAgg4
 z4:=Tryz.sizeOf4
 v4:=Tryz.zeroValue4
 t9:=Tryz.underlying9
 a9:=Tryz.isAgg9
 z9:=Tryz.sizeOf9
 v9:=Tryz.zeroValue9 }
def Tryz.layFormatInt_ren:Go.Shelf.Ren:=⟨fun | 173=>164 | 246=>209 | 283=>231 | 284=>232 | 285=>233 | 286=>234 | 129=>188 | 317=>246 | 318=>247 | 319=>248 | 320=>249 | 337=>256 | 338=>257 | n=>n,fun | 2=>2 | 3=>3 | 9=>9 | 4=>4 | 171=>259 | 0=>0 | 53=>219 | 37=>158 | 5=>5 | 173=>261 | 212=>282 | 51=>217 | 20=>20 | 213=>283 | 46=>176 | 232=>290 | 233=>291 | n=>n,fun | 17=>3 | 18=>4 | 19=>5 | n=>n⟩
theorem Tryz.layFormatInt:Go.Proofs.LaysM.n173 Tryz.prog Tryz.layFormatInt_ren:={
 mixed:=by kernel_rfl
 f129:=Tryz.func188.trans (congrArg some (by kernel_rfl))
 f173:=Tryz.func164.trans (congrArg some (by kernel_rfl))
 f246:=Tryz.func209.trans (congrArg some (by kernel_rfl))
 f283:=Tryz.func231.trans (congrArg some (by kernel_rfl))
 f284:=Tryz.func232.trans (congrArg some (by kernel_rfl))
 f285:=Tryz.func233.trans (congrArg some (by kernel_rfl))
 f286:=Tryz.func234.trans (congrArg some (by kernel_rfl))
 f317:=Tryz.func246.trans (congrArg some (by kernel_rfl))
 f318:=Tryz.func247.trans (congrArg some (by kernel_rfl))
 f319:=Tryz.func248.trans (congrArg some (by kernel_rfl))
 f320:=Tryz.func249.trans (congrArg some (by kernel_rfl))
 f337:=Tryz.func256.trans (congrArg some (by kernel_rfl))
 f338:=Tryz.func257.trans (congrArg some (by kernel_rfl))
 t0:=Tryz.underlying0
 a0:=Tryz.isAgg0
 z0:=Tryz.sizeOf0
 v0:=Tryz.zeroValue0
 t2:=Tryz.underlying2
 a2:=Tryz.isAgg2
 z2:=Tryz.sizeOf2
 v2:=Tryz.zeroValue2
 t3:=Tryz.underlying3
 a3:=Tryz.isAgg3
 z3:=Tryz.sizeOf3
 v3:=Tryz.zeroValue3
 t4:=Tryz.underlying4
 a4:=Tryz.isAgg4
 z4:=Tryz.sizeOf4
 v4:=Tryz.zeroValue4
 t5:=Tryz.underlying5
 a5:=Tryz.isAgg5
 z5:=Tryz.sizeOf5
 v5:=Tryz.zeroValue5
 t9:=Tryz.underlying9
 a9:=Tryz.isAgg9
 z9:=Tryz.sizeOf9
 v9:=Tryz.zeroValue9
 t20:=Tryz.underlying20
 a20:=Tryz.isAgg20
 z20:=Tryz.sizeOf20
 v20:=Tryz.zeroValue20
 t37:=Tryz.underlying158
 a37:=Tryz.isAgg158
 z37:=Tryz.sizeOf158
 v37:=Tryz.zeroValue158
 t46:=Tryz.underlying176
 a46:=Tryz.isAgg176
 z46:=Tryz.sizeOf176
 v46:=Tryz.zeroValue176
 t51:=Tryz.underlying217
 a51:=Tryz.isAgg217
 z51:=Tryz.sizeOf217
 v51:=Tryz.zeroValue217
 t53:=Tryz.underlying219
 a53:=Tryz.isAgg219
 z53:=Tryz.sizeOf219
 v53:=Tryz.zeroValue219
 t171:=Tryz.underlying259
 a171:=Tryz.isAgg259
 z171:=Tryz.sizeOf259
 v171:=Tryz.zeroValue259
 t173:=Tryz.underlying261
 a173:=Tryz.isAgg261
 z173:=Tryz.sizeOf261
 v173:=Tryz.zeroValue261
 t212:=Tryz.underlying282
 a212:=Tryz.isAgg282
 z212:=Tryz.sizeOf282
 v212:=Tryz.zeroValue282
 t213:=Tryz.underlying283
 a213:=Tryz.isAgg283
 z213:=Tryz.sizeOf283
 t232:=Tryz.underlying290
 a232:=Tryz.isAgg290
 z232:=Tryz.sizeOf290
 v232:=Tryz.zeroValue290
 t233:=Tryz.underlying291
 a233:=Tryz.isAgg291
 z233:=Tryz.sizeOf291
 v233:=Tryz.zeroValue291
 g17:=by kernel_rfl
 g18:=by kernel_rfl
 g19:=by kernel_rfl
 i0:=by kernel_rfl
 i2:=by kernel_rfl
 i3:=by kernel_rfl
 i4:=by kernel_rfl
 i5:=by kernel_rfl
 i9:=by kernel_rfl
 i20:=by kernel_rfl
 i37:=by kernel_rfl
 i46:=by kernel_rfl
 i51:=by kernel_rfl
 i53:=by kernel_rfl
 i171:=by kernel_rfl
 i173:=by kernel_rfl
 i212:=by kernel_rfl
 i232:=by kernel_rfl
 i233:=by kernel_rfl
 m17:=by kernel_rfl
 m18:=by kernel_rfl
 m19:=by kernel_rfl }
def Tryz.layValid_ren:Go.Shelf.Ren:=⟨fun | 196=>158 | 259=>206 | n=>n,fun | 9=>9 | 4=>4 | 3=>3 | 5=>5 | 12=>12 | 119=>235 | 0=>0 | 46=>176 | 139=>238 | 138=>237 | 53=>219 | n=>n,fun | 3=>0 | 4=>1 | n=>n⟩
theorem Tryz.layValid:Go.Proofs.Lays.n196 Tryz.prog Tryz.layValid_ren:={
 mixed:=by kernel_rfl
 f196:=Tryz.func158.trans (congrArg some (by kernel_rfl))
 f259:=Tryz.func206.trans (congrArg some (by kernel_rfl))
 t0:=Tryz.underlying0
 a0:=Tryz.isAgg0
 z0:=Tryz.sizeOf0
 v0:=Tryz.zeroValue0
 t3:=Tryz.underlying3
 a3:=Tryz.isAgg3
 z3:=Tryz.sizeOf3
 v3:=Tryz.zeroValue3
 t4:=Tryz.underlying4
 a4:=Tryz.isAgg4
 z4:=Tryz.sizeOf4
 v4:=Tryz.zeroValue4
 t5:=Tryz.underlying5
 a5:=Tryz.isAgg5
 z5:=Tryz.sizeOf5
 v5:=Tryz.zeroValue5
 t9:=Tryz.underlying9
 a9:=Tryz.isAgg9
 z9:=Tryz.sizeOf9
 v9:=Tryz.zeroValue9
 t12:=Tryz.underlying12
 a12:=Tryz.isAgg12
 z12:=Tryz.sizeOf12
 v12:=Tryz.zeroValue12
 t46:=Tryz.underlying176
 a46:=Tryz.isAgg176
 z46:=Tryz.sizeOf176
 v46:=Tryz.zeroValue176
 t53:=Tryz.underlying219
 a53:=Tryz.isAgg219
 z53:=Tryz.sizeOf219
 v53:=Tryz.zeroValue219
 t119:=Tryz.underlying235
 a119:=Tryz.isAgg235
 z119:=Tryz.sizeOf235
 t138:=Tryz.underlying237
 a138:=Tryz.isAgg237
 z138:=Tryz.sizeOf237
 v138:=Tryz.zeroValue237
 t139:=Tryz.underlying238
 a139:=Tryz.isAgg238
 z139:=Tryz.sizeOf238
 v139:=Tryz.zeroValue238
 g3:=by kernel_rfl
 g4:=by kernel_rfl }
def Tryz.layFormatBool_ren:Go.Shelf.Ren:=⟨fun | 121=>162 | 214=>208 | n=>n,fun | 4=>4 | 9=>9 | n=>n,fun | n=>n⟩
theorem Tryz.layFormatBool:Go.Proofs.Lays.n121 Tryz.prog Tryz.layFormatBool_ren:={
 mixed:=by kernel_rfl
 f121:=Tryz.func162.trans (congrArg some (by kernel_rfl))
 f214:=Tryz.func208.trans (congrArg some (by kernel_rfl))
 t4:=Tryz.underlying4
 a4:=Tryz.isAgg4
 z4:=Tryz.sizeOf4
 v4:=Tryz.zeroValue4
 t9:=Tryz.underlying9
 a9:=Tryz.isAgg9
 z9:=Tryz.sizeOf9
 v9:=Tryz.zeroValue9 }
theorem Tryz.sorts51 (m:Nat):AnyZ.SortsIn Tryz.prog Tryz.sortedO_ren Fence.wide m:=
 ⟨fun blk off cap ss W hH hblk hsz=>callsIn_wide.2 (AnyM.slices_Sort_string Tryz.sortO blk off cap ss W hH hblk hsz),
  fun p cap W=>callsIn_wide.2 (AnyM.slices_Sort_string_none Tryz.sortO p cap W)⟩
theorem Tryz.maps_KeysO (mb:Option Nat) (W:World):CallsIn Fence.wide 5 Tryz.prog 52 #[.map mb] W fun e w'=>e=.returned (.func (.func 89) #[] #[.pointer (some ⟨W.heap.size,0,none⟩)])∧w'=W.alloc (.cells #[.map mb] 80):=
 AnyZ.keys_in Tryz.keysO Fence.wide 5 trivial rfl mb W
theorem Tryz.slices_Sorted_keysO {H:Type} (b nn:Nat) (D0:DataW H) (R:Value→Option (DataW H × List MemPlace)) (w:World) (hown:w.ownsMap Tryz.prog 9 R b nn D0) (hmax:Maps.size D0≤maxLen) (hbytes:Maps.size D0*16≤140737488355328) :
  CallsIn Fence.wide 5 Tryz.prog 51 #[.func (.func 89) #[] #[.pointer (some ⟨w.heap.size,0,none⟩)]] (w.alloc (.cells #[.map (some b)] 80)) fun e w'=>∃ (v:Value) (ss:List (List UInt8)),e=.returned v∧ss.Perm (strKeys D0)∧
   w'.ownsRow (w.alloc (.cells #[.map (some b)] 80)).heap.size 9 1 v ss.length ((ss.mergeSort (fun x y=>decide (x≤y))).map encStr)∧(v=.slice none 0 0↔ss=[])∧Below (w.alloc (.cells #[.map (some b)] 80)).heap.size (w.alloc (.cells #[.map (some b)] 80)) w':=by
 have hbl:=hown.lt
 have hseq:SeqGives Fence.wide 2 Tryz.prog 89 #[.pointer (some ⟨w.heap.size,0,none⟩)] encStr (fun ss=>ss.Perm (strKeys D0)) (Maps.size D0) (w.alloc (.cells #[.map (some b)] 80)):=
  AnyZ.keys_gives (ρ:=Tryz.keysO_ren) { Tryz.keysO with } Fence.wide _ trivial rfl (by omega) w.heap.size b nn D0 _ (by simp) (by simp) (by
   obtain ⟨es,clock,hb,Ft,hs,hD⟩:=hown
   exact ⟨es,clock,(Below.heap_alloc _ _ b hbl).trans hb,Ft,hs,hD⟩)
 exact AnyZ.sorted_in Tryz.sortedO Fence.wide 5 trivial trivial trivial trivial rfl (by omega) (Tryz.sorts51 _) (enters_of Tryz.func88 (by kernel_rfl) rfl) 89 #[.pointer (some ⟨w.heap.size,0,none⟩)] trivial (enters_of Tryz.func89 (by kernel_rfl) rfl) _ _ hmax hbytes _ hseq
theorem Tryz.slices_Sorted_keys_nilO (w:World) :
  CallsIn Fence.wide 5 Tryz.prog 51 #[.func (.func 89) #[] #[.pointer (some ⟨w.heap.size,0,none⟩)]] (w.alloc (.cells #[.map none] 80)) fun e w'=>∃ (v:Value) (ss:List (List UInt8)),e=.returned v∧ss=[]∧
   w'.ownsRow (w.alloc (.cells #[.map none] 80)).heap.size 9 1 v ss.length ((ss.mergeSort (fun x y=>decide (x≤y))).map encStr)∧(v=.slice none 0 0↔ss=[])∧Below (w.alloc (.cells #[.map none] 80)).heap.size (w.alloc (.cells #[.map none] 80)) w':=by
 have hseq:SeqGives Fence.wide 2 Tryz.prog 89 #[.pointer (some ⟨w.heap.size,0,none⟩)] encStr (fun ss:List (List UInt8)=>ss=[]) 0 (w.alloc (.cells #[.map none] 80)):=
  AnyZ.keys_gives_nil (ρ:=Tryz.keysO_ren) { Tryz.keysO with } Fence.wide _ trivial rfl w.heap.size _ (by simp) (by simp)
 exact AnyZ.sorted_in Tryz.sortedO Fence.wide 5 trivial trivial trivial trivial rfl (by omega) (Tryz.sorts51 _) (enters_of Tryz.func88 (by kernel_rfl) rfl) 89 #[.pointer (some ⟨w.heap.size,0,none⟩)] trivial (enters_of Tryz.func89 (by kernel_rfl) rfl) _ 0 (Nat.zero_le _) (by omega) _ hseq
end Go.Proofs.YtkhdiakpdafcdaaGreatDoor
namespace Go.Proofs.YtkhdiakpdafcdaaGreatDoor
open Go.RowKit Go.Maps Go.Shelf
set_option linter.unusedVariables false
set_option linter.unusedSimpArgs false
abbrev numV (n:Int):Val:=.mk 3 false n ByteArray.empty [] [] []
abbrev numA (n:Int):Value:=.agg #[.int .i64 3,.bool false,.int .i64 n,.string ByteArray.empty,.slice none 0 0,.slice none 0 0]
def sumS (ks:List ByteArray):Nat:=(ks.map ByteArray.size).sum
theorem sumS_take {ks:List ByteArray} {j:Nat} {k:ByteArray} (h:ks[j]? = some k):sumS (ks.take (j+1))=sumS (ks.take j)+k.size:=by
 obtain ⟨hj,rfl⟩:=List.getElem?_eq_some_iff.1 h
 unfold sumS
 rw [List.take_succ_eq_append_getElem hj,List.map_append,List.sum_append];simp
theorem sumS_le (ks:List ByteArray) (j:Nat):sumS (ks.take j)≤sumS ks:=by
 have:sumS ks=sumS (ks.take j)+sumS (ks.drop j):=by unfold sumS;rw [←List.sum_append,←List.map_append,List.take_append_drop]
 omega
abbrev wrC (a b:Value) (n:Nat):Array Value:=#[.bool false,a,b,.int .i64 (n:Int)]
theorem join_any {w:World} {B:Nat} {a b:Value} {n:Nat} {F:Nat→Prop} {s:Sl} {ks:List ByteArray} (hB:Blk w B 162 (wrC a b n)) (hr:Rd w F 1 s ks.length (ks.map .string)) (hF:∀ i,F i→i<w.heap.size∧i≠B) (hn:n+sumS ks≤100000000) (hkl:ks.length≤1000000) :
  Calls Tryz.prog 161 #[.pointer (some ⟨B,0,none⟩),.slice s.a ks.length s.c] w fun e w'=>(∃ r,e=.returned r)∧Blk w' B 162 (wrC a b (n+sumS ks))∧St (fun c=>c=B) w w':=by
 obtain ⟨g,o,h1,-,h3⟩:=hr
 have H1:=Lib.hid h1
 have H3:=Lib.hid h3
 have HF:=Lib.hid hF
 have HB:=Lib.hid hB
 clear h1 h3 hF hB
 go_enter Tryz.func161,Tryz.ntmps161
 go_wp2_with fail
 go_loopw [8] (fun q wr=>∃ j:Nat,q=.int .i64 (j:Int)∧j≤ks.length∧Blk wr B 162 (wrC a b (n+sumS (ks.take j)))∧St (fun c=>c=B) w wr) (fun q _=>ks.length - (intOf q).toNat)
 case atStart=>exact ⟨0,rfl,Nat.zero_le _,by simpa [sumS] using HB.out,St.refl _ _⟩
 obtain ⟨j,rfl,hjl,hb,hst⟩:=hrel
 by_cases hlt:j<ks.length
 ·have g1:decide ((j:Int)<(ks.length:Int))=true:=decide_eq_true (by omega)
  have g1':(j:Int)<(ks.length:Int):=by omega
  obtain ⟨k,hk⟩:∃ k,ks[j]? = some k:=⟨_,List.getElem?_eq_getElem hlt⟩
  obtain ⟨e1,hc,hcm⟩:=H1.out.eq (by omega)
  have lg:=HF.out g (H1.out.fits (by omega))
  obtain ⟨sa,sc⟩:=s
  dsimp only at e1 hc hcm
  subst e1
  have c0:wr.cell? ⟨g,o+j,none⟩=some (.string k):=(hst.cell lg.1 lg.2).trans (H3.out j _ (by rw [List.getElem?_map,hk];rfl))
  have c3:wr.cell? ⟨B,3,none⟩=some (.int .i64 ((n+sumS (ks.take j):Nat):Int)):=hb.cell 3
  have ck:wr.cell? ⟨B,0,none⟩=some (.bool false):=hb.cell 0
  have f3:=hb.frozen 3
  have lB:=hb.lt
  have hsum:=sumS_take hk
  have hle:=sumS_le ks (j+1)
  obtain ⟨m,hm⟩:∃ m,n+sumS (ks.take j)=m:=⟨_,rfl⟩
  have hm2:n+sumS (ks.take (j+1))=m+k.size:=by omega
  rw [hm] at c3 hb
  have g2:IntKind.i64.wrap ((m:Int)+(k.size:Int))=(m:Int)+(k.size:Int):=by rw [IntKind.wrap_i64];omega
  have HBL:=Lib.hid hb
  have HST:=Lib.hid hst
  have HM2:=Lib.hid hm2
  clear hb hst hk hsum hle hm hm2
  go_wp2_with fail
  have hset:St (fun c=>c=B) wr (wr.setCell ⟨B,3,none⟩ (.int .i64 ((m:Int)+(k.size:Int)))):=(St.refl (fun c=>c=B) wr).set (p:=⟨B,3,none⟩) (.inr rfl) _
  have hbs:=HBL.out.set_ 3 (.int .i64 ((m:Int)+(k.size:Int)))
  exact ⟨⟨j+1,rfl,hlt,by rw [HM2.out];exact hbs,HST.out.trans hset⟩,by show ks.length - ((j:Int)+1).toNat<ks.length - (j:Int).toNat;omega⟩
 obtain rfl:j=ks.length:=by omega
 have g1:decide ((ks.length:Int)<(ks.length:Int))=false:=decide_eq_false (by omega)
 rw [List.take_length] at hb
 go_wp2_with fail
 go_end0
 exact ⟨⟨_,rfl⟩,hb,hst⟩
def FmtOK (n:Int) (W:World):Prop:=Calls Tryz.prog 164 #[.int .i64 n,.int .i64 10] W fun e w'=>∃ s:ByteArray,e=.returned (.string s)∧s.size≤21∧Nw W w'
theorem join_one {w:World} {B:Nat} {a b:Value} {m:Nat} (s:ByteArray) (hB:Blk w B 162 (wrC a b m)) (hm:m≤10000000) (hs:s.size≤1000) :
  Calls Tryz.prog 161 #[.pointer (some ⟨B,0,none⟩),.slice (some ⟨w.heap.size,0,none⟩) 1 1] (w.alloc (.cells #[.string s] 9)) fun e w'=>(∃ r,e=.returned r)∧Blk w' B 162 (wrC a b (m+s.size))∧Sb (fun c=>c=B) w w':=by
 have hx:Ext w (w.alloc (.cells #[.string s] 9)):=(Ext.refl w).alloc _ _
 have hl:=hB.lt
 have hj:=join_any (s:=⟨some ⟨w.heap.size,0,none⟩,1⟩) (ks:=[s]) (hB.ext hx) (Rd.block (Blk.new w 9 #[.string s]) (by decide) rfl) (fun i hi=>by subst hi;exact ⟨by simp,by omega⟩) (by simp [sumS];omega) (by simp)
 exact hj.mono fun e w' ⟨h1,h2,h3⟩=>⟨h1,by simpa [sumS] using h2,(Nw.any (Nw.of hx) _).trans h3.sb⟩
def G5 (w W:World):Prop:=∀ b,b<6→W.heap[b]? = w.heap[b]?
theorem G5.refl (w:World):G5 w w:=fun _ _=>rfl
theorem G5.trans {a b c:World} (h:G5 a b) (k:G5 b c):G5 a c:=fun i hi=>(k i hi).trans (h i hi)
theorem Sb.g5 {H:Nat→Prop} {w w':World} (h:Sb H w w') (hz:6≤w.heap.size) (hH:∀ b,b<6→¬H b):G5 w w':=fun b hb=>h.block b (by omega) (hH b hb)
structure Lib0 (w:World):Prop where
 big:6≤w.heap.size
 fmt:∀ W,G5 w W→∀ n:Int,-9223372036854775808≤n→n≤9223372036854775807→FmtOK n W
 val:∀ W,G5 w W→∀ s:ByteArray,s.size≤maxLen→Calls Tryz.prog 158 #[.string s] W fun e w'=>e=.returned (.bool (Lib.validD s.data.toList))∧Nw W w'
theorem Lib0.sb {H:Nat→Prop} {w w':World} (h:Lib0 w) (k:Sb H w w') (hH:∀ b,b<6→¬H b):Lib0 w':=
 ⟨Nat.le_trans h.big k.size,fun W hW=>h.fmt W ((k.g5 h.big hH).trans hW),fun W hW=>h.val W ((k.g5 h.big hH).trans hW)⟩
theorem Lib0.nw {w w':World} (h:Lib0 w) (k:Nw w w'):Lib0 w':=h.sb k fun _ _ e=>e
def mayK (k:ByteArray):Int:=if k.size=0 then 8 else if 64<k.size then 6 else if Lib.validD k.data.toList then 0 else 3
theorem reason1 {w:World} {B:Nat} {k:ByteArray} (hB:Blk w B 9 #[.string k]):Calls Tryz.prog 113 #[.pointer (some ⟨B,0,none⟩)] w fun e w'=>e=.returned (.bool (decide (k.size=0)))∧w'=w:=by
 have c0:w.cell? ⟨B,0,none⟩=some (.string k):=hB.cell 0
 have hk:k.toList.isEmpty=decide (k.size=0):=by
  rw [ByteArray.toList_eq]
  by_cases h:k.size=0
  ·have:k.data.toList=[]:=List.eq_nil_of_length_eq_zero (by rw [Array.length_toList];exact h)
   rw [this,decide_eq_true h];rfl
  rw [decide_eq_false h]
  cases hl:k.data.toList with
  | nil=>exact absurd (by have:=congrArg List.length hl;rw [Array.length_toList] at this;exact this) h
  | cons a l=>rfl
 have HK:=Lib.hid hk
 clear hk
 clear hB
 go_enter Tryz.func113,Tryz.ntmps113
 go_wp2_with fail
 go_ret
 exact ⟨by rw [←HK.out];rfl,rfl⟩
theorem reason2 {w:World} {B:Nat} {k:ByteArray} (hB:Blk w B 9 #[.string k]):Calls Tryz.prog 114 #[.pointer (some ⟨B,0,none⟩)] w fun e w'=>e=.returned (.bool (decide (64<k.size)))∧w'=w:=by
 have c0:w.cell? ⟨B,0,none⟩=some (.string k):=hB.cell 0
 clear hB
 go_enter Tryz.func114,Tryz.ntmps114
 go_wp2_with fail
 go_ret
 exact ⟨by rw [show decide (64<k.size)=decide ((64:Int)<(k.size:Int)) from decide_eq_decide.2 (by omega)];rfl,rfl⟩
theorem reason3 {w:World} {B:Nat} {k:ByteArray} (hB:Blk w B 9 #[.string k]) (hk:k.size≤maxLen) (hL:Lib0 w):Calls Tryz.prog 115 #[.pointer (some ⟨B,0,none⟩)] w fun e w'=>e=.returned (.bool (!Lib.validD k.data.toList))∧Nw w w':=by
 have c0:w.cell? ⟨B,0,none⟩=some (.string k):=hB.cell 0
 have hu:∀ W,G5 w W→Calls Tryz.prog 116 #[.string k] W fun e w'=>e=.returned (.bool (Lib.validD k.data.toList))∧Nw W w':=fun W hW=>by
  have hv:=hL.val W hW k hk
  have HV:=Lib.hid hv
  clear hv hL hB c0 hW
  go_enter Tryz.func116,Tryz.ntmps116
  go_wp2_with fail
  refine HV.out.mono ?_
  rintro e w' ⟨rfl,hn⟩
  have HN:=Lib.hid hn
  clear hn
  go_wp2_with fail
  go_ret
  exact ⟨rfl,HN.out⟩
 have HU:=Lib.hid (hu w (G5.refl w))
 clear hB hL hu
 go_enter Tryz.func115,Tryz.ntmps115
 go_wp2_with fail
 refine HU.out.mono ?_
 rintro e w' ⟨rfl,hn⟩
 have HN:=Lib.hid hn
 clear hn
 go_wp2_with fail
 go_ret
 exact ⟨rfl,HN.out⟩
abbrev reasonsC (B:Nat):Array Value:=#[.int .i64 8,.func (.func 113) #[] #[.pointer (some ⟨B,0,none⟩)],.int .i64 6,.func (.func 114) #[] #[.pointer (some ⟨B,0,none⟩)],.int .i64 3,.func (.func 115) #[] #[.pointer (some ⟨B,0,none⟩)]]
theorem reasons_any (w:World) (k:ByteArray):Calls Tryz.prog 68 #[.string k] w fun e w'=>e=.returned (.slice (some ⟨w.heap.size+1,0,none⟩) 3 3)∧Ext w w'∧Blk w' w.heap.size 9 #[.string k]∧∃ t,Blk w' (w.heap.size+1) t (reasonsC w.heap.size):=by
 go_enter Tryz.func68,Tryz.ntmps68
 go_wp2_with fail
 go_ret
 generalize hW0:World.alloc _ _=W0
 obtain ⟨hx0,hz0,hb0,hb1⟩:=two_blocks w _ _ _ _ W0 hW0
 exact ⟨rfl,hx0,hb0,_,hb1⟩
theorem run_store_funcO (P:Program) (w:World) (a:Addr) (f:Fn) (ta lb:Array Value) (m:Mode):(store a (.func f ta lb) m).run P w=stored P w a (.func f ta lb) m:=run_store P w a _ m rfl
attribute [local go_sem] run_store_funcO
theorem keysMay_any {w:World} {k:ByteArray} (hk:k.size≤maxLen) (hL:Lib0 w):Calls Tryz.prog 42 #[.string k] w fun e w'=>e=.returned (.int .i64 (mayK k))∧Nw w w':=by
 have hr:=fun W=>reasons_any W k
 have HR:=Lib.hid hr
 have HL:=Lib.hid hL
 clear hr hL
 go_enter Tryz.func42,Tryz.ntmps42
 go_wp2_with fail
 refine (HR.out w).mono ?_
 rintro e w1 ⟨rfl,hx1,hb0,t,hb1⟩
 have HX1:=Lib.hid hx1
 have HB0:=Lib.hid hb0
 have HB1:=Lib.hid hb1
 have HL1:=Lib.hid (HL.out.nw (Nw.of hx1))
 have l1:=hb1.lt
 clear hx1 hb0 hb1 HR
 go_wp2_with fail
 go_loopw [8] (fun q wr=>∃ j:Nat,q=.int .i64 (j:Int)∧j≤3∧(1≤j→k.size≠0)∧(2≤j→k.size≤64)∧(3≤j→Lib.validD k.data.toList=true)∧Nw w1 wr) (fun q _=>3 - (intOf q).toNat)
 case atStart=>exact ⟨0,rfl,by omega,by omega,by omega,by omega,Sb.refl _ _⟩
 obtain ⟨j,rfl,hj,h1,h2,h3,hn⟩:=hrel
 have hb0:=hn.blk HB0.out
 have hb1:=Nw.blk hn HB1.out
 have c0:wr.cell? ⟨w.heap.size+1,0,none⟩=some (.int .i64 8):=hb1.cell 0
 have c1:wr.cell? ⟨w.heap.size+1,1,none⟩=some (.func (.func 113) #[] #[.pointer (some ⟨w.heap.size,0,none⟩)]):=hb1.cell 1
 have c2:wr.cell? ⟨w.heap.size+1,2,none⟩=some (.int .i64 6):=hb1.cell 2
 have c3:wr.cell? ⟨w.heap.size+1,3,none⟩=some (.func (.func 114) #[] #[.pointer (some ⟨w.heap.size,0,none⟩)]):=hb1.cell 3
 have c4:wr.cell? ⟨w.heap.size+1,4,none⟩=some (.int .i64 3):=hb1.cell 4
 have c5:wr.cell? ⟨w.heap.size+1,5,none⟩=some (.func (.func 115) #[] #[.pointer (some ⟨w.heap.size,0,none⟩)]):=hb1.cell 5
 have HN:=Lib.hid hn
 have HB:=Lib.hid hb0
 clear hb0 hb1 hn
 rcases (by omega:j=0∨j=1∨j=2∨j=3) with rfl | rfl | rfl | rfl
 ·go_wp2_with fail
  have hx4:=(Ext.refl wr).alloc #[.int .i64 8,.func (.func 113) #[] #[.pointer (some ⟨w.heap.size,0,none⟩)]] 120
  have hb4:=HB.out.ext hx4
  have hn4:=HN.out.trans (Nw.of hx4)
  have HN4:=Lib.hid hn4
  have HB4:=Lib.hid (Blk.new wr 120 #[.int .i64 8,.func (.func 113) #[] #[.pointer (some ⟨w.heap.size,0,none⟩)]])
  clear hx4 hn4 c0 c1 c2 c3 c4 c5
  refine ((reason1 hb4).mono fun e w' h=>(show e=_∧Nw _ w' from ⟨h.1,by rw [h.2];exact Sb.refl _ _⟩)).mono ?_
  rintro e w4 ⟨rfl,hn5⟩
  have hb5:=Nw.blk hn5 HB4.out
  have c0:w4.cell? ⟨wr.heap.size,0,none⟩=some (.int .i64 8):=hb5.cell 0
  have HN5:=Lib.hid (HN4.out.trans hn5)
  clear hn5 hb5 hb4
  by_cases hc:k.size=0
  ·have g0:decide (k.size=0)=true:=decide_eq_true hc
   rw [g0]
   go_wp2_with fail
   go_ret
   exact ⟨by rw [show mayK k=8 by rw [mayK,if_pos hc]] <;> rfl,(Nw.of HX1.out).trans HN5.out⟩
  have g0:decide (k.size=0)=false:=decide_eq_false hc
  rw [g0]
  go_wp2_with fail
  exact ⟨⟨1,by go_num,by omega,fun _=>hc,by omega,by omega,HN5.out⟩,by simp [intOf]⟩
 ·go_wp2_with fail
  have hx4:=(Ext.refl wr).alloc #[.int .i64 6,.func (.func 114) #[] #[.pointer (some ⟨w.heap.size,0,none⟩)]] 120
  have hb4:=HB.out.ext hx4
  have hn4:=HN.out.trans (Nw.of hx4)
  have HN4:=Lib.hid hn4
  have HB4:=Lib.hid (Blk.new wr 120 #[.int .i64 6,.func (.func 114) #[] #[.pointer (some ⟨w.heap.size,0,none⟩)]])
  clear hx4 hn4 c0 c1 c2 c3 c4 c5
  refine ((reason2 hb4).mono fun e w' h=>(show e=_∧Nw _ w' from ⟨h.1,by rw [h.2];exact Sb.refl _ _⟩)).mono ?_
  rintro e w4 ⟨rfl,hn5⟩
  have hb5:=Nw.blk hn5 HB4.out
  have c0:w4.cell? ⟨wr.heap.size,0,none⟩=some (.int .i64 6):=hb5.cell 0
  have HN5:=Lib.hid (HN4.out.trans hn5)
  clear hn5 hb5 hb4
  by_cases hc:64<k.size
  ·have g0:decide (64<k.size)=true:=decide_eq_true hc
   rw [g0]
   go_wp2_with fail
   go_ret
   exact ⟨by rw [show mayK k=6 by rw [mayK,if_neg (h1 (by omega)),if_pos hc]] <;> rfl,(Nw.of HX1.out).trans HN5.out⟩
  have g0:decide (64<k.size)=false:=decide_eq_false hc
  rw [g0]
  go_wp2_with fail
  exact ⟨⟨2,by go_num,by omega,fun _=>h1 (by omega),fun _=>by omega,by omega,HN5.out⟩,by simp [intOf]⟩
 ·go_wp2_with fail
  have hx4:=(Ext.refl wr).alloc #[.int .i64 3,.func (.func 115) #[] #[.pointer (some ⟨w.heap.size,0,none⟩)]] 120
  have hb4:=HB.out.ext hx4
  have hn4:=HN.out.trans (Nw.of hx4)
  have HN4:=Lib.hid hn4
  have HB4:=Lib.hid (Blk.new wr 120 #[.int .i64 3,.func (.func 115) #[] #[.pointer (some ⟨w.heap.size,0,none⟩)]])
  clear hx4 c0 c1 c2 c3 c4 c5
  refine (reason3 hb4 hk (HL1.out.nw hn4)).mono ?_
  rintro e w4 ⟨rfl,hn5⟩
  have hb5:=Nw.blk hn5 HB4.out
  have c0:w4.cell? ⟨wr.heap.size,0,none⟩=some (.int .i64 3):=hb5.cell 0
  have HN5:=Lib.hid (HN4.out.trans hn5)
  clear hn5 hb5 hb4
  by_cases hc:Lib.validD k.data.toList=false
  ·have g0:(!Lib.validD k.data.toList)=true:=by rw [hc];rfl
   rw [g0]
   go_wp2_with fail
   go_ret
   exact ⟨by rw [show mayK k=3 by rw [mayK,if_neg (h1 (by omega)),if_neg (by have:=h2 (by omega);omega),if_neg (by rw [hc];simp)]] <;> rfl,(Nw.of HX1.out).trans HN5.out⟩
  have g0:(!Lib.validD k.data.toList)=false:=by rw [Bool.not_eq_false] at hc;rw [hc];rfl
  rw [g0]
  go_wp2_with fail
  exact ⟨⟨3,by go_num,by omega,fun _=>h1 (by omega),fun _=>h2 (by omega),fun _=>by simpa using hc,HN5.out⟩,by simp [intOf]⟩
 go_wp2_with fail
 go_ret
 exact ⟨by rw [show mayK k=0 by rw [mayK,if_neg (h1 (by omega)),if_neg (by have:=h2 (by omega);omega),if_pos (h3 (by omega))]];rfl,(Nw.of HX1.out).trans HN.out⟩
end Go.Proofs.YtkhdiakpdafcdaaGreatDoor
namespace Go.Proofs.YtkhdiakpdafcdaaGreatDoor
open Go.RowKit Go.Maps Go.Shelf
set_option linter.unusedVariables false
set_option linter.unusedSimpArgs false
def oddS (k:Int) (b:Bool) (i:Int) (t:ByteArray) (ln on:Nat):Bool:=
 if k<1∨6<k then true
 else (k != 2 && b) || (k != 3 && i != 0) || (k != 4 && t.size != 0) || (k != 5 && ln != 0) || (k != 6 && on != 0)
def oddV (v:Val):Bool:=oddS v.kind v.b v.i v.t v.l.length v.ok.length
theorem empty_text {t:ByteArray} (h:t.size=0):t.toList.isEmpty=true:=by
 rw [ByteArray.toList_eq,List.isEmpty_iff]
 exact List.eq_nil_of_length_eq_zero (by rw [Array.length_toList];exact h)
theorem full_text {t:ByteArray} (h:¬t.size=0):t.toList.isEmpty=false:=by
 rw [Bool.eq_false_iff]
 intro e
 rw [ByteArray.toList_eq,List.isEmpty_iff] at e
 have:=congrArg List.length e
 rw [Array.length_toList] at this
 exact h this
theorem odd_k1 (w:World) (b:Bool) (i:Int) (t:ByteArray) (ln on lc oc:Nat) (la oa:Option Addr) :
  Calls Tryz.prog 159 #[.agg #[.int .i64 1,.bool b,.int .i64 i,.string t,.slice la ln lc,.slice oa on oc]] w fun e w'=>e=.returned (.bool (oddS 1 b i t ln on))∧Ext w w':=by
 by_cases hb:b=true
 ·subst hb
  go_enter Tryz.func159,Tryz.ntmps159
  go_wp2_with fail
  go_ret
  exact ⟨by simp [oddS],(Ext.refl w).alloc _ _⟩
 obtain rfl:b=false:=by simpa using hb
 by_cases hi:i=0
 rotate_left
 ·have gi:(i != 0)=true:=by simp [hi]
  go_enter Tryz.func159,Tryz.ntmps159
  go_wp2_with fail
  go_ret
  exact ⟨by simp [oddS,hi],(Ext.refl w).alloc _ _⟩
 subst hi
 by_cases ht:t.size=0
 rotate_left
 ·have gt:=full_text ht
  go_enter Tryz.func159,Tryz.ntmps159
  go_wp2_with fail
  go_ret
  exact ⟨by simp [oddS,ht],(Ext.refl w).alloc _ _⟩
 have gt:=empty_text ht
 by_cases hln:ln=0
 rotate_left
 ·have gln:(0:Int)<(ln:Int):=by omega
  have gln':decide ((0:Int)<(ln:Int))=true:=decide_eq_true gln
  go_enter Tryz.func159,Tryz.ntmps159
  go_wp2_with fail
  go_ret
  exact ⟨by simp [oddS,ht,hln,(show 0<ln by omega)],(Ext.refl w).alloc _ _⟩
 have gln:decide ((0:Int)<(ln:Int))=false:=decide_eq_false (by omega)
 by_cases hon:on=0
 rotate_left
 ·have gon:(0:Int)<(on:Int):=by omega
  have gon':decide ((0:Int)<(on:Int))=true:=decide_eq_true gon
  go_enter Tryz.func159,Tryz.ntmps159
  go_wp2_with fail
  go_ret
  exact ⟨by simp [oddS,ht,hln,hon,(show 0<on by omega)],(Ext.refl w).alloc _ _⟩
 have gon:decide ((0:Int)<(on:Int))=false:=decide_eq_false (by omega)
 go_enter Tryz.func159,Tryz.ntmps159
 go_wp2_with fail
 go_ret
 exact ⟨by simp [oddS,ht,hln,hon],(Ext.refl w).alloc _ _⟩
theorem odd_k2 (w:World) (b:Bool) (i:Int) (t:ByteArray) (ln on lc oc:Nat) (la oa:Option Addr) :
  Calls Tryz.prog 159 #[.agg #[.int .i64 2,.bool b,.int .i64 i,.string t,.slice la ln lc,.slice oa on oc]] w fun e w'=>e=.returned (.bool (oddS 2 b i t ln on))∧Ext w w':=by
 by_cases hi:i=0
 rotate_left
 ·have gi:(i != 0)=true:=by simp [hi]
  go_enter Tryz.func159,Tryz.ntmps159
  go_wp2_with fail
  go_ret
  exact ⟨by simp [oddS,hi],(Ext.refl w).alloc _ _⟩
 subst hi
 by_cases ht:t.size=0
 rotate_left
 ·have gt:=full_text ht
  go_enter Tryz.func159,Tryz.ntmps159
  go_wp2_with fail
  go_ret
  exact ⟨by simp [oddS,ht],(Ext.refl w).alloc _ _⟩
 have gt:=empty_text ht
 by_cases hln:ln=0
 rotate_left
 ·have gln:(0:Int)<(ln:Int):=by omega
  have gln':decide ((0:Int)<(ln:Int))=true:=decide_eq_true gln
  go_enter Tryz.func159,Tryz.ntmps159
  go_wp2_with fail
  go_ret
  exact ⟨by simp [oddS,ht,hln,(show 0<ln by omega)],(Ext.refl w).alloc _ _⟩
 have gln:decide ((0:Int)<(ln:Int))=false:=decide_eq_false (by omega)
 by_cases hon:on=0
 rotate_left
 ·have gon:(0:Int)<(on:Int):=by omega
  have gon':decide ((0:Int)<(on:Int))=true:=decide_eq_true gon
  go_enter Tryz.func159,Tryz.ntmps159
  go_wp2_with fail
  go_ret
  exact ⟨by simp [oddS,ht,hln,hon,(show 0<on by omega)],(Ext.refl w).alloc _ _⟩
 have gon:decide ((0:Int)<(on:Int))=false:=decide_eq_false (by omega)
 go_enter Tryz.func159,Tryz.ntmps159
 go_wp2_with fail
 go_ret
 exact ⟨by simp [oddS,ht,hln,hon],(Ext.refl w).alloc _ _⟩
theorem odd_k3 (w:World) (b:Bool) (i:Int) (t:ByteArray) (ln on lc oc:Nat) (la oa:Option Addr) :
  Calls Tryz.prog 159 #[.agg #[.int .i64 3,.bool b,.int .i64 i,.string t,.slice la ln lc,.slice oa on oc]] w fun e w'=>e=.returned (.bool (oddS 3 b i t ln on))∧Ext w w':=by
 by_cases hb:b=true
 ·subst hb
  go_enter Tryz.func159,Tryz.ntmps159
  go_wp2_with fail
  go_ret
  exact ⟨by simp [oddS],(Ext.refl w).alloc _ _⟩
 obtain rfl:b=false:=by simpa using hb
 by_cases ht:t.size=0
 rotate_left
 ·have gt:=full_text ht
  go_enter Tryz.func159,Tryz.ntmps159
  go_wp2_with fail
  go_ret
  exact ⟨by simp [oddS,ht],(Ext.refl w).alloc _ _⟩
 have gt:=empty_text ht
 by_cases hln:ln=0
 rotate_left
 ·have gln:(0:Int)<(ln:Int):=by omega
  have gln':decide ((0:Int)<(ln:Int))=true:=decide_eq_true gln
  go_enter Tryz.func159,Tryz.ntmps159
  go_wp2_with fail
  go_ret
  exact ⟨by simp [oddS,ht,hln,(show 0<ln by omega)],(Ext.refl w).alloc _ _⟩
 have gln:decide ((0:Int)<(ln:Int))=false:=decide_eq_false (by omega)
 by_cases hon:on=0
 rotate_left
 ·have gon:(0:Int)<(on:Int):=by omega
  have gon':decide ((0:Int)<(on:Int))=true:=decide_eq_true gon
  go_enter Tryz.func159,Tryz.ntmps159
  go_wp2_with fail
  go_ret
  exact ⟨by simp [oddS,ht,hln,hon,(show 0<on by omega)],(Ext.refl w).alloc _ _⟩
 have gon:decide ((0:Int)<(on:Int))=false:=decide_eq_false (by omega)
 go_enter Tryz.func159,Tryz.ntmps159
 go_wp2_with fail
 go_ret
 exact ⟨by simp [oddS,ht,hln,hon],(Ext.refl w).alloc _ _⟩
theorem odd_k4 (w:World) (b:Bool) (i:Int) (t:ByteArray) (ln on lc oc:Nat) (la oa:Option Addr) :
  Calls Tryz.prog 159 #[.agg #[.int .i64 4,.bool b,.int .i64 i,.string t,.slice la ln lc,.slice oa on oc]] w fun e w'=>e=.returned (.bool (oddS 4 b i t ln on))∧Ext w w':=by
 by_cases hb:b=true
 ·subst hb
  go_enter Tryz.func159,Tryz.ntmps159
  go_wp2_with fail
  go_ret
  exact ⟨by simp [oddS],(Ext.refl w).alloc _ _⟩
 obtain rfl:b=false:=by simpa using hb
 by_cases hi:i=0
 rotate_left
 ·have gi:(i != 0)=true:=by simp [hi]
  go_enter Tryz.func159,Tryz.ntmps159
  go_wp2_with fail
  go_ret
  exact ⟨by simp [oddS,hi],(Ext.refl w).alloc _ _⟩
 subst hi
 by_cases hln:ln=0
 rotate_left
 ·have gln:(0:Int)<(ln:Int):=by omega
  have gln':decide ((0:Int)<(ln:Int))=true:=decide_eq_true gln
  go_enter Tryz.func159,Tryz.ntmps159
  go_wp2_with fail
  go_ret
  exact ⟨by simp [oddS,hln,(show 0<ln by omega)],(Ext.refl w).alloc _ _⟩
 have gln:decide ((0:Int)<(ln:Int))=false:=decide_eq_false (by omega)
 by_cases hon:on=0
 rotate_left
 ·have gon:(0:Int)<(on:Int):=by omega
  have gon':decide ((0:Int)<(on:Int))=true:=decide_eq_true gon
  go_enter Tryz.func159,Tryz.ntmps159
  go_wp2_with fail
  go_ret
  exact ⟨by simp [oddS,hln,hon,(show 0<on by omega)],(Ext.refl w).alloc _ _⟩
 have gon:decide ((0:Int)<(on:Int))=false:=decide_eq_false (by omega)
 go_enter Tryz.func159,Tryz.ntmps159
 go_wp2_with fail
 go_ret
 exact ⟨by simp [oddS,hln,hon],(Ext.refl w).alloc _ _⟩
theorem odd_k5 (w:World) (b:Bool) (i:Int) (t:ByteArray) (ln on lc oc:Nat) (la oa:Option Addr) :
  Calls Tryz.prog 159 #[.agg #[.int .i64 5,.bool b,.int .i64 i,.string t,.slice la ln lc,.slice oa on oc]] w fun e w'=>e=.returned (.bool (oddS 5 b i t ln on))∧Ext w w':=by
 by_cases hb:b=true
 ·subst hb
  go_enter Tryz.func159,Tryz.ntmps159
  go_wp2_with fail
  go_ret
  exact ⟨by simp [oddS],(Ext.refl w).alloc _ _⟩
 obtain rfl:b=false:=by simpa using hb
 by_cases hi:i=0
 rotate_left
 ·have gi:(i != 0)=true:=by simp [hi]
  go_enter Tryz.func159,Tryz.ntmps159
  go_wp2_with fail
  go_ret
  exact ⟨by simp [oddS,hi],(Ext.refl w).alloc _ _⟩
 subst hi
 by_cases ht:t.size=0
 rotate_left
 ·have gt:=full_text ht
  go_enter Tryz.func159,Tryz.ntmps159
  go_wp2_with fail
  go_ret
  exact ⟨by simp [oddS,ht],(Ext.refl w).alloc _ _⟩
 have gt:=empty_text ht
 by_cases hon:on=0
 rotate_left
 ·have gon:(0:Int)<(on:Int):=by omega
  have gon':decide ((0:Int)<(on:Int))=true:=decide_eq_true gon
  go_enter Tryz.func159,Tryz.ntmps159
  go_wp2_with fail
  go_ret
  exact ⟨by simp [oddS,ht,hon,(show 0<on by omega)],(Ext.refl w).alloc _ _⟩
 have gon:decide ((0:Int)<(on:Int))=false:=decide_eq_false (by omega)
 go_enter Tryz.func159,Tryz.ntmps159
 go_wp2_with fail
 go_ret
 exact ⟨by simp [oddS,ht,hon],(Ext.refl w).alloc _ _⟩
theorem odd_k6 (w:World) (b:Bool) (i:Int) (t:ByteArray) (ln on lc oc:Nat) (la oa:Option Addr) :
  Calls Tryz.prog 159 #[.agg #[.int .i64 6,.bool b,.int .i64 i,.string t,.slice la ln lc,.slice oa on oc]] w fun e w'=>e=.returned (.bool (oddS 6 b i t ln on))∧Ext w w':=by
 by_cases hb:b=true
 ·subst hb
  go_enter Tryz.func159,Tryz.ntmps159
  go_wp2_with fail
  go_ret
  exact ⟨by simp [oddS],(Ext.refl w).alloc _ _⟩
 obtain rfl:b=false:=by simpa using hb
 by_cases hi:i=0
 rotate_left
 ·have gi:(i != 0)=true:=by simp [hi]
  go_enter Tryz.func159,Tryz.ntmps159
  go_wp2_with fail
  go_ret
  exact ⟨by simp [oddS,hi],(Ext.refl w).alloc _ _⟩
 subst hi
 by_cases ht:t.size=0
 rotate_left
 ·have gt:=full_text ht
  go_enter Tryz.func159,Tryz.ntmps159
  go_wp2_with fail
  go_ret
  exact ⟨by simp [oddS,ht],(Ext.refl w).alloc _ _⟩
 have gt:=empty_text ht
 by_cases hln:ln=0
 rotate_left
 ·have gln:(0:Int)<(ln:Int):=by omega
  have gln':decide ((0:Int)<(ln:Int))=true:=decide_eq_true gln
  go_enter Tryz.func159,Tryz.ntmps159
  go_wp2_with fail
  go_ret
  exact ⟨by simp [oddS,ht,hln,(show 0<ln by omega)],(Ext.refl w).alloc _ _⟩
 have gln:decide ((0:Int)<(ln:Int))=false:=decide_eq_false (by omega)
 go_enter Tryz.func159,Tryz.ntmps159
 go_wp2_with fail
 go_ret
 exact ⟨by simp [oddS,ht,hln],(Ext.refl w).alloc _ _⟩
theorem odd_other (w:World) {k:Int} (hk:k<1∨6<k) (b:Bool) (i:Int) (t:ByteArray) (ln on lc oc:Nat) (la oa:Option Addr) :
  Calls Tryz.prog 159 #[.agg #[.int .i64 k,.bool b,.int .i64 i,.string t,.slice la ln lc,.slice oa on oc]] w fun e w'=>e=.returned (.bool (oddS k b i t ln on))∧Ext w w':=by
 have h1:(k == 1)=false:=by simp;omega
 have h2:(k == 2)=false:=by simp;omega
 have h3:(k == 3)=false:=by simp;omega
 have h4:(k == 4)=false:=by simp;omega
 have h5:(k == 5)=false:=by simp;omega
 have h6:(k == 6)=false:=by simp;omega
 have ho:oddS k b i t ln on=true:=by unfold oddS;rw [if_pos hk]
 rw [ho]
 clear hk ho
 go_enter Tryz.func159,Tryz.ntmps159
 go_wp2_with fail
 go_ret
 exact ⟨rfl,(Ext.refl w).alloc _ _⟩
theorem odd_any (w:World) (v:Val) (sl so:Sl):Calls Tryz.prog 159 #[aggV v sl so] w fun e w'=>e=.returned (.bool (oddV v))∧Ext w w':=by
 obtain ⟨k,b,i,t,l,ok,ov⟩:=v
 by_cases hk:k<1∨6<k
 ·exact odd_other w hk b i t _ _ _ _ _ _
 rcases (show k=1∨k=2∨k=3∨k=4∨k=5∨k=6 by omega) with rfl | rfl | rfl | rfl | rfl | rfl
 ·exact odd_k1 w b i t _ _ _ _ _ _
 ·exact odd_k2 w b i t _ _ _ _ _ _
 ·exact odd_k3 w b i t _ _ _ _ _ _
 ·exact odd_k4 w b i t _ _ _ _ _ _
 ·exact odd_k5 w b i t _ _ _ _ _ _
 exact odd_k6 w b i t _ _ _ _ _ _
mutual
/-- Why a value that stands so deep may not be (0: it may). -/
def mayV:Val→Nat→Int
 | .mk k b i t l ok ov,j=>if oddS k b i t l.length ok.length=true then 9 else if 64<j then 5 else if k=4 then (if Lib.validD t.data.toList then 0 else 3) else if k=5 then mayLV l (j+1) else if k=6 then mayM none ok ov (j+1) else 0
def mayLV:List Val→Nat→Int
 | [],_=>0
 | d :: r,j=>if mayV d j≠0 then mayV d j else mayLV r j
def mayM:Option ByteArray→List ByteArray→List Val→Nat→Int
 | _,_,[],_=>0
 | p,ks,d :: s,j=>if !Lib.validD (ks.headD ByteArray.empty).data.toList then 3 else if p.any (fun q=>!klt q (ks.headD ByteArray.empty)) then 8 else if mayV d j≠0 then mayV d j else mayM (some (ks.headD ByteArray.empty)) ks.tail s j
end
theorem mayL_at {l:List Val} {j:Nat} {i:Nat} {d:Val} (h:l[i]? = some d):mayLV (l.drop i) j=if mayV d j≠0 then mayV d j else mayLV (l.drop (i+1)) j:=by
 obtain ⟨h1,h2⟩:=List.getElem?_eq_some_iff.1 h
 rw [List.drop_eq_getElem_cons h1,h2,mayLV]
theorem klt_no {a b:ByteArray} (h:klt a b=true):Op.bytesLess b.toList a.toList=false:=by
 show klt b a=false
 cases hk:klt b a with
 | false=>rfl
 | true=>have:=klt_trans h hk;rw [klt_irrefl] at this;cases this
theorem text_ne {a b:ByteArray} (h:a≠b):(a.toList == b.toList)=false:=by
 rw [beq_eq_false_iff_ne]
 intro e
 rw [ByteArray.toList_eq,ByteArray.toList_eq] at e
 exact h (by cases a;cases b;congr 1;exact Array.toList_inj.1 e)
def prevK (ok:List ByteArray):Nat→Option ByteArray
 | 0=>none
 | j+1=>ok[j]?
theorem mayM_at {p:Option ByteArray} {ok:List ByteArray} {ov:List Val} {Q i:Nat} {d:Val} {k:ByteArray} (h:ov[i]? = some d) (hk:ok[i]? = some k):mayM p (ok.drop i) (ov.drop i) Q =
  if !Lib.validD k.data.toList then 3 else if p.any (fun q=>!klt q k) then 8 else if mayV d Q≠0 then mayV d Q else mayM (some k) (ok.drop (i+1)) (ov.drop (i+1)) Q:=by
 obtain ⟨h1,h2⟩:=List.getElem?_eq_some_iff.1 h
 obtain ⟨k1,k2⟩:=List.getElem?_eq_some_iff.1 hk
 rw [List.drop_eq_getElem_cons h1,h2,List.drop_eq_getElem_cons k1,k2,mayM,List.headD_cons,List.tail_cons]
theorem utfValid_any {w:World} (hL:Lib0 w) {k:ByteArray} (hk:k.size≤maxLen):Calls Tryz.prog 116 #[.string k] w fun e w'=>e=.returned (.bool (Lib.validD k.data.toList))∧Nw w w':=by
 have hv:=hL.val w (G5.refl w) k hk
 have HV:=Lib.hid hv
 clear hv hL
 go_enter Tryz.func116,Tryz.ntmps116
 go_wp2_with fail
 refine HV.out.mono ?_
 rintro e w' ⟨rfl,hn⟩
 have HN:=Lib.hid hn
 clear hn
 go_wp2_with fail
 go_ret
 exact ⟨rfl,HN.out⟩
theorem mayAt_any (m:Nat):∀ (d:Val),SizeOf.sizeOf d≤m→∀ (w:World) (sl so:Sl) (q:Nat),q≤65→RV w (Lt w.heap.size) d sl so→Lib0 w→
  Calls Tryz.prog 117 #[aggV d sl so,.int .i64 (q:Int)] w fun e w'=>e=.returned (.int .i64 (mayV d q))∧Nw w w':=by
 induction m with
 | zero=>intro d hd;have:=Val.sz_pos d;omega
 | succ m ih=>
 intro d hd w sl so q hq h hL
 have HI:=Lib.hid ih
 clear ih
 obtain ⟨k,b,i,t,l,ok,ov⟩:=d
 have hodd:=fun W=>odd_any W (.mk k b i t l ok ov) sl so
 show Calls _ _ #[.agg #[.int .i64 k,.bool b,.int .i64 i,.string t,.slice sl.a l.length sl.c,.slice so.a ok.length so.c],.int .i64 q] _ _
 have hrv:=h
 cases h with
 | mk bl fl bo fo cl co hl ho hov el rl ek eo ro bk bi bt nl no=>
 have hsl:∀ (j:Nat) (d:Val),l[j]? = some d→SizeOf.sizeOf d≤m:=fun j d hj=>Nat.le_of_lt_succ (Nat.lt_of_lt_of_le (Val.sz_l hj) hd)
 have hso:∀ (j:Nat) (d:Val),ov[j]? = some d→SizeOf.sizeOf d≤m:=fun j d hj=>Nat.le_of_lt_succ (Nat.lt_of_lt_of_le (Val.sz_o hj) hd)
 have hu:=fun W (hW:Nw w W)=>utfValid_any (hL.nw hW) bt
 have HSL:=Lib.hid hsl
 have HSO:=Lib.hid hso
 have HEL:=Lib.hid el
 have HRL:=Lib.hid rl
 have HEK:=Lib.hid ek
 have HEO:=Lib.hid eo
 have HRO:=Lib.hid ro
 have HOV:=Lib.hid hov
 have HL:=Lib.hid hL
 have HU:=Lib.hid hu
 have HODD:=Lib.hid hodd
 have HSLA:=Lib.hid hl
 have HSOA:=Lib.hid ho
 clear hsl hso el rl ek eo ro hov hd hL hu hodd hrv
 obtain ⟨r,hr⟩:∃ r,mayV (.mk k b i t l ok ov) q=r:=⟨_,rfl⟩
 rw [hr]
 unfold mayV at hr
 go_enter Tryz.func117,Tryz.ntmps117
 go_wp2_with fail
 have hx0:=(Ext.refl w).alloc #[.int .i64 k,.bool b,.int .i64 i,.string t,.slice sl.a l.length sl.c,.slice so.a ok.length so.c] 28
 have hb0:=Blk.new w 28 #[.int .i64 k,.bool b,.int .i64 i,.string t,.slice sl.a l.length sl.c,.slice so.a ok.length so.c]
 refine (HODD.out _).mono ?_
 rintro e w1 ⟨rfl,hx1⟩
 obtain ⟨q0,q1,q2,q3,q4,q5⟩:=(hb0.ext hx1).c6
 have lq:=(hb0.ext hx1).lt
 have HX:=Lib.hid (hx0.trans hx1)
 have HB:=Lib.hid (hb0.ext hx1)
 clear hx0 hx1 hb0 HODD
 unfold oddV
 dsimp only [Val.kind,Val.b,Val.i,Val.t,Val.l,Val.ok]
 by_cases hod:oddS k b i t l.length ok.length=true
 ·rw [if_pos hod] at hr
  subst hr
  rw [hod]
  go_wp2_with fail
  go_ret
  exact ⟨rfl,Nw.of HX.out⟩
 rw [if_neg hod] at hr
 rw [show oddS k b i t l.length ok.length=false by simpa using hod]
 by_cases hq64:64<q
 ·rw [if_pos hq64] at hr
  subst hr
  have g0:decide ((64:Int)<(q:Int))=true:=decide_eq_true (by omega)
  go_wp2_with fail
  go_ret
  exact ⟨rfl,Nw.of HX.out⟩
 rw [if_neg hq64] at hr
 have g0:decide ((64:Int)<(q:Int))=false:=decide_eq_false (by omega)
 by_cases h4:k=4
 ·subst h4
  rw [if_pos rfl] at hr
  go_wp2_with fail
  refine (HU.out _ (Nw.of HX.out)).mono ?_
  rintro e w2 ⟨rfl,hn2⟩
  have HN2:=Lib.hid ((Nw.of HX.out).trans hn2)
  clear hn2
  cases hv:Lib.validD t.data.toList with
  | true=>
    rw [hv,if_pos rfl] at hr
    subst hr
    go_wp2_with fail
    go_ret
    exact ⟨rfl,HN2.out⟩
  | false=>
    rw [hv,if_neg (by decide)] at hr
    subst hr
    go_wp2_with fail
    go_ret
    exact ⟨rfl,HN2.out⟩
 rw [if_neg h4] at hr
 have g4:(k == 4)=false:=by simpa using h4
 by_cases h5:k=5
 ·subst h5
  rw [if_pos rfl] at hr
  go_wp2_with fail
  go_loopw [30] (fun qq wr=>∃ j:Nat,qq=.int .i64 j∧j≤l.length∧mayLV (l.drop j) (q+1)=r∧Nw w1 wr) (fun qq _=>l.length - (intOf qq).toNat)
  case atStart=>exact ⟨0,rfl,Nat.zero_le _,hr,Sb.refl _ _⟩
  obtain ⟨j,rfl,hj,hm,hn⟩:=hrel
  by_cases hlt:j<l.length
  ·have g1:(j:Int)<(l.length:Int):=by omega
   have g1':decide ((j:Int)<(l.length:Int))=true:=decide_eq_true g1
   obtain ⟨d,hd⟩:∃ d,l[j]? = some d:=⟨_,List.getElem?_eq_getElem hlt⟩
   have hnw:Nw w wr:=(Nw.of HX.out).trans hn
   have hag:Agree (Lt w.heap.size) w wr:=Nw.agree hnw fun _ h=>h
   obtain ⟨hsa,hlc,hcm⟩:=HSLA.out.eq (by omega)
   have hbl:=HSLA.out.fits (show 0<l.length by omega)
   obtain ⟨sa,sc⟩:=sl
   dsimp only at hsa hlc hcm
   subst hsa
   obtain ⟨v0,v1,v2,v3,v4,v5⟩:=(HEL.out j d hd).agree hag hbl
   have lb:bl<wr.heap.size:=Nat.lt_of_lt_of_le hbl hnw.size
   have hic:∀ W,Nw wr W→Calls Tryz.prog 117 #[aggV d (cl j).1 (cl j).2,.int .i64 ((q:Int)+1)] W fun e w'=>e=.returned (.int .i64 (mayV d (q+1)))∧Nw W w':=fun W hW=>by
    rw [show (q:Int)+1=((q+1:Nat):Int) by omega]
    exact HI.out d (HSL.out j d hd) W _ _ (q+1) (by omega) (((HRL.out j d hd).agree (hag.trans (Nw.agree hW fun _ h=>Nat.lt_of_lt_of_le h hnw.size))).mono fun i hi=>Nat.lt_of_lt_of_le hi (Nat.le_trans hnw.size hW.size)) (HL.out.nw (hnw.trans hW))
   have hat:=mayL_at (j:=q+1) hd
   rw [hm] at hat
   have g2:IntKind.i64.wrap ((q:Int)+1)=(q:Int)+1:=by rw [IntKind.wrap_i64];omega
   have HIC:=Lib.hid hic
   have HAT:=Lib.hid hat
   have HN:=Lib.hid hn
   clear hd hnw hag hic hat hn hm
   go_wp2_with fail
   have hx3:=(Ext.refl wr).alloc #[.int .i64 d.kind,.bool d.b,.int .i64 d.i,.string d.t,.slice (cl j).1.a d.l.length (cl j).1.c,.slice (cl j).2.a d.ok.length (cl j).2.c] 28
   refine (HIC.out _ (Nw.of hx3)).mono ?_
   rintro e w3 ⟨rfl,hn3⟩
   have HN3:=Lib.hid ((HN.out.trans (Nw.of hx3)).trans hn3)
   have hat:=HAT.out
   clear hx3 hn3 v0 v1 v2 v3 v4 v5 HIC HAT HN
   generalize mayV d (q+1)=c at hat
   by_cases hc:c=0
   ·subst hc
    rw [if_neg (by simp)] at hat
    have HAT:=Lib.hid hat.symm
    clear hat
    go_wp2_with fail
    go_roundw
    case rel=>exact ⟨j+1,by go_num,hlt,HAT.out,HN3.out⟩
    simp [intOf];omega
   rw [if_pos hc] at hat
   subst hat
   have g3:(r != 0)=true:=by simpa using hc
   have HX1:=Lib.hid ((Nw.of HX.out).trans HN3.out)
   clear hc
   go_wp2_with fail
   go_ret
   exact ⟨rfl,HX1.out⟩
  obtain rfl:j=l.length:=by omega
  have g1:decide ((l.length:Int)<(l.length:Int))=false:=decide_eq_false (by omega)
  have hz:r=0:=by rw [←hm,List.drop_length,mayLV]
  subst hz
  have HN:=Lib.hid ((Nw.of HX.out).trans hn)
  clear hn hm
  go_wp2_with fail
  go_ret
  exact ⟨rfl,HN.out⟩
 rw [if_neg h5] at hr
 have g5:(k == 5)=false:=by simpa using h5
 by_cases h6:k=6
 ·subst h6
  rw [if_pos rfl] at hr
  go_wp2_with fail
  go_loopw [47] (fun qq wr=>∃ j:Nat,qq=.int .i64 j∧j≤ok.length∧mayM (prevK ok j) (ok.drop j) (ov.drop j) (q+1)=r∧Nw w1 wr) (fun qq _=>ok.length - (intOf qq).toNat)
  case atStart=>exact ⟨0,rfl,Nat.zero_le _,hr,Sb.refl _ _⟩
  obtain ⟨j,rfl,hj,hm,hn⟩:=hrel
  by_cases hlt:j<ok.length
  ·have g1:(j:Int)<(ok.length:Int):=by omega
   have g1':decide ((j:Int)<(ok.length:Int))=true:=decide_eq_true g1
   obtain ⟨kk,hk⟩:∃ kk,ok[j]? = some kk:=⟨_,List.getElem?_eq_getElem hlt⟩
   obtain ⟨d,hd⟩:∃ d,ov[j]? = some d:=⟨_,List.getElem?_eq_getElem (by rw [HOV.out];exact hlt)⟩
   have hnw:Nw w wr:=(Nw.of HX.out).trans hn
   have hag:Agree (Lt w.heap.size) w wr:=Nw.agree hnw fun _ h=>h
   obtain ⟨hsa,hlc,hcm⟩:=HSOA.out.eq (by omega)
   have hbl:=HSOA.out.fits (show 0<ok.length by omega)
   obtain ⟨sa,sc⟩:=so
   dsimp only at hsa hlc hcm
   subst hsa
   obtain ⟨v0,v1,v2,v3,v4,v5⟩:=(HEO.out j d hd).agree hag hbl
   have lb:bo<wr.heap.size:=Nat.lt_of_lt_of_le hbl hnw.size
   have kc:wr.cell? ⟨bo,fo+j*7,none⟩=some (.string kk):=(hag.cell hbl).trans (HEK.out j kk hk).1
   have hks:=(HEK.out j kk hk).2
   have hic:∀ W,Nw wr W→Calls Tryz.prog 117 #[aggV d (co j).1 (co j).2,.int .i64 ((q:Int)+1)] W fun e w'=>e=.returned (.int .i64 (mayV d (q+1)))∧Nw W w':=fun W hW=>by
    rw [show (q:Int)+1=((q+1:Nat):Int) by omega]
    exact HI.out d (HSO.out j d hd) W _ _ (q+1) (by omega) (((HRO.out j d hd).agree (hag.trans (Nw.agree hW fun _ h=>Nat.lt_of_lt_of_le h hnw.size))).mono fun i hi=>Nat.lt_of_lt_of_le hi (Nat.le_trans hnw.size hW.size)) (HL.out.nw (hnw.trans hW))
   have huk:∀ W,Nw wr W→Calls Tryz.prog 116 #[.string kk] W fun e w'=>e=.returned (.bool (Lib.validD kk.data.toList))∧Nw W w':=fun W hW=>utfValid_any (HL.out.nw (hnw.trans hW)) hks
   have hat:=mayM_at (p:=prevK ok j) (Q:=q+1) hd hk
   rw [hm] at hat
   have g2:IntKind.i64.wrap ((q:Int)+1)=(q:Int)+1:=by rw [IntKind.wrap_i64];omega
   have HIC:=Lib.hid hic
   have HAT:=Lib.hid hat
   have HUK:=Lib.hid huk
   have HN:=Lib.hid hn
   have HKJ:=Lib.hid hk
   have HAG:=Lib.hid (And.intro hag hbl)
   clear hd hnw hag hic hat hn hm huk hk hks
   go_wp2_with fail
   have hx3:=(Ext.refl wr).alloc #[.string kk,.int .i64 d.kind,.bool d.b,.int .i64 d.i,.string d.t,.slice (co j).1.a d.l.length (co j).1.c,.slice (co j).2.a d.ok.length (co j).2.c] 123
   have hb9:=Blk.new wr 123 #[.string kk,.int .i64 d.kind,.bool d.b,.int .i64 d.i,.string d.t,.slice (co j).1.a d.l.length (co j).1.c,.slice (co j).2.a d.ok.length (co j).2.c]
   refine (HUK.out _ (Nw.of hx3)).mono ?_
   rintro e w3 ⟨rfl,hn3⟩
   have hw3:=(HN.out.trans (Nw.of hx3)).trans hn3
   obtain ⟨u0,u1,u2,u3,u4,u5,u6⟩:=(Nw.blk hn3 hb9).c7
   have ul:=(Nw.blk hn3 hb9).lt
   have p5:w3.cell? ⟨w.heap.size,5,none⟩=some (.slice (some ⟨bo,fo,none⟩) ok.length sc):=(Nw.blk hw3 HB.out).cell 5
   have pl:=(Nw.blk hw3 HB.out).lt
   have HW3:=Lib.hid hw3
   have HR3:=Lib.hid ((Nw.of hx3).trans hn3)
   have hkp:∀ i y,j=i+1→ok[i]? = some y→w3.cell? ⟨bo,fo+i*7,none⟩=some (.string y):=fun i y _ hy=>
    (Nw.agree (((Nw.of HX.out).trans hw3)) (fun _ h=>h)).cell HAG.out.2 |>.trans (HEK.out i y hy).1
   have HKP:=Lib.hid hkp
   have lb3:bo<w3.heap.size:=by have:=HR3.out.size;omega
   have hat:=HAT.out
   clear hx3 hb9 hn3 hw3 v0 v1 v2 v3 v4 v5 kc HAT HUK HN hkp
   cases hv:Lib.validD kk.data.toList with
   | false=>
     rw [hv] at hat
     rw [if_pos (by decide)] at hat
     subst hat
     have HX1:=Lib.hid ((Nw.of HX.out).trans HW3.out)
     go_wp2_with fail
     go_ret
     exact ⟨rfl,HX1.out⟩
   | true=>
     rw [hv] at hat
     rw [if_neg (by decide)] at hat
     by_cases hj0:j=0
     ·subst hj0
      rw [show prevK ok 0=none from rfl,Option.any_none,if_neg (by decide)] at hat
      have gg:decide ((0:Int)<((0:Nat):Int))=false:=by decide
      have HAT:=Lib.hid hat
      clear hat
      go_wp2_with fail
      go_quiet (fail)
      go_wp2_with fail
      refine (HIC.out _ (HR3.out.trans (Nw.of ((Ext.refl w3).drewN _)))).mono ?_
      rintro e w4 ⟨rfl,hn4⟩
      have HN4:=Lib.hid ((HW3.out.trans (Nw.of ((Ext.refl w3).drewN _))).trans hn4)
      have hat:=HAT.out
      clear hn4 HIC HAT u0 u1 u2 u3 u4 u5 u6
      generalize mayV d (q+1)=c at hat
      by_cases hc:c=0
      ·subst hc
       rw [if_neg (by simp)] at hat
       have HAT:=Lib.hid hat.symm
       clear hat
       go_wp2_with fail
       go_roundw
       case rel=>exact ⟨0+1,by go_num,hlt,by rw [show prevK ok (0+1)=some kk from HKJ.out];exact HAT.out,HN4.out⟩
       simp [intOf];omega
      rw [if_pos hc] at hat
      subst hat
      have g3:(r != 0)=true:=by simpa using hc
      have HX1:=Lib.hid ((Nw.of HX.out).trans HN4.out)
      clear hc
      go_wp2_with fail
      go_ret
      exact ⟨rfl,HX1.out⟩
     obtain ⟨i,rfl⟩:∃ i,j=i+1:=⟨j - 1,by omega⟩
     obtain ⟨y,hy⟩:∃ y,ok[i]? = some y:=⟨_,List.getElem?_eq_getElem (by omega)⟩
     have pk:=HKP.out i y rfl hy
     rw [show prevK ok (i+1)=some y from hy,Option.any_some] at hat
     have gg:decide ((0:Int)<((i+1:Nat):Int))=true:=decide_eq_true (by omega)
     have gg':(0:Int)<((i+1:Nat):Int):=by omega
     have gs:IntKind.i64.wrap (((i+1:Nat):Int) - 1)=(i:Int):=by rw [IntKind.wrap_i64];omega
     have gi0:(0:Int)≤(i:Int):=by omega
     have gi1:(i:Int)<(ok.length:Int):=by omega
     cases hkl:klt y kk with
     | false=>
       rw [hkl,if_pos (by decide)] at hat
       subst hat
       have HX1:=Lib.hid ((Nw.of HX.out).trans HW3.out)
       cases hkr:klt kk y with
       | true=>
         have hbl:Op.bytesLess kk.toList y.toList=true:=hkr
         clear hy hj0 HKP
         go_wp2_with fail
         go_quiet (fail)
         go_wp2_with fail
         go_ret
         exact ⟨rfl,HX1.out.trans (Nw.of ((Ext.refl w3).drewN _))⟩
       | false=>
         obtain rfl:y=kk:=klt_total hkl hkr
         have hbl:Op.bytesLess y.toList y.toList=false:=hkl
         have hbe:(y.toList == y.toList)=true:=by simp
         clear hy hj0 HKP
         go_wp2_with fail
         go_quiet (fail)
         go_wp2_with fail
         go_ret
         exact ⟨rfl,HX1.out.trans (Nw.of ((Ext.refl w3).drewN _))⟩
     | true=>
       rw [hkl,if_neg (by decide)] at hat
       have hbl:Op.bytesLess kk.toList y.toList=false:=klt_no hkl
       have hbe:(kk.toList == y.toList)=false:=text_ne (fun e=>by rw [e,klt_irrefl] at hkl;cases hkl)
       have HAT:=Lib.hid hat
       clear hat hy hj0 HKP
       go_wp2_with fail
       go_quiet (fail)
       go_wp2_with fail
       refine (HIC.out _ (HR3.out.trans (Nw.of ((Ext.refl w3).drewN _)))).mono ?_
       rintro e w4 ⟨rfl,hn4⟩
       have HN4:=Lib.hid ((HW3.out.trans (Nw.of ((Ext.refl w3).drewN _))).trans hn4)
       have hat:=HAT.out
       clear hn4 HIC HAT u0 u1 u2 u3 u4 u5 u6
       generalize mayV d (q+1)=c at hat
       by_cases hc:c=0
       ·subst hc
        rw [if_neg (by simp)] at hat
        have HAT:=Lib.hid hat.symm
        clear hat
        go_wp2_with fail
        go_roundw
        case rel=>exact ⟨(i+1)+1,by go_num,hlt,by rw [show prevK ok ((i+1)+1)=some kk from HKJ.out];exact HAT.out,HN4.out⟩
        simp [intOf];omega
       rw [if_pos hc] at hat
       subst hat
       have g3:(r != 0)=true:=by simpa using hc
       have HX1:=Lib.hid ((Nw.of HX.out).trans HN4.out)
       clear hc
       go_wp2_with fail
       go_ret
       exact ⟨rfl,HX1.out⟩
  obtain rfl:j=ok.length:=by omega
  have g1:decide ((ok.length:Int)<(ok.length:Int))=false:=decide_eq_false (by omega)
  have hz:r=0:=by rw [←hm,←HOV.out,List.drop_length (l:=ov),mayM]
  subst hz
  have HN:=Lib.hid ((Nw.of HX.out).trans hn)
  clear hn hm
  go_wp2_with fail
  go_ret
  exact ⟨rfl,HN.out⟩
 rw [if_neg h6] at hr
 subst hr
 have g6:(k == 6)=false:=by simpa using h6
 go_wp2_with fail
 go_ret
 exact ⟨rfl,Nw.of HX.out⟩
theorem may_anyV {w:World} {v:Val} {sl so:Sl} (h:RV w (Lt w.heap.size) v sl so) (hL:Lib0 w):Calls Tryz.prog 69 #[aggV v sl so] w fun e w'=>e=.returned (.int .i64 (mayV v 1))∧Nw w w':=by
 have hx0:=(Ext.refl w).alloc #[.int .i64 v.kind,.bool v.b,.int .i64 v.i,.string v.t,.slice sl.a v.l.length sl.c,.slice so.a v.ok.length so.c] 28
 have ho:=mayAt_any _ v (Nat.le_refl _) (w.alloc (.cells #[.int .i64 v.kind,.bool v.b,.int .i64 v.i,.string v.t,.slice sl.a v.l.length sl.c,.slice so.a v.ok.length so.c] 28)) sl so 1 (by decide) ((h.agree (hx0.agree fun _ h=>h)).mono fun i hi=>Nat.lt_of_lt_of_le hi hx0.size) (hL.nw (Nw.of hx0))
 have HO:=Lib.hid ho
 have HX0:=Lib.hid hx0
 clear ho h hx0 hL
 go_enter Tryz.func69,Tryz.ntmps69
 go_wp2_with fail
 refine HO.out.mono ?_
 rintro e w1 ⟨rfl,hx1⟩
 have HX:=Lib.hid ((Nw.of HX0.out).trans hx1)
 clear hx1
 go_wp2_with fail
 go_ret
 exact ⟨rfl,HX.out⟩
mutual
/-- How deep a value is. -/
def deepV:Val→Nat
 | .mk k b i t l ok ov=>1+(if k=5 then deepL l else if k=6 then deepL ov else 0)
def deepL:List Val→Nat
 | []=>0
 | d :: r=>max (deepV d) (deepL r)
end
theorem deepL_take:∀ {l:List Val} {j:Nat} {d:Val},l[j]? = some d→deepL (l.take (j+1))=max (deepL (l.take j)) (deepV d)
 | [],j,d,h=>by simp at h
 | x :: r,0,d,h=>by
   simp at h;subst h
   simp [deepL]
 | x :: r,j+1,d,h=>by
   have h':r[j]? = some d:=by simpa using h
   rw [List.take_succ_cons,List.take_succ_cons,deepL,deepL,deepL_take h',Nat.max_assoc]
theorem deepL_le:∀ {l:List Val} {j:Nat} {d:Val},l[j]? = some d→deepV d≤deepL l
 | [],j,d,h=>by simp at h
 | x :: r,0,d,h=>by
   simp at h;subst h
   rw [deepL];exact Nat.le_max_left _ _
 | x :: r,j+1,d,h=>by
   have h':r[j]? = some d:=by simpa using h
   rw [deepL];exact Nat.le_trans (deepL_le h') (Nat.le_max_right _ _)
mutual
/-- What may be is at most 64 deep. -/
theorem deep_may:∀ (v:Val) (q:Nat),mayV v q=0→deepV v+q≤65
 | .mk k b i t l ok ov,q,h=>by
   unfold mayV at h
   unfold deepV
   split at h
   ·cases h
   split at h
   ·cases h
   split at h
   ·rename_i h4
    subst h4
    simp;omega
   split at h
   ·rename_i h5
    rw [if_pos h5]
    have:=deep_mayL l (q+1) h
    omega
   split at h
   ·rename_i h5 h6
    rw [if_neg h5,if_pos h6]
    have:=deep_mayM _ _ ov (q+1) h
    omega
   rename_i h5 h6
   rw [if_neg h5,if_neg h6]
   omega
theorem deep_mayL:∀ (l:List Val) (q:Nat),mayLV l q=0→deepL l+q≤65∨deepL l=0
 | [],q,h=>.inr rfl
 | d :: r,q,h=>by
   rw [mayLV] at h
   split at h
   ·rename_i h1;exact absurd h h1
   rename_i h1
   have h2:=deep_may d q (by simpa using h1)
   have h3:=deep_mayL r q h
   rw [deepL]
   left;omega
theorem deep_mayM:∀ (p:Option ByteArray) (ks:List ByteArray) (l:List Val) (q:Nat),mayM p ks l q=0→deepL l+q≤65∨deepL l=0
 | p,ks,[],q,h=>.inr rfl
 | p,ks,d :: r,q,h=>by
   rw [mayM] at h
   split at h
   ·cases h
   split at h
   ·cases h
   split at h
   ·rename_i h1;exact absurd h h1
   rename_i h1
   have h2:=deep_may d q (by simpa using h1)
   have h3:=deep_mayM _ _ r q h
   rw [deepL]
   left;omega
end
theorem deepAt_any (m:Nat):∀ (d:Val),SizeOf.sizeOf d≤m→deepV d≤1000000→∀ (w:World) (sl so:Sl),RV w (Lt w.heap.size) d sl so→
  Calls Tryz.prog 70 #[aggV d sl so] w fun e w'=>e=.returned (.int .i64 (deepV d:Int))∧Ext w w':=by
 induction m with
 | zero=>intro d hd;have:=Val.sz_pos d;omega
 | succ m ih=>
 intro d hd hdm w sl so h
 have HI:=Lib.hid ih
 clear ih
 obtain ⟨k,b,i,t,l,ok,ov⟩:=d
 show Calls _ _ #[.agg #[.int .i64 k,.bool b,.int .i64 i,.string t,.slice sl.a l.length sl.c,.slice so.a ok.length so.c]] _ _
 cases h with
 | mk bl fl bo fo cl co hl ho hov el rl ek eo ro bk bi bt nl no=>
 have hsl:∀ (j:Nat) (d:Val),l[j]? = some d→SizeOf.sizeOf d≤m:=fun j d hj=>Nat.le_of_lt_succ (Nat.lt_of_lt_of_le (Val.sz_l hj) hd)
 have hso:∀ (j:Nat) (d:Val),ov[j]? = some d→SizeOf.sizeOf d≤m:=fun j d hj=>Nat.le_of_lt_succ (Nat.lt_of_lt_of_le (Val.sz_o hj) hd)
 have HSL:=Lib.hid hsl
 have HSO:=Lib.hid hso
 have HEL:=Lib.hid el
 have HRL:=Lib.hid rl
 have HEO:=Lib.hid eo
 have HRO:=Lib.hid ro
 have HOV:=Lib.hid hov
 have HSLA:=Lib.hid hl
 have HSOA:=Lib.hid ho
 obtain ⟨r,hr⟩:∃ r,deepV (.mk k b i t l ok ov)=r:=⟨_,rfl⟩
 rw [hr] at hdm ⊢
 unfold deepV at hr
 clear hsl hso el rl eo ro hov hd
 go_enter Tryz.func70,Tryz.ntmps70
 by_cases h5:k=5
 ·subst h5
  rw [if_pos rfl] at hr
  go_wp2_with fail
  generalize hW0:World.alloc w _=w1
  have hx1:Ext w w1:=by rw [←hW0];exact (Ext.refl w).alloc _ _
  have HX:=Lib.hid hx1
  clear hW0 hx1
  go_loopw [3,15] (fun dp qq wr=>∃ j:Nat,dp=.int .i64 (deepL (l.take j):Int)∧qq=.int .i64 j∧j≤l.length∧Ext w1 wr) (fun _ qq _=>l.length - (intOf qq).toNat)
  case atStart=>exact ⟨0,rfl,rfl,Nat.zero_le _,Ext.refl _⟩
  obtain ⟨j,rfl,rfl,hj,hn⟩:=hrel
  by_cases hlt:j<l.length
  ·have g1:(j:Int)<(l.length:Int):=by omega
   have g1':decide ((j:Int)<(l.length:Int))=true:=decide_eq_true g1
   obtain ⟨d,hd⟩:∃ d,l[j]? = some d:=⟨_,List.getElem?_eq_getElem hlt⟩
   have hnw:Ext w wr:=HX.out.trans hn
   have hag:Agree (Lt w.heap.size) w wr:=hnw.agree fun _ h=>h
   obtain ⟨hsa,hlc,hcm⟩:=HSLA.out.eq (by omega)
   have hbl:=HSLA.out.fits (show 0<l.length by omega)
   obtain ⟨sa,sc⟩:=sl
   dsimp only at hsa hlc hcm
   subst hsa
   obtain ⟨v0,v1,v2,v3,v4,v5⟩:=(HEL.out j d hd).agree hag hbl
   have lb:bl<wr.heap.size:=Nat.lt_of_lt_of_le hbl hnw.size
   have hdd:=deepL_le hd
   have hic:∀ W,Ext wr W→Calls Tryz.prog 70 #[aggV d (cl j).1 (cl j).2] W fun e w'=>e=.returned (.int .i64 (deepV d:Int))∧Ext W w':=fun W hW=>
    HI.out d (HSL.out j d hd) (by omega) W _ _ (((HRL.out j d hd).agree (hag.trans (hW.agree fun _ h=>Nat.lt_of_lt_of_le h hnw.size))).mono fun i hi=>Nat.lt_of_lt_of_le hi (Nat.le_trans hnw.size hW.size))
   have htk:=deepL_take hd
   have HIC:=Lib.hid hic
   have HTK:=Lib.hid htk
   have HN:=Lib.hid hn
   clear hd hnw hag hic hn htk hdd
   go_wp2_with fail
   have hx3:=(Ext.refl wr).alloc #[.int .i64 d.kind,.bool d.b,.int .i64 d.i,.string d.t,.slice (cl j).1.a d.l.length (cl j).1.c,.slice (cl j).2.a d.ok.length (cl j).2.c] 28
   refine (HIC.out _ hx3).mono ?_
   rintro e w3 ⟨rfl,hn3⟩
   have HN3:=Lib.hid ((HN.out.trans hx3).trans hn3)
   clear hx3 hn3 v0 v1 v2 v3 v4 v5 HIC HN
   go_wp2_with fail
   go_roundw
   case rel=>exact ⟨j+1,by rw [HTK.out];go_num,by go_num,hlt,HN3.out⟩
   simp [intOf];omega
  obtain rfl:j=l.length:=by omega
  have g1:decide ((l.length:Int)<(l.length:Int))=false:=decide_eq_false (by omega)
  rw [List.take_length]
  have g2:IntKind.i64.wrap (1+(deepL l:Int))=1+(deepL l:Int):=by rw [IntKind.wrap_i64];omega
  have hz:(r:Int)=1+(deepL l:Int):=by omega
  have HZ:=Lib.hid hz
  have HN:=Lib.hid (HX.out.trans hn)
  clear hn hz
  go_wp2_with fail
  go_ret
  exact ⟨by rw [HZ.out];rfl,HN.out⟩
 rw [if_neg h5] at hr
 have g5:(k == 5)=false:=by simpa using h5
 by_cases h6:k=6
 ·subst h6
  rw [if_pos rfl] at hr
  go_wp2_with fail
  generalize hW0:World.alloc w _=w1
  have hx1:Ext w w1:=by rw [←hW0];exact (Ext.refl w).alloc _ _
  have HX:=Lib.hid hx1
  clear hW0 hx1
  go_loopw [3,29] (fun dp qq wr=>∃ j:Nat,dp=.int .i64 (deepL (ov.take j):Int)∧qq=.int .i64 j∧j≤ok.length∧Ext w1 wr) (fun _ qq _=>ok.length - (intOf qq).toNat)
  case atStart=>exact ⟨0,rfl,rfl,Nat.zero_le _,Ext.refl _⟩
  obtain ⟨j,rfl,rfl,hj,hn⟩:=hrel
  by_cases hlt:j<ok.length
  ·have g1:(j:Int)<(ok.length:Int):=by omega
   have g1':decide ((j:Int)<(ok.length:Int))=true:=decide_eq_true g1
   obtain ⟨kk,hk⟩:∃ kk,ok[j]? = some kk:=⟨_,List.getElem?_eq_getElem hlt⟩
   obtain ⟨d,hd⟩:∃ d,ov[j]? = some d:=⟨_,List.getElem?_eq_getElem (by rw [HOV.out];exact hlt)⟩
   have hnw:Ext w wr:=HX.out.trans hn
   have hag:Agree (Lt w.heap.size) w wr:=hnw.agree fun _ h=>h
   obtain ⟨hsa,hlc,hcm⟩:=HSOA.out.eq (by omega)
   have hbl:=HSOA.out.fits (show 0<ok.length by omega)
   obtain ⟨sa,sc⟩:=so
   dsimp only at hsa hlc hcm
   subst hsa
   obtain ⟨v0,v1,v2,v3,v4,v5⟩:=(HEO.out j d hd).agree hag hbl
   have lb:bo<wr.heap.size:=Nat.lt_of_lt_of_le hbl hnw.size
   have kc:wr.cell? ⟨bo,fo+j*7,none⟩=some (.string kk):=(hag.cell hbl).trans (ek j kk hk).1
   have hdd:=deepL_le hd
   have hic:∀ W,Ext wr W→Calls Tryz.prog 70 #[aggV d (co j).1 (co j).2] W fun e w'=>e=.returned (.int .i64 (deepV d:Int))∧Ext W w':=fun W hW=>
    HI.out d (HSO.out j d hd) (by omega) W _ _ (((HRO.out j d hd).agree (hag.trans (hW.agree fun _ h=>Nat.lt_of_lt_of_le h hnw.size))).mono fun i hi=>Nat.lt_of_lt_of_le hi (Nat.le_trans hnw.size hW.size))
   have htk:=deepL_take hd
   have HIC:=Lib.hid hic
   have HTK:=Lib.hid htk
   have HN:=Lib.hid hn
   clear hd hnw hag hic hn htk hdd hk
   go_wp2_with fail
   have hx3:=(Ext.refl wr).alloc #[.string kk,.int .i64 d.kind,.bool d.b,.int .i64 d.i,.string d.t,.slice (co j).1.a d.l.length (co j).1.c,.slice (co j).2.a d.ok.length (co j).2.c] 123
   refine (HIC.out _ hx3).mono ?_
   rintro e w3 ⟨rfl,hn3⟩
   have HN3:=Lib.hid ((HN.out.trans hx3).trans hn3)
   clear hx3 hn3 v0 v1 v2 v3 v4 v5 kc HIC HN
   go_wp2_with fail
   go_roundw
   case rel=>exact ⟨j+1,by rw [HTK.out];go_num,by go_num,hlt,HN3.out⟩
   simp [intOf];omega
  obtain rfl:j=ok.length:=by omega
  have g1:decide ((ok.length:Int)<(ok.length:Int))=false:=decide_eq_false (by omega)
  rw [←HOV.out,List.take_length]
  have g2:IntKind.i64.wrap (1+(deepL ov:Int))=1+(deepL ov:Int):=by rw [IntKind.wrap_i64];omega
  have hz:(r:Int)=1+(deepL ov:Int):=by omega
  have HZ:=Lib.hid hz
  have HN:=Lib.hid (HX.out.trans hn)
  clear hn hz
  go_wp2_with fail
  go_ret
  exact ⟨by rw [HZ.out];rfl,HN.out⟩
 rw [if_neg h6] at hr
 subst hr
 have g6:(k == 6)=false:=by simpa using h6
 go_wp2_with fail
 go_ret
 exact ⟨rfl,(Ext.refl w).alloc _ _⟩
theorem own6_any {w:World} {B:Nat} {a b:Value} {m:Nat} (hB:Blk w B 162 (wrC a b m)) (hm:m≤10000000) :
  Calls Tryz.prog 171 #[.pointer (some ⟨B,0,none⟩)] w fun e w'=>(∃ r,e=.returned r)∧Blk w' B 162 (wrC a b (m+4))∧Sb (fun c=>c=B) w w':=by
 have hj:=join_one (w:=w) ⟨#[110,117,108,108]⟩ hB hm (by decide)
 have HJ:=Lib.hid hj
 clear hj hB
 go_enter Tryz.func171,Tryz.ntmps171
 go_wp2_with fail
 refine HJ.out.mono ?_
 rintro e w1 ⟨⟨r,rfl⟩,hb1,hs1⟩
 have HB1:=Lib.hid hb1
 have HS1:=Lib.hid hs1
 clear hb1 hs1
 go_wp2_with fail
 go_end0
 exact ⟨⟨_,rfl⟩,HB1.out,HS1.out⟩
def lenB (x:Bool):Nat:=(ByteArray.mk (Lib.formatBool x).toArray).size
theorem lenB_eq (x:Bool):lenB x=if x then 4 else 5:=by cases x <;> decide
theorem own1_any {w:World} {V B:Nat} {a b:Value} {x:Bool} {m:Nat} {c0 c2 c3 c4 c5:Value} (hV:Blk w V 28 #[c0,.bool x,c2,c3,c4,c5]) (hB:Blk w B 162 (wrC a b m)) (hm:m≤10000000) :
  Calls Tryz.prog 160 #[.pointer (some ⟨B,0,none⟩),.pointer (some ⟨V,0,none⟩)] w fun e w'=>(∃ r,e=.returned r)∧Blk w' B 162 (wrC a b (m+lenB x))∧Sb (fun c=>c=B) w w':=by
 have hf:=fun W=>Any.strconv_FormatBool Tryz.layFormatBool x W
 have c1:w.cell? ⟨V,1,none⟩=some (.bool x):=hV.cell 1
 have HF:=Lib.hid hf
 have HB:=Lib.hid hB
 have HM:=Lib.hid hm
 clear hf hV hB hm
 go_enter Tryz.func160,Tryz.ntmps160
 go_wp2_with fail
 refine (HF.out _).mono ?_
 rintro e w1 ⟨rfl,rfl⟩
 have hj:=join_one (w:=w1) ⟨(Lib.formatBool x).toArray⟩ HB.out HM.out (by cases x <;> decide)
 have HJ:=Lib.hid hj
 clear hj c1
 go_wp2_with fail
 refine HJ.out.mono ?_
 rintro e w2 ⟨⟨r,rfl⟩,hb1,hs1⟩
 have HB1:=Lib.hid hb1
 have HS1:=Lib.hid hs1
 clear hb1 hs1
 go_wp2_with fail
 go_end0
 refine ⟨⟨_,rfl⟩,?_,HS1.out⟩
 exact HB1.out
end Go.Proofs.YtkhdiakpdafcdaaGreatDoor
namespace Go.Proofs.YtkhdiakpdafcdaaGreatDoor
open Go.RowKit Go.Maps Go.Sort Go.Shelf
set_option linter.unusedVariables false
def Tryz.layDecode_ren:Go.Shelf.Ren:=⟨fun | 197=>251 | 260=>258 | n=>n,fun | 9=>9 | 21=>21 | 3=>3 | 4=>4 | 5=>5 | 105=>285 | 119=>235 | 0=>0 | 46=>176 | 139=>238 | 138=>237 | n=>n,fun | 3=>0 | 4=>1 | n=>n⟩
theorem Tryz.layDecode:Go.Proofs.Lays.n197 Tryz.prog Tryz.layDecode_ren:={
 mixed:=by kernel_rfl
 f197:=Tryz.func251.trans (congrArg some (by kernel_rfl))
 f260:=Tryz.func258.trans (congrArg some (by kernel_rfl))
 t0:=Tryz.underlying0
 a0:=Tryz.isAgg0
 z0:=Tryz.sizeOf0
 v0:=Tryz.zeroValue0
 t3:=Tryz.underlying3
 a3:=Tryz.isAgg3
 z3:=Tryz.sizeOf3
 v3:=Tryz.zeroValue3
 t4:=Tryz.underlying4
 a4:=Tryz.isAgg4
 z4:=Tryz.sizeOf4
 v4:=Tryz.zeroValue4
 t5:=Tryz.underlying5
 a5:=Tryz.isAgg5
 z5:=Tryz.sizeOf5
 v5:=Tryz.zeroValue5
 t9:=Tryz.underlying9
 a9:=Tryz.isAgg9
 z9:=Tryz.sizeOf9
 v9:=Tryz.zeroValue9
 t21:=Tryz.underlying21
 a21:=Tryz.isAgg21
 z21:=Tryz.sizeOf21
 v21:=Tryz.zeroValue21
 t46:=Tryz.underlying176
 a46:=Tryz.isAgg176
 z46:=Tryz.sizeOf176
 v46:=Tryz.zeroValue176
 t105:=Tryz.underlying285
 a105:=Tryz.isAgg285
 z105:=Tryz.sizeOf285
 v105:=Tryz.zeroValue285
 t119:=Tryz.underlying235
 a119:=Tryz.isAgg235
 z119:=Tryz.sizeOf235
 t138:=Tryz.underlying237
 a138:=Tryz.isAgg237
 z138:=Tryz.sizeOf237
 v138:=Tryz.zeroValue237
 t139:=Tryz.underlying238
 a139:=Tryz.isAgg238
 z139:=Tryz.sizeOf238
 v139:=Tryz.zeroValue238
 g3:=by kernel_rfl
 g4:=by kernel_rfl }
def Tryz.layBuilderString_ren:Go.Shelf.Ren:=⟨fun | 169=>240 | n=>n,fun | 70=>157 | 9=>9 | 0=>0 | 72=>160 | 37=>158 | 127=>288 | 3=>3 | 5=>5 | n=>n,fun | n=>n⟩
theorem Tryz.layBuilderString:Go.Proofs.Lays.n169 Tryz.prog Tryz.layBuilderString_ren:={
 mixed:=by kernel_rfl
 f169:=Tryz.func240.trans (congrArg some (by kernel_rfl))
 t0:=Tryz.underlying0
 a0:=Tryz.isAgg0
 z0:=Tryz.sizeOf0
 v0:=Tryz.zeroValue0
 t3:=Tryz.underlying3
 a3:=Tryz.isAgg3
 z3:=Tryz.sizeOf3
 v3:=Tryz.zeroValue3
 t9:=Tryz.underlying9
 a9:=Tryz.isAgg9
 z9:=Tryz.sizeOf9
 v9:=Tryz.zeroValue9
 t37:=Tryz.underlying158
 a37:=Tryz.isAgg158
 z37:=Tryz.sizeOf158
 v37:=Tryz.zeroValue158
 t70:=Tryz.underlying157
 a70:=Tryz.isAgg157
 z70:=Tryz.sizeOf157
 v70:=Tryz.zeroValue157
 t72:=Tryz.underlying160
 a72:=Tryz.isAgg160
 z72:=Tryz.sizeOf160
 v72:=Tryz.zeroValue160
 t127:=Tryz.underlying288
 a127:=Tryz.isAgg288
 z127:=Tryz.sizeOf288
 v127:=Tryz.zeroValue288 }
def Tryz.layWriteString_ren:Go.Shelf.Ren:=⟨fun | 166=>207 | 167=>235 | 168=>238 | 240=>230 | 276=>245 | 242=>252 | 278=>259 | n=>n,fun | 37=>158 | 70=>157 | 72=>160 | 75=>240 | 80=>187 | 164=>279 | 46=>176 | 51=>217 | n=>n,fun | n=>n⟩
theorem Tryz.layWriteString:Go.Proofs.Lays.n166 Tryz.prog Tryz.layWriteString_ren:={
 mixed:=by kernel_rfl
 f166:=Tryz.func207.trans (congrArg some (by kernel_rfl))
 f240:=Tryz.func230.trans (congrArg some (by kernel_rfl))
 f276:=Tryz.func245.trans (congrArg some (by kernel_rfl))
 t0:=Tryz.underlying0
 a0:=Tryz.isAgg0
 z0:=Tryz.sizeOf0
 v0:=Tryz.zeroValue0
 t3:=Tryz.underlying3
 a3:=Tryz.isAgg3
 z3:=Tryz.sizeOf3
 v3:=Tryz.zeroValue3
 t4:=Tryz.underlying4
 a4:=Tryz.isAgg4
 z4:=Tryz.sizeOf4
 v4:=Tryz.zeroValue4
 t9:=Tryz.underlying9
 a9:=Tryz.isAgg9
 z9:=Tryz.sizeOf9
 v9:=Tryz.zeroValue9
 t20:=Tryz.underlying20
 a20:=Tryz.isAgg20
 z20:=Tryz.sizeOf20
 v20:=Tryz.zeroValue20
 t37:=Tryz.underlying158
 a37:=Tryz.isAgg158
 z37:=Tryz.sizeOf158
 v37:=Tryz.zeroValue158
 t70:=Tryz.underlying157
 a70:=Tryz.isAgg157
 z70:=Tryz.sizeOf157
 v70:=Tryz.zeroValue157
 t72:=Tryz.underlying160
 a72:=Tryz.isAgg160
 z72:=Tryz.sizeOf160
 v72:=Tryz.zeroValue160
 t75:=Tryz.underlying240
 a75:=Tryz.isAgg240
 z75:=Tryz.sizeOf240
 v75:=Tryz.zeroValue240
 t164:=Tryz.underlying279
 a164:=Tryz.isAgg279
 z164:=Tryz.sizeOf279
 v164:=Tryz.zeroValue279 }
def Tryz.layWriteByte_ren:Go.Shelf.Ren:=⟨fun | 166=>207 | 167=>235 | 168=>238 | 240=>230 | 276=>245 | 242=>252 | 278=>259 | n=>n,fun | 37=>158 | 70=>157 | 72=>160 | 75=>240 | 80=>187 | 164=>279 | 46=>176 | 51=>217 | n=>n,fun | n=>n⟩
theorem Tryz.layWriteByte:Go.Proofs.Lays.n167 Tryz.prog Tryz.layWriteByte_ren:={
 mixed:=by kernel_rfl
 f167:=Tryz.func235.trans (congrArg some (by kernel_rfl))
 f240:=Tryz.func230.trans (congrArg some (by kernel_rfl))
 f276:=Tryz.func245.trans (congrArg some (by kernel_rfl))
 t0:=Tryz.underlying0
 a0:=Tryz.isAgg0
 z0:=Tryz.sizeOf0
 v0:=Tryz.zeroValue0
 t4:=Tryz.underlying4
 a4:=Tryz.isAgg4
 z4:=Tryz.sizeOf4
 v4:=Tryz.zeroValue4
 t5:=Tryz.underlying5
 a5:=Tryz.isAgg5
 z5:=Tryz.sizeOf5
 v5:=Tryz.zeroValue5
 t9:=Tryz.underlying9
 a9:=Tryz.isAgg9
 z9:=Tryz.sizeOf9
 v9:=Tryz.zeroValue9
 t20:=Tryz.underlying20
 a20:=Tryz.isAgg20
 z20:=Tryz.sizeOf20
 v20:=Tryz.zeroValue20
 t37:=Tryz.underlying158
 a37:=Tryz.isAgg158
 z37:=Tryz.sizeOf158
 v37:=Tryz.zeroValue158
 t70:=Tryz.underlying157
 a70:=Tryz.isAgg157
 z70:=Tryz.sizeOf157
 v70:=Tryz.zeroValue157
 t72:=Tryz.underlying160
 a72:=Tryz.isAgg160
 z72:=Tryz.sizeOf160
 v72:=Tryz.zeroValue160
 t75:=Tryz.underlying240
 a75:=Tryz.isAgg240
 z75:=Tryz.sizeOf240
 v75:=Tryz.zeroValue240
 t164:=Tryz.underlying279
 a164:=Tryz.isAgg279
 z164:=Tryz.sizeOf279
 v164:=Tryz.zeroValue279 }
def Tryz.layWriteRune_ren:Go.Shelf.Ren:=⟨fun | 166=>207 | 167=>235 | 168=>238 | 240=>230 | 276=>245 | 242=>252 | 278=>259 | n=>n,fun | 37=>158 | 70=>157 | 72=>160 | 75=>240 | 80=>187 | 164=>279 | 46=>176 | 51=>217 | n=>n,fun | n=>n⟩
theorem Tryz.layWriteRune:Go.Proofs.Lays.n168 Tryz.prog Tryz.layWriteRune_ren:={
 mixed:=by kernel_rfl
 f168:=Tryz.func238.trans (congrArg some (by kernel_rfl))
 f240:=Tryz.func230.trans (congrArg some (by kernel_rfl))
 f242:=Tryz.func252.trans (congrArg some (by kernel_rfl))
 f276:=Tryz.func245.trans (congrArg some (by kernel_rfl))
 f278:=Tryz.func259.trans (congrArg some (by kernel_rfl))
 t0:=Tryz.underlying0
 a0:=Tryz.isAgg0
 z0:=Tryz.sizeOf0
 v0:=Tryz.zeroValue0
 t3:=Tryz.underlying3
 a3:=Tryz.isAgg3
 z3:=Tryz.sizeOf3
 v3:=Tryz.zeroValue3
 t4:=Tryz.underlying4
 a4:=Tryz.isAgg4
 z4:=Tryz.sizeOf4
 v4:=Tryz.zeroValue4
 t5:=Tryz.underlying5
 a5:=Tryz.isAgg5
 z5:=Tryz.sizeOf5
 v5:=Tryz.zeroValue5
 t9:=Tryz.underlying9
 a9:=Tryz.isAgg9
 z9:=Tryz.sizeOf9
 v9:=Tryz.zeroValue9
 t20:=Tryz.underlying20
 a20:=Tryz.isAgg20
 z20:=Tryz.sizeOf20
 v20:=Tryz.zeroValue20
 t21:=Tryz.underlying21
 a21:=Tryz.isAgg21
 z21:=Tryz.sizeOf21
 v21:=Tryz.zeroValue21
 t37:=Tryz.underlying158
 a37:=Tryz.isAgg158
 z37:=Tryz.sizeOf158
 v37:=Tryz.zeroValue158
 t46:=Tryz.underlying176
 a46:=Tryz.isAgg176
 z46:=Tryz.sizeOf176
 v46:=Tryz.zeroValue176
 t51:=Tryz.underlying217
 a51:=Tryz.isAgg217
 z51:=Tryz.sizeOf217
 v51:=Tryz.zeroValue217
 t70:=Tryz.underlying157
 a70:=Tryz.isAgg157
 z70:=Tryz.sizeOf157
 v70:=Tryz.zeroValue157
 t72:=Tryz.underlying160
 a72:=Tryz.isAgg160
 z72:=Tryz.sizeOf160
 v72:=Tryz.zeroValue160
 t75:=Tryz.underlying240
 a75:=Tryz.isAgg240
 z75:=Tryz.sizeOf240
 v75:=Tryz.zeroValue240
 t164:=Tryz.underlying279
 a164:=Tryz.isAgg279
 z164:=Tryz.sizeOf279
 v164:=Tryz.zeroValue279 }
end Go.Proofs.YtkhdiakpdafcdaaGreatDoor
namespace Go.Proofs.YtkhdiakpdafcdaaGreatDoor
open Go.RowKit Go.Maps Go.Shelf
set_option linter.unusedVariables false
set_option linter.unusedSimpArgs false
theorem nw_growO (w:World) (os:Array Obj):Nw w (Go.Sort.grow w os):=
 ⟨rfl,rfl,rfl,by simp [Go.Sort.grow],fun i hi _=>by simp [Go.Sort.grow,Array.getElem?_append_left hi]⟩
theorem fmt_any {w:World} (n:Int) (h0 : -9223372036854775808≤n) (h1:n≤9223372036854775807) (ht:Lib.TabIs Tryz.prog w "internal/strconv.uint64pow10" .u64 Lib.pow10Tab):FmtOK n w:=
 (Any.strconv_FormatInt_10 Tryz.layFormatInt n h0 h1 w ht).mono fun e w' h=>by
   obtain ⟨he,k,os,rfl⟩:=h
   exact ⟨_,he,by have:=Lib.itoa_length_le n h0 h1;simpa [ByteArray.size] using this,(Nw.of ((Ext.refl w).drewN k)).trans (nw_growO _ os)⟩
theorem val_any {w:World} (s:ByteArray) (hs:s.size≤maxLen) (hT:Lib.Utf8Tabs 0 1 w):Calls Tryz.prog 158 #[.string s] w fun e w'=>e=.returned (.bool (Lib.validD s.data.toList))∧Nw w w':=
 (Any.utf8_ValidString Tryz.layValid s w (Nat.le_trans hs (by decide)) hT).mono fun e w' h=>⟨h.1,Sb.new h.2⟩
theorem tab_g6 {w W:World} (h:G5 w W) (ht:Lib.TabIs Tryz.prog w "internal/strconv.uint64pow10" .u64 Lib.pow10Tab):Lib.TabIs Tryz.prog W "internal/strconv.uint64pow10" .u64 Lib.pow10Tab:=by
 have hg:Tryz.prog.globalNamed "internal/strconv.uint64pow10" =some 3:=by kernel_rfl
 unfold Lib.TabIs World.var? at *
 rw [hg] at ht ⊢
 simp only [Option.bind_some] at ht ⊢
 rw [h 3 (by decide)]
 exact ht
theorem u8_g6 {w W:World} (h:G5 w W) (ht:Lib.Utf8Tabs 0 1 w):Lib.Utf8Tabs 0 1 W:=by
 have hc:∀ b o,b<6→W.cell? ⟨b,o,none⟩=w.cell? ⟨b,o,none⟩:=fun b o hb=>World.cell?_of_block (w:=w) (a:=⟨b,o,none⟩) (h b hb)
 exact ⟨fun c h=>(hc 0 _ (by decide)).trans (ht.1 c h),fun i h=>⟨(hc 1 _ (by decide)).trans (ht.2 i h).1,(hc 1 _ (by decide)).trans (ht.2 i h).2⟩⟩
theorem first_eqO:Go.Pinned.utf8First=Lib.firstData:=by kernel_rfl
theorem accept_eqO:(Rows.laid_unicode_utf8_acceptRanges:DataW Unit)=Lib.acceptData:=by kernel_rfl
theorem pow_eqO:(Rows.laid_internal_strconv_uint64pow10:DataW Unit)=Lib.tabData .u64 Lib.pow10Tab:=by kernel_rfl
theorem n0:Tryz.prog.globalNamed "unicode/utf8.first" =some 0:=by kernel_rfl
theorem n1:Tryz.prog.globalNamed "unicode/utf8.acceptRanges" =some 1:=by kernel_rfl
theorem n3:Tryz.prog.globalNamed "internal/strconv.uint64pow10" =some 3:=by kernel_rfl
theorem n5:Tryz.prog.globalNamed "math/bits.deBruijn64tab" =some 5:=by kernel_rfl
theorem ty0:(Tryz.prog.globals[0]?).map (·.type)=some 235:=by kernel_rfl
theorem ty1:(Tryz.prog.globals[1]?).map (·.type)=some 238:=by kernel_rfl
theorem ty3:(Tryz.prog.globals[3]?).map (·.type)=some 282:=by kernel_rfl
theorem c5:Tryz.prog.cellsOf 5=1:=by kernel_rfl
theorem c187:Tryz.prog.cellsOf 219=1:=by kernel_rfl
theorem c219:Tryz.prog.cellsOf 235=256:=by kernel_rfl
theorem c221:Tryz.prog.cellsOf 237=2:=by kernel_rfl
theorem c252:Tryz.prog.cellsOf 282=20:=by kernel_rfl
abbrev laid5:List (String × DataW Unit):=[("math/bits.deBruijn32tab",Rows.laid_math_bits_deBruijn32tab),("math/bits.deBruijn64tab",Rows.laid_math_bits_deBruijn64tab),("internal/strconv.uint64pow10",Rows.laid_internal_strconv_uint64pow10),("unicode/utf8.acceptRanges",Rows.laid_unicode_utf8_acceptRanges),("unicode/utf8.first",Rows.laid_unicode_utf8_first)]
theorem reads_u8 {w:World} (h3:Lib.VarReads Tryz.prog w "unicode/utf8.first" Lib.firstData) (h4:Lib.VarReads Tryz.prog w "unicode/utf8.acceptRanges" Lib.acceptData):Lib.Utf8Tabs 0 1 w:=by
 refine ⟨fun c hc=>?_,fun i hi=>?_⟩
 ·obtain ⟨g,t,cs,fuel,p,hg,hty,hvar,hd⟩:=h3
  obtain rfl:=Option.some.inj (n0.symm.trans hg)
  obtain rfl:=Option.some.inj (ty0.symm.trans hty)
  have hcs:=Lib.cells_of_tab Tryz.underlying235 Tryz.underlying5 c5 c219 hd
  rw [World.var?_cell hg hvar c,←Array.getElem?_toList,hcs]
  simp [Lib.firstTab,hc]
 obtain ⟨g,t,cs,fuel,p,hg,hty,hvar,hd⟩:=h4
 obtain rfl:=Option.some.inj (n1.symm.trans hg)
 obtain rfl:=Option.some.inj (ty1.symm.trans hty)
 obtain ⟨fuel',d,q,hdi,he⟩:=Lib.array_elem Tryz.underlying238 hd i hi
 simp only [List.getElem?_map,List.getElem?_range hi,Option.map_some,Option.some.injEq] at hdi
 subst hdi
 rw [c221] at he
 have hcs:=Lib.ints_of_struct Tryz.underlying237 (fun j f hj=>by
  match j,hj with
  | 0,hj=>simp at hj;subst hj;exact ⟨Tryz.underlying5,rfl,c5⟩
  | 1,hj=>simp at hj;subst hj;exact ⟨Tryz.underlying5,rfl,c5⟩
  | j+2,hj=>simp at hj) (by rw [c221];rfl) he
 have e0:=congrArg (·[0]?) hcs
 have e1:=congrArg (·[1]?) hcs
 simp only [List.getElem?_take,List.getElem?_drop] at e0 e1
 constructor
 ·rw [World.var?_cell hg hvar (2*i),←Array.getElem?_toList]
  simpa [Nat.mul_comm] using e0
 rw [World.var?_cell hg hvar (2*i+1),←Array.getElem?_toList]
 simpa [Nat.mul_comm] using e1
theorem reads_pow {w:World} (h:Lib.VarReads Tryz.prog w "internal/strconv.uint64pow10" (Lib.tabData .u64 Lib.pow10Tab)):Lib.TabIs Tryz.prog w "internal/strconv.uint64pow10" .u64 Lib.pow10Tab:=by
 obtain ⟨g,t,cs,fuel,p,hg,hty,hvar,hd⟩:=h
 obtain rfl:=Option.some.inj (n3.symm.trans hg)
 obtain rfl:=Option.some.inj (ty3.symm.trans hty)
 unfold Lib.TabIs
 rw [hvar,←Lib.cells_of_tab Tryz.underlying282 Tryz.underlying219 c187 c252 hd]
theorem reads_big {w:World} {d:DataW Unit} (h:Lib.VarReads Tryz.prog w "math/bits.deBruijn64tab" d):6≤w.heap.size:=by
 obtain ⟨g,t,cs,fuel,p,hg,hty,hvar,hd⟩:=h
 unfold World.var? at hvar
 rw [n5,Option.bind_some] at hvar
 have:(w.heap[5]?).isSome:=by
  cases hh:w.heap[5]? with
  | none=>rw [hh] at hvar;cases hvar
  | some o=>rfl
 have:=(Array.getElem?_eq_some_iff.1 (Option.some_get this).symm).1
 omega
theorem lib0_of {w:World} (h:laidMetH Tryz.prog laid5 w):Lib0 w:=by
 have h':laidMet Tryz.prog laid5 w:=h
 have hf:=Lib.laidMet.reads h' (n:= "unicode/utf8.first") (d:=Rows.laid_unicode_utf8_first) (by simp [laid5])
 have ha:=Lib.laidMet.reads h' (n:= "unicode/utf8.acceptRanges") (d:=Rows.laid_unicode_utf8_acceptRanges) (by simp [laid5])
 have hp:=Lib.laidMet.reads h' (n:= "internal/strconv.uint64pow10") (d:=Rows.laid_internal_strconv_uint64pow10) (by simp [laid5])
 have hb:=Lib.laidMet.reads h' (n:= "math/bits.deBruijn64tab") (d:=Rows.laid_math_bits_deBruijn64tab) (by simp [laid5])
 rw [show Rows.laid_unicode_utf8_first=Lib.firstData from first_eqO] at hf
 rw [accept_eqO] at ha
 rw [pow_eqO] at hp
 exact ⟨reads_big hb,fun W hW n h0 h1=>fmt_any n h0 h1 (tab_g6 hW (reads_pow hp)),fun W hW s hs=>val_any s hs (u8_g6 hW (reads_u8 hf ha))⟩
theorem bldX (ρ:Go.Shelf.Ren) (h72:ρ.t 72=160) (h5:ρ.t 5=5):Builder.Extra Tryz.prog ρ where
 sizeBuilder:=by rw [h72];kernel_rfl
 liesBuilder:=by rw [h72];kernel_rfl
 t5:=by rw [h5];exact Tryz.underlying5
 a5:=by rw [h5];exact Tryz.isAgg5
 z5:=by rw [h5];exact Tryz.sizeOf5
 v5:=by rw [h5];exact Tryz.zeroValue5
 infoByte:=by rw [h5];kernel_rfl
 cellsByte:=by rw [h5];kernel_rfl
 sizeByte:=by rw [h5];kernel_rfl
 neB5:=by rw [h72,h5];decide
abbrev Bld (B b:Nat) (bs:List Value) (w:World):Prop:=Lib.IsBuilderF 160 5 B b bs w
theorem wbyte_any {w:World} {B b:Nat} {bs:List Value} (c:Int) (h:Bld B b bs w) (hl:bs.length+1≤140737488355328) (hB:B≤w.heap.size) :
  Calls Tryz.prog 235 #[.pointer (some ⟨b,0,none⟩),.int .u8 c] w fun e w'=>e=.returned .nilIface∧Bld B b (bs++[.int .u8 c]) w'∧Below B w w'∧Lib.OthersKept 5 (some b) w w':=
 (Any.Builder_WriteByte_k Tryz.layWriteByte (bldX _ rfl rfl) B b bs c w h hl hB).mono fun e w' h=>⟨h.1,.inr h.2.1,h.2.2.1,h.2.2.2⟩
theorem wstr_any {w:World} {B b:Nat} {bs:List Value} (s:ByteArray) (h:Bld B b bs w) (hl:bs.length+s.size≤140737488355328) (hB:B≤w.heap.size) :
  Calls Tryz.prog 207 #[.pointer (some ⟨b,0,none⟩),.string s] w fun e w'=>(∃ r,e=.returned r)∧Bld B b (bs++Lib.strCells s) w'∧Below B w w'∧Lib.OthersKept 5 (some b) w w':=
 (Any.Builder_WriteString_k Tryz.layWriteString (bldX _ rfl rfl) B b bs s w h hl hB).mono fun e w' h=>⟨⟨_,h.1⟩,.inr h.2.1,h.2.2.1,h.2.2.2⟩
theorem wrune_any {w:World} {B b:Nat} {bs:List Value} (r:Int) (r0 : -2147483648≤r) (r1:r≤2147483647) (h:Bld B b bs w) (hl:bs.length+4≤140737488355328) (hB:B≤w.heap.size) :
  Calls Tryz.prog 238 #[.pointer (some ⟨b,0,none⟩),.int .i32 r] w fun e w'=>e=.returned (.tuple #[.int .i64 (Lib.runeCells r).length,.nilIface])∧Bld B b (bs++Lib.runeCells r) w'∧Below B w w'∧Lib.OthersKept 5 (some b) w w':=
 (Any.Builder_WriteRune_k Tryz.layWriteRune (bldX _ rfl rfl) B b bs r r0 r1 w h hl hB).mono fun e w' h=>⟨h.1,.inr h.2.1,h.2.2.1,h.2.2.2⟩
def DecOK (w:World):Prop:=∀ W,G5 w W→∀ s:ByteArray,Calls Tryz.prog 251 #[.string s] W fun e w'=>e=.returned (.tuple #[.int .i32 (Lib.decodeGo s).1,.int .i64 (Lib.decodeGo s).2])∧Nw W w'
theorem dec_of {w:World} (h:laidMetH Tryz.prog laid5 w):DecOK w:=fun W hW s=>by
 have h':laidMet Tryz.prog laid5 w:=h
 have hf:=Lib.laidMet.reads h' (n:= "unicode/utf8.first") (d:=Rows.laid_unicode_utf8_first) (by simp [laid5])
 have ha:=Lib.laidMet.reads h' (n:= "unicode/utf8.acceptRanges") (d:=Rows.laid_unicode_utf8_acceptRanges) (by simp [laid5])
 rw [show Rows.laid_unicode_utf8_first=Lib.firstData from first_eqO] at hf
 rw [accept_eqO] at ha
 exact (Any.utf8_DecodeRuneInString Tryz.layDecode s W (u8_g6 hW (reads_u8 hf ha))).mono fun e w' h=>⟨h.1,Sb.new h.2⟩
theorem DecOK.sb {H:Nat→Prop} {w w':World} (h:DecOK w) (hz:6≤w.heap.size) (k:Sb H w w') (hH:∀ b,b<6→¬H b):DecOK w':=fun W hW=>h W ((k.g5 hz hH).trans hW)
def standsR (r:Int):Bool:=decide (32≤r) && r != 34 && r != 92
theorem stands_any (w:World) (r:Int):Calls Tryz.prog 237 #[.int .i32 r] w fun e w'=>e=.returned (.bool (standsR r))∧w'=w:=by
 by_cases h1:32≤r
 ·by_cases h2:r=34
  ·subst h2
   go_enter Tryz.func237,Tryz.ntmps237
   go_wp2_with fail
   go_ret
   exact ⟨rfl,rfl⟩
  have g1:decide ((32:Int)≤r)=true:=decide_eq_true h1
  have g2:(r != 34)=true:=by simpa using h2
  by_cases h3:r=92
  ·subst h3
   go_enter Tryz.func237,Tryz.ntmps237
   go_wp2_with fail
   go_ret
   exact ⟨rfl,rfl⟩
  have g3:(r != 92)=true:=by simpa using h3
  have hs:standsR r=true:=by simp [standsR,h1,h2,h3]
  rw [hs]
  go_enter Tryz.func237,Tryz.ntmps237
  go_wp2_with fail
  go_ret
  exact ⟨rfl,rfl⟩
 have g1:decide ((32:Int)≤r)=false:=decide_eq_false h1
 have hs:standsR r=false:=by simp [standsR,h1]
 rw [hs]
 go_enter Tryz.func237,Tryz.ntmps237
 go_wp2_with fail
 go_ret
 exact ⟨rfl,rfl⟩
def runesAt (s:ByteArray):Nat→Nat→List (Nat × Nat)
 | 0,_=>[]
 | f+1,p=>if s.size≤p then [] else if Utf8.decode s p=(65533,1) then [] else (p,(Utf8.decode s p).1) :: runesAt s f (p+(Utf8.decode s p).2)
def runesS (s:ByteArray):List (Nat × Nat):=runesAt s s.size 0
theorem decode_fits {s:ByteArray} {p:Nat} (h:p<s.size):1≤(Utf8.decode s p).2∧p+(Utf8.decode s p).2≤s.size∧(Utf8.decode s p).1≤1114111:=by
 refine ⟨Lib.width_pos s p,?_,Lib.rune_le s p⟩
 have:=Lib.decodeN_le_n (s.size - p) (s.get! p).toNat (s.get! (p+1)).toNat (s.get! (p+2)).toNat (s.get! (p+3)).toNat (by omega)
 rw [Lib.decode_at]
 omega
theorem runesAt_len (s:ByteArray):∀ (f p:Nat),(runesAt s f p).length≤s.size - p
 | 0,p=>Nat.zero_le _
 | f+1,p=>by
   unfold runesAt
   split
   ·simp
   split
   ·simp
   have:=runesAt_len s f (p+(Utf8.decode s p).2)
   have:=decode_fits (s:=s) (p:=p) (by omega)
   simp only [List.length_cons];omega
theorem runesAt_rune {s:ByteArray}:∀ {f p:Nat} {x:Nat × Nat},x∈runesAt s f p→x.2≤1114111∧x.1<s.size
 | 0,p,x,h=>by cases h
 | f+1,p,x,h=>by
   unfold runesAt at h
   split at h
   ·cases h
   split at h
   ·cases h
   rcases List.mem_cons.1 h with rfl | h
   ·exact ⟨Lib.rune_le s p,by show p<_;omega⟩
   exact runesAt_rune h
theorem runesAt_stop {s:ByteArray} {f p:Nat} (h:s.size≤p):runesAt s f p=[]:=by
 cases f with
 | zero=>rfl
 | succ f=>rw [runesAt,if_pos h]
theorem runesAt_bad {s:ByteArray} {f p:Nat} (h:Utf8.decode s p=(65533,1)):runesAt s f p=[]:=by
 cases f with
 | zero=>rfl
 | succ f=>rw [runesAt,if_pos h,ite_self]
theorem runesAt_go {s:ByteArray} {f p:Nat} (hp:p<s.size) (hf:s.size≤p+f) (h:Utf8.decode s p≠(65533,1)):runesAt s f p=(p,(Utf8.decode s p).1) :: runesAt s (f - 1) (p+(Utf8.decode s p).2):=by
 cases f with
 | zero=>omega
 | succ f=>rw [runesAt,if_neg (by omega),if_neg h];rfl
def letterR (r:Nat):Option Nat:=if r=34 then some 34 else if r=92 then some 92 else if r=8 then some 98 else if r=9 then some 116 else if r=10 then some 110 else if r=12 then some 102 else if r=13 then some 114 else none
def hexD (k:Nat):UInt8:=if k<10 then (48+k).toUInt8 else (87+k).toUInt8
def quoteR (r:Nat):List UInt8:=if standsR r then Lib.encodeRune r else match letterR r with
 | some c=>[92,c.toUInt8]
 | none=>[92,117,48,48,hexD (r / 16),hexD (r % 16)]
def quoteL (l:List (Nat × Nat)):List UInt8:=(l.map fun x=>quoteR x.2).flatten
def quoteS (s:ByteArray):List UInt8:=34 :: quoteL (runesS s)++[34]
theorem quoteL_snoc (l:List (Nat × Nat)) (x:Nat × Nat):quoteL (l++[x])=quoteL l++quoteR x.2:=by simp [quoteL]
theorem quoteR_len (r:Nat):(quoteR r).length≤6:=by
 unfold quoteR
 split
 ·have:=Lib.runeCells_le r
  rw [Lib.runeCells_length] at this;omega
 split <;> simp
theorem quoteL_len:∀ l:List (Nat × Nat),(quoteL l).length≤6*l.length
 | []=>by simp [quoteL]
 | x :: r=>by
   have:=quoteL_len r
   have:=quoteR_len x.2
   simp only [quoteL,List.map_cons,List.flatten_cons,List.length_append,List.length_cons] at *;omega
theorem quoteS_len (s:ByteArray):(quoteS s).length≤6*s.size+2:=by
 have h1:=quoteL_len (runesS s)
 have h2:=runesAt_len s s.size 0
 unfold quoteS runesS at *
 simp only [List.length_cons,List.length_append,List.length_nil];omega
end Go.Proofs.YtkhdiakpdafcdaaGreatDoor
namespace Go.Proofs.YtkhdiakpdafcdaaGreatDoor
open Go.RowKit
set_option linter.unusedVariables false
theorem calls_round {l n:Nat} {P:Program} {f:FuncId} {args:Array Value} {w:World} {R:Ending→World→Prop} (h:Calls P f args w R):CallsIn (Fence.wide.inRound l) n P f args w R:=callsIn_wide.2 h
def TakesP {α:Type} (P:Program) (l:Nat) (encs:α→Array Value) (K:Nat→Prop) (G:List α→α→World→World→Prop) (J Jx:List α→World→Prop):Prop:=
 ∀ pre x W0 W1,J pre W0→Nw W0 W1→G pre x W0 W1→YieldAt Fence.wide 4 P l (encs x) W1 fun e W'=>
  (e=.returned (.bool true)∧J (pre++[x]) W'∧Agree K W1 W'∧W1.heap.size≤W'.heap.size)∨(e=.returned (.bool false)∧Jx (pre++[x]) W')
def SeqP {α:Type} (P:Program) (g:Nat) (lb:Array Value) (encs:α→Array Value) (K:Nat→Prop) (G:List α→α→World→World→Prop) (S Sp:List α→Prop) (w0:World):Prop:=
 ∀ (l:Nat) (J Jx:List α→World→Prop) (W:World),TakesP P l encs K G J Jx→Agree K w0 W→w0.heap.size≤W.heap.size→J [] W→
  Calls P g (#[.func (.yield l) #[] #[]]++lb) W fun e W'=>(∃ v,e=.returned v)∧((∃ xs W0,S xs∧J xs W0∧Nw W0 W')∨(∃ pre W0,Sp pre∧Jx pre W0∧Nw W0 W'))
def ownPostP {α:Type} (K:Nat→Prop) (I:List α→World→Prop) (Ix:Code→List α→World→Prop) (xs:List α) (W:World):Exit→Act→World→Prop
 | .normal,_,W'=>I xs W'∧Agree K W W'∧W.heap.size≤W'.heap.size
 | .ret,_,W'=>Agree K W W'∧Ix .ret xs W'
 | .exit id,_,W'=>Agree K W W'∧Ix (.exit id) xs W'
 | .goto t,_,W'=>Agree K W W'∧Ix (.goto t) xs W'
 | .panic _,_,_=>False
 | .outgrown,_,_=>False
theorem wpIn_rangeP {α:Type} {n:Nat} {P:Program} {g:Operand} {ps:Array Tmp} {assign body:Code} {Q:Exit→Act→World→Prop} {a:Act} {w:World}
  {gf:Nat} {lb:Array Value} (hg:a.eval g=.func (.func gf) #[] lb) (eg:∀ args w,(callFunc gf args).run P w=.ok (.enter gf args) w)
  {encs:α→Array Value} {K:Nat→Prop} {G:List α→α→World→World→Prop} {S Sp:List α→Prop} {w0:World} (hseq:SeqP P gf lb encs K G S Sp w0)
  (hA:Agree K w0 w) (hsz:w0.heap.size≤w.heap.size) (hK:∀ b,K b→b<w.heap.size) (hps:∀ x,(encs x).size=ps.size)
  (I:List α→World→Prop) (Ix:Code→List α→World→Prop)
  (hI:∀ {s W W'},I s W→Sb (fun b=>b=w.heap.size+1) W W'→(∃ r,W.heap[w.heap.size+1]? = some (.loop r))→(∃ r,W'.heap[w.heap.size+1]? = some (.loop r))→I s W') (hIx:∀ {c s W W'},Ix c s W→Sb (fun b=>b=w.heap.size+1) W W'→(∃ r,W.heap[w.heap.size+1]? = some (.loop r))→(∃ r,W'.heap[w.heap.size+1]? = some (.loop r))→Ix c s W')
  (h0:∀ W,Ext w W→w.heap.size+2≤W.heap.size→I [] W)
  (hround:∀ (pre:List α) (x:α) (W0 W1:World),I pre W0→w.heap.size+2≤W0.heap.size→Nw W0 W1→G pre x W0 W1→
    assign.wpIn (Fence.wide.inRound (w.heap.size+1)) 4 P (Exit.then (fun a1 W2=>Nw W1 W2∧∀ W3,Sb (fun b=>b=w.heap.size+1) W2 W3→(∃ r,W2.heap[w.heap.size+1]? = some (.loop r))→(∃ r,W3.heap[w.heap.size+1]? = some (.loop r))→W3.heap[w.heap.size]? = some (.deferred (some []))→body.wpIn (Fence.wide.inRound (w.heap.size+1)) 4 P (ownPostP (fun b=>K b∨b=w.heap.size∨b=w.heap.size+1) I Ix (pre++[x]) W3) a1 W3) (fun _ _ _=>False))
     { tmps:=(ps.zip (encs x)).foldl (fun t (p,v)=>t.setIfInBounds p v) a.tmps,defers:=[] } W1)
  (hdone:∀ (D:Nat) (xs:List α) (W:World),D=w.heap.size→S xs→I xs W→W.heap[D]? = some (.deferred (some []))→Q .normal { a with defers:={ target:=.collected D,args:=#[] } :: a.defers } W)
  (hstop:∀ (D:Nat) (c:Code) (pre:List α) (W:World),D=w.heap.size→Sp pre→Ix c pre W→W.heap[D]? = some (.deferred (some []))→c.wpIn Fence.wide n P Q { a with defers:={ target:=.collected D,args:=#[] } :: a.defers } W) :
  (Code.rangeFunc g ps assign body).wpIn Fence.wide n P Q a w:=by
 refine wpIn_rangeFunc fun fn hfn=>?_
 rw [show Fence.wide.round=none from rfl]
 let rec_:LoopState→Option Code→Obj:=fun st pe=>.loop { state:=st,pending:=pe,fn,tmps:=a.tmps,params:=ps,assign,body,defers:=w.heap.size }
 let BK:LoopState→Option Code→World→Prop:=fun st pe W=>W.heap[w.heap.size+1]? = some (rec_ st pe)∧W.heap[w.heap.size]? = some (.deferred (some []))
 have bkL:∀ {st pe W},BK st pe W→w.heap.size+1<W.heap.size:=fun h=>(Array.getElem?_eq_some_iff.1 h.1).1
 have bkr:∀ {st pe W},BK st pe W→∃ r,W.heap[w.heap.size+1]? = some (.loop r):=fun h=>⟨_,h.1⟩
 have bkE:∀ {st pe W W'},BK st pe W→Nw W W'→BK st pe W':=fun h he=>⟨(he.block _ (Array.getElem?_eq_some_iff.1 h.1).1 (fun e=>e)).trans h.1,(he.block _ (Array.getElem?_eq_some_iff.1 h.2).1 (fun e=>e)).trans h.2⟩
 have bkS:∀ {st pe W W'} {C:Nat→Prop},BK st pe W→Agree C W W'→C (w.heap.size+1)→C w.heap.size→BK st pe W':=fun h hk h1 h2=>⟨(hk _ h1).trans h.1,(hk _ h2).trans h.2⟩
 have bkP:∀ {st pe W} (st':LoopState) (pe':Option Code),BK st pe W→BK st' pe' (W.putObj (w.heap.size+1) (rec_ st' pe'))∧Sb (fun b=>b=w.heap.size+1) W (W.putObj (w.heap.size+1) (rec_ st' pe')):=fun st' pe' h=>
  ⟨⟨World.putObj_heap_same (Array.getElem?_eq_some_iff.1 h.1).1,(World.putObj_heap_other (by omega)).trans h.2⟩,(St.put h.1 rfl rfl).sb⟩
 have e1:Ext w (w.alloc (.deferred (some []))):=ext_obj w _ fun W i j h=>by simp [World.frozen?,h]
 have e2:Ext (w.alloc (.deferred (some []))) ((w.alloc (.deferred (some []))).alloc (rec_ .ready none)):=ext_obj _ _ fun W i j h=>by simp [World.frozen?,h,rec_]
 have hrun:=run_enterLoop_outer (P:=P) (w:=w) fn a.tmps ps assign body
 have bk1:BK .ready none ((w.alloc (.deferred (some []))).alloc (rec_ .ready none)):=
  ⟨by have:=World.alloc_heap_new (w.alloc (.deferred (some []))) (rec_ .ready none);rwa [World.size_alloc] at this,(Below.heap_alloc _ _ _ (by simp)).trans (World.alloc_heap_new w _)⟩
 have eW:=e1.trans e2
 have hs1:w.heap.size+2≤((w.alloc (.deferred (some []))).alloc (rec_ .ready none)).heap.size:=by simp
 change _=Result.ok _ ((w.alloc (.deferred (some []))).alloc (rec_ .ready none)) at hrun
 generalize (w.alloc (.deferred (some []))).alloc (rec_ .ready none)=W1 at *
 refine ⟨w.heap.size+1,_,W1,{ target:=.fn (.func gf) lb,args:=#[.func (.yield (w.heap.size+1)) #[] #[]] },W1,gf,#[.func (.yield (w.heap.size+1)) #[] #[]]++lb,W1,hrun,?_,?_,?_,fun h=>by simp [Fence.wide] at h,?_⟩
 ·simp only [resolve,hg]
  simp [go_sem]
 ·intro f' hf';trivial
 ·simp [invoke,go_sem,eg]
 refine callsIn_wide.2 ((hseq (w.heap.size+1) (fun pre W=>I pre W∧BK .ready none W) (fun pre W=>∃ c,Ix c pre W∧BK .done (some c) W) W1 ?_ (hA.trans (eW.agree hK)) (Nat.le_trans hsz eW.size) ⟨h0 W1 eW hs1,bk1⟩).mono ?_)
 ·rintro pre x W0 Wy ⟨hi,hbk⟩ hx hgd
  have hbk1:=bkE hbk hx
  have hl0:=bkL hbk
  refine ⟨fn,_,assign,body,run_yield (args:=encs x) hbk1.1 (hps x),roundIn_of_wpIn hfn (wpIn_mono (hround pre x W0 Wy hi (by omega) hx hgd) ?_)⟩
  rintro e a3 W2 hp
  cases e with
  | normal=>
    obtain ⟨hx2,hb⟩:=hp
    have hbk2:=bkE hbk1 hx2
    obtain ⟨hbk3,ht3⟩:=bkP .busy none hbk2
    refine ⟨_,run_beginRound hbk2.1 rfl,wpIn_mono (hb _ ht3 (bkr hbk2) (bkr hbk3) hbk3.2) ?_⟩
    have hl3:=bkL hbk3
    have hl2:=bkL hbk2
    have hl1:=bkL hbk1
    generalize W2.putObj (w.heap.size+1) (rec_ .busy none)=W3 at *
    rintro e a4 W4 hq
    cases e with
    | normal=>
      obtain ⟨hi4,hst,hlt4⟩:=hq
      have hbk4:=bkS hbk3 hst (.inr (.inr rfl)) (.inr (.inl rfl))
      obtain ⟨hbk5,ht5⟩:=bkP .ready none hbk4
      refine ⟨_,_,run_endRound none hbk4.1,.inl ⟨rfl,⟨hI hi4 ht5 (bkr hbk4) (bkr hbk5),hbk5⟩,fun b hb=>?_,?_⟩⟩
      ·have hbw:=hK b hb
       have h1:=hx2.block b (by omega) (fun e=>e)
       have h2:=ht3.block b (by omega) (fun e=>by omega)
       have h3:=hst b (.inl hb)
       have h4:=ht5.block b (by have:=bkL hbk4;omega) (fun e=>by omega)
       exact h4.trans (h3.trans (h2.trans h1))
      have:=hx2.size;have:=ht3.size;simp;omega
    | ret=>
      have hbk4:=bkS hbk3 hq.1 (.inr (.inr rfl)) (.inr (.inl rfl))
      obtain ⟨hbk5,ht5⟩:=bkP .done (some .ret) hbk4
      exact ⟨_,_,run_endRound (some .ret) hbk4.1,.inr ⟨rfl,.ret,hIx hq.2 ht5 (bkr hbk4) (bkr hbk5),hbk5⟩⟩
    | exit id=>
      have hbk4:=bkS hbk3 hq.1 (.inr (.inr rfl)) (.inr (.inl rfl))
      obtain ⟨hbk5,ht5⟩:=bkP .done (some (.exit id)) hbk4
      exact ⟨_,_,run_endRound (some (.exit id)) hbk4.1,.inr ⟨rfl,.exit id,hIx hq.2 ht5 (bkr hbk4) (bkr hbk5),hbk5⟩⟩
    | goto t=>
      have hbk4:=bkS hbk3 hq.1 (.inr (.inr rfl)) (.inr (.inl rfl))
      obtain ⟨hbk5,ht5⟩:=bkP .done (some (.goto t)) hbk4
      exact ⟨_,_,run_endRound (some (.goto t)) hbk4.1,.inr ⟨rfl,.goto t,hIx hq.2 ht5 (bkr hbk4) (bkr hbk5),hbk5⟩⟩
    | panic ch=>exact hq.elim
    | outgrown=>exact hq.elim
  | ret=>exact hp.elim
  | exit id=>exact hp.elim
  | goto t=>exact hp.elim
  | panic ch=>exact hp.elim
  | outgrown=>exact hp.elim
 rintro e W2 ⟨⟨v,rfl⟩,(⟨xs,W0,hS,⟨hi,hbk⟩,hx⟩ | ⟨pre,W0,hSp,⟨c,hi,hbk⟩,hx⟩)⟩
 ·have hbk2:=bkE hbk hx
  have hbk0:=hbk
  obtain ⟨hbk5,ht5⟩:=bkP .exhausted none hbk2
  exact ⟨none,_,run_endLoop hbk2.1 (by simp),hdone _ xs _ rfl hS (hI hi ((hx.any _).trans ht5) (bkr hbk0) (bkr hbk5)) hbk5.2⟩
 have hbk2:=bkE hbk hx
 have hbk0:=hbk
 obtain ⟨hbk5,ht5⟩:=bkP .exhausted (some c) hbk2
 exact ⟨some c,_,run_endLoop hbk2.1 (by simp),hstop _ c pre _ rfl hSp (hIx hi ((hx.any _).trans ht5) (bkr hbk0) (bkr hbk5)) hbk5.2⟩
end Go.Proofs.YtkhdiakpdafcdaaGreatDoor
namespace Go.Proofs.YtkhdiakpdafcdaaGreatDoor
open Go.RowKit Go.Maps Go.Shelf
set_option linter.unusedVariables false
set_option linter.unusedSimpArgs false
attribute [local go_sem] Oper.semAt_some
theorem runes_any (w:World) (s:ByteArray):Calls Tryz.prog 236 #[.string s] w fun e w'=>e=.returned (.func (.func 250) #[] #[.pointer (some ⟨w.heap.size,0,none⟩)])∧Ext w w'∧Blk w' w.heap.size 9 #[.string s]:=by
 go_enter Tryz.func236,Tryz.ntmps236
 go_wp2_with fail
 go_ret
 exact ⟨rfl,(Ext.refl w).alloc _ _,Blk.new w _ _⟩
abbrev encRune (x:Nat × Nat):Array Value:=#[.int .i64 (x.1:Int),.int .i32 (x.2:Int)]
def RuneDone (s:ByteArray) (xs:List (Nat × Nat)):Prop:=xs=runesS s
def RuneG (s:ByteArray) (pre:List (Nat × Nat)) (x:Nat × Nat) (W0 W1:World):Prop:=(runesS s)[pre.length]? = some x
structure RuneS (s:ByteArray) (J:List (Nat × Nat)→World→Prop) (K:Nat→Prop) (W:World) (p f:Nat) (pre:List (Nat × Nat)) (Wj wr:World):Prop where
 inv:J pre Wj
 nw:Nw Wj wr
 pre_:runesS s=pre++runesAt s f p
 few:s.size≤p+f
 ag:Agree K W wr
 sz:W.heap.size≤wr.heap.size
theorem RuneS.grow {s:ByteArray} {J:List (Nat × Nat)→World→Prop} {K:Nat→Prop} {W:World} {p f:Nat} {pre:List (Nat × Nat)} {Wj wr w6:World} (h:RuneS s J K W p f pre Wj wr) (hK:∀ b,K b→b<W.heap.size) (k:Nw wr w6):RuneS s J K W p f pre Wj w6:=
 ⟨h.inv,h.nw.trans k,h.pre_,h.few,h.ag.trans (k.agree fun b hb=>Nat.lt_of_lt_of_le (hK b hb) h.sz),Nat.le_trans h.sz k.size⟩
theorem runeS_next {s:ByteArray} {J:List (Nat × Nat)→World→Prop} {K:Nat→Prop} {W:World} {p f r z:Nat} {pre:List (Nat × Nat)} {Wj wr w6:World} (h:RuneS s J K W p f pre Wj wr) (hp:p<s.size) (hd:Utf8.decode s p=(r,z)) (hz:1≤z) (hb:Utf8.decode s p≠(65533,1))
  (hj:J (pre++[(p,r)]) w6) (ha:Agree K wr w6) (hs:wr.heap.size≤w6.heap.size):RuneS s J K W (p+z) (f - 1) (pre++[(p,r)]) w6 w6:=by
 refine ⟨hj,Sb.refl _ _,?_,?_,h.ag.trans ha,Nat.le_trans h.sz hs⟩
 ·rw [h.pre_,runesAt_go hp h.few hb,hd,List.append_assoc];rfl
 have:=h.few;omega
theorem runes_seq {w0:World} {B:Nat} {s:ByteArray} (hB:Blk w0 B 9 #[.string s]) (hD:DecOK w0) (h6:6≤w0.heap.size) (hs:s.size≤1000000000000) :
  SeqP Tryz.prog 250 #[.pointer (some ⟨B,0,none⟩)] encRune (fun b=>b=B∨b<6) (RuneG s) (RuneDone s) (fun _=>True) w0:=by
 intro l J Jx W hTk hA hsz hJ
 have hlB:=hB.lt
 have hKW:∀ b,(b=B∨b<6)→b<W.heap.size:=fun b hb=>by rcases hb with rfl | hb <;> omega
 have hss:∀ W1,Agree (fun b=>b=B∨b<6) W W1→W.heap.size≤W1.heap.size→W1.cell? ⟨B,0,none⟩=some (.string s)∧B<W1.heap.size∧G5 w0 W1:=fun W1 hW hz=>
  ⟨(hW.cell (.inl rfl)).trans ((World.cell?_of_block (w:=w0) (a:=⟨B,0,none⟩) (hA B (.inl rfl))).trans (hB.cell 0)),by omega,
    fun b hb=>(hW b (.inr hb)).trans (hA b (.inr hb))⟩
 have hdec:∀ W1 p r z,Agree (fun b=>b=B∨b<6) W W1→W.heap.size≤W1.heap.size→p<s.size→Utf8.decode s p=(r,z)→Calls Tryz.prog 251 #[.string (s.extract p s.size)] W1 fun e w'=>e=.returned (.tuple #[.int .i32 (r:Int),.int .i64 (z:Int)])∧Nw W1 w':=fun W1 p r z hW hz hp hd=>by
  have h:=hD W1 (hss W1 hW hz).2.2 (s.extract p s.size)
  rw [Lib.decodeGo_extract s p hp,hd] at h
  exact h
 have HTK:=Lib.hid hTk
 have HSS:=Lib.hid hss
 have HJ:=Lib.hid hJ
 have HDEC:=Lib.hid hdec
 have HKW:=Lib.hid hKW
 clear hTk hA hJ hB hss hdec hD h6 hlB hsz hKW
 show Calls _ _ #[.func (.yield l) #[] #[],.pointer (some ⟨B,0,none⟩)] W _
 refine (callsIn_wide (n:=5)).1 ?_
 refine callsIn_of_wp Tryz.func250 rfl trivial ?_ rfl
 simp only [Tryz.ntmps250,List.size_toArray,List.length_cons,List.length_nil,Nat.reduceAdd,Nat.reduceSub,Array.replicate_succ,Array.replicate_zero,List.push_toArray,List.append_toArray,List.nil_append,List.cons_append]
 gi_wp2_with fail
 gi_loopw [3] (fun v wr=>∃ (p f:Nat) (pre:List (Nat × Nat)) (Wj:World),v=.int .i64 (p:Int)∧p≤s.size∧Hid (RuneS s J (fun b=>b=B∨b<6) W p f pre Wj wr)) (fun v _=>s.size - (intOf v).toNat)
 case atStart=>exact ⟨0,s.size,[],W,rfl,Nat.zero_le _,Lib.hid ⟨HJ.out,Sb.refl _ _,rfl,by omega,Agree.refl _,Nat.le_refl _⟩⟩
 obtain ⟨p,f,pre,Wj,rfl,hp,HS⟩:=hrel
 obtain ⟨c0,lB,-⟩:=HSS.out wr HS.out.ag HS.out.sz
 by_cases hlt:p<s.size
 ·obtain ⟨r,z,hd⟩:∃ r z,Utf8.decode s p=(r,z):=⟨_,_,rfl⟩
  obtain ⟨hz1,hz2,hr⟩:=decode_fits hlt
  rw [hd] at hz1 hz2 hr
  dsimp only at hz1 hz2 hr
  have hdc:=HDEC.out wr p r z HS.out.ag HS.out.sz hlt hd
  have g1:(p:Int)<(s.size:Int):=by omega
  have g2:(0:Int)≤(p:Int):=by omega
  have g3:(p:Int)≤(s.size:Int):=by omega
  have g4:IntKind.i64.wrap ((p:Int)+(z:Int))=(p:Int)+(z:Int):=by rw [IntKind.wrap_i64];omega
  have HDC:=Lib.hid hdc
  have HD:=Lib.hid hd
  clear hdc hd
  gi_wp2_with fail
  refine ⟨trivial,?_⟩
  refine (callsIn_wide.2 HDC.out).mono ?_
  rintro e w2 ⟨rfl,hn2⟩
  have HS2:=Lib.hid (HS.out.grow HKW.out hn2)
  clear hn2
  by_cases hbad:r=65533∧z=1
  ·obtain ⟨rfl,rfl⟩:=hbad
   have HE:=Lib.hid (show RuneDone s pre by show pre=runesS s;rw [HS2.out.pre_,runesAt_bad HD.out,List.append_nil])
   gi_wp2_with fail
   refine bodyPost_ret (v:=.tuple #[]) (by simp [results,Tryz.results250,go_sem]) rfl ?_
   exact ⟨⟨_,rfl⟩,.inl ⟨pre,Wj,HE.out,HS2.out.inv,HS2.out.nw⟩⟩
  have hbd:Utf8.decode s p≠(65533,1):=by rw [HD.out];intro e;injection e with e1 e2;exact hbad ⟨e1,e2⟩
  have hy:=HTK.out pre (p,r) Wj w2 HS2.out.inv HS2.out.nw (by show _[_]? = _;rw [HS2.out.pre_,runesAt_go hlt HS2.out.few hbd,HD.out,List.getElem?_append_right (Nat.le_refl _),Nat.sub_self];rfl)
  obtain ⟨fn,tmps,assign,body,hy,hR⟩:=hy
  have HR:=Lib.hid hR
  have HBD:=Lib.hid hbd
  have HZ1:=Lib.hid hz1
  dsimp only [encRune] at hy
  clear hR hbd
  have hok:∀ (e:Ending) (w':World),((e=.returned (.bool true)∧J (pre++[(p,r)]) w'∧Agree (fun b=>b=B∨b<6) w2 w'∧w2.heap.size≤w'.heap.size)∨(e=.returned (.bool false)∧Jx (pre++[(p,r)]) w'))→
    (e=.returned (.bool true)∧Hid (RuneS s J (fun b=>b=B∨b<6) W (p+z) (f - 1) (pre++[(p,r)]) w' w'))∨(e=.returned (.bool false)∧Jx (pre++[(p,r)]) w'):=by
   rintro e w' (⟨rfl,h1,h2,h3⟩ | ⟨rfl,h1⟩)
   ·exact .inl ⟨rfl,Lib.hid (runeS_next HS2.out hlt HD.out HZ1.out HBD.out h1 h2 h3)⟩
   exact .inr ⟨rfl,h1⟩
  have HOK:=Lib.hid hok
  clear hok
  by_cases hr5:r=65533
  ·have hz5:z≠1:=fun e=>hbad ⟨hr5,e⟩
   have b1:((r:Int) == 65533)=true:=by simp [hr5]
   have b2:((z:Int) == 1)=false:=by simp;omega
   clear hr5 hz5 hbad hz1
   gi_wp2_with fail
   refine HR.out.mono ?_
   intro e w6 h6
   rcases HOK.out e w6 h6 with ⟨rfl,HS6⟩ | ⟨rfl,hjx⟩
   ·clear h6 hy
    gi_wp2_with fail
    go_roundw
    case rel=>exact ⟨p+z,f - 1,_,w6,by go_num,hz2,HS6⟩
    have:=HZ1.out;simp [intOf];omega
   clear h6 hy
   gi_wp2_with fail
   refine bodyPost_ret (v:=.tuple #[]) (by simp [results,Tryz.results250,go_sem]) rfl ?_
   exact ⟨⟨_,rfl⟩,.inr ⟨_,w6,trivial,hjx,Sb.refl _ _⟩⟩
  have b1:((r:Int) == 65533)=false:=by simp;omega
  clear hr5 hbad hz1
  gi_wp2_with fail
  refine HR.out.mono ?_
  intro e w6 h6
  rcases HOK.out e w6 h6 with ⟨rfl,HS6⟩ | ⟨rfl,hjx⟩
  ·clear h6 hy
   gi_wp2_with fail
   go_roundw
   case rel=>exact ⟨p+z,f - 1,_,w6,by go_num,hz2,HS6⟩
   have:=HZ1.out;simp [intOf];omega
  clear h6 hy
  gi_wp2_with fail
  refine bodyPost_ret (v:=.tuple #[]) (by simp [results,Tryz.results250,go_sem]) rfl ?_
  exact ⟨⟨_,rfl⟩,.inr ⟨_,w6,trivial,hjx,Sb.refl _ _⟩⟩
 obtain rfl:p=s.size:=by omega
 have HE:=Lib.hid (show RuneDone s pre by show pre=runesS s;rw [HS.out.pre_,runesAt_stop (Nat.le_refl _),List.append_nil])
 have g1:¬(s.size:Int)<(s.size:Int):=by omega
 gi_wp2_with fail
 go_end0
 exact ⟨⟨_,rfl⟩,.inl ⟨pre,HE.out,Wj,HS.out.inv,HS.out.nw⟩⟩
end Go.Proofs.YtkhdiakpdafcdaaGreatDoor
namespace Go.Proofs.YtkhdiakpdafcdaaGreatDoor
open Go.RowKit Go.Maps Go.Shelf
set_option linter.unusedVariables false
set_option linter.unusedSimpArgs false
theorem runeKey:Keyed Tryz.prog 21:=int_keyed (q:=.i32) Tryz.underlying21
abbrev putR (D:DataW Unit) (r c:Int):DataW Unit:=D.put (.int .i32 r) (.lit (.int .i32 c))
def lettersD:DataW Unit:=putR (putR (putR (putR (putR (putR (putR (.map []) 34 34) 92 92) 8 98) 9 116) 10 110) 12 102) 13 114
theorem isMap_putR {D:DataW Unit} (hD:IsMap D) (r c:Int):IsMap (putR D r c):=hD.put _ _
theorem has_putR {D:DataW Unit} (hD:IsMap D) (r c x:Int):Maps.has (putR D r c) (.int .i32 x)=(decide (x=r) || Maps.has D (.int .i32 x)):=by
 by_cases h:x=r
 ·subst h;rw [putR,has_put_same hD (show WideAt.IsKeyLit (.int .i32 x) from trivial)];simp
 rw [putR,has_put_other (fun e=>h (by injection e))];simp [h]
theorem at_putR {D:DataW Unit} (hD:IsMap D) (r c x:Int) (z:DataW Unit):(putR D r c).atKey (.int .i32 x) z=if x=r then .lit (.int .i32 c) else D.atKey (.int .i32 x) z:=by
 by_cases h:x=r
 ·subst h;rw [putR,atKey_put_same hD (show WideAt.IsKeyLit (.int .i32 x) from trivial),if_pos rfl]
 rw [putR,atKey_put_other (fun e=>h (by injection e)),if_neg h]
theorem isMap0:IsMap (.map []:DataW Unit):=⟨_,rfl⟩
theorem isMap1:IsMap (putR (.map []) 34 34):=isMap_putR isMap0 _ _
theorem isMap2:IsMap (putR (putR (.map []) 34 34) 92 92):=isMap_putR isMap1 _ _
theorem isMap3:IsMap (putR (putR (putR (.map []) 34 34) 92 92) 8 98):=isMap_putR isMap2 _ _
theorem isMap4:IsMap (putR (putR (putR (putR (.map []) 34 34) 92 92) 8 98) 9 116):=isMap_putR isMap3 _ _
theorem isMap5:IsMap (putR (putR (putR (putR (putR (.map []) 34 34) 92 92) 8 98) 9 116) 10 110):=isMap_putR isMap4 _ _
theorem isMap6:IsMap (putR (putR (putR (putR (putR (putR (.map []) 34 34) 92 92) 8 98) 9 116) 10 110) 12 102):=isMap_putR isMap5 _ _
theorem letters_has (r:Nat):Maps.has lettersD (.int .i32 (r:Int))=(letterR r).isSome:=by
 have h0:Maps.has (.map []:DataW Unit) (.int .i32 (r:Int))=false:=rfl
 rw [lettersD,has_putR isMap6,has_putR isMap5,has_putR isMap4,has_putR isMap3,has_putR isMap2,has_putR isMap1,has_putR isMap0,h0]
 unfold letterR
 repeat' split
 all_goals (try subst_vars)
 all_goals simp
 all_goals omega
theorem letters_at (r:Nat):lettersD.atKey (.int .i32 (r:Int)) (.lit (.int .i32 0))=.lit (.int .i32 (((letterR r).getD 0:Nat):Int)):=by
 have h0:(.map []:DataW Unit).atKey (.int .i32 (r:Int)) (.lit (.int .i32 0))=.lit (.int .i32 0):=rfl
 rw [lettersD,at_putR isMap6,at_putR isMap5,at_putR isMap4,at_putR isMap3,at_putR isMap2,at_putR isMap1,at_putR isMap0,h0]
 unfold letterR
 repeat' split
 all_goals first | rfl | (exfalso;omega)
abbrev LetAt (w:World) (M:Nat):Prop:=w.ownsMap Tryz.prog 21 (plainElem Tryz.prog 21) M 7 lettersD
theorem let_val (c:Int) (hc:(Lit.int .i32 c).wf=true):plainElem (H:=Unit) Tryz.prog 21 (.int .i32 c)=some (.lit (.int .i32 c),[]):=plainElem_int Tryz.underlying21 hc
theorem let_key (c:Int) (hc:(Lit.int .i32 c).wf=true):keyOf Tryz.prog 21 (.int .i32 c)=some (.int .i32 c):=keyOf_int_mk Tryz.underlying21 hc
theorem letR_any (w:World):Calls Tryz.prog 239 #[] w fun e w'=>e=.returned (.map (some w.heap.size))∧Nw w w'∧LetAt w' w.heap.size:=by
 have hmm:=@run_makeMap Tryz.prog
 have hm0:=World.ownsMap_made w Tryz.prog 21 (plainElem (H:=Unit) Tryz.prog 21)
 obtain ⟨w1,r1,hm1,hg1⟩:=hm0.update runeKey Tryz.underlying263 (by decide) (let_key 34 (by decide)) (let_val 34 (by decide))
 obtain ⟨w2,r2,hm2,hg2⟩:=hm1.update runeKey Tryz.underlying263 (by decide) (let_key 92 (by decide)) (let_val 92 (by decide))
 obtain ⟨w3,r3,hm3,hg3⟩:=hm2.update runeKey Tryz.underlying263 (by decide) (let_key 8 (by decide)) (let_val 98 (by decide))
 obtain ⟨w4,r4,hm4,hg4⟩:=hm3.update runeKey Tryz.underlying263 (by decide) (let_key 9 (by decide)) (let_val 116 (by decide))
 obtain ⟨w5,r5,hm5,hg5⟩:=hm4.update runeKey Tryz.underlying263 (by decide) (let_key 10 (by decide)) (let_val 110 (by decide))
 obtain ⟨w6,r6,hm6,hg6⟩:=hm5.update runeKey Tryz.underlying263 (by decide) (let_key 12 (by decide)) (let_val 102 (by decide))
 obtain ⟨w7,r7,hm7,hg7⟩:=hm6.update runeKey Tryz.underlying263 (by decide) (let_key 13 (by decide)) (let_val 114 (by decide))
 have HM:=Lib.hid hm7
 clear hm0 hm1 hm2 hm3 hm4 hm5 hm6 hm7
 go_enter Tryz.func239,Tryz.ntmps239
 go_wp2_with fail
 go_ret
 refine ⟨rfl,?_,HM.out⟩
 have h0:Nw w (w.alloc (.map #[] 0)):=Sb.made (World.grownBy_alloc _ _ _)
 exact ((((((h0.comp (Sb.grown hg1) fun i hi e=>by have e:i=w.heap.size:=e;omega).comp (Sb.grown hg2) fun i hi e=>by have e:i=w.heap.size:=e;omega).comp (Sb.grown hg3) fun i hi e=>by have e:i=w.heap.size:=e;omega).comp (Sb.grown hg4) fun i hi e=>by have e:i=w.heap.size:=e;omega).comp (Sb.grown hg5) fun i hi e=>by have e:i=w.heap.size:=e;omega).comp (Sb.grown hg6) fun i hi e=>by have e:i=w.heap.size:=e;omega).comp (Sb.grown hg7) fun i hi e=>by have e:i=w.heap.size:=e;omega
attribute [local go_sem] Oper.semAt_some
structure LibQ (w:World):Prop where
 lib:Lib0 w
 dec:DecOK w
 num:∀ W,G5 w W→∀ n:Int,-9223372036854775808≤n→n≤9223372036854775807→Calls Tryz.prog 164 #[.int .i64 n,.int .i64 10] W fun e w'=>e=.returned (.string ⟨(Lib.itoa n).toArray⟩)∧Nw W w'
theorem LibQ.sb {H:Nat→Prop} {w w':World} (h:LibQ w) (k:Sb H w w') (hH:∀ b,b<6→¬H b):LibQ w':=
 ⟨h.lib.sb k hH,h.dec.sb h.lib.big k hH,fun W hW=>h.num W ((k.g5 h.lib.big hH).trans hW)⟩
theorem LibQ.nw {w w':World} (h:LibQ w) (k:Nw w w'):LibQ w':=h.sb k fun _ _ e=>e
def quoteA (s:ByteArray):ByteArray:=if Lib.validD s.data.toList then ⟨(quoteS s).toArray⟩ else ByteArray.empty
theorem zeroRune (w:World):(zeroValue 21).run Tryz.prog w=.ok (.int .i32 0) w:=by kernel_rfl
theorem look_letter {W:World} {M:Nat} (h:LetAt W M) (r:Nat) (hr:r≤1114111) :
  (Instr.lookup 263 (.map (some M)) (.int .i32 (r:Int)) true).run Tryz.prog W=.ok (.tuple #[.int .i32 (((letterR r).getD 0:Nat):Int),.bool (letterR r).isSome]) W:=by
 obtain ⟨v,ps,hrun,hv⟩:=World.ownsMap.look_ok h runeKey Tryz.underlying263 (zeroRune W) (let_val 0 (by decide)) (let_key r (by simp [Lit.wf,IntKind.min,IntKind.max,IntKind.signed,IntKind.bits];omega))
 rw [letters_at] at hv
 rw [letters_has] at hrun
 obtain ⟨c,rfl,hc,-⟩:=plainElem_int_inv Tryz.underlying21 hv
 have:=congrArg Prod.fst hc
 simp only [DataW.lit.injEq,Lit.int.injEq,true_and] at this
 rw [hrun,this]
theorem LetAt.set {W:World} {M:Nat} (h:LetAt W M) {p:Addr} (hp:M≠p.block) (u:Value):LetAt (W.setCell p u) M:=ownsMap_heap h (Below.heap_setCell _ _ _ _ hp)
theorem Bld.keep {B b x:Nat} {bs:List Value} {W W':World} (h:Bld B b bs W) (k:Sb (fun i=>i=x) W W') (hb:b≠x) (hx:∀ c fz,W.heap[x]?≠some (.cells c 5 fz)):Bld B b bs W':=by
 have hg:W.grownBy W' (some x):=⟨k.os,k.tape,k.output,k.size,fun i hi hn=>k.block i hi fun e=>hn (by rw [e])⟩
 have hA:∀ p,Lib.BuilderAtF 160 5 B b p bs W→Lib.BuilderAtF 160 5 B b p bs W':=by
  rintro p ⟨h1,v,h2,h3,h4⟩
  refine ⟨h1,v,(k.block b (lt_of_block h2) hb).trans h2,h3.kept hg ?_,h4⟩
  rcases h3.2 with ⟨rfl,_⟩ | ⟨g,cap,cur,fz,rfl,_,hgc,_⟩
  ·exact .inl rfl
  refine .inr fun e=>?_
  simp only [Value.ownBlock,Option.some.injEq] at e
  subst e
  exact hx _ _ hgc
 exact h.imp (hA _) (hA _)
theorem Bld.nw {B b:Nat} {bs:List Value} {W W':World} (h:Bld B b bs W) (k:Nw W W'):Bld B b bs W':=by
 have hg:W.grownBy W' none:=⟨k.os,k.tape,k.output,k.size,fun i hi _=>k.block i hi fun e=>e⟩
 have hA:∀ p,Lib.BuilderAtF 160 5 B b p bs W→Lib.BuilderAtF 160 5 B b p bs W':=by
  rintro p ⟨h1,v,h2,h3,h4⟩
  refine ⟨h1,v,(k.block b (lt_of_block h2) fun e=>e).trans h2,h3.kept hg ?_,h4⟩
  cases v.ownBlock with
  | none=>exact .inl rfl
  | some x=>exact .inr (by simp)
 exact h.imp (hA _) (hA _)
theorem Bld.lt {B b:Nat} {bs:List Value} {W:World} (h:Bld B b bs W):b<W.heap.size:=h.elim (fun h=>h.lt) (fun h=>h.lt)
structure QK (B:Nat) (w w':World):Prop where
 os:w'.os=w.os
 tape:w'.tape=w.tape
 output:w'.output=w.output
 size:w.heap.size≤w'.heap.size
 block:∀ k,k<B→k<w.heap.size→w'.heap[k]? = w.heap[k]?
 others:∀ k o,w.heap[k]? = some o→k≠B→k≠B+1→(∀ c fz,o≠.cells c 5 fz)→w'.heap[k]? = some o
theorem QK.refl (B:Nat) (w:World):QK B w w:=⟨rfl,rfl,rfl,Nat.le_refl _,fun _ _ _=>rfl,fun _ _ h _ _ _=>h⟩
theorem QK.trans {B:Nat} {a b c:World} (h:QK B a b) (k:QK B b c):QK B a c:=
 ⟨k.os.trans h.os,k.tape.trans h.tape,k.output.trans h.output,Nat.le_trans h.size k.size,fun i hi hl=>(k.block i hi (Nat.lt_of_lt_of_le hl h.size)).trans (h.block i hi hl),fun i o ho h1 h2 h3=>k.others i o (h.others i o ho h1 h2 h3) h1 h2 h3⟩
theorem QK.nw {B:Nat} {w w':World} (h:Nw w w'):QK B w w':=
 ⟨h.os,h.tape,h.output,h.size,fun k _ hl=>h.block k hl fun e=>e,fun k o ho _ _ _=>(h.block k (Array.getElem?_eq_some_iff.1 ho).1 fun e=>e).trans ho⟩
theorem QK.of {B:Nat} {w w':World} (h:Below B w w') (k:Lib.OthersKept 5 (some (B+1)) w w'):QK B w w':=
 ⟨h.os,h.tape,h.output,h.size,fun i hi _=>h.block i hi,fun i o ho _ h2 h3=>k i o ho (fun e=>h2 (by injection e)) h3⟩
theorem QK.set {B:Nat} (w:World) (u:Value):QK B w (w.setCell ⟨B,0,none⟩ u):=
 ⟨rfl,rfl,rfl,by simp,fun k hk _=>Below.heap_setCell _ _ _ _ (by show k≠B;omega),fun k o ho h1 _ _=>(Below.heap_setCell _ _ _ _ h1).trans ho⟩
theorem QK.blk {B:Nat} {w w':World} (h:QK B w w') {g:Nat} {t:TypeId} {cs:Array Value} (hb:Blk w g t cs) (h1:g≠B) (h2:g≠B+1) (ht:t≠5):Blk w' g t cs:=
 h.others g _ hb h1 h2 fun c fz e=>ht (by injection e)
theorem QK.let_ {B:Nat} {w w':World} (h:QK B w w') {M:Nat} (hm:LetAt w M) (h1:M≠B) (h2:M≠B+1):LetAt w' M:=by
 refine ownsMap_heap hm ?_
 obtain ⟨es,clock,hb,-⟩:=hm
 rw [hb]
 exact h.others M _ hb h1 h2 fun c fz e=>by cases e
theorem QK.old {w1 W W':World} (h:Nw w1 W) (k:QK w1.heap.size W W'):Nw w1 W':=
 ⟨k.os.trans h.os,k.tape.trans h.tape,k.output.trans h.output,Nat.le_trans h.size k.size,fun b hb hn=>(k.block b hb (Nat.lt_of_lt_of_le hb h.size)).trans (h.block b hb hn)⟩
theorem QK.agree {w1 W W':World} {K:Nat→Prop} (k:QK w1.heap.size W W') (hK:∀ b,K b→(b<w1.heap.size∧b<W.heap.size)∨∃ o,W.heap[b]? = some o∧b≠w1.heap.size∧b≠w1.heap.size+1∧∀ c fz,o≠.cells c 5 fz):Agree K W W':=fun b hb=>by
 rcases hK b hb with ⟨h1,h2⟩ | ⟨o,h1,h2,h3,h4⟩
 ·exact k.block b h1 h2
 rw [h1];exact k.others b o h1 h2 h3 h4
structure QI (w1:World) (pre:List (Nat × Nat)) (W:World):Prop where
 bld:Bld w1.heap.size (w1.heap.size+1) (Lib.byteCells (34 :: quoteL pre)) W
 let_:∃ mb,Blk W w1.heap.size 263 #[.map mb]∧∀ M,mb=some M→M≠w1.heap.size∧M≠w1.heap.size+1∧LetAt W M
 old:Nw w1 W
theorem QI.nw {w1 W W':World} {pre:List (Nat × Nat)} (h:QI w1 pre W) (k:Nw W W'):QI w1 pre W':=by
 obtain ⟨mb,h1,h2⟩:=h.let_
 exact ⟨h.bld.nw k,⟨mb,k.blk h1,fun M hM=>⟨(h2 M hM).1,(h2 M hM).2.1,ownsMap_heap (h2 M hM).2.2 (k.block M (World.ownsMap.lt (h2 M hM).2.2) fun e=>e)⟩⟩,h.old.trans k⟩
theorem QI.turn {w1 W W':World} {pre:List (Nat × Nat)} {x:Nat} (h:QI w1 pre W) (k:Sb (fun i=>i=x) W W') (hx:w1.heap.size+1<x) (hl:∃ r,W.heap[x]? = some (.loop r)):QI w1 pre W':=by
 obtain ⟨mb,h1,h2⟩:=h.let_
 obtain ⟨r,hr⟩:=hl
 refine ⟨h.bld.keep k (by omega) (fun c fz e=>by rw [hr] at e;cases e),⟨mb,k.blk h1 (by omega),fun M hM=>⟨(h2 M hM).1,(h2 M hM).2.1,ownsMap_heap (h2 M hM).2.2 (k.block M (World.ownsMap.lt (h2 M hM).2.2) fun e=>?_)⟩⟩,h.old.comp k fun i hi e=>by omega⟩
 obtain ⟨es,clock,hb,-⟩:=(h2 M hM).2.2
 subst e
 rw [hr] at hb;cases hb
theorem QI.snoc {w1 W W':World} {pre:List (Nat × Nat)} {x:Nat × Nat} {mb:Option Nat} (h:QI w1 pre W) (k:QK w1.heap.size W W') (hb:Bld w1.heap.size (w1.heap.size+1) (Lib.byteCells (34 :: quoteL (pre++[x]))) W')
  (hL:Blk W' w1.heap.size 263 #[.map mb]) (hM:∀ M,mb=some M→M≠w1.heap.size∧M≠w1.heap.size+1∧LetAt W' M):QI w1 (pre++[x]) W':=
 ⟨hb,⟨mb,hL,hM⟩,k.old h.old⟩
theorem byteCells_snoc (l r:List UInt8):Lib.byteCells (l++r)=Lib.byteCells l++Lib.byteCells r:=by simp [Lib.byteCells]
theorem and15 {r:Nat} (h:r<32):bits .and .i32 (r:Int) 15=(r:Int) % 16:=by
 have:∀ k:Fin 32,bits .and .i32 ((k.val:Nat):Int) 15=((k.val:Nat):Int) % 16:=by decide
 exact this ⟨r,h⟩
theorem hex_get (k:Nat) (hk:k<16) (h:k<(ByteArray.mk #[48,49,50,51,52,53,54,55,56,57,97,98,99,100,101,102]).size):(ByteArray.mk #[48,49,50,51,52,53,54,55,56,57,97,98,99,100,101,102])[k]'h=hexD k:=by
 have:∀ k:Fin 16,(ByteArray.mk #[48,49,50,51,52,53,54,55,56,57,97,98,99,100,101,102])[k.val]'k.isLt=hexD k.val:=by decide
 exact this ⟨k,hk⟩
theorem QI.next {w1 W W':World} {pre:List (Nat × Nat)} {x:Nat × Nat} {mb:Option Nat} {Bs D:Nat} {s:ByteArray} (h:QI w1 pre W) (hs:Blk W Bs 9 #[.string s]) (hBs:w1.heap.size+1<Bs) (hD:W.heap[D]? = some (.deferred (some []))) (hDn:w1.heap.size+1<D) (hl:∃ r,W.heap[D+1]? = some (.loop r)) (h6:6≤w1.heap.size)
  (k:QK w1.heap.size W W') (hb:Bld w1.heap.size (w1.heap.size+1) (Lib.byteCells (34 :: quoteL (pre++[x]))) W') (hL:Blk W' w1.heap.size 263 #[.map mb]) (hM:∀ M,mb=some M→M≠w1.heap.size∧M≠w1.heap.size+1∧LetAt W' M) :
  (QI w1 (pre++[x]) W'∧Blk W' Bs 9 #[.string s])∧Agree (fun b=>(b=Bs∨b<6)∨b=D∨b=D+1) W W'∧W.heap.size≤W'.heap.size:=by
 have ho:=h.old.size
 refine ⟨⟨h.snoc k hb hL hM,k.blk hs (by omega) (by omega) (by decide)⟩,k.agree fun b hb=>?_,k.size⟩
 rcases hb with (rfl | hb) | rfl | rfl
 ·exact .inr ⟨_,hs,by omega,by omega,fun c fz e=>by injection e with e1 e2;exact absurd e2 (by decide)⟩
 ·exact .inl ⟨by omega,by omega⟩
 ·exact .inr ⟨_,hD,by omega,by omega,fun c fz e=>by cases e⟩
 obtain ⟨r,hr⟩:=hl
 exact .inr ⟨_,hr,by omega,by omega,fun c fz e=>by cases e⟩
theorem quote_plain {pre:List (Nat × Nat)} {px r:Nat} (h:standsR (r:Int)=true):Lib.byteCells (34 :: quoteL (pre++[(px,r)]))=Lib.byteCells (34 :: quoteL pre)++Lib.runeCells (r:Int):=by
 have:quoteR r=Lib.encodeRune r:=by unfold quoteR;rw [h];rfl
 rw [quoteL_snoc,this,←List.cons_append,byteCells_snoc,Lib.byteCells_encodeRune]
theorem runeCells_small {c:Nat} (h:c<128):Lib.runeCells (c:Int)=Lib.byteCells [c.toUInt8]:=by
 rw [Lib.runeCells,Lib.encodeRuneZ_one (by omega) (by omega)]
 simp [Lib.byteCells]
 omega
theorem letter_lt {r c:Nat} (hc:letterR r=some c):c<128:=by
 unfold letterR at hc
 repeat' split at hc
 all_goals first | (cases hc;done) | (injection hc with hc;omega)
theorem quote_letter {pre:List (Nat × Nat)} {px r c:Nat} (h:standsR (r:Int)=false) (hc:letterR r=some c):Lib.byteCells (34 :: quoteL (pre++[(px,r)]))=(Lib.byteCells (34 :: quoteL pre)++[.int .u8 92])++Lib.runeCells (c:Int):=by
 have h128:=letter_lt hc
 have:quoteR r=[92]++[c.toUInt8]:=by unfold quoteR;rw [h,hc];rfl
 rw [quoteL_snoc,this,←List.cons_append,←List.append_assoc,byteCells_snoc,byteCells_snoc,runeCells_small h128]
 rfl
theorem quote_hex {pre:List (Nat × Nat)} {px r:Nat} (h:standsR (r:Int)=false) (hc:letterR r=none):Lib.byteCells (34 :: quoteL (pre++[(px,r)]))=((Lib.byteCells (34 :: quoteL pre)++Lib.strCells ⟨#[92,117,48,48]⟩)++[.int .u8 (hexD (r / 16)).toNat])++[.int .u8 (hexD (r % 16)).toNat]:=by
 have:quoteR r=[92,117,48,48]++[hexD (r / 16)]++[hexD (r % 16)]:=by unfold quoteR;rw [h,hc];rfl
 rw [quoteL_snoc,this,←List.cons_append,←List.append_assoc,←List.append_assoc,byteCells_snoc,byteCells_snoc,byteCells_snoc]
 rfl
theorem few_hex {r:Nat} (h:standsR (r:Int)=false) (hc:letterR r=none):r<32:=by
 unfold letterR at hc
 simp only [standsR,Bool.and_eq_false_iff,decide_eq_false_iff_not,bne_eq_false_iff_eq] at h
 repeat' split at hc
 all_goals first | (cases hc;done) | omega
end Go.Proofs.YtkhdiakpdafcdaaGreatDoor
