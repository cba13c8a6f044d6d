/- What the theorem needs of the texts OvLay, OvLay2, RangeG, RangeC, Coll, TSameP, AppP, AL, OvP, OvQ, Sbs, OvMem, OvStep, OvGet, MeetO, OvStepW, OvPut: no condition of its own. -/
import Derived.Shelf.SlIter.Nil
import Derived.Shelf.SortM.Plain
import Derived.Shelf.SortM.SortNone
import Derived.Ground.GgzProg
import Derived.Ground.SlgmProg
import Derived.Ground.NamesProg
import Derived.Shelf.Strings.Prefix
import Derived.Shelf.Strconv.Itoa4
import Derived.Shelf.Unicode.ValidAny
import Derived.Shelf.Small.Wraps
import Derived.Laws.IdiomStrings
import Derived.WalkArith
import Derived.Shelf.Strings.Builder1
import Derived.Shelf.Strings.BuilderRune
import Derived.Shelf.Unicode.DecodeAny
import Derived.RangeFuncNested
import Derived.RangeFuncBound
import Derived.RangeFuncCalls
import Derived.RangeFuncLeaves
import Derived.OwnWalkIn
import Derived.Maps.OwnSet
import Derived.WideAt
import Derived.StringKeys
import Derived.Deep.DeepCutAuto
import Derived.Deep.CutBlock
import Derived.Test.YtechahocffcbpaaGreatDoorPwa
import Derived.Test.YtechahocffcbpaaGreatDoorPwb
import Derived.Test.YtechahocffcbpaaGreatDoorPwc
import Derived.Test.YtechahocffcbpaaGreatDoorPwd
import Derived.Test.YtechahocffcbpaaGreatDoorPwe
set_option maxRecDepth 100000
set_option maxHeartbeats 4000000
namespace Go.Proofs.YtechahocffcbpaaGreatDoor
open Go.RowKit Go.Maps Go.Sort Go.Shelf
set_option linter.unusedVariables false
def Tryz.keys38_ren:Go.Shelf.Ren:=⟨fun | 7=>38 | 10=>64 | n=>n,fun | 23=>26 | 26=>9 | 3=>85 | 28=>89 | 0=>0 | 27=>88 | 33=>58 | 4=>4 | n=>n,fun | n=>n⟩
theorem Tryz.keys38:Go.Proofs.SlLaysZ.n7 Tryz.prog Tryz.keys38_ren:={
 mixed:=by kernel_rfl
 f7:=⟨Tryz.f38.name,by decide,Tryz.func38.trans (congrArg some (by kernel_rfl))⟩
 f10:=⟨Tryz.f64.name,by decide,Tryz.func64.trans (congrArg some (by kernel_rfl))⟩
 t0:=Tryz.underlying0
 a0:=Tryz.isAgg0
 z0:=Tryz.sizeOf0
 v0:=Tryz.zeroValue0
 t4:=Tryz.underlying4
 a4:=Tryz.isAgg4
 z4:=Tryz.sizeOf4
 v4:=Tryz.zeroValue4
 t23:=Tryz.underlying26
 a23:=Tryz.isAgg26
 z23:=Tryz.sizeOf26
 v23:=Tryz.zeroValue26
 t26:=Tryz.underlying9
 a26:=Tryz.isAgg9
 z26:=Tryz.sizeOf9
 v26:=Tryz.zeroValue9
 t27:=Tryz.underlying88
 a27:=Tryz.isAgg88
 z27:=Tryz.sizeOf88
 v27:=Tryz.zeroValue88
 t28:=Tryz.underlying89
 a28:=Tryz.isAgg89
 z28:=Tryz.sizeOf89
 v28:=Tryz.zeroValue89
 t33:=Tryz.underlying58
 a33:=Tryz.isAgg58
 z33:=Tryz.sizeOf58
 v33:=Tryz.zeroValue58 }
def Tryz.sorted37_ren:Go.Shelf.Ren:=⟨fun | 6=>37 | 8=>63 | 9=>49 | 11=>95 | 13=>84 | 12=>83 | 23=>133 | 24=>134 | 14=>124 | 15=>125 | 16=>126 | 17=>127 | 18=>128 | 19=>129 | 20=>130 | 21=>131 | 22=>132 | 25=>173 | 26=>174 | 27=>175 | 28=>176 | 29=>177 | 30=>178 | 31=>192 | n=>n,fun | 26=>9 | 28=>89 | 24=>59 | 0=>0 | 3=>3 | 37=>78 | 48=>185 | 50=>187 | 4=>4 | 40=>179 | 39=>178 | 45=>104 | 5=>5 | 9=>9 | 51=>212 | 55=>216 | 57=>232 | 58=>166 | 33=>58 | n=>n,fun | n=>n⟩
theorem Tryz.sorted37:Go.Proofs.SlLaysZ.n6 Tryz.prog Tryz.sorted37_ren:={
 mixed:=by kernel_rfl
 f6:=⟨Tryz.f37.name,by decide,Tryz.func37.trans (congrArg some (by kernel_rfl))⟩
 f8:=⟨Tryz.f63.name,by decide,Tryz.func63.trans (congrArg some (by kernel_rfl))⟩
 f11:=⟨Tryz.f95.name,by decide,Tryz.func95.trans (congrArg some (by kernel_rfl))⟩
 t0:=Tryz.underlying0
 a0:=Tryz.isAgg0
 z0:=Tryz.sizeOf0
 v0:=Tryz.zeroValue0
 t24:=Tryz.underlying59
 a24:=Tryz.isAgg59
 z24:=Tryz.sizeOf59
 v24:=Tryz.zeroValue59
 t26:=Tryz.underlying9
 a26:=Tryz.isAgg9
 z26:=Tryz.sizeOf9
 v26:=Tryz.zeroValue9
 t28:=Tryz.underlying89
 a28:=Tryz.isAgg89
 z28:=Tryz.sizeOf89
 v28:=Tryz.zeroValue89
 i26:=by kernel_rfl }
def Tryz.sort49_ren:Go.Shelf.Ren:=⟨fun | 6=>49 | 8=>84 | 9=>83 | 19=>133 | 20=>134 | 21=>124 | 22=>125 | 23=>126 | 24=>127 | 25=>128 | 26=>129 | 27=>130 | 28=>131 | 29=>132 | 36=>173 | 31=>174 | 32=>175 | 37=>176 | 38=>177 | 39=>178 | 41=>192 | n=>n,fun | 27=>59 | 29=>9 | 3=>3 | 32=>78 | 26=>59 | 0=>0 | 44=>185 | 46=>187 | 4=>4 | 36=>179 | 35=>178 | 41=>104 | 5=>5 | 9=>9 | 53=>212 | 57=>216 | 63=>232 | 64=>166 | n=>n,fun | n=>n⟩
theorem Tryz.sort49:Go.Proofs.SlLaysM.n6 Tryz.prog Tryz.sort49_ren:={
 mixed:=by kernel_rfl
 f6:=⟨Tryz.f49.name,by decide,Tryz.func49.trans (congrArg some (by kernel_rfl))⟩
 f8:=Tryz.func84.trans (congrArg some (by kernel_rfl))
 f9:=⟨Tryz.f83.name,by decide,Tryz.func83.trans (congrArg some (by kernel_rfl))⟩
 f19:=Tryz.func133.trans (congrArg some (by kernel_rfl))
 f20:=Tryz.func134.trans (congrArg some (by kernel_rfl))
 f21:=⟨Tryz.f124.name,by decide,Tryz.func124.trans (congrArg some (by kernel_rfl))⟩
 f22:=⟨Tryz.f125.name,by decide,Tryz.func125.trans (congrArg some (by kernel_rfl))⟩
 f23:=⟨Tryz.f126.name,by decide,Tryz.func126.trans (congrArg some (by kernel_rfl))⟩
 f24:=⟨Tryz.f127.name,by decide,Tryz.func127.trans (congrArg some (by kernel_rfl))⟩
 f25:=⟨Tryz.f128.name,by decide,Tryz.func128.trans (congrArg some (by kernel_rfl))⟩
 f26:=⟨Tryz.f129.name,by decide,Tryz.func129.trans (congrArg some (by kernel_rfl))⟩
 f27:=⟨Tryz.f130.name,by decide,Tryz.func130.trans (congrArg some (by kernel_rfl))⟩
 f28:=⟨Tryz.f131.name,by decide,Tryz.func131.trans (congrArg some (by kernel_rfl))⟩
 f29:=⟨Tryz.f132.name,by decide,Tryz.func132.trans (congrArg some (by kernel_rfl))⟩
 f31:=Tryz.func174.trans (congrArg some (by kernel_rfl))
 f32:=Tryz.func175.trans (congrArg some (by kernel_rfl))
 f36:=⟨Tryz.f173.name,by decide,Tryz.func173.trans (congrArg some (by kernel_rfl))⟩
 f37:=⟨Tryz.f176.name,by decide,Tryz.func176.trans (congrArg some (by kernel_rfl))⟩
 f38:=⟨Tryz.f177.name,by decide,Tryz.func177.trans (congrArg some (by kernel_rfl))⟩
 f39:=⟨Tryz.f178.name,by decide,Tryz.func178.trans (congrArg some (by kernel_rfl))⟩
 f41:=⟨Tryz.f192.name,by decide,Tryz.func192.trans (congrArg some (by kernel_rfl))⟩
 t0:=Tryz.underlying0
 a0:=Tryz.isAgg0
 z0:=Tryz.sizeOf0
 v0:=Tryz.zeroValue0
 t3:=Tryz.underlying3
 a3:=Tryz.isAgg3
 z3:=Tryz.sizeOf3
 v3:=Tryz.zeroValue3
 t4:=Tryz.underlying4
 a4:=Tryz.isAgg4
 z4:=Tryz.sizeOf4
 v4:=Tryz.zeroValue4
 t5:=Tryz.underlying5
 a5:=Tryz.isAgg5
 z5:=Tryz.sizeOf5
 v5:=Tryz.zeroValue5
 t9:=Tryz.underlying9
 a9:=Tryz.isAgg9
 z9:=Tryz.sizeOf9
 v9:=Tryz.zeroValue9
 t26:=Tryz.underlying59
 a26:=Tryz.isAgg59
 z26:=Tryz.sizeOf59
 v26:=Tryz.zeroValue59
 t27:=Tryz.underlying59
 a27:=Tryz.isAgg59
 z27:=Tryz.sizeOf59
 v27:=Tryz.zeroValue59
 t29:=Tryz.underlying9
 a29:=Tryz.isAgg9
 z29:=Tryz.sizeOf9
 v29:=Tryz.zeroValue9
 t32:=Tryz.underlying78
 a32:=Tryz.isAgg78
 z32:=Tryz.sizeOf78
 v32:=Tryz.zeroValue78
 t35:=Tryz.underlying178
 a35:=Tryz.isAgg178
 z35:=Tryz.sizeOf178
 v35:=Tryz.zeroValue178
 t36:=Tryz.underlying179
 a36:=Tryz.isAgg179
 z36:=Tryz.sizeOf179
 v36:=Tryz.zeroValue179
 t41:=Tryz.underlying104
 a41:=Tryz.isAgg104
 z41:=Tryz.sizeOf104
 v41:=Tryz.zeroValue104
 t44:=Tryz.underlying185
 a44:=Tryz.isAgg185
 z44:=Tryz.sizeOf185
 v44:=Tryz.zeroValue185
 t46:=Tryz.underlying187
 a46:=Tryz.isAgg187
 z46:=Tryz.sizeOf187
 v46:=Tryz.zeroValue187
 t53:=Tryz.underlying212
 a53:=Tryz.isAgg212
 z53:=Tryz.sizeOf212
 v53:=Tryz.zeroValue212
 t57:=Tryz.underlying216
 a57:=Tryz.isAgg216
 z57:=Tryz.sizeOf216
 v57:=Tryz.zeroValue216
 t63:=Tryz.underlying232
 a63:=Tryz.isAgg232
 z63:=Tryz.sizeOf232
 v63:=Tryz.zeroValue232
 t64:=Tryz.underlying166
 a64:=Tryz.isAgg166
 z64:=Tryz.sizeOf166
 v64:=Tryz.zeroValue166 }
def Tryz.layHasPrefix_ren:Go.Shelf.Ren:=⟨fun | 99=>82 | 206=>123 | n=>n,fun | 9=>9 | 4=>4 | 3=>3 | n=>n,fun | n=>n⟩
theorem Tryz.layHasPrefix:Go.Proofs.Lays.n99 Tryz.prog Tryz.layHasPrefix_ren:={
 mixed:=by kernel_rfl
 f99:=Tryz.func82.trans (congrArg some (by kernel_rfl))
 f206:=Tryz.func123.trans (congrArg some (by kernel_rfl))
 t3:=Tryz.underlying3
 a3:=Tryz.isAgg3
 z3:=Tryz.sizeOf3
 v3:=Tryz.zeroValue3
 t4:=Tryz.underlying4
 a4:=Tryz.isAgg4
 z4:=Tryz.sizeOf4
 v4:=Tryz.zeroValue4
 t9:=Tryz.underlying9
 a9:=Tryz.isAgg9
 z9:=Tryz.sizeOf9
 v9:=Tryz.zeroValue9 }
def Tryz.layFormatInt_ren:Go.Shelf.Ren:=⟨fun | 173=>142 | 246=>182 | 283=>194 | 284=>195 | 285=>196 | 286=>197 | 129=>134 | 317=>208 | 318=>209 | 319=>210 | 320=>211 | 337=>215 | 338=>216 | n=>n,fun | 2=>2 | 3=>3 | 9=>9 | 4=>4 | 171=>234 | 0=>0 | 53=>187 | 37=>140 | 5=>5 | 173=>236 | 212=>252 | 51=>185 | 20=>20 | 213=>253 | 46=>78 | 232=>259 | 233=>260 | n=>n,fun | 17=>3 | 18=>4 | 19=>5 | n=>n⟩
theorem Tryz.layFormatInt:Go.Proofs.LaysM.n173 Tryz.prog Tryz.layFormatInt_ren:={
 mixed:=by kernel_rfl
 f129:=Tryz.func134.trans (congrArg some (by kernel_rfl))
 f173:=Tryz.func142.trans (congrArg some (by kernel_rfl))
 f246:=Tryz.func182.trans (congrArg some (by kernel_rfl))
 f283:=Tryz.func194.trans (congrArg some (by kernel_rfl))
 f284:=Tryz.func195.trans (congrArg some (by kernel_rfl))
 f285:=Tryz.func196.trans (congrArg some (by kernel_rfl))
 f286:=Tryz.func197.trans (congrArg some (by kernel_rfl))
 f317:=Tryz.func208.trans (congrArg some (by kernel_rfl))
 f318:=Tryz.func209.trans (congrArg some (by kernel_rfl))
 f319:=Tryz.func210.trans (congrArg some (by kernel_rfl))
 f320:=Tryz.func211.trans (congrArg some (by kernel_rfl))
 f337:=Tryz.func215.trans (congrArg some (by kernel_rfl))
 f338:=Tryz.func216.trans (congrArg some (by kernel_rfl))
 t0:=Tryz.underlying0
 a0:=Tryz.isAgg0
 z0:=Tryz.sizeOf0
 v0:=Tryz.zeroValue0
 t2:=Tryz.underlying2
 a2:=Tryz.isAgg2
 z2:=Tryz.sizeOf2
 v2:=Tryz.zeroValue2
 t3:=Tryz.underlying3
 a3:=Tryz.isAgg3
 z3:=Tryz.sizeOf3
 v3:=Tryz.zeroValue3
 t4:=Tryz.underlying4
 a4:=Tryz.isAgg4
 z4:=Tryz.sizeOf4
 v4:=Tryz.zeroValue4
 t5:=Tryz.underlying5
 a5:=Tryz.isAgg5
 z5:=Tryz.sizeOf5
 v5:=Tryz.zeroValue5
 t9:=Tryz.underlying9
 a9:=Tryz.isAgg9
 z9:=Tryz.sizeOf9
 v9:=Tryz.zeroValue9
 t20:=Tryz.underlying20
 a20:=Tryz.isAgg20
 z20:=Tryz.sizeOf20
 v20:=Tryz.zeroValue20
 t37:=Tryz.underlying140
 a37:=Tryz.isAgg140
 z37:=Tryz.sizeOf140
 v37:=Tryz.zeroValue140
 t46:=Tryz.underlying78
 a46:=Tryz.isAgg78
 z46:=Tryz.sizeOf78
 v46:=Tryz.zeroValue78
 t51:=Tryz.underlying185
 a51:=Tryz.isAgg185
 z51:=Tryz.sizeOf185
 v51:=Tryz.zeroValue185
 t53:=Tryz.underlying187
 a53:=Tryz.isAgg187
 z53:=Tryz.sizeOf187
 v53:=Tryz.zeroValue187
 t171:=Tryz.underlying234
 a171:=Tryz.isAgg234
 z171:=Tryz.sizeOf234
 v171:=Tryz.zeroValue234
 t173:=Tryz.underlying236
 a173:=Tryz.isAgg236
 z173:=Tryz.sizeOf236
 v173:=Tryz.zeroValue236
 t212:=Tryz.underlying252
 a212:=Tryz.isAgg252
 z212:=Tryz.sizeOf252
 v212:=Tryz.zeroValue252
 t213:=Tryz.underlying253
 a213:=Tryz.isAgg253
 z213:=Tryz.sizeOf253
 t232:=Tryz.underlying259
 a232:=Tryz.isAgg259
 z232:=Tryz.sizeOf259
 v232:=Tryz.zeroValue259
 t233:=Tryz.underlying260
 a233:=Tryz.isAgg260
 z233:=Tryz.sizeOf260
 v233:=Tryz.zeroValue260
 g17:=by kernel_rfl
 g18:=by kernel_rfl
 g19:=by kernel_rfl
 i0:=by kernel_rfl
 i2:=by kernel_rfl
 i3:=by kernel_rfl
 i4:=by kernel_rfl
 i5:=by kernel_rfl
 i9:=by kernel_rfl
 i20:=by kernel_rfl
 i37:=by kernel_rfl
 i46:=by kernel_rfl
 i51:=by kernel_rfl
 i53:=by kernel_rfl
 i171:=by kernel_rfl
 i173:=by kernel_rfl
 i212:=by kernel_rfl
 i232:=by kernel_rfl
 i233:=by kernel_rfl
 m17:=by kernel_rfl
 m18:=by kernel_rfl
 m19:=by kernel_rfl }
def Tryz.layValid_ren:Go.Shelf.Ren:=⟨fun | 196=>136 | 259=>179 | n=>n,fun | 9=>9 | 4=>4 | 3=>3 | 5=>5 | 12=>12 | 119=>219 | 0=>0 | 46=>78 | 139=>222 | 138=>221 | 53=>187 | n=>n,fun | 3=>0 | 4=>1 | n=>n⟩
theorem Tryz.layValid:Go.Proofs.Lays.n196 Tryz.prog Tryz.layValid_ren:={
 mixed:=by kernel_rfl
 f196:=Tryz.func136.trans (congrArg some (by kernel_rfl))
 f259:=Tryz.func179.trans (congrArg some (by kernel_rfl))
 t0:=Tryz.underlying0
 a0:=Tryz.isAgg0
 z0:=Tryz.sizeOf0
 v0:=Tryz.zeroValue0
 t3:=Tryz.underlying3
 a3:=Tryz.isAgg3
 z3:=Tryz.sizeOf3
 v3:=Tryz.zeroValue3
 t4:=Tryz.underlying4
 a4:=Tryz.isAgg4
 z4:=Tryz.sizeOf4
 v4:=Tryz.zeroValue4
 t5:=Tryz.underlying5
 a5:=Tryz.isAgg5
 z5:=Tryz.sizeOf5
 v5:=Tryz.zeroValue5
 t9:=Tryz.underlying9
 a9:=Tryz.isAgg9
 z9:=Tryz.sizeOf9
 v9:=Tryz.zeroValue9
 t12:=Tryz.underlying12
 a12:=Tryz.isAgg12
 z12:=Tryz.sizeOf12
 v12:=Tryz.zeroValue12
 t46:=Tryz.underlying78
 a46:=Tryz.isAgg78
 z46:=Tryz.sizeOf78
 v46:=Tryz.zeroValue78
 t53:=Tryz.underlying187
 a53:=Tryz.isAgg187
 z53:=Tryz.sizeOf187
 v53:=Tryz.zeroValue187
 t119:=Tryz.underlying219
 a119:=Tryz.isAgg219
 z119:=Tryz.sizeOf219
 t138:=Tryz.underlying221
 a138:=Tryz.isAgg221
 z138:=Tryz.sizeOf221
 v138:=Tryz.zeroValue221
 t139:=Tryz.underlying222
 a139:=Tryz.isAgg222
 z139:=Tryz.sizeOf222
 v139:=Tryz.zeroValue222
 g3:=by kernel_rfl
 g4:=by kernel_rfl }
def Tryz.layFormatBool_ren:Go.Shelf.Ren:=⟨fun | 121=>140 | 214=>181 | n=>n,fun | 4=>4 | 9=>9 | n=>n,fun | n=>n⟩
theorem Tryz.layFormatBool:Go.Proofs.Lays.n121 Tryz.prog Tryz.layFormatBool_ren:={
 mixed:=by kernel_rfl
 f121:=Tryz.func140.trans (congrArg some (by kernel_rfl))
 f214:=Tryz.func181.trans (congrArg some (by kernel_rfl))
 t4:=Tryz.underlying4
 a4:=Tryz.isAgg4
 z4:=Tryz.sizeOf4
 v4:=Tryz.zeroValue4
 t9:=Tryz.underlying9
 a9:=Tryz.isAgg9
 z9:=Tryz.sizeOf9
 v9:=Tryz.zeroValue9 }
theorem Tryz.sorts37 (m:Nat):AnyZ.SortsIn Tryz.prog Tryz.sorted37_ren Fence.wide m:=
 ⟨fun blk off cap ss W hH hblk hsz=>callsIn_wide.2 (AnyM.slices_Sort_string Tryz.sort49 blk off cap ss W hH hblk hsz),
  fun p cap W=>callsIn_wide.2 (AnyM.slices_Sort_string_none Tryz.sort49 p cap W)⟩
theorem Tryz.maps_Keys_38 (mb:Option Nat) (W:World):CallsIn Fence.wide 5 Tryz.prog 38 #[.map mb] W fun e w'=>e=.returned (.func (.func 64) #[] #[.pointer (some ⟨W.heap.size,0,none⟩)])∧w'=W.alloc (.cells #[.map mb] 26):=
 AnyZ.keys_in Tryz.keys38 Fence.wide 5 trivial rfl mb W
theorem Tryz.slices_Sorted_keys_37_38 {H:Type} (b nn:Nat) (D0:DataW H) (R:Value→Option (DataW H × List MemPlace)) (w:World) (hown:w.ownsMap Tryz.prog 9 R b nn D0) (hmax:Maps.size D0≤maxLen) (hbytes:Maps.size D0*16≤140737488355328) :
  CallsIn Fence.wide 5 Tryz.prog 37 #[.func (.func 64) #[] #[.pointer (some ⟨w.heap.size,0,none⟩)]] (w.alloc (.cells #[.map (some b)] 26)) fun e w'=>∃ (v:Value) (ss:List (List UInt8)),e=.returned v∧ss.Perm (strKeys D0)∧
   w'.ownsRow (w.alloc (.cells #[.map (some b)] 26)).heap.size 9 1 v ss.length ((ss.mergeSort (fun x y=>decide (x≤y))).map encStr)∧(v=.slice none 0 0↔ss=[])∧Below (w.alloc (.cells #[.map (some b)] 26)).heap.size (w.alloc (.cells #[.map (some b)] 26)) w':=by
 have hbl:=hown.lt
 have hseq:SeqGives Fence.wide 2 Tryz.prog 64 #[.pointer (some ⟨w.heap.size,0,none⟩)] encStr (fun ss=>ss.Perm (strKeys D0)) (Maps.size D0) (w.alloc (.cells #[.map (some b)] 26)):=
  AnyZ.keys_gives (ρ:=Tryz.keys38_ren) { Tryz.keys38 with } Fence.wide _ trivial rfl (by omega) w.heap.size b nn D0 _ (by simp) (by simp) (by
   obtain ⟨es,clock,hb,Ft,hs,hD⟩:=hown
   exact ⟨es,clock,(Below.heap_alloc _ _ b hbl).trans hb,Ft,hs,hD⟩)
 exact AnyZ.sorted_in Tryz.sorted37 Fence.wide 5 trivial trivial trivial trivial rfl (by omega) (Tryz.sorts37 _) (enters_of Tryz.func49 (by kernel_rfl) rfl) 64 #[.pointer (some ⟨w.heap.size,0,none⟩)] trivial (enters_of Tryz.func64 (by kernel_rfl) rfl) _ _ hmax hbytes _ hseq
theorem Tryz.slices_Sorted_keys_nil_37_38 (w:World) :
  CallsIn Fence.wide 5 Tryz.prog 37 #[.func (.func 64) #[] #[.pointer (some ⟨w.heap.size,0,none⟩)]] (w.alloc (.cells #[.map none] 26)) fun e w'=>∃ (v:Value) (ss:List (List UInt8)),e=.returned v∧ss=[]∧
   w'.ownsRow (w.alloc (.cells #[.map none] 26)).heap.size 9 1 v ss.length ((ss.mergeSort (fun x y=>decide (x≤y))).map encStr)∧(v=.slice none 0 0↔ss=[])∧Below (w.alloc (.cells #[.map none] 26)).heap.size (w.alloc (.cells #[.map none] 26)) w':=by
 have hseq:SeqGives Fence.wide 2 Tryz.prog 64 #[.pointer (some ⟨w.heap.size,0,none⟩)] encStr (fun ss:List (List UInt8)=>ss=[]) 0 (w.alloc (.cells #[.map none] 26)):=
  AnyZ.keys_gives_nil (ρ:=Tryz.keys38_ren) { Tryz.keys38 with } Fence.wide _ trivial rfl w.heap.size _ (by simp) (by simp)
 exact AnyZ.sorted_in Tryz.sorted37 Fence.wide 5 trivial trivial trivial trivial rfl (by omega) (Tryz.sorts37 _) (enters_of Tryz.func49 (by kernel_rfl) rfl) 64 #[.pointer (some ⟨w.heap.size,0,none⟩)] trivial (enters_of Tryz.func64 (by kernel_rfl) rfl) _ 0 (Nat.zero_le _) (by omega) _ hseq
def Tryz.layDecode_ren:Go.Shelf.Ren:=⟨fun | 197=>213 | 260=>217 | n=>n,fun | 9=>9 | 21=>21 | 3=>3 | 4=>4 | 5=>5 | 105=>255 | 119=>219 | 0=>0 | 46=>78 | 139=>222 | 138=>221 | n=>n,fun | 3=>0 | 4=>1 | n=>n⟩
theorem Tryz.layDecode:Go.Proofs.Lays.n197 Tryz.prog Tryz.layDecode_ren:={
 mixed:=by kernel_rfl
 f197:=Tryz.func213.trans (congrArg some (by kernel_rfl))
 f260:=Tryz.func217.trans (congrArg some (by kernel_rfl))
 t0:=Tryz.underlying0
 a0:=Tryz.isAgg0
 z0:=Tryz.sizeOf0
 v0:=Tryz.zeroValue0
 t3:=Tryz.underlying3
 a3:=Tryz.isAgg3
 z3:=Tryz.sizeOf3
 v3:=Tryz.zeroValue3
 t4:=Tryz.underlying4
 a4:=Tryz.isAgg4
 z4:=Tryz.sizeOf4
 v4:=Tryz.zeroValue4
 t5:=Tryz.underlying5
 a5:=Tryz.isAgg5
 z5:=Tryz.sizeOf5
 v5:=Tryz.zeroValue5
 t9:=Tryz.underlying9
 a9:=Tryz.isAgg9
 z9:=Tryz.sizeOf9
 v9:=Tryz.zeroValue9
 t21:=Tryz.underlying21
 a21:=Tryz.isAgg21
 z21:=Tryz.sizeOf21
 v21:=Tryz.zeroValue21
 t46:=Tryz.underlying78
 a46:=Tryz.isAgg78
 z46:=Tryz.sizeOf78
 v46:=Tryz.zeroValue78
 t105:=Tryz.underlying255
 a105:=Tryz.isAgg255
 z105:=Tryz.sizeOf255
 v105:=Tryz.zeroValue255
 t119:=Tryz.underlying219
 a119:=Tryz.isAgg219
 z119:=Tryz.sizeOf219
 t138:=Tryz.underlying221
 a138:=Tryz.isAgg221
 z138:=Tryz.sizeOf221
 v138:=Tryz.zeroValue221
 t139:=Tryz.underlying222
 a139:=Tryz.isAgg222
 z139:=Tryz.sizeOf222
 v139:=Tryz.zeroValue222
 g3:=by kernel_rfl
 g4:=by kernel_rfl }
def Tryz.layBuilderString_ren:Go.Shelf.Ren:=⟨fun | 169=>203 | n=>n,fun | 70=>139 | 9=>9 | 0=>0 | 72=>142 | 37=>140 | 127=>258 | 3=>3 | 5=>5 | n=>n,fun | n=>n⟩
theorem Tryz.layBuilderString:Go.Proofs.Lays.n169 Tryz.prog Tryz.layBuilderString_ren:={
 mixed:=by kernel_rfl
 f169:=Tryz.func203.trans (congrArg some (by kernel_rfl))
 t0:=Tryz.underlying0
 a0:=Tryz.isAgg0
 z0:=Tryz.sizeOf0
 v0:=Tryz.zeroValue0
 t3:=Tryz.underlying3
 a3:=Tryz.isAgg3
 z3:=Tryz.sizeOf3
 v3:=Tryz.zeroValue3
 t9:=Tryz.underlying9
 a9:=Tryz.isAgg9
 z9:=Tryz.sizeOf9
 v9:=Tryz.zeroValue9
 t37:=Tryz.underlying140
 a37:=Tryz.isAgg140
 z37:=Tryz.sizeOf140
 v37:=Tryz.zeroValue140
 t70:=Tryz.underlying139
 a70:=Tryz.isAgg139
 z70:=Tryz.sizeOf139
 v70:=Tryz.zeroValue139
 t72:=Tryz.underlying142
 a72:=Tryz.isAgg142
 z72:=Tryz.sizeOf142
 v72:=Tryz.zeroValue142
 t127:=Tryz.underlying258
 a127:=Tryz.isAgg258
 z127:=Tryz.sizeOf258
 v127:=Tryz.zeroValue258 }
def Tryz.layWriteString_ren:Go.Shelf.Ren:=⟨fun | 166=>180 | 167=>198 | 168=>201 | 240=>193 | 276=>207 | 242=>214 | 278=>218 | n=>n,fun | 37=>140 | 70=>139 | 72=>142 | 75=>224 | 80=>165 | 164=>249 | n=>n,fun | n=>n⟩
theorem Tryz.layWriteString:Go.Proofs.Lays.n166 Tryz.prog Tryz.layWriteString_ren:={
 mixed:=by kernel_rfl
 f166:=Tryz.func180.trans (congrArg some (by kernel_rfl))
 f240:=Tryz.func193.trans (congrArg some (by kernel_rfl))
 f276:=Tryz.func207.trans (congrArg some (by kernel_rfl))
 t0:=Tryz.underlying0
 a0:=Tryz.isAgg0
 z0:=Tryz.sizeOf0
 v0:=Tryz.zeroValue0
 t3:=Tryz.underlying3
 a3:=Tryz.isAgg3
 z3:=Tryz.sizeOf3
 v3:=Tryz.zeroValue3
 t4:=Tryz.underlying4
 a4:=Tryz.isAgg4
 z4:=Tryz.sizeOf4
 v4:=Tryz.zeroValue4
 t9:=Tryz.underlying9
 a9:=Tryz.isAgg9
 z9:=Tryz.sizeOf9
 v9:=Tryz.zeroValue9
 t20:=Tryz.underlying20
 a20:=Tryz.isAgg20
 z20:=Tryz.sizeOf20
 v20:=Tryz.zeroValue20
 t37:=Tryz.underlying140
 a37:=Tryz.isAgg140
 z37:=Tryz.sizeOf140
 v37:=Tryz.zeroValue140
 t70:=Tryz.underlying139
 a70:=Tryz.isAgg139
 z70:=Tryz.sizeOf139
 v70:=Tryz.zeroValue139
 t72:=Tryz.underlying142
 a72:=Tryz.isAgg142
 z72:=Tryz.sizeOf142
 v72:=Tryz.zeroValue142
 t75:=Tryz.underlying224
 a75:=Tryz.isAgg224
 z75:=Tryz.sizeOf224
 v75:=Tryz.zeroValue224
 t164:=Tryz.underlying249
 a164:=Tryz.isAgg249
 z164:=Tryz.sizeOf249
 v164:=Tryz.zeroValue249 }
def Tryz.layWriteByte_ren:Go.Shelf.Ren:=⟨fun | 166=>180 | 167=>198 | 168=>201 | 240=>193 | 276=>207 | 242=>214 | 278=>218 | n=>n,fun | 37=>140 | 70=>139 | 72=>142 | 75=>224 | 80=>165 | 164=>249 | n=>n,fun | n=>n⟩
theorem Tryz.layWriteByte:Go.Proofs.Lays.n167 Tryz.prog Tryz.layWriteByte_ren:={
 mixed:=by kernel_rfl
 f167:=Tryz.func198.trans (congrArg some (by kernel_rfl))
 f240:=Tryz.func193.trans (congrArg some (by kernel_rfl))
 f276:=Tryz.func207.trans (congrArg some (by kernel_rfl))
 t0:=Tryz.underlying0
 a0:=Tryz.isAgg0
 z0:=Tryz.sizeOf0
 v0:=Tryz.zeroValue0
 t4:=Tryz.underlying4
 a4:=Tryz.isAgg4
 z4:=Tryz.sizeOf4
 v4:=Tryz.zeroValue4
 t5:=Tryz.underlying5
 a5:=Tryz.isAgg5
 z5:=Tryz.sizeOf5
 v5:=Tryz.zeroValue5
 t9:=Tryz.underlying9
 a9:=Tryz.isAgg9
 z9:=Tryz.sizeOf9
 v9:=Tryz.zeroValue9
 t20:=Tryz.underlying20
 a20:=Tryz.isAgg20
 z20:=Tryz.sizeOf20
 v20:=Tryz.zeroValue20
 t37:=Tryz.underlying140
 a37:=Tryz.isAgg140
 z37:=Tryz.sizeOf140
 v37:=Tryz.zeroValue140
 t70:=Tryz.underlying139
 a70:=Tryz.isAgg139
 z70:=Tryz.sizeOf139
 v70:=Tryz.zeroValue139
 t72:=Tryz.underlying142
 a72:=Tryz.isAgg142
 z72:=Tryz.sizeOf142
 v72:=Tryz.zeroValue142
 t75:=Tryz.underlying224
 a75:=Tryz.isAgg224
 z75:=Tryz.sizeOf224
 v75:=Tryz.zeroValue224
 t164:=Tryz.underlying249
 a164:=Tryz.isAgg249
 z164:=Tryz.sizeOf249
 v164:=Tryz.zeroValue249 }
def Tryz.layWriteRune_ren:Go.Shelf.Ren:=⟨fun | 166=>180 | 167=>198 | 168=>201 | 240=>193 | 276=>207 | 242=>214 | 278=>218 | n=>n,fun | 37=>140 | 70=>139 | 72=>142 | 75=>224 | 80=>165 | 164=>249 | 46=>78 | 51=>185 | n=>n,fun | n=>n⟩
theorem Tryz.layWriteRune:Go.Proofs.Lays.n168 Tryz.prog Tryz.layWriteRune_ren:={
 mixed:=by kernel_rfl
 f168:=Tryz.func201.trans (congrArg some (by kernel_rfl))
 f240:=Tryz.func193.trans (congrArg some (by kernel_rfl))
 f242:=Tryz.func214.trans (congrArg some (by kernel_rfl))
 f276:=Tryz.func207.trans (congrArg some (by kernel_rfl))
 f278:=Tryz.func218.trans (congrArg some (by kernel_rfl))
 t0:=Tryz.underlying0
 a0:=Tryz.isAgg0
 z0:=Tryz.sizeOf0
 v0:=Tryz.zeroValue0
 t3:=Tryz.underlying3
 a3:=Tryz.isAgg3
 z3:=Tryz.sizeOf3
 v3:=Tryz.zeroValue3
 t4:=Tryz.underlying4
 a4:=Tryz.isAgg4
 z4:=Tryz.sizeOf4
 v4:=Tryz.zeroValue4
 t5:=Tryz.underlying5
 a5:=Tryz.isAgg5
 z5:=Tryz.sizeOf5
 v5:=Tryz.zeroValue5
 t9:=Tryz.underlying9
 a9:=Tryz.isAgg9
 z9:=Tryz.sizeOf9
 v9:=Tryz.zeroValue9
 t20:=Tryz.underlying20
 a20:=Tryz.isAgg20
 z20:=Tryz.sizeOf20
 v20:=Tryz.zeroValue20
 t21:=Tryz.underlying21
 a21:=Tryz.isAgg21
 z21:=Tryz.sizeOf21
 v21:=Tryz.zeroValue21
 t37:=Tryz.underlying140
 a37:=Tryz.isAgg140
 z37:=Tryz.sizeOf140
 v37:=Tryz.zeroValue140
 t46:=Tryz.underlying78
 a46:=Tryz.isAgg78
 z46:=Tryz.sizeOf78
 v46:=Tryz.zeroValue78
 t51:=Tryz.underlying185
 a51:=Tryz.isAgg185
 z51:=Tryz.sizeOf185
 v51:=Tryz.zeroValue185
 t70:=Tryz.underlying139
 a70:=Tryz.isAgg139
 z70:=Tryz.sizeOf139
 v70:=Tryz.zeroValue139
 t72:=Tryz.underlying142
 a72:=Tryz.isAgg142
 z72:=Tryz.sizeOf142
 v72:=Tryz.zeroValue142
 t75:=Tryz.underlying224
 a75:=Tryz.isAgg224
 z75:=Tryz.sizeOf224
 v75:=Tryz.zeroValue224
 t164:=Tryz.underlying249
 a164:=Tryz.isAgg249
 z164:=Tryz.sizeOf249
 v164:=Tryz.zeroValue249 }
end Go.Proofs.YtechahocffcbpaaGreatDoor
namespace Go.Proofs.YtechahocffcbpaaGreatDoor
open Go.RowKit
set_option linter.unusedVariables false
theorem ext_obj (w:World) (o:Obj) (h:∀ (W:World) (i j:Nat),W.heap[i]? = some o→W.frozen? ⟨i,j,none⟩=false):Ext w (w.alloc o):=by
 refine ⟨(Below.refl _ _).alloc (Nat.le_refl _) _,fun b j hb=>?_⟩
 by_cases hb':b=w.heap.size
 ·subst hb'
  exact h _ _ _ (World.alloc_heap_new w o)
 exact frozen_none (by simp;omega)
structure Turned (B:Nat) (W W':World):Prop where
 os:W'.os=W.os
 tape:W'.tape=W.tape
 output:W'.output=W.output
 size:W'.heap.size=W.heap.size
 block:∀ b,(b<B∨∃ o,W.heap[b]? = some o∧o.isCells=true)→W'.heap[b]? = W.heap[b]?
 fz:∀ b o,W'.frozen? ⟨b,o,none⟩=W.frozen? ⟨b,o,none⟩
theorem Turned.put {B l:Nat} {W:World} {o o':Obj} (hl:B≤l) (h:W.heap[l]? = some o) (hc:o.isCells=false) (hc':o'.isCells=false):Turned B W (W.putObj l o'):=by
 refine ⟨rfl,rfl,rfl,by simp,fun b hb=>World.putObj_heap_other ?_,fun b j=>?_⟩
 ·rintro rfl
  rcases hb with hb | ⟨o2,h2,h3⟩
  ·omega
  rw [h] at h2;cases h2;rw [hc] at h3;cases h3
 by_cases e:b=l
 ·subst e
  have h1:(W.putObj b o').heap[b]? = some o':=World.putObj_heap_same (Array.getElem?_eq_some_iff.1 h).1
  unfold World.frozen?
  simp only [h1,h]
  cases o <;> cases o' <;> first | rfl | (simp [Obj.isCells] at hc;done) | (simp [Obj.isCells] at hc';done)
 exact World.frozen?_of_block (a:=⟨b,j,none⟩) (World.putObj_heap_other e)
theorem St.then {C C1:Nat→Prop} {a b c:World} (h:St C a b) (k:St C1 b c) (hC:∀ i,i<a.heap.size→C1 i→C i):St C a c:=
 ⟨k.os.trans h.os,k.tape.trans h.tape,k.output.trans h.output,Nat.le_trans h.size k.size,fun i hi hn=>(k.block i (Nat.lt_of_lt_of_le hi h.size) (fun hh=>hn (hC i hi hh))).trans (h.block i hi hn),fun b o=>(k.fz b o).trans (h.fz b o)⟩
theorem St.put {l:Nat} {W:World} {o o':Obj} (h:W.heap[l]? = some o) (hc:o.isCells=false) (hc':o'.isCells=false):St (fun b=>b=l) W (W.putObj l o'):=
 ⟨rfl,rfl,rfl,by simp,fun b _ hn=>World.putObj_heap_other hn,(Turned.put (Nat.le_refl l) h hc hc').fz⟩
structure Takes {α:Type} (P:Program) (l:Nat) (encs:α→Array Value) (G:List α→α→World→World→Prop) (J:List α→(Nat→Prop)→World→Prop) (Jx:List α→World→Prop):Prop where
 lt:∀ pre C W,J pre C W→∀ b,C b→b<W.heap.size
 take:∀ pre C x W0 W1,J pre C W0→Ext W0 W1→G pre x W0 W1→YieldAt Fence.wide 4 P l (encs x) W1 fun e W'=>
  (e=.returned (.bool true)∧∃ C',J (pre++[x]) C' W'∧St C W1 W'∧∀ b,C' b→C b∨W1.heap.size≤b)∨(e=.returned (.bool false)∧Jx (pre++[x]) W'∧St C W1 W')
def SeqC {α:Type} (P:Program) (g:Nat) (lb:Array Value) (encs:α→Array Value) (K:Nat→Prop) (G:List α→α→World→World→Prop) (S Sp:List α→Prop) (w0:World):Prop:=
 ∀ (l:Nat) (J:List α→(Nat→Prop)→World→Prop) (Jx:List α→World→Prop) (C:Nat→Prop) (W:World),Takes P l encs G J Jx→Agree K w0 W→w0.heap.size≤W.heap.size→(∀ b,C b→¬K b)→J [] C W→
  Calls P g (#[.func (.yield l) #[] #[]]++lb) W fun e W'=>(∃ v,e=.returned v)∧((∃ xs C' W0,S xs∧J xs C' W0∧Ext W0 W')∨(∃ pre W0,Sp pre∧Jx pre W0∧Ext W0 W'))
def ownPostC {α:Type} (C:Nat→Prop) (I:List α→(Nat→Prop)→World→Prop) (Ix:Code→List α→World→Prop) (xs:List α) (W:World):Exit→Act→World→Prop
 | .normal,_,W'=>∃ C',I xs C' W'∧St C W W'∧(∀ b,C' b→C b∨W.heap.size≤b)∧(∀ b,C' b→b<W'.heap.size)
 | .ret,_,W'=>St C W W'∧Ix .ret xs W'
 | .exit id,_,W'=>St C W W'∧Ix (.exit id) xs W'
 | .goto t,_,W'=>St C W W'∧Ix (.goto t) xs W'
 | .panic _,_,_=>False
 | .outgrown,_,_=>False
theorem wpIn_rangeC {α:Type} {n:Nat} {P:Program} {g:Operand} {ps:Array Tmp} {assign body:Code} {Q:Exit→Act→World→Prop} {a:Act} {w:World}
  {gf:Nat} {lb:Array Value} (hg:a.eval g=.func (.func gf) #[] lb) (eg:∀ args w,(callFunc gf args).run P w=.ok (.enter gf args) w)
  {encs:α→Array Value} {K:Nat→Prop} {G:List α→α→World→World→Prop} {S Sp:List α→Prop} {w0:World} (hseq:SeqC P gf lb encs K G S Sp w0)
  (hA:Agree K w0 w) (hsz:w0.heap.size≤w.heap.size) (hK:∀ b,K b→b<w.heap.size) (hps:∀ x,(encs x).size=ps.size)
  (I:List α→(Nat→Prop)→World→Prop) (Ix:Code→List α→World→Prop) (C₀:Nat→Prop) (hC:∀ b,C₀ b→b<w.heap.size∧¬K b)
  (hI:∀ {s C W W'},I s C W→St (fun b=>b=w.heap.size+1) W W'→I s C W') (hIx:∀ {c s W W'},Ix c s W→St (fun b=>b=w.heap.size+1) W W'→Ix c s W')
  (h0:∀ W,Ext w W→w.heap.size+2≤W.heap.size→I [] C₀ W)
  (hround:∀ (pre:List α) (C:Nat→Prop) (x:α) (W0 W1:World),I pre C W0→(∀ b,C b→b<W0.heap.size)→w.heap.size+2≤W0.heap.size→¬C (w.heap.size+1)→Ext W0 W1→G pre x W0 W1→
    assign.wpIn (Fence.wide.inRound (w.heap.size+1)) 4 P (Exit.then (fun a1 W2=>Ext W1 W2∧∀ W3,St (fun b=>b=w.heap.size+1) W2 W3→body.wpIn (Fence.wide.inRound (w.heap.size+1)) 4 P (ownPostC C I Ix (pre++[x]) W3) a1 W3) (fun _ _ _=>False))
     { tmps:=(ps.zip (encs x)).foldl (fun t (p,v)=>t.setIfInBounds p v) a.tmps,defers:=[] } W1)
  (hdone:∀ (D:Nat) (xs:List α) (C:Nat→Prop) (W:World),D=w.heap.size→S xs→I xs C W→W.heap[D]? = some (.deferred (some []))→Q .normal { a with defers:={ target:=.collected D,args:=#[] } :: a.defers } W)
  (hstop:∀ (D:Nat) (c:Code) (pre:List α) (W:World),D=w.heap.size→Sp pre→Ix c pre W→W.heap[D]? = some (.deferred (some []))→c.wpIn Fence.wide n P Q { a with defers:={ target:=.collected D,args:=#[] } :: a.defers } W) :
  (Code.rangeFunc g ps assign body).wpIn Fence.wide n P Q a w:=by
 refine wpIn_rangeFunc fun fn hfn=>?_
 rw [show Fence.wide.round=none from rfl]
 -- the loop's record at each of its states;where it lies,and the block of the rounds' deferred calls
 let rec_:LoopState→Option Code→Obj:=fun st pe=>.loop { state:=st,pending:=pe,fn,tmps:=a.tmps,params:=ps,assign,body,defers:=w.heap.size }
 let BK:LoopState→Option Code→World→Prop:=fun st pe W=>W.heap[w.heap.size+1]? = some (rec_ st pe)∧W.heap[w.heap.size]? = some (.deferred (some []))
 have bkL:∀ {st pe W},BK st pe W→w.heap.size+1<W.heap.size:=fun h=>(Array.getElem?_eq_some_iff.1 h.1).1
 have bkE:∀ {st pe W W'},BK st pe W→Ext W W'→BK st pe W':=fun h he=>⟨(he.heap (Array.getElem?_eq_some_iff.1 h.1).1).trans h.1,(he.heap (Array.getElem?_eq_some_iff.1 h.2).1).trans h.2⟩
 have bkS:∀ {st pe W W'} {C:Nat→Prop},BK st pe W→St C W W'→¬C (w.heap.size+1)→¬C w.heap.size→BK st pe W':=fun h hk h1 h2=>⟨(hk.block _ (bkL h) h1).trans h.1,(hk.block _ (by have:=bkL h;omega) h2).trans h.2⟩
 have bkP:∀ {st pe W} (st':LoopState) (pe':Option Code),BK st pe W→BK st' pe' (W.putObj (w.heap.size+1) (rec_ st' pe'))∧St (fun b=>b=w.heap.size+1) W (W.putObj (w.heap.size+1) (rec_ st' pe')):=fun st' pe' h=>
  ⟨⟨World.putObj_heap_same (Array.getElem?_eq_some_iff.1 h.1).1,(World.putObj_heap_other (by omega)).trans h.2⟩,St.put h.1 rfl rfl⟩
 have e1:Ext w (w.alloc (.deferred (some []))):=ext_obj w _ fun W i j h=>by simp [World.frozen?,h]
 have e2:Ext (w.alloc (.deferred (some []))) ((w.alloc (.deferred (some []))).alloc (rec_ .ready none)):=ext_obj _ _ fun W i j h=>by simp [World.frozen?,h,rec_]
 have hrun:=run_enterLoop_outer (P:=P) (w:=w) fn a.tmps ps assign body
 have bk1:BK .ready none ((w.alloc (.deferred (some []))).alloc (rec_ .ready none)):=
  ⟨by have:=World.alloc_heap_new (w.alloc (.deferred (some []))) (rec_ .ready none);rwa [World.size_alloc] at this,(Below.heap_alloc _ _ _ (by simp)).trans (World.alloc_heap_new w _)⟩
 have eW:=e1.trans e2
 have hs1:w.heap.size+2≤((w.alloc (.deferred (some []))).alloc (rec_ .ready none)).heap.size:=by simp
 change _=Result.ok _ ((w.alloc (.deferred (some []))).alloc (rec_ .ready none)) at hrun
 generalize (w.alloc (.deferred (some []))).alloc (rec_ .ready none)=W1 at *
 refine ⟨w.heap.size+1,_,W1,{ target:=.fn (.func gf) lb,args:=#[.func (.yield (w.heap.size+1)) #[] #[]] },W1,gf,#[.func (.yield (w.heap.size+1)) #[] #[]]++lb,W1,hrun,?_,?_,?_,fun h=>by simp [Fence.wide] at h,?_⟩
 ·simp only [resolve,hg]
  simp [go_sem]
 ·intro f' hf';trivial
 ·simp [invoke,go_sem,eg]
 refine callsIn_wide.2 ((hseq (w.heap.size+1) (fun pre C W=>∃ C0:Nat→Prop,C=(fun b=>C0 b∨b=w.heap.size+1)∧I pre C0 W∧(∀ b,C0 b→b<W.heap.size)∧¬C0 (w.heap.size+1)∧¬C0 w.heap.size∧BK .ready none W) (fun pre W=>∃ c,Ix c pre W∧BK .done (some c) W) (fun b=>C₀ b∨b=w.heap.size+1) W1 ⟨?_,?_⟩ (hA.trans (eW.agree hK)) (Nat.le_trans hsz eW.size) ?_
  ⟨C₀,rfl,h0 W1 eW hs1,fun b hb=>by have:=(hC b hb).1;omega,fun h=>by have:=(hC _ h).1;omega,fun h=>by have:=(hC _ h).1;omega,bk1⟩).mono ?_)
 ·rintro pre C W ⟨C0,rfl,-,hlt,-,-,hbk⟩ b (hb | rfl)
  ·exact hlt b hb
  exact bkL hbk
 ·rintro pre C x W0 Wy ⟨C0,rfl,hi,hlt,nL,nD,hbk⟩ hx hgd
  have hbk1:=bkE hbk hx
  have hl0:=bkL hbk
  refine ⟨fn,_,assign,body,run_yield (args:=encs x) hbk1.1 (hps x),roundIn_of_wpIn hfn (wpIn_mono (hround pre C0 x W0 Wy hi hlt (by omega) nL hx hgd) ?_)⟩
  rintro e a3 W2 hp
  cases e with
  | normal=>
    obtain ⟨hx2,hb⟩:=hp
    have hbk2:=bkE hbk1 hx2
    obtain ⟨hbk3,ht3⟩:=bkP .busy none hbk2
    refine ⟨_,run_beginRound hbk2.1 rfl,wpIn_mono (hb _ ht3) ?_⟩
    have hl3:=bkL hbk3
    generalize W2.putObj (w.heap.size+1) (rec_ .busy none)=W3 at *
    rintro e a4 W4 hq
    cases e with
    | normal=>
      obtain ⟨C',hi4,hst,hsub,hlt4⟩:=hq
      have hbk4:=bkS hbk3 hst nL nD
      obtain ⟨hbk5,ht5⟩:=bkP .ready none hbk4
      refine ⟨_,_,run_endRound none hbk4.1,.inl ⟨rfl,_,⟨C',rfl,hI hi4 ht5,fun b hb=>Nat.lt_of_lt_of_le (hlt4 b hb) ht5.size,fun h=>?_,fun h=>?_,hbk5⟩,?_,?_⟩⟩
      ·rcases hsub _ h with h | h
       ·exact nL h
       omega
      ·rcases hsub _ h with h | h
       ·exact nD h
       omega
      ·exact (((hx2.st _).trans (ht3.mono fun i _ hi=>.inr hi)).trans (hst.mono fun i _ hi=>.inl hi)).trans (ht5.mono fun i _ hi=>.inr hi)
      rintro b (hb | rfl)
      ·rcases hsub b hb with h | h
       ·exact .inl (.inl h)
       exact .inr (by have:=hx2.size;have:=ht3.size;omega)
      exact .inl (.inr rfl)
    | ret=>
      have hbk4:=bkS hbk3 hq.1 nL nD
      obtain ⟨hbk5,ht5⟩:=bkP .done (some .ret) hbk4
      exact ⟨_,_,run_endRound (some .ret) hbk4.1,.inr ⟨rfl,⟨.ret,hIx hq.2 ht5,hbk5⟩,(((hx2.st _).trans (ht3.mono fun i _ hi=>.inr hi)).trans (hq.1.mono fun i _ hi=>.inl hi)).trans (ht5.mono fun i _ hi=>.inr hi)⟩⟩
    | exit id=>
      have hbk4:=bkS hbk3 hq.1 nL nD
      obtain ⟨hbk5,ht5⟩:=bkP .done (some (.exit id)) hbk4
      exact ⟨_,_,run_endRound (some (.exit id)) hbk4.1,.inr ⟨rfl,⟨.exit id,hIx hq.2 ht5,hbk5⟩,(((hx2.st _).trans (ht3.mono fun i _ hi=>.inr hi)).trans (hq.1.mono fun i _ hi=>.inl hi)).trans (ht5.mono fun i _ hi=>.inr hi)⟩⟩
    | goto t=>
      have hbk4:=bkS hbk3 hq.1 nL nD
      obtain ⟨hbk5,ht5⟩:=bkP .done (some (.goto t)) hbk4
      exact ⟨_,_,run_endRound (some (.goto t)) hbk4.1,.inr ⟨rfl,⟨.goto t,hIx hq.2 ht5,hbk5⟩,(((hx2.st _).trans (ht3.mono fun i _ hi=>.inr hi)).trans (hq.1.mono fun i _ hi=>.inl hi)).trans (ht5.mono fun i _ hi=>.inr hi)⟩⟩
    | panic ch=>exact hq.elim
    | outgrown=>exact hq.elim
  | ret=>exact hp.elim
  | exit id=>exact hp.elim
  | goto t=>exact hp.elim
  | panic ch=>exact hp.elim
  | outgrown=>exact hp.elim
 ·rintro b (hb | rfl) hk
  ·exact (hC b hb).2 hk
  have:=hK _ hk;omega
 rintro e W2 ⟨⟨v,rfl⟩,(⟨xs,C,W0,hS,⟨C0,rfl,hi,-,-,-,hbk⟩,hx⟩ | ⟨pre,W0,hSp,⟨c,hi,hbk⟩,hx⟩)⟩
 ·have hbk2:=bkE hbk hx
  obtain ⟨hbk5,ht5⟩:=bkP .exhausted none hbk2
  exact ⟨none,_,run_endLoop hbk2.1 (by simp),hdone _ xs C0 _ rfl hS (hI hi ((hx.st _).trans ht5)) hbk5.2⟩
 have hbk2:=bkE hbk hx
 obtain ⟨hbk5,ht5⟩:=bkP .exhausted (some c) hbk2
 exact ⟨some c,_,run_endLoop hbk2.1 (by simp),hstop _ c pre _ rfl hSp (hIx hi ((hx.st _).trans ht5)) hbk5.2⟩
theorem wpListIn_append_x {F:Fence} {n:Nat} {P:Program} (w:World) {ops:Array Oper} {rest:List Oper} {o:Oper} {a:Act} {Q:Exit→Act→World→Prop} (hgd:o.guard=none) (s' x:Operand) (t:TypeId)
  (ho:o.op=.call { callee:=.builtin .append,args:=#[s',x],argTypes:=#[t,t] })
  (base:Nat) (e:TypeId) (i:TypeInfo) (z:Value) (size bytes:Nat) (ht:P.underlying t=some (.slice e)) (hi:P.info? e=some i) (hz:i.zero=some z)
  (hsize:i.size=size) (hby:i.bytes=bytes) (hzs:z.cells.size=size) (hsz:0<size)
  (s:Sl) (k:Nat) (xs:List Value) (hs:a.eval s'=.slice s.a k s.c) (hown:w.ownsRow base e size (.slice s.a k s.c) k xs)
  (G:Nat→Prop) (sx:Sl) (m:Nat) (news:List Value) (hx:a.eval x=.slice sx.a m sx.c) (hsrc:Rd w G size sx m news) (h1:∀ u∈news,u.oneCell'=true)
  (h63:k+m≤maxLen) (hbytes:(k+m)*bytes≤140737488355328) (hbase:base≤w.heap.size)
  (h:∀ (s':Sl) (w':World),w'.ownsRow base e size (.slice s'.a (k+m) s'.c) (k+m) (xs++news)→Wr w w' s.row→(s'.a=s.a∨s'.a=some ⟨w.heap.size,0,none⟩∧Wr w w' none)→wpListIn F n P ops Q rest (a.put o.dst (.slice s'.a (k+m) s'.c)) w'):wpListIn F n P ops Q (o :: rest) a w:=by
 refine wpListIn_plain hgd fun K hK'=>?_
 obtain ⟨v',w',hr,h2,h3,h4⟩:=run_append_x (P:=P) w base t o.type e i z size bytes ht hi hz hsize hby hzs hsz s k xs hown G sx m news hsrc h1 h63 hbytes hbase
 unfold Oper.wpIn
 refine ⟨?_,?_⟩
 ·simp [Oper.about,ho,resolve,Target.leads,Sem.run_pure]
 rw [Oper.semAt_plain F _ _ (by rw [ho];intro c hc';cases hc')]
 simp [execOp,ho,resolve,invoke,builtin,hs,hx,hr,Result.andThen]
 exact hK' _ _ (h v' w' h2 h3 h4)
theorem St.putV {H:Nat→Prop} {a w:World} (h:St H a w) {b:Nat} (hb:a.heap.size≤b∨H b) (o:Nat) (d:Val) (sl so:Sl):St H a (putV w b o d sl so):=
 (((((h.set (p:=⟨b,_,none⟩) hb _).set (p:=⟨b,_,none⟩) hb _).set (p:=⟨b,_,none⟩) hb _).set (p:=⟨b,_,none⟩) hb _).set (p:=⟨b,_,none⟩) hb _).set (p:=⟨b,_,none⟩) hb _
theorem St.putM {H:Nat→Prop} {a w:World} (h:St H a w) {b:Nat} (hb:a.heap.size≤b∨H b) (o:Nat) (k:ByteArray) (d:Val) (sl so:Sl):St H a (putM w b o k d sl so):=
 (h.set (p:=⟨b,_,none⟩) hb _).putV hb _ _ _ _
theorem cmpV_mk (k:Int) (b:Bool) (i:Int) (t:ByteArray) (l:List Val) (ok:List ByteArray) (ov:List Val) (k':Int) (b':Bool) (i':Int) (t':ByteArray) (l':List Val) (ok':List ByteArray) (ov':List Val) :
  cmpV (.mk k b i t l ok ov) (.mk k' b' i' t' l' ok' ov')=if k≠k' then numI k k' else if k=2 then boolI b b' else if k=3 then numI i i' else if k=4 then textI t t' else if k=5 then cmpL l l' else if k=6 then cmpM ov ok ok' ov' else 0:=by
 rw [cmpV];rfl
theorem cmpV_swap0 (m:Nat):∀ x y:Val,SizeOf.sizeOf x≤m→cmpV x y=0→cmpV y x=0:=by
 induction m with
 | zero=>intro d _ hd;have:=Val.sz_pos d;omega
 | succ m ih=>
   intro x y hd h
   obtain ⟨k,b,i,t,l,ok,ov⟩:=x
   obtain ⟨k',b',i',t',l',ok',ov'⟩:=y
   have hl:∀ l l':List Val,SizeOf.sizeOf l≤m→cmpL l l'=0→cmpL l' l=0:=by
    intro l
    induction l with
    | nil=>
      intro l' _ h
      cases l' with
      | nil=>simp [cmpL]
      | cons b l'=>simp [cmpL] at h
    | cons a l ihl=>
      intro l' hs h
      simp only [List.cons.sizeOf_spec] at hs
      cases l' with
      | nil=>simp [cmpL] at h
      | cons b l'=>
        simp only [cmpL] at h ⊢
        by_cases hc:cmpV a b=0
        ·rw [if_neg (fun hn=>hn hc)] at h
         rw [if_neg (by simp [ih a b (by omega) hc])]
         exact ihl l' (by omega) h
        rw [if_pos hc] at h;exact absurd h hc
   have ho:∀ (l:List Val) (ka kb:List ByteArray) (l':List Val),SizeOf.sizeOf l≤m→cmpM l ka kb l'=0→cmpM l' kb ka l=0:=by
    intro l
    induction l with
    | nil=>
      intro ka kb l' _ h
      cases l' with
      | nil=>simp [cmpM]
      | cons b l'=>simp [cmpM] at h
    | cons a l ihl=>
      intro ka kb l' hs h
      simp only [List.cons.sizeOf_spec] at hs
      cases l' with
      | nil=>simp [cmpM] at h
      | cons b l'=>
        simp only [cmpM] at h ⊢
        by_cases ht:textI (ka.headD ByteArray.empty) (kb.headD ByteArray.empty)=0
        ·rw [if_neg (fun hn=>hn ht)] at h
         rw [if_neg (by rw [textI_zero] at ht;rw [ht,textI_self];simp)]
         by_cases hc:cmpV a b=0
         ·rw [if_neg (fun hn=>hn hc)] at h
          rw [if_neg (by simp [ih a b (by omega) hc])]
          exact ihl _ _ l' (by omega) h
         rw [if_pos hc] at h;exact absurd h hc
        rw [if_pos ht] at h;exact absurd h ht
   simp only [Val.mk.sizeOf_spec] at hd
   rw [cmpV_mk] at h ⊢
   by_cases hk:k=k'
   ·subst hk
    rw [if_neg (by simp)] at h ⊢
    by_cases h2:k=2
    ·rw [if_pos h2] at h ⊢
     exact boolI_zero.2 (boolI_zero.1 h).symm
    rw [if_neg h2] at h ⊢
    by_cases h3:k=3
    ·rw [if_pos h3] at h ⊢
     exact numI_swap.1 h
    rw [if_neg h3] at h ⊢
    by_cases h4:k=4
    ·rw [if_pos h4] at h ⊢
     exact textI_zero.2 (textI_zero.1 h).symm
    rw [if_neg h4] at h ⊢
    by_cases h5:k=5
    ·rw [if_pos h5] at h ⊢
     exact hl l l' (by omega) h
    rw [if_neg h5] at h ⊢
    by_cases h6:k=6
    ·rw [if_pos h6] at h ⊢
     exact ho ov ok ok' ov' (by omega) h
    rw [if_neg h6]
   rw [if_pos hk] at h
   exact absurd (numI_zero.1 h) hk
theorem cmpV_swap (x y:Val):cmpV x y=0↔cmpV y x=0:=⟨cmpV_swap0 _ x y (Nat.le_refl _),cmpV_swap0 _ y x (Nat.le_refl _)⟩
theorem getE_ins:∀ (es:List Ent) (k:ByteArray) (v:Val) (x:ByteArray),getE (insE es k v) x=if x=k then some v else getE es x
 | [],k,v,x=>by
   simp only [insE,getE]
   by_cases h:x=k
   ·rw [if_pos h.symm,if_pos h]
   rw [if_neg (fun e=>h e.symm),if_neg h]
 | e :: es,k,v,x=>by
   by_cases h1:klt e.1 k=true
   ·rw [insE,if_pos h1,getE,getE,getE_ins es k v x]
    by_cases h:x=k
    ·have:e.1≠x:=fun h2=>by rw [h2,h,klt_irrefl] at h1;cases h1
     rw [if_neg this,if_pos h,if_pos h]
    rw [if_neg h,if_neg h]
   rw [insE,if_neg h1]
   by_cases h2:e.1=k
   ·rw [if_pos h2,getE,getE,h2]
    by_cases h:x=k
    ·rw [if_pos h.symm,if_pos h]
    rw [if_neg (fun e=>h e.symm),if_neg h,if_neg (fun e=>h e.symm)]
   rw [if_neg h2,getE]
   by_cases h:x=k
   ·rw [if_pos h.symm,if_pos h]
   rw [if_neg (fun e=>h e.symm),if_neg h]
theorem getE_del:∀ (es:List Ent) (k:ByteArray) (x:ByteArray),Sorted es→getE (delE es k) x=if x=k then none else getE es x
 | [],k,x,_=>by simp [delE,getE]
 | e :: es,k,x,hs=>by
   obtain ⟨h1,h2⟩:=List.pairwise_cons.1 hs
   by_cases h3:klt e.1 k=true
   ·rw [delE,if_pos h3,getE,getE,getE_del es k x h2]
    by_cases h:x=k
    ·have:e.1≠x:=fun h2=>by rw [h2,h,klt_irrefl] at h3;cases h3
     rw [if_neg this,if_pos h,if_pos h]
    rw [if_neg h,if_neg h]
   rw [delE,if_neg h3]
   by_cases h4:e.1=k
   ·rw [if_pos h4,getE,h4]
    by_cases h:x=k
    ·rw [if_pos h]
     exact getE_none fun f hf e2=>by have:=h1 f hf;rw [h4,e2,h,klt_irrefl] at this;cases this
    rw [if_neg h,if_neg (fun e=>h e.symm)]
   rw [if_neg h4]
   by_cases h:x=k
   ·rw [if_pos h]
    refine getE_none fun f hf e2=>?_
    rcases List.mem_cons.1 hf with rfl | hf
    ·exact h4 (e2.trans h)
    have:=h1 f hf
    rw [e2,h] at this
    exact h3 this
   rw [if_neg h]
def simO:Option Val→Option Val→Bool
 | none,none=>true
 | some v,some u=>decide (cmpV v u=0)
 | _,_=>false
theorem simO_refl (o:Option Val):simO o o=true:=by cases o <;> simp [simO,cmpV_refl]
theorem sameE_of:∀ {a b:List Ent},Sorted a→Sorted b→(∀ k,simO (getE a k) (getE b k)=true)→sameE a b=true
 | [],[],_,_,_=>rfl
 | [],f :: b,_,_,h=>by have:=h f.1;simp [getE,simO] at this
 | e :: a,[],_,_,h=>by have:=h e.1;simp [getE,simO] at this
 | e :: a,f :: b,sa,sb,h=>by
   obtain ⟨a1,a2⟩:=List.pairwise_cons.1 sa
   obtain ⟨b1,b2⟩:=List.pairwise_cons.1 sb
   have hk:e.1=f.1:=by
    refine klt_total ?_ ?_
    ·cases hc:klt e.1 f.1 with
     | false=>rfl
     | true=>
       have h1:=h e.1
       rw [getE_none (B:=f :: b) (k:=e.1) fun g hg e2=>by
        rcases List.mem_cons.1 hg with rfl | hg
        ·rw [←e2,klt_irrefl] at hc;cases hc
        have:=klt_trans hc (b1 g hg);rw [e2,klt_irrefl] at this;cases this] at h1
       simp [getE,simO] at h1
    cases hc:klt f.1 e.1 with
    | false=>rfl
    | true=>
      have h1:=h f.1
      rw [getE_none (B:=e :: a) (k:=f.1) fun g hg e2=>by
       rcases List.mem_cons.1 hg with rfl | hg
       ·rw [←e2,klt_irrefl] at hc;cases hc
       have:=klt_trans hc (a1 g hg);rw [e2,klt_irrefl] at this;cases this] at h1
      simp [getE,simO] at h1
   have h0:=h e.1
   simp only [getE,if_true,hk,simO] at h0
   rw [sameE,sameE_of a2 b2 fun k=>?_,hk]
   ·simpa using h0
   by_cases hx:e.1=k
   ·have n1:getE a k=none:=getE_none fun g hg e2=>by
     have:=a1 g hg
     rw [hx,e2,klt_irrefl] at this;cases this
    have n2:getE b k=none:=getE_none fun g hg e2=>by
     have:=b1 g hg
     rw [←hk,hx,e2,klt_irrefl] at this;cases this
    rw [n1,n2]
    rfl
   have:=h k
   rwa [getE,if_neg hx,getE,if_neg (by rw [←hk];exact hx)] at this
end Go.Proofs.YtechahocffcbpaaGreatDoor
namespace Go.Proofs.YtechahocffcbpaaGreatDoor
open Go.RowKit Go.Maps
set_option linter.unusedVariables false
set_option linter.unusedSimpArgs false
section
variable {α : Type}
abbrev AL (α:Type):=List (ByteArray × α)
def SortedA (C:AL α):Prop:=C.Pairwise fun a b=>klt a.1 b.1=true
def getA:AL α→ByteArray→Option α
 | [],_=>none
 | e :: r,k=>if e.1=k then some e.2 else getA r k
def putA:AL α→ByteArray→α→AL α
 | [],k,v=>[(k,v)]
 | e :: r,k,v=>if klt e.1 k then e :: putA r k v else if e.1=k then (k,v) :: r else (k,v) :: e :: r
def delA (C:AL α) (k:ByteArray):AL α:=C.filter fun p=>!decide (p.1=k)
theorem getA_none {C:AL α} {k:ByteArray} (h:∀ e∈C,e.1≠k):getA C k=none:=by
 induction C with
 | nil=>rfl
 | cons e r ih=>rw [getA,if_neg (h e (List.mem_cons_self ..)),ih fun f hf=>h f (List.mem_cons_of_mem _ hf)]
theorem getA_some {C:AL α} {k:ByteArray} {s:α} (h:getA C k=some s):(k,s)∈C:=by
 induction C with
 | nil=>cases h
 | cons e r ih=>
   rw [getA] at h
   by_cases he:e.1=k
   ·rw [if_pos he] at h
    injection h with h
    subst he h
    exact List.mem_cons_self ..
   rw [if_neg he] at h
   exact List.mem_cons_of_mem _ (ih h)
theorem sortedA_far {e:ByteArray × α} {r:AL α} (h:SortedA (e :: r)):SortedA r∧∀ f∈r,klt e.1 f.1=true∧f.1≠e.1:=by
 obtain ⟨h1,h2⟩:=List.pairwise_cons.1 h
 exact ⟨h2,fun f hf=>⟨h1 f hf,fun e2=>by have:=h1 f hf;rw [e2,klt_irrefl] at this;cases this⟩⟩
theorem getA_mem {C:AL α} (hs:SortedA C) {k:ByteArray} {s:α} (h:(k,s)∈C):getA C k=some s:=by
 induction C with
 | nil=>cases h
 | cons e r ih=>
   obtain ⟨h2,h1⟩:=sortedA_far hs
   rw [getA]
   rcases List.mem_cons.1 h with rfl | h
   ·rw [if_pos rfl]
   rw [if_neg (fun e2=>(h1 _ h).2 e2.symm),ih h2 h]
theorem getA_put:∀ (C:AL α) (k:ByteArray) (v:α) (x:ByteArray),getA (putA C k v) x=if x=k then some v else getA C x
 | [],k,v,x=>by
   simp only [putA,getA]
   by_cases h:x=k
   ·rw [if_pos h.symm,if_pos h]
   rw [if_neg (fun e=>h e.symm),if_neg h]
 | e :: es,k,v,x=>by
   by_cases h1:klt e.1 k=true
   ·rw [putA,if_pos h1,getA,getA,getA_put es k v x]
    by_cases h:x=k
    ·have:e.1≠x:=fun h2=>by rw [h2,h,klt_irrefl] at h1;cases h1
     rw [if_neg this,if_pos h,if_pos h]
    rw [if_neg h,if_neg h]
   rw [putA,if_neg h1]
   by_cases h2:e.1=k
   ·rw [if_pos h2,getA,getA,h2]
    by_cases h:x=k
    ·rw [if_pos h.symm,if_pos h]
    rw [if_neg (fun e=>h e.symm),if_neg h,if_neg (fun e=>h e.symm)]
   rw [if_neg h2,getA]
   by_cases h:x=k
   ·rw [if_pos h.symm,if_pos h]
   rw [if_neg (fun e=>h e.symm),if_neg h]
theorem getA_del (k x:ByteArray):∀ (C:AL α),getA (delA C k) x=if x=k then none else getA C x
 | []=>by simp [delA,getA]
 | e :: r=>by
   have ih:=getA_del k x r
   unfold delA at ih ⊢
   by_cases h:e.1=k
   ·rw [List.filter_cons,if_neg (by simp [h]),ih,getA]
    by_cases hx:x=k
    ·rw [if_pos hx,if_pos hx]
    rw [if_neg hx,if_neg hx,if_neg (fun e2=>hx (e2.symm.trans h))]
   rw [List.filter_cons,if_pos (by simp [h]),getA,ih,getA]
   by_cases hx:x=k
   ·rw [if_pos hx,if_pos hx,if_neg (fun e2=>h (e2.trans hx))]
   rw [if_neg hx,if_neg hx]
theorem mem_putA {C:AL α} {k:ByteArray} {v:α} {x:ByteArray × α} (h:x∈putA C k v):x=(k,v)∨x∈C:=by
 induction C with
 | nil=>exact .inl (by simpa [putA] using h)
 | cons e r ih=>
   rw [putA] at h
   split at h
   ·rcases List.mem_cons.1 h with rfl | h
    ·exact .inr (List.mem_cons_self ..)
    exact (ih h).imp id (List.mem_cons_of_mem _)
   split at h
   ·rcases List.mem_cons.1 h with rfl | h
    ·exact .inl rfl
    exact .inr (List.mem_cons_of_mem _ h)
   exact List.mem_cons.1 h
theorem putA_sorted {C:AL α} (h:SortedA C) (k:ByteArray) (v:α):SortedA (putA C k v):=by
 induction C with
 | nil=>exact List.pairwise_cons.2 ⟨fun _ hx=>(by cases hx),List.Pairwise.nil⟩
 | cons e r ih=>
   obtain ⟨h1,h2⟩:=List.pairwise_cons.1 h
   rw [putA]
   split
   ·rename_i hk
    refine List.pairwise_cons.2 ⟨fun x hx=>?_,ih h2⟩
    rcases mem_putA hx with rfl | hx
    ·exact hk
    exact h1 x hx
   rename_i hk
   split
   ·rename_i he
    exact List.pairwise_cons.2 ⟨fun x hx=>by rw [←he];exact h1 x hx,h2⟩
   rename_i he
   have hlt:klt k e.1=true:=klt_of_not (by simpa using hk) he
   refine List.pairwise_cons.2 ⟨fun x hx=>?_,h⟩
   rcases List.mem_cons.1 hx with rfl | hx
   ·exact hlt
   exact klt_trans hlt (h1 x hx)
theorem delA_sorted {C:AL α} (h:SortedA C) (k:ByteArray):SortedA (delA C k):=h.sublist (List.filter_sublist ..)
theorem sortedA_ext:∀ {a b:AL α},SortedA a→SortedA b→(∀ k,getA a k=getA b k)→a=b
 | [],[],_,_,_=>rfl
 | [],f :: b,_,_,h=>by have:=h f.1;simp [getA] at this
 | e :: a,[],_,_,h=>by have:=h e.1;simp [getA] at this
 | e :: a,f :: b,ha,hb,h=>by
   obtain ⟨a2,a1⟩:=sortedA_far ha
   obtain ⟨b2,b1⟩:=sortedA_far hb
   have hk:e.1=f.1:=by
    refine klt_total ?_ ?_
    ·cases hc:klt e.1 f.1 with
     | false=>rfl
     | true=>
       have h1:=h e.1
       rw [getA,if_pos rfl,getA_none (C:=f :: b) (fun g hg e2=>by
        rcases List.mem_cons.1 hg with rfl | hg
        ·rw [e2,klt_irrefl] at hc;cases hc
        have:=klt_trans hc (b1 g hg).1;rw [e2,klt_irrefl] at this;cases this)] at h1
       cases h1
    cases hc:klt f.1 e.1 with
    | false=>rfl
    | true=>
      have h1:=h f.1
      rw [getA_none (C:=e :: a) (k:=f.1) (fun g hg e2=>by
       rcases List.mem_cons.1 hg with rfl | hg
       ·rw [e2,klt_irrefl] at hc;cases hc
       have:=klt_trans hc (a1 g hg).1;rw [e2,klt_irrefl] at this;cases this),getA,if_pos rfl] at h1
      cases h1
   have h0:=h e.1
   rw [getA,if_pos rfl,getA,if_pos hk.symm] at h0
   injection h0 with h0
   have he:e=f:=Prod.ext hk h0
   subst he
   rw [sortedA_ext a2 b2 fun k=>?_]
   by_cases hx:e.1=k
   ·rw [getA_none fun g hg e2=>(a1 g hg).2 (e2.trans hx.symm),getA_none fun g hg e2=>(b1 g hg).2 (e2.trans hx.symm)]
   have:=h k
   rwa [getA,if_neg hx,getA,if_neg hx] at this
theorem putA_undo {C:AL α} (h:SortedA C) {k:ByteArray} {s old:α} (ho:getA C k=some old):putA (putA C k s) k old=C:=
 sortedA_ext (putA_sorted (putA_sorted h k s) k old) h fun x=>by
  rw [getA_put,getA_put]
  by_cases hx:x=k
  ·rw [if_pos hx,hx,ho]
  rw [if_neg hx,if_neg hx]
theorem delA_undo {C:AL α} (h:SortedA C) {k:ByteArray} {s:α} (ho:getA C k=none):delA (putA C k s) k=C:=
 sortedA_ext (delA_sorted (putA_sorted h k s) k) h fun x=>by
  rw [getA_del,getA_put]
  by_cases hx:x=k
  ·rw [if_pos hx,hx,ho]
  rw [if_neg hx,if_neg hx]
theorem putA_len {C:AL α} {k:ByteArray} {v:α}:(putA C k v).length≤C.length+1:=by
 induction C with
 | nil=>simp [putA]
 | cons e r ih=>
   rw [putA]
   split
   ·simp only [List.length_cons];omega
   split <;> simp only [List.length_cons] <;> omega
end
section
variable {α : Type} (f : α → Value)
abbrev keyS (k:ByteArray):Lit:=.string k.data.toList
abbrev entA (p:ByteArray × α):Lit × DataW Value:=(keyS p.1,.held (f p.2))
def mapA (C:AL α):DataW Value:=.map (C.map (entA f))
def heldR (v:Value):Option (DataW Value × List MemPlace):=some (.held v,[])
theorem heldR_inv {v u:Value} {ps:List MemPlace} (h:heldR v=some (.held u,ps)):v=u:=by
 injection h with h;injection h with h;injection h
theorem before_eq:∀ a b:List UInt8,bytesBefore a b=Op.bytesLess a b
 | [],[]=>rfl
 | [],_ :: _=>rfl
 | _ :: _,[]=>rfl
 | a :: x,b :: y=>by rw [bytesBefore,Op.bytesLess,before_eq x y]
theorem before_keyS (a b:ByteArray):(keyS a).before (keyS b)=klt a b:=by
 show bytesBefore _ _=Op.bytesLess _ _
 rw [before_eq,ByteArray.toList_eq,ByteArray.toList_eq]
theorem same_keyS (a b:ByteArray):(keyS a).sameKey (keyS b)=decide (a=b):=by
 show (a.data.toList == b.data.toList)=_
 rw [←ByteArray.toList_eq,←ByteArray.toList_eq]
 exact beq_toList a b
theorem has_mapA (C:AL α) (k:ByteArray):Maps.has (mapA f C) (keyS k)=(getA C k).isSome:=by
 show List.any (List.map _ C) _=_
 induction C with
 | nil=>rfl
 | cons e r ih=>
   rw [List.map_cons,List.any_cons,ih,getA]
   show ((keyS e.1).sameKey (keyS k) || _)=_
   rw [same_keyS]
   by_cases h:e.1=k
   ·rw [if_pos h,decide_eq_true h];rfl
   rw [if_neg h,decide_eq_false h];rfl
theorem at_mapA (C:AL α) (k:ByteArray) (zd:DataW Value):(mapA f C).atKey (keyS k) zd=match getA C k with
  | some s=>.held (f s)
  | none=>zd:=by
 unfold mapA
 simp only [DataW.atKey]
 induction C with
 | nil=>rfl
 | cons e r ih=>
   rw [List.map_cons,List.find?_cons,getA]
   by_cases h:e.1=k
   ·rw [if_pos h,show (keyS e.1).sameKey (keyS k)=true by rw [same_keyS,decide_eq_true h]]
   rw [if_neg h,show (keyS e.1).sameKey (keyS k)=false by rw [same_keyS,decide_eq_false h]]
   exact ih
theorem size_mapA (C:AL α):Maps.size (mapA f C)=C.length:=by
 show List.length (List.map _ C)=_
 rw [List.length_map]
theorem filter_mapA (k:ByteArray):∀ C:AL α,(C.map (entA f)).filter (fun p=>!p.1.sameKey (keyS k))=(delA C k).map (entA f)
 | []=>rfl
 | e :: r=>by
   have ih:=filter_mapA k r
   unfold delA at ih ⊢
   rw [List.map_cons,List.filter_cons,List.filter_cons,ih]
   show (if (!(keyS e.1).sameKey (keyS k))=true then _ else _)=_
   rw [same_keyS]
   split <;> rfl
theorem del_mapA (C:AL α) (k:ByteArray):(mapA f C).del (keyS k)=mapA f (delA C k):=by
 show DataW.map (List.filter _ (List.map _ C))=_
 rw [filter_mapA];rfl
theorem insert_mapA (k:ByteArray) (s:α):∀ C:AL α,SortedA C→DataW.insert (keyS k,(DataW.held (f s):DataW Value)) ((delA C k).map (entA f))=(putA C k s).map (entA f)
 | [],_=>rfl
 | e :: r,h=>by
   obtain ⟨h2,h1⟩:=sortedA_far h
   have ih:=insert_mapA k s r h2
   have hdel:∀ x:ByteArray,(∀ g∈r,g.1≠x)→delA r x=r:=fun x hx=>List.filter_eq_self.2 fun g hg=>by simp [hx g hg]
   have hstep:∀ (g:ByteArray × α) (t:AL α),klt k g.1=true→DataW.insert (keyS k,(DataW.held (f s):DataW Value)) ((g :: t).map (entA f))=(((k,s) :: g :: t).map (entA f)):=fun g t hg=>by
    rw [List.map_cons,DataW.insert,if_pos (by show (keyS k).before (keyS g.1)=true;rw [before_keyS,hg])]
    rfl
   rw [putA]
   by_cases hk:klt e.1 k=true
   ·have hne:e.1≠k:=fun e2=>by rw [e2,klt_irrefl] at hk;cases hk
    rw [if_pos hk,show delA (e :: r) k=e :: delA r k by unfold delA;rw [List.filter_cons,if_pos (by simp [hne])],List.map_cons,DataW.insert,if_neg (by show ¬(keyS k).before (keyS e.1)=true;rw [before_keyS,klt_asymm hk];simp),ih]
    rfl
   rw [if_neg hk]
   by_cases he:e.1=k
   ·rw [if_pos he,show delA (e :: r) k=r by
     rw [←he]
     show List.filter _ _=_
     rw [List.filter_cons,if_neg (by simp)]
     exact hdel e.1 fun g hg=>(h1 g hg).2]
    cases r with
    | nil=>rfl
    | cons g t=>exact hstep g t (by rw [←he];exact (h1 g (List.mem_cons_self ..)).1)
   have hlt:klt k e.1=true:=klt_of_not (by simpa using hk) he
   rw [if_neg he,show delA (e :: r) k=e :: r by
    show List.filter _ _=_
    rw [List.filter_cons,if_pos (by simp [he])]
    exact congrArg (e :: ·) (hdel k fun g hg e2=>by have:=klt_trans hlt (h1 g hg).1;rw [e2,klt_irrefl] at this;cases this)]
   exact hstep e r hlt
theorem put_mapA {C:AL α} (h:SortedA C) (k:ByteArray) (s:α):(mapA f C).put (keyS k) (.held (f s))=mapA f (putA C k s):=by
 show DataW.map (DataW.insert _ (List.filter _ (List.map _ C)))=_
 rw [filter_mapA,insert_mapA f k s C h];rfl
end
end Go.Proofs.YtechahocffcbpaaGreatDoor
namespace Go.Proofs.YtechahocffcbpaaGreatDoor
open Go.RowKit
set_option linter.unusedVariables false
set_option linter.unusedSimpArgs false
abbrev Slots:=AL (Option Val)
def nowE (B:List Ent) (C:Slots) (k:ByteArray):Option Val:=match getA C k with
 | some s=>s
 | none=>getE B k
def comE (B:List Ent):Slots→List Ent→List Ent
 | [],t=>t
 | (k,some v) :: r,t=>comE B r (if (getE B k).any (fun was=>decide (cmpV was v=0)) then t else insE t k v)
 | (k,none) :: r,t=>comE B r (if (getE B k).isSome then delE t k else t)
theorem comE_sorted (B:List Ent):∀ (C:Slots) (t:List Ent),Sorted t→Sorted (comE B C t)
 | [],t,h=>h
 | (k,some v) :: r,t,h=>by
   rw [comE]
   split
   ·exact comE_sorted B r t h
   exact comE_sorted B r _ (insE_sorted h k v)
 | (k,none) :: r,t,h=>by
   rw [comE]
   split
   ·exact comE_sorted B r _ (delE_sorted h k)
   exact comE_sorted B r t h
theorem comE_far (B:List Ent) {k:ByteArray}:∀ (C:Slots) (t:List Ent),Sorted t→(∀ e∈C,e.1≠k)→getE (comE B C t) k=getE t k
 | [],t,_,_=>rfl
 | (k',some v) :: r,t,h,hk=>by
   rw [comE]
   have h1:k'≠k:=hk _ (List.mem_cons_self ..)
   have h2:=fun f hf=>hk f (List.mem_cons_of_mem _ hf)
   split
   ·exact comE_far B r t h h2
   rw [comE_far B r _ (insE_sorted h k' v) h2,getE_ins,if_neg (fun e=>h1 e.symm)]
 | (k',none) :: r,t,h,hk=>by
   rw [comE]
   have h1:k'≠k:=hk _ (List.mem_cons_self ..)
   have h2:=fun f hf=>hk f (List.mem_cons_of_mem _ hf)
   split
   ·rw [comE_far B r _ (delE_sorted h k') h2,getE_del _ _ _ h,if_neg (fun e=>h1 e.symm)]
   exact comE_far B r t h h2
theorem comE_get (B:List Ent) {k:ByteArray}:∀ (C:Slots) (t:List Ent),SortedA C→Sorted t→getE t k=getE B k→simO (getE (comE B C t) k) (nowE B C k)=true
 | [],t,_,_,h=>by rw [comE,nowE,getA,h];exact simO_refl _
 | (k',s) :: r,t,hs,ht,h=>by
   obtain ⟨h2,hf0⟩:=sortedA_far hs
   have hf:=fun f hm=>(hf0 f hm).2
   by_cases hk:k'=k
   ·subst hk
    have hn:nowE B ((k',s) :: r) k'=s:=by rw [nowE,getA,if_pos rfl]
    rw [hn]
    cases s with
    | some v=>
      rw [comE]
      split
      ·rename_i hany
       rw [comE_far B r t ht hf,h]
       cases hb:getE B k' with
       | none=>rw [hb] at hany;cases hany
       | some b=>rw [hb] at hany;exact hany
      rw [comE_far B r _ (insE_sorted ht k' v) hf,getE_ins,if_pos rfl]
      exact simO_refl _
    | none=>
      rw [comE]
      split
      ·rw [comE_far B r _ (delE_sorted ht k') hf,getE_del _ _ _ ht,if_pos rfl];rfl
      rename_i hb
      rw [comE_far B r t ht hf,h]
      cases hb2:getE B k' with
      | none=>rfl
      | some b=>rw [hb2] at hb;exact absurd rfl hb
   have hn:nowE B ((k',s) :: r) k=nowE B r k:=by rw [nowE,nowE,getA,if_neg hk]
   rw [hn]
   cases s with
   | some v=>
     rw [comE]
     split
     ·exact comE_get B r t h2 ht h
     exact comE_get B r _ h2 (insE_sorted ht k' v) (by rw [getE_ins,if_neg (fun e=>hk e.symm),h])
   | none=>
     rw [comE]
     split
     ·exact comE_get B r _ h2 (delE_sorted ht k') (by rw [getE_del _ _ _ ht,if_neg (fun e=>hk e.symm),h])
     exact comE_get B r t h2 ht h
structure RelO (B:List Ent) (C:Slots) (M:List Ent):Prop where
 sorted:Sorted M
 slots:∀ k s,getA C k=some s→getE M k=s
 below:∀ k,getA C k=none→simO (getE B k) (getE M k)=true
theorem RelO.now {B:List Ent} {C:Slots} {M:List Ent} (h:RelO B C M) (k:ByteArray):simO (nowE B C k) (getE M k)=true:=by
 unfold nowE
 cases hc:getA C k with
 | none=>exact h.below k hc
 | some s=>rw [h.slots k s hc];exact simO_refl _
theorem RelO.com {B:List Ent} {C:Slots} {M:List Ent} (hB:Sorted B) (hC:SortedA C) (h:RelO B C M):RelO (comE B C B) [] M:=by
 refine ⟨h.sorted,fun k s hk=>(by cases hk),fun k _=>?_⟩
 have h1:=comE_get B (k:=k) C B hC hB rfl
 cases hc:getA C k with
 | none=>
   rw [comE_far B C B hB fun e he e2=>by
    have:=getA_mem hC (k:=e.1) (s:=e.2) he
    rw [e2,hc] at this;cases this]
   exact h.below k hc
 | some s=>rw [h.slots k s hc];rwa [nowE,hc] at h1
theorem RelO.same {B:List Ent} {C:Slots} {M:List Ent} (hB:Sorted B) (hC:SortedA C) (h:RelO B C M):sameE (comE B C B) M=true:=
 sameE_of (comE_sorted B C B hB) h.sorted fun k=>(h.com hB hC).below k rfl
theorem RelO.start {B M:List Ent} (hM:Sorted M) (h:∀ k,simO (getE B k) (getE M k)=true):RelO B [] M:=⟨hM,fun k s hk=>(by cases hk),fun k _=>h k⟩
theorem RelO.put {B:List Ent} {C C':Slots} {M:List Ent} (h:RelO B C M) {k:ByteArray} {v:Val} (hC:∀ x,getA C' x=if x=k then some (some v) else getA C x):RelO B C' (insE M k v):=by
 refine ⟨insE_sorted h.sorted k v,fun x s hx=>?_,fun x hx=>?_⟩
 ·rw [hC] at hx
  rw [getE_ins]
  split at hx
  ·rename_i hk;rw [if_pos hk];injection hx
  rename_i hk;rw [if_neg hk];exact h.slots x s hx
 rw [hC] at hx
 rw [getE_ins]
 split at hx
 ·cases hx
 rename_i hk;rw [if_neg hk];exact h.below x hx
theorem RelO.del {B:List Ent} {C C':Slots} {M:List Ent} (h:RelO B C M) {k:ByteArray} (hC:∀ x,getA C' x=if x=k then some none else getA C x):RelO B C' (delE M k):=by
 refine ⟨delE_sorted h.sorted k,fun x s hx=>?_,fun x hx=>?_⟩
 ·rw [hC] at hx
  rw [getE_del _ _ _ h.sorted]
  split at hx
  ·rename_i hk;rw [if_pos hk];injection hx
  rename_i hk;rw [if_neg hk];exact h.slots x s hx
 rw [hC] at hx
 rw [getE_del _ _ _ h.sorted]
 split at hx
 ·cases hx
 rename_i hk;rw [if_neg hk];exact h.below x hx
theorem sameE_get:∀ {a b:List Ent},sameE a b=true→∀ k,simO (getE a k) (getE b k)=true
 | [],[],_,k=>rfl
 | [],f :: b,h,k=>by cases h
 | e :: a,[],h,k=>by cases h
 | e :: a,f :: b,h,k=>by
   simp only [sameE,Bool.and_eq_true,decide_eq_true_eq] at h
   obtain ⟨⟨h1,h2⟩,h3⟩:=h
   rw [getE,getE,h1]
   split
   ·simpa [simO] using h2
   exact sameE_get h3 k
def idleC (B:List Ent) (C:Slots):Prop:=∀ k s,getA C k=some s→match s with
 | some v=>(getE B k).any (fun was=>decide (cmpV was v=0))=true
 | none=>getE B k=none
theorem RelO.idle {B:List Ent} {C:Slots} {M:List Ent} (h:RelO B C M) (hs:sameE M B=true):idleC B C:=fun k s hk=>by
 have h1:=sameE_get hs k
 rw [h.slots k s hk] at h1
 cases s with
 | none=>
   cases hb:getE B k with
   | none=>exact rfl
   | some b=>rw [hb] at h1;cases h1
 | some v=>
   cases hb:getE B k with
   | none=>rw [hb] at h1;cases h1
   | some b=>
     rw [hb] at h1
     simp only [simO,decide_eq_true_eq] at h1
     simp only [Option.any_some,decide_eq_true_eq]
     exact (cmpV_swap _ _).1 h1
def keysE (P:ByteArray→Bool) (M:List Ent):List ByteArray:=(M.filter fun e=>P e.1).map Prod.fst
theorem rise_ext:∀ {a b:List ByteArray},a.Pairwise (fun x y=>klt x y=true)→b.Pairwise (fun x y=>klt x y=true)→(∀ k,k∈a↔k∈b)→a=b
 | [],[],_,_,_=>rfl
 | [],y :: b,_,_,h=>by have:=(h y).2 (List.mem_cons_self ..);cases this
 | x :: a,[],_,_,h=>by have:=(h x).1 (List.mem_cons_self ..);cases this
 | x :: a,y :: b,ha,hb,h=>by
   obtain ⟨a1,a2⟩:=List.pairwise_cons.1 ha
   obtain ⟨b1,b2⟩:=List.pairwise_cons.1 hb
   have hxy:x=y:=by
    rcases List.mem_cons.1 ((h x).1 (List.mem_cons_self ..)) with e | e
    ·exact e
    rcases List.mem_cons.1 ((h y).2 (List.mem_cons_self ..)) with e2 | e2
    ·exact e2.symm
    have h1:=b1 x e
    have h2:=a1 y e2
    rw [klt_asymm h1] at h2;cases h2
   subst hxy
   rw [rise_ext a2 b2 fun k=>⟨fun hk=>?_,fun hk=>?_⟩]
   ·rcases List.mem_cons.1 ((h k).1 (List.mem_cons_of_mem _ hk)) with e | e
    ·have:=a1 k hk;rw [e,klt_irrefl] at this;cases this
    exact e
   rcases List.mem_cons.1 ((h k).2 (List.mem_cons_of_mem _ hk)) with e | e
   ·have:=b1 k hk;rw [e,klt_irrefl] at this;cases this
   exact e
theorem getE_mem {B:List Ent} (hs:Sorted B) {e:Ent} (h:e∈B):getE B e.1=some e.2:=by
 induction B with
 | nil=>cases h
 | cons f r ih=>
   obtain ⟨h1,h2⟩:=List.pairwise_cons.1 hs
   rw [getE]
   rcases List.mem_cons.1 h with rfl | h
   ·rw [if_pos rfl]
   have:=h1 _ h
   rw [if_neg (fun e2=>by rw [e2,klt_irrefl] at this;cases this),ih h2 h]
theorem mem_getE {B:List Ent} {k:ByteArray} {v:Val} (h:getE B k=some v):(k,v)∈B:=by
 induction B with
 | nil=>cases h
 | cons e r ih=>
   rw [getE] at h
   by_cases he:e.1=k
   ·rw [if_pos he] at h
    injection h with h
    subst he h
    exact List.mem_cons_self ..
   rw [if_neg he] at h
   exact List.mem_cons_of_mem _ (ih h)
theorem mem_keysE {P:ByteArray→Bool} {M:List Ent} (hs:Sorted M) {k:ByteArray}:k∈keysE P M↔P k=true∧(getE M k).isSome=true:=by
 simp only [keysE,List.mem_map,List.mem_filter]
 constructor
 ·rintro ⟨e,⟨he,hp⟩,rfl⟩
  exact ⟨hp,by rw [getE_mem hs he];rfl⟩
 rintro ⟨hp,h⟩
 obtain ⟨v,hv⟩:=Option.isSome_iff_exists.1 h
 exact ⟨(k,v),⟨mem_getE hv,hp⟩,rfl⟩
theorem keysE_rise {P:ByteArray→Bool} {M:List Ent} (hs:Sorted M):(keysE P M).Pairwise fun x y=>klt x y=true:=
 List.pairwise_map.2 (hs.sublist (List.filter_sublist ..))
structure SV where
 has:Bool
 v:Val
 sl:Sl
 so:Sl
abbrev SV.cells (s:SV):Array Value:=#[.bool s.has,.int .i64 s.v.kind,.bool s.v.b,.int .i64 s.v.i,.string s.v.t,.slice s.sl.a s.v.l.length s.sl.c,.slice s.so.a s.v.ok.length s.so.c]
abbrev SV.val (s:SV):Value:=.agg s.cells
def SV.opt (s:SV):Option Val:=if s.has then some s.v else none
def optA (C:AL SV):Slots:=C.map fun p=>(p.1,p.2.opt)
theorem getA_opt (k:ByteArray):∀ C:AL SV,getA (optA C) k=(getA C k).map SV.opt
 | []=>rfl
 | e :: r=>by
   have ih:=getA_opt k r
   unfold optA at ih ⊢
   rw [List.map_cons,getA,getA,ih]
   split <;> rfl
theorem sorted_opt {C:AL SV} (h:SortedA C):SortedA (optA C):=List.pairwise_map.2 h
structure UD where
 k:ByteArray
 old:Option SV
def undo1 (u:UD) (C:AL SV):AL SV:=match u.old with
 | some o=>putA C u.k o
 | none=>delA C u.k
theorem undo1_put {C:AL SV} (h:SortedA C) {k:ByteArray} (s:SV):undo1 ⟨k,getA C k⟩ (putA C k s)=C:=by
 unfold undo1
 cases ho:getA C k with
 | some o=>exact putA_undo h ho
 | none=>exact delA_undo h ho
theorem undo1_sorted {C:AL SV} (h:SortedA C) (u:UD):SortedA (undo1 u C):=by
 unfold undo1
 split
 ·exact putA_sorted h _ _
 exact delA_sorted h _
def backA (us:List UD) (C:AL SV) (m:Nat):AL SV:=(us.drop m).foldr undo1 C
theorem backA_end (us:List UD) (C:AL SV):backA us C us.length=C:=by simp [backA]
theorem backA_step {us:List UD} {C:AL SV} {m:Nat} {u:UD} (h:us[m]? = some u):backA us C m=undo1 u (backA us C (m+1)):=by
 obtain ⟨hm,rfl⟩:=List.getElem?_eq_some_iff.1 h
 unfold backA
 rw [List.drop_eq_getElem_cons hm]
 rfl
structure Chain (us:List UD) (H:List (AL SV)):Prop where
 len:H.length=us.length+1
 step:∀ i u,us[i]? = some u→∃ (C:AL SV) (s:SV),H[i]? = some C∧SortedA C∧u.old=getA C u.k∧H[i+1]? = some (putA C u.k s)
theorem Chain.nil (C:AL SV):Chain [] [C]:=⟨rfl,fun i u h=>by simp at h⟩
theorem Chain.snoc {us:List UD} {H:List (AL SV)} {C:AL SV} (h:Chain us (H++[C])) (hs:SortedA C) (k:ByteArray) (s:SV):Chain (us++[⟨k,getA C k⟩]) (H++[C]++[putA C k s]):=by
 have hl:=h.len
 rw [List.length_append,List.length_singleton] at hl
 refine ⟨by simp;omega,fun i u hi=>?_⟩
 rcases Nat.lt_trichotomy i us.length with hlt | heq | hgt
 ·rw [List.getElem?_append_left hlt] at hi
  obtain ⟨C',s',h1,h2,h3,h4⟩:=h.step i u hi
  exact ⟨C',s',by rw [List.getElem?_append_left (by simp;omega)];exact h1,h2,h3,by rw [List.getElem?_append_left (by simp;omega)];exact h4⟩
 ·subst heq
  rw [List.getElem?_append_right (Nat.le_refl _),Nat.sub_self] at hi
  injection hi with hi
  subst hi
  refine ⟨C,s,?_,hs,rfl,?_⟩
  ·rw [List.getElem?_append_left (by simp;omega),List.getElem?_append_right (by omega),show us.length - H.length=0 by omega];rfl
  rw [List.getElem?_append_right (by simp;omega),show us.length+1 - (H++[C]).length=0 by simp;omega];rfl
 rw [List.getElem?_eq_none (by simp;omega)] at hi
 cases hi
theorem Chain.back {us:List UD} {H:List (AL SV)} {C:AL SV} (h:Chain us H) (hC:H[us.length]? = some C):∀ d m,m+d=us.length→H[m]? = some (backA us C m)
 | 0,m,hm=>by
   obtain rfl:m=us.length:=by omega
   rw [backA_end];exact hC
 | d+1,m,hm=>by
   have hlt:m<us.length:=by omega
   have hu:=List.getElem?_eq_getElem hlt
   obtain ⟨C',s,h1,h2,h3,h4⟩:=h.step m _ hu
   have ih:=h.back hC d (m+1) (by omega)
   rw [h4] at ih
   injection ih with ih
   rw [h1,backA_step hu,←ih]
   congr 1
   have:=undo1_put h2 (k:=(us[m]'hlt).k) s
   rw [←h3] at this
   exact this.symm
theorem Chain.take {us:List UD} {H:List (AL SV)} (h:Chain us H) {m:Nat} (hm:m≤us.length):Chain (us.take m) (H.take (m+1)):=by
 refine ⟨by rw [List.length_take,List.length_take,h.len];omega,fun i u hi=>?_⟩
 have him:i<m:=by
  have:=(List.getElem?_eq_some_iff.1 hi).1
  rw [List.length_take] at this;omega
 rw [List.getElem?_take_of_lt him] at hi
 obtain ⟨C,s,h1,h2,h3,h4⟩:=h.step i u hi
 exact ⟨C,s,by rw [List.getElem?_take_of_lt (by omega)];exact h1,h2,h3,by rw [List.getElem?_take_of_lt (by omega)];exact h4⟩
theorem backA_sorted {C:AL SV} (h:SortedA C) (us:List UD) (m:Nat):SortedA (backA us C m):=by
 unfold backA
 induction us.drop m with
 | nil=>exact h
 | cons u r ih=>exact undo1_sorted ih u
end Go.Proofs.YtechahocffcbpaaGreatDoor
namespace Go.Proofs.YtechahocffcbpaaGreatDoor
open Go.RowKit Go.Maps
set_option linter.unusedVariables false
set_option linter.unusedSimpArgs false
structure Sb (H:Nat→Prop) (w w':World):Prop where
 os:w'.os=w.os
 tape:w'.tape=w.tape
 output:w'.output=w.output
 size:w.heap.size≤w'.heap.size
 block:∀ b,b<w.heap.size→¬H b→w'.heap[b]? = w.heap[b]?
theorem St.sb {H:Nat→Prop} {w w':World} (h:St H w w'):Sb H w w':=⟨h.os,h.tape,h.output,h.size,h.block⟩
theorem Ext.sb {w w':World} (h:Ext w w') (H:Nat→Prop):Sb H w w':=(h.st H).sb
theorem Sb.refl (H:Nat→Prop) (w:World):Sb H w w:=(Ext.refl w).sb H
theorem Sb.trans {H:Nat→Prop} {a b c:World} (h:Sb H a b) (k:Sb H b c):Sb H a c:=
 ⟨k.os.trans h.os,k.tape.trans h.tape,k.output.trans h.output,Nat.le_trans h.size k.size,fun i hi hn=>(k.block i (Nat.lt_of_lt_of_le hi h.size) hn).trans (h.block i hi hn)⟩
theorem Sb.comp {H G:Nat→Prop} {a b c:World} (h:Sb H a b) (k:Sb G b c) (hG:∀ i,i<a.heap.size→G i→H i):Sb H a c:=
 ⟨k.os.trans h.os,k.tape.trans h.tape,k.output.trans h.output,Nat.le_trans h.size k.size,fun i hi hn=>(k.block i (Nat.lt_of_lt_of_le hi h.size) fun hg=>hn (hG i hi hg)).trans (h.block i hi hn)⟩
theorem Sb.mono {H G:Nat→Prop} {a b:World} (h:Sb H a b) (hG:∀ i,i<a.heap.size→H i→G i):Sb G a b:=
 ⟨h.os,h.tape,h.output,h.size,fun i hi hn=>h.block i hi fun hh=>hn (hG i hi hh)⟩
theorem Sb.of_below {n:Nat} {w w':World} (h:Below n w w'):Sb (fun b=>n≤b) w w':=⟨h.os,h.tape,h.output,h.size,fun b _ hn=>h.block b (by omega)⟩
theorem Sb.new {H:Nat→Prop} {w w':World} (h:Below w.heap.size w w'):Sb H w w':=(Sb.of_below h).mono fun i hi hh=>by omega
theorem Sb.below {H:Nat→Prop} {w w':World} (h:Sb H w w') (hH:∀ b,b<w.heap.size→¬H b):Below w.heap.size w w':=
 ⟨h.os,h.tape,h.output,h.size,fun b hb=>h.block b hb (hH b hb)⟩
theorem Sb.step {H:Nat→Prop} {a w w':World} (h:Below a.heap.size a w) (k:Sb H w w') (hH:∀ b,H b→a.heap.size≤b):Below a.heap.size a w':=
 ((Sb.new (H:=H) h).trans k).below fun b hb hh=>by have:=hH b hh;omega
theorem Sb.heap {H:Nat→Prop} {w w':World} (h:Sb H w w') {b:Nat} (hb:b<w.heap.size) (hn:¬H b):w'.heap[b]? = w.heap[b]?:=h.block b hb hn
theorem Sb.cell {H:Nat→Prop} {w w':World} (h:Sb H w w') {b o:Nat} (hb:b<w.heap.size) (hn:¬H b):w'.cell? ⟨b,o,none⟩=w.cell? ⟨b,o,none⟩:=
 World.cell?_of_block (w:=w) (a:=⟨b,o,none⟩) (h.block b hb hn)
theorem Sb.blk {H:Nat→Prop} {w w':World} {g:Nat} {t:TypeId} {cs:Array Value} (h:Sb H w w') (hb:Blk w g t cs) (hn:¬H g):Blk w' g t cs:=(h.block g hb.lt hn).trans hb
theorem Sb.agree {H:Nat→Prop} {w w':World} (h:Sb H w w'):Agree (NH H w) w w':=fun b hb=>h.block b hb.1 hb.2
theorem Sb.ext {H:Nat→Prop} {a b c:World} (h:Sb H a b) (k:Ext b c):Sb H a c:=h.trans (k.sb H)
theorem Sb.drew {H:Nat→Prop} {a w:World} (h:Sb H a w):Sb H a w.drew:=h.ext ((Ext.refl w).drew)
theorem Sb.set {H:Nat→Prop} {a w:World} (h:Sb H a w) {p:Addr} (hp:a.heap.size≤p.block∨H p.block) (u:Value):Sb H a (w.setCell p u):=
 ⟨h.os,h.tape,h.output,by simpa [World.setCell] using h.size,fun i hi hn=>(Below.heap_setCell w p u i (by
   rintro rfl
   rcases hp with hp | hp
   ·omega
   exact hn hp)).trans (h.block i hi hn)⟩
theorem Sb.grown {w w':World} {b:Nat} (h:w.grownBy w' (some b)):Sb (fun i=>i=b) w w':=
 ⟨h.os,h.tape,h.output,h.size,fun i hi hn=>h.block i hi (by intro e;injection e with e;exact hn e)⟩
theorem Sb.made {H:Nat→Prop} {w w':World} (h:w.grownBy w' none):Sb H w w':=⟨h.os,h.tape,h.output,h.size,fun i hi hn=>h.block i hi (by simp)⟩
theorem ownsMap_heap {H:Type} {P:Program} {k:TypeId} {R:Value→Option (DataW H × List MemPlace)} {w w':World} {b n:Nat} {D:DataW H} (h:w.ownsMap P k R b n D) (hb:w'.heap[b]? = w.heap[b]?):w'.ownsMap P k R b n D:=by
 obtain ⟨es,clock,h1,F,h2,h3⟩:=h
 exact ⟨es,clock,hb.trans h1,F,h2,h3⟩
theorem MapAt.sb {H G:Nat→Prop} {w w':World} {M:Nat} {es:List Ent} (h:MapAt H w M es) (k:Sb G w w') (hG:∀ b,G b→H b) (hM:¬G M):MapAt H w' M es:=by
 obtain ⟨hm,s,xs,hb,hs,hx⟩:=h
 exact ⟨hm,s,xs,k.blk hb hM,(hs.agree fun b hb=>k.block b hb.1 fun hh=>hb.2 (hG b hh)).mono fun b hb=>⟨Nat.lt_of_lt_of_le hb.1 k.size,hb.2⟩,hx⟩
theorem row_ne_blk27 {w:World} {base e size n m:Nat} {s:Sl} {xs:List Value} {t:TypeId} {cs:Array Value} (ho:w.ownsRow base e size (.slice s.a n s.c) n xs) (hb:Blk w m t cs) (hne:e≠t):¬s.row=some m:=fun hr=>by
 rcases ho.2 with ⟨hv,-⟩ | ⟨gg,cap,cur,hv,-,hc,-⟩
 ·injection hv with e1
  rw [Sl.row,e1] at hr
  cases hr
 injection hv with e1
 rw [Sl.row,e1] at hr
 have:gg=m:=by simpa using hr
 subst this
 have h2:w.heap[gg]? = some (.cells cs t (0,0)):=hb
 rw [hc] at h2
 injection h2 with h2
 injection h2 with h3 h4
 exact hne h4
structure OD where
 T:RT
 mb:Option Nat
 s:Sl
 us:List UD
 Hs:List (AL SV)
 C:AL SV
def OvB (O:Nat) (d:OD):Nat→Prop:=fun b=>b=O∨d.mb=some b∨d.s.row=some b
def OvF (H:Nat→Prop) (w:World) (O:Nat) (d:OD):Nat→Prop:=fun b=>b<w.heap.size∧¬OvB O d b∧¬H b
theorem rv_zeroO (w:World) (F:Nat→Prop):RV w F zeroV Sl.none Sl.none:=RV.flat _ _ _ _ _ _ (by decide) (by decide) (by decide)
def SVok (w:World) (F:Nat→Prop) (s:SV):Prop:=RV w F s.v s.sl s.so∧(s.has=false→s.v=zeroV)
theorem SVok.agree {w w':World} {F:Nat→Prop} {s:SV} (h:SVok w F s) (ha:Agree F w w'):SVok w' F s:=⟨h.1.agree ha,h.2⟩
theorem SVok.mono {w:World} {F G:Nat→Prop} {s:SV} (h:SVok w F s) (hG:∀ i,F i→G i):SVok w G s:=⟨h.1.mono hG,h.2⟩
def UndoV (w:World) (F:Nat→Prop) (O:Nat) (u:UD) (v:Value):Prop:=
 ∃ (bw bd bo bk:Nat) (o:SV),v=.func (.func 62) #[] #[.pointer (some ⟨bw,0,none⟩),.pointer (some ⟨bd,0,none⟩),.pointer (some ⟨bo,0,none⟩),.pointer (some ⟨bk,0,none⟩)]∧
  (F bw∧F bd∧F bo∧F bk)∧Blk w bw 4 #[.bool u.old.isSome]∧Blk w bd 85 o.cells∧(∀ x,u.old=some x→x=o)∧Blk w bo 43 #[.pointer (some ⟨O,0,none⟩)]∧Blk w bk 9 #[.string u.k]
theorem UndoV.agree {w w':World} {F:Nat→Prop} {O:Nat} {u:UD} {v:Value} (h:UndoV w F O u v) (ha:Agree F w w'):UndoV w' F O u v:=by
 obtain ⟨bw,bd,bo,bk,o,h1,⟨f1,f2,f3,f4⟩,h2,h3,h4,h5,h6⟩:=h
 exact ⟨bw,bd,bo,bk,o,h1,⟨f1,f2,f3,f4⟩,h2.agree ha f1,h3.agree ha f2,h4,h5.agree ha f3,h6.agree ha f4⟩
theorem UndoV.mono {w:World} {F G:Nat→Prop} {O:Nat} {u:UD} {v:Value} (h:UndoV w F O u v) (hG:∀ i,F i→G i):UndoV w G O u v:=by
 obtain ⟨bw,bd,bo,bk,o,h1,⟨f1,f2,f3,f4⟩,r⟩:=h
 exact ⟨bw,bd,bo,bk,o,h1,⟨hG _ f1,hG _ f2,hG _ f3,hG _ f4⟩,r⟩
def OvMap (w:World) (mb:Option Nat) (C:AL SV):Prop:=match mb with
 | none=>C=[]
 | some b=>w.ownsMap Tryz.prog 9 heldR b C.length (mapA SV.val C)
theorem OvMap.heap {w w':World} {mb:Option Nat} {C:AL SV} (h:OvMap w mb C) (hb:∀ b,mb=some b→w'.heap[b]? = w.heap[b]?):OvMap w' mb C:=by
 cases mb with
 | none=>exact h
 | some b=>exact ownsMap_heap h (hb b rfl)
theorem OvMap.lt {w:World} {mb:Option Nat} {C:AL SV} (h:OvMap w mb C) {b:Nat} (hb:mb=some b):b<w.heap.size:=by
 subst hb;exact World.ownsMap.lt h
theorem ownsMap_exact {w:World} {b n:Nat} {C:AL SV} (h:w.ownsMap Tryz.prog 9 heldR b n (mapA SV.val C)):w.ownsMap Tryz.prog 9 heldR b C.length (mapA SV.val C):=by
 obtain ⟨es,clock,h1,F,h2,h3⟩:=h
 refine ⟨es,clock,h1,F,?_,h3⟩
 have:=congrArg Maps.size h3
 rw [size_mapA] at this
 simp [Maps.size,length_sorted] at this
 omega
def OvRow (w:World) (F:Nat→Prop) (O:Nat) (s:Sl) (us:List UD):Prop:=
 ∃ xs:List Value,xs.length=us.length∧w.ownsRow 0 1 1 (.slice s.a us.length s.c) us.length xs∧∀ (i:Nat) (u:UD) (v:Value),us[i]? = some u→xs[i]? = some v→UndoV w F O u v
structure OvAt (H:Nat→Prop) (w:World) (O:Nat) (d:OD):Prop where
 blk:Blk w O 29 #[rootV d.T,.map d.mb,.slice d.s.a d.us.length d.s.c]
 map:OvMap w d.mb d.C
 row:OvRow w (OvF H w O d) O d.s d.us
 vals:∀ p∈d.C,p.1.size≤maxLen∧SVok w (OvF H w O d) p.2
 olds:∀ u∈d.us,u.k.size≤maxLen∧∀ o,u.old=some o→SVok w (OvF H w O d) o
 hist:Chain d.us d.Hs
 h0:d.Hs[0]? = some []
 last:d.Hs[d.us.length]? = some d.C
 sorted:SortedA d.C
 tree:IsT w (OvF H w O d) d.T
 ok:OkR d.T
 ne:d.mb≠some O∧d.s.row≠some O∧∀ b,d.mb=some b→d.s.row≠some b
 out:∀ b,OvB O d b→¬H b
 some_:d.us≠[]→∃ b,d.mb=some b
theorem Chain.short {us:List UD} {Hs:List (AL SV)} (h:Chain us Hs) (h0:Hs[0]? = some []):∀ (i:Nat) (C:AL SV),Hs[i]? = some C→C.length≤i
 | 0,C,hC=>by rw [h0] at hC;injection hC with hC;subst hC;exact Nat.le_refl _
 | i+1,C,hC=>by
   have hi:i<us.length:=by have:=(List.getElem?_eq_some_iff.1 hC).1;have:=h.len;omega
   obtain ⟨C',s,h1,h2,h3,h4⟩:=h.step i _ (List.getElem?_eq_getElem hi)
   rw [h4] at hC
   injection hC with hC
   subst hC
   have:=h.short h0 i C' h1
   have:=putA_len (C:=C') (k:=(us[i]'hi).k) (v:=s)
   omega
section
variable {H : Nat → Prop} {w w' : World} {O : Nat} {d : OD}
theorem OvAt.few (h:OvAt H w O d):d.C.length≤d.us.length:=h.hist.short h.h0 _ _ h.last
theorem OvAt.row_lt (h:OvAt H w O d) {b:Nat} (hb:d.s.row=some b):b<w.heap.size:=by
 obtain ⟨xs,-,h2,-⟩:=h.row
 exact (own_row h2 hb).2
theorem OvAt.own_lt (h:OvAt H w O d) {b:Nat} (hb:OvB O d b):b<w.heap.size:=by
 rcases hb with rfl | hb | hb
 ·exact h.blk.lt
 ·exact h.map.lt hb
 exact h.row_lt hb
theorem OvAt.sb {G:Nat→Prop} (h:OvAt H w O d) (k:Sb G w w') (hG:∀ b,G b→H b):OvAt H w' O d:=by
 have ha:Agree (OvF H w O d) w w':=fun b hb=>k.block b hb.1 fun hh=>hb.2.2 (hG b hh)
 have hm:∀ i,OvF H w O d i→OvF H w' O d i:=fun i hi=>⟨Nat.lt_of_lt_of_le hi.1 k.size,hi.2⟩
 have hn:∀ b,OvB O d b→¬G b:=fun b hb hg=>h.out b hb (hG b hg)
 obtain ⟨xs,r1,r2,r3⟩:=h.row
 exact ⟨k.blk h.blk (hn O (.inl rfl)),h.map.heap fun b hb=>k.block b (h.map.lt hb) (hn b (.inr (.inl hb))),
  ⟨xs,r1,own_agree r2 k.agree fun b hb=>⟨h.row_lt hb,hn b (.inr (.inr hb))⟩,fun i u v hu hv=>((r3 i u v hu hv).agree ha).mono hm⟩,
  fun p hp=>⟨(h.vals p hp).1,((h.vals p hp).2.agree ha).mono hm⟩,fun u hu=>⟨(h.olds u hu).1,fun o ho=>(((h.olds u hu).2 o ho).agree ha).mono hm⟩,
  h.hist,h.h0,h.last,h.sorted,(h.tree.agree ha).mono hm,h.ok,h.ne,h.out,h.some_⟩
theorem OvAt.ext (h:OvAt H w O d) (k:Ext w w'):OvAt H w' O d:=h.sb (k.sb fun _=>False) fun _ hb=>hb.elim
theorem OvAt.more {G:Nat→Prop} (h:OvAt H w O d) (hG:∀ b,b<w.heap.size→G b→H b):OvAt G w O d:=by
 have hm:∀ i,OvF H w O d i→OvF G w O d i:=fun i hi=>⟨hi.1,hi.2.1,fun hg=>hi.2.2 (hG i hi.1 hg)⟩
 obtain ⟨xs,r1,r2,r3⟩:=h.row
 exact ⟨h.blk,h.map,⟨xs,r1,r2,fun i u v hu hv=>(r3 i u v hu hv).mono hm⟩,fun p hp=>⟨(h.vals p hp).1,(h.vals p hp).2.mono hm⟩,
  fun u hu=>⟨(h.olds u hu).1,fun o ho=>((h.olds u hu).2 o ho).mono hm⟩,h.hist,h.h0,h.last,h.sorted,h.tree.mono hm,h.ok,h.ne,fun b hb hg=>h.out b hb (hG b (h.own_lt hb) hg),h.some_⟩
end
theorem strKey:Keyed Tryz.prog 9:=string_keyed Tryz.underlying9
theorem keyA (k:ByteArray) (hk:k.size≤maxLen):keyOf Tryz.prog 9 (.string k)=some (keyS k):=Go.WideMaps.keyOf_string_mk Tryz.underlying9 hk
structure OvTo (H:Nat→Prop) (w:World) (O:Nat) (d d':OD) (w':World):Prop where
 at_:OvAt H w' O d'
 sb:Sb (OvB O d) w w'
 new:∀ b,OvB O d' b→OvB O d b∨w.heap.size≤b
abbrev zeroSV:SV:=⟨false,zeroV,Sl.none,Sl.none⟩
theorem zeroSlot (w:World):(zeroValue 85).run Tryz.prog w=.ok zeroSV.val w:=by kernel_rfl
theorem Tryz.infoFn:(Tryz.prog.info? 1).map (fun i=>(i.zero,i.size,i.bytes))=some (some Value.nilFunc,1,8):=by kernel_rfl
def hadA (C:AL SV) (k:ByteArray):SV:=(getA C k).getD zeroSV
theorem look_ov {W:World} {mb:Option Nat} {C:AL SV} (hm:OvMap W mb C) {k:ByteArray} (hk:k.size≤maxLen) :
  (Instr.lookup 26 (.map mb) (.string k) true).run Tryz.prog W=.ok (.tuple #[(hadA C k).val,.bool (getA C k).isSome]) W:=by
 cases mb with
 | none=>
   have hC:C=[]:=hm
   subst hC
   rw [Maps.look_nil true strKey Tryz.underlying26 (zeroSlot W) (keyA k hk)]
   rfl
 | some b=>
   obtain ⟨v,ps,hrun,hv⟩:=World.ownsMap.look_ok hm strKey Tryz.underlying26 (zeroSlot W) (zd:=.held zeroSV.val) (zp:=[]) rfl (keyA k hk)
   rw [at_mapA] at hv
   rw [hrun,has_mapA]
   unfold hadA
   cases hg:getA C k with
   | none=>rw [hg] at hv;rw [heldR_inv hv];rfl
   | some s=>rw [hg] at hv;rw [heldR_inv hv];rfl
theorem oper_putA {o:Oper} {a:Act} {Q:Exit→Act→World→Prop} {K:Act→World→Prop} {w:World} {m x v:Operand} (hop:o.op=Op.mapUpdate 26 m x v)
  {b:Nat} {C:AL SV} {k:ByteArray} {s:SV} (hm:a.eval m=.map (some b)) (hx:a.eval x=.string k) (hv:a.eval v=s.val) (hown:OvMap w (some b) C) (hk:k.size≤maxLen) (hC:C.length<maxLen) (hs:SortedA C)
  (hK:∀ w',OvMap w' (some b) (putA C k s)→Sb (fun c=>c=b) w w'→K (a.put o.dst undef) w'):Oper.wp Tryz.prog o a w K Q:=by
 obtain ⟨w',hrun,r1,r2⟩:=World.ownsMap.store hown strKey Tryz.underlying26 hC (keyA k hk) (val:=s.val) (d:=.held s.val) (ps:=[]) rfl
 unfold Oper.wp
 simp [execOp,hop,hm,hx,hv,hrun,Result.andThen]
 rw [put_mapA SV.val hs] at r1
 exact hK _ (ownsMap_exact r1) (Sb.grown r2.grown)
theorem oper_delA {o:Oper} {a:Act} {Q:Exit→Act→World→Prop} {K:Act→World→Prop} {w:World} {m x:Operand} (hop:o.op=Op.call { callee:=Callee.builtin Builtin.delete,args:=#[m,x],argTypes:=#[26,9] })
  {b:Nat} {C:AL SV} {k:ByteArray} (hm:a.eval m=.map (some b)) (hx:a.eval x=.string k) (hown:OvMap w (some b) C) (hk:k.size≤maxLen)
  (hK:∀ w',OvMap w' (some b) (delA C k)→Sb (fun c=>c=b) w w'→K (a.put o.dst (.tuple #[])) w'):Oper.wp Tryz.prog o a w K Q:=by
 obtain ⟨w',hrun,r1,r2⟩:=World.ownsMap.drop hown strKey Tryz.underlying26 (keyA k hk) o.type
 unfold Oper.wp
 simp [execOp,hop,resolve,invoke,builtin,hm,hx,hrun,Result.andThen]
 rw [del_mapA SV.val] at r1
 exact hK _ (ownsMap_exact r1) (Sb.grown r2.grown)
theorem OvMap.ne {w:World} {b g:Nat} {C:AL SV} {t:TypeId} {cs:Array Value} (h:OvMap w (some b) C) (hb:Blk w g t cs):g≠b:=by
 rintro rfl
 obtain ⟨es,clock,h1,-⟩:=h
 have h2:w.heap[g]? = some (.cells cs t (0,0)):=hb
 rw [h1] at h2
 cases h2
theorem hist_end {us:List UD} {Hs:List (AL SV)} {C:AL SV} (h:Chain us Hs) (hl:Hs[us.length]? = some C):∃ Ps,Hs=Ps++[C]:=by
 have hn:=h.len
 rcases List.eq_nil_or_concat Hs with rfl | ⟨Ps,c,rfl⟩
 ·simp at hn
 refine ⟨Ps,?_⟩
 rw [List.concat_eq_append] at *
 rw [List.length_append,List.length_singleton] at hn
 rw [List.getElem?_append_right (by omega),show us.length - Ps.length=0 by omega] at hl
 injection hl with hl
 rw [hl]
section
variable {H : Nat → Prop} {w wc : World} {O : Nat} {d : OD}
theorem OvAt.made (h:OvAt H w O d) (hm:d.mb=none) {b:Nat} (hb:w.heap.size≤b) (hH:∀ b,H b→b<w.heap.size) (k:Sb (fun c=>c=O) w wc)
  (hblk:Blk wc O 29 #[rootV d.T,.map (some b),.slice d.s.a d.us.length d.s.c]) (hown:wc.ownsMap Tryz.prog 9 heldR b 0 (mapA SV.val [])):OvAt H wc O { d with mb:=some b }:=by
 have hC:d.C=[]:=by have:=h.map;rw [hm] at this;exact this
 have ha:Agree (OvF H w O d) w wc:=fun i hi=>k.block i hi.1 fun e=>hi.2.1 (.inl e)
 have hmm:∀ i,OvF H w O d i→OvF H wc O { d with mb:=some b } i:=fun i hi=>⟨Nat.lt_of_lt_of_le hi.1 k.size,fun e=>by
  rcases e with e | e | e
  ·exact hi.2.1 (.inl e)
  ·have e:some b=some i:=e
   injection e with e
   have:=hi.1;omega
  exact hi.2.1 (.inr (.inr e)),hi.2.2⟩
 obtain ⟨xs,r1,r2,r3⟩:=h.row
 refine ⟨hblk,?_,⟨xs,r1,own_agree r2 k.agree fun i hi=>⟨h.row_lt hi,fun e=>h.ne.2.1 (by rw [←e];exact hi)⟩,fun i u v hu hv=>((r3 i u v hu hv).agree ha).mono hmm⟩,
  fun p hp=>⟨(h.vals p hp).1,((h.vals p hp).2.agree ha).mono hmm⟩,fun u hu=>⟨(h.olds u hu).1,fun o ho=>(((h.olds u hu).2 o ho).agree ha).mono hmm⟩,
  h.hist,h.h0,h.last,h.sorted,(h.tree.agree ha).mono hmm,h.ok,⟨?_,h.ne.2.1,?_⟩,?_,fun _=>⟨b,rfl⟩⟩
 ·show wc.ownsMap _ _ _ _ _ _
  rw [hC];exact hown
 ·intro e
  have e:some b=some O:=e
  injection e with e
  have:=h.blk.lt;omega
 ·intro i hi hr
  have hi:some b=some i:=hi
  injection hi with hi
  have:=h.row_lt hr;omega
 rintro i (hi | hi | hi) hh
 ·exact h.out i (.inl hi) hh
 ·have hi:some b=some i:=hi
  injection hi with hi
  have:=hH i hh;omega
 exact h.out i (.inr (.inr hi)) hh
structure StepMid (H:Nat→Prop) (w:World) (O:Nat) (d:OD) (k:ByteArray) (sv:SV) (b:Nat) (wc:World):Prop where
 at_:OvAt H wc O { d with mb:=some b }
 sb:Sb (OvB O d) w wc
 mb:d.mb=some b∨w.heap.size≤b
 big:w.heap.size+3≤wc.heap.size
 bo:Blk wc w.heap.size 43 #[.pointer (some ⟨O,0,none⟩)]
 bk:Blk wc (w.heap.size+1) 9 #[.string k]
 bs:Blk wc (w.heap.size+1+1) 85 sv.cells
 ok:SVok wc (OvF H wc O { d with mb:=some b }) sv
def StepPost (H:Nat→Prop) (O:Nat) (d:OD) (k:ByteArray) (sv:SV) (w:World) (e:Ending) (w':World):Prop:=
 (∃ r,e=.returned r)∧∃ mb s,OvTo H w O d ⟨d.T,mb,s,d.us++[⟨k,getA d.C k⟩],d.Hs++[putA d.C k sv],putA d.C k sv⟩ w'
abbrev undoC (bw bd bo bk:Nat):Value:=.func (.func 62) #[] #[.pointer (some ⟨bw,0,none⟩),.pointer (some ⟨bd,0,none⟩),.pointer (some ⟨bo,0,none⟩),.pointer (some ⟨bk,0,none⟩)]
theorem step_end {k:ByteArray} {sv:SV} {b:Nat} {wm W w5 w7:World} (hM:StepMid H w O d k sv b wc) (hlO:O<w.heap.size) (hrl:∀ i,d.s.row=some i→i<w.heap.size) (hH:∀ b,H b→b<w.heap.size) (hk:k.size≤maxLen) (hxm:Ext wc wm)
  {bw bd:Nat} (hw1:wc.heap.size≤bw∧bw<wm.heap.size) (hd1:wc.heap.size≤bd∧bd<wm.heap.size) (hbd:Blk wm bd 85 (hadA d.C k).cells) (hbw:Blk wm bw 4 #[.bool (getA d.C k).isSome]) (hx:Ext wm W)
  {xs:List Value} (hl:xs.length=d.us.length) (hun:∀ (i:Nat) (u:UD) (v:Value),d.us[i]? = some u→xs[i]? = some v→UndoV wc (OvF H wc O { d with mb:=some b }) O u v) {s5:Sl}
  (hown:w5.ownsRow 0 1 1 (.slice s5.a (d.us.length+1) s5.c) (d.us.length+1) (xs++[undoC bw bd w.heap.size (w.heap.size+1)])) (hwr:Wr W w5 d.s.row) (hs:s5.a=d.s.a∨s5.a=some ⟨W.heap.size,0,none⟩∧Wr W w5 none)
  (h7:OvMap w7 (some b) (putA d.C k sv)) (hsb7:Sb (fun c=>c=b) (w5.setCell ⟨O,2,none⟩ (.slice s5.a (d.us.length+1) s5.c)) w7) :
  OvTo H w O d ⟨d.T,some b,s5,d.us++[⟨k,getA d.C k⟩],d.Hs++[putA d.C k sv],putA d.C k sv⟩ w7:=by
 have hbig:=hM.big
 have hcm:=hxm.size
 have hmW:=hx.size
 have hW5:=hwr.grown.size
 have h57:=hsb7.size
 rw [World.size_setCell] at h57
 have hbl:b<wc.heap.size:=hM.at_.map.lt rfl
 have hbO:b≠O:=fun e=>hM.at_.ne.1 (by rw [e])
 have hbr:d.s.row≠some b:=fun e=>hM.at_.ne.2.2 b rfl e
 have hOr:d.s.row≠some O:=hM.at_.ne.2.1
 have hrow:∀ i,s5.row=some i→d.s.row=some i∨i=W.heap.size:=fun i hi=>by
  rcases hs with h | ⟨h,-⟩
  ·left;rw [Sl.row,←h];exact hi
  right;rw [Sl.row,h] at hi;simpa using hi.symm
 have h5O:s5.row≠some O:=fun e=>by
  rcases hrow O e with h | h
  ·exact hOr h
  omega
 have h5b:s5.row≠some b:=fun e=>by
  rcases hrow b e with h | h
  ·exact hbr h
  omega
 -- what turns between wc and the end
 have hW:Sb (fun _=>False) wc W:=(hxm.trans hx).sb _
 have h5:Sb (fun c=>d.s.row=some c) W w5:=⟨hwr.grown.os,hwr.grown.tape,hwr.grown.output,hwr.grown.size,fun i hi hn=>hwr.grown.block i hi fun e=>hn e.symm⟩
 have h6:Sb (fun c=>c=O) w5 (w5.setCell ⟨O,2,none⟩ (.slice s5.a (d.us.length+1) s5.c)):=(Sb.refl (fun c=>c=O) w5).set (p:=⟨O,2,none⟩) (.inr rfl) _
 have hall:Sb (OvB O { d with mb:=some b }) wc w7:=
  (((hW.mono fun i _ h=>h.elim).trans (h5.mono fun i _ h=>.inr (.inr h))).trans (h6.mono fun i _ h=>.inl h)).trans (hsb7.mono fun i _ h=>.inr (.inl (by rw [h])))
 have hkeep:∀ {g t cs},Blk wm g t cs→g≠O→g≠b→d.s.row≠some g→Blk w7 g t cs:=fun hb h1 h2 h3=>
  hsb7.blk (h6.blk (h5.blk (hb.ext hx) h3) h1) h2
 have hout:∀ i,wc.heap.size≤i∨(i=w.heap.size∨i=w.heap.size+1)→i<wm.heap.size→i≠b→OvF H w7 O ⟨d.T,some b,s5,d.us++[⟨k,getA d.C k⟩],d.Hs++[putA d.C k sv],putA d.C k sv⟩ i:=fun i hi hlt hnb=>
  ⟨by omega,fun e=>by
    rcases e with e | e | e
    ·omega
    ·have e:some b=some i:=e
     injection e with e
     exact hnb e.symm
    rcases hrow i e with h | h
    ·have:=hrl i h;omega
    omega,fun hh=>by have:=hH i hh;omega⟩
 have hb0:=hM.bo
 have hb1:=hM.bk
 have nb0:=OvMap.ne hM.at_.map hb0
 have nb1:=OvMap.ne hM.at_.map hb1
 have ha:Agree (OvF H wc O { d with mb:=some b }) wc w7:=fun i hi=>hall.block i hi.1 hi.2.1
 have hm:∀ i,OvF H wc O { d with mb:=some b } i→OvF H w7 O ⟨d.T,some b,s5,d.us++[⟨k,getA d.C k⟩],d.Hs++[putA d.C k sv],putA d.C k sv⟩ i:=fun i hi=>
  ⟨Nat.lt_of_lt_of_le hi.1 hall.size,fun e=>by
    rcases e with e | e | e
    ·exact hi.2.1 (.inl e)
    ·exact hi.2.1 (.inr (.inl e))
    rcases hrow i e with h | h
    ·exact hi.2.1 (.inr (.inr h))
    have:=hi.1;omega,hi.2.2⟩
 obtain ⟨Ps,hPs⟩:=hist_end hM.at_.hist hM.at_.last
 have hPs:d.Hs=Ps++[d.C]:=hPs
 have hch:Chain d.us d.Hs:=hM.at_.hist
 have hlast:d.Hs[d.us.length]? = some d.C:=hM.at_.last
 have hlen:=hch.len
 have hsrt:SortedA d.C:=hM.at_.sorted
 refine ⟨⟨?_,h7,⟨xs++[undoC bw bd w.heap.size (w.heap.size+1)],by simp [hl],?_,?_⟩,?_,?_,?_,?_,?_,putA_sorted hsrt _ _,(hM.at_.tree.agree ha).mono hm,hM.at_.ok,⟨?_,h5O,?_⟩,?_,fun _=>⟨b,rfl⟩⟩,?_,?_⟩
 ·have h8:Blk (w5.setCell ⟨O,2,none⟩ (.slice s5.a (d.us.length+1) s5.c)) O 29 #[rootV d.T,.map (some b),.slice s5.a (d.us.length+1) s5.c]:=(h5.blk ((hM.at_.blk.ext hxm).ext hx) hOr).set_ 2 _
  have h9:=hsb7.blk h8 (fun e=>hbO e.symm)
  show Blk w7 O _ #[_,_,.slice s5.a (d.us++[(⟨k,getA d.C k⟩:UD)]).length s5.c]
  rw [List.length_append,List.length_singleton]
  exact h9
 ·show w7.ownsRow 0 _ 1 (.slice s5.a (d.us++[(⟨k,getA d.C k⟩:UD)]).length s5.c) (d.us++[(⟨k,getA d.C k⟩:UD)]).length _
  rw [List.length_append,List.length_singleton]
  exact own_agree (own_agree hown h6.agree fun i hi=>⟨(own_row hown hi).2,fun e=>h5O (by rw [←e];exact hi)⟩) hsb7.agree fun i hi=>⟨by rw [World.size_setCell];exact (own_row hown hi).2,fun e=>h5b (by rw [←e];exact hi)⟩
 ·intro i u v hu hv
  rcases Nat.lt_or_ge i d.us.length with hi | hi
  ·have hu:(d.us++[(⟨k,getA d.C k⟩:UD)])[i]? = some u:=hu
   rw [List.getElem?_append_left hi] at hu
   rw [List.getElem?_append_left (by omega)] at hv
   exact ((hun i u v hu hv).agree ha).mono hm
  have hu:(d.us++[(⟨k,getA d.C k⟩:UD)])[i]? = some u:=hu
  rw [List.getElem?_append_right hi] at hu
  rw [List.getElem?_append_right (by omega)] at hv
  have h0:i - d.us.length=0:=by have:=(List.getElem?_eq_some_iff.1 hu).1;simpa using this
  rw [h0] at hu
  rw [show i - xs.length=0 by omega] at hv
  have hu:(⟨k,getA d.C k⟩:UD)=u:=by simpa using hu
  have hv:undoC bw bd w.heap.size (w.heap.size+1)=v:=by simpa using hv
  subst hu hv
  refine ⟨bw,bd,w.heap.size,w.heap.size+1,hadA d.C k,rfl,⟨hout _ (.inl hw1.1) hw1.2 (by omega),hout _ (.inl hd1.1) hd1.2 (by omega),hout _ (.inr (.inl rfl)) (by omega) nb0,hout _ (.inr (.inr rfl)) (by omega) nb1⟩,?_,?_,?_,?_,?_⟩
  ·exact hkeep hbw (by omega) (by omega) fun e=>by have:=hrl _ e;omega
  ·exact hkeep hbd (by omega) (by omega) fun e=>by have:=hrl _ e;omega
  ·intro x hx
   have hx:getA d.C k=some x:=hx
   unfold hadA;rw [hx];rfl
  ·exact hkeep (hb0.ext hxm) (by omega) nb0 fun e=>by have:=hrl _ e;omega
  exact hkeep (hb1.ext hxm) (by omega) nb1 fun e=>by have:=hrl _ e;omega
 ·intro p hp
  rcases mem_putA hp with rfl | hp
  ·exact ⟨hk,(hM.ok.agree ha).mono hm⟩
  exact ⟨(hM.at_.vals p hp).1,((hM.at_.vals p hp).2.agree ha).mono hm⟩
 ·intro u hu
  rcases List.mem_append.1 hu with hu | hu
  ·exact ⟨(hM.at_.olds u hu).1,fun o ho=>(((hM.at_.olds u hu).2 o ho).agree ha).mono hm⟩
  rw [List.mem_singleton.1 hu]
  exact ⟨hk,fun o ho=>((((hM.at_.vals (k,o) (getA_some ho)).2).agree ha).mono hm)⟩
 ·show Chain (d.us++[(⟨k,getA d.C k⟩:UD)]) (d.Hs++[putA d.C k sv])
  rw [hPs] at hch ⊢
  exact hch.snoc hsrt k sv
 ·have h0:d.Hs[0]? = some []:=hM.at_.h0
  show (d.Hs++[putA d.C k sv])[0]? = _
  rw [List.getElem?_append_left (by omega)];exact h0
 ·show (d.Hs++[putA d.C k sv])[(d.us++[(⟨k,getA d.C k⟩:UD)]).length]? = some (putA d.C k sv)
  rw [List.length_append,List.length_singleton,List.getElem?_append_right (by omega),show d.us.length+1 - d.Hs.length=0 by omega];rfl
 ·intro e
  have e:some b=some O:=e
  injection e with e
  exact hbO e
 ·intro i hi
  have hi:some b=some i:=hi
  injection hi with hi
  subst hi
  exact h5b
 ·rintro i (hi | hi | hi) hh
  ·exact hM.at_.out i (.inl hi) hh
  ·exact hM.at_.out i (.inr (.inl hi)) hh
  rcases hrow i hi with h | h
  ·exact hM.at_.out i (.inr (.inr h)) hh
  have:=hH i hh;omega
 ·refine hM.sb.comp hall fun i hi h=>?_
  rcases h with h | h | h
  ·exact .inl h
  ·have h:some b=some i:=h
   injection h with h
   subst h
   rcases hM.mb with h | h
   ·exact .inr (.inl h)
   omega
  exact .inr (.inr h)
 rintro i (hi | hi | hi)
 ·exact .inl (.inl hi)
 ·have hi:some b=some i:=hi
  injection hi with hi
  subst hi
  rcases hM.mb with h | h
  ·exact .inl (.inr (.inl h))
  exact .inr h
 rcases hrow i hi with h | h
 ·exact .inl (.inr (.inr h))
 right;omega
end
abbrev od0 (T:RT):OD:=⟨T,none,Sl.none,[],[[]],[]⟩
theorem OvAt.fresh {H:Nat→Prop} {w:World} {F:Nat→Prop} {O:Nat} {T:RT} (hb:Blk w O 29 #[rootV T,.map none,.slice none 0 0]) (hT:IsT w F T) (ok:OkR T) (hF:∀ b,F b→b<w.heap.size∧¬H b∧b≠O) (hO:¬H O):OvAt H w O (od0 T):=
 ⟨hb,rfl,⟨[],rfl,World.ownsRow_nil _ _ _ _,fun i u v hu=>by simp at hu⟩,fun p hp=>(by cases hp),fun u hu=>(by cases hu),Chain.nil [],rfl,rfl,List.Pairwise.nil,
   hT.mono fun b hb=>⟨(hF b hb).1,⟨fun h=>by
    rcases h with h | h | h
    ·exact (hF b hb).2.2 h
    ·cases h
    (cases h),(hF b hb).2.1⟩⟩,ok,⟨by simp,by simp [Sl.row],fun b hb=>(by cases hb)⟩,fun b hb=>by
   rcases hb with rfl | h | h
   ·exact hO
   ·cases h
   (cases h),fun h=>absurd rfl h⟩
theorem begin_ov {w:World} {F H:Nat→Prop} {T:RT} (hT:IsT w F T) (ok:OkR T) (hF:∀ b,F b→b<w.heap.size∧¬H b) (hH:∀ b,H b→b<w.heap.size) :
  Calls Tryz.prog 15 #[treeV T] w fun e w'=>∃ O,e=.returned (.pointer (some ⟨O,0,none⟩))∧w.heap.size≤O∧OvAt H w' O (od0 T)∧Ext w w':=by
 obtain ⟨p,hp⟩:=rootV_ptr T
 rw [treeV,hp]
 have HT:=Lib.hid hT
 have HF:=Lib.hid hF
 have HH:=Lib.hid hH
 have HP:=Lib.hid hp
 clear hT hF hH hp
 go_enter Tryz.func15,Tryz.ntmps15
 go_wp2_with fail
 generalize hW0:World.alloc _ _=W0
 obtain ⟨hx0,hz0,-,hb1⟩:=two_blocks w _ _ _ _ W0 hW0
 refine bodyPost_ret (v:=.pointer (some ⟨w.heap.size+1,0,none⟩)) (by simp [results,Tryz.results15,go_sem]) rfl ?_
 refine ⟨w.heap.size+1,rfl,Nat.le_succ _,OvAt.fresh (by rw [HP.out];exact hb1) (HT.out.agree (hx0.agree fun b hb=>(HF.out b hb).1)) ok (fun b hb=>⟨by have:=(HF.out b hb).1;omega,(HF.out b hb).2,by have:=(HF.out b hb).1;omega⟩) (fun h=>by have:=HH.out _ h;omega),hx0⟩
theorem mark_ov {H:Nat→Prop} {w:World} {O:Nat} {d:OD} (h:OvAt H w O d):Calls Tryz.prog 18 #[.pointer (some ⟨O,0,none⟩)] w fun e w'=>e=.returned (.int .i64 (d.us.length:Int))∧Ext w w':=by
 have c2:w.cell? ⟨O,2,none⟩=some (.slice d.s.a d.us.length d.s.c):=h.blk.cell 2
 clear h
 go_enter Tryz.func18,Tryz.ntmps18
 go_wp2_with fail
 go_ret
 exact ⟨rfl,Ext.refl w⟩
abbrev OD.now (d:OD) (k:ByteArray):Option Val:=nowE (entsT d.T) (optA d.C) k
theorem now_none {d:OD} {k:ByteArray} (h:getA d.C k=none):d.now k=getE (entsT d.T) k:=by
 unfold OD.now nowE
 rw [getA_opt,h];rfl
theorem now_some {d:OD} {k:ByteArray} {s:SV} (h:getA d.C k=some s):d.now k=s.opt:=by
 unfold OD.now nowE
 rw [getA_opt,h];rfl
theorem opt_val {w:World} {F:Nat→Prop} {s:SV} (h:SVok w F s):s.opt.getD zeroV=s.v∧s.opt.isSome=s.has:=by
 unfold SV.opt
 cases hh:s.has with
 | true=>simp
 | false=>simp [h.2 hh]
theorem get_ov {H:Nat→Prop} {w:World} {O:Nat} {d:OD} (h:OvAt H w O d) (hl:(entsT d.T).length≤1000000) {k:ByteArray} (hk:k.size≤maxLen) :
  Calls Tryz.prog 11 #[.pointer (some ⟨O,0,none⟩),.string k] w (GetPost (d.now k) w):=by
 have lO:=h.blk.lt
 have c1:w.cell? ⟨O,1,none⟩=some (.map d.mb):=h.blk.cell 1
 have c0:w.cell? ⟨O,0,none⟩=some (rootV d.T):=h.blk.cell 0
 have hlk:∀ cs t,(Instr.lookup 26 (.map d.mb) (.string k) true).run Tryz.prog (w.alloc (.cells cs t))=.ok (.tuple #[(hadA d.C k).val,.bool (getA d.C k).isSome]) (w.alloc (.cells cs t)):=fun cs t=>
  look_ov (h.map.heap fun b hb=>Below.heap_alloc _ _ _ (h.map.lt hb)) hk
 cases hg:getA d.C k with
 | none=>
   rw [now_none hg]
   simp only [hg,hadA,Option.getD_none,Option.isSome_none] at hlk
   have hF:∀ b,OvF H w O d b→b<w.heap.size:=fun b hb=>hb.1
   have hgt:=fun W (hW:Ext w W)=>treeGet_any (w:=W) (fun b hb=>Nat.lt_of_lt_of_le (hF b hb) hW.size) (h.tree.agree (hW.agree hF)) h.ok hl k
   generalize getE (entsT d.T) k=og at *
   obtain ⟨p,hp⟩:=rootV_ptr d.T
   rw [hp] at c0
   simp only [treeV,hp] at hgt
   have HGT:=Lib.hid hgt
   clear hgt h hF hg hp
   go_enter Tryz.func11,Tryz.ntmps11
   go_wp2_with fail
   generalize hW0:World.alloc _ _=W0
   obtain ⟨hx0,hz0,hb0,hb1⟩:=two_blocks w _ _ _ _ W0 hW0
   have HX0:=Lib.hid hx0
   have HB0:=Lib.hid hb0
   have HZ:=Lib.hid hz0
   clear hW0 hb0 hb1 hz0 hlk
   refine (HGT.out W0 hx0).mono ?_
   rintro e w1 ⟨sl,so,rfl,hx1,hrv⟩
   have hb:=HB0.out.ext hx1
   obtain ⟨q0,q1,q2,q3,q4,q5⟩:=hb.c6
   have f2:=hb.frozen
   have lb:=hb.lt
   have HX1:=Lib.hid hx1
   have HRV:=Lib.hid hrv
   clear hb hx1 hrv hx0 HGT
   go_wp2_with fail
   refine bodyPost_ret (v:=.tuple #[aggV (og.getD zeroV) sl so,.bool og.isSome]) (by simp [results,Tryz.results11,go_sem,q0,q1,q2,q3,q4,q5]) rfl ?_
   exact getPost_end (HX0.out.trans HX1.out) (b:=w.heap.size) (lo:=W0.heap.size) (by omega) (by rw [HZ.out];omega) HRV.out
 | some s=>
   rw [now_some hg]
   have hs:=(h.vals (k,s) (getA_some hg)).2
   have hv:s.opt.getD zeroV=s.v∧s.opt.isSome=s.has:=opt_val hs
   simp only [hg,hadA,Option.getD_some,Option.isSome_some] at hlk
   have hcp:=fun W (hW:Ext w W)=>copy_any _ s.v (Nat.le_refl _) W s.sl s.so ((hs.1.agree (hW.agree fun b hb=>hb.1)).mono fun b hb=>Nat.lt_of_lt_of_le hb.1 hW.size)
   obtain ⟨og,hog⟩:∃ og,s.opt=og:=⟨_,rfl⟩
   rw [hog] at hv ⊢
   obtain ⟨has,v,sl,so⟩:=s
   obtain ⟨rfl,rfl⟩:=hv
   have HCP:=Lib.hid hcp
   clear hcp h hg hs hog
   go_enter Tryz.func11,Tryz.ntmps11
   go_wp2_with fail
   generalize hW0:World.alloc _ _=W0
   obtain ⟨hx0,hz0,hb0,hb1⟩:=two_blocks w _ _ _ _ W0 hW0
   have HSS:=Lib.hid (show ∀ W,St (fun b=>b=w.heap.size) W0 W→W.cell? ⟨w.heap.size+1,0,none⟩=some (.bool og.isSome)∧W.cell? ⟨w.heap.size+1,1,none⟩=some (.int .i64 (og.getD zeroV).kind)∧W.cell? ⟨w.heap.size+1,2,none⟩=some (.bool (og.getD zeroV).b)∧W.cell? ⟨w.heap.size+1,3,none⟩=some (.int .i64 (og.getD zeroV).i)∧W.cell? ⟨w.heap.size+1,4,none⟩=some (.string (og.getD zeroV).t)∧W.cell? ⟨w.heap.size+1,5,none⟩=some (.slice sl.a (og.getD zeroV).l.length sl.c)∧W.cell? ⟨w.heap.size+1,6,none⟩=some (.slice so.a (og.getD zeroV).ok.length so.c) from
    fun W hW=>by
     have hb:=hW.blk hb1 (by omega)
     exact ⟨hb.cell 0,hb.cell 1,hb.cell 2,hb.cell 3,hb.cell 4,hb.cell 5,hb.cell 6⟩)
   have HX0:=Lib.hid hx0
   have HB0:=Lib.hid hb0
   have HZ:=Lib.hid hz0
   have l0:=hb0.lt
   clear hW0 hx0 hb0 hb1 hz0 hlk
   refine wp_region_held_drew (S:=(fun w'=>St (fun b=>b=w.heap.size) W0 w')) (by kernel_rfl) (((St.refl _ W0).drew)) (fun hHeld=>?_)
   refine heldT 0 (some 21) HSS hHeld ?_
   refine heldT 1 (some 22) HSS hHeld ?_
   refine heldT 3 (some 24) HSS hHeld ?_
   refine heldT 4 (some 25) HSS hHeld ?_
   refine held_call (i:=2) (by kernel_rfl) rfl (by rfl) (fun K hK=>?_)
   go_simp
   (refine (HCP.out _ (HX0.out.drew)).mono ?_;rintro e w2 ⟨sl2,so2,rfl,hx2,hrv⟩;have hb2:=(HB0.out.ext ((Ext.refl W0).drew)).ext hx2;obtain ⟨q0,q1,q2,q3,q4,q5⟩:=hb2.c6;have f2:=hb2.frozen;have lb:=hb2.lt)
   refine hK.out _ _ (hHeld.ext hx2) (fun hHeld=>?_)
   clear hK K
   try simp only [Act.put,List.setIfInBounds_toArray,List.set_cons_zero,List.set_cons_succ]
   refine held_call (i:=5) (by kernel_rfl) rfl (by rfl) (fun K hK=>?_)
   go_simp
   skip
   refine hK.out _ _ (hHeld.putV (.inr rfl) 0 _ _ _) (fun hHeld=>?_)
   clear hK K
   try simp only [Act.put,List.setIfInBounds_toArray,List.set_cons_zero,List.set_cons_succ]
   refine heldT 6 (some 5) HSS hHeld ?_
   refine wpAnyH_done (by kernel_rfl) ?_ _
   go_wp2_with fail
   refine bodyPost_ret (v:=.tuple #[aggV (og.getD zeroV) sl2 so2,.bool og.isSome]) (by simp [results,Tryz.results11,go_sem,q0,q1,q2,q3,q4,q5]) rfl ?_
   exact getPost_end ((HX0.out.drew).trans hx2) (b:=w.heap.size) (lo:=W0.heap.size) (by omega) (by rw [HZ.out];omega) hrv
end Go.Proofs.YtechahocffcbpaaGreatDoor
namespace Go.Proofs.YtechahocffcbpaaGreatDoor
open Go.RowKit
set_option linter.unusedVariables false
def onlyO (R:Act→World→Prop):Exit→Act→World→Prop
 | .normal,a,w=>R a w
 | _,_,_=>False
theorem onlyO_mk {R:Act→World→Prop} {a:Act} {w:World} (h:R a w):onlyO R .normal a w:=h
def putO (tm:Array Value):List (Nat × Value)→Array Value
 | []=>tm
 | (i,v) :: l=>putO (tm.setIfInBounds i v) l
theorem wp_meetO {P:Program} {c:Code} {Q:Exit→Act→World→Prop} {a:Act} {w:World} {α:Type} (Rw:World→α→Prop) (ds:List Nat) (vals:α→List (Nat × Value))
  (h1:c.wp P (onlyO fun a' w'=>∃ x,Rw w' x∧a'.defers=a.defers∧a'.tmps=putO a.tmps ((ds.map fun d=>(d,a'.tmps.getD d undef))++vals x)) a w)
  (h2:∀ (w':World) (x:α) (vs:Nat→Value),Rw w' x→Q .normal { tmps:=putO a.tmps ((ds.map fun d=>(d,vs d))++vals x),defers:=a.defers } w'):c.wp P Q a w:=
 wp_mono h1 fun e a' w' h=>by
  cases e with
  | normal=>
    obtain ⟨x,hr,hd,ht⟩:=h
    have:=h2 w' x (fun d=>a'.tmps.getD d undef) hr
    rw [←ht,←hd] at this
    exact this
  | _=>exact h.elim
end Go.Proofs.YtechahocffcbpaaGreatDoor
namespace Go.Proofs.YtechahocffcbpaaGreatDoor
open Go.RowKit Go.Maps
set_option linter.unusedVariables false
set_option linter.unusedSimpArgs false
theorem two_drew (w:World) (t0 t1:TypeId) (c0 c1:Array Value):∀ W,((w.alloc (.cells c0 t0)).alloc (.cells c1 t1)).drew=W→
  Ext w W∧W.heap.size=w.heap.size+2∧Blk W w.heap.size t0 c0∧Blk W (w.heap.size+1) t1 c1:=by
 rintro W rfl
 obtain ⟨hx,hz,h0,h1⟩:=two_blocks w t0 t1 c0 c1 _ rfl
 exact ⟨hx.drew,hz,h0,h1⟩
theorem step_made {w:World} {O:Nat} {t t0 t1 t2:TypeId} {cs c0 c1 c2:Array Value} (hb:Blk w O t cs):∀ W,((((w.setCell ⟨O,1,none⟩ (.map (some (w.heap.size+1+1+1)))).alloc (.cells c0 t0)).alloc (.cells c1 t1)).alloc (.cells c2 t2)).alloc (.map #[] 0)=W→
  Sb (fun c=>c=O) w W∧w.heap.size+3≤W.heap.size∧Blk W O t (cs.setIfInBounds 1 (.map (some (w.heap.size+1+1+1))))∧Blk W w.heap.size t0 c0∧Blk W (w.heap.size+1) t1 c1∧Blk W (w.heap.size+1+1) t2 c2∧W.ownsMap Tryz.prog 9 heldR (w.heap.size+1+1+1) 0 (mapA SV.val []):=by
 rintro W rfl
 have hz:(w.setCell ⟨O,1,none⟩ (.map (some (w.heap.size+1+1+1)))).heap.size=w.heap.size:=World.size_setCell _ _ _
 have hs0:Sb (fun c=>c=O) w (w.setCell ⟨O,1,none⟩ (.map (some (w.heap.size+1+1+1)))):=(Sb.refl (fun c=>c=O) w).set (p:=⟨O,1,none⟩) (.inr rfl) _
 have hb0:=hb.set_ 1 (.map (some (w.heap.size+1+1+1)))
 generalize w.setCell ⟨O,1,none⟩ (.map (some (w.heap.size+1+1+1)))=W0 at *
 obtain ⟨hx,hz3,h0,h1,h2⟩:=three_blocks W0 t0 t1 t2 c0 c1 c2 _ rfl
 rw [hz] at h0 h1 h2 hz3
 generalize ((W0.alloc (.cells c0 t0)).alloc (.cells c1 t1)).alloc (.cells c2 t2)=W3 at *
 have hm:=World.ownsMap_made W3 Tryz.prog 9 heldR
 rw [show W3.heap.size=w.heap.size+1+1+1 by omega] at hm
 exact ⟨(hs0.trans (hx.sb _)).trans (Sb.made (World.grownBy_alloc _ _ _)),by simp;omega,(hb0.ext hx).alloc _,h0.alloc _,h1.alloc _,h2.alloc _,hm⟩
theorem step_any {H:Nat→Prop} {w:World} {O:Nat} {d:OD} (h:OvAt H w O d) (hH:∀ b,H b→b<w.heap.size) (hn:d.us.length≤1000000) {k:ByteArray} (hk:k.size≤maxLen) {sv:SV} (hsv:SVok w (OvF H w O d) sv) :
  Calls Tryz.prog 35 #[.pointer (some ⟨O,0,none⟩),.string k,sv.val] w (StepPost H O d k sv w):=by
 obtain ⟨i0,hi,hz0,hz1,hz2⟩:=info_parts Tryz.infoFn
 have hmm:=@run_makeMap Tryz.prog
 have qmn:∀ (w:World) (r:Option Nat),(binOp .eql 26 (.map r) (.map none)).run Tryz.prog w=.ok (.bool r.isNone) w:=fun w r=>run_eql_map_nil w _ _ _ r Tryz.underlying26
 have c1:w.cell? ⟨O,1,none⟩=some (.map d.mb):=h.blk.cell 1
 have f1:=h.blk.frozen 1
 have lO:=h.blk.lt
 have hrl:∀ i,d.s.row=some i→i<w.heap.size:=fun i hi=>h.row_lt hi
 have HAT:=Lib.hid h
 have HHH:=Lib.hid hH
 have HSV:=Lib.hid hsv
 have HRL:=Lib.hid hrl
 clear h hH hsv hrl
 obtain ⟨has,v,sl,so⟩:=sv
 show Calls _ _ #[_,_,.agg #[.bool has,.int .i64 v.kind,.bool v.b,.int .i64 v.i,.string v.t,.slice sl.a v.l.length sl.c,.slice so.a v.ok.length so.c]] _ _
 have l1:O<w.heap.size+1:=by omega
 have l2:O<w.heap.size+1+1:=by omega
 go_enter Tryz.func35,Tryz.ntmps35
 go_upto_if 12 with fail
 go_cut [] (fun wc=>∃ b,StepMid H w O d k ⟨has,v,sl,so⟩ b wc)
 case first=>
  obtain ⟨mb,hmb⟩:∃ mb,d.mb=mb:=⟨_,rfl⟩
  rw [hmb] at c1 ⊢
  have HMB:=Lib.hid hmb
  clear hmb
  rcases mb with _ | b
  ·go_wp2_with fail
   generalize hW0:World.alloc _ _=W0
   obtain ⟨hs0,hz0,hbO,hb0,hb1,hb2,hown⟩:=step_made HAT.out.blk W0 hW0
   clear hW0
   go_meet
   have hat:=HAT.out.made HMB.out (b:=w.heap.size+1+1+1) (by omega) HHH.out hs0 hbO hown
   refine ⟨_,hat,hs0.mono fun i _ h=>.inl h,.inr (by omega),hz0,hb0,hb1,hb2,?_⟩
   refine (HSV.out.agree (fun i hi=>hs0.block i hi.1 fun e=>hi.2.1 (.inl e))).mono fun i hi=>⟨Nat.lt_of_lt_of_le hi.1 hs0.size,fun e=>?_,hi.2.2⟩
   rcases e with e | e | e
   ·exact hi.2.1 (.inl e)
   ·have e:some (w.heap.size+1+1+1)=some i:=e
    injection e with e
    have:=hi.1;omega
   exact hi.2.1 (.inr (.inr e))
  go_wp2_with fail
  generalize hW0:World.alloc _ _=W0
  obtain ⟨hx0,hz0',hb0,hb1,hb2⟩:=three_blocks w _ _ _ _ _ _ W0 hW0
  clear hW0
  go_meet
  have hat:=HAT.out.ext hx0
  have hd:d={ d with mb:=some b }:=by rw [←HMB.out]
  refine ⟨b,by rw [←hd];exact hat,hx0.sb _,.inl HMB.out,by omega,hb0,hb1,hb2,?_⟩
  rw [←hd]
  exact (HSV.out.agree (hx0.agree fun b hb=>hb.1)).mono fun i hi=>⟨Nat.lt_of_lt_of_le hi.1 hx0.size,hi.2⟩
 obtain ⟨b,hM⟩:=hcut
 have hlk:∀ W,Ext wc W→(Instr.lookup 26 (.map (some b)) (.string k) true).run Tryz.prog W=.ok (.tuple #[(hadA d.C k).val,.bool (getA d.C k).isSome]) W:=fun W hW=>
  look_ov (hM.at_.ext hW).map hk
 obtain ⟨o,ho⟩:∃ o,hadA d.C k=o:=⟨_,rfl⟩
 obtain ⟨g,hg⟩:∃ g,(getA d.C k).isSome=g:=⟨_,rfl⟩
 rw [ho,hg] at hlk
 obtain ⟨oh,ov,osl,oso⟩:=o
 have HO:=Lib.hid ho
 have HG:=Lib.hid hg
 have lO3:O<wc.heap.size:=hM.at_.blk.lt
 have hbig:=hM.big
 have HM:=Lib.hid hM
 have HSS:=Lib.hid (show ∀ W,Ext wc W→W.cell? ⟨w.heap.size,0,none⟩=some (.pointer (some ⟨O,0,none⟩))∧W.cell? ⟨O,1,none⟩=some (.map (some b))∧W.cell? ⟨w.heap.size+1,0,none⟩=some (.string k)∧
   (Instr.lookup 26 (.map (some b)) (.string k) true).run Tryz.prog W=.ok (.tuple #[.agg #[.bool oh,.int .i64 ov.kind,.bool ov.b,.int .i64 ov.i,.string ov.t,.slice osl.a ov.l.length osl.c,.slice oso.a ov.ok.length oso.c],.bool g]) W from
  fun W hW=>⟨(hM.bo.ext hW).cell 0,((hM.at_.ext hW).blk).cell 1,(hM.bk.ext hW).cell 0,hlk W hW⟩)
 clear hM hlk ho hg c1 f1 l1 l2
 go_wp2_with fail
 refine wp_meetO (α:=Nat × Nat) (fun w' x=>Ext wc w'∧(wc.heap.size≤x.1∧x.1<w'.heap.size)∧(wc.heap.size≤x.2∧x.2<w'.heap.size)∧Blk w' x.1 85 #[.bool oh,.int .i64 ov.kind,.bool ov.b,.int .i64 ov.i,.string ov.t,.slice osl.a ov.l.length osl.c,.slice oso.a ov.ok.length oso.c]∧Blk w' x.2 4 #[.bool g]) [17,18,19,20,21,22,23,24,25] (fun x=>[(6,.pointer (some ⟨x.1,0,none⟩)),(7,.pointer (some ⟨x.2,0,none⟩))]) ?h1 ?h2
 case h1=>
  refine wp_region_held_drew (S:=(fun w'=>Ext wc w')) (by kernel_rfl) (((Ext.refl wc).drew)) (fun hHeld=>?_)
  refine heldT 0 (some 18) HSS hHeld ?_
  refine heldT 1 (some 19) HSS hHeld ?_
  refine heldT 2 (some 20) HSS hHeld ?_
  refine heldT 3 (some 21) HSS hHeld ?_
  refine heldT 4 (some 22) HSS hHeld ?_
  refine heldT 5 (some 23) HSS hHeld ?_
  refine heldT 6 (some 17) HSS hHeld ?_
  refine heldT 7 (some 24) HSS hHeld ?_
  refine heldT 8 (some 25) HSS hHeld ?_
  refine held_two (i:=9) (j:=10) (by kernel_rfl) rfl rfl (by rfl) (by rfl) (fun K hK=>?_) (fun K hK=>?_)
  ·go_simp
   skip
   refine hK.out _ _ ((by first|exact (((Ext.refl _).drew).alloc _ _).alloc _ _|exact ((Ext.refl _).drew).alloc _ _)) (fun hHeld=>?_)
   clear hK K
   try simp only [Act.put,List.setIfInBounds_toArray,List.set_cons_zero,List.set_cons_succ]
   refine held_call (i:=10) (by kernel_rfl) rfl (by rfl) (fun K hK=>?_)
   go_simp
   skip
   refine hK.out _ _ ((by first|exact (((Ext.refl _).drew).alloc _ _).alloc _ _|exact ((Ext.refl _).drew).alloc _ _)) (fun hHeld=>?_)
   clear hK K
   try simp only [Act.put,List.setIfInBounds_toArray,List.set_cons_zero,List.set_cons_succ]
   refine held_call (i:=11) (by kernel_rfl) rfl (by rfl) (fun K hK=>?_)
   go_simp
   skip
   refine hK.out _ _ ((by first|exact (((Ext.refl _).drew).alloc _ _).alloc _ _|exact (((Ext.refl _).alloc _ _).alloc _ _).drew)) (fun hHeld=>?_)
   clear hK K
   try simp only [Act.put,List.setIfInBounds_toArray,List.set_cons_zero,List.set_cons_succ]
   refine held_call (i:=12) (by kernel_rfl) rfl (by rfl) (fun K hK=>?_)
   go_simp
   skip
   refine hK.out _ _ ((by first|exact (((Ext.refl _).drew).alloc _ _).alloc _ _|exact (((Ext.refl _).alloc _ _).alloc _ _).drew)) (fun hHeld=>?_)
   clear hK K
   try simp only [Act.put,List.setIfInBounds_toArray,List.set_cons_zero,List.set_cons_succ]
   refine wpAnyH_done (by kernel_rfl) ?_ _
   generalize hWm:World.drew _=wm
   obtain ⟨hxm,hzm,hb1,hb2⟩:=two_drew wc _ _ _ _ wm hWm
   refine onlyO_mk ⟨(wc.heap.size,wc.heap.size+1),⟨hxm,⟨Nat.le_refl _,by show wc.heap.size<_;omega⟩,⟨Nat.le_succ _,by show wc.heap.size+1<_;omega⟩,hb1,hb2⟩,by kernel_rfl,?_⟩
   simp only [putO,List.map_cons,List.map_nil,List.cons_append,List.nil_append,List.setIfInBounds_toArray,List.set_cons_zero,List.set_cons_succ]
   kernel_rfl
  go_simp
  skip
  refine hK.out _ _ ((by first|exact (((Ext.refl _).drew).alloc _ _).alloc _ _|exact ((Ext.refl _).drew).alloc _ _)) (fun hHeld=>?_)
  clear hK K
  try simp only [Act.put,List.setIfInBounds_toArray,List.set_cons_zero,List.set_cons_succ]
  refine held_call (i:=9) (by kernel_rfl) rfl (by rfl) (fun K hK=>?_)
  go_simp
  skip
  refine hK.out _ _ ((by first|exact (((Ext.refl _).drew).alloc _ _).alloc _ _|exact ((Ext.refl _).drew).alloc _ _)) (fun hHeld=>?_)
  clear hK K
  try simp only [Act.put,List.setIfInBounds_toArray,List.set_cons_zero,List.set_cons_succ]
  refine held_call (i:=11) (by kernel_rfl) rfl (by rfl) (fun K hK=>?_)
  go_simp
  skip
  refine hK.out _ _ ((by first|exact (((Ext.refl _).drew).alloc _ _).alloc _ _|exact (((Ext.refl _).alloc _ _).alloc _ _).drew)) (fun hHeld=>?_)
  clear hK K
  try simp only [Act.put,List.setIfInBounds_toArray,List.set_cons_zero,List.set_cons_succ]
  refine held_call (i:=12) (by kernel_rfl) rfl (by rfl) (fun K hK=>?_)
  go_simp
  skip
  refine hK.out _ _ ((by first|exact (((Ext.refl _).drew).alloc _ _).alloc _ _|exact (((Ext.refl _).alloc _ _).alloc _ _).drew)) (fun hHeld=>?_)
  clear hK K
  try simp only [Act.put,List.setIfInBounds_toArray,List.set_cons_zero,List.set_cons_succ]
  refine wpAnyH_done (by kernel_rfl) ?_ _
  generalize hWm:World.drew _=wm
  obtain ⟨hxm,hzm,hb1,hb2⟩:=two_drew wc _ _ _ _ wm hWm
  refine onlyO_mk ⟨(wc.heap.size+1,wc.heap.size),⟨hxm,⟨Nat.le_succ _,by show wc.heap.size+1<_;omega⟩,⟨Nat.le_refl _,by show wc.heap.size<_;omega⟩,hb2,hb1⟩,by kernel_rfl,?_⟩
  simp only [putO,List.map_cons,List.map_nil,List.cons_append,List.nil_append,List.setIfInBounds_toArray,List.set_cons_zero,List.set_cons_succ]
  kernel_rfl
 rintro wm ⟨bd,bw⟩ uu ⟨hxm,hd1,hw1,hbd,hbw⟩
 simp only [putO,List.map_cons,List.map_nil,List.cons_append,List.nil_append,List.setIfInBounds_toArray,List.set_cons_zero,List.set_cons_succ]
 dsimp only at hd1 hw1 hbd hbw
 have hbm:=HM.out.at_.blk.ext hxm
 have c2:wm.cell? ⟨O,2,none⟩=some (.slice d.s.a d.us.length d.s.c):=hbm.cell 2
 have f2:=hbm.frozen 2
 have lOm:=hbm.lt
 have hob:=HM.out.bo.ext hxm
 have c3:wm.cell? ⟨w.heap.size,0,none⟩=some (.pointer (some ⟨O,0,none⟩)):=hob.cell 0
 have l3:=hob.lt
 obtain ⟨xs,hl,hown,hun⟩:=HM.out.at_.row
 have HL:=Lib.hid (show xs.length=d.us.length from hl)
 have HUN:=Lib.hid hun
 have HOX:=Lib.hid (show ∀ W,Ext wm W→W.ownsRow 0 1 1 (.slice d.s.a d.us.length d.s.c) d.us.length xs from fun W hW=>own_agree hown ((hxm.trans hW).agree fun b (hb:b<wc.heap.size)=>hb) fun b hb=>(own_row hown hb).2)
 have hrO:d.s.row≠some O:=HM.out.at_.ne.2.1
 have hr3:d.s.row≠some w.heap.size:=fun e=>by have:=HRL.out _ e;omega
 have hone:∀ u∈[undoC bw bd w.heap.size (w.heap.size+1)],u.oneCell'=true:=by simp [Value.oneCell']
 have h63:d.us.length+1≤maxLen:=by unfold maxLen;omega
 have hby:(d.us.length+1)*8≤140737488355328:=by omega
 have HXM:=Lib.hid hxm
 have HBD:=Lib.hid hbd
 have HBW:=Lib.hid hbw
 have HW1:=Lib.hid hw1
 have HD1:=Lib.hid hd1
 clear hbd hbw hw1 hd1 hbm hob hl hun hown hxm HSS
 go_wp2_with fail
 refine wp_meetO (α:=Sl × World × World) (fun w' x=>Ext wm x.2.1∧x.2.2.ownsRow 0 1 1 (.slice x.1.a (d.us.length+1) x.1.c) (d.us.length+1) (xs++[undoC bw bd w.heap.size (w.heap.size+1)])∧Wr x.2.1 x.2.2 d.s.row∧(x.1.a=d.s.a∨x.1.a=some ⟨x.2.1.heap.size,0,none⟩∧Wr x.2.1 x.2.2 none)∧w'=x.2.2.setCell ⟨O,2,none⟩ (.slice x.1.a (d.us.length+1) x.1.c)) [26,27,28,29,30,31,32,33,34,35] (fun _=>[]) ?g1 ?g2
 case g1=>
  go_region_law (refine step_append_x _ rfl (.tmp 30) (.tmp 32) 27 rfl 0 1 i0 _ 1 8 Tryz.underlying27 hi hz0 hz1 hz2 rfl (by decide) d.s d.us.length xs (by rfl) (HOX.out _ (by first | exact ((Ext.refl wm).drew).alloc _ _ | exact ((Ext.refl wm).alloc _ _).drew)) (fun b=>b=wm.heap.size) ⟨some ⟨wm.heap.size,0,none⟩,1⟩ 1 [undoC bw bd w.heap.size (w.heap.size+1)] (by rfl) (Rd.block (Blk.new _ _ _) (by decide) rfl) hone h63 hby (Nat.zero_le _) ?_;intro s5 w5 hown5 hwr5 hs5;have hq5:=hwr5.cell0 (w:=wm) (o:=2) (by first | exact ((Ext.refl wm).drew).alloc _ _ | exact ((Ext.refl wm).alloc _ _).drew) hrO lOm;have cq5:=hq5.1.trans c2;have lq5:=hq5.2;have hp5:=hwr5.cell0 (w:=wm) (o:=0) (by first | exact ((Ext.refl wm).drew).alloc _ _ | exact ((Ext.refl wm).alloc _ _).drew) hr3 l3;have cp5:=hp5.1.trans c3;have f5:w5.frozen? ⟨O,2,none⟩=false:=(hwr5.fz _ _).trans (((by first | exact ((Ext.refl wm).drew).alloc _ _ | exact ((Ext.refl wm).alloc _ _).drew:Ext wm _).frozen (o:=2) lOm).trans f2);have HO5:=Lib.hid hown5;have HW5:=Lib.hid hwr5;have HS5:=Lib.hid hs5;clear hown5 hwr5 hs5 hq5 hp5)
  all_goals
   refine onlyO_mk ⟨(s5,_,w5),⟨by first | exact ((Ext.refl wm).drew).alloc _ _ | exact ((Ext.refl wm).alloc _ _).drew,HO5.out,HW5.out,HS5.out,rfl⟩,by kernel_rfl,?_⟩
   simp only [putO,List.map_cons,List.map_nil,List.append_nil,List.cons_append,List.nil_append,List.setIfInBounds_toArray,List.set_cons_zero,List.set_cons_succ]
   kernel_rfl
 rintro w6 ⟨s5,W5,w5⟩ vv ⟨hx5,ho5,hw5,hs5,rfl⟩
 simp only [putO,List.map_cons,List.map_nil,List.append_nil,List.cons_append,List.nil_append,List.setIfInBounds_toArray,List.set_cons_zero,List.set_cons_succ]
 dsimp only at hx5 ho5 hw5 hs5
 have hcm:Ext wc W5:=HXM.out.trans hx5
 have hsb6:Sb (fun c=>c=O∨d.s.row=some c) wc (w5.setCell ⟨O,2,none⟩ (.slice s5.a (d.us.length+1) s5.c)):=
  ((hcm.sb _).trans ⟨hw5.grown.os,hw5.grown.tape,hw5.grown.output,hw5.grown.size,fun i hi hn=>hw5.grown.block i hi fun e=>hn (.inr e.symm)⟩).trans ((Sb.refl _ w5).set (p:=⟨O,2,none⟩) (.inr (.inl rfl)) _)
 have hbm5:Blk w5 O 29 #[rootV d.T,.map (some b),.slice d.s.a d.us.length d.s.c]:=(hw5.agree (F:=fun c=>c=O) (fun i hi=>by rw [hi];exact Nat.lt_of_lt_of_le lO3 hcm.size) (fun i hi e=>hrO (by rw [hi,e])) O rfl).trans (HM.out.at_.blk.ext hcm)
 have hb6:=hbm5.set_ 2 (.slice s5.a (d.us.length+1) s5.c)
 have hnO:¬O=b:=fun e=>HM.out.at_.ne.1 (by rw [e])
 have n0:=OvMap.ne HM.out.at_.map HM.out.bo
 have n1:=OvMap.ne HM.out.at_.map HM.out.bk
 have n2:=OvMap.ne HM.out.at_.map HM.out.bs
 have k0:=hsb6.blk HM.out.bo (fun e=>by
  rcases e with e | e
  ·omega
  have:=HRL.out _ e;omega)
 have k1:=hsb6.blk HM.out.bk (fun e=>by
  rcases e with e | e
  ·omega
  have:=HRL.out _ e;omega)
 have k2:=hsb6.blk HM.out.bs (fun e=>by
  rcases e with e | e
  ·omega
  have:=HRL.out _ e;omega)
 have hmap6:OvMap (w5.setCell ⟨O,2,none⟩ (.slice s5.a (d.us.length+1) s5.c)) (some b) d.C:=HM.out.at_.map.heap fun i hi=>by
  injection hi with hi
  subst hi
  exact hsb6.block b (HM.out.at_.map.lt rfl) fun e=>by
   rcases e with e | e
   ·exact hnO e.symm
   exact HM.out.at_.ne.2.2 b rfl e
 have HX5:=Lib.hid hx5
 have HO5:=Lib.hid ho5
 have HW5:=Lib.hid hw5
 have HS5:=Lib.hid hs5
 obtain ⟨W6,hW6⟩:∃ W6,w5.setCell ⟨O,2,none⟩ (.slice s5.a (d.us.length+1) s5.c)=W6:=⟨_,rfl⟩
 rw [hW6] at hb6 k0 k1 k2 hmap6 ⊢
 have HW6:=Lib.hid hW6
 have HMAP:=Lib.hid hmap6
 have HSS:=Lib.hid (show ∀ W,Sb (fun c=>c=b) W6 W→W.cell? ⟨w.heap.size,0,none⟩=some (.pointer (some ⟨O,0,none⟩))∧W.cell? ⟨O,1,none⟩=some (.map (some b))∧W.cell? ⟨w.heap.size+1,0,none⟩=some (.string k)∧W.cell? ⟨w.heap.size+1+1,0,none⟩=some (.bool has)∧W.cell? ⟨w.heap.size+1+1,1,none⟩=some (.int .i64 v.kind)∧W.cell? ⟨w.heap.size+1+1,2,none⟩=some (.bool v.b)∧W.cell? ⟨w.heap.size+1+1,3,none⟩=some (.int .i64 v.i)∧W.cell? ⟨w.heap.size+1+1,4,none⟩=some (.string v.t)∧W.cell? ⟨w.heap.size+1+1,5,none⟩=some (.slice sl.a v.l.length sl.c)∧W.cell? ⟨w.heap.size+1+1,6,none⟩=some (.slice so.a v.ok.length so.c) from
  fun W hW=>⟨(hW.blk k0 n0).cell 0,(hW.blk hb6 hnO).cell 1,(hW.blk k1 n1).cell 0,(hW.blk k2 n2).cell 0,(hW.blk k2 n2).cell 1,(hW.blk k2 n2).cell 2,(hW.blk k2 n2).cell 3,(hW.blk k2 n2).cell 4,(hW.blk k2 n2).cell 5,(hW.blk k2 n2).cell 6⟩)
 have hCs:d.C.length<maxLen:=by have:=HAT.out.few;unfold maxLen;omega
 clear hcm hsb6 hbm5 hb6 n0 n1 n2 k0 k1 k2 hmap6 hx5 ho5 hw5 hs5 hW6 c2 f2 lOm c3 l3 hone h63 hby
 go_wp2_with fail
 refine wp_region_held_drew (S:=(fun w'=>Sb (fun c=>c=b) W6 w')) (by kernel_rfl) (((Sb.refl _ W6).drew)) (fun hHeld=>?_)
 refine heldT 0 (some 36) HSS hHeld ?_
 refine heldT 1 (some 37) HSS hHeld ?_
 refine heldT 2 (some 38) HSS hHeld ?_
 refine heldT 3 (some 39) HSS hHeld ?_
 refine heldT 4 (some 40) HSS hHeld ?_
 refine heldT 5 (some 41) HSS hHeld ?_
 refine held_call (i:=6) (by kernel_rfl) rfl (by rfl) (fun K hK=>?_)
 skip
 (refine oper_putA (b:=b) (C:=d.C) (k:=k) (s:=⟨has,v,sl,so⟩) rfl rfl rfl rfl (HMAP.out.heap fun _ _=>rfl) hk hCs HAT.out.sorted ?_;intro w7 hown7 hsb7)
 refine hK.out _ _ (hHeld.trans hsb7) (fun hHeld=>?_)
 clear hK K
 try simp only [Act.put,List.setIfInBounds_toArray,List.set_cons_zero,List.set_cons_succ]
 refine wpAnyH_done (by kernel_rfl) ?_ _
 have h7:Sb (fun c=>c=b) (w5.setCell ⟨O,2,none⟩ (.slice s5.a (d.us.length+1) s5.c)) w7:=by rw [HW6.out];exact hHeld
 have hend:=step_end HM.out lO HRL.out HHH.out hk HXM.out HW1.out HD1.out (by rw [HO.out];exact HBD.out) (by rw [HG.out];exact HBW.out) HX5.out HL.out HUN.out HO5.out HW5.out HS5.out hown7 h7
 go_end0
 exact ⟨⟨_,rfl⟩,_,_,hend⟩
abbrev Nw (w w':World):Prop:=Sb (fun _=>False) w w'
theorem Nw.any {w w':World} (h:Nw w w') (H:Nat→Prop):Sb H w w':=h.mono fun _ _ e=>e.elim
theorem Nw.blk {w w':World} (h:Nw w w') {g:Nat} {t:TypeId} {cs:Array Value} (hb:Blk w g t cs):Blk w' g t cs:=Sb.blk h hb fun e=>e
theorem Nw.agree {w w':World} (h:Nw w w') {F:Nat→Prop} (hF:∀ b,F b→b<w.heap.size):Agree F w w':=fun b hb=>h.block b (hF b hb) fun e=>e
theorem Nw.of {w w':World} (h:Ext w w'):Nw w w':=h.sb _
section
variable {H : Nat → Prop} {w w' : World} {O : Nat} {d d' : OD}
theorem OvAt.nw (h:OvAt H w O d) (k:Nw w w'):OvAt H w' O d:=h.sb k fun _ hb=>hb.elim
theorem OvTo.after {w0:World} (h:OvTo H w O d d' w') (k:Nw w0 w):OvTo H w0 O d d' w':=
 ⟨h.at_,(k.any _).trans h.sb,fun b hb=>(h.new b hb).imp id fun hh=>Nat.le_trans k.size hh⟩
theorem OvTo.then (h:OvTo H w O d d' w') {w2:World} (k:Nw w' w2):OvTo H w O d d' w2:=⟨h.at_.nw k,h.sb.trans (k.any _),h.new⟩
def OD.step (d:OD) (k:ByteArray) (sv:SV) (mb:Option Nat) (s:Sl):OD:=⟨d.T,mb,s,d.us++[⟨k,getA d.C k⟩],d.Hs++[putA d.C k sv],putA d.C k sv⟩
end
def DelPostO (H:Nat→Prop) (O:Nat) (d:OD) (k:ByteArray) (w:World) (e:Ending) (w':World):Prop:=
 e=.returned (.bool (d.now k).isSome)∧(((d.now k).isSome=false∧Nw w w')∨((d.now k).isSome=true∧∃ mb s,OvTo H w O d (d.step k zeroSV mb s) w'))
theorem delete_ov {H:Nat→Prop} {w:World} {O:Nat} {d:OD} (h:OvAt H w O d) (hH:∀ b,H b→b<w.heap.size) (hn:d.us.length≤1000000) (hl:(entsT d.T).length≤1000000) {k:ByteArray} (hk:k.size≤maxLen) :
  Calls Tryz.prog 21 #[.pointer (some ⟨O,0,none⟩),.string k] w (DelPostO H O d k w):=by
 have hg:=get_ov h hl hk
 have hst:=fun W (hW:Ext w W)=>step_any (h.ext hW) (fun b hb=>Nat.lt_of_lt_of_le (hH b hb) hW.size) hn hk (sv:=zeroSV) ⟨rv_zeroO _ _,fun _=>rfl⟩
 unfold DelPostO
 generalize d.now k=og at *
 have HST:=Lib.hid hst
 have HG:=Lib.hid hg
 clear h hH hst hg
 go_enter Tryz.func21,Tryz.ntmps21
 go_wp2_with fail
 refine HG.out.mono ?_
 rintro e w1 ⟨sl,so,rfl,hx1,-⟩
 have HX1:=Lib.hid hx1
 clear hx1
 cases og with
 | none=>
   go_wp2_with fail
   go_ret
   exact ⟨rfl,.inl ⟨rfl,Nw.of (HX1.out.alloc _ _)⟩⟩
 | some v=>
   go_wp2_with fail
   have hx2:=HX1.out.alloc (w:=w1) #[.int .i64 v.kind,.bool v.b,.int .i64 v.i,.string v.t,.slice sl.a v.l.length sl.c,.slice so.a v.ok.length so.c] 34
   refine (HST.out _ hx2).mono ?_
   rintro e w3 ⟨⟨r,rfl⟩,mb,s,hto⟩
   have HTO:=Lib.hid (hto.after (Nw.of hx2))
   clear hto hx2
   go_wp2_with fail
   go_ret
   exact ⟨rfl,.inr ⟨rfl,mb,s,HTO.out⟩⟩
theorem put_ov_key {w:World} {O:Nat} {k:ByteArray} {v:Val} {sl so:Sl} {c:Int} (hmay:∀ W,Nw w W→Calls Tryz.prog 33 #[.string k] W fun e w'=>e=.returned (.int .i64 c)∧Nw W w') (hc:c≠0) :
  Calls Tryz.prog 10 #[.pointer (some ⟨O,0,none⟩),.string k,aggV v sl so] w fun e w'=>e=.returned (.int .i64 8)∧Nw w w':=by
 have HM:=Lib.hid hmay
 have g0:(c != 0)=true:=bne_iff_ne.2 hc
 clear hmay hc
 go_enter Tryz.func10,Tryz.ntmps10
 go_wp2_with fail
 have hx0:Ext w (w.alloc (.cells #[.int .i64 v.kind,.bool v.b,.int .i64 v.i,.string v.t,.slice sl.a v.l.length sl.c,.slice so.a v.ok.length so.c] 34)):=(Ext.refl w).alloc _ _
 refine (HM.out _ (Nw.of hx0)).mono ?_
 rintro e w1 ⟨rfl,hx1⟩
 have HX1:=Lib.hid ((Nw.of hx0).trans hx1)
 clear hx0 hx1
 go_wp2_with fail
 go_ret
 exact ⟨rfl,HX1.out⟩
/-- A value does not fit: nothing is put. -/
theorem put_ov_no {w:World} {O:Nat} {k:ByteArray} {v:Val} {sl so:Sl} {c:Int} (hmay:∀ W,Nw w W→Calls Tryz.prog 33 #[.string k] W fun e w'=>e=.returned (.int .i64 0)∧Nw W w')
  (hfit:∀ W,Nw w W→Calls Tryz.prog 34 #[aggV v sl so] W fun e w'=>e=.returned (.int .i64 c)∧Nw W w') (hc:c≠0) :
  Calls Tryz.prog 10 #[.pointer (some ⟨O,0,none⟩),.string k,aggV v sl so] w fun e w'=>e=.returned (.int .i64 c)∧Nw w w':=by
 have HM:=Lib.hid hmay
 have HF:=Lib.hid hfit
 have g0:(c != 0)=true:=bne_iff_ne.2 hc
 clear hmay hc hfit
 go_enter Tryz.func10,Tryz.ntmps10
 go_wp2_with fail
 have hx0:Ext w (w.alloc (.cells #[.int .i64 v.kind,.bool v.b,.int .i64 v.i,.string v.t,.slice sl.a v.l.length sl.c,.slice so.a v.ok.length so.c] 34)):=(Ext.refl w).alloc _ _
 have hb0:=Blk.new w 34 #[.int .i64 v.kind,.bool v.b,.int .i64 v.i,.string v.t,.slice sl.a v.l.length sl.c,.slice so.a v.ok.length so.c]
 refine (HM.out _ (Nw.of hx0)).mono ?_
 rintro e w1 ⟨rfl,hx1⟩
 obtain ⟨q0,q1,q2,q3,q4,q5⟩:=(hx1.blk hb0).c6
 have hx01:=(Nw.of hx0).trans hx1
 have HX1:=Lib.hid hx01
 clear hx0 hx1 hx01 hb0
 go_wp2_with fail
 refine (HF.out _ HX1.out).mono ?_
 rintro e w2 ⟨rfl,hx2⟩
 have HX2:=Lib.hid (HX1.out.trans hx2)
 clear hx2 q0 q1 q2 q3 q4 q5
 go_wp2_with fail
 go_ret
 exact ⟨rfl,HX2.out⟩
def PutPostO (H:Nat→Prop) (O:Nat) (d:OD) (k:ByteArray) (v:Val) (w:World) (e:Ending) (w':World):Prop:=
 e=.returned (.int .i64 0)∧∃ sl so mb s,OvTo H w O d (d.step k ⟨true,v,sl,so⟩ mb s) w'
theorem put_ov {H:Nat→Prop} {w:World} {O:Nat} {d:OD} (h:OvAt H w O d) (hH:∀ b,H b→b<w.heap.size) (hn:d.us.length≤1000000) {k:ByteArray} (hk:k.size≤maxLen) {v:Val} {sl so:Sl} (hv:RV w (Lt w.heap.size) v sl so)
  (hmay:∀ W,Nw w W→Calls Tryz.prog 33 #[.string k] W fun e w'=>e=.returned (.int .i64 0)∧Nw W w')
  (hfit:∀ W,Nw w W→Calls Tryz.prog 34 #[aggV v sl so] W fun e w'=>e=.returned (.int .i64 0)∧Nw W w') :
  Calls Tryz.prog 10 #[.pointer (some ⟨O,0,none⟩),.string k,aggV v sl so] w (PutPostO H O d k v w):=by
 have hst:=fun W (hW:Nw w W) sv hsv=>step_any (h.nw hW) (fun b hb=>Nat.lt_of_lt_of_le (hH b hb) hW.size) hn hk (sv:=sv) hsv
 have hcp:=fun W (hW:Nw w W)=>copy_any _ v (Nat.le_refl _) W sl so ((hv.agree (hW.agree fun b hb=>hb)).mono fun b hb=>Nat.lt_of_lt_of_le hb hW.size)
 have hown:∀ b,OvB O d b→b<w.heap.size:=fun b hb=>h.own_lt hb
 have HM:=Lib.hid hmay
 have HF:=Lib.hid hfit
 have HST:=Lib.hid hst
 have HCP:=Lib.hid hcp
 have HOWN:=Lib.hid hown
 have HHH:=Lib.hid hH
 clear hmay hfit h hv hst hcp hown hH
 go_enter Tryz.func10,Tryz.ntmps10
 go_wp2_with fail
 have hx0:Ext w (w.alloc (.cells #[.int .i64 v.kind,.bool v.b,.int .i64 v.i,.string v.t,.slice sl.a v.l.length sl.c,.slice so.a v.ok.length so.c] 34)):=(Ext.refl w).alloc _ _
 have hb0:=Blk.new w 34 #[.int .i64 v.kind,.bool v.b,.int .i64 v.i,.string v.t,.slice sl.a v.l.length sl.c,.slice so.a v.ok.length so.c]
 refine (HM.out _ (Nw.of hx0)).mono ?_
 rintro e w1 ⟨rfl,hx1⟩
 have hb1:=hx1.blk hb0
 obtain ⟨q0,q1,q2,q3,q4,q5⟩:=hb1.c6
 have hx01:=(Nw.of hx0).trans hx1
 have HX1:=Lib.hid hx01
 have HB1:=Lib.hid hb1
 clear hx0 hx1 hx01 hb0 hb1 HM
 go_wp2_with fail
 refine (HF.out _ HX1.out).mono ?_
 rintro e w2 ⟨rfl,hx2⟩
 have hb2:=hx2.blk HB1.out
 have hx02:=HX1.out.trans hx2
 have HX2:=Lib.hid hx02
 clear hx2 q0 q1 q2 q3 q4 q5 HB1 HF
 obtain ⟨q0,q1,q2,q3,q4,q5⟩:=hb2.c6
 clear hb2 hx02
 go_wp2_with fail
 refine (HCP.out _ HX2.out).mono ?_
 rintro e w3 ⟨sl',so',rfl,hx3,hrv⟩
 have hx03:=HX2.out.trans (Nw.of hx3)
 have hok:SVok w3 (OvF H w3 O d) ⟨true,v,sl',so'⟩:=⟨hrv.mono fun i hi=>⟨hi.2,fun e=>by have:=HOWN.out i e;have:=HX2.out.size;have:=hi.1;omega,fun e=>by have:=HHH.out i e;have:=HX2.out.size;have:=hi.1;omega⟩,fun e=>by cases e⟩
 have hcall:=HST.out w3 hx03 _ hok
 have HX3:=Lib.hid hx03
 have HCALL:=Lib.hid hcall
 clear hx3 hrv hx03 hok hcall q0 q1 q2 q3 q4 q5 HCP HST
 go_wp2_with fail
 refine HCALL.out.mono ?_
 rintro e w4 ⟨⟨r,rfl⟩,mb,s,hto⟩
 have HTO:=Lib.hid (hto.after HX3.out)
 clear hto
 go_wp2_with fail
 go_ret
 exact ⟨rfl,sl',so',mb,s,HTO.out⟩
end Go.Proofs.YtechahocffcbpaaGreatDoor
