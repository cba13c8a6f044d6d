/- What the theorem needs of the texts OvLay, FitI, FitL, KeysMay, OddV, MayV, DeepV, OwnS, OvLay2, LaidO, Bldr, Quo1, Runes, RangeP, RunS, LetR, Quo, QuoW, OwnV, OwnW, OwnM: no condition of its own. -/
import Derived.Shelf.SlIter.Nil
import Derived.Shelf.SortM.Plain
import Derived.Shelf.SortM.SortNone
import Derived.Shelf.Strconv.Itoa4
import Derived.Shelf.Unicode.ValidAny
import Derived.Shelf.Small.Wraps
import Derived.Lib.LaidU8
import Derived.Lib.ItoaLen
import Derived.Test.YtdiecmkpbadgjaaGreatDoorRows
import Derived.Shelf.Unicode.DecodeLastEight
import Derived.Shelf.Strings.MapAny
import Derived.Maps.OwnIn
import Derived.Test.YtdiecmkpbadgjaaGreatDoorPne
set_option linter.unusedVariables false
set_option linter.unusedSimpArgs false
set_option linter.unnecessarySimpa false
set_option maxRecDepth 100000
set_option maxHeartbeats 4000000
namespace Go.Proofs.YtdiecmkpbadgjaaGreatDoor
open Go.Proofs.Tryz
open Go.RowKit Go.Maps Go.Sort Go.Shelf
def Tryz.QgG:Go.Shelf.Ren:=⟨λ| 7=>133|10=>176|n=>n,λ| 23=>181|26=>9|3=>192|28=>189|0=>0|27=>188|33=>147|4=>4|n=>n,λ| n=>n⟩
theorem Tryz.Qtj:Go.Proofs.SlLaysZ.n7 prog Tryz.QgG:={
 mixed:=by kernel_rfl
 f7:=⟨Tryz.f133.name,oN,func133.trans (congrArg some kM)⟩
 f10:=⟨Tryz.f176.name,oN,func176.trans (congrArg some kM)⟩
 t0:=underlying0
 a0:=isAgg0
 z0:=sizeOf0
 v0:=zeroValue0
 t4:=underlying4
 a4:=isAgg4
 z4:=sizeOf4
 v4:=zeroValue4
 t23:=underlying181
 a23:=isAgg181
 z23:=sizeOf181
 v23:=zeroValue181
 t26:=underlying9
 a26:=isAgg9
 z26:=sizeOf9
 v26:=zeroValue9
 t27:=underlying188
 a27:=isAgg188
 z27:=sizeOf188
 v27:=zeroValue188
 t28:=underlying189
 a28:=isAgg189
 z28:=sizeOf189
 v28:=zeroValue189
 t33:=underlying147
 a33:=isAgg147
 z33:=sizeOf147
 v33:=zeroValue147 }
def Tryz.Qg0:Go.Shelf.Ren:=⟨λ| 6=>132|8=>174|9=>175|11=>200|13=>202|12=>201|23=>224|24=>225|14=>215|15=>216|16=>217|17=>218|18=>219|19=>220|20=>221|21=>222|22=>223|25=>236|26=>237|27=>238|28=>239|29=>240|30=>241|31=>258|n=>n,λ| 26=>9|28=>189|24=>186|0=>0|3=>3|37=>162|48=>268|50=>22|4=>4|40=>262|39=>261|45=>125|5=>5|9=>9|51=>281|55=>285|57=>298|58=>210|33=>147|n=>n,λ| n=>n⟩
theorem Tryz.Qqz:Go.Proofs.SlLaysZ.n6 prog Tryz.Qg0:={
 mixed:=by kernel_rfl
 f6:=⟨Tryz.f132.name,oN,func132.trans (congrArg some kM)⟩
 f8:=⟨Tryz.f174.name,oN,func174.trans (congrArg some kM)⟩
 f11:=⟨Tryz.f200.name,oN,func200.trans (congrArg some kM)⟩
 t0:=underlying0
 a0:=isAgg0
 z0:=sizeOf0
 v0:=zeroValue0
 t24:=underlying186
 a24:=isAgg186
 z24:=sizeOf186
 v24:=zeroValue186
 t26:=underlying9
 a26:=isAgg9
 z26:=sizeOf9
 v26:=zeroValue9
 t28:=underlying189
 a28:=isAgg189
 z28:=sizeOf189
 v28:=zeroValue189
 i26:=by kernel_rfl }
def Tryz.Qqy:Go.Shelf.Ren:=⟨λ| 6=>175|8=>202|9=>201|19=>224|20=>225|21=>215|22=>216|23=>217|24=>218|25=>219|26=>220|27=>221|28=>222|29=>223|36=>236|31=>237|32=>238|37=>239|38=>240|39=>241|41=>258|n=>n,λ| 27=>186|29=>9|3=>3|32=>162|26=>186|0=>0|44=>268|46=>22|4=>4|36=>262|35=>261|41=>125|5=>5|9=>9|53=>281|57=>285|63=>298|64=>210|n=>n,λ| n=>n⟩
theorem Tryz.Qsq:Go.Proofs.SlLaysM.n6 prog Tryz.Qqy:={
 mixed:=by kernel_rfl
 f6:=⟨Tryz.f175.name,oN,func175.trans (congrArg some kM)⟩
 f8:=func202.trans (congrArg some kM)
 f9:=⟨Tryz.f201.name,oN,func201.trans (congrArg some kM)⟩
 f19:=func224.trans (congrArg some kM)
 f20:=func225.trans (congrArg some kM)
 f21:=⟨Tryz.f215.name,oN,func215.trans (congrArg some kM)⟩
 f22:=⟨Tryz.f216.name,oN,func216.trans (congrArg some kM)⟩
 f23:=⟨Tryz.f217.name,oN,func217.trans (congrArg some kM)⟩
 f24:=⟨Tryz.f218.name,oN,func218.trans (congrArg some kM)⟩
 f25:=⟨Tryz.f219.name,oN,func219.trans (congrArg some kM)⟩
 f26:=⟨Tryz.f220.name,oN,func220.trans (congrArg some kM)⟩
 f27:=⟨Tryz.f221.name,oN,func221.trans (congrArg some kM)⟩
 f28:=⟨Tryz.f222.name,oN,func222.trans (congrArg some kM)⟩
 f29:=⟨Tryz.f223.name,oN,func223.trans (congrArg some kM)⟩
 f31:=func237.trans (congrArg some kM)
 f32:=func238.trans (congrArg some kM)
 f36:=⟨Tryz.f236.name,oN,func236.trans (congrArg some kM)⟩
 f37:=⟨Tryz.f239.name,oN,func239.trans (congrArg some kM)⟩
 f38:=⟨Tryz.f240.name,oN,func240.trans (congrArg some kM)⟩
 f39:=⟨Tryz.f241.name,oN,func241.trans (congrArg some kM)⟩
 f41:=⟨Tryz.f258.name,oN,func258.trans (congrArg some kM)⟩
 t0:=underlying0
 a0:=isAgg0
 z0:=sizeOf0
 v0:=zeroValue0
 t3:=underlying3
 a3:=isAgg3
 z3:=sizeOf3
 v3:=zeroValue3
 t4:=underlying4
 a4:=isAgg4
 z4:=sizeOf4
 v4:=zeroValue4
 t5:=underlying5
 a5:=isAgg5
 z5:=sizeOf5
 v5:=zeroValue5
 t9:=underlying9
 a9:=isAgg9
 z9:=sizeOf9
 v9:=zeroValue9
 t26:=underlying186
 a26:=isAgg186
 z26:=sizeOf186
 v26:=zeroValue186
 t27:=underlying186
 a27:=isAgg186
 z27:=sizeOf186
 v27:=zeroValue186
 t29:=underlying9
 a29:=isAgg9
 z29:=sizeOf9
 v29:=zeroValue9
 t32:=underlying162
 a32:=isAgg162
 z32:=sizeOf162
 v32:=zeroValue162
 t35:=underlying261
 a35:=isAgg261
 z35:=sizeOf261
 v35:=zeroValue261
 t36:=underlying262
 a36:=isAgg262
 z36:=sizeOf262
 v36:=zeroValue262
 t41:=underlying125
 a41:=isAgg125
 z41:=sizeOf125
 v41:=zeroValue125
 t44:=underlying268
 a44:=isAgg268
 z44:=sizeOf268
 v44:=zeroValue268
 t46:=underlying22
 a46:=isAgg22
 z46:=sizeOf22
 v46:=zeroValue22
 t53:=underlying281
 a53:=isAgg281
 z53:=sizeOf281
 v53:=zeroValue281
 t57:=underlying285
 a57:=isAgg285
 z57:=sizeOf285
 v57:=zeroValue285
 t63:=underlying298
 a63:=isAgg298
 z63:=sizeOf298
 v63:=zeroValue298
 t64:=underlying210
 a64:=isAgg210
 z64:=sizeOf210
 v64:=zeroValue210 }
def Tryz.QfR:Go.Shelf.Ren:=⟨λ| 99=>214|206=>235|n=>n,λ| 9=>9|4=>4|3=>3|n=>n,λ| n=>n⟩
theorem Tryz.QjR:Go.Proofs.Lays.n99 prog Tryz.QfR:={
 mixed:=by kernel_rfl
 f99:=func214.trans (congrArg some kM)
 f206:=func235.trans (congrArg some kM)
 t3:=underlying3
 a3:=isAgg3
 z3:=sizeOf3
 v3:=zeroValue3
 t4:=underlying4
 a4:=isAgg4
 z4:=sizeOf4
 v4:=zeroValue4
 t9:=underlying9
 a9:=isAgg9
 z9:=sizeOf9
 v9:=zeroValue9 }
def Tryz.QfQ:Go.Shelf.Ren:=⟨λ| 173=>248|246=>262|283=>268|284=>269|285=>270|286=>271|129=>225|317=>280|318=>281|319=>282|320=>283|337=>288|338=>289|n=>n,λ| 2=>2|3=>3|9=>9|4=>4|171=>311|0=>0|53=>22|37=>249|5=>5|173=>313|212=>328|51=>268|20=>20|213=>329|46=>162|232=>335|233=>336|n=>n,λ| 17=>3|18=>4|19=>5|n=>n⟩
theorem Tryz.QfB:Go.Proofs.LaysM.n173 prog Tryz.QfQ:={
 mixed:=by kernel_rfl
 f129:=func225.trans (congrArg some kM)
 f173:=func248.trans (congrArg some kM)
 f246:=func262.trans (congrArg some kM)
 f283:=func268.trans (congrArg some kM)
 f284:=func269.trans (congrArg some kM)
 f285:=func270.trans (congrArg some kM)
 f286:=func271.trans (congrArg some kM)
 f317:=func280.trans (congrArg some kM)
 f318:=func281.trans (congrArg some kM)
 f319:=func282.trans (congrArg some kM)
 f320:=func283.trans (congrArg some kM)
 f337:=func288.trans (congrArg some kM)
 f338:=func289.trans (congrArg some kM)
 t0:=underlying0
 a0:=isAgg0
 z0:=sizeOf0
 v0:=zeroValue0
 t2:=underlying2
 a2:=isAgg2
 z2:=sizeOf2
 v2:=zeroValue2
 t3:=underlying3
 a3:=isAgg3
 z3:=sizeOf3
 v3:=zeroValue3
 t4:=underlying4
 a4:=isAgg4
 z4:=sizeOf4
 v4:=zeroValue4
 t5:=underlying5
 a5:=isAgg5
 z5:=sizeOf5
 v5:=zeroValue5
 t9:=underlying9
 a9:=isAgg9
 z9:=sizeOf9
 v9:=zeroValue9
 t20:=underlying20
 a20:=isAgg20
 z20:=sizeOf20
 v20:=zeroValue20
 t37:=underlying249
 a37:=isAgg249
 z37:=sizeOf249
 v37:=zeroValue249
 t46:=underlying162
 a46:=isAgg162
 z46:=sizeOf162
 v46:=zeroValue162
 t51:=underlying268
 a51:=isAgg268
 z51:=sizeOf268
 v51:=zeroValue268
 t53:=underlying22
 a53:=isAgg22
 z53:=sizeOf22
 v53:=zeroValue22
 t171:=underlying311
 a171:=isAgg311
 z171:=sizeOf311
 v171:=zeroValue311
 t173:=underlying313
 a173:=isAgg313
 z173:=sizeOf313
 v173:=zeroValue313
 t212:=underlying328
 a212:=isAgg328
 z212:=sizeOf328
 v212:=zeroValue328
 t213:=underlying329
 a213:=isAgg329
 z213:=sizeOf329
 t232:=underlying335
 a232:=isAgg335
 z232:=sizeOf335
 v232:=zeroValue335
 t233:=underlying336
 a233:=isAgg336
 z233:=sizeOf336
 v233:=zeroValue336
 g17:=by kernel_rfl
 g18:=by kernel_rfl
 g19:=by kernel_rfl
 i0:=by kernel_rfl
 i2:=by kernel_rfl
 i3:=by kernel_rfl
 i4:=by kernel_rfl
 i5:=by kernel_rfl
 i9:=by kernel_rfl
 i20:=by kernel_rfl
 i37:=by kernel_rfl
 i46:=by kernel_rfl
 i51:=by kernel_rfl
 i53:=by kernel_rfl
 i171:=by kernel_rfl
 i173:=by kernel_rfl
 i212:=by kernel_rfl
 i232:=by kernel_rfl
 i233:=by kernel_rfl
 m17:=by kernel_rfl
 m18:=by kernel_rfl
 m19:=by kernel_rfl }
def Tryz.QjS:Go.Shelf.Ren:=⟨λ| 196=>242|259=>259|n=>n,λ| 9=>9|4=>4|3=>3|5=>5|12=>12|119=>301|0=>0|46=>162|139=>304|138=>303|53=>22|n=>n,λ| 3=>1|4=>2|n=>n⟩
theorem Tryz.QrD:Go.Proofs.Lays.n196 prog Tryz.QjS:={
 mixed:=by kernel_rfl
 f196:=func242.trans (congrArg some kM)
 f259:=func259.trans (congrArg some kM)
 t0:=underlying0
 a0:=isAgg0
 z0:=sizeOf0
 v0:=zeroValue0
 t3:=underlying3
 a3:=isAgg3
 z3:=sizeOf3
 v3:=zeroValue3
 t4:=underlying4
 a4:=isAgg4
 z4:=sizeOf4
 v4:=zeroValue4
 t5:=underlying5
 a5:=isAgg5
 z5:=sizeOf5
 v5:=zeroValue5
 t9:=underlying9
 a9:=isAgg9
 z9:=sizeOf9
 v9:=zeroValue9
 t12:=underlying12
 a12:=isAgg12
 z12:=sizeOf12
 v12:=zeroValue12
 t46:=underlying162
 a46:=isAgg162
 z46:=sizeOf162
 v46:=zeroValue162
 t53:=underlying22
 a53:=isAgg22
 z53:=sizeOf22
 v53:=zeroValue22
 t119:=underlying301
 a119:=isAgg301
 z119:=sizeOf301
 t138:=underlying303
 a138:=isAgg303
 z138:=sizeOf303
 v138:=zeroValue303
 t139:=underlying304
 a139:=isAgg304
 z139:=sizeOf304
 v139:=zeroValue304
 g3:=by kernel_rfl
 g4:=by kernel_rfl }
def Tryz.Qfj:Go.Shelf.Ren:=⟨λ| 121=>246|214=>261|n=>n,λ| 4=>4|9=>9|n=>n,λ| n=>n⟩
theorem Tryz.QiD:Go.Proofs.Lays.n121 prog Tryz.Qfj:={
 mixed:=by kernel_rfl
 f121:=func246.trans (congrArg some kM)
 f214:=func261.trans (congrArg some kM)
 t4:=underlying4
 a4:=isAgg4
 z4:=sizeOf4
 v4:=zeroValue4
 t9:=underlying9
 a9:=isAgg9
 z9:=sizeOf9
 v9:=zeroValue9 }
theorem Tryz.QmE(m:Nat):AnyZ.SortsIn prog Tryz.Qg0 Fence.wide m:=
 ⟨fun Z a0 cap ss W hH I N=>ez.2 (AnyM.slices_Sort_string Tryz.Qsq Z a0 cap ss W hH I N),
  λp cap W=>ez.2 (AnyM.slices_Sort_string_none Tryz.Qsq p cap W)⟩
theorem Tryz.Qhz(mb:Option Nat)(W:World):CallsIn Fence.wide 5 prog 133 #[.map mb] W λe w'=>e=.returned (.func (.func 176) #[] #[.pointer (some ⟨W,0,none⟩)])/\w'=W.alloc (.cells #[.map mb] 181):=
 AnyZ.keys_in Tryz.Qtj Fence.wide 5 trivial rfl mb W
theorem Tryz.Qer{H:Type}(b nn:Nat)(D0:DataW H)(R:Value->Option (DataW H × List MemPlace))(w:World)(N:w.ownsMap prog 9 R b nn D0)(a1:Maps.size D0<=maxLen)(I:Maps.size D0*16<=140737488355328) :
  CallsIn Fence.wide 5 prog 132 #[.func (.func 176) #[] #[.pointer (some ⟨w,0,none⟩)]] (w.alloc (.cells #[.map (some b)] 181)) λe w'=>∃(v:Value) (ss:List (List UInt8)),e=.returned v/\ss.Perm (strKeys D0)/\
   w'.ownsRow (w.alloc (.cells #[.map (some b)] 181)).heap.size 9 1 v ss.length ((ss.mergeSort (λx y=>decide (x<=y))).map encStr)/\(v=.slice none 0 0↔ss=[])/\Below (w.alloc (.cells #[.map (some b)] 181)).heap.size (w.alloc (.cells #[.map (some b)] 181)) w':=by
 have a2:=N.lt;have a0:SeqGives Fence.wide 2 prog 176 #[.pointer (some ⟨w,0,none⟩)] encStr (λss=>ss.Perm (strKeys D0)) (Maps.size D0) (w.alloc (.cells #[.map (some b)] 181)):=
  AnyZ.keys_gives (ρ:=Tryz.QgG) { Tryz.Qtj with } Fence.wide _ trivial rfl oM w.heap.size b nn D0 _ sM sM (by
   obtain⟨es,Z,hb,Ft,hs,hD⟩:=N;exact⟨es,Z,(eJ _ _ b a2).trans hb,Ft,hs,hD⟩)
 exact AnyZ.sorted_in Tryz.Qqz Fence.wide 5 trivial trivial trivial trivial rfl oM (Tryz.QmE _) (eP func175 kM rfl) 176 #[.pointer (some ⟨w,0,none⟩)] trivial (eP func176 kM rfl) _ _ a1 I _ a0
theorem Tryz.Qdg(w:World) :
  CallsIn Fence.wide 5 prog 132 #[.func (.func 176) #[] #[.pointer (some ⟨w,0,none⟩)]] (w.alloc (.cells #[.map none] 181)) λe w'=>∃(v:Value) (ss:List (List UInt8)),e=.returned v/\ss=[]/\
   w'.ownsRow (w.alloc (.cells #[.map none] 181)).heap.size 9 1 v ss.length ((ss.mergeSort (λx y=>decide (x<=y))).map encStr)/\(v=.slice none 0 0↔ss=[])/\Below (w.alloc (.cells #[.map none] 181)).heap.size (w.alloc (.cells #[.map none] 181)) w':=by
 have I:SeqGives Fence.wide 2 prog 176 #[.pointer (some ⟨w,0,none⟩)] encStr (λss:List (List UInt8)=>ss=[]) 0 (w.alloc (.cells #[.map none] 181)):=
  AnyZ.keys_gives_nil (ρ:=Tryz.QgG) { Tryz.Qtj with } Fence.wide _ trivial rfl w.heap.size _ sM sM
 exact AnyZ.sorted_in Tryz.Qqz Fence.wide 5 trivial trivial trivial trivial rfl oM (Tryz.QmE _) (eP func175 kM rfl) 176 #[.pointer (some ⟨w,0,none⟩)] trivial (eP func176 kM rfl) _ 0 (aA _) oM _ I
abbrev Qi0(n:Int):Val:=.mk 3 false n ByteArray.empty [] [] []
abbrev Qvu(n:Int):Value:=.agg #[.int .i64 3,.bool false,.int .i64 n,.string ByteArray.empty,.slice none 0 0,.slice none 0 0]
def Qg9(ks:List ByteArray):Nat:=(ks.map ByteArray.size).sum
variable{ks:List ByteArray}{j:Nat}
theorem QqC{k:ByteArray}(h:ks[j]? = some k):Qg9 (ks.take (j+1))=Qg9 (ks.take j)+k.size:=by
 obtain⟨I,rfl⟩:=ai.1 h;unfold Qg9;rw[List.take_succ_eq_append_getElem I,aC,dL];simp
theorem QtL(ks:List ByteArray)(j:Nat):Qg9 (ks.take j)<=Qg9 ks:=by
 have:Qg9 ks=Qg9 (ks.take j)+Qg9 (ks.drop j):=by unfold Qg9;rw[<-dL,<-aC,aV]
 omega
abbrev wrC(a b:Value)(n:Nat):Array Value:=#[.bool false,a,b,.int .i64 (n:Int)]
variable{w:World}{B n:Nat}{F:Nat->Prop}{s:Sl}
theorem QiA{a b:Value}(hB:Blk w B 275 (wrC a b n))(hr:Rd w F 1 s ks.length (ks.map .string))(hF:∀i,F i->i<w.heap.size/\i≠B)(hn:n+Qg9 ks<=100000000)(b0:ks.length<=1000000) :
  Calls prog 245 #[.pointer (some ⟨B,0,none⟩),.slice s.a ks.length s.c] w λe w'=>(∃r,e=.returned r)/\Blk w' B 275 (wrC a b (n+Qg9 ks))/\St (λc=>c=B) w w':=by
 obtain⟨g,o,h1,-,h3⟩:=hr;obtain⟨H1,H3,HF,HB⟩:=Ye h1 h3 hF hB;clear h1 h3 hF hB;go_in;go_wp2_with fail;go_loopw[8] (λq wr=>∃j:Nat,q=.int .i64 (j:Int)/\j<=ks.length/\Blk wr B 275 (wrC a b (n+Qg9 (ks.take j)))/\St (λc=>c=B) w wr) (λq _=>ks.length -(intOf q).toNat)
 case atStart=>exact⟨0,rfl,aA _,by simpa[Qg9]using HB.o,fQ _ _⟩
 obtain⟨j,rfl,a9,I,N⟩:=hrel;by_cases a0:j<ks.length
 ·have g1:decide ((j:Int)<(ks.length:Int))=true:=em oM
  have b3:(j:Int)<(ks.length:Int):=oM
  obtain⟨k,hk⟩:∃k,ks[j]? = some k:=⟨_,ac a0⟩;obtain⟨e1,hc,a8⟩:=H1.o.eq oM;have lg:=HF.o g (H1.o.fits oM);obtain⟨sa,sc⟩:=s;dsimp only at e1 hc a8;subst e1;have c0:wr.cell? ⟨g,o+j,none⟩=some (.string k):=(N.cell lg.1 lg.2).trans (H3.o j _ (by rw[au,hk];rfl));have c3:wr.cell? ⟨B,3,none⟩=some (.int .i64 ((n+Qg9 (ks.take j):Nat):Int)):=I.cell 3;have ck:wr.cell? ⟨B,0,none⟩=some (.bool false):=I.cell 0;have f3:=I.frozen 3;have lB:=I.lt;have a2:=QqC hk;have a6:=QtL ks (j+1);obtain⟨m,hm⟩:∃m,n+Qg9 (ks.take j)=m:=⟨_,rfl⟩;have Z:n+Qg9 (ks.take (j+1))=m+k.size:=oM
  rw[hm]at c3 I;have g2:IntKind.i64.wrap ((m:Int)+(k.size:Int))=(m:Int)+(k.size:Int):=by rw[ey];omega
  obtain⟨a5,a3,a7⟩:=Yc I N Z;clear I N hk a2 a6 hm Z;go_wp2_with fail;have a1:St (λc=>c=B) wr (wr.setCell ⟨B,3,none⟩ (.int .i64 ((m:Int)+(k.size:Int)))):=(fQ (λc=>c=B) wr).set (p:=⟨B,3,none⟩) (.inr rfl) _;have a4:=a5.o.QbH 3 (.int .i64 ((m:Int)+(k.size:Int)));exact⟨⟨j+1,rfl,a0,by rw[a7.o];exact a4,a3.o.trans a1⟩,by show ks.length -((j:Int)+1).toNat<ks.length -(j:Int).toNat;omega⟩
 obtain rfl:j=ks.length:=oM
 have g1:decide ((ks.length:Int)<(ks.length:Int))=false:=ej oM;rw[aU]at I;go_wp2_with fail;go_end0;exact⟨⟨_,rfl⟩,I,N⟩
def Qt0(n:Int)(W:World):Prop:=Calls prog 248 #[.int .i64 n,.int .i64 10] W λe w'=>∃s:ByteArray,e=.returned (.string s)/\s.size<=21/\Nw W w'
theorem join_one{a b:Value}{m:Nat}(s:ByteArray)(I:Blk w B 275 (wrC a b m))(hm:m<=10000000)(hs:s.size<=1000) :
  Calls prog 245 #[.pointer (some ⟨B,0,none⟩),.slice (some ⟨w,0,none⟩) 1 1] (w.alloc (.cells #[.string s] 9)) λe w'=>(∃r,e=.returned r)/\Blk w' B 275 (wrC a b (m+s.size))/\Sb (λc=>c=B) w w':=by
 have N:Ext w (w.alloc (.cells #[.string s] 9)):=(fI w).alloc _ _;have hl:=I.lt;have Z:=QiA (s:=⟨some ⟨w,0,none⟩,1⟩) (ks:=[s]) (I.ext N) (fU (fK w 9 #[.string s]) oN rfl) (λi hi=>by subst hi;exact⟨sM,oM⟩) (by simp[Qg9];omega) sM;exact Z.mono λe w' ⟨h1,h2,h3⟩=>⟨h1,by simpa[Qg9]using h2,(Nw.any (fJ N) _).trans h3.sb⟩
def G5(w W:World):Prop:=∀b,b<6->W.heap[b]? = w.heap[b]?
theorem G5.refl(w:World):G5 w w:=λ_ _=>rfl
theorem G5.trans{a b c:World}(h:G5 a b)(k:G5 b c):G5 a c:=λi hi=>(k i hi).trans (h i hi)
variable{H:Nat->Prop}{w':World}
theorem Sb.g5(h:Sb H w w')(Z:6<=w.heap.size)(N:∀b,b<6->¬H b):G5 w w':=λb I=>h.block b oM (N b I)
structure Qi4(w:World):Prop where
 big:6<=w.heap.size
 fmt:∀W,G5 w W->∀n:Int,-9223372036854775808<=n->n<=9223372036854775807->Qt0 n W
 val:∀W,G5 w W->∀s:ByteArray,s.size<=maxLen->Calls prog 242 #[.string s] W λe w'=>e=.returned (.bool (Lib.validD s.data.toList))/\Nw W w'
theorem Qi4.sb(h:Qi4 w)(k:Sb H w w')(N:∀b,b<6->¬H b):Qi4 w':=
 ⟨Nat.le_trans h.big k.size,λW I=>h.fmt W ((k.g5 h.big N).trans I),λW I=>h.val W ((k.g5 h.big N).trans I)⟩
theorem Qi4.nw(h:Qi4 w)(k:Nw w w'):Qi4 w':=h.sb k λ_ _ e=>e
def Qci(k:ByteArray):Int:=if k.size=0 then 8 else if 64<k.size then 6 else if Lib.validD k.data.toList then 0 else 3
theorem QtF{k:ByteArray}(N:Blk w B 9 #[.string k]):Calls prog 229 #[.pointer (some ⟨B,0,none⟩)] w λe w'=>e=.returned (.bool (decide (k.size=0)))/\w'=w:=by
 have c0:w.cell? ⟨B,0,none⟩=some (.string k):=N.cell 0;have I:k.toList.isEmpty=decide (k.size=0):=by
  rw[eD];by_cases h:k.size=0
  ·have:k.data.toList=[]:=ar (by rw [aP];exact h)
   rw[this,em h];rfl
  rw[ej h];cases Z:k.data.toList with
  |nil=>exact absurd (by have:=congrArg List.length Z;rw[aP]at this;exact this) h
  |cons a l=>rfl
 have HK:=hY I;clear I;clear N;go_in;go_wp2_with fail;go_ret;exact⟨by rw[<-HK.o];rfl,rfl⟩
theorem QtG{k:ByteArray}(I:Blk w B 9 #[.string k]):Calls prog 230 #[.pointer (some ⟨B,0,none⟩)] w λe w'=>e=.returned (.bool (decide (64<k.size)))/\w'=w:=by
 have N:w.cell? ⟨B,0,none⟩=some (.string k):=I.cell 0;clear I;go_in;go_wp2_with fail;go_ret;exact⟨by rw[show decide (64<k.size)=decide ((64:Int)<(k.size:Int))from decide_eq_decide.2 oM];rfl,rfl⟩
theorem QtH{k:ByteArray}(Z:Blk w B 9 #[.string k])(hk:k.size<=maxLen)(N:Qi4 w):Calls prog 231 #[.pointer (some ⟨B,0,none⟩)] w λe w'=>e=.returned (.bool (!Lib.validD k.data.toList))/\Nw w w':=by
 have c0:w.cell? ⟨B,0,none⟩=some (.string k):=Z.cell 0;have hu:∀W,G5 w W->Calls prog 226 #[.string k] W λe w'=>e=.returned (.bool (Lib.validD k.data.toList))/\Nw W w':=λW hW=>by
  have hv:=N.val W hW k hk;have HV:=hY hv;clear hv N Z c0 hW;go_in;go_wp2_with fail;refine HV.o.mono ?_;rintro e w' ⟨rfl,I⟩;have HN:=hY I;clear I;go_wp2_with fail;go_ret;exact⟨rfl,HN.o⟩
 have HU:=hY (hu w (G5.refl w));clear Z N hu;go_in;go_wp2_with fail;refine HU.o.mono ?_;rintro e w' ⟨rfl,I⟩;have HN:=hY I;clear I;go_wp2_with fail;go_ret;exact⟨rfl,HN.o⟩
abbrev Qsj(B:Nat):Array Value:=#[.int .i64 8,.func (.func 229) #[] #[.pointer (some ⟨B,0,none⟩)],.int .i64 6,.func (.func 230) #[] #[.pointer (some ⟨B,0,none⟩)],.int .i64 3,.func (.func 231) #[] #[.pointer (some ⟨B,0,none⟩)]]
theorem Qlv(w:World)(k:ByteArray):Calls prog 210 #[.string k] w λe w'=>e=.returned (.slice (some ⟨w+1,0,none⟩) 3 3)/\Ext w w'/\Blk w' w.heap.size 9 #[.string k]/\∃t,Blk w' (w.heap.size+1) t (Qsj w.heap.size):=by
 go_in;go_wp2_with fail;go_ret;generalize a0:World.alloc _ _=W0;obtain⟨N,a1,I,Z⟩:=Qas w _ _ _ _ W0 a0;exact⟨rfl,N,I,_,Z⟩
theorem QgU(P:Program)(w:World)(a:Addr)(f:Fn)(I lb:Array Value)(m:Mode):(store a (.func f I lb) m).run P w=stored P w a (.func f I lb) m:=run_store P w a _ m rfl
attribute [local go_sem] QgU
theorem Qc8{k:ByteArray}(hk:k.size<=maxLen)(hL:Qi4 w):Calls prog 194 #[.string k] w λe w'=>e=.returned (.int .i64 (Qci k))/\Nw w w':=by
 have hr:=λW=>Qlv W k
 obtain⟨HR,HL⟩:=Yb hr hL;clear hr hL;go_in;go_wp2_with fail;refine(HR.o w).mono ?_;rintro e w1 ⟨rfl,a8,a5,t,N⟩;obtain⟨a7,b3,a9,b0⟩:=Ye a8 a5 N (HL.o.nw (fJ a8));have l1:=N.lt;clear a8 a5 N HR;go_wp2_with fail;go_loopw[8] (λq wr=>∃j:Nat,q=.int .i64 (j:Int)/\j<=3/\(1<=j->k.size≠0)/\(2<=j->k.size<=64)/\(3<=j->Lib.validD k.data.toList=true)/\Nw w1 wr) (λq _=>3 -(intOf q).toNat)
 case atStart=>exact⟨0,rfl,oM,oM,oM,oM,fM _ _⟩
 obtain⟨j,rfl,hj,h1,h2,h3,hn⟩:=hrel;have a5:=hn.blk b3.o;have N:=fW hn a9.o;have c0:wr.cell? ⟨w+1,0,none⟩=some (.int .i64 8):=N.cell 0;have c1:wr.cell? ⟨w+1,1,none⟩=some (.func (.func 229) #[] #[.pointer (some ⟨w,0,none⟩)]):=N.cell 1;have c2:wr.cell? ⟨w+1,2,none⟩=some (.int .i64 6):=N.cell 2;have c3:wr.cell? ⟨w+1,3,none⟩=some (.func (.func 230) #[] #[.pointer (some ⟨w,0,none⟩)]):=N.cell 3;have c4:wr.cell? ⟨w+1,4,none⟩=some (.int .i64 3):=N.cell 4;have c5:wr.cell? ⟨w+1,5,none⟩=some (.func (.func 231) #[] #[.pointer (some ⟨w,0,none⟩)]):=N.cell 5;obtain⟨HN,HB⟩:=Yb hn a5;clear a5 N hn;rcases(by omega:j=0\/j=1\/j=2\/j=3)with rfl|rfl|rfl|rfl
 ·go_wp2_with fail
  have Z:=(fI wr).alloc #[.int .i64 8,.func (.func 229) #[] #[.pointer (some ⟨w,0,none⟩)]] 253;have a1:=HB.o.ext Z;have a3:=HN.o.trans (fJ Z);obtain⟨a6,a4⟩:=Yb a3 (fK wr 253 #[.int .i64 8,.func (.func 229) #[] #[.pointer (some ⟨w,0,none⟩)]]);clear Z a3 c0 c1 c2 c3 c4 c5;refine((QtF a1).mono λe w' h=>(show e=_/\Nw _ w' from⟨h.1,by rw[h.2];exact fM _ _⟩)).mono ?_;rintro e w4 ⟨rfl,I⟩;have a0:=fW I a4.o;have c0:w4.cell? ⟨wr,0,none⟩=some (.int .i64 8):=a0.cell 0;have a2:=hY (a6.o.trans I);clear I a0 a1;by_cases hc:k.size=0
  ·have g0:decide (k.size=0)=true:=em hc
   rw[g0];go_wp2_with fail;go_ret;exact⟨by rw[show Qci k=8 by rw[Qci,eu hc]]<;>rfl,(fJ a7.o).trans a2.o⟩
  have g0:decide (k.size=0)=false:=ej hc;rw[g0];go_wp2_with fail;exact⟨⟨1,by go_num,oM,λ_=>hc,oM,oM,a2.o⟩,by simp[intOf]⟩
 ·go_wp2_with fail
  have Z:=(fI wr).alloc #[.int .i64 6,.func (.func 230) #[] #[.pointer (some ⟨w,0,none⟩)]] 253;have a1:=HB.o.ext Z;have a3:=HN.o.trans (fJ Z);obtain⟨a6,a4⟩:=Yb a3 (fK wr 253 #[.int .i64 6,.func (.func 230) #[] #[.pointer (some ⟨w,0,none⟩)]]);clear Z a3 c0 c1 c2 c3 c4 c5;refine((QtG a1).mono λe w' h=>(show e=_/\Nw _ w' from⟨h.1,by rw[h.2];exact fM _ _⟩)).mono ?_;rintro e w4 ⟨rfl,I⟩;have a0:=fW I a4.o;have c0:w4.cell? ⟨wr,0,none⟩=some (.int .i64 6):=a0.cell 0;have a2:=hY (a6.o.trans I);clear I a0 a1;by_cases hc:64<k.size
  ·have g0:decide (64<k.size)=true:=em hc
   rw[g0];go_wp2_with fail;go_ret;exact⟨by rw[show Qci k=6 by rw[Qci,eh (h1 oM),eu hc]]<;>rfl,(fJ a7.o).trans a2.o⟩
  have g0:decide (64<k.size)=false:=ej hc;rw[g0];go_wp2_with fail;exact⟨⟨2,by go_num,oM,λ_=>h1 oM,λ_=>oM,oM,a2.o⟩,by simp[intOf]⟩
 ·go_wp2_with fail
  have Z:=(fI wr).alloc #[.int .i64 3,.func (.func 231) #[] #[.pointer (some ⟨w,0,none⟩)]] 253;have a1:=HB.o.ext Z;have a3:=HN.o.trans (fJ Z);obtain⟨a6,a4⟩:=Yb a3 (fK wr 253 #[.int .i64 3,.func (.func 231) #[] #[.pointer (some ⟨w,0,none⟩)]]);clear Z c0 c1 c2 c3 c4 c5;refine(QtH a1 hk (b0.o.nw a3)).mono ?_;rintro e w4 ⟨rfl,I⟩;have a0:=fW I a4.o;have c0:w4.cell? ⟨wr,0,none⟩=some (.int .i64 3):=a0.cell 0;have a2:=hY (a6.o.trans I);clear I a0 a1;by_cases hc:Lib.validD k.data.toList=false
  ·have g0:(!Lib.validD k.data.toList)=true:=by rw [hc];rfl
   rw[g0];go_wp2_with fail;go_ret;exact⟨by rw[show Qci k=3 by rw[Qci,eh (h1 oM),eh (by have:=h2 oM;omega),eh (by rw[hc];simp)]]<;>rfl,(fJ a7.o).trans a2.o⟩
  have g0:(!Lib.validD k.data.toList)=false:=by rw[Bool.not_eq_false]at hc;rw[hc];rfl
  rw[g0];go_wp2_with fail;exact⟨⟨3,by go_num,oM,λ_=>h1 oM,λ_=>h2 oM,λ_=>by simpa using hc,a2.o⟩,by simp[intOf]⟩
 go_wp2_with fail;go_ret;exact⟨by rw[show Qci k=0 by rw[Qci,eh (h1 oM),eh (by have:=h2 oM;omega),eu (h3 oM)]];rfl,(fJ a7.o).trans HN.o⟩
end Go.Proofs.YtdiecmkpbadgjaaGreatDoor
namespace Go.Proofs.YtdiecmkpbadgjaaGreatDoor
open Go.Proofs.Tryz
open Go.RowKit Go.Maps Go.Shelf
def Qb0(k:Int)(b:Bool)(i:Int)(t:ByteArray)(ln on:Nat):Bool:=
 if k<1\/6<k then true
 else(k != 2&&b) ||(k != 3&&i != 0) ||(k != 4&&t.size != 0) ||(k != 5&&ln != 0) ||(k != 6&&on != 0)
def QvH(v:Val):Bool:=Qb0 v.kind v.b v.i v.t v.l.length v.ok.length
theorem Qa9{t:ByteArray}(h:t.size=0):t.toList.isEmpty=true:=by
 rw[eD,List.isEmpty_iff];exact ar (by rw[aP];exact h)
theorem Qbr{t:ByteArray}(h:¬t.size=0):t.toList.isEmpty=false:=by
 rw[Bool.eq_false_iff];intro e;rw[eD,List.isEmpty_iff]at e;have:=congrArg List.length e;rw[aP]at this;exact h this
theorem Quy(w:World)(b:Bool)(i:Int)(t:ByteArray)(Z N lc oc:Nat)(la oa:Option Addr) :
  Calls prog 243 #[.agg #[.int .i64 1,.bool b,.int .i64 i,.string t,.slice la Z lc,.slice oa N oc]] w λe w'=>e=.returned (.bool (Qb0 1 b i t Z N))/\Ext w w':=by
 by_cases hb:b=true
 ·subst hb
  go_in;go_wp2_with fail;go_ret;exact⟨by simp[Qb0],(fI w).alloc _ _⟩
 obtain rfl:b=false:=by simpa using hb
 by_cases hi:i=0
 rotate_left
 ·have gi:(i != 0)=true:=by simp [hi]
  go_in;go_wp2_with fail;go_ret;exact⟨by simp[Qb0,hi],(fI w).alloc _ _⟩
 subst hi;by_cases ht:t.size=0
 rotate_left
 ·have gt:=Qbr ht
  go_in;go_wp2_with fail;go_ret;exact⟨by simp[Qb0,ht],(fI w).alloc _ _⟩
 have gt:=Qa9 ht;by_cases I:Z=0
 rotate_left
 ·have a1:(0:Int)<(Z:Int):=oM
  have a4:decide ((0:Int)<(Z:Int))=true:=em a1;go_in;go_wp2_with fail;go_ret;exact⟨by simp[Qb0,ht,I,(show 0<Z by omega)],(fI w).alloc _ _⟩
 have a1:decide ((0:Int)<(Z:Int))=false:=ej oM;by_cases a2:N=0
 rotate_left
 ·have a0:(0:Int)<(N:Int):=oM
  have a3:decide ((0:Int)<(N:Int))=true:=em a0;go_in;go_wp2_with fail;go_ret;exact⟨by simp[Qb0,ht,I,a2,(show 0<N by omega)],(fI w).alloc _ _⟩
 have a0:decide ((0:Int)<(N:Int))=false:=ej oM;go_in;go_wp2_with fail;go_ret;exact⟨by simp[Qb0,ht,I,a2],(fI w).alloc _ _⟩
theorem Quz(w:World)(b:Bool)(i:Int)(t:ByteArray)(Z N lc oc:Nat)(la oa:Option Addr) :
  Calls prog 243 #[.agg #[.int .i64 2,.bool b,.int .i64 i,.string t,.slice la Z lc,.slice oa N oc]] w λe w'=>e=.returned (.bool (Qb0 2 b i t Z N))/\Ext w w':=by
 by_cases hi:i=0
 rotate_left
 ·have gi:(i != 0)=true:=by simp [hi]
  go_in;go_wp2_with fail;go_ret;exact⟨by simp[Qb0,hi],(fI w).alloc _ _⟩
 subst hi;by_cases ht:t.size=0
 rotate_left
 ·have gt:=Qbr ht
  go_in;go_wp2_with fail;go_ret;exact⟨by simp[Qb0,ht],(fI w).alloc _ _⟩
 have gt:=Qa9 ht;by_cases I:Z=0
 rotate_left
 ·have a1:(0:Int)<(Z:Int):=oM
  have a4:decide ((0:Int)<(Z:Int))=true:=em a1;go_in;go_wp2_with fail;go_ret;exact⟨by simp[Qb0,ht,I,(show 0<Z by omega)],(fI w).alloc _ _⟩
 have a1:decide ((0:Int)<(Z:Int))=false:=ej oM;by_cases a2:N=0
 rotate_left
 ·have a0:(0:Int)<(N:Int):=oM
  have a3:decide ((0:Int)<(N:Int))=true:=em a0;go_in;go_wp2_with fail;go_ret;exact⟨by simp[Qb0,ht,I,a2,(show 0<N by omega)],(fI w).alloc _ _⟩
 have a0:decide ((0:Int)<(N:Int))=false:=ej oM;go_in;go_wp2_with fail;go_ret;exact⟨by simp[Qb0,ht,I,a2],(fI w).alloc _ _⟩
theorem QuA(w:World)(b:Bool)(i:Int)(t:ByteArray)(Z N lc oc:Nat)(la oa:Option Addr) :
  Calls prog 243 #[.agg #[.int .i64 3,.bool b,.int .i64 i,.string t,.slice la Z lc,.slice oa N oc]] w λe w'=>e=.returned (.bool (Qb0 3 b i t Z N))/\Ext w w':=by
 by_cases hb:b=true
 ·subst hb
  go_in;go_wp2_with fail;go_ret;exact⟨by simp[Qb0],(fI w).alloc _ _⟩
 obtain rfl:b=false:=by simpa using hb
 by_cases ht:t.size=0
 rotate_left
 ·have gt:=Qbr ht
  go_in;go_wp2_with fail;go_ret;exact⟨by simp[Qb0,ht],(fI w).alloc _ _⟩
 have gt:=Qa9 ht;by_cases I:Z=0
 rotate_left
 ·have a1:(0:Int)<(Z:Int):=oM
  have a4:decide ((0:Int)<(Z:Int))=true:=em a1;go_in;go_wp2_with fail;go_ret;exact⟨by simp[Qb0,ht,I,(show 0<Z by omega)],(fI w).alloc _ _⟩
 have a1:decide ((0:Int)<(Z:Int))=false:=ej oM;by_cases a2:N=0
 rotate_left
 ·have a0:(0:Int)<(N:Int):=oM
  have a3:decide ((0:Int)<(N:Int))=true:=em a0;go_in;go_wp2_with fail;go_ret;exact⟨by simp[Qb0,ht,I,a2,(show 0<N by omega)],(fI w).alloc _ _⟩
 have a0:decide ((0:Int)<(N:Int))=false:=ej oM;go_in;go_wp2_with fail;go_ret;exact⟨by simp[Qb0,ht,I,a2],(fI w).alloc _ _⟩
theorem QuB(w:World)(b:Bool)(i:Int)(t:ByteArray)(Z N lc oc:Nat)(la oa:Option Addr) :
  Calls prog 243 #[.agg #[.int .i64 4,.bool b,.int .i64 i,.string t,.slice la Z lc,.slice oa N oc]] w λe w'=>e=.returned (.bool (Qb0 4 b i t Z N))/\Ext w w':=by
 by_cases hb:b=true
 ·subst hb
  go_in;go_wp2_with fail;go_ret;exact⟨by simp[Qb0],(fI w).alloc _ _⟩
 obtain rfl:b=false:=by simpa using hb
 by_cases hi:i=0
 rotate_left
 ·have gi:(i != 0)=true:=by simp [hi]
  go_in;go_wp2_with fail;go_ret;exact⟨by simp[Qb0,hi],(fI w).alloc _ _⟩
 subst hi;by_cases I:Z=0
 rotate_left
 ·have a1:(0:Int)<(Z:Int):=oM
  have a4:decide ((0:Int)<(Z:Int))=true:=em a1;go_in;go_wp2_with fail;go_ret;exact⟨by simp[Qb0,I,(show 0<Z by omega)],(fI w).alloc _ _⟩
 have a1:decide ((0:Int)<(Z:Int))=false:=ej oM;by_cases a2:N=0
 rotate_left
 ·have a0:(0:Int)<(N:Int):=oM
  have a3:decide ((0:Int)<(N:Int))=true:=em a0;go_in;go_wp2_with fail;go_ret;exact⟨by simp[Qb0,I,a2,(show 0<N by omega)],(fI w).alloc _ _⟩
 have a0:decide ((0:Int)<(N:Int))=false:=ej oM;go_in;go_wp2_with fail;go_ret;exact⟨by simp[Qb0,I,a2],(fI w).alloc _ _⟩
theorem QuC(w:World)(b:Bool)(i:Int)(t:ByteArray)(ln I lc oc:Nat)(la oa:Option Addr) :
  Calls prog 243 #[.agg #[.int .i64 5,.bool b,.int .i64 i,.string t,.slice la ln lc,.slice oa I oc]] w λe w'=>e=.returned (.bool (Qb0 5 b i t ln I))/\Ext w w':=by
 by_cases hb:b=true
 ·subst hb
  go_in;go_wp2_with fail;go_ret;exact⟨by simp[Qb0],(fI w).alloc _ _⟩
 obtain rfl:b=false:=by simpa using hb
 by_cases hi:i=0
 rotate_left
 ·have gi:(i != 0)=true:=by simp [hi]
  go_in;go_wp2_with fail;go_ret;exact⟨by simp[Qb0,hi],(fI w).alloc _ _⟩
 subst hi;by_cases Z:t.size=0
 rotate_left
 ·have gt:=Qbr Z
  go_in;go_wp2_with fail;go_ret;exact⟨by simp[Qb0,Z],(fI w).alloc _ _⟩
 have gt:=Qa9 Z;by_cases a0:I=0
 rotate_left
 ·have N:(0:Int)<(I:Int):=oM
  have a1:decide ((0:Int)<(I:Int))=true:=em N;go_in;go_wp2_with fail;go_ret;exact⟨by simp[Qb0,Z,a0,(show 0<I by omega)],(fI w).alloc _ _⟩
 have N:decide ((0:Int)<(I:Int))=false:=ej oM;go_in;go_wp2_with fail;go_ret;exact⟨by simp[Qb0,Z,a0],(fI w).alloc _ _⟩
theorem QuD(w:World)(b:Bool)(i:Int)(t:ByteArray)(I on lc oc:Nat)(la oa:Option Addr) :
  Calls prog 243 #[.agg #[.int .i64 6,.bool b,.int .i64 i,.string t,.slice la I lc,.slice oa on oc]] w λe w'=>e=.returned (.bool (Qb0 6 b i t I on))/\Ext w w':=by
 by_cases hb:b=true
 ·subst hb
  go_in;go_wp2_with fail;go_ret;exact⟨by simp[Qb0],(fI w).alloc _ _⟩
 obtain rfl:b=false:=by simpa using hb
 by_cases hi:i=0
 rotate_left
 ·have gi:(i != 0)=true:=by simp [hi]
  go_in;go_wp2_with fail;go_ret;exact⟨by simp[Qb0,hi],(fI w).alloc _ _⟩
 subst hi;by_cases N:t.size=0
 rotate_left
 ·have gt:=Qbr N
  go_in;go_wp2_with fail;go_ret;exact⟨by simp[Qb0,N],(fI w).alloc _ _⟩
 have gt:=Qa9 N;by_cases a0:I=0
 rotate_left
 ·have Z:(0:Int)<(I:Int):=oM
  have a1:decide ((0:Int)<(I:Int))=true:=em Z;go_in;go_wp2_with fail;go_ret;exact⟨by simp[Qb0,N,a0,(show 0<I by omega)],(fI w).alloc _ _⟩
 have Z:decide ((0:Int)<(I:Int))=false:=ej oM;go_in;go_wp2_with fail;go_ret;exact⟨by simp[Qb0,N,a0],(fI w).alloc _ _⟩
theorem QpX(w:World){k:Int}(Z:k<1\/6<k)(b:Bool)(i:Int)(t:ByteArray)(N I lc oc:Nat)(la oa:Option Addr) :
  Calls prog 243 #[.agg #[.int .i64 k,.bool b,.int .i64 i,.string t,.slice la N lc,.slice oa I oc]] w λe w'=>e=.returned (.bool (Qb0 k b i t N I))/\Ext w w':=by
 have h1:(k==1)=false:=by simp;omega
 have h2:(k==2)=false:=by simp;omega
 have h3:(k==3)=false:=by simp;omega
 have h4:(k==4)=false:=by simp;omega
 have h5:(k==5)=false:=by simp;omega
 have h6:(k==6)=false:=by simp;omega
 have ho:Qb0 k b i t N I=true:=by unfold Qb0;rw[eu Z]
 rw[ho];clear Z ho;go_in;go_wp2_with fail;go_ret;exact⟨rfl,(fI w).alloc _ _⟩
theorem Qtx(w:World)(v:Val)(sl so:Sl):Calls prog 243 #[QbV v sl so] w λe w'=>e=.returned (.bool (QvH v))/\Ext w w':=by
 obtain⟨k,b,i,t,l,N,Z⟩:=v;by_cases I:k<1\/6<k
 .exact QpX w I b i t _ _ _ _ _ _
 rcases(show k=1\/k=2\/k=3\/k=4\/k=5\/k=6 by omega)with rfl|rfl|rfl|rfl|rfl|rfl
 .exact Quy w b i t _ _ _ _ _ _
 .exact Quz w b i t _ _ _ _ _ _
 .exact QuA w b i t _ _ _ _ _ _
 .exact QuB w b i t _ _ _ _ _ _
 .exact QuC w b i t _ _ _ _ _ _
 exact QuD w b i t _ _ _ _ _ _
mutual
def Qda:Val->Nat->Int
 |.mk k b i t l ok ov,j=>if Qb0 k b i t l.length ok.length=true then 9 else if 64<j then 5 else if k=4 then(if Lib.validD t.data.toList then 0 else 3)else if k=5 then Qd8 l (j+1)else if k=6 then QhA none ok ov (j+1)else 0
def Qd8:List Val->Nat->Int
 |[],_=>0
 |d::r,j=>if Qda d j≠0 then Qda d j else Qd8 r j
def QhA:Option ByteArray->List ByteArray->List Val->Nat->Int
 |_,_,[],_=>0
 |p,ks,d::s,j=>if !Lib.validD (ks.headD ByteArray.empty).data.toList then 3 else if p.any (λq=>!klt q (ks.headD ByteArray.empty))then 8 else if Qda d j≠0 then Qda d j else QhA (some (ks.headD ByteArray.empty)) ks.tail s j
end
variable{j:Nat}
theorem Qtr{l:List Val}{i:Nat}{d:Val}(h:l[i]? = some d):Qd8 (l.drop i) j=if Qda d j≠0 then Qda d j else Qd8 (l.drop (i+1)) j:=by
 obtain⟨h1,h2⟩:=ai.1 h;rw[aE h1,h2,Qd8]
theorem Qus{a b:ByteArray}(h:klt a b=true):Op.bytesLess b.toList a.toList=false:=by
 show klt b a=false;cases I:klt b a with
 |false=>rfl
 |true=>have:=QaH h I;rw[Qag]at this;cases this
theorem QtO{a b:ByteArray}(h:a≠b):(a.toList==b.toList)=false:=by
 rw[ev];intro e;rw[eD,eD]at e;exact h (by cases a;cases b;congr 1;exact dE.1 e)
def prevK(ok:List ByteArray):Nat->Option ByteArray
 |0=>none
 |j+1=>ok[j]?
theorem Qts{p:Option ByteArray}{ok:List ByteArray}{ov:List Val}{Q i:Nat}{d:Val}{k:ByteArray}(h:ov[i]? = some d)(Z:ok[i]? = some k):QhA p (ok.drop i) (ov.drop i) Q =
  if !Lib.validD k.data.toList then 3 else if p.any (λq=>!klt q k)then 8 else if Qda d Q≠0 then Qda d Q else QhA (some k) (ok.drop (i+1)) (ov.drop (i+1)) Q:=by
 obtain⟨h1,h2⟩:=ai.1 h;obtain⟨I,N⟩:=ai.1 Z;rw[aE h1,h2,aE I,N,QhA,cT,ce]
variable{w:World}
theorem QdO(N:Qi4 w){k:ByteArray}(hk:k.size<=maxLen):Calls prog 226 #[.string k] w λe w'=>e=.returned (.bool (Lib.validD k.data.toList))/\Nw w w':=by
 have Z:=N.val w (G5.refl w) k hk;have HV:=hY Z;clear Z N;go_in;go_wp2_with fail;refine HV.o.mono ?_;rintro e w' ⟨rfl,I⟩;have HN:=hY I;clear I;go_wp2_with fail;go_ret;exact⟨rfl,HN.o⟩
theorem QpK(m:Nat):∀(d:Val),SizeOf.sizeOf d<=m->∀(w:World) (sl so:Sl) (q:Nat),q<=65->RV w (Lt w) d sl so->Qi4 w->
  Calls prog 227 #[QbV d sl so,.int .i64 (q:Int)] w λe w'=>e=.returned (.int .i64 (Qda d q))/\Nw w w':=by
 induction m with
 |zero=>intro d hd;have:=Val.Qb6 d;omega
 |succ m ih=>
 intro d hd w sl so q hq h hL;have HI:=hY ih;clear ih;obtain⟨k,b,i,t,l,ok,ov⟩:=d;have c1:=λW=>Qtx W (.mk k b i t l ok ov) sl so
 show Calls _ _ #[.agg #[.int .i64 k,.bool b,.int .i64 i,.string t,.slice sl.a l.length sl.c,.slice so.a ok.length so.c],.int .i64 q] _ _;have f2:=h;cases h with
 |mk bl fl bo fo cl co hl ho hov el rl ek eo ro bk bi bt nl no=>
 have e4:∀(j:Nat) (d:Val),l[j]? = some d->SizeOf.sizeOf d<=m:=λj d hj=>bq (ab (Val.QtM hj) hd)
 have f0:∀(j:Nat) (d:Val),ov[j]? = some d->SizeOf.sizeOf d<=m:=λj d hj=>bq (ab (Val.QtN hj) hd)
 have hu:=λW (hW:Nw w W)=>QdO (hL.nw hW) bt
 obtain⟨f9,f6,g8,f8,d4,f5,g7⟩:=Yh e4 f0 el rl ek eo ro;obtain⟨e6,HL,HU,c3,c2,c4⟩:=Yg hov hL hu c1 hl ho;clear e4 f0 el rl ek eo ro hov hd hL hu c1 f2;obtain⟨r,hr⟩:∃r,Qda (.mk k b i t l ok ov) q=r:=⟨_,rfl⟩;rw[hr];unfold Qda at hr;go_in;go_wp2_with fail;have e1:=(fI w).alloc #[.int .i64 k,.bool b,.int .i64 i,.string t,.slice sl.a l.length sl.c,.slice so.a ok.length so.c] 34;have b8:=fK w 34 #[.int .i64 k,.bool b,.int .i64 i,.string t,.slice sl.a l.length sl.c,.slice so.a ok.length so.c];refine(c3.o _).mono ?_;rintro e w1 ⟨rfl,b5⟩;obtain⟨q0,q1,q2,q3,q4,q5⟩:=(b8.ext b5).c6;have lq:=(b8.ext b5).lt;obtain⟨HX,HB⟩:=Yb (e1.trans b5) (b8.ext b5);clear e1 b5 b8 c3;unfold QvH;dsimp only[Val.kind,Val.b,Val.i,Val.t,Val.l,Val.ok];by_cases c0:Qb0 k b i t l.length ok.length=true
 ·rw [eu c0] at hr
  subst hr;rw[c0];go_wp2_with fail;go_ret;exact⟨rfl,fJ HX.o⟩
 rw[eh c0]at hr;rw[show Qb0 k b i t l.length ok.length=false by simpa using c0];by_cases c8:64<q
 ·rw [eu c8] at hr
  subst hr;have g0:decide ((64:Int)<(q:Int))=true:=em oM;go_wp2_with fail;go_ret;exact⟨rfl,fJ HX.o⟩
 rw[eh c8]at hr;have g0:decide ((64:Int)<(q:Int))=false:=ej oM;by_cases h4:k=4
 ·subst h4
  rw[eu rfl]at hr;go_wp2_with fail;refine(HU.o _ (fJ HX.o)).mono ?_;rintro e w2 ⟨rfl,d6⟩;have d7:=hY ((fJ HX.o).trans d6);clear d6;cases hv:Lib.validD t.data.toList with
  | true=>
    rw[hv,eu rfl]at hr;subst hr;go_wp2_with fail;go_ret;exact⟨rfl,d7.o⟩
  | false=>
    rw[hv,eh oN]at hr;subst hr;go_wp2_with fail;go_ret;exact⟨rfl,d7.o⟩
 rw[eh h4]at hr;have g4:(k==4)=false:=by simpa using h4
 by_cases h5:k=5
 ·subst h5
  rw[eu rfl]at hr;go_wp2_with fail;go_loopw[30] (λqq wr=>∃j:Nat,qq=.int .i64 j/\j<=l.length/\Qd8 (l.drop j) (q+1)=r/\Nw w1 wr) (λqq _=>l.length -(intOf qq).toNat)
  case atStart=>exact⟨0,rfl,aA _,hr,fM _ _⟩
  obtain⟨j,rfl,hj,hm,hn⟩:=hrel;by_cases a6:j<l.length
  ·have g1:(j:Int)<(l.length:Int):=oM
   have f4:decide ((j:Int)<(l.length:Int))=true:=em g1;obtain⟨d,hd⟩:∃d,l[j]? = some d:=⟨_,ac a6⟩;have Z:Nw w wr:=(fJ HX.o).trans hn;have a2:Agree (Lt w) w wr:=fN Z λ_ h=>h
   obtain⟨b0,c9,d5⟩:=c2.o.eq oM;have a0:=c2.o.fits (show 0<l.length by omega);obtain⟨sa,sc⟩:=sl;dsimp only at b0 c9 d5;subst b0;obtain⟨v0,v1,v2,v3,v4,v5⟩:=(g8.o j d hd).agree a2 a0;have lb:bl<wr:=ab a0 Z.size;have b4:∀W,Nw wr W->Calls prog 227 #[QbV d (cl j).1 (cl j).2,.int .i64 ((q:Int)+1)] W λe w'=>e=.returned (.int .i64 (Qda d (q+1)))/\Nw W w':=λW hW=>by
    rw[show(q:Int)+1=((q+1:Nat):Int)by omega];exact HI.o d (f9.o j d hd) W _ _ (q+1) oM (((f8.o j d hd).agree (a2.trans (fN hW λ_ h=>ab h Z.size))).mono λi hi=>ab hi (an Z.size hW.size)) (HL.o.nw (Z.trans hW))
   have I:=Qtr (j:=q+1) hd;rw[hm]at I;have g2:IntKind.i64.wrap ((q:Int)+1)=(q:Int)+1:=by rw[ey];omega
   obtain⟨a7,N,HN⟩:=Yc b4 I hn;clear hd Z a2 b4 I hn hm;go_wp2_with fail;have a3:=(fI wr).alloc #[.int .i64 d.kind,.bool d.b,.int .i64 d.i,.string d.t,.slice (cl j).1.a d.l.length (cl j).1.c,.slice (cl j).2.a d.ok.length (cl j).2.c] 34;refine(a7.o _ (fJ a3)).mono ?_;rintro e w3 ⟨rfl,a4⟩;have e8:=hY ((HN.o.trans (fJ a3)).trans a4);have I:=N.o;clear a3 a4 v0 v1 v2 v3 v4 v5 a7 N HN;generalize Qda d (q+1)=c at I;by_cases hc:c=0
   ·subst hc
    rw[eh sM]at I;have N:=hY I.symm;clear I;go_wp2_with fail;go_roundw
    case rel=>exact⟨j+1,by go_num,a6,N.o,e8.o⟩
    simp[intOf];omega
   rw[eu hc]at I;subst I;have g3:(r != 0)=true:=by simpa using hc
   have a1:=hY ((fJ HX.o).trans e8.o);clear hc;go_wp2_with fail;go_ret;exact⟨rfl,a1.o⟩
  obtain rfl:j=l.length:=oM
  have g1:decide ((l.length:Int)<(l.length:Int))=false:=ej oM;have hz:r=0:=by rw[<-hm,cP,Qd8]
  subst hz;have HN:=hY ((fJ HX.o).trans hn);clear hn hm;go_wp2_with fail;go_ret;exact⟨rfl,HN.o⟩
 rw[eh h5]at hr;have g5:(k==5)=false:=by simpa using h5
 by_cases h6:k=6
 ·subst h6
  rw[eu rfl]at hr;go_wp2_with fail;go_loopw[47] (λqq wr=>∃j:Nat,qq=.int .i64 j/\j<=ok.length/\QhA (prevK ok j) (ok.drop j) (ov.drop j) (q+1)=r/\Nw w1 wr) (λqq _=>ok.length -(intOf qq).toNat)
  case atStart=>exact⟨0,rfl,aA _,hr,fM _ _⟩
  obtain⟨j,rfl,hj,hm,hn⟩:=hrel;by_cases a6:j<ok.length
  ·have g1:(j:Int)<(ok.length:Int):=oM
   have f4:decide ((j:Int)<(ok.length:Int))=true:=em g1;obtain⟨kk,hk⟩:∃kk,ok[j]? = some kk:=⟨_,ac a6⟩;obtain⟨d,hd⟩:∃d,ov[j]? = some d:=⟨_,ac (by rw[e6.o];exact a6)⟩;have Z:Nw w wr:=(fJ HX.o).trans hn;have a2:Agree (Lt w) w wr:=fN Z λ_ h=>h
   obtain⟨b0,c9,d5⟩:=c4.o.eq oM;have a0:=c4.o.fits (show 0<ok.length by omega);obtain⟨sa,sc⟩:=so;dsimp only at b0 c9 d5;subst b0;obtain⟨v0,v1,v2,v3,v4,v5⟩:=(f5.o j d hd).agree a2 a0;have lb:bo<wr:=ab a0 Z.size;have kc:wr.cell? ⟨bo,fo+j*7,none⟩=some (.string kk):=(a2.cell a0).trans (d4.o j kk hk).1;have e0:=(d4.o j kk hk).2;have b4:∀W,Nw wr W->Calls prog 227 #[QbV d (co j).1 (co j).2,.int .i64 ((q:Int)+1)] W λe w'=>e=.returned (.int .i64 (Qda d (q+1)))/\Nw W w':=λW hW=>by
    rw[show(q:Int)+1=((q+1:Nat):Int)by omega];exact HI.o d (f6.o j d hd) W _ _ (q+1) oM (((g7.o j d hd).agree (a2.trans (fN hW λ_ h=>ab h Z.size))).mono λi hi=>ab hi (an Z.size hW.size)) (HL.o.nw (Z.trans hW))
   have d8:∀W,Nw wr W->Calls prog 226 #[.string kk] W λe w'=>e=.returned (.bool (Lib.validD kk.data.toList))/\Nw W w':=λW hW=>QdO (HL.o.nw (Z.trans hW)) e0
   have I:=Qts (p:=prevK ok j) (Q:=q+1) hd hk;rw[hm]at I;have g2:IntKind.i64.wrap ((q:Int)+1)=(q:Int)+1:=by rw[ey];omega
   obtain⟨a7,N,e3,HN,e7,f7⟩:=Yg b4 I d8 hn hk (And.intro a2 a0);clear hd Z a2 b4 I hn hm d8 hk e0;go_wp2_with fail;have a3:=(fI wr).alloc #[.string kk,.int .i64 d.kind,.bool d.b,.int .i64 d.i,.string d.t,.slice (co j).1.a d.l.length (co j).1.c,.slice (co j).2.a d.ok.length (co j).2.c] 124;have d3:=fK wr 124 #[.string kk,.int .i64 d.kind,.bool d.b,.int .i64 d.i,.string d.t,.slice (co j).1.a d.l.length (co j).1.c,.slice (co j).2.a d.ok.length (co j).2.c];refine(e3.o _ (fJ a3)).mono ?_;rintro e w3 ⟨rfl,a4⟩;have a8:=(HN.o.trans (fJ a3)).trans a4;obtain⟨u0,u1,u2,u3,u4,u5,u6⟩:=(fW a4 d3).c7;have ul:=(fW a4 d3).lt;have p5:w3.cell? ⟨w,5,none⟩=some (.slice (some ⟨bo,fo,none⟩) ok.length sc):=(fW a8 HB.o).cell 5;have pl:=(fW a8 HB.o).lt;obtain⟨b7,d0⟩:=Yb a8 ((fJ a3).trans a4);have f1:∀i y,j=i+1->ok[i]? = some y->w3.cell? ⟨bo,fo+i*7,none⟩=some (.string y):=λi y _ hy=>
    (fN (((fJ HX.o).trans a8)) (λ_ h=>h)).cell f7.o.2 |>.trans (d4.o i y hy).1
   have b9:=hY f1;have g9:bo<w3:=by have:=d0.o.size;omega
   have I:=N.o;clear a3 d3 a4 a8 v0 v1 v2 v3 v4 v5 kc N e3 HN f1;cases hv:Lib.validD kk.data.toList with
   | false=>
     rw[hv]at I;rw[eu oN]at I;subst I;have a1:=hY ((fJ HX.o).trans b7.o);go_wp2_with fail;go_ret;exact⟨rfl,a1.o⟩
   | true=>
     rw[hv]at I;rw[eh oN]at I;by_cases b6:j=0
     ·subst b6
      rw[show prevK ok 0=none from rfl,ec,eh oN]at I;have gg:decide ((0:Int)<((0:Nat):Int))=false:=oN
      have N:=hY I;clear I;go_wp2_with fail;go_quiet (fail);go_wp2_with fail;refine(a7.o _ (d0.o.trans (fJ ((fI w3).drewN _)))).mono ?_;rintro e w4 ⟨rfl,b3⟩;have a9:=hY ((b7.o.trans (fJ ((fI w3).drewN _))).trans b3);have I:=N.o;clear b3 a7 N u0 u1 u2 u3 u4 u5 u6;generalize Qda d (q+1)=c at I;by_cases hc:c=0
      ·subst hc
       rw[eh sM]at I;have N:=hY I.symm;clear I;go_wp2_with fail;go_roundw
       case rel=>exact⟨0+1,by go_num,a6,by rw[show prevK ok (0+1)=some kk from e7.o];exact N.o,a9.o⟩
       simp[intOf];omega
      rw[eu hc]at I;subst I;have g3:(r != 0)=true:=by simpa using hc
      have a1:=hY ((fJ HX.o).trans a9.o);clear hc;go_wp2_with fail;go_ret;exact⟨rfl,a1.o⟩
     obtain⟨i,rfl⟩:∃i,j=i+1:=⟨j-1,oM⟩;obtain⟨y,hy⟩:∃y,ok[i]? = some y:=⟨_,ac oM⟩;have pk:=b9.o i y rfl hy;rw[show prevK ok (i+1)=some y from hy,dn]at I;have gg:decide ((0:Int)<((i+1:Nat):Int))=true:=em oM;have i0:(0:Int)<((i+1:Nat):Int):=oM
     have gs:IntKind.i64.wrap (((i+1:Nat):Int)-1)=(i:Int):=by rw[ey];omega
     have i2:(0:Int)<=(i:Int):=oM
     have i1:(i:Int)<(ok.length:Int):=oM
     cases a5:klt y kk with
     | false=>
       rw[a5,eu oN]at I;subst I;have a1:=hY ((fJ HX.o).trans b7.o);cases e2:klt kk y with
       | true=>
         have a0:Op.bytesLess kk.toList y.toList=true:=e2;clear hy b6 b9;go_wp2_with fail;go_quiet (fail);go_wp2_with fail;go_ret;exact⟨rfl,a1.o.trans (fJ ((fI w3).drewN _))⟩
       | false=>
         obtain rfl:y=kk:=QbE a5 e2;have a0:Op.bytesLess y.toList y.toList=false:=a5;have f3:(y.toList==y.toList)=true:=sM
         clear hy b6 b9;go_wp2_with fail;go_quiet (fail);go_wp2_with fail;go_ret;exact⟨rfl,a1.o.trans (fJ ((fI w3).drewN _))⟩
     | true=>
       rw[a5,eh oN]at I;have a0:Op.bytesLess kk.toList y.toList=false:=Qus a5;have f3:(kk.toList==y.toList)=false:=QtO (λe=>by rw[e,Qag]at a5;cases a5);have N:=hY I;clear I hy b6 b9;go_wp2_with fail;go_quiet (fail);go_wp2_with fail;refine(a7.o _ (d0.o.trans (fJ ((fI w3).drewN _)))).mono ?_;rintro e w4 ⟨rfl,b3⟩;have a9:=hY ((b7.o.trans (fJ ((fI w3).drewN _))).trans b3);have I:=N.o;clear b3 a7 N u0 u1 u2 u3 u4 u5 u6;generalize Qda d (q+1)=c at I;by_cases hc:c=0
       ·subst hc
        rw[eh sM]at I;have N:=hY I.symm;clear I;go_wp2_with fail;go_roundw
        case rel=>exact⟨(i+1)+1,by go_num,a6,by rw[show prevK ok ((i+1)+1)=some kk from e7.o];exact N.o,a9.o⟩
        simp[intOf];omega
       rw[eu hc]at I;subst I;have g3:(r != 0)=true:=by simpa using hc
       have a1:=hY ((fJ HX.o).trans a9.o);clear hc;go_wp2_with fail;go_ret;exact⟨rfl,a1.o⟩
  obtain rfl:j=ok.length:=oM
  have g1:decide ((ok.length:Int)<(ok.length:Int))=false:=ej oM;have hz:r=0:=by rw[<-hm,<-e6.o,cP (l:=ov),QhA]
  subst hz;have HN:=hY ((fJ HX.o).trans hn);clear hn hm;go_wp2_with fail;go_ret;exact⟨rfl,HN.o⟩
 rw[eh h6]at hr;subst hr;have g6:(k==6)=false:=by simpa using h6
 go_wp2_with fail;go_ret;exact⟨rfl,fJ HX.o⟩
variable{sl so:Sl}
theorem QrM{v:Val}(h:RV w (Lt w) v sl so)(hL:Qi4 w):Calls prog 207 #[QbV v sl so] w λe w'=>e=.returned (.int .i64 (Qda v 1))/\Nw w w':=by
 have I:=(fI w).alloc #[.int .i64 v.kind,.bool v.b,.int .i64 v.i,.string v.t,.slice sl.a v.l.length sl.c,.slice so.a v.ok.length so.c] 34;have ho:=QpK _ v (ao _) (w.alloc (.cells #[.int .i64 v.kind,.bool v.b,.int .i64 v.i,.string v.t,.slice sl.a v.l.length sl.c,.slice so.a v.ok.length so.c] 34)) sl so 1 oN ((h.agree (I.agree λ_ h=>h)).mono λi hi=>ab hi I.size) (hL.nw (fJ I));obtain⟨HO,Z⟩:=Yb ho I;clear ho h I hL;go_in;go_wp2_with fail;refine HO.o.mono ?_;rintro e w1 ⟨rfl,N⟩;have HX:=hY ((fJ Z.o).trans N);clear N;go_wp2_with fail;go_ret;exact⟨rfl,HX.o⟩
mutual
def Qdv:Val->Nat
 |.mk k b i t l ok ov=>1+(if k=5 then Qb1 l else if k=6 then Qb1 ov else 0)
def Qb1:List Val->Nat
 |[]=>0
 |d::r=>max (Qdv d) (Qb1 r)
end
theorem Qfc:∀{l:List Val} {j:Nat} {d:Val},l[j]? = some d->Qb1 (l.take (j+1))=max (Qb1 (l.take j)) (Qdv d)
 |[],j,d,h=>by simp at h
 | x :: r,0,d,h=>by
   simp at h;subst h;simp[Qb1]
 | x :: r,j+1,d,h=>by
   have I:r[j]? = some d:=by simpa using h
   rw[bp,bp,Qb1,Qb1,Qfc I,Nat.max_assoc]
theorem Qii:∀{l:List Val} {j:Nat} {d:Val},l[j]? = some d->Qdv d<=Qb1 l
 |[],j,d,h=>by simp at h
 | x :: r,0,d,h=>by
   simp at h;subst h;rw[Qb1];exact Nat.le_max_left _ _
 | x :: r,j+1,d,h=>by
   have I:r[j]? = some d:=by simpa using h
   rw[Qb1];exact an (Qii I) (Nat.le_max_right _ _)
theorem Qx8(l:List Val)(j:Nat):Qb1 (l.take j)<=Qb1 l:=by
 induction l generalizing j with
 |nil=>simp
 | cons x r ih=>
   cases j with
   |zero=>simp[Qb1]
   |succ j=>rw[bp,Qb1,Qb1];have:=ih j;omega
mutual
theorem Qij:∀(v:Val) (q:Nat),Qda v q=0->Qdv v+q<=65
 | .mk k b i t l ok ov,q,h=>by
   unfold Qda at h;unfold Qdv;split at h
   .cases h
   split at h
   .cases h
   split at h
   ·rename_i h4
    subst h4;simp;omega
   split at h
   ·rename_i h5
    rw[eu h5];have:=Qjq l (q+1) h;omega
   split at h
   ·rename_i h5 h6
    rw[eh h5,eu h6];have:=Qjr _ _ ov (q+1) h;omega
   rename_i h5 h6;rw[eh h5,eh h6];omega
theorem Qjq:∀(l:List Val) (q:Nat),Qd8 l q=0->Qb1 l+q<=65\/Qb1 l=0
 |[],q,h=>.inr rfl
 | d :: r,q,h=>by
   rw[Qd8]at h;split at h
   .rename_i h1;exact absurd h h1
   rename_i h1;have h2:=Qij d q (by simpa using h1);have I:=Qjq r q h;rw[Qb1];left;omega
theorem Qjr:∀(p:Option ByteArray) (ks:List ByteArray) (l:List Val) (q:Nat),QhA p ks l q=0->Qb1 l+q<=65\/Qb1 l=0
 |p,ks,[],q,h=>.inr rfl
 | p,ks,d :: r,q,h=>by
   rw[QhA]at h;split at h
   .cases h
   split at h
   .cases h
   split at h
   .rename_i h1;exact absurd h h1
   rename_i h1;have h2:=Qij d q (by simpa using h1);have I:=Qjr _ _ r q h;rw[Qb1];left;omega
end
theorem Qm7(m:Nat):∀(d:Val),SizeOf.sizeOf d<=m->Qdv d<=1000000->∀(w:World) (sl so:Sl),RV w (Lt w) d sl so->
  Calls prog 208 #[QbV d sl so] w λe w'=>e=.returned (.int .i64 (Qdv d:Int))/\Ext w w':=by
 induction m with
 |zero=>intro d hd;have:=Val.Qb6 d;omega
 |succ m ih=>
 intro d hd c1 w sl so h;have HI:=hY ih;clear ih;obtain⟨k,b,i,t,l,ok,ov⟩:=d;show Calls _ _ #[.agg #[.int .i64 k,.bool b,.int .i64 i,.string t,.slice sl.a l.length sl.c,.slice so.a ok.length so.c]] _ _;cases h with
 |mk bl fl bo fo cl co hl ho hov el rl ek eo ro bk bi bt nl no=>
 have b9:∀(j:Nat) (d:Val),l[j]? = some d->SizeOf.sizeOf d<=m:=λj d hj=>bq (ab (Val.QtM hj) hd)
 have b8:∀(j:Nat) (d:Val),ov[j]? = some d->SizeOf.sizeOf d<=m:=λj d hj=>bq (ab (Val.QtN hj) hd)
 obtain⟨c6,c7,c9,c4,c3,c8,c0⟩:=Yh b9 b8 el rl eo ro hov;obtain⟨b0,a9⟩:=Yb hl ho;obtain⟨r,hr⟩:∃r,Qdv (.mk k b i t l ok ov)=r:=⟨_,rfl⟩;rw[hr]at c1 ⊢;unfold Qdv at hr;clear b9 b8 el rl eo ro hov hd;go_in;by_cases h5:k=5
 ·subst h5
  rw[eu rfl]at hr;go_wp2_with fail;generalize a8:World.alloc w _=w1;have a7:Ext w w1:=by rw[<-a8];exact(fI w).alloc _ _
  have HX:=hY a7;clear a8 a7;go_loopw[3,15] (λdp qq wr=>∃j:Nat,dp=.int .i64 (Qb1 (l.take j):Int)/\qq=.int .i64 j/\j<=l.length/\Ext w1 wr) (λ_ qq _=>l.length -(intOf qq).toNat)
  case atStart=>exact⟨0,rfl,rfl,aA _,fI _⟩
  obtain⟨j,rfl,rfl,hj,hn⟩:=hrel;by_cases a0:j<l.length
  ·have g1:(j:Int)<(l.length:Int):=oM
   have c2:decide ((j:Int)<(l.length:Int))=true:=em g1;obtain⟨d,hd⟩:∃d,l[j]? = some d:=⟨_,ac a0⟩;have I:Ext w wr:=HX.o.trans hn;have N:Agree (Lt w) w wr:=I.agree λ_ h=>h
   obtain⟨a3,b4,b6⟩:=b0.o.eq oM;have a1:=b0.o.fits (show 0<l.length by omega);obtain⟨sa,sc⟩:=sl;dsimp only at a3 b4 b6;subst a3;obtain⟨v0,v1,v2,v3,v4,v5⟩:=(c9.o j d hd).agree N a1;have lb:bl<wr:=ab a1 I.size;have b7:=Qii hd;have a2:∀W,Ext wr W->Calls prog 208 #[QbV d (cl j).1 (cl j).2] W λe w'=>e=.returned (.int .i64 (Qdv d:Int))/\Ext W w':=λW hW=>
    HI.o d (c6.o j d hd) oM W _ _ (((c4.o j d hd).agree (N.trans (hW.agree λ_ h=>ab h I.size))).mono λi hi=>ab hi (an I.size hW.size))
   have a4:=Qfc hd;obtain⟨a5,b3,HN⟩:=Yc a2 a4 hn;clear hd I N a2 hn a4 b7;go_wp2_with fail;have Z:=(fI wr).alloc #[.int .i64 d.kind,.bool d.b,.int .i64 d.i,.string d.t,.slice (cl j).1.a d.l.length (cl j).1.c,.slice (cl j).2.a d.ok.length (cl j).2.c] 34;refine(a5.o _ Z).mono ?_;rintro e w3 ⟨rfl,a6⟩;have b5:=hY ((HN.o.trans Z).trans a6);clear Z a6 v0 v1 v2 v3 v4 v5 a5 HN;go_wp2_with fail;go_roundw
   case rel=>exact⟨j+1,by rw[b3.o];go_num,by go_num,a0,b5.o⟩
   simp[intOf];omega
  obtain rfl:j=l.length:=oM
  have g1:decide ((l.length:Int)<(l.length:Int))=false:=ej oM;rw[aU];have g2:IntKind.i64.wrap (1+(Qb1 l:Int))=1+(Qb1 l:Int):=by rw[ey];omega
  have hz:(r:Int)=1+(Qb1 l:Int):=oM
  obtain⟨HZ,HN⟩:=Yb hz (HX.o.trans hn);clear hn hz;go_wp2_with fail;go_ret;exact⟨by rw[HZ.o];rfl,HN.o⟩
 rw[eh h5]at hr;have g5:(k==5)=false:=by simpa using h5
 by_cases h6:k=6
 ·subst h6
  rw[eu rfl]at hr;go_wp2_with fail;generalize a8:World.alloc w _=w1;have a7:Ext w w1:=by rw[<-a8];exact(fI w).alloc _ _
  have HX:=hY a7;clear a8 a7;go_loopw[3,29] (λdp qq wr=>∃j:Nat,dp=.int .i64 (Qb1 (ov.take j):Int)/\qq=.int .i64 j/\j<=ok.length/\Ext w1 wr) (λ_ qq _=>ok.length -(intOf qq).toNat)
  case atStart=>exact⟨0,rfl,rfl,aA _,fI _⟩
  obtain⟨j,rfl,rfl,hj,hn⟩:=hrel;by_cases a0:j<ok.length
  ·have g1:(j:Int)<(ok.length:Int):=oM
   have c2:decide ((j:Int)<(ok.length:Int))=true:=em g1;obtain⟨kk,hk⟩:∃kk,ok[j]? = some kk:=⟨_,ac a0⟩;obtain⟨d,hd⟩:∃d,ov[j]? = some d:=⟨_,ac (by rw[c0.o];exact a0)⟩;have I:Ext w wr:=HX.o.trans hn;have N:Agree (Lt w) w wr:=I.agree λ_ h=>h
   obtain⟨a3,b4,b6⟩:=a9.o.eq oM;have a1:=a9.o.fits (show 0<ok.length by omega);obtain⟨sa,sc⟩:=so;dsimp only at a3 b4 b6;subst a3;obtain⟨v0,v1,v2,v3,v4,v5⟩:=(c3.o j d hd).agree N a1;have lb:bo<wr:=ab a1 I.size;have kc:wr.cell? ⟨bo,fo+j*7,none⟩=some (.string kk):=(N.cell a1).trans (ek j kk hk).1;have b7:=Qii hd;have a2:∀W,Ext wr W->Calls prog 208 #[QbV d (co j).1 (co j).2] W λe w'=>e=.returned (.int .i64 (Qdv d:Int))/\Ext W w':=λW hW=>
    HI.o d (c7.o j d hd) oM W _ _ (((c8.o j d hd).agree (N.trans (hW.agree λ_ h=>ab h I.size))).mono λi hi=>ab hi (an I.size hW.size))
   have a4:=Qfc hd;obtain⟨a5,b3,HN⟩:=Yc a2 a4 hn;clear hd I N a2 hn a4 b7 hk;go_wp2_with fail;have Z:=(fI wr).alloc #[.string kk,.int .i64 d.kind,.bool d.b,.int .i64 d.i,.string d.t,.slice (co j).1.a d.l.length (co j).1.c,.slice (co j).2.a d.ok.length (co j).2.c] 124;refine(a5.o _ Z).mono ?_;rintro e w3 ⟨rfl,a6⟩;have b5:=hY ((HN.o.trans Z).trans a6);clear Z a6 v0 v1 v2 v3 v4 v5 kc a5 HN;go_wp2_with fail;go_roundw
   case rel=>exact⟨j+1,by rw[b3.o];go_num,by go_num,a0,b5.o⟩
   simp[intOf];omega
  obtain rfl:j=ok.length:=oM
  have g1:decide ((ok.length:Int)<(ok.length:Int))=false:=ej oM;rw[<-c0.o,aU];have g2:IntKind.i64.wrap (1+(Qb1 ov:Int))=1+(Qb1 ov:Int):=by rw[ey];omega
  have hz:(r:Int)=1+(Qb1 ov:Int):=oM
  obtain⟨HZ,HN⟩:=Yb hz (HX.o.trans hn);clear hn hz;go_wp2_with fail;go_ret;exact⟨by rw[HZ.o];rfl,HN.o⟩
 rw[eh h6]at hr;subst hr;have g6:(k==6)=false:=by simpa using h6
 go_wp2_with fail;go_ret;exact⟨rfl,(fI w).alloc _ _⟩
variable{B:Nat}
theorem Qr3{a b:Value}{m:Nat}(hB:Blk w B 275 (wrC a b m))(hm:m<=10000000) :
  Calls prog 255 #[.pointer (some ⟨B,0,none⟩)] w λe w'=>(∃r,e=.returned r)/\Blk w' B 275 (wrC a b (m+4))/\Sb (λc=>c=B) w w':=by
 have hj:=join_one (w:=w) ⟨#[110,117,108,108]⟩ hB hm oN;have HJ:=hY hj;clear hj hB;go_in;go_wp2_with fail;refine HJ.o.mono ?_;rintro e w1 ⟨⟨r,rfl⟩,I,N⟩;obtain⟨a0,Z⟩:=Yb I N;clear I N;go_wp2_with fail;go_end0;exact⟨⟨_,rfl⟩,a0.o,Z.o⟩
def Qut(x:Bool):Nat:=(ByteArray.mk (Lib.formatBool x).toArray).size
theorem Qtn(x:Bool):Qut x=if x then 4 else 5:=by cases x<;>decide
variable{V:Nat}
theorem QrY{a b:Value}{x:Bool}{m:Nat}{c0 c2 c3 c4 c5:Value}(hV:Blk w V 34 #[c0,.bool x,c2,c3,c4,c5])(hB:Blk w B 275 (wrC a b m))(hm:m<=10000000) :
  Calls prog 244 #[.pointer (some ⟨B,0,none⟩),.pointer (some ⟨V,0,none⟩)] w λe w'=>(∃r,e=.returned r)/\Blk w' B 275 (wrC a b (m+Qut x))/\Sb (λc=>c=B) w w':=by
 have hf:=λW=>Any.strconv_FormatBool Tryz.QiD x W
 have c1:w.cell? ⟨V,1,none⟩=some (.bool x):=hV.cell 1;obtain⟨HF,HB,HM⟩:=Yc hf hB hm;clear hf hV hB hm;go_in;go_wp2_with fail;refine(HF.o _).mono ?_;rintro e w1 ⟨rfl,rfl⟩;have hj:=join_one (w:=w1) ⟨(Lib.formatBool x).toArray⟩ HB.o HM.o (by cases x<;>decide);have HJ:=hY hj;clear hj c1;go_wp2_with fail;refine HJ.o.mono ?_;rintro e w2 ⟨⟨r,rfl⟩,N,I⟩;obtain⟨a0,Z⟩:=Yb N I;clear N I;go_wp2_with fail;go_end0;refine⟨⟨_,rfl⟩,?_,Z.o⟩;exact a0.o
open Go.Sort
def Tryz.QiC:Go.Shelf.Ren:=⟨λ| 197=>285|260=>290|n=>n,λ| 9=>9|21=>21|3=>3|4=>4|5=>5|105=>331|119=>301|0=>0|46=>162|139=>304|138=>303|n=>n,λ| 3=>1|4=>2|n=>n⟩
theorem Tryz.QpC:Go.Proofs.Lays.n197 prog Tryz.QiC:={
 mixed:=by kernel_rfl
 f197:=func285.trans (congrArg some kM)
 f260:=func290.trans (congrArg some kM)
 t0:=underlying0
 a0:=isAgg0
 z0:=sizeOf0
 v0:=zeroValue0
 t3:=underlying3
 a3:=isAgg3
 z3:=sizeOf3
 v3:=zeroValue3
 t4:=underlying4
 a4:=isAgg4
 z4:=sizeOf4
 v4:=zeroValue4
 t5:=underlying5
 a5:=isAgg5
 z5:=sizeOf5
 v5:=zeroValue5
 t9:=underlying9
 a9:=isAgg9
 z9:=sizeOf9
 v9:=zeroValue9
 t21:=underlying21
 a21:=isAgg21
 z21:=sizeOf21
 v21:=zeroValue21
 t46:=underlying162
 a46:=isAgg162
 z46:=sizeOf162
 v46:=zeroValue162
 t105:=underlying331
 a105:=isAgg331
 z105:=sizeOf331
 v105:=zeroValue331
 t119:=underlying301
 a119:=isAgg301
 z119:=sizeOf301
 t138:=underlying303
 a138:=isAgg303
 z138:=sizeOf303
 v138:=zeroValue303
 t139:=underlying304
 a139:=isAgg304
 z139:=sizeOf304
 v139:=zeroValue304
 g3:=by kernel_rfl
 g4:=by kernel_rfl }
def Tryz.Qd7:Go.Shelf.Ren:=⟨λ| 169=>277|n=>n,λ| 70=>271|9=>9|0=>0|72=>273|37=>249|127=>334|3=>3|5=>5|n=>n,λ| n=>n⟩
theorem Tryz.QfO:Go.Proofs.Lays.n169 prog Tryz.Qd7:={
 mixed:=by kernel_rfl
 f169:=func277.trans (congrArg some kM)
 t0:=underlying0
 a0:=isAgg0
 z0:=sizeOf0
 v0:=zeroValue0
 t3:=underlying3
 a3:=isAgg3
 z3:=sizeOf3
 v3:=zeroValue3
 t9:=underlying9
 a9:=isAgg9
 z9:=sizeOf9
 v9:=zeroValue9
 t37:=underlying249
 a37:=isAgg249
 z37:=sizeOf249
 v37:=zeroValue249
 t70:=underlying271
 a70:=isAgg271
 z70:=sizeOf271
 v70:=zeroValue271
 t72:=underlying273
 a72:=isAgg273
 z72:=sizeOf273
 v72:=zeroValue273
 t127:=underlying334
 a127:=isAgg334
 z127:=sizeOf334
 v127:=zeroValue334 }
def Tryz.QeR:Go.Shelf.Ren:=⟨λ| 166=>260|167=>272|168=>275|240=>267|276=>279|242=>286|278=>291|n=>n,λ| 37=>249|70=>271|72=>273|75=>306|80=>161|164=>325|46=>162|51=>268|n=>n,λ| n=>n⟩
theorem Tryz.Qhc:Go.Proofs.Lays.n166 prog Tryz.QeR:={
 mixed:=by kernel_rfl
 f166:=func260.trans (congrArg some kM)
 f240:=func267.trans (congrArg some kM)
 f276:=func279.trans (congrArg some kM)
 t0:=underlying0
 a0:=isAgg0
 z0:=sizeOf0
 v0:=zeroValue0
 t3:=underlying3
 a3:=isAgg3
 z3:=sizeOf3
 v3:=zeroValue3
 t4:=underlying4
 a4:=isAgg4
 z4:=sizeOf4
 v4:=zeroValue4
 t9:=underlying9
 a9:=isAgg9
 z9:=sizeOf9
 v9:=zeroValue9
 t20:=underlying20
 a20:=isAgg20
 z20:=sizeOf20
 v20:=zeroValue20
 t37:=underlying249
 a37:=isAgg249
 z37:=sizeOf249
 v37:=zeroValue249
 t70:=underlying271
 a70:=isAgg271
 z70:=sizeOf271
 v70:=zeroValue271
 t72:=underlying273
 a72:=isAgg273
 z72:=sizeOf273
 v72:=zeroValue273
 t75:=underlying306
 a75:=isAgg306
 z75:=sizeOf306
 v75:=zeroValue306
 t164:=underlying325
 a164:=isAgg325
 z164:=sizeOf325
 v164:=zeroValue325 }
def Tryz.QfS:Go.Shelf.Ren:=⟨λ| 166=>260|167=>272|168=>275|240=>267|276=>279|242=>286|278=>291|n=>n,λ| 37=>249|70=>271|72=>273|75=>306|80=>161|164=>325|46=>162|51=>268|n=>n,λ| n=>n⟩
theorem Tryz.QjT:Go.Proofs.Lays.n167 prog Tryz.QfS:={
 mixed:=by kernel_rfl
 f167:=func272.trans (congrArg some kM)
 f240:=func267.trans (congrArg some kM)
 f276:=func279.trans (congrArg some kM)
 t0:=underlying0
 a0:=isAgg0
 z0:=sizeOf0
 v0:=zeroValue0
 t4:=underlying4
 a4:=isAgg4
 z4:=sizeOf4
 v4:=zeroValue4
 t5:=underlying5
 a5:=isAgg5
 z5:=sizeOf5
 v5:=zeroValue5
 t9:=underlying9
 a9:=isAgg9
 z9:=sizeOf9
 v9:=zeroValue9
 t20:=underlying20
 a20:=isAgg20
 z20:=sizeOf20
 v20:=zeroValue20
 t37:=underlying249
 a37:=isAgg249
 z37:=sizeOf249
 v37:=zeroValue249
 t70:=underlying271
 a70:=isAgg271
 z70:=sizeOf271
 v70:=zeroValue271
 t72:=underlying273
 a72:=isAgg273
 z72:=sizeOf273
 v72:=zeroValue273
 t75:=underlying306
 a75:=isAgg306
 z75:=sizeOf306
 v75:=zeroValue306
 t164:=underlying325
 a164:=isAgg325
 z164:=sizeOf325
 v164:=zeroValue325 }
def Tryz.QfT:Go.Shelf.Ren:=⟨λ| 166=>260|167=>272|168=>275|240=>267|276=>279|242=>286|278=>291|n=>n,λ| 37=>249|70=>271|72=>273|75=>306|80=>161|164=>325|46=>162|51=>268|n=>n,λ| n=>n⟩
theorem Tryz.QjU:Go.Proofs.Lays.n168 prog Tryz.QfT:={
 mixed:=by kernel_rfl
 f168:=func275.trans (congrArg some kM)
 f240:=func267.trans (congrArg some kM)
 f242:=func286.trans (congrArg some kM)
 f276:=func279.trans (congrArg some kM)
 f278:=func291.trans (congrArg some kM)
 t0:=underlying0
 a0:=isAgg0
 z0:=sizeOf0
 v0:=zeroValue0
 t3:=underlying3
 a3:=isAgg3
 z3:=sizeOf3
 v3:=zeroValue3
 t4:=underlying4
 a4:=isAgg4
 z4:=sizeOf4
 v4:=zeroValue4
 t5:=underlying5
 a5:=isAgg5
 z5:=sizeOf5
 v5:=zeroValue5
 t9:=underlying9
 a9:=isAgg9
 z9:=sizeOf9
 v9:=zeroValue9
 t20:=underlying20
 a20:=isAgg20
 z20:=sizeOf20
 v20:=zeroValue20
 t21:=underlying21
 a21:=isAgg21
 z21:=sizeOf21
 v21:=zeroValue21
 t37:=underlying249
 a37:=isAgg249
 z37:=sizeOf249
 v37:=zeroValue249
 t46:=underlying162
 a46:=isAgg162
 z46:=sizeOf162
 v46:=zeroValue162
 t51:=underlying268
 a51:=isAgg268
 z51:=sizeOf268
 v51:=zeroValue268
 t70:=underlying271
 a70:=isAgg271
 z70:=sizeOf271
 v70:=zeroValue271
 t72:=underlying273
 a72:=isAgg273
 z72:=sizeOf273
 v72:=zeroValue273
 t75:=underlying306
 a75:=isAgg306
 z75:=sizeOf306
 v75:=zeroValue306
 t164:=underlying325
 a164:=isAgg325
 z164:=sizeOf325
 v164:=zeroValue325 }
theorem Qmq(w:World)(os:Array Obj):Nw w (Go.Sort.grow w os):=
 ⟨rfl,rfl,rfl,by simp[Go.Sort.grow],λi hi _=>by simp[Go.Sort.grow,Array.getElem?_append_left hi]⟩
theorem Qtb(n:Int)(I : -9223372036854775808<=n)(h1:n<=9223372036854775807)(N:Lib.TabIs prog w "internal/strconv.uint64pow10" .u64 Lib.pow10Tab):Qt0 n w:=
 (Any.strconv_FormatInt_10 Tryz.QfB n I h1 w N).mono λe w' h=>by
   obtain⟨Z,k,os,rfl⟩:=h;exact⟨_,Z,by have:=Lib.itoa_length_le n I h1;simpa[ByteArray.size]using this,(fJ ((fI w).drewN k)).trans (Qmq _ os)⟩
theorem QtT(s:ByteArray)(hs:s.size<=maxLen)(I:Lib.Utf8Tabs 1 2 w):Calls prog 242 #[.string s] w λe w'=>e=.returned (.bool (Lib.validD s.data.toList))/\Nw w w':=
 (Any.utf8_ValidString Tryz.QrD s w (an hs oN) I).mono λe w' h=>⟨h.1,Sb.new h.2⟩
variable{W:World}
theorem QsI(h:G5 w W)(I:Lib.TabIs prog w "internal/strconv.uint64pow10" .u64 Lib.pow10Tab):Lib.TabIs prog W "internal/strconv.uint64pow10" .u64 Lib.pow10Tab:=by
 have N:prog.globalNamed "internal/strconv.uint64pow10" =some 3:=kM
 unfold Lib.TabIs World.var? at *;rw[N]at I ⊢;simp only[Option.bind_some]at I ⊢;rw[h 3 oN];exact I
theorem QuW(h:G5 w W)(I:Lib.Utf8Tabs 1 2 w):Lib.Utf8Tabs 1 2 W:=by
 have N:∀b o,b<6->W.cell? ⟨b,o,none⟩=w.cell? ⟨b,o,none⟩:=λb o Z=>eL (w:=w) (a:=⟨b,o,none⟩) (h b Z)
 exact⟨λc h=>(N 1 _ oN).trans (I.1 c h),λi h=>⟨(N 2 _ oN).trans (I.2 i h).1,(N 2 _ oN).trans (I.2 i h).2⟩⟩
theorem QjB:Go.Pinned.utf8First=Lib.firstData:=kM
theorem Qhj:(Rows.laid_unicode_utf8_acceptRanges:DataW Unit)=Lib.acceptData:=kM
theorem Qqa:(Rows.laid_internal_strconv_uint64pow10:DataW Unit)=Lib.tabData .u64 Lib.pow10Tab:=kM
theorem n0:prog.globalNamed "unicode/utf8.first" =some 1:=kM
theorem n1:prog.globalNamed "unicode/utf8.acceptRanges" =some 2:=kM
theorem n3:prog.globalNamed "internal/strconv.uint64pow10" =some 3:=kM
theorem n5:prog.globalNamed "math/bits.deBruijn64tab" =some 5:=kM
theorem ty0:(prog.globals[1]?).map (·.type)=some 301:=kM
theorem ty1:(prog.globals[2]?).map (·.type)=some 304:=kM
theorem ty3:(prog.globals[3]?).map (·.type)=some 328:=kM
theorem c5:prog.cellsOf 5=1:=kM
theorem QvO:prog.cellsOf 22=1:=kM
theorem QvP:prog.cellsOf 301=256:=kM
theorem QvD:prog.cellsOf 303=2:=kM
theorem QvQ:prog.cellsOf 328=20:=kM
abbrev Qfi:List (String × DataW Unit):=[("math/bits.deBruijn32tab",Rows.laid_math_bits_deBruijn32tab),("math/bits.deBruijn64tab",Rows.laid_math_bits_deBruijn64tab),("internal/strconv.uint64pow10",Rows.laid_internal_strconv_uint64pow10),("unicode/utf8.acceptRanges",Rows.laid_unicode_utf8_acceptRanges),("unicode/utf8.first",Rows.laid_unicode_utf8_first)]
theorem Qmz(h3:Lib.VarReads prog w "unicode/utf8.first" Lib.firstData) (h4:Lib.VarReads prog w "unicode/utf8.acceptRanges" Lib.acceptData):Lib.Utf8Tabs 1 2 w:=by
 refine⟨λc hc=>?_,λi hi=>?_⟩
 ·obtain ⟨g,t,cs,a2,p,hg,a0,I,hd⟩:=h3
  obtain rfl:=Option.some.inj (n0.symm.trans hg);obtain rfl:=Option.some.inj (ty0.symm.trans a0);have Z:=Lib.cells_of_tab underlying301 underlying5 c5 QvP hd;rw[World.var?_cell hg I c,<-bJ,Z];simp[Lib.firstTab,hc]
 obtain⟨g,t,cs,a2,p,hg,a0,I,hd⟩:=h4;obtain rfl:=Option.some.inj (n1.symm.trans hg);obtain rfl:=Option.some.inj (ty1.symm.trans a0);obtain⟨a3,d,q,a1,he⟩:=Lib.array_elem underlying304 hd i hi;simp only[List.getElem?_map,List.getElem?_range hi,Option.map_some,Option.some.injEq]at a1;subst a1;rw[QvD]at he;have Z:=Lib.ints_of_struct underlying303 (λj f N=>by
  match j,N with
  |0,N=>simp at N;subst N;exact⟨underlying5,rfl,c5⟩
  |1,N=>simp at N;subst N;exact⟨underlying5,rfl,c5⟩
  |j+2,N=>simp at N) (by rw[QvD];rfl) he
 have e0:=congrArg (·[0]?) Z;have e1:=congrArg (·[1]?) Z;simp only[List.getElem?_take,List.getElem?_drop]at e0 e1;constructor
 ·rw [World.var?_cell hg I (2*i),←bJ]
  simpa[Nat.mul_comm]using e0
 rw[World.var?_cell hg I (2*i+1),<-bJ];simpa[Nat.mul_comm]using e1
theorem Qkm(h:Lib.VarReads prog w "internal/strconv.uint64pow10" (Lib.tabData .u64 Lib.pow10Tab)):Lib.TabIs prog w "internal/strconv.uint64pow10" .u64 Lib.pow10Tab:=by
 obtain⟨g,t,cs,Z,p,hg,N,I,hd⟩:=h;obtain rfl:=Option.some.inj (n3.symm.trans hg);obtain rfl:=Option.some.inj (ty3.symm.trans N);unfold Lib.TabIs;rw[I,<-Lib.cells_of_tab underlying328 underlying22 QvO QvQ hd]
theorem Qqk{d:DataW Unit}(h:Lib.VarReads prog w "math/bits.deBruijn64tab" d):6<=w.heap.size:=by
 obtain⟨g,t,cs,N,p,hg,a0,I,hd⟩:=h;unfold World.var? at I;rw[n5,dV]at I;have:(w.heap[5]?).isSome:=by
  cases Z:w.heap[5]? with
  |none=>rw[Z]at I;cases I
  |some o=>rfl
 have:=(az.1 (Option.some_get this).symm).1;omega
theorem Qtq(h:laidMetH prog Qfi w):Qi4 w:=by
 have I:laidMet prog Qfi w:=h;have Z:=Lib.laidMet.reads I (n:= "unicode/utf8.first") (d:=Rows.laid_unicode_utf8_first) (by simp[Qfi]);have ha:=Lib.laidMet.reads I (n:= "unicode/utf8.acceptRanges") (d:=Rows.laid_unicode_utf8_acceptRanges) (by simp[Qfi]);have hp:=Lib.laidMet.reads I (n:= "internal/strconv.uint64pow10") (d:=Rows.laid_internal_strconv_uint64pow10) (by simp[Qfi]);have hb:=Lib.laidMet.reads I (n:= "math/bits.deBruijn64tab") (d:=Rows.laid_math_bits_deBruijn64tab) (by simp[Qfi]);rw[show Rows.laid_unicode_utf8_first=Lib.firstData from QjB]at Z;rw[Qhj]at ha;rw[Qqa]at hp;exact⟨Qqk hb,λW N n h0 h1=>Qtb n h0 h1 (QsI N (Qkm hp)),λW N s hs=>QtT s hs (QuW N (Qmz Z ha))⟩
theorem Qu0(ρ:Go.Shelf.Ren)(h72:ρ.t 72=273)(h5:ρ.t 5=5):Builder.Extra prog ρ where
 sizeBuilder:=by rw[h72];kernel_rfl
 liesBuilder:=by rw[h72];kernel_rfl
 t5:=by rw[h5];exact underlying5
 a5:=by rw[h5];exact isAgg5
 z5:=by rw[h5];exact sizeOf5
 v5:=by rw[h5];exact zeroValue5
 infoByte:=by rw[h5];kernel_rfl
 cellsByte:=by rw[h5];kernel_rfl
 sizeByte:=by rw[h5];kernel_rfl
 neB5:=by rw[h72,h5];decide
abbrev Bld(B b:Nat)(bs:List Value)(w:World):Prop:=Lib.IsBuilderF 273 5 B b bs w
variable{bs:List Value}
theorem QbZ{B b:Nat}(c:Int)(h:Bld B b bs w)(I:bs.length+1<=140737488355328)(N:B<=w.heap.size) :
  Calls prog 272 #[.pointer (some ⟨b,0,none⟩),.int .u8 c] w λe w'=>e=.returned .nilIface/\Bld B b (bs++[.int .u8 c]) w'/\Below B w w'/\Lib.OthersKept 5 (some b) w w':=
 (Any.Builder_WriteByte_k Tryz.QjT (Qu0 _ rfl rfl) B b bs c w h I N).mono λe w' h=>⟨h.1,.inr h.2.1,h.2.2.1,h.2.2.2⟩
theorem QmM{B b:Nat}(s:ByteArray)(h:Bld B b bs w)(I:bs.length+s.size<=140737488355328)(N:B<=w.heap.size) :
  Calls prog 260 #[.pointer (some ⟨b,0,none⟩),.string s] w λe w'=>(∃r,e=.returned r)/\Bld B b (bs++Lib.strCells s) w'/\Below B w w'/\Lib.OthersKept 5 (some b) w w':=
 (Any.Builder_WriteString_k Tryz.Qhc (Qu0 _ rfl rfl) B b bs s w h I N).mono λe w' h=>⟨⟨_,h.1⟩,.inr h.2.1,h.2.2.1,h.2.2.2⟩
theorem Qg8{B b:Nat}(r:Int)(Z : -2147483648<=r)(I:r<=2147483647)(h:Bld B b bs w)(N:bs.length+4<=140737488355328)(hB:B<=w.heap.size) :
  Calls prog 275 #[.pointer (some ⟨b,0,none⟩),.int .i32 r] w λe w'=>e=.returned (.tuple #[.int .i64 (Lib.runeCells r).length,.nilIface])/\Bld B b (bs++Lib.runeCells r) w'/\Below B w w'/\Lib.OthersKept 5 (some b) w w':=
 (Any.Builder_WriteRune_k Tryz.QjU (Qu0 _ rfl rfl) B b bs r Z I w h N hB).mono λe w' h=>⟨h.1,.inr h.2.1,h.2.2.1,h.2.2.2⟩
def QmN(w:World):Prop:=∀W,G5 w W->∀s:ByteArray,Calls prog 285 #[.string s] W λe w'=>e=.returned (.tuple #[.int .i32 (Lib.decodeGo s).1,.int .i64 (Lib.decodeGo s).2])/\Nw W w'
theorem Quc(h:laidMetH prog Qfi w):QmN w:=λW hW s=>by
 have N:laidMet prog Qfi w:=h;have I:=Lib.laidMet.reads N (n:= "unicode/utf8.first") (d:=Rows.laid_unicode_utf8_first) (by simp[Qfi]);have Z:=Lib.laidMet.reads N (n:= "unicode/utf8.acceptRanges") (d:=Rows.laid_unicode_utf8_acceptRanges) (by simp[Qfi]);rw[show Rows.laid_unicode_utf8_first=Lib.firstData from QjB]at I;rw[Qhj]at Z;exact(Any.utf8_DecodeRuneInString Tryz.QpC s W (QuW hW (Qmz I Z))).mono λe w' h=>⟨h.1,Sb.new h.2⟩
variable{H:Nat->Prop}{w':World}
theorem QmN.sb(h:QmN w)(Z:6<=w.heap.size)(k:Sb H w w')(N:∀b,b<6->¬H b):QmN w':=λW I=>h W ((k.g5 Z N).trans I)
def Qb3(r:Int):Bool:=decide (32<=r)&&r != 34&&r != 92
theorem QnX(w:World)(r:Int):Calls prog 274 #[.int .i32 r] w λe w'=>e=.returned (.bool (Qb3 r))/\w'=w:=by
 by_cases h1:32<=r
 ·by_cases h2:r=34
  ·subst h2
   go_in;go_wp2_with fail;go_ret;exact⟨rfl,rfl⟩
  have g1:decide ((32:Int)<=r)=true:=em h1;have g2:(r != 34)=true:=by simpa using h2
  by_cases I:r=92
  ·subst I
   go_in;go_wp2_with fail;go_ret;exact⟨rfl,rfl⟩
  have N:(r != 92)=true:=by simpa using I
  have hs:Qb3 r=true:=by simp[Qb3,h1,h2,I]
  rw[hs];go_in;go_wp2_with fail;go_ret;exact⟨rfl,rfl⟩
 have g1:decide ((32:Int)<=r)=false:=ej h1;have hs:Qb3 r=false:=by simp[Qb3,h1]
 rw[hs];go_in;go_wp2_with fail;go_ret;exact⟨rfl,rfl⟩
def Qbb(s:ByteArray):Nat->Nat->List (Nat × Nat)
 |0,_=>[]
 |f+1,p=>if s.size<=p then[]else if Utf8.decode s p=(65533,1)then[]else(p,(Utf8.decode s p).1)::Qbb s f (p+(Utf8.decode s p).2)
def Qdn(s:ByteArray):List (Nat × Nat):=Qbb s s.size 0
theorem Qgs{s:ByteArray}{p:Nat}(h:p<s.size):1<=(Utf8.decode s p).2/\p+(Utf8.decode s p).2<=s.size/\(Utf8.decode s p).1<=1114111:=by
 refine⟨Lib.width_pos s p,?_,Lib.rune_le s p⟩;have:=Lib.decodeN_le_n (s.size-p) (s.get! p).toNat (s.get! (p+1)).toNat (s.get! (p+2)).toNat (s.get! (p+3)).toNat oM;rw[Lib.decode_at];omega
theorem Qdc(s:ByteArray):∀(f p:Nat),(Qbb s f p).length<=s.size-p
 |0,p=>aA _
 | f+1,p=>by
   unfold Qbb;split
   .simp
   split
   .simp
   have:=Qdc s f (p+(Utf8.decode s p).2);have:=Qgs (s:=s) (p:=p) oM;simp only[List.length_cons];omega
theorem QfH{s:ByteArray}:∀{f p:Nat} {x:Nat × Nat},x∈Qbb s f p->x.2<=1114111/\x.1<s.size
 |0,p,x,h=>by cases h
 | f+1,p,x,h=>by
   unfold Qbb at h;split at h
   .cases h
   split at h
   .cases h
   rcases aH.1 h with rfl|h
   .exact ⟨Lib.rune_le s p,by show p<_;omega⟩
   exact QfH h
theorem Qkq{s:ByteArray}{f p:Nat}(h:s.size<=p):Qbb s f p=[]:=by
 cases f with
 |zero=>rfl
 |succ f=>rw[Qbb,eu h]
theorem Qlx{s:ByteArray}{f p:Nat}(h:Utf8.decode s p=(65533,1)):Qbb s f p=[]:=by
 cases f with
 |zero=>rfl
 |succ f=>rw[Qbb,eu h,ite_self]
theorem QhI{s:ByteArray}{f p:Nat}(N:p<s.size)(I:s.size<=p+f)(h:Utf8.decode s p≠(65533,1)):Qbb s f p=(p,(Utf8.decode s p).1)::Qbb s (f-1) (p+(Utf8.decode s p).2):=by
 cases f with
 |zero=>omega
 |succ f=>rw[Qbb,eh oM,eh h];rfl
def Qbs(r:Nat):Option Nat:=if r=34 then some 34 else if r=92 then some 92 else if r=8 then some 98 else if r=9 then some 116 else if r=10 then some 110 else if r=12 then some 102 else if r=13 then some 114 else none
def Qom(k:Nat):UInt8:=if k<10 then(48+k).toUInt8 else(87+k).toUInt8
def QcZ(r:Nat):List UInt8:=if Qb3 r then Lib.encodeRune r else match Qbs r with
 |some c=>[92,c.toUInt8]
 |none=>[92,117,48,48,Qom (r/16),Qom (r%16)]
def Qbo(l:List (Nat × Nat)):List UInt8:=(l.map λx=>QcZ x.2).flatten
def QdG(s:ByteArray):List UInt8:=34::Qbo (Qdn s)++[34]
theorem Qep(l:List (Nat × Nat))(x:Nat × Nat):Qbo (l++[x])=Qbo l++QcZ x.2:=by simp[Qbo]
theorem QnM(r:Nat):(QcZ r).length<=6:=by
 unfold QcZ;split
 ·have:=Lib.runeCells_le r
  rw[Lib.runeCells_length]at this;omega
 split<;>simp
theorem QdZ:∀l:List (Nat × Nat),(Qbo l).length<=6*l.length
 |[]=>by simp[Qbo]
 | x :: r=>by
   have:=QdZ r;have:=QnM x.2;simp only[Qbo,List.map_cons,List.flatten_cons,List.length_append,List.length_cons]at *;omega
theorem QnO(s:ByteArray):(QdG s).length<=6*s.size+2:=by
 have h1:=QdZ (Qdn s);have h2:=Qdc s s.size 0;unfold QdG Qdn at *;simp only[List.length_cons,List.length_append,List.length_nil];omega
variable{P:Program}
theorem QaA{l n:Nat}{f:FuncId}{args:Array Value}{R:Ending->World->Prop}(h:Calls P f args w R):CallsIn (Fence.wide.inRound l) n P f args w R:=ez.2 h
def Qt5{α:Type}(P:Program)(l:Nat)(encs:α->Array Value)(K:Nat->Prop)(G:List α->α->World->World->Prop)(J Jx:List α->World->Prop):Prop:=
 ∀pre x W0 W1,J pre W0->Nw W0 W1->G pre x W0 W1->YieldAt Fence.wide 4 P l (encs x) W1 λe W'=>
  (e=.returned (.bool true)/\J (pre++[x]) W'/\Agree K W1 W'/\W1.heap.size<=W'.heap.size)\/(e=.returned (.bool false)/\Jx (pre++[x]) W')
def Qve{α:Type}(P:Program)(g:Nat)(lb:Array Value)(encs:α->Array Value)(K:Nat->Prop)(G:List α->α->World->World->Prop)(S Sp:List α->Prop)(w0:World):Prop:=
 ∀(l:Nat) (J Jx:List α->World->Prop) (W:World),Qt5 P l encs K G J Jx->Agree K w0 W->w0.heap.size<=W.heap.size->J [] W->
  Calls P g (#[.func (.yield l) #[] #[]]++lb) W λe W'=>(∃v,e=.returned v)/\((∃xs W0,S xs/\J xs W0/\Nw W0 W')\/(∃pre W0,Sp pre/\Jx pre W0/\Nw W0 W'))
def Qr6{α:Type}(K:Nat->Prop)(I:List α->World->Prop)(Ix:Code->List α->World->Prop)(xs:List α)(W:World):Exit->Act->World->Prop
 |.normal,_,W'=>I xs W'/\Agree K W W'/\W.heap.size<=W'.heap.size
 |.ret,_,W'=>Agree K W W'/\Ix .ret xs W'
 |.exit id,_,W'=>Agree K W W'/\Ix (.exit id) xs W'
 |.goto t,_,W'=>Agree K W W'/\Ix (.goto t) xs W'
 |.panic _,_,_=>False
 |.outgrown,_,_=>False
variable{n gf:Nat}{assign body:Code}{Q:Exit->Act->World->Prop}{a:Act}{w0:World}
theorem Qg7{α:Type}{g:Operand}{ps:Array Tmp} 
 {lb:Array Value} (hg:a.eval g=.func (.func gf) #[] lb) (eg:∀ args w,(callFunc gf args).run P w=.ok (.enter gf args) w)
  {encs:α->Array Value} {K:Nat->Prop} {G:List α->α->World->World->Prop} {S Sp:List α->Prop} (hseq:Qve P gf lb encs K G S Sp w0)
  (hA:Agree K w0 w) (hsz:w0.heap.size<=w.heap.size) (hK:∀b,K b->b<w.heap.size) (hps:∀x,(encs x).size=ps.size)
  (I:List α->World->Prop) (Ix:Code->List α->World->Prop)
  (hI:∀{s W W'},I s W->Sb (λb=>b=w.heap.size+1) W W'->(∃r,W.heap[w.heap.size+1]? = some (.loop r))->(∃r,W'.heap[w.heap.size+1]? = some (.loop r))->I s W') (hIx:∀{c s W W'},Ix c s W->Sb (λb=>b=w.heap.size+1) W W'->(∃r,W.heap[w.heap.size+1]? = some (.loop r))->(∃r,W'.heap[w.heap.size+1]? = some (.loop r))->Ix c s W')
  (h0:∀W,Ext w W->w.heap.size+2<=W.heap.size->I [] W)
  (hround:∀(pre:List α) (x:α) (W0 W1:World),I pre W0->w.heap.size+2<=W0.heap.size->Nw W0 W1->G pre x W0 W1->
    assign.wpIn (Fence.wide.inRound (w.heap.size+1)) 4 P (Exit.then (λa1 W2=>Nw W1 W2/\∀W3,Sb (λb=>b=w.heap.size+1) W2 W3->(∃r,W2.heap[w.heap.size+1]? = some (.loop r))->(∃r,W3.heap[w.heap.size+1]? = some (.loop r))->W3.heap[w.heap.size]? = some (.deferred (some []))->body.wpIn (Fence.wide.inRound (w.heap.size+1)) 4 P (Qr6 (λb=>K b\/b=w.heap.size\/b=w.heap.size+1) I Ix (pre++[x]) W3) a1 W3) (λ_ _ _=>False))
     { tmps:=(ps.zip (encs x)).foldl (λt (p,v)=>t.setIfInBounds p v) a.tmps,defers:=[] } W1)
  (hdone:∀(D:Nat) (xs:List α) (W:World),D=w.heap.size->S xs->I xs W->W.heap[D]? = some (.deferred (some []))->Q .normal { a with defers:={ target:=.collected D,args:=#[] }::a.defers } W)
  (hstop:∀(D:Nat) (c:Code) (pre:List α) (W:World),D=w.heap.size->Sp pre->Ix c pre W->W.heap[D]? = some (.deferred (some []))->c.wpIn Fence.wide n P Q { a with defers:={ target:=.collected D,args:=#[] }::a.defers } W) :
  (Code.rangeFunc g ps assign body).wpIn Fence.wide n P Q a w:=by
 refine wpIn_rangeFunc λfn hfn=>?_
 rw[show Fence.wide.round=none from rfl]
 let rec_:LoopState->Option Code->Obj:=λst pe=>.loop { state:=st,pending:=pe,fn,tmps:=a.tmps,params:=ps,assign,body,defers:=w.heap.size }
 let BK:LoopState->Option Code->World->Prop:=λst pe W=>W.heap[w.heap.size+1]? = some (rec_ st pe)/\W.heap[w.heap.size]? = some (.deferred (some []))
 have bkL:∀{st pe W},BK st pe W->w.heap.size+1<W.heap.size:=λh=>(az.1 h.1).1
 have bkr:∀{st pe W},BK st pe W->∃r,W.heap[w.heap.size+1]? = some (.loop r):=λh=>⟨_,h.1⟩
 have bkE:∀{st pe W W'},BK st pe W->Nw W W'->BK st pe W':=λh he=>⟨(he.block _ (az.1 h.1).1 (λe=>e)).trans h.1,(he.block _ (az.1 h.2).1 (λe=>e)).trans h.2⟩
 have bkS:∀{st pe W W'} {C:Nat->Prop},BK st pe W->Agree C W W'->C (w.heap.size+1)->C w.heap.size->BK st pe W':=λh hk h1 h2=>⟨(hk _ h1).trans h.1,(hk _ h2).trans h.2⟩
 have bkP:∀{st pe W} (st':LoopState) (pe':Option Code),BK st pe W->BK st' pe' (W.putObj (w.heap.size+1) (rec_ st' pe'))/\Sb (λb=>b=w.heap.size+1) W (W.putObj (w.heap.size+1) (rec_ st' pe')):=λst' pe' h=>
  ⟨⟨World.putObj_heap_same (az.1 h.1).1,(eY oM).trans h.2⟩,(St.put h.1 rfl rfl).sb⟩
 have e1:Ext w (w.alloc (.deferred (some []))):=Qfe w _ λW i j h=>by simp[World.frozen?,h]
 have e2:Ext (w.alloc (.deferred (some []))) ((w.alloc (.deferred (some []))).alloc (rec_ .ready none)):=Qfe _ _ λW i j h=>by simp[World.frozen?,h,rec_]
 have hrun:=run_enterLoop_outer (P:=P) (w:=w) fn a.tmps ps assign body;have bk1:BK .ready none ((w.alloc (.deferred (some []))).alloc (rec_ .ready none)):=
  ⟨by have:=eX (w.alloc (.deferred (some []))) (rec_ .ready none);rwa[ew]at this,(eJ _ _ _ sM).trans (eX w _)⟩
 have eW:=e1.trans e2;have hs1:w.heap.size+2<=((w.alloc (.deferred (some []))).alloc (rec_ .ready none)).heap.size:=sM
 change _=Result.ok _ ((w.alloc (.deferred (some []))).alloc (rec_ .ready none))at hrun;generalize (w.alloc (.deferred (some []))).alloc (rec_ .ready none)=W1 at *;refine⟨w.heap.size+1,_,W1,{ target:=.fn (.func gf) lb,args:=#[.func (.yield (w.heap.size+1)) #[] #[]] },W1,gf,#[.func (.yield (w.heap.size+1)) #[] #[]]++lb,W1,hrun,?_,?_,?_,λh=>by simp[Fence.wide]at h,?_⟩
 ·simp only [resolve,hg]
  simp[go_sem]
 .intro f' hf';trivial
 .simp [invoke,go_sem,eg]
 refine ez.2 ((hseq (w.heap.size+1) (λpre W=>I pre W/\BK .ready none W) (λpre W=>∃c,Ix c pre W/\BK .done (some c) W) W1 ?_ (hA.trans (eW.agree hK)) (an hsz eW.size) ⟨h0 W1 eW hs1,bk1⟩).mono ?_)
 ·rintro pre x W0 Wy ⟨hi,hbk⟩ hx hgd
  have hbk1:=bkE hbk hx;have hl0:=bkL hbk;refine⟨fn,_,assign,body,run_yield (args:=encs x) hbk1.1 (hps x),roundIn_of_wpIn hfn (fH (hround pre x W0 Wy hi oM hx hgd) ?_)⟩;rintro e a3 W2 hp;cases e with
  | normal=>
    obtain⟨hx2,hb⟩:=hp;have hbk2:=bkE hbk1 hx2;obtain⟨hbk3,ht3⟩:=bkP .busy none hbk2;refine⟨_,run_beginRound hbk2.1 rfl,fH (hb _ ht3 (bkr hbk2) (bkr hbk3) hbk3.2) ?_⟩;have hl3:=bkL hbk3;have hl2:=bkL hbk2;have hl1:=bkL hbk1;generalize W2.putObj (w.heap.size+1) (rec_ .busy none)=W3 at *;rintro e a4 W4 hq;cases e with
    | normal=>
      obtain⟨hi4,hst,hlt4⟩:=hq;have hbk4:=bkS hbk3 hst (.inr (.inr rfl)) (.inr (.inl rfl));obtain⟨hbk5,ht5⟩:=bkP .ready none hbk4;refine⟨_,_,eT none hbk4.1,.inl ⟨rfl,⟨hI hi4 ht5 (bkr hbk4) (bkr hbk5),hbk5⟩,λb hb=>?_,?_⟩⟩
      ·have hbw:=hK b hb
       have h1:=hx2.block b oM (λe=>e);have h2:=ht3.block b oM (λe=>oM);have h3:=hst b (.inl hb);have h4:=ht5.block b (by have:=bkL hbk4;omega) (λe=>oM);exact h4.trans (h3.trans (h2.trans h1))
      have:=hx2.size;have:=ht3.size;simp;omega
    | ret=>
      have hbk4:=bkS hbk3 hq.1 (.inr (.inr rfl)) (.inr (.inl rfl));obtain⟨hbk5,ht5⟩:=bkP .done (some .ret) hbk4;exact⟨_,_,eT (some .ret) hbk4.1,.inr ⟨rfl,.ret,hIx hq.2 ht5 (bkr hbk4) (bkr hbk5),hbk5⟩⟩
    | exit id=>
      have hbk4:=bkS hbk3 hq.1 (.inr (.inr rfl)) (.inr (.inl rfl));obtain⟨hbk5,ht5⟩:=bkP .done (some (.exit id)) hbk4;exact⟨_,_,eT (some (.exit id)) hbk4.1,.inr ⟨rfl,.exit id,hIx hq.2 ht5 (bkr hbk4) (bkr hbk5),hbk5⟩⟩
    | goto t=>
      have hbk4:=bkS hbk3 hq.1 (.inr (.inr rfl)) (.inr (.inl rfl));obtain⟨hbk5,ht5⟩:=bkP .done (some (.goto t)) hbk4;exact⟨_,_,eT (some (.goto t)) hbk4.1,.inr ⟨rfl,.goto t,hIx hq.2 ht5 (bkr hbk4) (bkr hbk5),hbk5⟩⟩
    |panic ch=>exact hq.elim
    |outgrown=>exact hq.elim
  |ret=>exact hp.elim
  |exit id=>exact hp.elim
  |goto t=>exact hp.elim
  |panic ch=>exact hp.elim
  |outgrown=>exact hp.elim
 rintro e W2 ⟨⟨v,rfl⟩,(⟨xs,W0,hS,⟨hi,hbk⟩,hx⟩ |⟨pre,W0,hSp,⟨c,hi,hbk⟩,hx⟩)⟩
 ·have hbk2:=bkE hbk hx
  have hbk0:=hbk;obtain⟨hbk5,ht5⟩:=bkP .exhausted none hbk2;exact⟨none,_,fF hbk2.1 sM,hdone _ xs _ rfl hS (hI hi ((hx.any _).trans ht5) (bkr hbk0) (bkr hbk5)) hbk5.2⟩
 have hbk2:=bkE hbk hx;have hbk0:=hbk;obtain⟨hbk5,ht5⟩:=bkP .exhausted (some c) hbk2;exact⟨some c,_,fF hbk2.1 sM,hstop _ c pre _ rfl hSp (hIx hi ((hx.any _).trans ht5) (bkr hbk0) (bkr hbk5)) hbk5.2⟩
abbrev fr:=@callsIn_of_wp
attribute [local go_sem] Oper.semAt_some
theorem Qqq(w:World)(s:ByteArray):Calls prog 273 #[.string s] w λe w'=>e=.returned (.func (.func 284) #[] #[.pointer (some ⟨w,0,none⟩)])/\Ext w w'/\Blk w' w.heap.size 9 #[.string s]:=by
 go_in;go_wp2_with fail;go_ret;exact⟨rfl,(fI w).alloc _ _,fK w _ _⟩
abbrev Qo8(x:Nat × Nat):Array Value:=#[.int .i64 (x.1:Int),.int .i32 (x.2:Int)]
def Qh1(s:ByteArray)(xs:List (Nat × Nat)):Prop:=xs=Qdn s
def Qvc(s:ByteArray)(pre:List (Nat × Nat))(x:Nat × Nat)(W0 W1:World):Prop:=(Qdn s)[pre.length]? = some x
structure QkT(s:ByteArray)(J:List (Nat × Nat)->World->Prop)(K:Nat->Prop)(W:World)(p f:Nat)(pre:List (Nat × Nat))(Wj wr:World):Prop where
 inv:J pre Wj
 nw:Nw Wj wr
 pre_:Qdn s=pre++Qbb s f p
 few:s.size<=p+f
 ag:Agree K W wr
 sz:W.heap.size<=wr.heap.size
theorem QkT.grow{s:ByteArray}{J:List (Nat × Nat)->World->Prop}{K:Nat->Prop}{p f:Nat}{pre:List (Nat × Nat)}{Wj wr w6:World}(h:QkT s J K W p f pre Wj wr)(N:∀b,K b->b<W.heap.size)(k:Nw wr w6):QkT s J K W p f pre Wj w6:=
 ⟨h.inv,h.nw.trans k,h.pre_,h.few,h.ag.trans (k.agree λb I=>ab (N b I) h.sz),an h.sz k.size⟩
theorem QnR{s:ByteArray}{J:List (Nat × Nat)->World->Prop}{K:Nat->Prop}{p f r z:Nat}{pre:List (Nat × Nat)}{Wj wr w6:World}(h:QkT s J K W p f pre Wj wr)(Z:p<s.size)(hd:Utf8.decode s p=(r,z))(hz:1<=z)(N:Utf8.decode s p≠(65533,1))
  (I:J (pre++[(p,r)]) w6) (ha:Agree K wr w6) (hs:wr.heap.size<=w6.heap.size):QkT s J K W (p+z) (f-1) (pre++[(p,r)]) w6 w6:=by
 refine⟨I,fM _ _,?_,?_,h.ag.trans ha,an h.sz hs⟩
 .rw [h.pre_,QhI Z h.few N,hd,aN];rfl
 have:=h.few;omega
theorem Qqr{s:ByteArray}(hB:Blk w0 B 9 #[.string s])(hD:QmN w0)(h6:6<=w0.heap.size)(hs:s.size<=1000000000000) :
  Qve prog 284 #[.pointer (some ⟨B,0,none⟩)] Qo8 (λb=>b=B\/b<6) (Qvc s) (Qh1 s) (λ_=>True) w0:=by
 intro l J Jx W b7 hA c3 hJ;have b9:=hB.lt;have b4:∀b,(b=B\/b<6)->b<W.heap.size:=λb hb=>by rcases hb with rfl|hb<;>omega
 have a6:∀W1,Agree (λb=>b=B\/b<6) W W1->W.heap.size<=W1.heap.size->W1.cell? ⟨B,0,none⟩=some (.string s)/\B<W1.heap.size/\G5 w0 W1:=λW1 hW hz=>
  ⟨(hW.cell (.inl rfl)).trans ((eL (w:=w0) (a:=⟨B,0,none⟩) (hA B (.inl rfl))).trans (hB.cell 0)),oM,
    λb hb=>(hW b (.inr hb)).trans (hA b (.inr hb))⟩
 have a3:∀W1 p r z,Agree (λb=>b=B\/b<6) W W1->W.heap.size<=W1.heap.size->p<s.size->Utf8.decode s p=(r,z)->Calls prog 285 #[.string (s.extract p s.size)] W1 λe w'=>e=.returned (.tuple #[.int .i32 (r:Int),.int .i64 (z:Int)])/\Nw W1 w':=λW1 p r z hW hz hp hd=>by
  have h:=hD W1 (a6 W1 hW hz).2.2 (s.extract p s.size);rw[Lib.decodeGo_extract s p hp,hd]at h;exact h
 obtain⟨b8,c2,HJ,b3,c4⟩:=Yf b7 a6 hJ a3 b4;clear b7 hA hJ hB a6 a3 hD h6 b9 c3 b4;show Calls _ _ #[.func (.yield l) #[] #[],.pointer (some ⟨B,0,none⟩)] W _;refine(ez (n:=5)).1 ?_;refine fr func284 rfl trivial ?_ rfl;simp only[ntmps284,List.size_toArray,List.length_cons,List.length_nil,Nat.reduceAdd,Nat.reduceSub,Array.replicate_succ,Array.replicate_zero,List.push_toArray,List.append_toArray,List.nil_append,List.cons_append];gi_wp2_with fail;gi_loopw [3] (λv wr=>∃(p f:Nat) (pre:List (Nat × Nat)) (Wj:World),v=.int .i64 (p:Int)/\p<=s.size/\Yd (QkT s J (λb=>b=B\/b<6) W p f pre Wj wr)) (λv _=>s.size -(intOf v).toNat)
 case atStart=>exact⟨0,s.size,[],W,rfl,aA _,hY ⟨HJ.o,fM _ _,rfl,oM,Agree.refl _,ao _⟩⟩
 obtain⟨p,f,pre,Wj,rfl,hp,HS⟩:=hrel;obtain⟨c0,lB,-⟩:=c2.o wr HS.o.ag HS.o.sz;by_cases a2:p<s.size
 ·obtain ⟨r,z,hd⟩:∃ r z,Utf8.decode s p=(r,z):=⟨_,_,rfl⟩
  obtain⟨Z,a0,hr⟩:=Qgs a2;rw[hd]at Z a0 hr;dsimp only at Z a0 hr;have b5:=b3.o wr p r z HS.o.ag HS.o.sz a2 hd;have g1:(p:Int)<(s.size:Int):=oM
  have g2:(0:Int)<=(p:Int):=oM
  have g3:(p:Int)<=(s.size:Int):=oM
  have g4:IntKind.i64.wrap ((p:Int)+(z:Int))=(p:Int)+(z:Int):=by rw[ey];omega
  obtain⟨c1,HD⟩:=Yb b5 hd;clear b5 hd;gi_wp2_with fail;refine⟨trivial,?_⟩;refine(ez.2 c1.o).mono ?_;rintro e w2 ⟨rfl,a9⟩;have N:=hY (HS.o.grow c4.o a9);clear a9;by_cases I:r=65533/\z=1
  ·obtain ⟨rfl,rfl⟩:=I
   have HE:=hY (show Qh1 s pre by show pre=Qdn s;rw[N.o.pre_,Qlx HD.o,aW]);gi_wp2_with fail;refine eB (v:=.tuple #[]) (by simp[results,results284,go_sem]) rfl ?_;exact⟨⟨_,rfl⟩,.inl ⟨pre,Wj,HE.o,N.o.inv,N.o.nw⟩⟩
  have a4:Utf8.decode s p≠(65533,1):=by rw[HD.o];intro e;injection e with e1 e2;exact I ⟨e1,e2⟩
  have hy:=b8.o pre (p,r) Wj w2 N.o.inv N.o.nw (by show _[_]? = _;rw[N.o.pre_,QhI a2 N.o.few a4,HD.o,aQ (ao _),cD];rfl);obtain⟨fn,c8,assign,body,hy,hR⟩:=hy;obtain⟨HR,c7,a5⟩:=Yc hR a4 Z;dsimp only[Qo8]at hy;clear hR a4;have b6:∀(e:Ending) (w':World),((e=.returned (.bool true)/\J (pre++[(p,r)]) w'/\Agree (λb=>b=B\/b<6) w2 w'/\w2.heap.size<=w'.heap.size)\/(e=.returned (.bool false)/\Jx (pre++[(p,r)]) w'))->
    (e=.returned (.bool true)/\Yd (QkT s J (λb=>b=B\/b<6) W (p+z) (f-1) (pre++[(p,r)]) w' w'))\/(e=.returned (.bool false)/\Jx (pre++[(p,r)]) w'):=by
   rintro e w' (⟨rfl,h1,h2,h3⟩ |⟨rfl,h1⟩)
   .exact .inl ⟨rfl,hY (QnR N.o a2 HD.o a5.o c7.o h1 h2 h3)⟩
   exact .inr ⟨rfl,h1⟩
  have b0:=hY b6;clear b6;by_cases a1:r=65533
  ·have c6:z≠1:=fun e=>I ⟨a1,e⟩
   have b1:((r:Int)==65533)=true:=by simp[a1]
   have b2:((z:Int)==1)=false:=by simp;omega
   clear a1 c6 I Z;gi_wp2_with fail;refine HR.o.mono ?_;intro e w6 h6;rcases b0.o e w6 h6 with⟨rfl,a8⟩ |⟨rfl,a7⟩
   ·clear h6 hy
    gi_wp2_with fail;go_roundw
    case rel=>exact⟨p+z,f-1,_,w6,by go_num,a0,a8⟩
    have:=a5.o;simp[intOf];omega
   clear h6 hy;gi_wp2_with fail;refine eB (v:=.tuple #[]) (by simp[results,results284,go_sem]) rfl ?_;exact⟨⟨_,rfl⟩,.inr ⟨_,w6,trivial,a7,fM _ _⟩⟩
  have b1:((r:Int)==65533)=false:=by simp;omega
  clear a1 I Z;gi_wp2_with fail;refine HR.o.mono ?_;intro e w6 h6;rcases b0.o e w6 h6 with⟨rfl,a8⟩ |⟨rfl,a7⟩
  ·clear h6 hy
   gi_wp2_with fail;go_roundw
   case rel=>exact⟨p+z,f-1,_,w6,by go_num,a0,a8⟩
   have:=a5.o;simp[intOf];omega
  clear h6 hy;gi_wp2_with fail;refine eB (v:=.tuple #[]) (by simp[results,results284,go_sem]) rfl ?_;exact⟨⟨_,rfl⟩,.inr ⟨_,w6,trivial,a7,fM _ _⟩⟩
 obtain rfl:p=s.size:=oM
 have HE:=hY (show Qh1 s pre by show pre=Qdn s;rw[HS.o.pre_,Qkq (ao _),aW]);have g1:¬(s.size:Int)<(s.size:Int):=oM
 gi_wp2_with fail;go_end0;exact⟨⟨_,rfl⟩,.inl ⟨pre,HE.o,Wj,HS.o.inv,HS.o.nw⟩⟩
end Go.Proofs.YtdiecmkpbadgjaaGreatDoor
namespace Go.Proofs.YtdiecmkpbadgjaaGreatDoor
open Go.Proofs.Tryz
open Go.RowKit Go.Maps Go.Shelf
theorem QdJ:Keyed prog 21:=int_keyed (q:=.i32) underlying21
abbrev QdD(D:DataW Unit)(r c:Int):DataW Unit:=D.put (.int .i32 r) (.lit (.int .i32 c))
def QeS:DataW Unit:=QdD (QdD (QdD (QdD (QdD (QdD (QdD (.map []) 34 34) 92 92) 8 98) 9 116) 10 110) 12 102) 13 114
theorem Qch{D:DataW Unit}(I:IsMap D)(r c:Int):IsMap (QdD D r c):=I.put _ _
theorem Qc5{D:DataW Unit}(I:IsMap D)(r c x:Int):Maps.has (QdD D r c) (.int .i32 x)=(decide (x=r)||Maps.has D (.int .i32 x)):=by
 by_cases h:x=r
 .subst h;rw[QdD,has_put_same I (show WideAt.IsKeyLit (.int .i32 x)from trivial)];simp
 rw[QdD,has_put_other (λe=>h (by injection e))];simp[h]
theorem Qei{D:DataW Unit}(I:IsMap D)(r c x:Int)(z:DataW Unit):(QdD D r c).atKey (.int .i32 x) z=if x=r then .lit (.int .i32 c)else D.atKey (.int .i32 x) z:=by
 by_cases h:x=r
 .subst h;rw[QdD,atKey_put_same I (show WideAt.IsKeyLit (.int .i32 x)from trivial),eu rfl]
 rw[QdD,atKey_put_other (λe=>h (by injection e)),eh h]
theorem Qpq:IsMap (.map []:DataW Unit):=⟨_,rfl⟩
theorem Qpr:IsMap (QdD (.map []) 34 34):=Qch Qpq _ _
theorem Qps:IsMap (QdD (QdD (.map []) 34 34) 92 92):=Qch Qpr _ _
theorem Qpt:IsMap (QdD (QdD (QdD (.map []) 34 34) 92 92) 8 98):=Qch Qps _ _
theorem Qpu:IsMap (QdD (QdD (QdD (QdD (.map []) 34 34) 92 92) 8 98) 9 116):=Qch Qpt _ _
theorem Qpv:IsMap (QdD (QdD (QdD (QdD (QdD (.map []) 34 34) 92 92) 8 98) 9 116) 10 110):=Qch Qpu _ _
theorem QsC:IsMap (QdD (QdD (QdD (QdD (QdD (QdD (.map []) 34 34) 92 92) 8 98) 9 116) 10 110) 12 102):=Qch Qpv _ _
theorem Qlf(r:Nat):Maps.has QeS (.int .i32 (r:Int))=(Qbs r).isSome:=by
 have I:Maps.has (.map []:DataW Unit) (.int .i32 (r:Int))=false:=rfl;rw[QeS,Qc5 QsC,Qc5 Qpv,Qc5 Qpu,Qc5 Qpt,Qc5 Qps,Qc5 Qpr,Qc5 Qpq,I];unfold Qbs
 repeat' split
 all_goals (try subst_vars)
 all_goals simp
 all_goals omega
theorem Qns(r:Nat):QeS.atKey (.int .i32 (r:Int)) (.lit (.int .i32 0))=.lit (.int .i32 (((Qbs r).getD 0:Nat):Int)):=by
 have I:(.map []:DataW Unit).atKey (.int .i32 (r:Int)) (.lit (.int .i32 0))=.lit (.int .i32 0):=rfl;rw[QeS,Qei QsC,Qei Qpv,Qei Qpu,Qei Qpt,Qei Qps,Qei Qpr,Qei Qpq,I];unfold Qbs
 repeat' split
 all_goals first|rfl |(exfalso;omega)
abbrev Qhb(w:World)(M:Nat):Prop:=w.ownsMap prog 21 (plainElem prog 21) M 7 QeS
theorem Qdz(c:Int)(I:(Lit.int .i32 c).wf=true):plainElem (H:=Unit) prog 21 (.int .i32 c)=some (.lit (.int .i32 c),[]):=plainElem_int underlying21 I
theorem Qdy(c:Int)(I:(Lit.int .i32 c).wf=true):keyOf prog 21 (.int .i32 c)=some (.int .i32 c):=keyOf_int_mk underlying21 I
theorem QrF(w:World):Calls prog 276 #[] w λe w'=>e=.returned (.map (some w.heap.size))/\Nw w w'/\Qhb w' w.heap.size:=by
 have b4:=@run_makeMap prog;have a2:=World.ownsMap_made w prog 21 (plainElem (H:=Unit) prog 21);obtain⟨w1,r1,a4,a9⟩:=a2.update QdJ underlying315 oN (Qdy 34 oN) (Qdz 34 oN);obtain⟨w2,r2,I,a6⟩:=a4.update QdJ underlying315 oN (Qdy 92 oN) (Qdz 92 oN);obtain⟨w3,r3,a0,a7⟩:=I.update QdJ underlying315 oN (Qdy 8 oN) (Qdz 98 oN);obtain⟨w4,r4,Z,a5⟩:=a0.update QdJ underlying315 oN (Qdy 9 oN) (Qdz 116 oN);obtain⟨w5,r5,N,b3⟩:=Z.update QdJ underlying315 oN (Qdy 10 oN) (Qdz 110 oN);obtain⟨w6,r6,a1,b0⟩:=N.update QdJ underlying315 oN (Qdy 12 oN) (Qdz 102 oN);obtain⟨w7,r7,a3,a8⟩:=a1.update QdJ underlying315 oN (Qdy 13 oN) (Qdz 114 oN);have HM:=hY a3;clear a2 a4 I a0 Z N a1 a3;go_in;go_wp2_with fail;go_ret;refine⟨rfl,?_,HM.o⟩;have h0:Nw w (w.alloc (.map #[] 0)):=Sb.made (World.grownBy_alloc _ _ _);exact((((((h0.comp (Sb.grown a9) λi hi e=>by have e:i=w.heap.size:=e;omega).comp (Sb.grown a6) λi hi e=>by have e:i=w.heap.size:=e;omega).comp (Sb.grown a7) λi hi e=>by have e:i=w.heap.size:=e;omega).comp (Sb.grown a5) λi hi e=>by have e:i=w.heap.size:=e;omega).comp (Sb.grown b3) λi hi e=>by have e:i=w.heap.size:=e;omega).comp (Sb.grown b0) λi hi e=>by have e:i=w.heap.size:=e;omega).comp (Sb.grown a8) λi hi e=>by have e:i=w.heap.size:=e;omega
attribute [local go_sem] Oper.semAt_some
structure Qb4(w:World):Prop where
 lib:Qi4 w
 dec:QmN w
 num:∀W,G5 w W->∀n:Int,-9223372036854775808<=n->n<=9223372036854775807->Calls prog 248 #[.int .i64 n,.int .i64 10] W λe w'=>e=.returned (.string ⟨(Lib.itoa n).toArray⟩)/\Nw W w'
variable{H:Nat->Prop}{w w':World}
theorem Qb4.sb(h:Qb4 w)(k:Sb H w w')(I:∀b,b<6->¬H b):Qb4 w':=
 ⟨h.lib.sb k I,h.dec.sb h.lib.big k I,λW N=>h.num W ((k.g5 h.lib.big I).trans N)⟩
theorem Qb4.nw(h:Qb4 w)(k:Nw w w'):Qb4 w':=h.sb k λ_ _ e=>e
def Qbf(s:ByteArray):ByteArray:=if Lib.validD s.data.toList then⟨(QdG s).toArray⟩else ByteArray.empty
theorem Qst(w:World):(zeroValue 21).run prog w=.ok (.int .i32 0) w:=kM
variable{W:World}
theorem QgK{M:Nat}(h:Qhb W M)(r:Nat)(hr:r<=1114111) :
  (Instr.lookup 315 (.map (some M)) (.int .i32 (r:Int)) true).run prog W=.ok (.tuple #[.int .i32 (((Qbs r).getD 0:Nat):Int),.bool (Qbs r).isSome]) W:=by
 obtain⟨v,ps,I,N⟩:=World.ownsMap.look_ok h QdJ underlying315 (Qst W) (Qdz 0 oN) (Qdy r (by simp[Lit.wf,IntKind.min,IntKind.max,IntKind.signed,IntKind.bits];omega));rw[Qns]at N;rw[Qlf]at I;obtain⟨c,rfl,Z,-⟩:=plainElem_int_inv underlying21 N;have:=congrArg Prod.fst Z;simp only[DataW.lit.injEq,Lit.int.injEq,true_and]at this;rw[I,this]
theorem Qhb.set{M:Nat}(h:Qhb W M){p:Addr}(I:M≠p.block)(u:Value):Qhb (W.setCell p u) M:=Qbx h (eS _ _ _ _ I)
variable{bs:List Value}{W':World}
theorem Bld.keep{B b x:Nat}(h:Bld B b bs W)(k:Sb (λi=>i=x) W W')(hb:b≠x)(hx:∀c Z,W.heap[x]?≠some (.cells c 5 Z)):Bld B b bs W':=by
 have hg:W.grownBy W' (some x):=⟨k.os,k.tape,k.output,k.size,λi hi hn=>k.block i hi λe=>hn (by rw[e])⟩;have N:∀p,Lib.BuilderAtF 273 5 B b p bs W->Lib.BuilderAtF 273 5 B b p bs W':=by
  rintro p ⟨h1,v,h2,h3,h4⟩;refine⟨h1,v,(k.block b (ft h2) hb).trans h2,h3.kept hg ?_,h4⟩;rcases h3.2 with⟨rfl,_⟩ |⟨g,a0,a1,Z,rfl,_,I,_⟩
  .exact .inl rfl
  refine .inr λe=>?_
  simp only[Value.ownBlock,Option.some.injEq]at e;subst e;exact hx _ _ I
 exact h.imp (N _) (N _)
theorem Bld.nw{B b:Nat}(h:Bld B b bs W)(k:Nw W W'):Bld B b bs W':=by
 have Z:W.grownBy W' none:=⟨k.os,k.tape,k.output,k.size,λi hi _=>k.block i hi λe=>e⟩;have I:∀p,Lib.BuilderAtF 273 5 B b p bs W->Lib.BuilderAtF 273 5 B b p bs W':=by
  rintro p ⟨h1,v,h2,h3,N⟩;refine⟨h1,v,(k.block b (ft h2) λe=>e).trans h2,h3.kept Z ?_,N⟩;cases v.ownBlock with
  |none=>exact .inl rfl
  |some x=>exact .inr sM
 exact h.imp (I _) (I _)
theorem Bld.lt{B b:Nat}(h:Bld B b bs W):b<W:=h.elim (λh=>h.lt) (λh=>h.lt)
structure QK(B:Nat)(w w':World):Prop where
 os:w'.os=w.os
 tape:w'.tape=w.tape
 output:w'.output=w.output
 size:w.heap.size<=w'.heap.size
 block:∀k,k<B->k<w.heap.size->w'.heap[k]? = w.heap[k]?
 others:∀k o,w.heap[k]? = some o->k≠B->k≠B+1->(∀c fz,o≠.cells c 5 fz)->w'.heap[k]? = some o
theorem QK.refl(B:Nat)(w:World):QK B w w:=⟨rfl,rfl,rfl,ao _,λ_ _ _=>rfl,λ_ _ h _ _ _=>h⟩
variable{B:Nat}
theorem QK.trans{a b c:World}(h:QK B a b)(k:QK B b c):QK B a c:=
 ⟨k.os.trans h.os,k.tape.trans h.tape,k.output.trans h.output,an h.size k.size,λi hi I=>(k.block i hi (ab I h.size)).trans (h.block i hi I),λi o Z h1 h2 N=>k.others i o (h.others i o Z h1 h2 N) h1 h2 N⟩
theorem QK.nw(h:Nw w w'):QK B w w':=
 ⟨h.os,h.tape,h.output,h.size,λk _ N=>h.block k N λe=>e,λk o I _ _ _=>(h.block k (az.1 I).1 λe=>e).trans I⟩
theorem QK.of(h:Below B w w')(k:Lib.OthersKept 5 (some (B+1)) w w'):QK B w w':=
 ⟨h.os,h.tape,h.output,h.size,λi hi _=>h.block i hi,λi o I _ h2 N=>k i o I (λe=>h2 (by injection e)) N⟩
theorem QK.set(w:World)(u:Value):QK B w (w.setCell ⟨B,0,none⟩ u):=
 ⟨rfl,rfl,rfl,sM,λk N _=>eS _ _ _ _ (by show k≠B;omega),λk o I h1 _ _=>(eS _ _ _ _ h1).trans I⟩
variable{g:Nat}
theorem QK.blk(h:QK B w w'){t:TypeId}{cs:Array Value}(N:Blk w g t cs)(h1:g≠B)(h2:g≠B+1)(I:t≠5):Blk w' g t cs:=
 h.others g _ N h1 h2 λc Z e=>I (by injection e)
theorem QK.QrG(h:QK B w w'){M:Nat}(N:Qhb w M)(h1:M≠B)(h2:M≠B+1):Qhb w' M:=by
 refine Qbx N ?_;obtain⟨es,I,Z,-⟩:=N;rw[Z];exact h.others M _ Z h1 h2 λc fz e=>by cases e
variable{w1:World}
theorem QK.old(h:Nw w1 W)(k:QK w1.heap.size W W'):Nw w1 W':=
 ⟨k.os.trans h.os,k.tape.trans h.tape,k.output.trans h.output,an h.size k.size,λb I N=>(k.block b I (ab I h.size)).trans (h.block b I N)⟩
theorem QK.agree{K:Nat->Prop}(k:QK w1.heap.size W W')(N:∀b,K b->(b<w1.heap.size/\b<W.heap.size)\/∃o,W.heap[b]? = some o/\b≠w1.heap.size/\b≠w1.heap.size+1/\∀c Z,o≠.cells c 5 Z):Agree K W W':=λb I=>by
 rcases N b I with⟨h1,h2⟩ |⟨o,h1,h2,h3,h4⟩
 .exact k.block b h1 h2
 rw[h1];exact k.others b o h1 h2 h3 h4
structure QI(w1:World)(pre:List (Nat × Nat))(W:World):Prop where
 bld:Bld w1.heap.size (w1.heap.size+1) (Lib.byteCells (34::Qbo pre)) W
 QrG:∃mb,Blk W w1.heap.size 315 #[.map mb]/\∀M,mb=some M->M≠w1.heap.size/\M≠w1.heap.size+1/\Qhb W M
 old:Nw w1 W
theorem QI.nw{pre:List (Nat × Nat)}(h:QI w1 pre W)(k:Nw W W'):QI w1 pre W':=by
 obtain⟨N,h1,h2⟩:=h.QrG;exact⟨h.bld.nw k,⟨N,k.blk h1,λM I=>⟨(h2 M I).1,(h2 M I).2.1,Qbx (h2 M I).2.2 (k.block M (World.ownsMap.lt (h2 M I).2.2) λe=>e)⟩⟩,h.old.trans k⟩
theorem QI.turn{pre:List (Nat × Nat)}{x:Nat}(h:QI w1 pre W)(k:Sb (λi=>i=x) W W')(hx:w1.heap.size+1<x)(hl:∃r,W.heap[x]? = some (.loop r)):QI w1 pre W':=by
 obtain⟨mb,h1,h2⟩:=h.QrG;obtain⟨r,Z⟩:=hl;refine⟨h.bld.keep k oM (λc fz e=>by rw[Z]at e;cases e),⟨mb,k.blk h1 oM,λM I=>⟨(h2 M I).1,(h2 M I).2.1,Qbx (h2 M I).2.2 (k.block M (World.ownsMap.lt (h2 M I).2.2) λe=>?_)⟩⟩,h.old.comp k λi hi e=>oM⟩;obtain⟨es,N,hb,-⟩:=(h2 M I).2.2;subst e;rw[Z]at hb;cases hb
theorem QI.snoc{pre:List (Nat × Nat)}{x:Nat × Nat}{mb:Option Nat}(h:QI w1 pre W)(k:QK w1.heap.size W W')(N:Bld w1.heap.size (w1.heap.size+1) (Lib.byteCells (34::Qbo (pre++[x]))) W')
  (Z:Blk W' w1.heap.size 315 #[.map mb]) (I:∀M,mb=some M->M≠w1.heap.size/\M≠w1.heap.size+1/\Qhb W' M):QI w1 (pre++[x]) W':=
 ⟨N,⟨mb,Z,I⟩,k.old h.old⟩
theorem byteCells_snoc(l r:List UInt8):Lib.byteCells (l++r)=Lib.byteCells l++Lib.byteCells r:=by simp[Lib.byteCells]
variable{r:Nat}
theorem Qt6(h:r<32):bits .and .i32 (r:Int) 15=(r:Int)%16:=by
 have:∀k:Fin 32,bits .and .i32 ((k.val:Nat):Int) 15=((k.val:Nat):Int)%16:=oN
 exact this ⟨r,h⟩
theorem Qiy(k:Nat)(I:k<16)(h:k<(ByteArray.mk #[48,49,50,51,52,53,54,55,56,57,97,98,99,100,101,102]).size):(ByteArray.mk #[48,49,50,51,52,53,54,55,56,57,97,98,99,100,101,102])[k]'h=Qom k:=by
 have:∀k:Fin 16,(ByteArray.mk #[48,49,50,51,52,53,54,55,56,57,97,98,99,100,101,102])[k.val]'k.isLt=Qom k.val:=oN
 exact this ⟨k,I⟩
theorem QI.next{pre:List (Nat × Nat)}{x:Nat × Nat}{mb:Option Nat}{I D:Nat}{s:ByteArray}(h:QI w1 pre W)(hs:Blk W I 9 #[.string s])(a1:w1.heap.size+1<I)(hD:W.heap[D]? = some (.deferred (some [])))(a0:w1.heap.size+1<D)(hl:∃r,W.heap[D+1]? = some (.loop r))(h6:6<=w1.heap.size)
  (k:QK w1.heap.size W W') (N:Bld w1.heap.size (w1.heap.size+1) (Lib.byteCells (34::Qbo (pre++[x]))) W') (hL:Blk W' w1.heap.size 315 #[.map mb]) (hM:∀M,mb=some M->M≠w1.heap.size/\M≠w1.heap.size+1/\Qhb W' M) :
  (QI w1 (pre++[x]) W'/\Blk W' I 9 #[.string s])/\Agree (λb=>(b=I\/b<6)\/b=D\/b=D+1) W W'/\W.heap.size<=W'.heap.size:=by
 have ho:=h.old.size;refine⟨⟨h.snoc k N hL hM,k.blk hs oM oM oN⟩,k.agree λb N=>?_,k.size⟩;rcases N with(rfl|N)|rfl|rfl
 .exact .inr ⟨_,hs,oM,oM,λc Z e=>by injection e with e1 e2;exact absurd e2 oN⟩
 .exact .inl ⟨oM,oM⟩
 .exact .inr ⟨_,hD,oM,oM,λc Z e=>by cases e⟩
 obtain⟨r,hr⟩:=hl;exact .inr ⟨_,hr,oM,oM,λc Z e=>by cases e⟩
variable{px:Nat}
theorem Qlt{pre:List (Nat × Nat)}(h:Qb3 (r:Int)=true):Lib.byteCells (34::Qbo (pre++[(px,r)]))=Lib.byteCells (34::Qbo pre)++Lib.runeCells (r:Int):=by
 have:QcZ r=Lib.encodeRune r:=by unfold QcZ;rw[h];rfl
 rw[Qep,this,<-aI,byteCells_snoc,Lib.byteCells_encodeRune]
theorem QgV{c:Nat}(h:c<128):Lib.runeCells (c:Int)=Lib.byteCells [c.toUInt8]:=by
 rw[Lib.runeCells,Lib.encodeRuneZ_one oM oM];simp[Lib.byteCells];omega
theorem QgJ{r c:Nat}(I:Qbs r=some c):c<128:=by
 unfold Qbs at I
 repeat' split at I
 all_goals first |(cases I;done) |(injection I with I;omega)
theorem QfE{pre:List (Nat × Nat)}{px r c:Nat}(h:Qb3 (r:Int)=false)(N:Qbs r=some c):Lib.byteCells (34::Qbo (pre++[(px,r)]))=(Lib.byteCells (34::Qbo pre)++[.int .u8 92])++Lib.runeCells (c:Int):=by
 have I:=QgJ N;have:QcZ r=[92]++[c.toUInt8]:=by unfold QcZ;rw[h,N];rfl
 rw[Qep,this,<-aI,<-aN,byteCells_snoc,byteCells_snoc,QgV I];rfl
theorem Qkk{pre:List (Nat × Nat)}(h:Qb3 (r:Int)=false)(I:Qbs r=none):Lib.byteCells (34::Qbo (pre++[(px,r)]))=((Lib.byteCells (34::Qbo pre)++Lib.strCells ⟨#[92,117,48,48]⟩)++[.int .u8 (Qom (r/16)).toNat])++[.int .u8 (Qom (r%16)).toNat]:=by
 have:QcZ r=[92,117,48,48]++[Qom (r/16)]++[Qom (r%16)]:=by unfold QcZ;rw[h,I];rfl
 rw[Qep,this,<-aI,<-aN,<-aN,byteCells_snoc,byteCells_snoc,byteCells_snoc];rfl
theorem Qpb(h:Qb3 (r:Int)=false)(I:Qbs r=none):r<32:=by
 unfold Qbs at I;simp only[Qb3,Bool.and_eq_false_iff,decide_eq_false_iff_not,bne_eq_false_iff_eq]at h
 repeat' split at I
 all_goals first |(cases I;done)|omega
end Go.Proofs.YtdiecmkpbadgjaaGreatDoor
namespace Go.Proofs.YtdiecmkpbadgjaaGreatDoor
open Go.Proofs.Tryz
open Go.RowKit Go.Maps Go.Shelf
abbrev fh:=@run_takeDeferred
abbrev fi:=@callsIn_of_wp_marks
attribute [local go_sem] Oper.semAt_some
variable{w:World}
theorem QoF{B b:Nat}{l:List UInt8}(h:Bld B b (Lib.byteCells l) w)(I:B<=w.heap.size) :
  Calls prog 277 #[.pointer (some ⟨b,0,none⟩)] w λe w'=>e=.returned (.string ⟨l.toArray⟩)/\Below B w w'/\Lib.OthersKept 5 (some b) w w':=
 (Any.Builder_String_any_k Tryz.QfO (Qu0 _ rfl rfl) B b l w h I).mono λe w' h=>⟨h.1,h.2.2.1,h.2.2.2⟩
def QoP(s:ByteArray):Int:=if Lib.validD s.data.toList then 0 else 3
theorem QkF(hL:Qb4 w){s:ByteArray}(hs:s.size<=10000000) :
  Calls prog 263 #[.string s] w λe w'=>e=.returned (.tuple #[.string (Qbf s),.int .i64 (QoP s)])/\Nw w w':=by
 have hv:=QdO hL.lib (k:=s) (by unfold maxLen;omega);have q8:∀(w:World) (r:Option Nat),(binOp .eql 315 (.map r) (.map none)).run prog w=.ok (.bool r.isNone) w:=λw r=>run_eql_map_nil w _ _ _ r underlying315
 obtain⟨HV,HL⟩:=Yb hv hL;clear hv hL;refine(ez (n:=6)).1 ?_;refine fi func263 rfl trivial ?_ rfl;simp only[ntmps263,List.size_toArray,List.length_cons,List.length_nil,Nat.reduceAdd,Nat.reduceSub,Array.replicate_succ,Array.replicate_zero,List.push_toArray,List.append_toArray,List.nil_append,List.cons_append];gi_wp2_with fail;refine⟨trivial,?_⟩;refine(ez.2 HV.o).mono ?_;rintro e w1 ⟨rfl,d6⟩;cases d3:Lib.validD s.data.toList with
 | false=>
   obtain⟨HQ,j4,HN⟩:=Yc (show Qbf s=ByteArray.empty by unfold Qbf;rw[d3];rfl) (show QoP s=3 by unfold QoP;rw[d3];rfl) d6;clear d6 d3;gi_wp2_with fail;refine⟨.tuple #[.string ⟨#[]⟩,.int .i64 3],by simp[results,results263,go_sem],?_⟩;exact⟨by rw[HQ.o,j4.o];rfl,HN.o⟩
 | true=>
   obtain⟨HQ,j4⟩:=Yb (show Qbf s=⟨(QdG s).toArray⟩by unfold Qbf;rw[d3];rfl) (show QoP s=0 by unfold QoP;rw[d3];rfl);have l3:=HL.o.nw d6;obtain⟨l1,k5⟩:=Yb d6 l3;clear d6 d3 l3;gi_wp2_with fail;generalize l0:World.alloc (World.alloc _ _) _=W0;obtain⟨k0,q2,o0,l5⟩:=Qas w1 _ _ _ _ W0 l0;have e8:Bld w1.heap.size (w1.heap.size+1) [] W0:=.inl ⟨Nat.le_succ _,.slice none 0 0,l5,World.ownsRowF_of (eG _ _ _ _),by simp[Value.ownBlock]⟩;have a9:=QbZ 34 e8 sM oM;obtain⟨e7,o1,l8⟩:=Yc a9 k0 o0;clear l0 e8 a9 k0 l5;refine⟨trivial,?_⟩;refine(ez.2 e7.o).mono ?_;rintro e w2 ⟨rfl,c6,g6,e4⟩;have g8:=QK.of g6 e4;have f1:QI w1 [] w2:=⟨c6,⟨none,e4 _ _ l8.o sM (λc fz e=>by cases e),λM hM=>by cases hM⟩,QK.old (fJ o1.o) g8⟩;have q0:w1.heap.size+1<w2.heap.size:=c6.lt;have k4:=k5.o.nw f1.old;obtain⟨j8,o7⟩:=Yb f1 k4;clear c6 g6 e4 g8 f1 k4;gi_wp2_with fail;refine⟨trivial,?_⟩;refine(ez.2 (Qqq w2 s)).mono ?_;rintro e w3 ⟨rfl,f7,f8⟩;have g3:=j8.o.nw (fJ f7);have i0:=o7.o.nw (fJ f7);have p9:=f7.size;have p5:=f8.lt;have p0:=i0.lib.big;have f3:=k5.o.lib.big;obtain⟨n4,j9,o8⟩:=Yc (Qqr (w0:=w3) f8 i0.dec p0 oM) g3 f8;clear f7 g3 i0 f8;gi_wp2_with fail;refine Qg7 (gf:=284) (lb:=#[.pointer (some ⟨w2,0,none⟩)]) rfl (eP func284 kM rfl) n4.o (Agree.refl _) (ao _)
    (λb hb=>by rcases hb with rfl|hb<;>omega) (λ_=>rfl) (λpre W=>QI w1 pre W/\Blk W w2.heap.size 9 #[.string s]) (λ_ _ _=>False)
    (λh k hl q3=>⟨h.1.turn k oM hl,k.blk h.2 oM⟩) (λh _ _ _=>h) (λW hW hz=>⟨j9.o.nw (fJ hW),o8.o.ext hW⟩) ?round ?done ?stop
   case stop=>
    rintro D c pre W hD q1 hX i3;exact hX.elim
   case round=>
    rintro pre x q6 W1 hI q5 c9 hG;have f9:x∈Qdn s:=ap hG;have i6:=(QfH f9).1;have p8:pre.length<s.size:=by
     have h1:=(ai.1 hG).1;have h2:=Qdc s s.size 0;unfold Qdn at h1;omega
    have i7:=QdZ pre;have q7:(Lib.byteCells (34::Qbo pre)).length<=60000001:=by simp[Lib.byteCells];omega
    have j2:=hY (And.intro (hI.1.nw c9) (c9.blk hI.2));have p4:=c9.size;clear hI hG f9 c9 i7;obtain⟨px,r⟩:=x;dsimp only at i6;gi_wp2_with fail;refine⟨fM _ _,λW3 k3 j7 k6 k1=>?_⟩;obtain⟨a4,e6,e0⟩:=Yc (And.intro (j2.o.1.turn k3 oM j7) (k3.blk j2.o.2 oM)) k6 k1;have q4:=k3.size;have p6:=a4.o.1.old.size;clear k3 j7 j2 k6 k1;gi_wp2_with fail;refine⟨trivial,?_⟩;refine(QaA (QnX W3 r)).mono ?_;rintro e w4 ⟨rfl,rfl⟩;obtain⟨mb,j6,k2⟩:=a4.o.1.QrG;obtain⟨d0,c0⟩:=Yb j6 k2;clear j6 k2;cases f5:Qb3 (r:Int)with
    | true=>
      have a1:=Qg8 (r:Int) oM oM a4.o.1.bld oM oM;obtain⟨b7,c1⟩:=Yb a1 f5;clear a1 f5;gi_wp2_with fail;refine⟨trivial,?_⟩;refine(QaA b7.o).mono ?_;rintro e w5 ⟨rfl,k7,g4,f0⟩;have i4:=QK.of g4 f0;have a8:=hY (a4.o.1.next (x:=(px,r)) a4.o.2 oM e0.o oM e6.o f3 i4 (by rw[Qlt c1.o];exact k7) (f0 _ _ d0.o sM λc fz e=>by cases e) (λM hM=>⟨(c0.o M hM).1,(c0.o M hM).2.1,i4.QrG (c0.o M hM).2.2 (c0.o M hM).1 (c0.o M hM).2.1⟩));clear k7 g4 f0 i4;gi_wp2_with fail;exact a8.o
    | false=>
      have c1:=hY f5;have p1:w4.cell? ⟨w1,0,none⟩=some (.map mb):=d0.o.cell 0;have o2:=d0.o.lt;have o3:=d0.o.frozen 0;clear f5;rcases mb with _|M
      ·have g7:=QrF w4
       have g0:=hY g7;clear g7;gi_wp2_with fail;refine⟨trivial,?_⟩;refine(QaA g0.o).mono ?_;rintro e w5 ⟨rfl,f6,d5⟩;have b6:=f6.blk d0.o;have l7:w5.cell? ⟨w1,0,none⟩=some (.map none):=b6.cell 0;have n8:=b6.lt;have l9:=b6.frozen 0;clear p1 o3;gi_upto_region 12 with(fail);obtain⟨d4,c2,a5,b9⟩:=Ye (((a4.o.1.bld.nw f6).keep (x:=w1) ((fM (λi=>i=w1.heap.size) w5).set (p:=⟨w1,0,none⟩) (.inr rfl) (.map (some w4.heap.size))) oM (λc fz e=>by have e2:=b6.symm.trans e;injection e2 with e2;injection e2 with _ e2;exact absurd e2 oN))) ((QK.nw (B:=w1) f6).trans (QK.set w5 (.map (some w4.heap.size)))) (b6.QbH 0 (.map (some w4.heap.size))) (d5.set (p:=⟨w1,0,none⟩) (by show w4.heap.size≠w1.heap.size;omega) (.map (some w4.heap.size)));obtain⟨M,hM⟩:∃M,M=w4.heap.size:=⟨_,rfl⟩;have a2:=hY (show M≠w1.heap.size/\M≠w1.heap.size+1 by omega);have p7:=a4.o.1.bld.lt;rw[<-hM]at d4 c2 a5 b9 ⊢;generalize World.setCell w5 _ _=W at *;clear hM f6 d5 b6 l7 n8 l9 o2 g0;have l4:=hY (Lib.OthersKept.refl 5 (some (w1.heap.size+1)) W);have b8:=QgK b9.o r i6;have cL:W.cell? ⟨w1,0,none⟩=some (.map (some M)):=a5.o.cell 0;have lL:=a5.o.lt;have o5:=c2.o.size;cases a3:Qbs r with
       | some c=>
         rw[a3]at b8;have c4:=hY a3;have g9:=QgJ a3;have a9:=QbZ 92 d4.o oM oM;have e7:=hY a9;clear a9 a3;gi_wp2_with fail;refine⟨trivial,?_⟩;refine(QaA e7.o).mono ?_;rintro e w6 ⟨rfl,a7,N,Z⟩;have j0:=N.size;have a1:=Qg8 (c:Int) oM oM a7 (by rw[aj];simp only[List.length_cons,List.length_nil];omega) oM;obtain⟨b7,c8,c7⟩:=Yc a1 (QK.of N Z) Z;clear a1 a7 N Z cL b8;gi_wp2_with fail;refine⟨trivial,?_⟩;refine(QaA b7.o).mono ?_;rintro e w7 ⟨rfl,b3,a0,I⟩;have b4:=c8.o.trans (QK.of a0 I);have a8:=hY (a4.o.1.next (x:=(px,r)) (mb:=some M) a4.o.2 oM e0.o oM e6.o f3 (c2.o.trans b4) (by rw[QfE c1.o c4.o];exact b3) ((c7.o.trans I) _ _ a5.o sM λc fz e=>by cases e) (λM' a6=>by injection a6 with a6;subst a6;exact⟨a2.o.1,a2.o.2,b4.QrG b9.o a2.o.1 a2.o.2⟩));clear b3 a0 I b4;gi_wp2_with fail;exact a8.o
       | none=>
         rw[a3]at b8;have e3:=Qpb c1.o a3;have n6:=Qt6 e3;have c4:=hY a3;have f2:=QmM ⟨#[92,117,48,48]⟩ d4.o (by show _+4<=_;omega) oM;have j5:=hY f2;clear f2 a3;gi_wp2_with fail;refine⟨trivial,?_⟩;refine(QaA j5.o).mono ?_;rintro e w6 ⟨⟨rs,rfl⟩,a7,N,Z⟩;have j0:=N.size;have a1:=QbZ (Qom (r/16)).toNat a7 (by rw[aj,show(Lib.strCells ⟨#[92,117,48,48]⟩).length=4 from rfl];omega) oM;obtain⟨b7,c8,c7⟩:=Yc a1 (QK.of N Z) Z;clear a1 a7 N Z cL b8;gi_wp2_with fail;rw[Qiy (r/16) oM];refine⟨trivial,?_⟩;refine(QaA b7.o).mono ?_;rintro e w7 ⟨rfl,b3,a0,I⟩;have p2:=a0.size;have a1:=QbZ (Qom (r%16)).toNat b3 (by rw[aj,aj,show(Lib.strCells ⟨#[92,117,48,48]⟩).length=4 from rfl];simp only[List.length_cons,List.length_nil];omega) oM;obtain⟨d8,i2,i8⟩:=Yc a1 (c8.o.trans (QK.of a0 I)) (c7.o.trans I);clear a1 b3 a0 I;gi_wp2_with fail;rw[Qiy (r%16) oM];refine⟨trivial,?_⟩;refine(QaA d8.o).mono ?_;rintro e w8 ⟨rfl,d7,c3,b5⟩;have b0:=i2.o.trans (QK.of c3 b5);have a8:=hY (a4.o.1.next (x:=(px,r)) (mb:=some M) a4.o.2 oM e0.o oM e6.o f3 (c2.o.trans b0) (by rw[Qkk c1.o c4.o];exact d7) ((i8.o.trans b5) _ _ a5.o sM λc fz e=>by cases e) (λM' a6=>by injection a6 with a6;subst a6;exact⟨a2.o.1,a2.o.2,b0.QrG b9.o a2.o.1 a2.o.2⟩));clear d7 c3 b5 b0;gi_wp2_with fail;exact a8.o
      gi_upto_region 12 with(fail);obtain⟨d4,c2⟩:=Yb a4.o.1.bld (QK.refl w1.heap.size w4);have a5:=d0;have b9:=hY (c0.o M rfl).2.2;obtain⟨a2,l4⟩:=Yb (And.intro (c0.o M rfl).1 (c0.o M rfl).2.1) (Lib.OthersKept.refl 5 (some (w1.heap.size+1)) w4);have b8:=QgK b9.o r i6;have cL:w4.cell? ⟨w1,0,none⟩=some (.map (some M)):=a5.o.cell 0;have lL:=a5.o.lt;have o5:=c2.o.size;cases a3:Qbs r with
      | some c=>
        rw[a3]at b8;have c4:=hY a3;have g9:=QgJ a3;have a9:=QbZ 92 d4.o oM oM;have e7:=hY a9;clear a9 a3;gi_wp2_with fail;refine⟨trivial,?_⟩;refine(QaA e7.o).mono ?_;rintro e w6 ⟨rfl,a7,N,Z⟩;have j0:=N.size;have a1:=Qg8 (c:Int) oM oM a7 (by rw[aj];simp only[List.length_cons,List.length_nil];omega) oM;obtain⟨b7,c8,c7⟩:=Yc a1 (QK.of N Z) Z;clear a1 a7 N Z cL b8;gi_wp2_with fail;refine⟨trivial,?_⟩;refine(QaA b7.o).mono ?_;rintro e w7 ⟨rfl,b3,a0,I⟩;have b4:=c8.o.trans (QK.of a0 I);have a8:=hY (a4.o.1.next (x:=(px,r)) (mb:=some M) a4.o.2 oM e0.o oM e6.o f3 (c2.o.trans b4) (by rw[QfE c1.o c4.o];exact b3) ((c7.o.trans I) _ _ a5.o sM λc fz e=>by cases e) (λM' a6=>by injection a6 with a6;subst a6;exact⟨a2.o.1,a2.o.2,b4.QrG b9.o a2.o.1 a2.o.2⟩));clear b3 a0 I b4;gi_wp2_with fail;exact a8.o
      | none=>
        rw[a3]at b8;have e3:=Qpb c1.o a3;have n6:=Qt6 e3;have c4:=hY a3;have f2:=QmM ⟨#[92,117,48,48]⟩ d4.o (by show _+4<=_;omega) oM;have j5:=hY f2;clear f2 a3;gi_wp2_with fail;refine⟨trivial,?_⟩;refine(QaA j5.o).mono ?_;rintro e w6 ⟨⟨rs,rfl⟩,a7,N,Z⟩;have j0:=N.size;have a1:=QbZ (Qom (r/16)).toNat a7 (by rw[aj,show(Lib.strCells ⟨#[92,117,48,48]⟩).length=4 from rfl];omega) oM;obtain⟨b7,c8,c7⟩:=Yc a1 (QK.of N Z) Z;clear a1 a7 N Z cL b8;gi_wp2_with fail;rw[Qiy (r/16) oM];refine⟨trivial,?_⟩;refine(QaA b7.o).mono ?_;rintro e w7 ⟨rfl,b3,a0,I⟩;have p2:=a0.size;have a1:=QbZ (Qom (r%16)).toNat b3 (by rw[aj,aj,show(Lib.strCells ⟨#[92,117,48,48]⟩).length=4 from rfl];simp only[List.length_cons,List.length_nil];omega) oM;obtain⟨d8,i2,i8⟩:=Yc a1 (c8.o.trans (QK.of a0 I)) (c7.o.trans I);clear a1 b3 a0 I;gi_wp2_with fail;rw[Qiy (r%16) oM];refine⟨trivial,?_⟩;refine(QaA d8.o).mono ?_;rintro e w8 ⟨rfl,d7,c3,b5⟩;have b0:=i2.o.trans (QK.of c3 b5);have a8:=hY (a4.o.1.next (x:=(px,r)) (mb:=some M) a4.o.2 oM e0.o oM e6.o f3 (c2.o.trans b0) (by rw[Qkk c1.o c4.o];exact d7) ((i8.o.trans b5) _ _ a5.o sM λc fz e=>by cases e) (λM' a6=>by injection a6 with a6;subst a6;exact⟨a2.o.1,a2.o.2,b0.QrG b9.o a2.o.1 a2.o.2⟩));clear d7 c3 b5 b0;gi_wp2_with fail;exact a8.o
   rintro D xs W hD hS ⟨hI,-⟩ i3;have i5:xs=Qdn s:=hS;have i7:=QdZ xs;have o6:xs.length<=s.size:=by rw[i5];exact Qdc s s.size 0
   have a9:=QbZ 34 hI.bld (by simp[Lib.byteCells];omega) hI.old.size;obtain⟨l2,HI,o4,l6,f4⟩:=Yf a9 hI i3 i5 hD;clear hS i7 o6 a9 hI i3 i5 hD;gi_wp2_with fail;refine⟨trivial,?_⟩;refine(ez.2 l2.o).mono ?_;rintro e w6 ⟨rfl,a7,N,Z⟩;have j3:=QK.of N Z;have g5:Bld w1.heap.size (w1.heap.size+1) (Lib.byteCells (QdG s)) w6:=by
    have e1:Lib.byteCells (QdG s)=Lib.byteCells (34::Qbo xs)++[.int .u8 34]:=by
     rw[QdG,<-l6.o,byteCells_snoc];rfl
    rw[e1];exact a7
   have i9:=QK.old HI.o.old j3;have k8:w6.heap[D]? = some (.deferred (some [])):=j3.others D _ o4.o (by have:=f4.o;omega) (by have:=f4.o;omega) (λc fz e=>by cases e);obtain⟨o9,n7,n2⟩:=Yc (QoF g5 i9.size) i9 k8;clear a7 N Z j3 g5 i9 k8;gi_wp2_with fail;refine⟨trivial,?_⟩;refine(ez.2 o9.o).mono ?_;rintro e w7 ⟨rfl,a0,I⟩;have j1:=QK.of a0 I;have i1:w7.heap[D]? = some (.deferred (some [])):=j1.others D _ n2.o (by have:=f4.o;omega) (by have:=f4.o;omega) (λc fz e=>by cases e);have k9:=QK.old n7.o j1;obtain⟨n9,p3⟩:=Yb ((l1.o.trans k9).comp (St.put (o':=.deferred none) i1 rfl rfl).sb λi hi e=>by have:=f4.o;have:=l1.o.size;omega) i1;clear a0 I j1 i1 k9;gi_wp2_with fail;refine⟨sM,.inl ⟨_,_,rfl,fh p3.o,?_⟩⟩;refine⟨.tuple #[.string ⟨(QdG s).toArray⟩,.int .i64 0],?_,by rw[HQ.o,j4.o],n9.o⟩;simp[results,results263,go_sem]
theorem Qkj(Z:Qb4 w){s:ByteArray}(hs:s.size<=10000000):Calls prog 250 #[.string s] w λe w'=>e=.returned (.string (Qbf s))/\Nw w w':=by
 have N:=QkF Z hs;have HQ:=hY N;clear N Z hs;go_in;go_wp2_with fail;refine HQ.o.mono ?_;rintro e w1 ⟨rfl,I⟩;have HN:=hY I;clear I;go_wp2_with fail;go_ret;exact⟨rfl,HN.o⟩
end Go.Proofs.YtdiecmkpbadgjaaGreatDoor
namespace Go.Proofs.YtdiecmkpbadgjaaGreatDoor
open Go.Proofs.Tryz
open Go.RowKit Go.Maps Go.Shelf
mutual
def QgI:Val->Nat
 |.mk k b i t l ok ov=>if k=2 then Qut b else if k=3 then(Lib.itoa i).length else if k=4 then(Qbf t).size else if k=5 then 2+QfC l+(l.length-1)else if k=6 then 2+Qfl ok ov+(ov.length-1)else 4
def QfC:List Val->Nat
 |[]=>0
 |d::r=>QgI d+QfC r
def Qfl:List ByteArray->List Val->Nat
 |_,[]=>0
 |ks,d::r=>(Qbf (ks.headD ByteArray.empty)).size+1+QgI d+Qfl ks.tail r
end
theorem QjX:∀{l:List Val} {j:Nat} {d:Val},l[j]? = some d->QfC (l.take (j+1))=QfC (l.take j)+QgI d
 |[],j,d,h=>by simp at h
 | x :: r,0,d,h=>by
   simp at h;subst h;simp[QfC]
 | x :: r,j+1,d,h=>by
   have I:r[j]? = some d:=by simpa using h
   rw[bp,bp,QfC,QfC,QjX I,bH]
theorem QrE(l:List Val)(j:Nat):QfC (l.take j)<=QfC l:=by
 induction l generalizing j with
 |nil=>simp
 | cons x r ih=>
   cases j with
   |zero=>simp[QfC]
   |succ j=>rw[bp,QfC,QfC];have:=ih j;omega
theorem QjY:∀{ks:List ByteArray} {l:List Val} {j:Nat} {d:Val} {k:ByteArray},l[j]? = some d->ks[j]? = some k->Qfl ks (l.take (j+1))=Qfl ks (l.take j)+((Qbf k).size+1+QgI d)
 |ks,[],j,d,k,h,_=>by simp at h
 |[],x::r,j,d,k,h,hk=>by simp at hk
 | y :: ks,x :: r,0,d,k,h,hk=>by
   simp at h hk;subst h hk;simp[Qfl]
 | y :: ks,x :: r,j+1,d,k,h,hk=>by
   have N:r[j]? = some d:=by simpa using h
   have I:ks[j]? = some k:=by simpa using hk
   rw[bp,bp,Qfl,Qfl,ce,QjY N I];omega
theorem Qmi:∀(ks:List ByteArray) (l:List Val) (j:Nat),Qfl ks (l.take j)<=Qfl ks l
 |ks,[],j=>sM
 |ks,x::r,0=>by simp[Qfl]
 | ks,x :: r,j+1=>by
   rw[bp,Qfl,Qfl];have:=Qmi ks.tail r j;omega
variable{w:World}{B:Nat}
theorem Qcq{a b:Value}{m:Nat}(s:ByteArray)(N:Blk w B 275 (wrC a b m))(hm:m+s.size<=100000000) :
  Calls prog 245 #[.pointer (some ⟨B,0,none⟩),.slice (some ⟨w,0,none⟩) 1 1] (w.alloc (.cells #[.string s] 9)) λe w'=>(∃r,e=.returned r)/\Blk w' B 275 (wrC a b (m+s.size))/\Sb (λc=>c=B) w w':=by
 have I:Ext w (w.alloc (.cells #[.string s] 9)):=(fI w).alloc _ _;have hl:=N.lt;have Z:=QiA (s:=⟨some ⟨w,0,none⟩,1⟩) (ks:=[s]) (N.ext I) (fU (fK w 9 #[.string s]) oN rfl) (λi hi=>by subst hi;exact⟨sM,oM⟩) (by simp[Qg9];omega) sM;exact Z.mono λe w' ⟨h1,h2,h3⟩=>⟨h1,by simpa[Qg9]using h2,(Nw.any (fJ I) _).trans h3.sb⟩
theorem QrB{a b:Value}{m:Nat}(s t:ByteArray)(I:Blk w B 275 (wrC a b m))(hm:m+s.size+t.size<=100000000) :
  Calls prog 245 #[.pointer (some ⟨B,0,none⟩),.slice (some ⟨w,0,none⟩) 2 2] (w.alloc (.cells #[.string s,.string t] 9)) λe w'=>(∃r,e=.returned r)/\Blk w' B 275 (wrC a b (m+s.size+t.size))/\Sb (λc=>c=B) w w':=by
 have N:Ext w (w.alloc (.cells #[.string s,.string t] 9)):=(fI w).alloc _ _;have hl:=I.lt;have Z:=QiA (s:=⟨some ⟨w,0,none⟩,2⟩) (ks:=[s,t]) (I.ext N) (fU (fK w 9 #[.string s,.string t]) oN rfl) (λi hi=>by subst hi;exact⟨sM,oM⟩) (by simp[Qg9];omega) sM;exact Z.mono λe w' ⟨h1,h2,h3⟩=>⟨h1,by simpa[Qg9,Nat.add_assoc]using h2,(Nw.any (fJ N) _).trans h3.sb⟩
variable{V:Nat}
theorem QrZ{a b:Value}{n:Int}{m:Nat}{c0 c1 c3 c4 c5:Value}(hV:Blk w V 34 #[c0,c1,.int .i64 n,c3,c4,c5])(hB:Blk w B 275 (wrC a b m))(h0 : -9223372036854775808<=n)(h1:n<=9223372036854775807)(hm:m+(Lib.itoa n).length<=100000000)(hL:Qb4 w) :
  Calls prog 247 #[.pointer (some ⟨B,0,none⟩),.pointer (some ⟨V,0,none⟩)] w λe w'=>(∃r,e=.returned r)/\Blk w' B 275 (wrC a b (m+(Lib.itoa n).length))/\Sb (λc=>c=B) w w':=by
 have hf:=hL.num w (G5.refl w) n h0 h1;have c2:w.cell? ⟨V,2,none⟩=some (.int .i64 n):=hV.cell 2;obtain⟨HF,HB,HM⟩:=Yc hf hB hm;clear hf hV hB hm h0 h1 hL;go_in;go_wp2_with fail;refine HF.o.mono ?_;rintro e w1 ⟨rfl,I⟩;have hj:=Qcq (w:=w1) ⟨(Lib.itoa n).toArray⟩ (I.blk HB.o) (by have:=HM.o;simpa[ByteArray.size]using this);rw[show(ByteArray.mk (Lib.itoa n).toArray).size=(Lib.itoa n).length by simp[ByteArray.size]]at hj;obtain⟨HJ,HN⟩:=Yb hj I;clear hj I c2;go_wp2_with fail;refine HJ.o.mono ?_;rintro e w2 ⟨⟨r,rfl⟩,Z,N⟩;obtain⟨a1,a0⟩:=Yb Z ((HN.o.any _).trans N);clear Z N;go_wp2_with fail;go_end0;exact⟨⟨_,rfl⟩,a1.o,a0.o⟩
theorem Qr0{a b:Value}{t:ByteArray}{m:Nat}{c0 c1 c2 c4 c5:Value}(hV:Blk w V 34 #[c0,c1,c2,.string t,c4,c5])(hB:Blk w B 275 (wrC a b m))(ht:t.size<=10000000)(hm:m+(Qbf t).size<=100000000)(hL:Qb4 w) :
  Calls prog 249 #[.pointer (some ⟨B,0,none⟩),.pointer (some ⟨V,0,none⟩)] w λe w'=>(∃r,e=.returned r)/\Blk w' B 275 (wrC a b (m+(Qbf t).size))/\Sb (λc=>c=B) w w':=by
 have hf:=Qkj hL ht;have c2:w.cell? ⟨V,3,none⟩=some (.string t):=hV.cell 3;obtain⟨HF,HB,HM⟩:=Yc hf hB hm;clear hf hV hB hm hL ht;go_in;go_wp2_with fail;refine HF.o.mono ?_;rintro e w1 ⟨rfl,I⟩;have hj:=Qcq (w:=w1) (Qbf t) (I.blk HB.o) HM.o;obtain⟨HJ,HN⟩:=Yb hj I;clear hj I c2;go_wp2_with fail;refine HJ.o.mono ?_;rintro e w2 ⟨⟨r,rfl⟩,Z,N⟩;obtain⟨a1,a0⟩:=Yb Z ((HN.o.any _).trans N);clear Z N;go_wp2_with fail;go_end0;exact⟨⟨_,rfl⟩,a1.o,a0.o⟩
def fnO(k:Int):Nat:=if k=2 then 244 else if k=3 then 247 else if k=4 then 249 else if k=5 then 251 else if k=6 then 253 else 255
def bsO(k:Int)(V:Nat):Array Value:=if k=2\/k=3\/k=4\/k=5\/k=6 then#[.pointer (some ⟨V,0,none⟩)]else#[]
abbrev QtS(d:Val)(sl so:Sl):Array Value:=#[.int .i64 d.kind,.bool d.b,.int .i64 d.i,.string d.t,.slice sl.a d.l.length sl.c,.slice so.a d.ok.length so.c]
theorem Qlm(w:World)(d:Val)(sl so:Sl):Calls prog 228 #[QbV d sl so] w λe w'=>e=.returned (.func (.func (fnO d.kind)) #[] (bsO d.kind w.heap.size))/\Ext w w'/\Blk w' w.heap.size 34 (QtS d sl so):=by
 obtain⟨k,b,i,t,l,ok,ov⟩:=d;show Calls _ _ #[.agg #[.int .i64 k,.bool b,.int .i64 i,.string t,.slice sl.a l.length sl.c,.slice so.a ok.length so.c]] _ λe w'=>e=.returned (.func (.func (fnO k)) #[] (bsO k w.heap.size))/\Ext w w'/\Blk w' w.heap.size 34 #[.int .i64 k,.bool b,.int .i64 i,.string t,.slice sl.a l.length sl.c,.slice so.a ok.length so.c]
 by_cases h2:k=2
 ·subst h2
  go_in;go_wp2_with fail;go_ret;exact⟨rfl,(fI w).alloc _ _,fK w _ _⟩
 by_cases h3:k=3
 ·subst h3
  go_in;go_wp2_with fail;go_ret;exact⟨rfl,(fI w).alloc _ _,fK w _ _⟩
 by_cases Z:k=4
 ·subst Z
  go_in;go_wp2_with fail;go_ret;exact⟨rfl,(fI w).alloc _ _,fK w _ _⟩
 by_cases N:k=5
 ·subst N
  go_in;go_wp2_with fail;go_ret;exact⟨rfl,(fI w).alloc _ _,fK w _ _⟩
 by_cases I:k=6
 ·subst I
  go_in;go_wp2_with fail;go_ret;exact⟨rfl,(fI w).alloc _ _,fK w _ _⟩
 have g2:(k==2)=false:=by simpa using h2
 have g3:(k==3)=false:=by simpa using h3
 have g4:(k==4)=false:=by simpa using Z
 have g5:(k==5)=false:=by simpa using N
 have g6:(k==6)=false:=by simpa using I
 have hf:fnO k=255:=by simp[fnO,h2,h3,Z,N,I]
 have hb:bsO k w.heap.size=#[]:=by simp[bsO,h2,h3,Z,N,I]
 rw[hf,hb];clear h2 h3 Z N I hf hb;go_in;go_wp2_with fail;go_ret;exact⟨rfl,(fI w).alloc _ _,fK w _ _⟩
mutual
def QcI:Val->Nat
 |.mk k b i t l ok ov=>7+t.size+QdR l+QfL ok ov
def QdR:List Val->Nat
 |[]=>0
 |d::r=>QcI d+QdR r
def QfL:List ByteArray->List Val->Nat
 |_,[]=>0
 |ks,d::r=>(ks.headD ByteArray.empty).size+2+QcI d+QfL ks.tail r
end
theorem QoO:∀{l:List Val} {j:Nat} {d:Val},l[j]? = some d->QcI d<=QdR l
 |[],j,d,h=>by simp at h
 |x::r,0,d,h=>by simp at h;subst h;rw[QdR];omega
 |x::r,j+1,d,h=>by have:=QoO (l:=r) (j:=j) (by simpa using h);rw[QdR];omega
theorem QkY:∀{ks:List ByteArray} {l:List Val} {j:Nat} {d:Val} {k:ByteArray},l[j]? = some d->ks[j]? = some k->QcI d+k.size<=QfL ks l
 |ks,[],j,d,k,h,_=>by simp at h
 |[],x::r,j,d,k,h,hk=>by simp at hk
 |y::ks,x::r,0,d,k,h,hk=>by simp at h hk;subst h hk;rw[QfL,cT];omega
 |y::ks,x::r,j+1,d,k,h,hk=>by have:=QkY (ks:=ks) (l:=r) (j:=j) (by simpa using h) (by simpa using hk);rw[QfL,ce];omega
theorem Qfo(s:ByteArray):(Qbf s).size<=6*s.size+2:=by
 unfold Qbf;split
 ·have:=QnO s
  show(QdG s).toArray.size<=_;rw[bm];exact this
 show 0<=_;omega
theorem Qto(x:Bool):Qut x<=5:=by rw[Qtn];split<;>omega
mutual
theorem QiE(F:Nat->Prop)(w:World):∀(d:Val) (sl so:Sl),RV w F d sl so->QgI d+2<=6*QcI d
 | .mk k b i t l ok ov,sl,so,h=>by
   unfold QgI QcI;cases h with
   |mk bl fl bo fo cl co hl ho hov el rl ek eo ro bk bi bt nl no=>
   split
   .have:=Qto b;omega
   split
   ·have:=Lib.itoa_length_le i (by simp [Lit.wf,IntKind.min,IntKind.max,IntKind.signed,IntKind.bits] at bi;omega) (by simp [Lit.wf,IntKind.min,IntKind.max,IntKind.signed,IntKind.bits] at bi;omega)
    omega
   split
   .have:=Qfo t;omega
   split
   ·have:=Qmg F w l cl (fun j d I=>rl j d I)
    omega
   split
   ·have:=Qmh F w ok ov co (fun j d I=>ro j d I) hov
    omega
   omega
theorem Qmg(F:Nat->Prop)(w:World):∀(l:List Val) (c:Nat->Sl × Sl),(∀j d,l[j]? = some d->RV w F d (c j).1 (c j).2)->QfC l+2*l.length<=6*QdR l
 |[],c,h=>by simp[QfC,QdR]
 | d :: r,c,h=>by
   have h1:=QiE F w d _ _ (h 0 d rfl);have h2:=Qmg F w r (λj=>c (j+1)) (λj d I=>h (j+1) d (by simpa using I));rw[QfC,QdR,aB];omega
theorem Qmh(F:Nat->Prop)(w:World):∀(ks:List ByteArray) (l:List Val) (c:Nat->Sl × Sl),(∀j d,l[j]? = some d->RV w F d (c j).1 (c j).2)->l.length=ks.length->Qfl ks l+2*l.length<=6*QfL ks l
 |ks,[],c,h,I=>by simp[Qfl,QfL]
 |[],d::r,c,h,I=>by cases I
 | k :: ks,d :: r,c,h,I=>by
   have h1:=QiE F w d _ _ (h 0 d rfl);have h2:=Qmh F w ks r (λj=>c (j+1)) (λj d N=>h (j+1) d (by simpa using N)) (by simpa using I);have Z:=Qfo k;rw[Qfl,QfL,aB,cT,ce];omega
end
def Qk0(j:Nat):ByteArray:=if j=0 then ByteArray.empty else⟨#[44]⟩
theorem Qjd(w:World)(j:Nat):Calls prog 252 #[.int .i64 (j:Int)] w λe w'=>e=.returned (.string (Qk0 j))/\w'=w:=by
 by_cases h:j=0
 ·subst h
  go_in;go_wp2_with fail;go_ret;exact⟨rfl,rfl⟩
 have N:((j:Int)==0)=false:=by simp;omega
 have I:Qk0 j=⟨#[44]⟩:=eh h;rw[I];clear I h;go_in;go_wp2_with fail;go_ret;exact⟨rfl,rfl⟩
theorem Qih(j:Nat):(Qk0 j).size=j -(j-1):=by
 unfold Qk0;by_cases h:j=0
 .subst h;rfl
 rw[eh h];show 1=_;omega
def Qsv(B:Nat)(a b:Value)(n:Nat)(d:Val)(w:World)(e:Ending)(w':World):Prop:=
 (∃r,e=.returned r)/\Blk w' B 275 (wrC a b (n+QgI d))/\Sb (λc=>c=B) w w'
def Qvg(P:Val->Prop):Prop:=∀(d:Val),P d->QcI d<=1100000->∀(w:World) (F:Nat->Prop) (V B:Nat) (sl so:Sl) (a b:Value) (n:Nat),Blk w V 34 (QtS d sl so)->RV w F d sl so->(∀i,F i->i<w.heap.size/\i≠B)->V≠B->Blk w B 275 (wrC a b n)->n+QgI d<=9000000->Qb4 w->6<=B->
 Calls prog (fnO d.kind) (#[.pointer (some ⟨B,0,none⟩)]++bsO d.kind V) w (Qsv B a b n d w)
theorem Qfd(k:Int):∀args w,(callFunc (fnO k) args).run prog w=.ok (.enter (fnO k) args) w:=by
 unfold fnO;split
 .exact eP func244 kM rfl
 split
 .exact eP func247 kM rfl
 split
 .exact eP func249 kM rfl
 split
 .exact eP func251 kM rfl
 split
 .exact eP func253 kM rfl
 exact eP func255 kM rfl
variable{F:Nat->Prop}{sl so:Sl}{n:Nat}
theorem Qr1{P:Val->Prop}(hI:Qvg P){bo:Bool}{i:Int}{t:ByteArray}{l:List Val}{ok:List ByteArray}{ov:List Val}{a b:Value} 
  (hP:∀(j:Nat) (d:Val),l[j]? = some d->P d) (hc:QdR l<=1100000)
  (hV:Blk w V 34 #[.int .i64 5,.bool bo,.int .i64 i,.string t,.slice sl.a l.length sl.c,.slice so.a ok.length so.c]) (h:RV w F (.mk 5 bo i t l ok ov) sl so) (hF:∀i,F i->i<w.heap.size/\i≠B) (f4:V≠B) (hB:Blk w B 275 (wrC a b n)) (hn:n+(2+QfC l+(l.length-1))<=9000000) (hL:Qb4 w) (h6:6<=B) :
  Calls prog 251 #[.pointer (some ⟨B,0,none⟩),.pointer (some ⟨V,0,none⟩)] w λe w'=>(∃r,e=.returned r)/\Blk w' B 275 (wrC a b (n+(2+QfC l+(l.length-1))))/\Sb (λc=>c=B) w w':=by
 cases h with
 |mk bl fl bo' fo cl co hl ho hov el rl ek eo ro bk bi bt nl no=>
 have c9:=Qcq (w:=w) ⟨#[91]⟩ hB (by show n+1<=_;omega);have c3:=λW j=>Qjd W j
 obtain⟨c0,e8,HV,HF,f1,e3,a8⟩:=Yh c9 c3 hV hF el rl hl;obtain⟨e1,HI,HP,HC,HN⟩:=Yf hL hI hP hc hn;have g4:=hV.lt;have f9:=hB.lt;have g6:l.length<=2000000000000:=oM
 clear c9 c3 hV hB hF el rl ek eo ro hl ho hov hL hI hP hc hn bk bi bt nl no;go_in;go_wp2_with fail;refine c0.o.mono ?_;rintro e w1 ⟨⟨r,rfl⟩,c8,a7⟩;obtain⟨q0,q1,q2,q3,q4,q5⟩:=(a7.blk HV.o f4).c6;obtain⟨f0,f5⟩:=Yb c8 a7;clear c8 a7 c0;go_wp2_with fail;go_loopw[11] (λq wr=>∃(j:Nat),q=.int .i64 j/\j<=l.length/\Blk wr B 275 (wrC a b (n+1+(QfC (l.take j)+(j-1))))/\Sb (λc=>c=B) w wr) (λq _=>l.length -(intOf q).toNat)
 case atStart=>exact⟨0,rfl,aA _,f0.o,f5.o⟩
 obtain⟨j,rfl,hj,hb,hs⟩:=hrel;by_cases h1:j<l.length
 ·have g1:(j:Int)<(l.length:Int):=oM
  have g0:decide ((j:Int)<(l.length:Int))=true:=em g1;obtain⟨d,hd⟩:∃d,l[j]? = some d:=⟨_,ac h1⟩;obtain⟨b9,d8,e2⟩:=a8.o.eq oM;have d6:=HF.o bl (a8.o.fits oM);have d5:Agree F w wr:=λx hx=>hs.block x (HF.o x hx).1 (HF.o x hx).2
  have e4:=a8.o.fits (show 0<l.length by omega);obtain⟨sa,sc⟩:=sl;dsimp only at b9 d8 e2;subst b9;obtain⟨v0,v1,v2,v3,v4,v5⟩:=(f1.o j d hd).agree d5 e4;have lb:bl<wr:=ab d6.1 hs.size;have hcut:=QrE l (j+1);have c2:=QjX hd;have a4:=Qih j;have a0:n+1+(QfC (l.take j)+(j-1))+(Qk0 j).size+QgI d<=9000000:=by have:=HN.o;omega
  have c1:QcI d<=1100000:=an (QoO hd) HC.o;obtain⟨HD,HB,HS,b6,d7,f2,e6⟩:=Yh hd hb hs a0 c2 a4 c1;have f8:=hY (HP.o j d hd);have g5:=Qfd d.kind;clear hb hs d5 d6 hcut c2 a4 a0 c1 hd;go_wp2_with fail;refine(e8.o _ j).mono ?_;rintro e w2 ⟨rfl,a9⟩;have a5:Ext wr w2:=by rw[a9];exact(fI wr).alloc _ _
  have b8:Blk w2 wr.heap.size 34 (QtS d (cl j).1 (cl j).2):=by rw[a9];exact fK wr 34 _
  clear a9;have c7:=Qcq (w:=w2) (Qk0 j) (HB.o.ext a5) (by have:=b6.o;omega);obtain⟨b5,e0,e7⟩:=Yc c7 b8 (HS.o.ext a5);have g3:=HB.o.lt;clear a5 b8 c7;go_wp2_with fail;refine b5.o.mono ?_;rintro e w3 ⟨⟨r2,rfl⟩,a1,I⟩;have c4:=I.blk e0.o oM;obtain⟨u0,u1,u2,u3,u4,u5⟩:=c4.c6;obtain⟨a2,a6⟩:=Yb a1 (e7.o.trans I);clear a1 I c4 b5 v0 v1 v2 v3 v4 v5;go_wp2_with fail;refine(Qlm _ d (cl j).1 (cl j).2).mono ?_;rintro e w4 ⟨rfl,b3,d4⟩;have N:=a6.o.ext b3;have a3:Agree F w w4:=λx hx=>N.block x (HF.o x hx).1 (HF.o x hx).2
  have Z:=HI.o d f8.o e6.o w4 F w3.heap.size B (cl j).1 (cl j).2 a b (n+1+(QfC (l.take j)+(j-1))+(Qk0 j).size) d4 ((e3.o j d HD.o).agree a3) (λi hi=>⟨Nat.lt_of_lt_of_le (HF.o i hi).1 N.size,(HF.o i hi).2⟩) (by have:=a2.o.lt;omega) (a2.o.ext b3) b6.o
   (e1.o.sb N λc hc e=>by have e:c=B:=e;omega) h6
  obtain⟨b0,f6⟩:=Yb Z N;clear b3 d4 N a3 Z u0 u1 u2 u3 u4 u5;go_wp2_with fail;refine b0.o.mono ?_;rintro e w5 ⟨⟨r3,rfl⟩,d3,b4⟩;obtain⟨f7,f3⟩:=Yb d3 (f6.o.trans b4);clear d3 b4;go_wp2_with fail;go_roundw
  case rel=>exact⟨j+1,by go_num,h1,by rw[show n+1+(QfC (l.take (j+1))+(j+1-1))=n+1+(QfC (l.take j)+(j-1))+(Qk0 j).size+QgI d by rw[d7.o,f2.o];omega];exact f7.o,f3.o⟩
  simp[intOf];omega
 obtain rfl:j=l.length:=oM
 rw[aU]at hb;have b7:=Qcq (w:=wr) ⟨#[93]⟩ hb (by have:=HN.o;show _+1<=_;omega);obtain⟨d0,HS⟩:=Yb b7 hs;have g1:decide ((l.length:Int)<(l.length:Int))=false:=ej oM;clear b7 hb hs;go_wp2_with fail;refine d0.o.mono ?_;rintro e w3 ⟨⟨r2,rfl⟩,a1,I⟩;obtain⟨a2,a6⟩:=Yb a1 (HS.o.trans I);clear a1 I d0;go_wp2_with fail;go_end0;exact⟨⟨_,rfl⟩,by rw[show n+(2+QfC l+(l.length-1))=n+1+(QfC l+(l.length-1))+1 by omega];exact a2.o,a6.o⟩
attribute [local go_sem] Oper.semAt_some
theorem QrR(w:World)(a:Option Addr)(n c:Nat):Calls prog 254 #[.slice a n c] w λe w'=>e=.returned (.func (.func 264) #[] #[.pointer (some ⟨w,0,none⟩)])/\Ext w w'/\Blk w' w.heap.size 32 #[.slice a n c]:=by
 go_in;go_wp2_with fail;go_ret;exact⟨rfl,(fI w).alloc _ _,fK w _ _⟩
structure ME where
 t:ByteArray
 d:Val
 V:Nat
 sl:Sl
 so:Sl
abbrev QvF(x:ME):Array Value:=#[.string x.t,.func (.func (fnO x.d.kind)) #[] (bsO x.d.kind x.V)]
def Qt2(ok:List ByteArray)(xs:List ME):Prop:=xs.length=ok.length
structure MG(F:Nat->Prop)(ok:List ByteArray)(ov:List Val)(pre:List ME)(x:ME)(W0 W1:World):Prop where
 ex:∃k,ok[pre.length]? = some k/\ov[pre.length]? = some x.d/\x.t=Qk0 pre.length++Qbf k
 blk:Blk W1 x.V 34 (QtS x.d x.sl x.so)
 val:RV W1 F x.d x.sl x.so
 new:W0.heap.size<=x.V
structure MS(J:List ME->World->Prop)(K:Nat->Prop)(W:World)(j:Nat)(pre:List ME)(Wj wr:World):Prop where
 inv:J pre Wj
 nw:Nw Wj wr
 len:pre.length=j
 ag:Agree K W wr
 sz:W.heap.size<=wr.heap.size
structure MOk(w:World)(F:Nat->Prop)(so:Sl)(ok:List ByteArray)(ov:List Val):Prop where
 ex:∃(bo fo:Nat) (co:Nat->Sl × Sl),Qd5 F so ok.length bo fo/\RO w F bo fo ok ov co
 len:ov.length=ok.length
 few:∀k∈ok,k.size<=10000000
variable{w':World}
theorem MOk.agree{ok:List ByteArray}{ov:List Val}(h:MOk w F so ok ov)(Z:Agree F w w'):MOk w' F so ok ov:=by
 obtain⟨⟨N,fo,co,h1,h2⟩,I,h4⟩:=h;exact⟨⟨N,fo,co,h1,h2.agree Z I (λh=>h1.fits h)⟩,I,h4⟩
variable{j:Nat}
theorem MOk.at{ok:List ByteArray}{ov:List Val}(h:MOk w F so ok ov)(hj:j<ok.length) :
  ∃(b o:Nat) (k:ByteArray) (d:Val) (I N:Sl),so.a=some ⟨b,o,none⟩/\F b/\ok.length<=so.c/\so.c<=maxLen/\ok[j]? = some k/\ov[j]? = some d/\w.cell? ⟨b,o+j*7,none⟩=some (.string k)/\QaV w b (o+j*7+1) d I N/\RV w F d I N/\k.size<=10000000:=by
 obtain⟨⟨b,o,co,h1,h2⟩,h3,h4⟩:=h;obtain⟨e1,e2,e3⟩:=h1.eq oM;have Z:=ac hj;have hd:=ac (l:=ov) (i:=j) oM;exact⟨b,o,_,_,_,_,e1,h1.fits oM,e2,e3,Z,hd,(h2.keys j _ Z).1,h2.cells j _ hd,h2.reads j _ hd,h4 _ (ap Z)⟩
theorem Qvt{J:List ME->World->Prop}{F K:Nat->Prop}{ok:List ByteArray}{ov:List Val}{W Wj wr I w5:World}{pre:List ME}{k:ByteArray}{d:Val}(h:MS J K W j pre Wj wr)(N:ok[j]? = some k/\ov[j]? = some d)(hb:Blk w5 I.heap.size 34 (QtS d sl so))(hr:RV wr F d sl so)(Z:Nw wr w5)(hF:∀b,F b->b<wr.heap.size)(hz:wr.heap.size<=I.heap.size) :
  MG F ok ov pre ⟨Qk0 j++Qbf k,d,I.heap.size,sl,so⟩ Wj w5:=
 ⟨⟨k,by rw[h.len];exact N.1,by rw[h.len];exact N.2,by rw[h.len]⟩,hb,hr.agree (Z.agree hF),an h.nw.size hz⟩
def QvN(J Jx:List ME->World->Prop)(K:Nat->Prop)(W:World)(j:Nat)(xs:List ME)(bb:Bool)(w':World):Prop:=(bb=true/\MS J K W (j+1) xs w' w')\/(bb=false/\Jx xs w')
theorem Qtv{J Jx:List ME->World->Prop}{K:Nat->Prop}{W Wj wr w5:World}{pre:List ME}{x:ME}(h:MS J K W j pre Wj wr)(k:Nw wr w5)(Z:∀b,K b->b<W.heap.size)(e:Ending)(w':World)
  (hp:(e=.returned (.bool true)/\J (pre++[x]) w'/\Agree K w5 w'/\w5.heap.size<=w'.heap.size)\/(e=.returned (.bool false)/\Jx (pre++[x]) w')):∃I:Bool,e=.returned (.bool I)/\Yd (QvN J Jx K W j (pre++[x]) I w'):=by
 rcases hp with⟨rfl,h1,h2,h3⟩ |⟨rfl,h1⟩
 .exact ⟨true,rfl,hY (.inl ⟨rfl,h1,fM _ _,by simp[h.len],(h.ag.trans (k.agree λb N=>ab (Z b N) h.sz)).trans h2,an (an h.sz k.size) h3⟩)⟩
 exact⟨false,rfl,hY (.inr ⟨rfl,h1⟩)⟩
variable{w0:World}
theorem QrS{N:Nat}{ok:List ByteArray}{ov:List Val}(hB:Blk w0 N 32 #[.slice so.a ok.length so.c])(hM:MOk w0 F so ok ov)(hF:∀b,F b->b<w0.heap.size)(hL:Qb4 w0)(hn:ok.length<=100000000) :
  Qve prog 264 #[.pointer (some ⟨N,0,none⟩)] QvF (λb=>F b\/b=N\/b<6) (MG F ok ov) (Qt2 ok) (λ_=>True) w0:=by
 intro l J Jx W d0 hA f0 hJ;have h6:=hL.lib.big;have e1:=hB.lt;have b5:∀b,(F b\/b=N\/b<6)->b<W.heap.size:=λb hb=>by
  rcases hb with hb|rfl|hb
  .have:=hF b hb;omega
  .omega
  omega
 have a6:∀W1,Agree (λb=>F b\/b=N\/b<6) W W1->W.heap.size<=W1.heap.size->Blk W1 N 32 #[.slice so.a ok.length so.c]/\MOk W1 F so ok ov/\Qb4 W1:=λW1 hW hz=>by
  have ha:Agree (λb=>F b\/b=N\/b<6) w0 W1:=hA.trans hW;refine⟨(ha N (.inr (.inl rfl))).trans hB,hM.agree (ha.mono λb hb=>.inl hb),?_⟩;have hg:G5 w0 W1:=λb hb=>ha b (.inr (.inr hb))
  exact⟨⟨oM,λW2 I=>hL.lib.fmt W2 (hg.trans I),λW2 I=>hL.lib.val W2 (hg.trans I)⟩,λW2 I=>hL.dec W2 (hg.trans I),λW2 I=>hL.num W2 (hg.trans I)⟩
 obtain⟨d4,e7,HJ,b0⟩:=Ye d0 a6 hJ b5;have f4:(ok.length:Int)<=100000000:=oM
 have c0:W.cell? ⟨N,0,none⟩=some (.slice so.a ok.length so.c):=(a6 W (Agree.refl _) (ao _)).1.cell 0;have lB:N<W.heap.size:=oM
 clear d0 hA hJ hB a6 hL h6 e1 f0 b5 hM hF;show Calls _ _ #[.func (.yield l) #[] #[],.pointer (some ⟨N,0,none⟩)] W _;refine(ez (n:=5)).1 ?_;refine fr func264 rfl trivial ?_ rfl;simp only[ntmps264,List.size_toArray,List.length_cons,List.length_nil,Nat.reduceAdd,Nat.reduceSub,Array.replicate_succ,Array.replicate_zero,List.push_toArray,List.append_toArray,List.nil_append,List.cons_append];gi_wp2_with fail;clear c0;gi_loopw [7] (λv wr=>∃(j:Nat) (pre:List ME) (Wj:World),v=.int .i64 (j:Int)/\j<=ok.length/\Yd (MS J (λb=>F b\/b=N\/b<6) W j pre Wj wr)) (λv _=>ok.length -(intOf v).toNat)
 case atStart=>exact⟨0,[],W,rfl,aA _,hY ⟨HJ.o,fM _ _,rfl,Agree.refl _,ao _⟩⟩
 obtain⟨j,pre,Wj,rfl,hj,Z⟩:=hrel;obtain⟨-,hm,a8⟩:=e7.o wr Z.o.ag Z.o.sz;by_cases c3:j<ok.length
 ·obtain ⟨bo,fo,k,d,a1,a0,c1,e3,d5,e0,hk,hd,kc,b6,b4,b7⟩:=hm.at c3
  have f2:bo<wr:=ab (b0.o bo (.inl e3)) Z.o.sz;obtain⟨sa,sc⟩:=so;dsimp only at c1 d5 e0;subst c1;obtain⟨v0,v1,v2,v3,v4,v5⟩:=b6.m;have g1:(j:Int)<(ok.length:Int):=oM
  have f3:decide ((j:Int)<(ok.length:Int))=true:=em g1;obtain⟨e8,d7,e2,HK,c6⟩:=Yf (λ(b:Nat) (hb:F b)=>ab (b0.o b (.inl hb)) Z.o.sz) a8 b4 (And.intro hk hd) b7;clear hm a8 b6 b4 hk hd b7;gi_wp2_with fail;generalize a5:wr.alloc _=W3;have a7:Ext wr W3:=by rw[<-a5];exact(fI wr).alloc _ _
  have a4:Blk W3 wr.heap.size 124 #[.string k,.int .i64 d.kind,.bool d.b,.int .i64 d.i,.string d.t,.slice a1.a d.l.length a1.c,.slice a0.a d.ok.length a0.c]:=by rw[<-a5];exact fK wr _ _
  obtain⟨q0,q1,q2,q3,q4,q5,q6⟩:=a4.c7;have lq:=a4.lt;have hq:Calls prog 250 #[.string k] W3.drew λe w'=>e=.returned (.string (Qbf k))/\Nw W3.drew w':=Qkj (d7.o.nw (fJ (a7.drew))) c6.o
  have e4:=Qih j;have d6:=Qfo k;have c2:=c6.o;have c4:∀W:World,(Op.stringOp .add (Qk0 j) (Qbf k)).run prog W=.ok (.string (Qk0 j++Qbf k)) W:=λW=>run_string_add_sum (w:=W) _ _ oM
  clear e4 d6 c2;obtain⟨HQ,a9,b3⟩:=Yc hq a4 a7;clear a5 hq a4 a7 v0 v1 v2 v3 v4 v5 kc;gi_region_with (first
   |(refine⟨trivial,?_⟩;refine(ez.2 (Qjd _ j)).mono ?_;rintro e w4 ⟨rfl,rfl⟩)
   |(refine⟨trivial,?_⟩;refine(ez.2 HQ.o).mono ?_;rintro e w4 ⟨rfl,a2⟩;have b9:=hY a2;obtain⟨p0,p1,p2,p3,p4,p5,p6⟩:=(a2.blk (show Blk W3.drew _ _ _ from a9.o)).c7;have lp:=(a2.blk (show Blk W3.drew _ _ _ from a9.o)).lt;clear a2)
   |(refine⟨trivial,?_⟩;refine(ez.2 (Qlm _ d a1 a0)).mono ?_;rintro e w5 ⟨rfl,d3,c9⟩;have a3:=((fJ b3.o.drew).trans b9.o).trans (fJ d3);have hy:=d4.o pre ⟨Qk0 j++Qbf k,d,w4.heap.size,a1,a0⟩ Wj w5 Z.o.inv (Z.o.nw.trans a3) (Qvt Z.o HK.o c9 e2.o a3 e8.o (an b3.o.size b9.o.size));have HH:=hY (Qtv (Jx:=Jx) (x:=⟨Qk0 j++Qbf k,d,w4.heap.size,a1,a0⟩) Z.o a3 b0.o);obtain⟨fn,f1,assign,body,hy,hR⟩:=hy;have HR:=hY hR;dsimp only[QvF]at hy;clear hR d3 c9 a3)
   |(refine HR.o.mono ?_;intro e w6 h6;obtain⟨bb,rfl,H7⟩:=HH.o e w6 h6;clear h6))
  all_goals
   clear p0 p1 p2 p3 p4 p5 p6 q0 q1 q2 q3 q4 q5 q6 c4 HQ a9 hy HR HH;rcases H7.o with⟨rfl,c8⟩ |⟨rfl,b8⟩
   ·have d8:=hY c8
    clear c8 H7;gi_wp2_with fail;go_roundw
    case rel=>exact⟨j+1,_,w6,by go_num,c3,d8⟩
    simp[intOf];omega
   have e6:=hY b8;clear b8 H7;gi_wp2_with fail;refine eB (v:=.tuple #[]) (by simp[results,results264,go_sem]) rfl ?_;exact⟨⟨_,rfl⟩,.inr ⟨_,w6,trivial,e6.o,fM _ _⟩⟩
 obtain rfl:j=ok.length:=oM
 have g1:decide ((ok.length:Int)<(ok.length:Int))=false:=ej oM;have HE:=hY (show Qt2 ok pre from Z.o.len);clear hm a8;gi_wp2_with fail;go_end0;exact⟨⟨_,rfl⟩,.inl ⟨pre,Wj,HE.o,Z.o.inv,Z.o.nw⟩⟩
end Go.Proofs.YtdiecmkpbadgjaaGreatDoor
