/- Steps to the theorem. -/
import Derived.Shelf.SlIter.Nil
import Derived.Shelf.SortM.Plain
import Derived.Shelf.SortM.SortNone
import Derived.Shelf.Strconv.Itoa4
import Derived.Shelf.Unicode.ValidAny
import Derived.Shelf.Small.Wraps
import Derived.Lib.LaidU8
import Derived.Lib.ItoaLen
import Derived.Test.YtdiecmkpbadgjaaGreatDoorRows
import Derived.Shelf.Unicode.DecodeLastEight
import Derived.Shelf.Strings.MapAny
import Derived.Maps.OwnIn
import Derived.Test.YtdiecmkpbadgjaaGreatDoorPsd
set_option linter.all false
set_option maxRecDepth 100000
set_option maxHeartbeats 4000000
namespace Go.Proofs.YtdiecmkpbadgjaaGreatDoor
open Go.Proofs.Tryz
open Go.RowKit Go.Maps Go.Sort Go.Shelf
theorem zL{α:Type}:(∀l:List α,l.toArray.size=l.length)/\(∀(a:α)l,(a::l).length=l.length+1)/\([]:List α).length=0/\(∀n (a:α),Array.replicate (n+1) a=(Array.replicate n a).push a)/\(∀a:α,Array.replicate 0 a=#[])/\(∀l (a:α),l.toArray.push a=(l++[a]).toArray)/\(∀l k:List α,l.toArray++k.toArray=(l++k).toArray)/\(∀l:List α,[]++l=l)/\∀(a:α)l k,a::l++k=a::(l++k):=by simp[Array.replicate_succ]
def Tryz.QgG:Go.Shelf.Ren:=⟨λ| 7=>133|10=>176|n=>n,λ| 23=>181|26=>9|3=>192|28=>189|0=>0|27=>188|33=>147|4=>4|n=>n,λ| n=>n⟩
theorem Tryz.Qtj:Go.Proofs.SlLaysZ.n7 prog Tryz.QgG:={
 mixed:=by kernel_rfl
 f7:=⟨Tryz.f133.name,oN,func133.trans (congrArg some kM)⟩
 f10:=⟨Tryz.f176.name,oN,func176.trans (congrArg some kM)⟩
 t0:=underlying0
 a0:=isAgg0
 z0:=sizeOf0
 v0:=zeroValue0
 t4:=underlying4
 a4:=isAgg4
 z4:=sizeOf4
 v4:=zeroValue4
 t23:=underlying181
 a23:=isAgg181
 z23:=sizeOf181
 v23:=zeroValue181
 t26:=underlying9
 a26:=isAgg9
 z26:=sizeOf9
 v26:=zeroValue9
 t27:=underlying188
 a27:=isAgg188
 z27:=sizeOf188
 v27:=zeroValue188
 t28:=underlying189
 a28:=isAgg189
 z28:=sizeOf189
 v28:=zeroValue189
 t33:=underlying147
 a33:=isAgg147
 z33:=sizeOf147
 v33:=zeroValue147 }
def Tryz.Qg0:Go.Shelf.Ren:=⟨λ| 6=>132|8=>174|9=>175|11=>200|13=>202|12=>201|23=>224|24=>225|14=>215|15=>216|16=>217|17=>218|18=>219|19=>220|20=>221|21=>222|22=>223|25=>236|26=>237|27=>238|28=>239|29=>240|30=>241|31=>258|n=>n,λ| 26=>9|28=>189|24=>186|0=>0|3=>3|37=>162|48=>268|50=>22|4=>4|40=>262|39=>261|45=>125|5=>5|9=>9|51=>281|55=>285|57=>298|58=>210|33=>147|n=>n,λ| n=>n⟩
theorem Tryz.Qqz:Go.Proofs.SlLaysZ.n6 prog Tryz.Qg0:={
 mixed:=by kernel_rfl
 f6:=⟨Tryz.f132.name,oN,func132.trans (congrArg some kM)⟩
 f8:=⟨Tryz.f174.name,oN,func174.trans (congrArg some kM)⟩
 f11:=⟨Tryz.f200.name,oN,func200.trans (congrArg some kM)⟩
 t0:=underlying0
 a0:=isAgg0
 z0:=sizeOf0
 v0:=zeroValue0
 t24:=underlying186
 a24:=isAgg186
 z24:=sizeOf186
 v24:=zeroValue186
 t26:=underlying9
 a26:=isAgg9
 z26:=sizeOf9
 v26:=zeroValue9
 t28:=underlying189
 a28:=isAgg189
 z28:=sizeOf189
 v28:=zeroValue189
 i26:=by kernel_rfl }
def Tryz.Qqy:Go.Shelf.Ren:=⟨λ| 6=>175|8=>202|9=>201|19=>224|20=>225|21=>215|22=>216|23=>217|24=>218|25=>219|26=>220|27=>221|28=>222|29=>223|36=>236|31=>237|32=>238|37=>239|38=>240|39=>241|41=>258|n=>n,λ| 27=>186|29=>9|3=>3|32=>162|26=>186|0=>0|44=>268|46=>22|4=>4|36=>262|35=>261|41=>125|5=>5|9=>9|53=>281|57=>285|63=>298|64=>210|n=>n,λ| n=>n⟩
theorem Tryz.Qsq:Go.Proofs.SlLaysM.n6 prog Tryz.Qqy:={
 mixed:=by kernel_rfl
 f6:=⟨Tryz.f175.name,oN,func175.trans (congrArg some kM)⟩
 f8:=func202.trans (congrArg some kM)
 f9:=⟨Tryz.f201.name,oN,func201.trans (congrArg some kM)⟩
 f19:=func224.trans (congrArg some kM)
 f20:=func225.trans (congrArg some kM)
 f21:=⟨Tryz.f215.name,oN,func215.trans (congrArg some kM)⟩
 f22:=⟨Tryz.f216.name,oN,func216.trans (congrArg some kM)⟩
 f23:=⟨Tryz.f217.name,oN,func217.trans (congrArg some kM)⟩
 f24:=⟨Tryz.f218.name,oN,func218.trans (congrArg some kM)⟩
 f25:=⟨Tryz.f219.name,oN,func219.trans (congrArg some kM)⟩
 f26:=⟨Tryz.f220.name,oN,func220.trans (congrArg some kM)⟩
 f27:=⟨Tryz.f221.name,oN,func221.trans (congrArg some kM)⟩
 f28:=⟨Tryz.f222.name,oN,func222.trans (congrArg some kM)⟩
 f29:=⟨Tryz.f223.name,oN,func223.trans (congrArg some kM)⟩
 f31:=func237.trans (congrArg some kM)
 f32:=func238.trans (congrArg some kM)
 f36:=⟨Tryz.f236.name,oN,func236.trans (congrArg some kM)⟩
 f37:=⟨Tryz.f239.name,oN,func239.trans (congrArg some kM)⟩
 f38:=⟨Tryz.f240.name,oN,func240.trans (congrArg some kM)⟩
 f39:=⟨Tryz.f241.name,oN,func241.trans (congrArg some kM)⟩
 f41:=⟨Tryz.f258.name,oN,func258.trans (congrArg some kM)⟩
 t0:=underlying0
 a0:=isAgg0
 z0:=sizeOf0
 v0:=zeroValue0
 t3:=underlying3
 a3:=isAgg3
 z3:=sizeOf3
 v3:=zeroValue3
 t4:=underlying4
 a4:=isAgg4
 z4:=sizeOf4
 v4:=zeroValue4
 t5:=underlying5
 a5:=isAgg5
 z5:=sizeOf5
 v5:=zeroValue5
 t9:=underlying9
 a9:=isAgg9
 z9:=sizeOf9
 v9:=zeroValue9
 t26:=underlying186
 a26:=isAgg186
 z26:=sizeOf186
 v26:=zeroValue186
 t27:=underlying186
 a27:=isAgg186
 z27:=sizeOf186
 v27:=zeroValue186
 t29:=underlying9
 a29:=isAgg9
 z29:=sizeOf9
 v29:=zeroValue9
 t32:=underlying162
 a32:=isAgg162
 z32:=sizeOf162
 v32:=zeroValue162
 t35:=underlying261
 a35:=isAgg261
 z35:=sizeOf261
 v35:=zeroValue261
 t36:=underlying262
 a36:=isAgg262
 z36:=sizeOf262
 v36:=zeroValue262
 t41:=underlying125
 a41:=isAgg125
 z41:=sizeOf125
 v41:=zeroValue125
 t44:=underlying268
 a44:=isAgg268
 z44:=sizeOf268
 v44:=zeroValue268
 t46:=underlying22
 a46:=isAgg22
 z46:=sizeOf22
 v46:=zeroValue22
 t53:=underlying281
 a53:=isAgg281
 z53:=sizeOf281
 v53:=zeroValue281
 t57:=underlying285
 a57:=isAgg285
 z57:=sizeOf285
 v57:=zeroValue285
 t63:=underlying298
 a63:=isAgg298
 z63:=sizeOf298
 v63:=zeroValue298
 t64:=underlying210
 a64:=isAgg210
 z64:=sizeOf210
 v64:=zeroValue210 }
def Tryz.QfR:Go.Shelf.Ren:=⟨λ| 99=>214|206=>235|n=>n,λ| 9=>9|4=>4|3=>3|n=>n,λ| n=>n⟩
theorem Tryz.QjR:Go.Proofs.Lays.n99 prog Tryz.QfR:={
 mixed:=by kernel_rfl
 f99:=func214.trans (congrArg some kM)
 f206:=func235.trans (congrArg some kM)
 t3:=underlying3
 a3:=isAgg3
 z3:=sizeOf3
 v3:=zeroValue3
 t4:=underlying4
 a4:=isAgg4
 z4:=sizeOf4
 v4:=zeroValue4
 t9:=underlying9
 a9:=isAgg9
 z9:=sizeOf9
 v9:=zeroValue9 }
def Tryz.QfQ:Go.Shelf.Ren:=⟨λ| 173=>248|246=>262|283=>268|284=>269|285=>270|286=>271|129=>225|317=>280|318=>281|319=>282|320=>283|337=>288|338=>289|n=>n,λ| 2=>2|3=>3|9=>9|4=>4|171=>311|0=>0|53=>22|37=>249|5=>5|173=>313|212=>328|51=>268|20=>20|213=>329|46=>162|232=>335|233=>336|n=>n,λ| 17=>3|18=>4|19=>5|n=>n⟩
theorem Tryz.QfB:Go.Proofs.LaysM.n173 prog Tryz.QfQ:={
 mixed:=by kernel_rfl
 f129:=func225.trans (congrArg some kM)
 f173:=func248.trans (congrArg some kM)
 f246:=func262.trans (congrArg some kM)
 f283:=func268.trans (congrArg some kM)
 f284:=func269.trans (congrArg some kM)
 f285:=func270.trans (congrArg some kM)
 f286:=func271.trans (congrArg some kM)
 f317:=func280.trans (congrArg some kM)
 f318:=func281.trans (congrArg some kM)
 f319:=func282.trans (congrArg some kM)
 f320:=func283.trans (congrArg some kM)
 f337:=func288.trans (congrArg some kM)
 f338:=func289.trans (congrArg some kM)
 t0:=underlying0
 a0:=isAgg0
 z0:=sizeOf0
 v0:=zeroValue0
 t2:=underlying2
 a2:=isAgg2
 z2:=sizeOf2
 v2:=zeroValue2
 t3:=underlying3
 a3:=isAgg3
 z3:=sizeOf3
 v3:=zeroValue3
 t4:=underlying4
 a4:=isAgg4
 z4:=sizeOf4
 v4:=zeroValue4
 t5:=underlying5
 a5:=isAgg5
 z5:=sizeOf5
 v5:=zeroValue5
 t9:=underlying9
 a9:=isAgg9
 z9:=sizeOf9
 v9:=zeroValue9
 t20:=underlying20
 a20:=isAgg20
 z20:=sizeOf20
 v20:=zeroValue20
 t37:=underlying249
 a37:=isAgg249
 z37:=sizeOf249
 v37:=zeroValue249
 t46:=underlying162
 a46:=isAgg162
 z46:=sizeOf162
 v46:=zeroValue162
 t51:=underlying268
 a51:=isAgg268
 z51:=sizeOf268
 v51:=zeroValue268
 t53:=underlying22
 a53:=isAgg22
 z53:=sizeOf22
 v53:=zeroValue22
 t171:=underlying311
 a171:=isAgg311
 z171:=sizeOf311
 v171:=zeroValue311
 t173:=underlying313
 a173:=isAgg313
 z173:=sizeOf313
 v173:=zeroValue313
 t212:=underlying328
 a212:=isAgg328
 z212:=sizeOf328
 v212:=zeroValue328
 t213:=underlying329
 a213:=isAgg329
 z213:=sizeOf329
 t232:=underlying335
 a232:=isAgg335
 z232:=sizeOf335
 v232:=zeroValue335
 t233:=underlying336
 a233:=isAgg336
 z233:=sizeOf336
 v233:=zeroValue336
 g17:=by kernel_rfl
 g18:=by kernel_rfl
 g19:=by kernel_rfl
 i0:=by kernel_rfl
 i2:=by kernel_rfl
 i3:=by kernel_rfl
 i4:=by kernel_rfl
 i5:=by kernel_rfl
 i9:=by kernel_rfl
 i20:=by kernel_rfl
 i37:=by kernel_rfl
 i46:=by kernel_rfl
 i51:=by kernel_rfl
 i53:=by kernel_rfl
 i171:=by kernel_rfl
 i173:=by kernel_rfl
 i212:=by kernel_rfl
 i232:=by kernel_rfl
 i233:=by kernel_rfl
 m17:=by kernel_rfl
 m18:=by kernel_rfl
 m19:=by kernel_rfl }
def Tryz.QjS:Go.Shelf.Ren:=⟨λ| 196=>242|259=>259|n=>n,λ| 9=>9|4=>4|3=>3|5=>5|12=>12|119=>301|0=>0|46=>162|139=>304|138=>303|53=>22|n=>n,λ| 3=>1|4=>2|n=>n⟩
theorem Tryz.QrD:Go.Proofs.Lays.n196 prog Tryz.QjS:={
 mixed:=by kernel_rfl
 f196:=func242.trans (congrArg some kM)
 f259:=func259.trans (congrArg some kM)
 t0:=underlying0
 a0:=isAgg0
 z0:=sizeOf0
 v0:=zeroValue0
 t3:=underlying3
 a3:=isAgg3
 z3:=sizeOf3
 v3:=zeroValue3
 t4:=underlying4
 a4:=isAgg4
 z4:=sizeOf4
 v4:=zeroValue4
 t5:=underlying5
 a5:=isAgg5
 z5:=sizeOf5
 v5:=zeroValue5
 t9:=underlying9
 a9:=isAgg9
 z9:=sizeOf9
 v9:=zeroValue9
 t12:=underlying12
 a12:=isAgg12
 z12:=sizeOf12
 v12:=zeroValue12
 t46:=underlying162
 a46:=isAgg162
 z46:=sizeOf162
 v46:=zeroValue162
 t53:=underlying22
 a53:=isAgg22
 z53:=sizeOf22
 v53:=zeroValue22
 t119:=underlying301
 a119:=isAgg301
 z119:=sizeOf301
 t138:=underlying303
 a138:=isAgg303
 z138:=sizeOf303
 v138:=zeroValue303
 t139:=underlying304
 a139:=isAgg304
 z139:=sizeOf304
 v139:=zeroValue304
 g3:=by kernel_rfl
 g4:=by kernel_rfl }
def Tryz.Qfj:Go.Shelf.Ren:=⟨λ| 121=>246|214=>261|n=>n,λ| 4=>4|9=>9|n=>n,λ| n=>n⟩
theorem Tryz.QiD:Go.Proofs.Lays.n121 prog Tryz.Qfj:={
 mixed:=by kernel_rfl
 f121:=func246.trans (congrArg some kM)
 f214:=func261.trans (congrArg some kM)
 t4:=underlying4
 a4:=isAgg4
 z4:=sizeOf4
 v4:=zeroValue4
 t9:=underlying9
 a9:=isAgg9
 z9:=sizeOf9
 v9:=zeroValue9 }
theorem Tryz.QmE(m:Nat):AnyZ.SortsIn prog Tryz.Qg0 Fence.wide m:=
 ⟨fun N a0 cap ss W hH I Z=>eL.2 (AnyM.slices_Sort_string Tryz.Qsq N a0 cap ss W hH I Z),
  λp cap W=>eL.2 (AnyM.slices_Sort_string_none Tryz.Qsq p cap W)⟩
theorem Tryz.Qhz(mb:Option Nat)(W:World):CallsIn Fence.wide 5 prog 133 #[.map mb] W λe w'=>e=.returned (.func (.func 176) #[] #[.pointer (some W)])/\w'=W.alloc (.cells #[.map mb] 181):=
 AnyZ.keys_in Tryz.Qtj Fence.wide 5 trivial rfl mb W
theorem Tryz.Qer{H:Type}(b nn:Nat)(D0:DataW H)(R:Value->Option (DataW H × List MemPlace))(w:World)(N:w.ownsMap prog 9 R b nn D0)(a0:Maps.size D0<=maxLen)(I:Maps.size D0*16<=140737488355328) :
  CallsIn Fence.wide 5 prog 132 #[.func (.func 176) #[] #[.pointer (some w)]] (w.alloc (.cells #[.map (some b)] 181)) λe w'=>∃(v:Value) (ss:List (List UInt8)),e=.returned v/\ss.Perm (strKeys D0)/\
   w'.ownsRow (w.alloc (.cells #[.map (some b)] 181)).heap.size 9 1 v ss.length ((ss.mergeSort (λx y=>decide (x<=y))).map encStr)/\(v=.slice none 0 0↔ss=[])/\Below (w.alloc (.cells #[.map (some b)] 181)).heap.size (w.alloc (.cells #[.map (some b)] 181)) w':=by
 have a2:=N.lt;have a1:SeqGives Fence.wide 2 prog 176 #[.pointer (some w)] encStr (λss=>ss.Perm (strKeys D0)) (Maps.size D0) (w.alloc (.cells #[.map (some b)] 181)):=
  AnyZ.keys_gives (ρ:=Tryz.QgG) { Tryz.Qtj with } Fence.wide _ trivial rfl oM w.heap.size b nn D0 _ oO oO (by
   obtain⟨es,Z,hb,Ft,hs,hD⟩:=N;exact⟨es,Z,(eY _ _ b a2).trans hb,Ft,hs,hD⟩)
 exact AnyZ.sorted_in Tryz.Qqz Fence.wide 5 trivial trivial trivial trivial rfl oM (Tryz.QmE _) (ff func175 kM rfl) 176 #[.pointer (some w)] trivial (ff func176 kM rfl) _ _ a0 I _ a1
theorem Tryz.Qdg(w:World) :
  CallsIn Fence.wide 5 prog 132 #[.func (.func 176) #[] #[.pointer (some w)]] (w.alloc (.cells #[.map none] 181)) λe w'=>∃(v:Value) (ss:List (List UInt8)),e=.returned v/\ss=[]/\
   w'.ownsRow (w.alloc (.cells #[.map none] 181)).heap.size 9 1 v ss.length ((ss.mergeSort (λx y=>decide (x<=y))).map encStr)/\(v=.slice none 0 0↔ss=[])/\Below (w.alloc (.cells #[.map none] 181)).heap.size (w.alloc (.cells #[.map none] 181)) w':=by
 have I:SeqGives Fence.wide 2 prog 176 #[.pointer (some w)] encStr (λss:List (List UInt8)=>ss=[]) 0 (w.alloc (.cells #[.map none] 181)):=
  AnyZ.keys_gives_nil (ρ:=Tryz.QgG) { Tryz.Qtj with } Fence.wide _ trivial rfl w.heap.size _ oO oO
 exact AnyZ.sorted_in Tryz.Qqz Fence.wide 5 trivial trivial trivial trivial rfl oM (Tryz.QmE _) (ff func175 kM rfl) 176 #[.pointer (some w)] trivial (ff func176 kM rfl) _ 0 (aA _) oM _ I
abbrev Qi0(n:Int):Val:=.mk 3 false n ByteArray.empty [] [] []
abbrev Qvu(n:Int):Value:=.agg #[.int .i64 3,.bool false,.int .i64 n,.string ByteArray.empty,.slice none 0 0,.slice none 0 0]
def Qg9(ks:List ByteArray):Nat:=(ks.map ByteArray.size).sum
variable{ks:List ByteArray}{j:Nat}
theorem QqC{k:ByteArray}(h:ks[j]? = some k):Qg9 (ks.take (j+1))=Qg9 (ks.take j)+k.size:=by
 obtain⟨I,rfl⟩:=ae.1 h;unfold Qg9;rw[List.take_succ_eq_append_getElem I,aB,dW];simp
theorem QtL(ks:List ByteArray)(j:Nat):Qg9 (ks.take j)<=Qg9 ks:=by
 have:Qg9 ks=Qg9 (ks.take j)+Qg9 (ks.drop j):=by unfold Qg9;rw[<-dW,<-aB,aX]
 omega
abbrev wrC(a b:Value)(n:Nat):Array Value:=#[.bool false,a,b,.int .i64 (n:Int)]
variable{w:World}{B n:Nat}{F:Nat->Prop}{s:Sl}
theorem QiA{a b:Value}(hB:Blk w B 275 (wrC a b n))(hr:Rd w F 1 s ks.length (ks.map .string))(hF:∀i,F i->i<w.heap.size/\i≠B)(hn:n+Qg9 ks<=100000000)(b3:ks.length<=1000000) :
  Calls prog 245 #[.pointer (some B),.slice s.a ks.length s.c] w λe w'=>(∃r,e=.returned r)/\Blk w' B 275 (wrC a b (n+Qg9 ks))/\St (λc=>c=B) w w':=by
 obtain⟨g,o,h1,-,h3⟩:=hr;obtain⟨H1,H3,HF,HB⟩:=Ye h1 h3 hF hB;clear h1 h3 hF hB;go_in;go_wp2_with fail;go_loopw[8] (λq wr=>∃j:Nat,q=.int .i64 (j:Int)/\j<=ks.length/\Blk wr B 275 (wrC a b (n+Qg9 (ks.take j)))/\St (λc=>c=B) w wr) (λq _=>ks.length -(intOf q).toNat)
 case atStart=>exact⟨0,rfl,aA _,by simpa[Qg9]using HB.o,gB _ _⟩
 obtain⟨j,rfl,a9,N,I⟩:=hrel;by_cases Z:j<ks.length
 ·have g1:decide ((j:Int)<(ks.length:Int))=true:=eI oM
  have b0:(j:Int)<(ks.length:Int):=oM
  obtain⟨k,hk⟩:∃k,ks[j]? = some k:=⟨_,ac Z⟩;obtain⟨e1,hc,a4⟩:=H1.o.eq oM;have lg:=HF.o g (H1.o.fits oM);obtain⟨sa,sc⟩:=s;dsimp only at e1 hc a4;subst e1;have c0:wr.cell? ⟨g,o+j,none⟩=some (.string k):=(I.cell lg.1 lg.2).trans (H3.o j _ (by rw[ar,hk];rfl));have c3:wr.cell? ⟨B,3,none⟩=some (.int .i64 ((n+Qg9 (ks.take j):Nat):Int)):=N.cell 3;have ck:wr.cell? B=some (.bool false):=N.cell 0;have f3:=N.frozen 3;have lB:=N.lt;have a1:=QqC hk;have a8:=QtL ks (j+1);obtain⟨m,hm⟩:∃m,n+Qg9 (ks.take j)=m:=⟨_,rfl⟩;have a2:n+Qg9 (ks.take (j+1))=m+k.size:=oM
  rw[hm]at c3 N;have g2:IntKind.i64.wrap ((m:Int)+(k.size:Int))=(m:Int)+(k.size:Int):=by rw[eM];omega
  obtain⟨a7,a3,a5⟩:=Yc N I a2;clear N I hk a1 a8 hm a2;go_wp2_with fail;have a0:St (λc=>c=B) wr (wr.setCell ⟨B,3,none⟩ (.int .i64 ((m:Int)+(k.size:Int)))):=(gB (λc=>c=B) wr).set (p:=⟨B,3,none⟩) (.inr rfl) _;have a6:=a7.o.QbH 3 (.int .i64 ((m:Int)+(k.size:Int)));exact⟨⟨j+1,rfl,Z,by rw[a5.o];exact a6,a3.o.trans a0⟩,by show ks.length -((j:Int)+1).toNat<ks.length -(j:Int).toNat;omega⟩
 obtain rfl:j=ks.length:=oM
 have g1:decide ((ks.length:Int)<(ks.length:Int))=false:=eG oM;rw[aR]at N;go_wp2_with fail;go_end0;exact⟨⟨_,rfl⟩,N,I⟩
def Qt0(n:Int)(W:World):Prop:=Calls prog 248 #[.int .i64 n,.int .i64 10] W λe w'=>∃s:ByteArray,e=.returned (.string s)/\s.size<=21/\Nw W w'
theorem join_one{a b:Value}{m:Nat}(s:ByteArray)(I:Blk w B 275 (wrC a b m))(hm:m<=10000000)(hs:s.size<=1000) :
  Calls prog 245 #[.pointer (some B),.slice (some w) 1 1] (w.alloc (.cells #[s] 9)) λe w'=>(∃r,e=.returned r)/\Blk w' B 275 (wrC a b (m+s.size))/\Sb (λc=>c=B) w w':=by
 have N:Ext w (w.alloc (.cells #[s] 9)):=(gh w).alloc _ _;have hl:=I.lt;have Z:=QiA (s:=⟨some w,1⟩) (ks:=[s]) (I.ext N) (gA (gm w 9 #[.string s]) oN rfl) (λi hi=>by subst hi;exact⟨oO,oM⟩) (by simp[Qg9];omega) oO;exact Z.mono λe w' ⟨h1,h2,h3⟩=>⟨h1,by simpa[Qg9]using h2,(Nw.any (gj N) _).trans h3.sb⟩
def G5(w W:World):Prop:=∀b,b<6->W.heap[b]? = w.heap[b]?
theorem G5.refl(w:World):G5 w w:=λ_ _=>rfl
theorem G5.trans{a b c:World}(h:G5 a b)(k:G5 b c):G5 a c:=λi hi=>(k i hi).trans (h i hi)
variable{H:Nat->Prop}{w':World}
theorem Sb.g5(h:Sb H w w')(Z:6<=w.heap.size)(N:∀b,b<6->¬H b):G5 w w':=λb I=>h.block b oM (N b I)
structure Qi4(w:World):Prop where
 big:6<=w.heap.size
 fmt:∀W,G5 w W->∀n:Int,-9223372036854775808<=n->n<=9223372036854775807->Qt0 n W
 val:∀W,G5 w W->∀s:ByteArray,s.size<=maxLen->Calls prog 242 #[.string s] W λe w'=>e=.returned (.bool (Lib.validD s.data.toList))/\Nw W w'
theorem Qi4.sb(h:Qi4 w)(k:Sb H w w')(N:∀b,b<6->¬H b):Qi4 w':=
 ⟨Nat.le_trans h.big k.size,λW I=>h.fmt W ((k.g5 h.big N).trans I),λW I=>h.val W ((k.g5 h.big N).trans I)⟩
theorem Qi4.nw(h:Qi4 w)(k:Nw w w'):Qi4 w':=h.sb k λ_ _ e=>e
def Qci(k:ByteArray):Int:=if k.size=0 then 8 else if 64<k.size then 6 else if Lib.validD k.data.toList then 0 else 3
theorem QtF{k:ByteArray}(N:Blk w B 9 #[.string k]):Calls prog 229 #[.pointer (some B)] w λe w'=>e=.returned (.bool (decide (k.size=0)))/\w'=w:=by
 have c0:w.cell? B=some (.string k):=N.cell 0;have I:k.toList.isEmpty=decide (k.size=0):=by
  rw[eQ];by_cases h:k.size=0
  ·have:k.data.toList=[]:=au (by rw [aL];exact h)
   rw[this,eI h];rfl
  rw[eG h];cases hl:k.data.toList with
  |nil=>exact absurd (by have:=congrArg List.length hl;rw[aL]at this;exact this) h
  |cons a l=>rfl
 have Z:=hY I;clear I;clear N;go_in;go_wp2_with fail;go_ret;exact⟨by rw[<-Z.o];rfl,rfl⟩
theorem QtG{k:ByteArray}(I:Blk w B 9 #[.string k]):Calls prog 230 #[.pointer (some B)] w λe w'=>e=.returned (.bool (decide (64<k.size)))/\w'=w:=by
 have N:w.cell? B=some (.string k):=I.cell 0;clear I;go_in;go_wp2_with fail;go_ret;exact⟨by rw[show decide (64<k.size)=decide ((64:Int)<(k.size:Int))from decide_eq_decide.2 oM];rfl,rfl⟩
theorem QtH{k:ByteArray}(Z:Blk w B 9 #[.string k])(hk:k.size<=maxLen)(hL:Qi4 w):Calls prog 231 #[.pointer (some B)] w λe w'=>e=.returned (.bool (!Lib.validD k.data.toList))/\Nw w w':=by
 have c0:w.cell? B=some (.string k):=Z.cell 0;have hu:∀W,G5 w W->Calls prog 226 #[k] W λe w'=>e=.returned (Lib.validD k.data.toList)/\Nw W w':=λW hW=>by
  have hv:=hL.val W hW k hk;have HV:=hY hv;clear hv hL Z c0 hW;go_in;go_wp2_with fail;refine HV.o.mono ?_;rintro e w' ⟨rfl,I⟩;have N:=hY I;clear I;go_wp2_with fail;go_ret;exact⟨rfl,N.o⟩
 have HU:=hY (hu w (G5.refl w));clear Z hL hu;go_in;go_wp2_with fail;refine HU.o.mono ?_;rintro e w' ⟨rfl,I⟩;have N:=hY I;clear I;go_wp2_with fail;go_ret;exact⟨rfl,N.o⟩
abbrev Qsj(B:Nat):Array Value:=#[.int .i64 8,.func (.func 229) #[] #[.pointer (some ⟨B,0,none⟩)],.int .i64 6,.func (.func 230) #[] #[.pointer (some ⟨B,0,none⟩)],.int .i64 3,.func (.func 231) #[] #[.pointer (some ⟨B,0,none⟩)]]
theorem Qlv(w:World)(k:ByteArray):Calls prog 210 #[k] w λe w'=>e=.returned (.slice (some ⟨w+1,0,none⟩) 3 3)/\Ext w w'/\Blk w' w.heap.size 9 #[.string k]/\∃t,Blk w' (w.heap.size+1) t (Qsj w.heap.size):=by
 go_in;go_wp2_with fail;go_ret;generalize Z:World.alloc _ _=W0;obtain⟨N,a1,I,a0⟩:=Qas w _ _ _ _ W0 Z;exact⟨rfl,N,I,_,a0⟩
theorem QgU(P:Program)(w:World)(a:Addr)(f:Fn)(I lb:Array Value)(m:Mode):(store a (.func f I lb) m).run P w=stored P w a (.func f I lb) m:=run_store P w a _ m rfl
attribute [local go_sem] QgU
theorem Qc8{k:ByteArray}(hk:k.size<=maxLen)(hL:Qi4 w):Calls prog 194 #[k] w λe w'=>e=.returned (Qci k)/\Nw w w':=by
 have hr:=λW=>Qlv W k
 obtain⟨HR,HL⟩:=Yb hr hL;clear hr hL;go_in;go_wp2_with fail;refine(HR.o w).mono ?_;rintro e w1 ⟨rfl,a8,a4,t,I⟩;obtain⟨a7,b3,b0,a9⟩:=Ye a8 a4 I (HL.o.nw (gj a8));have l1:=I.lt;clear a8 a4 I HR;go_wp2_with fail;go_loopw[8] (λq wr=>∃j:Nat,q=.int .i64 (j:Int)/\j<=3/\(1<=j->k.size≠0)/\(2<=j->k.size<=64)/\(3<=j->Lib.validD k.data.toList=true)/\Nw w1 wr) (λq _=>3 -(intOf q).toNat)
 case atStart=>exact⟨0,rfl,oM,oM,oM,oM,gu _ _⟩
 obtain⟨j,rfl,hj,h1,h2,h3,hn⟩:=hrel;have a4:=hn.blk b3.o;have I:=Nw.blk hn b0.o;have c0:wr.cell? ⟨w+1,0,none⟩=some (.int .i64 8):=I.cell 0;have c1:wr.cell? ⟨w+1,1,none⟩=some (.func (.func 229) #[] #[.pointer (some w)]):=I.cell 1;have c2:wr.cell? ⟨w+1,2,none⟩=some (.int .i64 6):=I.cell 2;have c3:wr.cell? ⟨w+1,3,none⟩=some (.func (.func 230) #[] #[.pointer (some w)]):=I.cell 3;have c4:wr.cell? ⟨w+1,4,none⟩=some (.int .i64 3):=I.cell 4;have c5:wr.cell? ⟨w+1,5,none⟩=some (.func (.func 231) #[] #[.pointer (some w)]):=I.cell 5;obtain⟨HN,HB⟩:=Yb hn a4;clear a4 I hn;rcases(by omega:j=0\/j=1\/j=2\/j=3)with rfl|rfl|rfl|rfl
 ·go_wp2_with fail
  have Z:=(gh wr).alloc #[.int .i64 8,.func (.func 229) #[] #[.pointer (some w)]] 253;have a3:=HB.o.ext Z;have a1:=HN.o.trans (gj Z);obtain⟨a5,a6⟩:=Yb a1 (gm wr 253 #[.int .i64 8,.func (.func 229) #[] #[.pointer (some w)]]);clear Z a1 c0 c1 c2 c3 c4 c5;refine((QtF a3).mono λe w' h=>(show e=_/\Nw _ w' from⟨h.1,by rw[h.2];exact gu _ _⟩)).mono ?_;rintro e w4 ⟨rfl,N⟩;have a2:=Nw.blk N a6.o;have c0:w4.cell? wr=some (.int .i64 8):=a2.cell 0;have a0:=hY (a5.o.trans N);clear N a2 a3;by_cases hc:k.size=0
  ·have g0:decide (k.size=0)=true:=eI hc
   rw[g0];go_wp2_with fail;go_ret;exact⟨by rw[show Qci k=8 by rw[Qci,eH hc]]<;>rfl,(gj a7.o).trans a0.o⟩
  have g0:decide (k.size=0)=false:=eG hc;rw[g0];go_wp2_with fail;exact⟨⟨1,by go_num,oM,λ_=>hc,oM,oM,a0.o⟩,by simp[intOf]⟩
 ·go_wp2_with fail
  have Z:=(gh wr).alloc #[.int .i64 6,.func (.func 230) #[] #[.pointer (some w)]] 253;have a3:=HB.o.ext Z;have a1:=HN.o.trans (gj Z);obtain⟨a5,a6⟩:=Yb a1 (gm wr 253 #[.int .i64 6,.func (.func 230) #[] #[.pointer (some w)]]);clear Z a1 c0 c1 c2 c3 c4 c5;refine((QtG a3).mono λe w' h=>(show e=_/\Nw _ w' from⟨h.1,by rw[h.2];exact gu _ _⟩)).mono ?_;rintro e w4 ⟨rfl,N⟩;have a2:=Nw.blk N a6.o;have c0:w4.cell? wr=some (.int .i64 6):=a2.cell 0;have a0:=hY (a5.o.trans N);clear N a2 a3;by_cases hc:64<k.size
  ·have g0:decide (64<k.size)=true:=eI hc
   rw[g0];go_wp2_with fail;go_ret;exact⟨by rw[show Qci k=6 by rw[Qci,eE (h1 oM),eH hc]]<;>rfl,(gj a7.o).trans a0.o⟩
  have g0:decide (64<k.size)=false:=eG hc;rw[g0];go_wp2_with fail;exact⟨⟨2,by go_num,oM,λ_=>h1 oM,λ_=>oM,oM,a0.o⟩,by simp[intOf]⟩
 ·go_wp2_with fail
  have Z:=(gh wr).alloc #[.int .i64 3,.func (.func 231) #[] #[.pointer (some w)]] 253;have a3:=HB.o.ext Z;have a1:=HN.o.trans (gj Z);obtain⟨a5,a6⟩:=Yb a1 (gm wr 253 #[.int .i64 3,.func (.func 231) #[] #[.pointer (some w)]]);clear Z c0 c1 c2 c3 c4 c5;refine(QtH a3 hk (a9.o.nw a1)).mono ?_;rintro e w4 ⟨rfl,N⟩;have a2:=Nw.blk N a6.o;have c0:w4.cell? wr=some (.int .i64 3):=a2.cell 0;have a0:=hY (a5.o.trans N);clear N a2 a3;by_cases hc:Lib.validD k.data.toList=false
  ·have g0:(!Lib.validD k.data.toList)=true:=by rw [hc];rfl
   rw[g0];go_wp2_with fail;go_ret;exact⟨by rw[show Qci k=3 by rw[Qci,eE (h1 oM),eE (by have:=h2 oM;omega),eE (by rw[hc];simp)]]<;>rfl,(gj a7.o).trans a0.o⟩
  have g0:(!Lib.validD k.data.toList)=false:=by rw[Bool.not_eq_false]at hc;rw[hc];rfl
  rw[g0];go_wp2_with fail;exact⟨⟨3,by go_num,oM,λ_=>h1 oM,λ_=>h2 oM,λ_=>by simpa using hc,a0.o⟩,by simp[intOf]⟩
 go_wp2_with fail;go_ret;exact⟨by rw[show Qci k=0 by rw[Qci,eE (h1 oM),eE (by have:=h2 oM;omega),eH (h3 oM)]];rfl,(gj a7.o).trans HN.o⟩
end Go.Proofs.YtdiecmkpbadgjaaGreatDoor
namespace Go.Proofs.YtdiecmkpbadgjaaGreatDoor
open Go.Proofs.Tryz
open Go.RowKit Go.Maps Go.Shelf
def Qb0(k:Int)(b:Bool)(i:Int)(t:ByteArray)(ln on:Nat):Bool:=
 if k<1\/6<k then true
 else(k != 2&&b) ||(k != 3&&i != 0) ||(k != 4&&t.size != 0) ||(k != 5&&ln != 0) ||(k != 6&&on != 0)
def QvH(v:Val):Bool:=Qb0 v.kind v.b v.i v.t v.l.length v.ok.length
theorem Qa9{t:ByteArray}(h:t.size=0):t.toList.isEmpty=true:=by
 rw[eQ,List.isEmpty_iff];exact au (by rw[aL];exact h)
theorem Qbr{t:ByteArray}(h:¬t.size=0):t.toList.isEmpty=false:=by
 rw[Bool.eq_false_iff];intro e;rw[eQ,List.isEmpty_iff]at e;have:=congrArg List.length e;rw[aL]at this;exact h this
theorem Quy(w:World)(b:Bool)(i:Int)(t:ByteArray)(I Z lc oc:Nat)(la oa:Option Addr) :
  Calls prog 243 #[.agg #[.int .i64 1,b,i,t,.slice la I lc,.slice oa Z oc]] w λe w'=>e=.returned (Qb0 1 b i t I Z)/\Ext w w':=by
 by_cases hb:b=true
 ·subst hb
  go_in;go_wp2_with fail;go_ret;exact⟨by simp[Qb0],(gh w).alloc _ _⟩
 obtain rfl:b=false:=by simpa using hb
 by_cases hi:i=0
 rotate_left
 ·have gi:(i != 0)=true:=by simp [hi]
  go_in;go_wp2_with fail;go_ret;exact⟨by simp[Qb0,hi],(gh w).alloc _ _⟩
 subst hi;by_cases ht:t.size=0
 rotate_left
 ·have gt:=Qbr ht
  go_in;go_wp2_with fail;go_ret;exact⟨by simp[Qb0,ht],(gh w).alloc _ _⟩
 have gt:=Qa9 ht;by_cases N:I=0
 rotate_left
 ·have a2:(0:Int)<(I:Int):=oM
  have a3:decide ((0:Int)<(I:Int))=true:=eI a2;go_in;go_wp2_with fail;go_ret;exact⟨by simp[Qb0,ht,N,(show 0<I by omega)],(gh w).alloc _ _⟩
 have a2:decide ((0:Int)<(I:Int))=false:=eG oM;by_cases a1:Z=0
 rotate_left
 ·have a0:(0:Int)<(Z:Int):=oM
  have a4:decide ((0:Int)<(Z:Int))=true:=eI a0;go_in;go_wp2_with fail;go_ret;exact⟨by simp[Qb0,ht,N,a1,(show 0<Z by omega)],(gh w).alloc _ _⟩
 have a0:decide ((0:Int)<(Z:Int))=false:=eG oM;go_in;go_wp2_with fail;go_ret;exact⟨by simp[Qb0,ht,N,a1],(gh w).alloc _ _⟩
theorem Quz(w:World)(b:Bool)(i:Int)(t:ByteArray)(N I lc oc:Nat)(la oa:Option Addr) :
  Calls prog 243 #[.agg #[.int .i64 2,b,i,t,.slice la N lc,.slice oa I oc]] w λe w'=>e=.returned (Qb0 2 b i t N I)/\Ext w w':=by
 by_cases hi:i=0
 rotate_left
 ·have gi:(i != 0)=true:=by simp [hi]
  go_in;go_wp2_with fail;go_ret;exact⟨by simp[Qb0,hi],(gh w).alloc _ _⟩
 subst hi;by_cases ht:t.size=0
 rotate_left
 ·have gt:=Qbr ht
  go_in;go_wp2_with fail;go_ret;exact⟨by simp[Qb0,ht],(gh w).alloc _ _⟩
 have gt:=Qa9 ht;by_cases Z:N=0
 rotate_left
 ·have a2:(0:Int)<(N:Int):=oM
  have a3:decide ((0:Int)<(N:Int))=true:=eI a2;go_in;go_wp2_with fail;go_ret;exact⟨by simp[Qb0,ht,Z,(show 0<N by omega)],(gh w).alloc _ _⟩
 have a2:decide ((0:Int)<(N:Int))=false:=eG oM;by_cases a1:I=0
 rotate_left
 ·have a0:(0:Int)<(I:Int):=oM
  have a4:decide ((0:Int)<(I:Int))=true:=eI a0;go_in;go_wp2_with fail;go_ret;exact⟨by simp[Qb0,ht,Z,a1,(show 0<I by omega)],(gh w).alloc _ _⟩
 have a0:decide ((0:Int)<(I:Int))=false:=eG oM;go_in;go_wp2_with fail;go_ret;exact⟨by simp[Qb0,ht,Z,a1],(gh w).alloc _ _⟩
theorem QuA(w:World)(b:Bool)(i:Int)(t:ByteArray)(N I lc oc:Nat)(la oa:Option Addr) :
  Calls prog 243 #[.agg #[.int .i64 3,b,i,t,.slice la N lc,.slice oa I oc]] w λe w'=>e=.returned (Qb0 3 b i t N I)/\Ext w w':=by
 by_cases hb:b=true
 ·subst hb
  go_in;go_wp2_with fail;go_ret;exact⟨by simp[Qb0],(gh w).alloc _ _⟩
 obtain rfl:b=false:=by simpa using hb
 by_cases ht:t.size=0
 rotate_left
 ·have gt:=Qbr ht
  go_in;go_wp2_with fail;go_ret;exact⟨by simp[Qb0,ht],(gh w).alloc _ _⟩
 have gt:=Qa9 ht;by_cases Z:N=0
 rotate_left
 ·have a2:(0:Int)<(N:Int):=oM
  have a3:decide ((0:Int)<(N:Int))=true:=eI a2;go_in;go_wp2_with fail;go_ret;exact⟨by simp[Qb0,ht,Z,(show 0<N by omega)],(gh w).alloc _ _⟩
 have a2:decide ((0:Int)<(N:Int))=false:=eG oM;by_cases a1:I=0
 rotate_left
 ·have a0:(0:Int)<(I:Int):=oM
  have a4:decide ((0:Int)<(I:Int))=true:=eI a0;go_in;go_wp2_with fail;go_ret;exact⟨by simp[Qb0,ht,Z,a1,(show 0<I by omega)],(gh w).alloc _ _⟩
 have a0:decide ((0:Int)<(I:Int))=false:=eG oM;go_in;go_wp2_with fail;go_ret;exact⟨by simp[Qb0,ht,Z,a1],(gh w).alloc _ _⟩
theorem QuB(w:World)(b:Bool)(i:Int)(t:ByteArray)(N I lc oc:Nat)(la oa:Option Addr) :
  Calls prog 243 #[.agg #[.int .i64 4,b,i,t,.slice la N lc,.slice oa I oc]] w λe w'=>e=.returned (Qb0 4 b i t N I)/\Ext w w':=by
 by_cases hb:b=true
 ·subst hb
  go_in;go_wp2_with fail;go_ret;exact⟨by simp[Qb0],(gh w).alloc _ _⟩
 obtain rfl:b=false:=by simpa using hb
 by_cases hi:i=0
 rotate_left
 ·have gi:(i != 0)=true:=by simp [hi]
  go_in;go_wp2_with fail;go_ret;exact⟨by simp[Qb0,hi],(gh w).alloc _ _⟩
 subst hi;by_cases Z:N=0
 rotate_left
 ·have a2:(0:Int)<(N:Int):=oM
  have a3:decide ((0:Int)<(N:Int))=true:=eI a2;go_in;go_wp2_with fail;go_ret;exact⟨by simp[Qb0,Z,(show 0<N by omega)],(gh w).alloc _ _⟩
 have a2:decide ((0:Int)<(N:Int))=false:=eG oM;by_cases a1:I=0
 rotate_left
 ·have a0:(0:Int)<(I:Int):=oM
  have a4:decide ((0:Int)<(I:Int))=true:=eI a0;go_in;go_wp2_with fail;go_ret;exact⟨by simp[Qb0,Z,a1,(show 0<I by omega)],(gh w).alloc _ _⟩
 have a0:decide ((0:Int)<(I:Int))=false:=eG oM;go_in;go_wp2_with fail;go_ret;exact⟨by simp[Qb0,Z,a1],(gh w).alloc _ _⟩
theorem QuC(w:World)(b:Bool)(i:Int)(t:ByteArray)(ln I lc oc:Nat)(la oa:Option Addr) :
  Calls prog 243 #[.agg #[.int .i64 5,b,i,t,.slice la ln lc,.slice oa I oc]] w λe w'=>e=.returned (Qb0 5 b i t ln I)/\Ext w w':=by
 by_cases hb:b=true
 ·subst hb
  go_in;go_wp2_with fail;go_ret;exact⟨by simp[Qb0],(gh w).alloc _ _⟩
 obtain rfl:b=false:=by simpa using hb
 by_cases hi:i=0
 rotate_left
 ·have gi:(i != 0)=true:=by simp [hi]
  go_in;go_wp2_with fail;go_ret;exact⟨by simp[Qb0,hi],(gh w).alloc _ _⟩
 subst hi;by_cases Z:t.size=0
 rotate_left
 ·have gt:=Qbr Z
  go_in;go_wp2_with fail;go_ret;exact⟨by simp[Qb0,Z],(gh w).alloc _ _⟩
 have gt:=Qa9 Z;by_cases a0:I=0
 rotate_left
 ·have N:(0:Int)<(I:Int):=oM
  have a1:decide ((0:Int)<(I:Int))=true:=eI N;go_in;go_wp2_with fail;go_ret;exact⟨by simp[Qb0,Z,a0,(show 0<I by omega)],(gh w).alloc _ _⟩
 have N:decide ((0:Int)<(I:Int))=false:=eG oM;go_in;go_wp2_with fail;go_ret;exact⟨by simp[Qb0,Z,a0],(gh w).alloc _ _⟩
theorem QuD(w:World)(b:Bool)(i:Int)(t:ByteArray)(I on lc oc:Nat)(la oa:Option Addr) :
  Calls prog 243 #[.agg #[.int .i64 6,b,i,t,.slice la I lc,.slice oa on oc]] w λe w'=>e=.returned (Qb0 6 b i t I on)/\Ext w w':=by
 by_cases hb:b=true
 ·subst hb
  go_in;go_wp2_with fail;go_ret;exact⟨by simp[Qb0],(gh w).alloc _ _⟩
 obtain rfl:b=false:=by simpa using hb
 by_cases hi:i=0
 rotate_left
 ·have gi:(i != 0)=true:=by simp [hi]
  go_in;go_wp2_with fail;go_ret;exact⟨by simp[Qb0,hi],(gh w).alloc _ _⟩
 subst hi;by_cases N:t.size=0
 rotate_left
 ·have gt:=Qbr N
  go_in;go_wp2_with fail;go_ret;exact⟨by simp[Qb0,N],(gh w).alloc _ _⟩
 have gt:=Qa9 N;by_cases Z:I=0
 rotate_left
 ·have a0:(0:Int)<(I:Int):=oM
  have a1:decide ((0:Int)<(I:Int))=true:=eI a0;go_in;go_wp2_with fail;go_ret;exact⟨by simp[Qb0,N,Z,(show 0<I by omega)],(gh w).alloc _ _⟩
 have a0:decide ((0:Int)<(I:Int))=false:=eG oM;go_in;go_wp2_with fail;go_ret;exact⟨by simp[Qb0,N,Z],(gh w).alloc _ _⟩
theorem QpX(w:World){k:Int}(Z:k<1\/6<k)(b:Bool)(i:Int)(t:ByteArray)(I N lc oc:Nat)(la oa:Option Addr) :
  Calls prog 243 #[.agg #[k,b,i,t,.slice la I lc,.slice oa N oc]] w λe w'=>e=.returned (Qb0 k b i t I N)/\Ext w w':=by
 have h1:(k==1)=false:=by simp;omega
 have h2:(k==2)=false:=by simp;omega
 have h3:(k==3)=false:=by simp;omega
 have h4:(k==4)=false:=by simp;omega
 have h5:(k==5)=false:=by simp;omega
 have h6:(k==6)=false:=by simp;omega
 have ho:Qb0 k b i t I N=true:=by unfold Qb0;rw[eH Z]
 rw[ho];clear Z ho;go_in;go_wp2_with fail;go_ret;exact⟨rfl,(gh w).alloc _ _⟩
theorem Qtx(w:World)(v:Val)(sl so:Sl):Calls prog 243 #[QbV v sl so] w λe w'=>e=.returned (QvH v)/\Ext w w':=by
 obtain⟨k,b,i,t,l,N,Z⟩:=v;by_cases I:k<1\/6<k
 .exact QpX w I b i t _ _ _ _ _ _
 rcases(show k=1\/k=2\/k=3\/k=4\/k=5\/k=6 by omega)with rfl|rfl|rfl|rfl|rfl|rfl
 .exact Quy w b i t _ _ _ _ _ _
 .exact Quz w b i t _ _ _ _ _ _
 .exact QuA w b i t _ _ _ _ _ _
 .exact QuB w b i t _ _ _ _ _ _
 .exact QuC w b i t _ _ _ _ _ _
 exact QuD w b i t _ _ _ _ _ _
mutual
def Qda:Val->Nat->Int
 |.mk k b i t l ok ov,j=>if Qb0 k b i t l.length ok.length=true then 9 else if 64<j then 5 else if k=4 then(if Lib.validD t.data.toList then 0 else 3)else if k=5 then Qd8 l (j+1)else if k=6 then QhA none ok ov (j+1)else 0
def Qd8:List Val->Nat->Int
 |[],_=>0
 |d::r,j=>if Qda d j≠0 then Qda d j else Qd8 r j
def QhA:Option ByteArray->List ByteArray->List Val->Nat->Int
 |_,_,[],_=>0
 |p,ks,d::s,j=>if !Lib.validD (ks.headD ByteArray.empty).data.toList then 3 else if p.any (λq=>!klt q (ks.headD ByteArray.empty))then 8 else if Qda d j≠0 then Qda d j else QhA (some (ks.headD ByteArray.empty)) ks.tail s j
end
variable{j:Nat}
theorem Qtr{l:List Val}{i:Nat}{d:Val}(h:l[i]? = some d):Qd8 (l.drop i) j=if Qda d j≠0 then Qda d j else Qd8 (l.drop (i+1)) j:=by
 obtain⟨h1,h2⟩:=ae.1 h;rw[aE h1,h2,Qd8]
theorem Qus{a b:ByteArray}(h:klt a b=true):Op.bytesLess b.toList a.toList=false:=by
 show klt b a=false;cases I:klt b a with
 |false=>rfl
 |true=>have:=QaH h I;rw[Qag]at this;cases this
theorem QtO{a b:ByteArray}(h:a≠b):(a.toList==b.toList)=false:=by
 rw[eJ];intro e;rw[eQ,eQ]at e;exact h (by cases a;cases b;congr 1;exact dO.1 e)
def prevK(ok:List ByteArray):Nat->Option ByteArray
 |0=>none
 |j+1=>ok[j]?
theorem Qts{p:Option ByteArray}{ok:List ByteArray}{ov:List Val}{Q i:Nat}{d:Val}{k:ByteArray}(h:ov[i]? = some d)(I:ok[i]? = some k):QhA p (ok.drop i) (ov.drop i) Q =
  if !Lib.validD k.data.toList then 3 else if p.any (λq=>!klt q k)then 8 else if Qda d Q≠0 then Qda d Q else QhA (some k) (ok.drop (i+1)) (ov.drop (i+1)) Q:=by
 obtain⟨h1,h2⟩:=ae.1 h;obtain⟨Z,N⟩:=ae.1 I;rw[aE h1,h2,aE Z,N,QhA,dg,cp]
variable{w:World}
theorem QdO(Z:Qi4 w){k:ByteArray}(hk:k.size<=maxLen):Calls prog 226 #[k] w λe w'=>e=.returned (Lib.validD k.data.toList)/\Nw w w':=by
 have N:=Z.val w (G5.refl w) k hk;have HV:=hY N;clear N Z;go_in;go_wp2_with fail;refine HV.o.mono ?_;rintro e w' ⟨rfl,I⟩;have HN:=hY I;clear I;go_wp2_with fail;go_ret;exact⟨rfl,HN.o⟩
theorem QpK(m:Nat):∀(d:Val),SizeOf.sizeOf d<=m->∀(w:World) (sl so:Sl) (q:Nat),q<=65->RV w (Lt w) d sl so->Qi4 w->
  Calls prog 227 #[QbV d sl so,.int .i64 (q:Int)] w λe w'=>e=.returned (.int .i64 (Qda d q))/\Nw w w':=by
 induction m with
 |zero=>intro d hd;have:=Val.Qb6 d;omega
 |succ m ih=>
 intro d hd w sl so q hq h hL;have HI:=hY ih;clear ih;obtain⟨k,b,i,t,l,ok,ov⟩:=d;have c3:=λW=>Qtx W (.mk k b i t l ok ov) sl so
 show Calls _ _ #[.agg #[k,b,.int .i64 i,t,.slice sl.a l.length sl.c,.slice so.a ok.length so.c],.int .i64 q] _ _;have f9:=h;cases h with
 |mk bl fl bo fo cl co hl ho hov el rl ek eo ro bk bi bt nl no=>
 have e0:∀(j:Nat) (d:Val),l[j]? = some d->SizeOf.sizeOf d<=m:=λj d hj=>bv (ab (Val.QtM hj) hd)
 have e8:∀(j:Nat) (d:Val),ov[j]? = some d->SizeOf.sizeOf d<=m:=λj d hj=>bv (ab (Val.QtN hj) hd)
 have hu:=λW (hW:Nw w W)=>QdO (hL.nw hW) bt
 obtain⟨f6,f2,f3,f8,d3,f4,g8⟩:=Yh e0 e8 el rl ek eo ro;obtain⟨e4,HL,HU,c2,c1,c4⟩:=Yg hov hL hu c3 hl ho;clear e0 e8 el rl ek eo ro hov hd hL hu c3 f9;obtain⟨r,hr⟩:∃r,Qda (.mk k b i t l ok ov) q=r:=⟨_,rfl⟩;rw[hr];unfold Qda at hr;go_in;go_wp2_with fail;have e1:=(gh w).alloc #[.int .i64 k,.bool b,.int .i64 i,.string t,.slice sl.a l.length sl.c,.slice so.a ok.length so.c] 34;have b9:=gm w 34 #[.int .i64 k,.bool b,.int .i64 i,.string t,.slice sl.a l.length sl.c,.slice so.a ok.length so.c];refine(c2.o _).mono ?_;rintro e w1 ⟨rfl,a9⟩;obtain⟨q0,q1,q2,q3,q4,q5⟩:=(b9.ext a9).c6;have lq:=(b9.ext a9).lt;obtain⟨HX,HB⟩:=Yb (e1.trans a9) (b9.ext a9);clear e1 a9 b9 c2;unfold QvH;dsimp only[Val.kind,Val.b,Val.i,Val.t,Val.l,Val.ok];by_cases b6:Qb0 k b i t l.length ok.length=true
 ·rw [eH b6] at hr
  subst hr;rw[b6];go_wp2_with fail;go_ret;exact⟨rfl,gj HX.o⟩
 rw[eE b6]at hr;rw[show Qb0 k b i t l.length ok.length=false by simpa using b6];by_cases c8:64<q
 ·rw [eH c8] at hr
  subst hr;have g0:decide ((64:Int)<(q:Int))=true:=eI oM;go_wp2_with fail;go_ret;exact⟨rfl,gj HX.o⟩
 rw[eE c8]at hr;have g0:decide ((64:Int)<(q:Int))=false:=eG oM;by_cases h4:k=4
 ·subst h4
  rw[eH rfl]at hr;go_wp2_with fail;refine(HU.o _ (gj HX.o)).mono ?_;rintro e w2 ⟨rfl,d6⟩;have f1:=hY ((gj HX.o).trans d6);clear d6;cases hv:Lib.validD t.data.toList with
  | true=>
    rw[hv,eH rfl]at hr;subst hr;go_wp2_with fail;go_ret;exact⟨rfl,f1.o⟩
  | false=>
    rw[hv,eE oN]at hr;subst hr;go_wp2_with fail;go_ret;exact⟨rfl,f1.o⟩
 rw[eE h4]at hr;have g4:(k==4)=false:=by simpa using h4
 by_cases h5:k=5
 ·subst h5
  rw[eH rfl]at hr;go_wp2_with fail;go_loopw[30] (λqq wr=>∃j:Nat,qq=.int .i64 j/\j<=l.length/\Qd8 (l.drop j) (q+1)=r/\Nw w1 wr) (λqq _=>l.length -(intOf qq).toNat)
  case atStart=>exact⟨0,rfl,aA _,hr,gu _ _⟩
  obtain⟨j,rfl,hj,hm,hn⟩:=hrel;by_cases a7:j<l.length
  ·have g1:(j:Int)<(l.length:Int):=oM
   have f5:decide ((j:Int)<(l.length:Int))=true:=eI g1;obtain⟨d,hd⟩:∃d,l[j]? = some d:=⟨_,ac a7⟩;have Z:Nw w wr:=(gj HX.o).trans hn;have a2:Agree (Lt w) w wr:=gp Z λ_ h=>h
   obtain⟨b5,d5,c9⟩:=c1.o.eq oM;have a1:=c1.o.fits (show 0<l.length by omega);obtain⟨sa,sc⟩:=sl;dsimp only at b5 d5 c9;subst b5;obtain⟨v0,v1,v2,v3,v4,v5⟩:=(f3.o j d hd).agree a2 a1;have lb:bl<wr:=ab a1 Z.size;have b0:∀W,Nw wr W->Calls prog 227 #[QbV d (cl j).1 (cl j).2,.int .i64 ((q:Int)+1)] W λe w'=>e=.returned (.int .i64 (Qda d (q+1)))/\Nw W w':=λW hW=>by
    rw[show(q:Int)+1=((q+1:Nat):Int)by omega];exact HI.o d (f6.o j d hd) W _ _ (q+1) oM (((f8.o j d hd).agree (a2.trans (gp hW λ_ h=>ab h Z.size))).mono λi hi=>ab hi (ak Z.size hW.size)) (HL.o.nw (Z.trans hW))
   have I:=Qtr (j:=q+1) hd;rw[hm]at I;have g2:IntKind.i64.wrap ((q:Int)+1)=(q:Int)+1:=by rw[eM];omega
   obtain⟨a6,N,HN⟩:=Yc b0 I hn;clear hd Z a2 b0 I hn hm;go_wp2_with fail;have a4:=(gh wr).alloc #[.int .i64 d.kind,.bool d.b,.int .i64 d.i,.string d.t,.slice (cl j).1.a d.l.length (cl j).1.c,.slice (cl j).2.a d.ok.length (cl j).2.c] 34;refine(a6.o _ (gj a4)).mono ?_;rintro e w3 ⟨rfl,a3⟩;have e7:=hY ((HN.o.trans (gj a4)).trans a3);have I:=N.o;clear a4 a3 v0 v1 v2 v3 v4 v5 a6 N HN;generalize Qda d (q+1)=c at I;by_cases hc:c=0
   ·subst hc
    rw[eE oO]at I;have N:=hY I.symm;clear I;go_wp2_with fail;go_roundw
    case rel=>exact⟨j+1,by go_num,a7,N.o,e7.o⟩
    simp[intOf];omega
   rw[eH hc]at I;subst I;have g3:(r != 0)=true:=by simpa using hc
   have a0:=hY ((gj HX.o).trans e7.o);clear hc;go_wp2_with fail;go_ret;exact⟨rfl,a0.o⟩
  obtain rfl:j=l.length:=oM
  have g1:decide ((l.length:Int)<(l.length:Int))=false:=eG oM;have hz:r=0:=by rw[<-hm,cQ,Qd8]
  subst hz;have HN:=hY ((gj HX.o).trans hn);clear hn hm;go_wp2_with fail;go_ret;exact⟨rfl,HN.o⟩
 rw[eE h5]at hr;have g5:(k==5)=false:=by simpa using h5
 by_cases h6:k=6
 ·subst h6
  rw[eH rfl]at hr;go_wp2_with fail;go_loopw[47] (λqq wr=>∃j:Nat,qq=.int .i64 j/\j<=ok.length/\QhA (prevK ok j) (ok.drop j) (ov.drop j) (q+1)=r/\Nw w1 wr) (λqq _=>ok.length -(intOf qq).toNat)
  case atStart=>exact⟨0,rfl,aA _,hr,gu _ _⟩
  obtain⟨j,rfl,hj,hm,hn⟩:=hrel;by_cases a7:j<ok.length
  ·have g1:(j:Int)<(ok.length:Int):=oM
   have f5:decide ((j:Int)<(ok.length:Int))=true:=eI g1;obtain⟨kk,hk⟩:∃kk,ok[j]? = some kk:=⟨_,ac a7⟩;obtain⟨d,hd⟩:∃d,ov[j]? = some d:=⟨_,ac (by rw[e4.o];exact a7)⟩;have Z:Nw w wr:=(gj HX.o).trans hn;have a2:Agree (Lt w) w wr:=gp Z λ_ h=>h
   obtain⟨b5,d5,c9⟩:=c4.o.eq oM;have a1:=c4.o.fits (show 0<ok.length by omega);obtain⟨sa,sc⟩:=so;dsimp only at b5 d5 c9;subst b5;obtain⟨v0,v1,v2,v3,v4,v5⟩:=(f4.o j d hd).agree a2 a1;have lb:bo<wr:=ab a1 Z.size;have kc:wr.cell? ⟨bo,fo+j*7,none⟩=some (.string kk):=(a2.cell a1).trans (d3.o j kk hk).1;have e3:=(d3.o j kk hk).2;have b0:∀W,Nw wr W->Calls prog 227 #[QbV d (co j).1 (co j).2,.int .i64 ((q:Int)+1)] W λe w'=>e=.returned (.int .i64 (Qda d (q+1)))/\Nw W w':=λW hW=>by
    rw[show(q:Int)+1=((q+1:Nat):Int)by omega];exact HI.o d (f2.o j d hd) W _ _ (q+1) oM (((g8.o j d hd).agree (a2.trans (gp hW λ_ h=>ab h Z.size))).mono λi hi=>ab hi (ak Z.size hW.size)) (HL.o.nw (Z.trans hW))
   have e2:∀W,Nw wr W->Calls prog 226 #[.string kk] W λe w'=>e=.returned (.bool (Lib.validD kk.data.toList))/\Nw W w':=λW hW=>QdO (HL.o.nw (Z.trans hW)) e3
   have I:=Qts (p:=prevK ok j) (Q:=q+1) hd hk;rw[hm]at I;have g2:IntKind.i64.wrap ((q:Int)+1)=(q:Int)+1:=by rw[eM];omega
   obtain⟨a6,N,e6,HN,d8,f7⟩:=Yg b0 I e2 hn hk (And.intro a2 a1);clear hd Z a2 b0 I hn hm e2 hk e3;go_wp2_with fail;have a4:=(gh wr).alloc #[.string kk,.int .i64 d.kind,.bool d.b,.int .i64 d.i,.string d.t,.slice (co j).1.a d.l.length (co j).1.c,.slice (co j).2.a d.ok.length (co j).2.c] 124;have d0:=gm wr 124 #[.string kk,.int .i64 d.kind,.bool d.b,.int .i64 d.i,.string d.t,.slice (co j).1.a d.l.length (co j).1.c,.slice (co j).2.a d.ok.length (co j).2.c];refine(e6.o _ (gj a4)).mono ?_;rintro e w3 ⟨rfl,a3⟩;have b4:=(HN.o.trans (gj a4)).trans a3;obtain⟨u0,u1,u2,u3,u4,u5,u6⟩:=(Nw.blk a3 d0).c7;have ul:=(Nw.blk a3 d0).lt;have p5:w3.cell? ⟨w,5,none⟩=some (.slice (some ⟨bo,fo,none⟩) ok.length sc):=(Nw.blk b4 HB.o).cell 5;have pl:=(Nw.blk b4 HB.o).lt;obtain⟨c0,d4⟩:=Yb b4 ((gj a4).trans a3);have d7:∀i y,j=i+1->ok[i]? = some y->w3.cell? ⟨bo,fo+i*7,none⟩=some (.string y):=λi y _ hy=>
    (gp (((gj HX.o).trans b4)) (λ_ h=>h)).cell f7.o.2 |>.trans (d3.o i y hy).1
   have b7:=hY d7;have g9:bo<w3:=by have:=d4.o.size;omega
   have I:=N.o;clear a4 d0 a3 b4 v0 v1 v2 v3 v4 v5 kc N e6 HN d7;cases hv:Lib.validD kk.data.toList with
   | false=>
     rw[hv]at I;rw[eH oN]at I;subst I;have a0:=hY ((gj HX.o).trans c0.o);go_wp2_with fail;go_ret;exact⟨rfl,a0.o⟩
   | true=>
     rw[hv]at I;rw[eE oN]at I;by_cases b8:j=0
     ·subst b8
      rw[show prevK ok 0=none from rfl,ey,eE oN]at I;have gg:decide ((0:Int)<((0:Nat):Int))=false:=oN
      have N:=hY I;clear I;go_wp2_with fail;go_quiet (fail);go_wp2_with fail;refine(a6.o _ (d4.o.trans (gj ((gh w3).drewN _)))).mono ?_;rintro e w4 ⟨rfl,a8⟩;have b3:=hY ((c0.o.trans (gj ((gh w3).drewN _))).trans a8);have I:=N.o;clear a8 a6 N u0 u1 u2 u3 u4 u5 u6;generalize Qda d (q+1)=c at I;by_cases hc:c=0
      ·subst hc
       rw[eE oO]at I;have N:=hY I.symm;clear I;go_wp2_with fail;go_roundw
       case rel=>exact⟨0+1,by go_num,a7,by rw[show prevK ok (0+1)=some kk from d8.o];exact N.o,b3.o⟩
       simp[intOf];omega
      rw[eH hc]at I;subst I;have g3:(r != 0)=true:=by simpa using hc
      have a0:=hY ((gj HX.o).trans b3.o);clear hc;go_wp2_with fail;go_ret;exact⟨rfl,a0.o⟩
     obtain⟨i,rfl⟩:∃i,j=i+1:=⟨j-1,oM⟩;obtain⟨y,hy⟩:∃y,ok[i]? = some y:=⟨_,ac oM⟩;have pk:=b7.o i y rfl hy;rw[show prevK ok (i+1)=some y from hy,dB]at I;have gg:decide ((0:Int)<((i+1:Nat):Int))=true:=eI oM;have i1:(0:Int)<((i+1:Nat):Int):=oM
     have gs:IntKind.i64.wrap (((i+1:Nat):Int)-1)=(i:Int):=by rw[eM];omega
     have i0:(0:Int)<=(i:Int):=oM
     have i2:(i:Int)<(ok.length:Int):=oM
     cases a5:klt y kk with
     | false=>
       rw[a5,eH oN]at I;subst I;have a0:=hY ((gj HX.o).trans c0.o);cases f0:klt kk y with
       | true=>
         have a1:Op.bytesLess kk.toList y.toList=true:=f0;clear hy b8 b7;go_wp2_with fail;go_quiet (fail);go_wp2_with fail;go_ret;exact⟨rfl,a0.o.trans (gj ((gh w3).drewN _))⟩
       | false=>
         obtain rfl:y=kk:=QbE a5 f0;have a1:Op.bytesLess y.toList y.toList=false:=a5;have g7:(y.toList==y.toList)=true:=oO
         clear hy b8 b7;go_wp2_with fail;go_quiet (fail);go_wp2_with fail;go_ret;exact⟨rfl,a0.o.trans (gj ((gh w3).drewN _))⟩
     | true=>
       rw[a5,eE oN]at I;have a1:Op.bytesLess kk.toList y.toList=false:=Qus a5;have g7:(kk.toList==y.toList)=false:=QtO (λe=>by rw[e,Qag]at a5;cases a5);have N:=hY I;clear I hy b8 b7;go_wp2_with fail;go_quiet (fail);go_wp2_with fail;refine(a6.o _ (d4.o.trans (gj ((gh w3).drewN _)))).mono ?_;rintro e w4 ⟨rfl,a8⟩;have b3:=hY ((c0.o.trans (gj ((gh w3).drewN _))).trans a8);have I:=N.o;clear a8 a6 N u0 u1 u2 u3 u4 u5 u6;generalize Qda d (q+1)=c at I;by_cases hc:c=0
       ·subst hc
        rw[eE oO]at I;have N:=hY I.symm;clear I;go_wp2_with fail;go_roundw
        case rel=>exact⟨(i+1)+1,by go_num,a7,by rw[show prevK ok ((i+1)+1)=some kk from d8.o];exact N.o,b3.o⟩
        simp[intOf];omega
       rw[eH hc]at I;subst I;have g3:(r != 0)=true:=by simpa using hc
       have a0:=hY ((gj HX.o).trans b3.o);clear hc;go_wp2_with fail;go_ret;exact⟨rfl,a0.o⟩
  obtain rfl:j=ok.length:=oM
  have g1:decide ((ok.length:Int)<(ok.length:Int))=false:=eG oM;have hz:r=0:=by rw[<-hm,<-e4.o,cQ (l:=ov),QhA]
  subst hz;have HN:=hY ((gj HX.o).trans hn);clear hn hm;go_wp2_with fail;go_ret;exact⟨rfl,HN.o⟩
 rw[eE h6]at hr;subst hr;have g6:(k==6)=false:=by simpa using h6
 go_wp2_with fail;go_ret;exact⟨rfl,gj HX.o⟩
variable{sl so:Sl}
theorem QrM{v:Val}(h:RV w (Lt w) v sl so)(hL:Qi4 w):Calls prog 207 #[QbV v sl so] w λe w'=>e=.returned (Qda v 1)/\Nw w w':=by
 have I:=(gh w).alloc #[.int .i64 v.kind,.bool v.b,.int .i64 v.i,.string v.t,.slice sl.a v.l.length sl.c,.slice so.a v.ok.length so.c] 34;have ho:=QpK _ v (ao _) (w.alloc (.cells #[v.kind,v.b,v.i,v.t,.slice sl.a v.l.length sl.c,.slice so.a v.ok.length so.c] 34)) sl so 1 oN ((h.agree (I.agree λ_ h=>h)).mono λi hi=>ab hi I.size) (hL.nw (gj I));obtain⟨HO,Z⟩:=Yb ho I;clear ho h I hL;go_in;go_wp2_with fail;refine HO.o.mono ?_;rintro e w1 ⟨rfl,N⟩;have HX:=hY ((gj Z.o).trans N);clear N;go_wp2_with fail;go_ret;exact⟨rfl,HX.o⟩
mutual
def Qdv:Val->Nat
 |.mk k b i t l ok ov=>1+(if k=5 then Qb1 l else if k=6 then Qb1 ov else 0)
def Qb1:List Val->Nat
 |[]=>0
 |d::r=>max (Qdv d) (Qb1 r)
end
theorem Qfc:∀{l:List Val} {j:Nat} {d:Val},l[j]? = some d->Qb1 (l.take (j+1))=max (Qb1 (l.take j)) (Qdv d)
 |[],j,d,h=>by simp at h
 | x :: r,0,d,h=>by
   simp at h;subst h;simp[Qb1]
 | x :: r,j+1,d,h=>by
   have I:r[j]? = some d:=by simpa using h
   rw[bp,bp,Qb1,Qb1,Qfc I,Nat.max_assoc]
theorem Qii:∀{l:List Val} {j:Nat} {d:Val},l[j]? = some d->Qdv d<=Qb1 l
 |[],j,d,h=>by simp at h
 | x :: r,0,d,h=>by
   simp at h;subst h;rw[Qb1];exact Nat.le_max_left _ _
 | x :: r,j+1,d,h=>by
   have I:r[j]? = some d:=by simpa using h
   rw[Qb1];exact ak (Qii I) (Nat.le_max_right _ _)
theorem Qx8(l:List Val)(j:Nat):Qb1 (l.take j)<=Qb1 l:=by
 induction l generalizing j with
 |nil=>simp
 | cons x r ih=>
   cases j with
   |zero=>simp[Qb1]
   |succ j=>rw[bp,Qb1,Qb1];have:=ih j;omega
mutual
theorem Qij:∀(v:Val) (q:Nat),Qda v q=0->Qdv v+q<=65
 | .mk k b i t l ok ov,q,h=>by
   unfold Qda at h;unfold Qdv;split at h
   .cases h
   split at h
   .cases h
   split at h
   ·rename_i h4
    subst h4;simp;omega
   split at h
   ·rename_i h5
    rw[eH h5];have:=Qjq l (q+1) h;omega
   split at h
   ·rename_i h5 h6
    rw[eE h5,eH h6];have:=Qjr _ _ ov (q+1) h;omega
   rename_i h5 h6;rw[eE h5,eE h6];omega
theorem Qjq:∀(l:List Val) (q:Nat),Qd8 l q=0->Qb1 l+q<=65\/Qb1 l=0
 |[],q,h=>.inr rfl
 | d :: r,q,h=>by
   rw[Qd8]at h;split at h
   .rename_i h1;exact absurd h h1
   rename_i h1;have h2:=Qij d q (by simpa using h1);have I:=Qjq r q h;rw[Qb1];left;omega
theorem Qjr:∀(p:Option ByteArray) (ks:List ByteArray) (l:List Val) (q:Nat),QhA p ks l q=0->Qb1 l+q<=65\/Qb1 l=0
 |p,ks,[],q,h=>.inr rfl
 | p,ks,d :: r,q,h=>by
   rw[QhA]at h;split at h
   .cases h
   split at h
   .cases h
   split at h
   .rename_i h1;exact absurd h h1
   rename_i h1;have h2:=Qij d q (by simpa using h1);have I:=Qjr _ _ r q h;rw[Qb1];left;omega
end
theorem Qm7(m:Nat):∀(d:Val),SizeOf.sizeOf d<=m->Qdv d<=1000000->∀(w:World) (sl so:Sl),RV w (Lt w) d sl so->
  Calls prog 208 #[QbV d sl so] w λe w'=>e=.returned (.int .i64 (Qdv d:Int))/\Ext w w':=by
 induction m with
 |zero=>intro d hd;have:=Val.Qb6 d;omega
 |succ m ih=>
 intro d hd c7 w sl so h;have HI:=hY ih;clear ih;obtain⟨k,b,i,t,l,ok,ov⟩:=d;show Calls _ _ #[.agg #[k,b,i,t,.slice sl.a l.length sl.c,.slice so.a ok.length so.c]] _ _;cases h with
 |mk bl fl bo fo cl co hl ho hov el rl ek eo ro bk bi bt nl no=>
 have b9:∀(j:Nat) (d:Val),l[j]? = some d->SizeOf.sizeOf d<=m:=λj d hj=>bv (ab (Val.QtM hj) hd)
 have b8:∀(j:Nat) (d:Val),ov[j]? = some d->SizeOf.sizeOf d<=m:=λj d hj=>bv (ab (Val.QtN hj) hd)
 obtain⟨c4,c1,c6,c8,c2,c9,c0⟩:=Yh b9 b8 el rl eo ro hov;obtain⟨b0,a9⟩:=Yb hl ho;obtain⟨r,hr⟩:∃r,Qdv (.mk k b i t l ok ov)=r:=⟨_,rfl⟩;rw[hr]at c7 ⊢;unfold Qdv at hr;clear b9 b8 el rl eo ro hov hd;go_in;by_cases h5:k=5
 ·subst h5
  rw[eH rfl]at hr;go_wp2_with fail;generalize a7:World.alloc w _=w1;have a3:Ext w w1:=by rw[<-a7];exact(gh w).alloc _ _
  have HX:=hY a3;clear a7 a3;go_loopw[3,15] (λdp qq wr=>∃j:Nat,dp=.int .i64 (Qb1 (l.take j):Int)/\qq=.int .i64 j/\j<=l.length/\Ext w1 wr) (λ_ qq _=>l.length -(intOf qq).toNat)
  case atStart=>exact⟨0,rfl,rfl,aA _,gh _⟩
  obtain⟨j,rfl,rfl,hj,hn⟩:=hrel;by_cases a0:j<l.length
  ·have g1:(j:Int)<(l.length:Int):=oM
   have c3:decide ((j:Int)<(l.length:Int))=true:=eI g1;obtain⟨d,hd⟩:∃d,l[j]? = some d:=⟨_,ac a0⟩;have I:Ext w wr:=HX.o.trans hn;have N:Agree (Lt w) w wr:=I.agree λ_ h=>h
   obtain⟨a6,b5,b3⟩:=b0.o.eq oM;have a1:=b0.o.fits (show 0<l.length by omega);obtain⟨sa,sc⟩:=sl;dsimp only at a6 b5 b3;subst a6;obtain⟨v0,v1,v2,v3,v4,v5⟩:=(c6.o j d hd).agree N a1;have lb:bl<wr:=ab a1 I.size;have b7:=Qii hd;have a2:∀W,Ext wr W->Calls prog 208 #[QbV d (cl j).1 (cl j).2] W λe w'=>e=.returned (.int .i64 (Qdv d:Int))/\Ext W w':=λW hW=>
    HI.o d (c4.o j d hd) oM W _ _ (((c8.o j d hd).agree (N.trans (hW.agree λ_ h=>ab h I.size))).mono λi hi=>ab hi (ak I.size hW.size))
   have a8:=Qfc hd;obtain⟨a5,b6,HN⟩:=Yc a2 a8 hn;clear hd I N a2 hn a8 b7;go_wp2_with fail;have Z:=(gh wr).alloc #[.int .i64 d.kind,.bool d.b,.int .i64 d.i,.string d.t,.slice (cl j).1.a d.l.length (cl j).1.c,.slice (cl j).2.a d.ok.length (cl j).2.c] 34;refine(a5.o _ Z).mono ?_;rintro e w3 ⟨rfl,a4⟩;have b4:=hY ((HN.o.trans Z).trans a4);clear Z a4 v0 v1 v2 v3 v4 v5 a5 HN;go_wp2_with fail;go_roundw
   case rel=>exact⟨j+1,by rw[b6.o];go_num,by go_num,a0,b4.o⟩
   simp[intOf];omega
  obtain rfl:j=l.length:=oM
  have g1:decide ((l.length:Int)<(l.length:Int))=false:=eG oM;rw[aR];have g2:IntKind.i64.wrap (1+(Qb1 l:Int))=1+(Qb1 l:Int):=by rw[eM];omega
  have hz:(r:Int)=1+(Qb1 l:Int):=oM
  obtain⟨HZ,HN⟩:=Yb hz (HX.o.trans hn);clear hn hz;go_wp2_with fail;go_ret;exact⟨by rw[HZ.o];rfl,HN.o⟩
 rw[eE h5]at hr;have g5:(k==5)=false:=by simpa using h5
 by_cases h6:k=6
 ·subst h6
  rw[eH rfl]at hr;go_wp2_with fail;generalize a7:World.alloc w _=w1;have a3:Ext w w1:=by rw[<-a7];exact(gh w).alloc _ _
  have HX:=hY a3;clear a7 a3;go_loopw[3,29] (λdp qq wr=>∃j:Nat,dp=.int .i64 (Qb1 (ov.take j):Int)/\qq=.int .i64 j/\j<=ok.length/\Ext w1 wr) (λ_ qq _=>ok.length -(intOf qq).toNat)
  case atStart=>exact⟨0,rfl,rfl,aA _,gh _⟩
  obtain⟨j,rfl,rfl,hj,hn⟩:=hrel;by_cases a0:j<ok.length
  ·have g1:(j:Int)<(ok.length:Int):=oM
   have c3:decide ((j:Int)<(ok.length:Int))=true:=eI g1;obtain⟨kk,hk⟩:∃kk,ok[j]? = some kk:=⟨_,ac a0⟩;obtain⟨d,hd⟩:∃d,ov[j]? = some d:=⟨_,ac (by rw[c0.o];exact a0)⟩;have I:Ext w wr:=HX.o.trans hn;have N:Agree (Lt w) w wr:=I.agree λ_ h=>h
   obtain⟨a6,b5,b3⟩:=a9.o.eq oM;have a1:=a9.o.fits (show 0<ok.length by omega);obtain⟨sa,sc⟩:=so;dsimp only at a6 b5 b3;subst a6;obtain⟨v0,v1,v2,v3,v4,v5⟩:=(c2.o j d hd).agree N a1;have lb:bo<wr:=ab a1 I.size;have kc:wr.cell? ⟨bo,fo+j*7,none⟩=some (.string kk):=(N.cell a1).trans (ek j kk hk).1;have b7:=Qii hd;have a2:∀W,Ext wr W->Calls prog 208 #[QbV d (co j).1 (co j).2] W λe w'=>e=.returned (.int .i64 (Qdv d:Int))/\Ext W w':=λW hW=>
    HI.o d (c1.o j d hd) oM W _ _ (((c9.o j d hd).agree (N.trans (hW.agree λ_ h=>ab h I.size))).mono λi hi=>ab hi (ak I.size hW.size))
   have a8:=Qfc hd;obtain⟨a5,b6,HN⟩:=Yc a2 a8 hn;clear hd I N a2 hn a8 b7 hk;go_wp2_with fail;have Z:=(gh wr).alloc #[.string kk,.int .i64 d.kind,.bool d.b,.int .i64 d.i,.string d.t,.slice (co j).1.a d.l.length (co j).1.c,.slice (co j).2.a d.ok.length (co j).2.c] 124;refine(a5.o _ Z).mono ?_;rintro e w3 ⟨rfl,a4⟩;have b4:=hY ((HN.o.trans Z).trans a4);clear Z a4 v0 v1 v2 v3 v4 v5 kc a5 HN;go_wp2_with fail;go_roundw
   case rel=>exact⟨j+1,by rw[b6.o];go_num,by go_num,a0,b4.o⟩
   simp[intOf];omega
  obtain rfl:j=ok.length:=oM
  have g1:decide ((ok.length:Int)<(ok.length:Int))=false:=eG oM;rw[<-c0.o,aR];have g2:IntKind.i64.wrap (1+(Qb1 ov:Int))=1+(Qb1 ov:Int):=by rw[eM];omega
  have hz:(r:Int)=1+(Qb1 ov:Int):=oM
  obtain⟨HZ,HN⟩:=Yb hz (HX.o.trans hn);clear hn hz;go_wp2_with fail;go_ret;exact⟨by rw[HZ.o];rfl,HN.o⟩
 rw[eE h6]at hr;subst hr;have g6:(k==6)=false:=by simpa using h6
 go_wp2_with fail;go_ret;exact⟨rfl,(gh w).alloc _ _⟩
variable{B:Nat}
theorem Qr3{a b:Value}{m:Nat}(hB:Blk w B 275 (wrC a b m))(hm:m<=10000000) :
  Calls prog 255 #[.pointer (some B)] w λe w'=>(∃r,e=.returned r)/\Blk w' B 275 (wrC a b (m+4))/\Sb (λc=>c=B) w w':=by
 have hj:=join_one (w:=w) ⟨#[110,117,108,108]⟩ hB hm oN;have HJ:=hY hj;clear hj hB;go_in;go_wp2_with fail;refine HJ.o.mono ?_;rintro e w1 ⟨⟨r,rfl⟩,N,I⟩;obtain⟨a0,Z⟩:=Yb N I;clear N I;go_wp2_with fail;go_end0;exact⟨⟨_,rfl⟩,a0.o,Z.o⟩
def Qut(x:Bool):Nat:=(ByteArray.mk (Lib.formatBool x).toArray).size
theorem Qtn(x:Bool):Qut x=if x then 4 else 5:=by cases x<;>decide
variable{V:Nat}
theorem QrY{a b:Value}{x:Bool}{m:Nat}{c0 c2 c3 c4 c5:Value}(hV:Blk w V 34 #[c0,.bool x,c2,c3,c4,c5])(hB:Blk w B 275 (wrC a b m))(hm:m<=10000000) :
  Calls prog 244 #[.pointer (some B),.pointer (some V)] w λe w'=>(∃r,e=.returned r)/\Blk w' B 275 (wrC a b (m+Qut x))/\Sb (λc=>c=B) w w':=by
 have hf:=λW=>Any.strconv_FormatBool Tryz.QiD x W
 have c1:w.cell? ⟨V,1,none⟩=some (.bool x):=hV.cell 1;obtain⟨HF,HB,HM⟩:=Yc hf hB hm;clear hf hV hB hm;go_in;go_wp2_with fail;refine(HF.o _).mono ?_;rintro e w1 ⟨rfl,rfl⟩;have hj:=join_one (w:=w1) ⟨(Lib.formatBool x).toArray⟩ HB.o HM.o (by cases x<;>decide);have HJ:=hY hj;clear hj c1;go_wp2_with fail;refine HJ.o.mono ?_;rintro e w2 ⟨⟨r,rfl⟩,N,I⟩;obtain⟨a0,Z⟩:=Yb N I;clear N I;go_wp2_with fail;go_end0;refine⟨⟨_,rfl⟩,?_,Z.o⟩;exact a0.o
open Go.Sort
def Tryz.QiC:Go.Shelf.Ren:=⟨λ| 197=>285|260=>290|n=>n,λ| 9=>9|21=>21|3=>3|4=>4|5=>5|105=>331|119=>301|0=>0|46=>162|139=>304|138=>303|n=>n,λ| 3=>1|4=>2|n=>n⟩
theorem Tryz.QpC:Go.Proofs.Lays.n197 prog Tryz.QiC:={
 mixed:=by kernel_rfl
 f197:=func285.trans (congrArg some kM)
 f260:=func290.trans (congrArg some kM)
 t0:=underlying0
 a0:=isAgg0
 z0:=sizeOf0
 v0:=zeroValue0
 t3:=underlying3
 a3:=isAgg3
 z3:=sizeOf3
 v3:=zeroValue3
 t4:=underlying4
 a4:=isAgg4
 z4:=sizeOf4
 v4:=zeroValue4
 t5:=underlying5
 a5:=isAgg5
 z5:=sizeOf5
 v5:=zeroValue5
 t9:=underlying9
 a9:=isAgg9
 z9:=sizeOf9
 v9:=zeroValue9
 t21:=underlying21
 a21:=isAgg21
 z21:=sizeOf21
 v21:=zeroValue21
 t46:=underlying162
 a46:=isAgg162
 z46:=sizeOf162
 v46:=zeroValue162
 t105:=underlying331
 a105:=isAgg331
 z105:=sizeOf331
 v105:=zeroValue331
 t119:=underlying301
 a119:=isAgg301
 z119:=sizeOf301
 t138:=underlying303
 a138:=isAgg303
 z138:=sizeOf303
 v138:=zeroValue303
 t139:=underlying304
 a139:=isAgg304
 z139:=sizeOf304
 v139:=zeroValue304
 g3:=by kernel_rfl
 g4:=by kernel_rfl }
def Tryz.Qd7:Go.Shelf.Ren:=⟨λ| 169=>277|n=>n,λ| 70=>271|9=>9|0=>0|72=>273|37=>249|127=>334|3=>3|5=>5|n=>n,λ| n=>n⟩
theorem Tryz.QfO:Go.Proofs.Lays.n169 prog Tryz.Qd7:={
 mixed:=by kernel_rfl
 f169:=func277.trans (congrArg some kM)
 t0:=underlying0
 a0:=isAgg0
 z0:=sizeOf0
 v0:=zeroValue0
 t3:=underlying3
 a3:=isAgg3
 z3:=sizeOf3
 v3:=zeroValue3
 t9:=underlying9
 a9:=isAgg9
 z9:=sizeOf9
 v9:=zeroValue9
 t37:=underlying249
 a37:=isAgg249
 z37:=sizeOf249
 v37:=zeroValue249
 t70:=underlying271
 a70:=isAgg271
 z70:=sizeOf271
 v70:=zeroValue271
 t72:=underlying273
 a72:=isAgg273
 z72:=sizeOf273
 v72:=zeroValue273
 t127:=underlying334
 a127:=isAgg334
 z127:=sizeOf334
 v127:=zeroValue334 }
def Tryz.QeR:Go.Shelf.Ren:=⟨λ| 166=>260|167=>272|168=>275|240=>267|276=>279|242=>286|278=>291|n=>n,λ| 37=>249|70=>271|72=>273|75=>306|80=>161|164=>325|46=>162|51=>268|n=>n,λ| n=>n⟩
theorem Tryz.Qhc:Go.Proofs.Lays.n166 prog Tryz.QeR:={
 mixed:=by kernel_rfl
 f166:=func260.trans (congrArg some kM)
 f240:=func267.trans (congrArg some kM)
 f276:=func279.trans (congrArg some kM)
 t0:=underlying0
 a0:=isAgg0
 z0:=sizeOf0
 v0:=zeroValue0
 t3:=underlying3
 a3:=isAgg3
 z3:=sizeOf3
 v3:=zeroValue3
 t4:=underlying4
 a4:=isAgg4
 z4:=sizeOf4
 v4:=zeroValue4
 t9:=underlying9
 a9:=isAgg9
 z9:=sizeOf9
 v9:=zeroValue9
 t20:=underlying20
 a20:=isAgg20
 z20:=sizeOf20
 v20:=zeroValue20
 t37:=underlying249
 a37:=isAgg249
 z37:=sizeOf249
 v37:=zeroValue249
 t70:=underlying271
 a70:=isAgg271
 z70:=sizeOf271
 v70:=zeroValue271
 t72:=underlying273
 a72:=isAgg273
 z72:=sizeOf273
 v72:=zeroValue273
 t75:=underlying306
 a75:=isAgg306
 z75:=sizeOf306
 v75:=zeroValue306
 t164:=underlying325
 a164:=isAgg325
 z164:=sizeOf325
 v164:=zeroValue325 }
def Tryz.QfS:Go.Shelf.Ren:=⟨λ| 166=>260|167=>272|168=>275|240=>267|276=>279|242=>286|278=>291|n=>n,λ| 37=>249|70=>271|72=>273|75=>306|80=>161|164=>325|46=>162|51=>268|n=>n,λ| n=>n⟩
theorem Tryz.QjT:Go.Proofs.Lays.n167 prog Tryz.QfS:={
 mixed:=by kernel_rfl
 f167:=func272.trans (congrArg some kM)
 f240:=func267.trans (congrArg some kM)
 f276:=func279.trans (congrArg some kM)
 t0:=underlying0
 a0:=isAgg0
 z0:=sizeOf0
 v0:=zeroValue0
 t4:=underlying4
 a4:=isAgg4
 z4:=sizeOf4
 v4:=zeroValue4
 t5:=underlying5
 a5:=isAgg5
 z5:=sizeOf5
 v5:=zeroValue5
 t9:=underlying9
 a9:=isAgg9
 z9:=sizeOf9
 v9:=zeroValue9
 t20:=underlying20
 a20:=isAgg20
 z20:=sizeOf20
 v20:=zeroValue20
 t37:=underlying249
 a37:=isAgg249
 z37:=sizeOf249
 v37:=zeroValue249
 t70:=underlying271
 a70:=isAgg271
 z70:=sizeOf271
 v70:=zeroValue271
 t72:=underlying273
 a72:=isAgg273
 z72:=sizeOf273
 v72:=zeroValue273
 t75:=underlying306
 a75:=isAgg306
 z75:=sizeOf306
 v75:=zeroValue306
 t164:=underlying325
 a164:=isAgg325
 z164:=sizeOf325
 v164:=zeroValue325 }
def Tryz.QfT:Go.Shelf.Ren:=⟨λ| 166=>260|167=>272|168=>275|240=>267|276=>279|242=>286|278=>291|n=>n,λ| 37=>249|70=>271|72=>273|75=>306|80=>161|164=>325|46=>162|51=>268|n=>n,λ| n=>n⟩
theorem Tryz.QjU:Go.Proofs.Lays.n168 prog Tryz.QfT:={
 mixed:=by kernel_rfl
 f168:=func275.trans (congrArg some kM)
 f240:=func267.trans (congrArg some kM)
 f242:=func286.trans (congrArg some kM)
 f276:=func279.trans (congrArg some kM)
 f278:=func291.trans (congrArg some kM)
 t0:=underlying0
 a0:=isAgg0
 z0:=sizeOf0
 v0:=zeroValue0
 t3:=underlying3
 a3:=isAgg3
 z3:=sizeOf3
 v3:=zeroValue3
 t4:=underlying4
 a4:=isAgg4
 z4:=sizeOf4
 v4:=zeroValue4
 t5:=underlying5
 a5:=isAgg5
 z5:=sizeOf5
 v5:=zeroValue5
 t9:=underlying9
 a9:=isAgg9
 z9:=sizeOf9
 v9:=zeroValue9
 t20:=underlying20
 a20:=isAgg20
 z20:=sizeOf20
 v20:=zeroValue20
 t21:=underlying21
 a21:=isAgg21
 z21:=sizeOf21
 v21:=zeroValue21
 t37:=underlying249
 a37:=isAgg249
 z37:=sizeOf249
 v37:=zeroValue249
 t46:=underlying162
 a46:=isAgg162
 z46:=sizeOf162
 v46:=zeroValue162
 t51:=underlying268
 a51:=isAgg268
 z51:=sizeOf268
 v51:=zeroValue268
 t70:=underlying271
 a70:=isAgg271
 z70:=sizeOf271
 v70:=zeroValue271
 t72:=underlying273
 a72:=isAgg273
 z72:=sizeOf273
 v72:=zeroValue273
 t75:=underlying306
 a75:=isAgg306
 z75:=sizeOf306
 v75:=zeroValue306
 t164:=underlying325
 a164:=isAgg325
 z164:=sizeOf325
 v164:=zeroValue325 }
theorem Qmq(w:World)(os:Array Obj):Nw w (Go.Sort.grow w os):=
 ⟨rfl,rfl,rfl,by simp[Go.Sort.grow],λi hi _=>by simp[Go.Sort.grow,Array.getElem?_append_left hi]⟩
theorem Qtb(n:Int)(I : -9223372036854775808<=n)(h1:n<=9223372036854775807)(Z:Lib.TabIs prog w "internal/strconv.uint64pow10" .u64 Lib.pow10Tab):Qt0 n w:=
 (Any.strconv_FormatInt_10 Tryz.QfB n I h1 w Z).mono λe w' h=>by
   obtain⟨N,k,os,rfl⟩:=h;exact⟨_,N,by have:=Lib.itoa_length_le n I h1;simpa[ByteArray.size]using this,(gj ((gh w).drewN k)).trans (Qmq _ os)⟩
theorem QtT(s:ByteArray)(hs:s.size<=maxLen)(I:Lib.Utf8Tabs 1 2 w):Calls prog 242 #[s] w λe w'=>e=.returned (Lib.validD s.data.toList)/\Nw w w':=
 (Any.utf8_ValidString Tryz.QrD s w (ak hs oN) I).mono λe w' h=>⟨h.1,Sb.new h.2⟩
variable{W:World}
theorem QsI(h:G5 w W)(I:Lib.TabIs prog w "internal/strconv.uint64pow10" .u64 Lib.pow10Tab):Lib.TabIs prog W "internal/strconv.uint64pow10" .u64 Lib.pow10Tab:=by
 have N:prog.globalNamed "internal/strconv.uint64pow10" =some 3:=kM
 unfold Lib.TabIs World.var? at *;rw[N]at I ⊢;simp only[Option.bind_some]at I ⊢;rw[h 3 oN];exact I
theorem QuW(h:G5 w W)(N:Lib.Utf8Tabs 1 2 w):Lib.Utf8Tabs 1 2 W:=by
 have I:∀b o,b<6->W.cell? ⟨b,o,none⟩=w.cell? ⟨b,o,none⟩:=λb o Z=>fb (w:=w) (a:=⟨b,o,none⟩) (h b Z)
 exact⟨λc h=>(I 1 _ oN).trans (N.1 c h),λi h=>⟨(I 2 _ oN).trans (N.2 i h).1,(I 2 _ oN).trans (N.2 i h).2⟩⟩
theorem QjB:Go.Pinned.utf8First=Lib.firstData:=kM
theorem Qhj:(Rows.laid_unicode_utf8_acceptRanges:DataW Unit)=Lib.acceptData:=kM
theorem Qqa:(Rows.laid_internal_strconv_uint64pow10:DataW Unit)=Lib.tabData .u64 Lib.pow10Tab:=kM
theorem n0:prog.globalNamed "unicode/utf8.first" =some 1:=kM
theorem n1:prog.globalNamed "unicode/utf8.acceptRanges" =some 2:=kM
theorem n3:prog.globalNamed "internal/strconv.uint64pow10" =some 3:=kM
theorem n5:prog.globalNamed "math/bits.deBruijn64tab" =some 5:=kM
theorem ty0:(prog.globals[1]?).map (·.type)=some 301:=kM
theorem ty1:(prog.globals[2]?).map (·.type)=some 304:=kM
theorem ty3:(prog.globals[3]?).map (·.type)=some 328:=kM
theorem c5:prog.cellsOf 5=1:=kM
theorem QvO:prog.cellsOf 22=1:=kM
theorem QvP:prog.cellsOf 301=256:=kM
theorem QvD:prog.cellsOf 303=2:=kM
theorem QvQ:prog.cellsOf 328=20:=kM
abbrev Qfi:List (String × DataW Unit):=[("math/bits.deBruijn32tab",Rows.laid_math_bits_deBruijn32tab),("math/bits.deBruijn64tab",Rows.laid_math_bits_deBruijn64tab),("internal/strconv.uint64pow10",Rows.laid_internal_strconv_uint64pow10),("unicode/utf8.acceptRanges",Rows.laid_unicode_utf8_acceptRanges),("unicode/utf8.first",Rows.laid_unicode_utf8_first)]
theorem Qmz(h3:Lib.VarReads prog w "unicode/utf8.first" Lib.firstData) (h4:Lib.VarReads prog w "unicode/utf8.acceptRanges" Lib.acceptData):Lib.Utf8Tabs 1 2 w:=by
 refine⟨λc hc=>?_,λi hi=>?_⟩
 ·obtain ⟨g,t,cs,a2,p,hg,a0,I,hd⟩:=h3
  obtain rfl:=Option.some.inj (n0.symm.trans hg);obtain rfl:=Option.some.inj (ty0.symm.trans a0);have N:=Lib.cells_of_tab underlying301 underlying5 c5 QvP hd;rw[World.var?_cell hg I c,<-bT,N];simp[Lib.firstTab,hc]
 obtain⟨g,t,cs,a2,p,hg,a0,I,hd⟩:=h4;obtain rfl:=Option.some.inj (n1.symm.trans hg);obtain rfl:=Option.some.inj (ty1.symm.trans a0);obtain⟨a3,d,q,a1,he⟩:=Lib.array_elem underlying304 hd i hi;simp only[List.getElem?_map,List.getElem?_range hi,Option.map_some,Option.some.injEq]at a1;subst a1;rw[QvD]at he;have N:=Lib.ints_of_struct underlying303 (λj f Z=>by
  match j,Z with
  |0,Z=>simp at Z;subst Z;exact⟨underlying5,rfl,c5⟩
  |1,Z=>simp at Z;subst Z;exact⟨underlying5,rfl,c5⟩
  |j+2,Z=>simp at Z) (by rw[QvD];rfl) he
 have e0:=congrArg (·[0]?) N;have e1:=congrArg (·[1]?) N;simp only[List.getElem?_take,List.getElem?_drop]at e0 e1;constructor
 ·rw [World.var?_cell hg I (2*i),←bT]
  simpa[Nat.mul_comm]using e0
 rw[World.var?_cell hg I (2*i+1),<-bT];simpa[Nat.mul_comm]using e1
theorem Qkm(h:Lib.VarReads prog w "internal/strconv.uint64pow10" (Lib.tabData .u64 Lib.pow10Tab)):Lib.TabIs prog w "internal/strconv.uint64pow10" .u64 Lib.pow10Tab:=by
 obtain⟨g,t,cs,Z,p,hg,N,I,hd⟩:=h;obtain rfl:=Option.some.inj (n3.symm.trans hg);obtain rfl:=Option.some.inj (ty3.symm.trans N);unfold Lib.TabIs;rw[I,<-Lib.cells_of_tab underlying328 underlying22 QvO QvQ hd]
theorem Qqk{d:DataW Unit}(h:Lib.VarReads prog w "math/bits.deBruijn64tab" d):6<=w.heap.size:=by
 obtain⟨g,t,cs,N,p,hg,a0,I,hd⟩:=h;unfold World.var? at I;rw[n5,dQ]at I;have:(w.heap[5]?).isSome:=by
  cases Z:w.heap[5]? with
  |none=>rw[Z]at I;cases I
  |some o=>rfl
 have:=(az.1 (Option.some_get this).symm).1;omega
theorem Qtq(h:laidMetH prog Qfi w):Qi4 w:=by
 have I:laidMet prog Qfi w:=h;have Z:=Lib.laidMet.reads I (n:= "unicode/utf8.first") (d:=Rows.laid_unicode_utf8_first) (by simp[Qfi]);have ha:=Lib.laidMet.reads I (n:= "unicode/utf8.acceptRanges") (d:=Rows.laid_unicode_utf8_acceptRanges) (by simp[Qfi]);have hp:=Lib.laidMet.reads I (n:= "internal/strconv.uint64pow10") (d:=Rows.laid_internal_strconv_uint64pow10) (by simp[Qfi]);have hb:=Lib.laidMet.reads I (n:= "math/bits.deBruijn64tab") (d:=Rows.laid_math_bits_deBruijn64tab) (by simp[Qfi]);rw[show Rows.laid_unicode_utf8_first=Lib.firstData from QjB]at Z;rw[Qhj]at ha;rw[Qqa]at hp;exact⟨Qqk hb,λW N n h0 h1=>Qtb n h0 h1 (QsI N (Qkm hp)),λW N s hs=>QtT s hs (QuW N (Qmz Z ha))⟩
theorem Qu0(ρ:Go.Shelf.Ren)(h72:ρ.t 72=273)(h5:ρ.t 5=5):Builder.Extra prog ρ where
 sizeBuilder:=by rw[h72];kernel_rfl
 liesBuilder:=by rw[h72];kernel_rfl
 t5:=by rw[h5];exact underlying5
 a5:=by rw[h5];exact isAgg5
 z5:=by rw[h5];exact sizeOf5
 v5:=by rw[h5];exact zeroValue5
 infoByte:=by rw[h5];kernel_rfl
 cellsByte:=by rw[h5];kernel_rfl
 sizeByte:=by rw[h5];kernel_rfl
 neB5:=by rw[h72,h5];decide
abbrev Bld(B b:Nat)(bs:List Value)(w:World):Prop:=Lib.IsBuilderF 273 5 B b bs w
variable{bs:List Value}
theorem QbZ{B b:Nat}(c:Int)(h:Bld B b bs w)(I:bs.length+1<=140737488355328)(N:B<=w.heap.size) :
  Calls prog 272 #[.pointer (some b),.int .u8 c] w λe w'=>e=.returned .nilIface/\Bld B b (bs++[.int .u8 c]) w'/\Below B w w'/\Lib.OthersKept 5 (some b) w w':=
 (Any.Builder_WriteByte_k Tryz.QjT (Qu0 _ rfl rfl) B b bs c w h I N).mono λe w' h=>⟨h.1,.inr h.2.1,h.2.2.1,h.2.2.2⟩
theorem QmM{B b:Nat}(s:ByteArray)(h:Bld B b bs w)(I:bs.length+s.size<=140737488355328)(N:B<=w.heap.size) :
  Calls prog 260 #[.pointer (some b),s] w λe w'=>(∃r,e=.returned r)/\Bld B b (bs++Lib.strCells s) w'/\Below B w w'/\Lib.OthersKept 5 (some b) w w':=
 (Any.Builder_WriteString_k Tryz.Qhc (Qu0 _ rfl rfl) B b bs s w h I N).mono λe w' h=>⟨⟨_,h.1⟩,.inr h.2.1,h.2.2.1,h.2.2.2⟩
theorem Qg8{B b:Nat}(r:Int)(Z : -2147483648<=r)(N:r<=2147483647)(h:Bld B b bs w)(hl:bs.length+4<=140737488355328)(I:B<=w.heap.size) :
  Calls prog 275 #[.pointer (some b),.int .i32 r] w λe w'=>e=.returned (.tuple #[.int .i64 (Lib.runeCells r).length,.nilIface])/\Bld B b (bs++Lib.runeCells r) w'/\Below B w w'/\Lib.OthersKept 5 (some b) w w':=
 (Any.Builder_WriteRune_k Tryz.QjU (Qu0 _ rfl rfl) B b bs r Z N w h hl I).mono λe w' h=>⟨h.1,.inr h.2.1,h.2.2.1,h.2.2.2⟩
def QmN(w:World):Prop:=∀W,G5 w W->∀s:ByteArray,Calls prog 285 #[.string s] W λe w'=>e=.returned (.tuple #[.int .i32 (Lib.decodeGo s).1,.int .i64 (Lib.decodeGo s).2])/\Nw W w'
theorem Quc(h:laidMetH prog Qfi w):QmN w:=λW hW s=>by
 have N:laidMet prog Qfi w:=h;have I:=Lib.laidMet.reads N (n:= "unicode/utf8.first") (d:=Rows.laid_unicode_utf8_first) (by simp[Qfi]);have Z:=Lib.laidMet.reads N (n:= "unicode/utf8.acceptRanges") (d:=Rows.laid_unicode_utf8_acceptRanges) (by simp[Qfi]);rw[show Rows.laid_unicode_utf8_first=Lib.firstData from QjB]at I;rw[Qhj]at Z;exact(Any.utf8_DecodeRuneInString Tryz.QpC s W (QuW hW (Qmz I Z))).mono λe w' h=>⟨h.1,Sb.new h.2⟩
variable{H:Nat->Prop}{w':World}
theorem QmN.sb(h:QmN w)(Z:6<=w.heap.size)(k:Sb H w w')(N:∀b,b<6->¬H b):QmN w':=λW I=>h W ((k.g5 Z N).trans I)
def Qb3(r:Int):Bool:=decide (32<=r)&&r != 34&&r != 92
theorem QnX(w:World)(r:Int):Calls prog 274 #[.int .i32 r] w λe w'=>e=.returned (Qb3 r)/\w'=w:=by
 by_cases h1:32<=r
 ·by_cases h2:r=34
  ·subst h2
   go_in;go_wp2_with fail;go_ret;exact⟨rfl,rfl⟩
  have g1:decide ((32:Int)<=r)=true:=eI h1;have g2:(r != 34)=true:=by simpa using h2
  by_cases I:r=92
  ·subst I
   go_in;go_wp2_with fail;go_ret;exact⟨rfl,rfl⟩
  have N:(r != 92)=true:=by simpa using I
  have hs:Qb3 r=true:=by simp[Qb3,h1,h2,I]
  rw[hs];go_in;go_wp2_with fail;go_ret;exact⟨rfl,rfl⟩
 have g1:decide ((32:Int)<=r)=false:=eG h1;have hs:Qb3 r=false:=by simp[Qb3,h1]
 rw[hs];go_in;go_wp2_with fail;go_ret;exact⟨rfl,rfl⟩
def Qbb(s:ByteArray):Nat->Nat->List (Nat × Nat)
 |0,_=>[]
 |f+1,p=>if s.size<=p then[]else if Utf8.decode s p=(65533,1)then[]else(p,(Utf8.decode s p).1)::Qbb s f (p+(Utf8.decode s p).2)
def Qdn(s:ByteArray):List (Nat × Nat):=Qbb s s.size 0
theorem Qgs{s:ByteArray}{p:Nat}(h:p<s.size):1<=(Utf8.decode s p).2/\p+(Utf8.decode s p).2<=s.size/\(Utf8.decode s p).1<=1114111:=by
 refine⟨Lib.width_pos s p,?_,Lib.rune_le s p⟩;have:=Lib.decodeN_le_n (s.size-p) (s.get! p).toNat (s.get! (p+1)).toNat (s.get! (p+2)).toNat (s.get! (p+3)).toNat oM;rw[Lib.decode_at];omega
theorem Qdc(s:ByteArray):∀(f p:Nat),(Qbb s f p).length<=s.size-p
 |0,p=>aA _
 | f+1,p=>by
   unfold Qbb;split
   .simp
   split
   .simp
   have:=Qdc s f (p+(Utf8.decode s p).2);have:=Qgs (s:=s) (p:=p) oM;simp only[List.length_cons];omega
theorem QfH{s:ByteArray}:∀{f p:Nat} {x:Nat × Nat},x∈Qbb s f p->x.2<=1114111/\x.1<s.size
 |0,p,x,h=>by cases h
 | f+1,p,x,h=>by
   unfold Qbb at h;split at h
   .cases h
   split at h
   .cases h
   rcases aH.1 h with rfl|h
   .exact ⟨Lib.rune_le s p,by show p<_;omega⟩
   exact QfH h
theorem Qkq{s:ByteArray}{f p:Nat}(h:s.size<=p):Qbb s f p=[]:=by
 cases f with
 |zero=>rfl
 |succ f=>rw[Qbb,eH h]
theorem Qlx{s:ByteArray}{f p:Nat}(h:Utf8.decode s p=(65533,1)):Qbb s f p=[]:=by
 cases f with
 |zero=>rfl
 |succ f=>rw[Qbb,eH h,ite_self]
theorem QhI{s:ByteArray}{f p:Nat}(I:p<s.size)(N:s.size<=p+f)(h:Utf8.decode s p≠(65533,1)):Qbb s f p=(p,(Utf8.decode s p).1)::Qbb s (f-1) (p+(Utf8.decode s p).2):=by
 cases f with
 |zero=>omega
 |succ f=>rw[Qbb,eE oM,eE h];rfl
def Qbs(r:Nat):Option Nat:=if r=34 then some 34 else if r=92 then some 92 else if r=8 then some 98 else if r=9 then some 116 else if r=10 then some 110 else if r=12 then some 102 else if r=13 then some 114 else none
def Qom(k:Nat):UInt8:=if k<10 then(48+k).toUInt8 else(87+k).toUInt8
def QcZ(r:Nat):List UInt8:=if Qb3 r then Lib.encodeRune r else match Qbs r with
 |some c=>[92,c.toUInt8]
 |none=>[92,117,48,48,Qom (r/16),Qom (r%16)]
def Qbo(l:List (Nat × Nat)):List UInt8:=(l.map λx=>QcZ x.2).flatten
def QdG(s:ByteArray):List UInt8:=34::Qbo (Qdn s)++[34]
theorem Qep(l:List (Nat × Nat))(x:Nat × Nat):Qbo (l++[x])=Qbo l++QcZ x.2:=by simp[Qbo]
theorem QnM(r:Nat):(QcZ r).length<=6:=by
 unfold QcZ;split
 ·have:=Lib.runeCells_le r
  rw[Lib.runeCells_length]at this;omega
 split<;>simp
theorem QdZ:∀l:List (Nat × Nat),(Qbo l).length<=6*l.length
 |[]=>by simp[Qbo]
 | x :: r=>by
   have:=QdZ r;have:=QnM x.2;simp only[Qbo,List.map_cons,List.flatten_cons,List.length_append,List.length_cons]at *;omega
theorem QnO(s:ByteArray):(QdG s).length<=6*s.size+2:=by
 have h1:=QdZ (Qdn s);have h2:=Qdc s s.size 0;unfold QdG Qdn at *;simp only[List.length_cons,List.length_append,List.length_nil];omega
variable{P:Program}
theorem QaA{l n:Nat}{f:FuncId}{args:Array Value}{R:Ending->World->Prop}(h:Calls P f args w R):CallsIn (Fence.wide.inRound l) n P f args w R:=eL.2 h
def Qt5{α:Type}(P:Program)(l:Nat)(encs:α->Array Value)(K:Nat->Prop)(G:List α->α->World->World->Prop)(J Jx:List α->World->Prop):Prop:=
 ∀pre x W0 W1,J pre W0->Nw W0 W1->G pre x W0 W1->YieldAt Fence.wide 4 P l (encs x) W1 λe W'=>
  (e=.returned (.bool true)/\J (pre++[x]) W'/\Agree K W1 W'/\W1.heap.size<=W'.heap.size)\/(e=.returned (.bool false)/\Jx (pre++[x]) W')
def Qve{α:Type}(P:Program)(g:Nat)(lb:Array Value)(encs:α->Array Value)(K:Nat->Prop)(G:List α->α->World->World->Prop)(S Sp:List α->Prop)(w0:World):Prop:=
 ∀(l:Nat) (J Jx:List α->World->Prop) (W:World),Qt5 P l encs K G J Jx->Agree K w0 W->w0.heap.size<=W.heap.size->J [] W->
  Calls P g (#[.func (.yield l) #[] #[]]++lb) W λe W'=>(∃v,e=.returned v)/\((∃xs W0,S xs/\J xs W0/\Nw W0 W')\/(∃pre W0,Sp pre/\Jx pre W0/\Nw W0 W'))
def Qr6{α:Type}(K:Nat->Prop)(I:List α->World->Prop)(Ix:Code->List α->World->Prop)(xs:List α)(W:World):Exit->Act->World->Prop
 |.normal,_,W'=>I xs W'/\Agree K W W'/\W.heap.size<=W'.heap.size
 |.ret,_,W'=>Agree K W W'/\Ix .ret xs W'
 |.exit id,_,W'=>Agree K W W'/\Ix (.exit id) xs W'
 |.goto t,_,W'=>Agree K W W'/\Ix (.goto t) xs W'
 |.panic _,_,_=>False
 |.outgrown,_,_=>False
variable{n gf:Nat}{assign body:Code}{Q:Exit->Act->World->Prop}{a:Act}{w0:World}
theorem Qg7{α:Type}{g:Operand}{ps:Array Tmp} 
 {lb:Array Value} (hg:a.eval g=.func (.func gf) #[] lb) (eg:∀ args w,(callFunc gf args).run P w=.ok (.enter gf args) w)
  {encs:α->Array Value} {K:Nat->Prop} {G:List α->α->World->World->Prop} {S Sp:List α->Prop} (hseq:Qve P gf lb encs K G S Sp w0)
  (hA:Agree K w0 w) (hsz:w0.heap.size<=w.heap.size) (hK:∀b,K b->b<w.heap.size) (hps:∀x,(encs x).size=ps.size)
  (I:List α->World->Prop) (Ix:Code->List α->World->Prop)
  (hI:∀{s W W'},I s W->Sb (λb=>b=w.heap.size+1) W W'->(∃r,W.heap[w.heap.size+1]? = some (.loop r))->(∃r,W'.heap[w.heap.size+1]? = some (.loop r))->I s W') (hIx:∀{c s W W'},Ix c s W->Sb (λb=>b=w.heap.size+1) W W'->(∃r,W.heap[w.heap.size+1]? = some (.loop r))->(∃r,W'.heap[w.heap.size+1]? = some (.loop r))->Ix c s W')
  (h0:∀W,Ext w W->w.heap.size+2<=W.heap.size->I [] W)
  (hround:∀(pre:List α) (x:α) (W0 W1:World),I pre W0->w.heap.size+2<=W0.heap.size->Nw W0 W1->G pre x W0 W1->
    assign.wpIn (Fence.wide.inRound (w.heap.size+1)) 4 P (Exit.then (λa1 W2=>Nw W1 W2/\∀W3,Sb (λb=>b=w.heap.size+1) W2 W3->(∃r,W2.heap[w.heap.size+1]? = some (.loop r))->(∃r,W3.heap[w.heap.size+1]? = some (.loop r))->W3.heap[w.heap.size]? = some (.deferred (some []))->body.wpIn (Fence.wide.inRound (w.heap.size+1)) 4 P (Qr6 (λb=>K b\/b=w.heap.size\/b=w.heap.size+1) I Ix (pre++[x]) W3) a1 W3) (λ_ _ _=>False))
     { tmps:=(ps.zip (encs x)).foldl (λt (p,v)=>t.setIfInBounds p v) a.tmps,defers:=[] } W1)
  (hdone:∀(D:Nat) (xs:List α) (W:World),D=w.heap.size->S xs->I xs W->W.heap[D]? = some (.deferred (some []))->Q .normal { a with defers:={ target:=.collected D,args:=#[] }::a.defers } W)
  (hstop:∀(D:Nat) (c:Code) (pre:List α) (W:World),D=w.heap.size->Sp pre->Ix c pre W->W.heap[D]? = some (.deferred (some []))->c.wpIn Fence.wide n P Q { a with defers:={ target:=.collected D,args:=#[] }::a.defers } W) :
  (Code.rangeFunc g ps assign body).wpIn Fence.wide n P Q a w:=by
 refine wpIn_rangeFunc λfn hfn=>?_
 rw[show Fence.wide.round=none from rfl]
 let rec_:LoopState->Option Code->Obj:=λst pe=>.loop { state:=st,pending:=pe,fn,tmps:=a.tmps,params:=ps,assign,body,defers:=w.heap.size }
 let BK:LoopState->Option Code->World->Prop:=λst pe W=>W.heap[w.heap.size+1]? = some (rec_ st pe)/\W.heap[w.heap.size]? = some (.deferred (some []))
 have bkL:∀{st pe W},BK st pe W->w.heap.size+1<W.heap.size:=λh=>(az.1 h.1).1
 have bkr:∀{st pe W},BK st pe W->∃r,W.heap[w.heap.size+1]? = some (.loop r):=λh=>⟨_,h.1⟩
 have bkE:∀{st pe W W'},BK st pe W->Nw W W'->BK st pe W':=λh he=>⟨(he.block _ (az.1 h.1).1 (λe=>e)).trans h.1,(he.block _ (az.1 h.2).1 (λe=>e)).trans h.2⟩
 have bkS:∀{st pe W W'} {C:Nat->Prop},BK st pe W->Agree C W W'->C (w.heap.size+1)->C w.heap.size->BK st pe W':=λh hk h1 h2=>⟨(hk _ h1).trans h.1,(hk _ h2).trans h.2⟩
 have bkP:∀{st pe W} (st':LoopState) (pe':Option Code),BK st pe W->BK st' pe' (W.putObj (w.heap.size+1) (rec_ st' pe'))/\Sb (λb=>b=w.heap.size+1) W (W.putObj (w.heap.size+1) (rec_ st' pe')):=λst' pe' h=>
  ⟨⟨World.putObj_heap_same (az.1 h.1).1,(fr oM).trans h.2⟩,(St.put h.1 rfl rfl).sb⟩
 have e1:Ext w (w.alloc (.deferred (some []))):=Qfe w _ λW i j h=>by simp[World.frozen?,h]
 have e2:Ext (w.alloc (.deferred (some []))) ((w.alloc (.deferred (some []))).alloc (rec_ .ready none)):=Qfe _ _ λW i j h=>by simp[World.frozen?,h,rec_]
 have hrun:=run_enterLoop_outer (P:=P) (w:=w) fn a.tmps ps assign body;have bk1:BK .ready none ((w.alloc (.deferred (some []))).alloc (rec_ .ready none)):=
  ⟨by have:=fq (w.alloc (.deferred (some []))) (rec_ .ready none);rwa[eK]at this,(eY _ _ _ oO).trans (fq w _)⟩
 have eW:=e1.trans e2;have hs1:w.heap.size+2<=((w.alloc (.deferred (some []))).alloc (rec_ .ready none)).heap.size:=oO
 change _=Result.ok _ ((w.alloc (.deferred (some []))).alloc (rec_ .ready none))at hrun;generalize (w.alloc (.deferred (some []))).alloc (rec_ .ready none)=W1 at *;refine⟨w.heap.size+1,_,W1,{ target:=.fn (.func gf) lb,args:=#[.func (.yield (w.heap.size+1)) #[] #[]] },W1,gf,#[.func (.yield (w.heap.size+1)) #[] #[]]++lb,W1,hrun,?_,?_,?_,λh=>by simp[Fence.wide]at h,?_⟩
 ·simp only [resolve,hg]
  simp[go_sem]
 .intro f' hf';trivial
 .simp [invoke,go_sem,eg]
 refine eL.2 ((hseq (w.heap.size+1) (λpre W=>I pre W/\BK .ready none W) (λpre W=>∃c,Ix c pre W/\BK .done (some c) W) W1 ?_ (hA.trans (eW.agree hK)) (ak hsz eW.size) ⟨h0 W1 eW hs1,bk1⟩).mono ?_)
 ·rintro pre x W0 Wy ⟨hi,hbk⟩ hx hgd
  have hbk1:=bkE hbk hx;have hl0:=bkL hbk;refine⟨fn,_,assign,body,run_yield (args:=encs x) hbk1.1 (hps x),roundIn_of_wpIn hfn (ge (hround pre x W0 Wy hi oM hx hgd) ?_)⟩;rintro e a3 W2 hp;cases e with
  | normal=>
    obtain⟨hx2,hb⟩:=hp;have hbk2:=bkE hbk1 hx2;obtain⟨hbk3,ht3⟩:=bkP .busy none hbk2;refine⟨_,run_beginRound hbk2.1 rfl,ge (hb _ ht3 (bkr hbk2) (bkr hbk3) hbk3.2) ?_⟩;have hl3:=bkL hbk3;have hl2:=bkL hbk2;have hl1:=bkL hbk1;generalize W2.putObj (w.heap.size+1) (rec_ .busy none)=W3 at *;rintro e a4 W4 hq;cases e with
    | normal=>
      obtain⟨hi4,hst,hlt4⟩:=hq;have hbk4:=bkS hbk3 hst (.inr (.inr rfl)) (.inr (.inl rfl));obtain⟨hbk5,ht5⟩:=bkP .ready none hbk4;refine⟨_,_,fi none hbk4.1,.inl ⟨rfl,⟨hI hi4 ht5 (bkr hbk4) (bkr hbk5),hbk5⟩,λb hb=>?_,?_⟩⟩
      ·have hbw:=hK b hb
       have h1:=hx2.block b oM (λe=>e);have h2:=ht3.block b oM (λe=>oM);have h3:=hst b (.inl hb);have h4:=ht5.block b (by have:=bkL hbk4;omega) (λe=>oM);exact h4.trans (h3.trans (h2.trans h1))
      have:=hx2.size;have:=ht3.size;simp;omega
    | ret=>
      have hbk4:=bkS hbk3 hq.1 (.inr (.inr rfl)) (.inr (.inl rfl));obtain⟨hbk5,ht5⟩:=bkP .done (some .ret) hbk4;exact⟨_,_,fi (some .ret) hbk4.1,.inr ⟨rfl,.ret,hIx hq.2 ht5 (bkr hbk4) (bkr hbk5),hbk5⟩⟩
    | exit id=>
      have hbk4:=bkS hbk3 hq.1 (.inr (.inr rfl)) (.inr (.inl rfl));obtain⟨hbk5,ht5⟩:=bkP .done (some (.exit id)) hbk4;exact⟨_,_,fi (some (.exit id)) hbk4.1,.inr ⟨rfl,.exit id,hIx hq.2 ht5 (bkr hbk4) (bkr hbk5),hbk5⟩⟩
    | goto t=>
      have hbk4:=bkS hbk3 hq.1 (.inr (.inr rfl)) (.inr (.inl rfl));obtain⟨hbk5,ht5⟩:=bkP .done (some (.goto t)) hbk4;exact⟨_,_,fi (some (.goto t)) hbk4.1,.inr ⟨rfl,.goto t,hIx hq.2 ht5 (bkr hbk4) (bkr hbk5),hbk5⟩⟩
    |panic ch=>exact hq.elim
    |outgrown=>exact hq.elim
  |ret=>exact hp.elim
  |exit id=>exact hp.elim
  |goto t=>exact hp.elim
  |panic ch=>exact hp.elim
  |outgrown=>exact hp.elim
 rintro e W2 ⟨⟨v,rfl⟩,(⟨xs,W0,hS,⟨hi,hbk⟩,hx⟩ |⟨pre,W0,hSp,⟨c,hi,hbk⟩,hx⟩)⟩
 ·have hbk2:=bkE hbk hx
  have hbk0:=hbk;obtain⟨hbk5,ht5⟩:=bkP .exhausted none hbk2;exact⟨none,_,fY hbk2.1 oO,hdone _ xs _ rfl hS (hI hi ((hx.any _).trans ht5) (bkr hbk0) (bkr hbk5)) hbk5.2⟩
 have hbk2:=bkE hbk hx;have hbk0:=hbk;obtain⟨hbk5,ht5⟩:=bkP .exhausted (some c) hbk2;exact⟨some c,_,fY hbk2.1 oO,hstop _ c pre _ rfl hSp (hIx hi ((hx.any _).trans ht5) (bkr hbk0) (bkr hbk5)) hbk5.2⟩
abbrev fK:=@callsIn_of_wp
attribute [local go_sem] Oper.semAt_some
theorem Qqq(w:World)(s:ByteArray):Calls prog 273 #[s] w λe w'=>e=.returned (.func (.func 284) #[] #[.pointer (some w)])/\Ext w w'/\Blk w' w.heap.size 9 #[.string s]:=by
 go_in;go_wp2_with fail;go_ret;exact⟨rfl,(gh w).alloc _ _,gm w _ _⟩
abbrev Qo8(x:Nat × Nat):Array Value:=#[.int .i64 (x.1:Int),.int .i32 (x.2:Int)]
def Qh1(s:ByteArray)(xs:List (Nat × Nat)):Prop:=xs=Qdn s
def Qvc(s:ByteArray)(pre:List (Nat × Nat))(x:Nat × Nat)(W0 W1:World):Prop:=(Qdn s)[pre.length]? = some x
structure QkT(s:ByteArray)(J:List (Nat × Nat)->World->Prop)(K:Nat->Prop)(W:World)(p f:Nat)(pre:List (Nat × Nat))(Wj wr:World):Prop where
 inv:J pre Wj
 nw:Nw Wj wr
 pre_:Qdn s=pre++Qbb s f p
 few:s.size<=p+f
 ag:Agree K W wr
 sz:W.heap.size<=wr.heap.size
theorem QkT.grow{s:ByteArray}{J:List (Nat × Nat)->World->Prop}{K:Nat->Prop}{p f:Nat}{pre:List (Nat × Nat)}{Wj wr w6:World}(h:QkT s J K W p f pre Wj wr)(I:∀b,K b->b<W.heap.size)(k:Nw wr w6):QkT s J K W p f pre Wj w6:=
 ⟨h.inv,h.nw.trans k,h.pre_,h.few,h.ag.trans (k.agree λb N=>ab (I b N) h.sz),ak h.sz k.size⟩
theorem QnR{s:ByteArray}{J:List (Nat × Nat)->World->Prop}{K:Nat->Prop}{p f r z:Nat}{pre:List (Nat × Nat)}{Wj wr w6:World}(h:QkT s J K W p f pre Wj wr)(N:p<s.size)(hd:Utf8.decode s p=(r,z))(hz:1<=z)(Z:Utf8.decode s p≠(65533,1))
  (hj:J (pre++[(p,r)]) w6) (I:Agree K wr w6) (hs:wr.heap.size<=w6.heap.size):QkT s J K W (p+z) (f-1) (pre++[(p,r)]) w6 w6:=by
 refine⟨hj,gu _ _,?_,?_,h.ag.trans I,ak h.sz hs⟩
 .rw [h.pre_,QhI N h.few Z,hd,aT];rfl
 have:=h.few;omega
theorem Qqr{s:ByteArray}(hB:Blk w0 B 9 #[.string s])(hD:QmN w0)(h6:6<=w0.heap.size)(hs:s.size<=1000000000000) :
  Qve prog 284 #[.pointer (some B)] Qo8 (λb=>b=B\/b<6) (Qvc s) (Qh1 s) (λ_=>True) w0:=by
 intro l J Jx W b0 hA c7 hJ;have c6:=hB.lt;have b3:∀b,(b=B\/b<6)->b<W.heap.size:=λb hb=>by rcases hb with rfl|hb<;>omega
 have a8:∀W1,Agree (λb=>b=B\/b<6) W W1->W.heap.size<=W1.heap.size->W1.cell? B=some (.string s)/\B<W1.heap.size/\G5 w0 W1:=λW1 hW hz=>
  ⟨(hW.cell (.inl rfl)).trans ((fb (w:=w0) (a:=⟨B,0,none⟩) (hA B (.inl rfl))).trans (hB.cell 0)),oM,
    λb hb=>(hW b (.inr hb)).trans (hA b (.inr hb))⟩
 have a3:∀W1 p r z,Agree (λb=>b=B\/b<6) W W1->W.heap.size<=W1.heap.size->p<s.size->Utf8.decode s p=(r,z)->Calls prog 285 #[(s.extract p s.size)] W1 λe w'=>e=.returned (.tuple #[.int .i32 (r:Int),.int .i64 (z:Int)])/\Nw W1 w':=λW1 p r z hW hz hp hd=>by
  have h:=hD W1 (a8 W1 hW hz).2.2 (s.extract p s.size);rw[Lib.decodeGo_extract s p hp,hd]at h;exact h
 obtain⟨c3,b8,HJ,b4,c4⟩:=Yf b0 a8 hJ a3 b3;clear b0 hA hJ hB a8 a3 hD h6 c6 c7 b3;show Calls _ _ #[.func (.yield l) #[] #[],.pointer (some B)] W _;refine(eL (n:=5)).1 ?_;refine fK func284 rfl trivial ?_ rfl;simp only[ntmps284,zL,Nat.reduceAdd,Nat.reduceSub];gi_wp2_with fail;gi_loopw [3] (λv wr=>∃(p f:Nat) (pre:List (Nat × Nat)) (Wj:World),v=.int .i64 (p:Int)/\p<=s.size/\Yd (QkT s J (λb=>b=B\/b<6) W p f pre Wj wr)) (λv _=>s.size -(intOf v).toNat)
 case atStart=>exact⟨0,s.size,[],W,rfl,aA _,hY ⟨HJ.o,gu _ _,rfl,oM,Agree.refl _,ao _⟩⟩
 obtain⟨p,f,pre,Wj,rfl,hp,HS⟩:=hrel;obtain⟨c0,lB,-⟩:=b8.o wr HS.o.ag HS.o.sz;by_cases a1:p<s.size
 ·obtain ⟨r,z,hd⟩:∃ r z,Utf8.decode s p=(r,z):=⟨_,_,rfl⟩
  obtain⟨Z,a0,hr⟩:=Qgs a1;rw[hd]at Z a0 hr;dsimp only at Z a0 hr;have b5:=b4.o wr p r z HS.o.ag HS.o.sz a1 hd;have g1:(p:Int)<(s.size:Int):=oM
  have g2:(0:Int)<=(p:Int):=oM
  have g3:(p:Int)<=(s.size:Int):=oM
  have g4:IntKind.i64.wrap ((p:Int)+(z:Int))=(p:Int)+(z:Int):=by rw[eM];omega
  obtain⟨c2,HD⟩:=Yb b5 hd;clear b5 hd;gi_wp2_with fail;refine⟨trivial,?_⟩;refine(eL.2 c2.o).mono ?_;rintro e w2 ⟨rfl,a9⟩;have I:=hY (HS.o.grow c4.o a9);clear a9;by_cases N:r=65533/\z=1
  ·obtain ⟨rfl,rfl⟩:=N
   have HE:=hY (show Qh1 s pre by show pre=Qdn s;rw[I.o.pre_,Qlx HD.o,aU]);gi_wp2_with fail;refine eN (v:=.tuple #[]) (by simp[results,results284,go_sem]) rfl ?_;exact⟨⟨_,rfl⟩,.inl ⟨pre,Wj,HE.o,I.o.inv,I.o.nw⟩⟩
  have a5:Utf8.decode s p≠(65533,1):=by rw[HD.o];intro e;injection e with e1 e2;exact N ⟨e1,e2⟩
  have hy:=c3.o pre (p,r) Wj w2 I.o.inv I.o.nw (by show _[_]? = _;rw[I.o.pre_,QhI a1 I.o.few a5,HD.o,aP (ao _),cu];rfl);obtain⟨fn,c8,assign,body,hy,hR⟩:=hy;obtain⟨HR,c1,a6⟩:=Yc hR a5 Z;dsimp only[Qo8]at hy;clear hR a5;have b7:∀(e:Ending) (w':World),((e=.returned true/\J (pre++[(p,r)]) w'/\Agree (λb=>b=B\/b<6) w2 w'/\w2.heap.size<=w'.heap.size)\/(e=.returned false/\Jx (pre++[(p,r)]) w'))->
    (e=.returned true/\Yd (QkT s J (λb=>b=B\/b<6) W (p+z) (f-1) (pre++[(p,r)]) w' w'))\/(e=.returned false/\Jx (pre++[(p,r)]) w'):=by
   rintro e w' (⟨rfl,h1,h2,h3⟩ |⟨rfl,h1⟩)
   .exact .inl ⟨rfl,hY (QnR I.o a1 HD.o a6.o c1.o h1 h2 h3)⟩
   exact .inr ⟨rfl,h1⟩
  have b6:=hY b7;clear b7;by_cases a2:r=65533
  ·have b9:z≠1:=fun e=>N ⟨a2,e⟩
   have b1:((r:Int)==65533)=true:=by simp[a2]
   have b2:((z:Int)==1)=false:=by simp;omega
   clear a2 b9 N Z;gi_wp2_with fail;refine HR.o.mono ?_;intro e w6 h6;rcases b6.o e w6 h6 with⟨rfl,a7⟩ |⟨rfl,a4⟩
   ·clear h6 hy
    gi_wp2_with fail;go_roundw
    case rel=>exact⟨p+z,f-1,_,w6,by go_num,a0,a7⟩
    have:=a6.o;simp[intOf];omega
   clear h6 hy;gi_wp2_with fail;refine eN (v:=.tuple #[]) (by simp[results,results284,go_sem]) rfl ?_;exact⟨⟨_,rfl⟩,.inr ⟨_,w6,trivial,a4,gu _ _⟩⟩
  have b1:((r:Int)==65533)=false:=by simp;omega
  clear a2 N Z;gi_wp2_with fail;refine HR.o.mono ?_;intro e w6 h6;rcases b6.o e w6 h6 with⟨rfl,a7⟩ |⟨rfl,a4⟩
  ·clear h6 hy
   gi_wp2_with fail;go_roundw
   case rel=>exact⟨p+z,f-1,_,w6,by go_num,a0,a7⟩
   have:=a6.o;simp[intOf];omega
  clear h6 hy;gi_wp2_with fail;refine eN (v:=.tuple #[]) (by simp[results,results284,go_sem]) rfl ?_;exact⟨⟨_,rfl⟩,.inr ⟨_,w6,trivial,a4,gu _ _⟩⟩
 obtain rfl:p=s.size:=oM
 have HE:=hY (show Qh1 s pre by show pre=Qdn s;rw[HS.o.pre_,Qkq (ao _),aU]);have g1:¬(s.size:Int)<(s.size:Int):=oM
 gi_wp2_with fail;go_end0;exact⟨⟨_,rfl⟩,.inl ⟨pre,HE.o,Wj,HS.o.inv,HS.o.nw⟩⟩
end Go.Proofs.YtdiecmkpbadgjaaGreatDoor
namespace Go.Proofs.YtdiecmkpbadgjaaGreatDoor
open Go.Proofs.Tryz
open Go.RowKit Go.Maps Go.Shelf
theorem QdJ:Keyed prog 21:=int_keyed (q:=.i32) underlying21
abbrev QdD(D:DataW Unit)(r c:Int):DataW Unit:=D.put (.int .i32 r) (.lit (.int .i32 c))
def QeS:DataW Unit:=QdD (QdD (QdD (QdD (QdD (QdD (QdD (.map []) 34 34) 92 92) 8 98) 9 116) 10 110) 12 102) 13 114
theorem Qch{D:DataW Unit}(I:IsMap D)(r c:Int):IsMap (QdD D r c):=I.put _ _
theorem Qc5{D:DataW Unit}(I:IsMap D)(r c x:Int):Maps.has (QdD D r c) (.int .i32 x)=(decide (x=r)||Maps.has D (.int .i32 x)):=by
 by_cases h:x=r
 .subst h;rw[QdD,has_put_same I (show WideAt.IsKeyLit (.int .i32 x)from trivial)];simp
 rw[QdD,has_put_other (λe=>h (by injection e))];simp[h]
theorem Qei{D:DataW Unit}(I:IsMap D)(r c x:Int)(z:DataW Unit):(QdD D r c).atKey (.int .i32 x) z=if x=r then .lit (.int .i32 c)else D.atKey (.int .i32 x) z:=by
 by_cases h:x=r
 .subst h;rw[QdD,atKey_put_same I (show WideAt.IsKeyLit (.int .i32 x)from trivial),eH rfl]
 rw[QdD,atKey_put_other (λe=>h (by injection e)),eE h]
theorem Qpq:IsMap (.map []:DataW Unit):=⟨_,rfl⟩
theorem Qpr:IsMap (QdD (.map []) 34 34):=Qch Qpq _ _
theorem Qps:IsMap (QdD (QdD (.map []) 34 34) 92 92):=Qch Qpr _ _
theorem Qpt:IsMap (QdD (QdD (QdD (.map []) 34 34) 92 92) 8 98):=Qch Qps _ _
theorem Qpu:IsMap (QdD (QdD (QdD (QdD (.map []) 34 34) 92 92) 8 98) 9 116):=Qch Qpt _ _
theorem Qpv:IsMap (QdD (QdD (QdD (QdD (QdD (.map []) 34 34) 92 92) 8 98) 9 116) 10 110):=Qch Qpu _ _
theorem QsC:IsMap (QdD (QdD (QdD (QdD (QdD (QdD (.map []) 34 34) 92 92) 8 98) 9 116) 10 110) 12 102):=Qch Qpv _ _
theorem Qlf(r:Nat):Maps.has QeS (.int .i32 (r:Int))=(Qbs r).isSome:=by
 have I:Maps.has (.map []:DataW Unit) (.int .i32 (r:Int))=false:=rfl;rw[QeS,Qc5 QsC,Qc5 Qpv,Qc5 Qpu,Qc5 Qpt,Qc5 Qps,Qc5 Qpr,Qc5 Qpq,I];unfold Qbs
 repeat' split
 all_goals (try subst_vars)
 all_goals simp
 all_goals omega
theorem Qns(r:Nat):QeS.atKey (.int .i32 (r:Int)) (.lit (.int .i32 0))=.lit (.int .i32 (((Qbs r).getD 0:Nat):Int)):=by
 have I:(.map []:DataW Unit).atKey (.int .i32 (r:Int)) (.lit (.int .i32 0))=.lit (.int .i32 0):=rfl;rw[QeS,Qei QsC,Qei Qpv,Qei Qpu,Qei Qpt,Qei Qps,Qei Qpr,Qei Qpq,I];unfold Qbs
 repeat' split
 all_goals first|rfl |(exfalso;omega)
abbrev Qhb(w:World)(M:Nat):Prop:=w.ownsMap prog 21 (plainElem prog 21) M 7 QeS
theorem Qdz(c:Int)(I:(Lit.int .i32 c).wf=true):plainElem (H:=Unit) prog 21 (.int .i32 c)=some (.lit (.int .i32 c),[]):=plainElem_int underlying21 I
theorem Qdy(c:Int)(I:(Lit.int .i32 c).wf=true):keyOf prog 21 (.int .i32 c)=some (.int .i32 c):=keyOf_int_mk underlying21 I
theorem QrF(w:World):Calls prog 276 #[] w λe w'=>e=.returned (.map (some w.heap.size))/\Nw w w'/\Qhb w' w.heap.size:=by
 have b4:=@run_makeMap prog;have a1:=World.ownsMap_made w prog 21 (plainElem (H:=Unit) prog 21);obtain⟨w1,r1,a2,b0⟩:=a1.update QdJ underlying315 oN (Qdy 34 oN) (Qdz 34 oN);obtain⟨w2,r2,a3,a8⟩:=a2.update QdJ underlying315 oN (Qdy 92 oN) (Qdz 92 oN);obtain⟨w3,r3,Z,a7⟩:=a3.update QdJ underlying315 oN (Qdy 8 oN) (Qdz 98 oN);obtain⟨w4,r4,I,a5⟩:=Z.update QdJ underlying315 oN (Qdy 9 oN) (Qdz 116 oN);obtain⟨w5,r5,a0,a6⟩:=I.update QdJ underlying315 oN (Qdy 10 oN) (Qdz 110 oN);obtain⟨w6,r6,N,b3⟩:=a0.update QdJ underlying315 oN (Qdy 12 oN) (Qdz 102 oN);obtain⟨w7,r7,a4,a9⟩:=N.update QdJ underlying315 oN (Qdy 13 oN) (Qdz 114 oN);have HM:=hY a4;clear a1 a2 a3 Z I a0 N a4;go_in;go_wp2_with fail;go_ret;refine⟨rfl,?_,HM.o⟩;have h0:Nw w (w.alloc (.map #[] 0)):=Sb.made (World.grownBy_alloc _ _ _);exact((((((h0.comp (Sb.grown b0) λi hi e=>by have e:i=w.heap.size:=e;omega).comp (Sb.grown a8) λi hi e=>by have e:i=w.heap.size:=e;omega).comp (Sb.grown a7) λi hi e=>by have e:i=w.heap.size:=e;omega).comp (Sb.grown a5) λi hi e=>by have e:i=w.heap.size:=e;omega).comp (Sb.grown a6) λi hi e=>by have e:i=w.heap.size:=e;omega).comp (Sb.grown b3) λi hi e=>by have e:i=w.heap.size:=e;omega).comp (Sb.grown a9) λi hi e=>by have e:i=w.heap.size:=e;omega
attribute [local go_sem] Oper.semAt_some
structure Qb4(w:World):Prop where
 lib:Qi4 w
 dec:QmN w
 num:∀W,G5 w W->∀n:Int,-9223372036854775808<=n->n<=9223372036854775807->Calls prog 248 #[.int .i64 n,.int .i64 10] W λe w'=>e=.returned (.string ⟨(Lib.itoa n).toArray⟩)/\Nw W w'
variable{H:Nat->Prop}{w w':World}
theorem Qb4.sb(h:Qb4 w)(k:Sb H w w')(I:∀b,b<6->¬H b):Qb4 w':=
 ⟨h.lib.sb k I,h.dec.sb h.lib.big k I,λW N=>h.num W ((k.g5 h.lib.big I).trans N)⟩
theorem Qb4.nw(h:Qb4 w)(k:Nw w w'):Qb4 w':=h.sb k λ_ _ e=>e
def Qbf(s:ByteArray):ByteArray:=if Lib.validD s.data.toList then⟨(QdG s).toArray⟩else ByteArray.empty
theorem Qst(w:World):(zeroValue 21).run prog w=.ok (.int .i32 0) w:=kM
variable{W:World}
theorem QgK{M:Nat}(h:Qhb W M)(r:Nat)(hr:r<=1114111) :
  (Instr.lookup 315 (.map (some M)) (.int .i32 (r:Int)) true).run prog W=.ok (.tuple #[.int .i32 (((Qbs r).getD 0:Nat):Int),.bool (Qbs r).isSome]) W:=by
 obtain⟨v,ps,I,N⟩:=World.ownsMap.look_ok h QdJ underlying315 (Qst W) (Qdz 0 oN) (Qdy r (by simp[Lit.wf,IntKind.min,IntKind.max,IntKind.signed,IntKind.bits];omega));rw[Qns]at N;rw[Qlf]at I;obtain⟨c,rfl,Z,-⟩:=plainElem_int_inv underlying21 N;have:=congrArg Prod.fst Z;simp only[DataW.lit.injEq,Lit.int.injEq,true_and]at this;rw[I,this]
theorem Qhb.set{M:Nat}(h:Qhb W M){p:Addr}(I:M≠p.block)(u:Value):Qhb (W.setCell p u) M:=Qbx h (fh _ _ _ _ I)
variable{bs:List Value}{W':World}
theorem Bld.keep{B b x:Nat}(h:Bld B b bs W)(k:Sb (λi=>i=x) W W')(hb:b≠x)(hx:∀c N,W.heap[x]?≠some (.cells c 5 N)):Bld B b bs W':=by
 have hg:W.grownBy W' (some x):=⟨k.os,k.tape,k.output,k.size,λi hi hn=>k.block i hi λe=>hn (by rw[e])⟩;have Z:∀p,Lib.BuilderAtF 273 5 B b p bs W->Lib.BuilderAtF 273 5 B b p bs W':=by
  rintro p ⟨h1,v,h2,h3,h4⟩;refine⟨h1,v,(k.block b (fM h2) hb).trans h2,h3.kept hg ?_,h4⟩;rcases h3.2 with⟨rfl,_⟩ |⟨g,a1,a0,N,rfl,_,I,_⟩
  .exact .inl rfl
  refine .inr λe=>?_
  simp only[Value.ownBlock,Option.some.injEq]at e;subst e;exact hx _ _ I
 exact h.imp (Z _) (Z _)
theorem Bld.nw{B b:Nat}(h:Bld B b bs W)(k:Nw W W'):Bld B b bs W':=by
 have hg:W.grownBy W' none:=⟨k.os,k.tape,k.output,k.size,λi hi _=>k.block i hi λe=>e⟩;have I:∀p,Lib.BuilderAtF 273 5 B b p bs W->Lib.BuilderAtF 273 5 B b p bs W':=by
  rintro p ⟨h1,v,h2,Z,N⟩;refine⟨h1,v,(k.block b (fM h2) λe=>e).trans h2,Z.kept hg ?_,N⟩;cases v.ownBlock with
  |none=>exact .inl rfl
  |some x=>exact .inr oO
 exact h.imp (I _) (I _)
theorem Bld.lt{B b:Nat}(h:Bld B b bs W):b<W:=h.elim (λh=>h.lt) (λh=>h.lt)
structure QK(B:Nat)(w w':World):Prop where
 os:w'.os=w.os
 tape:w'.tape=w.tape
 output:w'.output=w.output
 size:w.heap.size<=w'.heap.size
 block:∀k,k<B->k<w.heap.size->w'.heap[k]? = w.heap[k]?
 others:∀k o,w.heap[k]? = some o->k≠B->k≠B+1->(∀c fz,o≠.cells c 5 fz)->w'.heap[k]? = some o
theorem QK.refl(B:Nat)(w:World):QK B w w:=⟨rfl,rfl,rfl,ao _,λ_ _ _=>rfl,λ_ _ h _ _ _=>h⟩
variable{B:Nat}
theorem QK.trans{a b c:World}(h:QK B a b)(k:QK B b c):QK B a c:=
 ⟨k.os.trans h.os,k.tape.trans h.tape,k.output.trans h.output,ak h.size k.size,λi hi N=>(k.block i hi (ab N h.size)).trans (h.block i hi N),λi o Z h1 h2 I=>k.others i o (h.others i o Z h1 h2 I) h1 h2 I⟩
theorem QK.nw(h:Nw w w'):QK B w w':=
 ⟨h.os,h.tape,h.output,h.size,λk _ N=>h.block k N λe=>e,λk o I _ _ _=>(h.block k (az.1 I).1 λe=>e).trans I⟩
theorem QK.of(h:Below B w w')(k:Lib.OthersKept 5 (some (B+1)) w w'):QK B w w':=
 ⟨h.os,h.tape,h.output,h.size,λi hi _=>h.block i hi,λi o I _ h2 N=>k i o I (λe=>h2 (by injection e)) N⟩
theorem QK.set(w:World)(u:Value):QK B w (w.setCell B u):=
 ⟨rfl,rfl,rfl,oO,λk N _=>fh _ _ _ _ (by show k≠B;omega),λk o I h1 _ _=>(fh _ _ _ _ h1).trans I⟩
variable{g:Nat}
theorem QK.blk(h:QK B w w'){t:TypeId}{cs:Array Value}(N:Blk w g t cs)(h1:g≠B)(h2:g≠B+1)(I:t≠5):Blk w' g t cs:=
 h.others g _ N h1 h2 λc Z e=>I (by injection e)
theorem QK.QrG(h:QK B w w'){M:Nat}(N:Qhb w M)(h1:M≠B)(h2:M≠B+1):Qhb w' M:=by
 refine Qbx N ?_;obtain⟨es,I,Z,-⟩:=N;rw[Z];exact h.others M _ Z h1 h2 λc fz e=>by cases e
variable{w1:World}
theorem QK.old(h:Nw w1 W)(k:QK w1.heap.size W W'):Nw w1 W':=
 ⟨k.os.trans h.os,k.tape.trans h.tape,k.output.trans h.output,ak h.size k.size,λb I N=>(k.block b I (ab I h.size)).trans (h.block b I N)⟩
theorem QK.agree{K:Nat->Prop}(k:QK w1.heap.size W W')(Z:∀b,K b->(b<w1.heap.size/\b<W.heap.size)\/∃o,W.heap[b]? = some o/\b≠w1.heap.size/\b≠w1.heap.size+1/\∀c N,o≠.cells c 5 N):Agree K W W':=λb hb=>by
 rcases Z b hb with⟨h1,h2⟩ |⟨o,h1,h2,h3,I⟩
 .exact k.block b h1 h2
 rw[h1];exact k.others b o h1 h2 h3 I
structure QI(w1:World)(pre:List (Nat × Nat))(W:World):Prop where
 bld:Bld w1.heap.size (w1.heap.size+1) (Lib.byteCells (34::Qbo pre)) W
 QrG:∃mb,Blk W w1.heap.size 315 #[.map mb]/\∀M,mb=some M->M≠w1.heap.size/\M≠w1.heap.size+1/\Qhb W M
 old:Nw w1 W
theorem QI.nw{pre:List (Nat × Nat)}(h:QI w1 pre W)(k:Nw W W'):QI w1 pre W':=by
 obtain⟨N,h1,h2⟩:=h.QrG;exact⟨h.bld.nw k,⟨N,k.blk h1,λM I=>⟨(h2 M I).1,(h2 M I).2.1,Qbx (h2 M I).2.2 (k.block M (World.ownsMap.lt (h2 M I).2.2) λe=>e)⟩⟩,h.old.trans k⟩
theorem QI.turn{pre:List (Nat × Nat)}{x:Nat}(h:QI w1 pre W)(k:Sb (λi=>i=x) W W')(hx:w1.heap.size+1<x)(hl:∃r,W.heap[x]? = some (.loop r)):QI w1 pre W':=by
 obtain⟨mb,h1,h2⟩:=h.QrG;obtain⟨r,Z⟩:=hl;refine⟨h.bld.keep k oM (λc fz e=>by rw[Z]at e;cases e),⟨mb,k.blk h1 oM,λM I=>⟨(h2 M I).1,(h2 M I).2.1,Qbx (h2 M I).2.2 (k.block M (World.ownsMap.lt (h2 M I).2.2) λe=>?_)⟩⟩,h.old.comp k λi hi e=>oM⟩;obtain⟨es,N,hb,-⟩:=(h2 M I).2.2;subst e;rw[Z]at hb;cases hb
theorem QI.snoc{pre:List (Nat × Nat)}{x:Nat × Nat}{mb:Option Nat}(h:QI w1 pre W)(k:QK w1.heap.size W W')(N:Bld w1.heap.size (w1.heap.size+1) (Lib.byteCells (34::Qbo (pre++[x]))) W')
  (Z:Blk W' w1.heap.size 315 #[.map mb]) (I:∀M,mb=some M->M≠w1.heap.size/\M≠w1.heap.size+1/\Qhb W' M):QI w1 (pre++[x]) W':=
 ⟨N,⟨mb,Z,I⟩,k.old h.old⟩
theorem byteCells_snoc(l r:List UInt8):Lib.byteCells (l++r)=Lib.byteCells l++Lib.byteCells r:=by simp[Lib.byteCells]
variable{r:Nat}
theorem Qt6(h:r<32):bits .and .i32 (r:Int) 15=(r:Int)%16:=by
 have:∀k:Fin 32,bits .and .i32 ((k.val:Nat):Int) 15=((k.val:Nat):Int)%16:=oN
 exact this ⟨r,h⟩
theorem Qiy(k:Nat)(I:k<16)(h:k<(ByteArray.mk #[48,49,50,51,52,53,54,55,56,57,97,98,99,100,101,102]).size):(ByteArray.mk #[48,49,50,51,52,53,54,55,56,57,97,98,99,100,101,102])[k]'h=Qom k:=by
 have:∀k:Fin 16,(ByteArray.mk #[48,49,50,51,52,53,54,55,56,57,97,98,99,100,101,102])[k.val]'k.isLt=Qom k.val:=oN
 exact this ⟨k,I⟩
theorem QI.next{pre:List (Nat × Nat)}{x:Nat × Nat}{mb:Option Nat}{N D:Nat}{s:ByteArray}(h:QI w1 pre W)(hs:Blk W N 9 #[.string s])(a1:w1.heap.size+1<N)(hD:W.heap[D]? = some (.deferred (some [])))(a0:w1.heap.size+1<D)(hl:∃r,W.heap[D+1]? = some (.loop r))(h6:6<=w1.heap.size)
  (k:QK w1.heap.size W W') (I:Bld w1.heap.size (w1.heap.size+1) (Lib.byteCells (34::Qbo (pre++[x]))) W') (hL:Blk W' w1.heap.size 315 #[.map mb]) (hM:∀M,mb=some M->M≠w1.heap.size/\M≠w1.heap.size+1/\Qhb W' M) :
  (QI w1 (pre++[x]) W'/\Blk W' N 9 #[.string s])/\Agree (λb=>(b=N\/b<6)\/b=D\/b=D+1) W W'/\W.heap.size<=W'.heap.size:=by
 have ho:=h.old.size;refine⟨⟨h.snoc k I hL hM,k.blk hs oM oM oN⟩,k.agree λb I=>?_,k.size⟩;rcases I with(rfl|I)|rfl|rfl
 .exact .inr ⟨_,hs,oM,oM,λc Z e=>by injection e with e1 e2;exact absurd e2 oN⟩
 .exact .inl ⟨oM,oM⟩
 .exact .inr ⟨_,hD,oM,oM,λc Z e=>by cases e⟩
 obtain⟨r,hr⟩:=hl;exact .inr ⟨_,hr,oM,oM,λc Z e=>by cases e⟩
variable{px:Nat}
theorem Qlt{pre:List (Nat × Nat)}(h:Qb3 (r:Int)=true):Lib.byteCells (34::Qbo (pre++[(px,r)]))=Lib.byteCells (34::Qbo pre)++Lib.runeCells (r:Int):=by
 have:QcZ r=Lib.encodeRune r:=by unfold QcZ;rw[h];rfl
 rw[Qep,this,<-aM,byteCells_snoc,Lib.byteCells_encodeRune]
theorem QgV{c:Nat}(h:c<128):Lib.runeCells (c:Int)=Lib.byteCells [c.toUInt8]:=by
 rw[Lib.runeCells,Lib.encodeRuneZ_one oM oM];simp[Lib.byteCells];omega
theorem QgJ{r c:Nat}(I:Qbs r=some c):c<128:=by
 unfold Qbs at I
 repeat' split at I
 all_goals first |(cases I;done) |(injection I with I;omega)
theorem QfE{pre:List (Nat × Nat)}{px r c:Nat}(h:Qb3 (r:Int)=false)(N:Qbs r=some c):Lib.byteCells (34::Qbo (pre++[(px,r)]))=(Lib.byteCells (34::Qbo pre)++[.int .u8 92])++Lib.runeCells (c:Int):=by
 have I:=QgJ N;have:QcZ r=[92]++[c.toUInt8]:=by unfold QcZ;rw[h,N];rfl
 rw[Qep,this,<-aM,<-aT,byteCells_snoc,byteCells_snoc,QgV I];rfl
theorem Qkk{pre:List (Nat × Nat)}(h:Qb3 (r:Int)=false)(I:Qbs r=none):Lib.byteCells (34::Qbo (pre++[(px,r)]))=((Lib.byteCells (34::Qbo pre)++Lib.strCells ⟨#[92,117,48,48]⟩)++[.int .u8 (Qom (r/16)).toNat])++[.int .u8 (Qom (r%16)).toNat]:=by
 have:QcZ r=[92,117,48,48]++[Qom (r/16)]++[Qom (r%16)]:=by unfold QcZ;rw[h,I];rfl
 rw[Qep,this,<-aM,<-aT,<-aT,byteCells_snoc,byteCells_snoc,byteCells_snoc];rfl
theorem Qpb(h:Qb3 (r:Int)=false)(I:Qbs r=none):r<32:=by
 unfold Qbs at I;simp only[Qb3,Bool.and_eq_false_iff,decide_eq_false_iff_not,bne_eq_false_iff_eq]at h
 repeat' split at I
 all_goals first |(cases I;done)|omega
end Go.Proofs.YtdiecmkpbadgjaaGreatDoor
namespace Go.Proofs.YtdiecmkpbadgjaaGreatDoor
open Go.Proofs.Tryz
open Go.RowKit Go.Maps Go.Shelf
abbrev fF:=@run_takeDeferred
abbrev fG:=@callsIn_of_wp_marks
attribute [local go_sem] Oper.semAt_some
variable{w:World}
theorem QoF{B b:Nat}{l:List UInt8}(h:Bld B b (Lib.byteCells l) w)(I:B<=w.heap.size) :
  Calls prog 277 #[.pointer (some b)] w λe w'=>e=.returned (.string ⟨l.toArray⟩)/\Below B w w'/\Lib.OthersKept 5 (some b) w w':=
 (Any.Builder_String_any_k Tryz.QfO (Qu0 _ rfl rfl) B b l w h I).mono λe w' h=>⟨h.1,h.2.2.1,h.2.2.2⟩
def QoP(s:ByteArray):Int:=if Lib.validD s.data.toList then 0 else 3
theorem QkF(hL:Qb4 w){s:ByteArray}(hs:s.size<=10000000) :
  Calls prog 263 #[s] w λe w'=>e=.returned (.tuple #[(Qbf s),(QoP s)])/\Nw w w':=by
 have hv:=QdO hL.lib (k:=s) (by unfold maxLen;omega);have q6:∀(w:World) (r:Option Nat),(binOp .eql 315 (.map r) (.map none)).run prog w=.ok (.bool r.isNone) w:=λw r=>run_eql_map_nil w _ _ _ r underlying315
 obtain⟨HV,HL⟩:=Yb hv hL;clear hv hL;refine(eL (n:=6)).1 ?_;refine fG func263 rfl trivial ?_ rfl;simp only[ntmps263,zL,Nat.reduceAdd,Nat.reduceSub];gi_wp2_with fail;refine⟨trivial,?_⟩;refine(eL.2 HV.o).mono ?_;rintro e w1 ⟨rfl,e0⟩;cases d3:Lib.validD s.data.toList with
 | false=>
   obtain⟨HQ,i3,HN⟩:=Yc (show Qbf s=ByteArray.empty by unfold Qbf;rw[d3];rfl) (show QoP s=3 by unfold QoP;rw[d3];rfl) e0;clear e0 d3;gi_wp2_with fail;refine⟨.tuple #[.string ⟨#[]⟩,.int .i64 3],by simp[results,results263,go_sem],?_⟩;exact⟨by rw[HQ.o,i3.o];rfl,HN.o⟩
 | true=>
   obtain⟨HQ,i3⟩:=Yb (show Qbf s=⟨(QdG s).toArray⟩by unfold Qbf;rw[d3];rfl) (show QoP s=0 by unfold QoP;rw[d3];rfl);have k8:=HL.o.nw e0;obtain⟨k7,l0⟩:=Yb e0 k8;clear e0 d3 k8;gi_wp2_with fail;generalize k5:World.alloc (World.alloc _ _) _=W0;obtain⟨k2,q1,o4,j8⟩:=Qas w1 _ _ _ _ W0 k5;have e3:Bld w1.heap.size (w1.heap.size+1) [] W0:=.inl ⟨Nat.le_succ _,.slice none 0 0,j8,World.ownsRowF_of (eS _ _ _ _),by simp[Value.ownBlock]⟩;have b5:=QbZ 34 e3 oO oM;obtain⟨e7,l8,o8⟩:=Yc b5 k2 o4;clear k5 e3 b5 k2 j8;refine⟨trivial,?_⟩;refine(eL.2 e7.o).mono ?_;rintro e w2 ⟨rfl,c7,f9,f1⟩;have g4:=QK.of f9 f1;have d5:QI w1 [] w2:=⟨c7,⟨none,f1 _ _ o8.o oO (λc fz e=>by cases e),λM hM=>by cases hM⟩,QK.old (gj l8.o) g4⟩;have q4:w1.heap.size+1<w2.heap.size:=c7.lt;have l2:=l0.o.nw d5.old;obtain⟨k0,n2⟩:=Yb d5 l2;clear c7 f9 f1 g4 d5 l2;gi_wp2_with fail;refine⟨trivial,?_⟩;refine(eL.2 (Qqq w2 s)).mono ?_;rintro e w3 ⟨rfl,f8,f6⟩;have g0:=k0.o.nw (gj f8);have j1:=n2.o.nw (gj f8);have p6:=f8.size;have p4:=f6.lt;have n7:=j1.lib.big;have f0:=l0.o.lib.big;obtain⟨p1,l5,o2⟩:=Yc (Qqr (w0:=w3) f6 j1.dec n7 oM) g0 f6;clear f8 g0 j1 f6;gi_wp2_with fail;refine Qg7 (gf:=284) (lb:=#[.pointer (some w2)]) rfl (ff func284 kM rfl) p1.o (Agree.refl _) (ao _)
    (λb hb=>by rcases hb with rfl|hb<;>omega) (λ_=>rfl) (λpre W=>QI w1 pre W/\Blk W w2.heap.size 9 #[.string s]) (λ_ _ _=>False)
    (λh k hl q3=>⟨h.1.turn k oM hl,k.blk h.2 oM⟩) (λh _ _ _=>h) (λW hW hz=>⟨l5.o.nw (gj hW),o2.o.ext hW⟩) ?round ?done ?stop
   case stop=>
    rintro D c pre W hD q5 hX j0;exact hX.elim
   case round=>
    rintro pre x q2 W1 hI q7 c9 hG;have g8:x∈Qdn s:=am hG;have j5:=(QfH g8).1;have p7:pre.length<s.size:=by
     have h1:=(ae.1 hG).1;have h2:=Qdc s s.size 0;unfold Qdn at h1;omega
    have i9:=QdZ pre;have q8:(Lib.byteCells (34::Qbo pre)).length<=60000001:=by simp[Lib.byteCells];omega
    have i7:=hY (And.intro (hI.1.nw c9) (c9.blk hI.2));have p9:=c9.size;clear hI hG g8 c9 i9;obtain⟨px,r⟩:=x;dsimp only at j5;gi_wp2_with fail;refine⟨gu _ _,λW3 k3 j7 l1 k4=>?_⟩;obtain⟨a4,f3,d8⟩:=Yc (And.intro (i7.o.1.turn k3 oM j7) (k3.blk i7.o.2 oM)) l1 k4;have q0:=k3.size;have p5:=a4.o.1.old.size;clear k3 j7 i7 l1 k4;gi_wp2_with fail;refine⟨trivial,?_⟩;refine(QaA (QnX W3 r)).mono ?_;rintro e w4 ⟨rfl,rfl⟩;obtain⟨mb,k9,k6⟩:=a4.o.1.QrG;obtain⟨d0,c2⟩:=Yb k9 k6;clear k9 k6;cases f7:Qb3 (r:Int)with
    | true=>
      have a1:=Qg8 (r:Int) oM oM a4.o.1.bld oM oM;obtain⟨b8,b9⟩:=Yb a1 f7;clear a1 f7;gi_wp2_with fail;refine⟨trivial,?_⟩;refine(QaA b8.o).mono ?_;rintro e w5 ⟨rfl,j9,g3,f4⟩;have i4:=QK.of g3 f4;have a8:=hY (a4.o.1.next (x:=(px,r)) a4.o.2 oM d8.o oM f3.o f0 i4 (by rw[Qlt b9.o];exact j9) (f4 _ _ d0.o oO λc fz e=>by cases e) (λM hM=>⟨(c2.o M hM).1,(c2.o M hM).2.1,i4.QrG (c2.o M hM).2.2 (c2.o M hM).1 (c2.o M hM).2.1⟩));clear j9 g3 f4 i4;gi_wp2_with fail;exact a8.o
    | false=>
      have b9:=hY f7;have n9:w4.cell? w1=some (.map mb):=d0.o.cell 0;have l7:=d0.o.lt;have p0:=d0.o.frozen 0;clear f7;rcases mb with _|M
      ·have g6:=QrF w4
       have g5:=hY g6;clear g6;gi_wp2_with fail;refine⟨trivial,?_⟩;refine(QaA g5.o).mono ?_;rintro e w5 ⟨rfl,f5,e6⟩;have b6:=f5.blk d0.o;have o7:w5.cell? w1=some (.map none):=b6.cell 0;have o5:=b6.lt;have o0:=b6.frozen 0;clear n9 p0;gi_upto_region 12 with(fail);obtain⟨d4,c3,a5,c1⟩:=Ye (((a4.o.1.bld.nw f5).keep (x:=w1) ((gu (λi=>i=w1.heap.size) w5).set (p:=⟨w1,0,none⟩) (.inr rfl) (.map (some w4.heap.size))) oM (λc fz e=>by have e2:=b6.symm.trans e;injection e2 with e2;injection e2 with _ e2;exact absurd e2 oN))) ((QK.nw (B:=w1) f5).trans (QK.set w5 (.map (some w4.heap.size)))) (b6.QbH 0 (.map (some w4.heap.size))) (e6.set (p:=⟨w1,0,none⟩) (by show w4.heap.size≠w1.heap.size;omega) (.map (some w4.heap.size)));obtain⟨M,hM⟩:∃M,M=w4.heap.size:=⟨_,rfl⟩;have a2:=hY (show M≠w1.heap.size/\M≠w1.heap.size+1 by omega);have p8:=a4.o.1.bld.lt;rw[<-hM]at d4 c3 a5 c1 ⊢;generalize World.setCell w5 _ _=W at *;clear hM f5 e6 b6 o7 o5 o0 l7 g5;have l4:=hY (Lib.OthersKept.refl 5 (some (w1.heap.size+1)) W);have b7:=QgK c1.o r j5;have cL:W.cell? w1=some (.map (some M)):=a5.o.cell 0;have lL:=a5.o.lt;have o1:=c3.o.size;cases a3:Qbs r with
       | some c=>
         rw[a3]at b7;have c8:=hY a3;have j2:=QgJ a3;have b5:=QbZ 92 d4.o oM oM;have e7:=hY b5;clear b5 a3;gi_wp2_with fail;refine⟨trivial,?_⟩;refine(QaA e7.o).mono ?_;rintro e w6 ⟨rfl,a7,I,N⟩;have g9:=I.size;have a1:=Qg8 (c:Int) oM oM a7 (by rw[aj];simp only[List.length_cons,List.length_nil];omega) oM;obtain⟨b8,c4,c6⟩:=Yc a1 (QK.of I N) N;clear a1 a7 I N cL b7;gi_wp2_with fail;refine⟨trivial,?_⟩;refine(QaA b8.o).mono ?_;rintro e w7 ⟨rfl,b3,a0,Z⟩;have b0:=c4.o.trans (QK.of a0 Z);have a8:=hY (a4.o.1.next (x:=(px,r)) (mb:=some M) a4.o.2 oM d8.o oM f3.o f0 (c3.o.trans b0) (by rw[QfE b9.o c8.o];exact b3) ((c6.o.trans Z) _ _ a5.o oO λc fz e=>by cases e) (λM' a6=>by injection a6 with a6;subst a6;exact⟨a2.o.1,a2.o.2,b0.QrG c1.o a2.o.1 a2.o.2⟩));clear b3 a0 Z b0;gi_wp2_with fail;exact a8.o
       | none=>
         rw[a3]at b7;have d7:=Qpb b9.o a3;have n6:=Qt6 d7;have c8:=hY a3;have d6:=QmM ⟨#[92,117,48,48]⟩ d4.o (by show _+4<=_;omega) oM;have i2:=hY d6;clear d6 a3;gi_wp2_with fail;refine⟨trivial,?_⟩;refine(QaA i2.o).mono ?_;rintro e w6 ⟨⟨rs,rfl⟩,a7,I,N⟩;have g9:=I.size;have a1:=QbZ (Qom (r/16)).toNat a7 (by rw[aj,show(Lib.strCells ⟨#[92,117,48,48]⟩).length=4 from rfl];omega) oM;obtain⟨b8,c4,c6⟩:=Yc a1 (QK.of I N) N;clear a1 a7 I N cL b7;gi_wp2_with fail;rw[Qiy (r/16) oM];refine⟨trivial,?_⟩;refine(QaA b8.o).mono ?_;rintro e w7 ⟨rfl,b3,a0,Z⟩;have p3:=a0.size;have a1:=QbZ (Qom (r%16)).toNat b3 (by rw[aj,aj,show(Lib.strCells ⟨#[92,117,48,48]⟩).length=4 from rfl];simp only[List.length_cons,List.length_nil];omega) oM;obtain⟨f2,i5,i8⟩:=Yc a1 (c4.o.trans (QK.of a0 Z)) (c6.o.trans Z);clear a1 b3 a0 Z;gi_wp2_with fail;rw[Qiy (r%16) oM];refine⟨trivial,?_⟩;refine(QaA f2.o).mono ?_;rintro e w8 ⟨rfl,e4,c0,a9⟩;have b4:=i5.o.trans (QK.of c0 a9);have a8:=hY (a4.o.1.next (x:=(px,r)) (mb:=some M) a4.o.2 oM d8.o oM f3.o f0 (c3.o.trans b4) (by rw[Qkk b9.o c8.o];exact e4) ((i8.o.trans a9) _ _ a5.o oO λc fz e=>by cases e) (λM' a6=>by injection a6 with a6;subst a6;exact⟨a2.o.1,a2.o.2,b4.QrG c1.o a2.o.1 a2.o.2⟩));clear e4 c0 a9 b4;gi_wp2_with fail;exact a8.o
      gi_upto_region 12 with(fail);obtain⟨d4,c3⟩:=Yb a4.o.1.bld (QK.refl w1.heap.size w4);have a5:=d0;have c1:=hY (c2.o M rfl).2.2;obtain⟨a2,l4⟩:=Yb (And.intro (c2.o M rfl).1 (c2.o M rfl).2.1) (Lib.OthersKept.refl 5 (some (w1.heap.size+1)) w4);have b7:=QgK c1.o r j5;have cL:w4.cell? w1=some (.map (some M)):=a5.o.cell 0;have lL:=a5.o.lt;have o1:=c3.o.size;cases a3:Qbs r with
      | some c=>
        rw[a3]at b7;have c8:=hY a3;have j2:=QgJ a3;have b5:=QbZ 92 d4.o oM oM;have e7:=hY b5;clear b5 a3;gi_wp2_with fail;refine⟨trivial,?_⟩;refine(QaA e7.o).mono ?_;rintro e w6 ⟨rfl,a7,I,N⟩;have g9:=I.size;have a1:=Qg8 (c:Int) oM oM a7 (by rw[aj];simp only[List.length_cons,List.length_nil];omega) oM;obtain⟨b8,c4,c6⟩:=Yc a1 (QK.of I N) N;clear a1 a7 I N cL b7;gi_wp2_with fail;refine⟨trivial,?_⟩;refine(QaA b8.o).mono ?_;rintro e w7 ⟨rfl,b3,a0,Z⟩;have b0:=c4.o.trans (QK.of a0 Z);have a8:=hY (a4.o.1.next (x:=(px,r)) (mb:=some M) a4.o.2 oM d8.o oM f3.o f0 (c3.o.trans b0) (by rw[QfE b9.o c8.o];exact b3) ((c6.o.trans Z) _ _ a5.o oO λc fz e=>by cases e) (λM' a6=>by injection a6 with a6;subst a6;exact⟨a2.o.1,a2.o.2,b0.QrG c1.o a2.o.1 a2.o.2⟩));clear b3 a0 Z b0;gi_wp2_with fail;exact a8.o
      | none=>
        rw[a3]at b7;have d7:=Qpb b9.o a3;have n6:=Qt6 d7;have c8:=hY a3;have d6:=QmM ⟨#[92,117,48,48]⟩ d4.o (by show _+4<=_;omega) oM;have i2:=hY d6;clear d6 a3;gi_wp2_with fail;refine⟨trivial,?_⟩;refine(QaA i2.o).mono ?_;rintro e w6 ⟨⟨rs,rfl⟩,a7,I,N⟩;have g9:=I.size;have a1:=QbZ (Qom (r/16)).toNat a7 (by rw[aj,show(Lib.strCells ⟨#[92,117,48,48]⟩).length=4 from rfl];omega) oM;obtain⟨b8,c4,c6⟩:=Yc a1 (QK.of I N) N;clear a1 a7 I N cL b7;gi_wp2_with fail;rw[Qiy (r/16) oM];refine⟨trivial,?_⟩;refine(QaA b8.o).mono ?_;rintro e w7 ⟨rfl,b3,a0,Z⟩;have p3:=a0.size;have a1:=QbZ (Qom (r%16)).toNat b3 (by rw[aj,aj,show(Lib.strCells ⟨#[92,117,48,48]⟩).length=4 from rfl];simp only[List.length_cons,List.length_nil];omega) oM;obtain⟨f2,i5,i8⟩:=Yc a1 (c4.o.trans (QK.of a0 Z)) (c6.o.trans Z);clear a1 b3 a0 Z;gi_wp2_with fail;rw[Qiy (r%16) oM];refine⟨trivial,?_⟩;refine(QaA f2.o).mono ?_;rintro e w8 ⟨rfl,e4,c0,a9⟩;have b4:=i5.o.trans (QK.of c0 a9);have a8:=hY (a4.o.1.next (x:=(px,r)) (mb:=some M) a4.o.2 oM d8.o oM f3.o f0 (c3.o.trans b4) (by rw[Qkk b9.o c8.o];exact e4) ((i8.o.trans a9) _ _ a5.o oO λc fz e=>by cases e) (λM' a6=>by injection a6 with a6;subst a6;exact⟨a2.o.1,a2.o.2,b4.QrG c1.o a2.o.1 a2.o.2⟩));clear e4 c0 a9 b4;gi_wp2_with fail;exact a8.o
   rintro D xs W hD hS ⟨hI,-⟩ j0;have j4:xs=Qdn s:=hS;have i9:=QdZ xs;have o9:xs.length<=s.size:=by rw[j4];exact Qdc s s.size 0
   have b5:=QbZ 34 hI.bld (by simp[Lib.byteCells];omega) hI.old.size;obtain⟨j6,HI,o6,l6,e8⟩:=Yf b5 hI j0 j4 hD;clear hS i9 o9 b5 hI j0 j4 hD;gi_wp2_with fail;refine⟨trivial,?_⟩;refine(eL.2 j6.o).mono ?_;rintro e w6 ⟨rfl,a7,I,N⟩;have j3:=QK.of I N;have g7:Bld w1.heap.size (w1.heap.size+1) (Lib.byteCells (QdG s)) w6:=by
    have e1:Lib.byteCells (QdG s)=Lib.byteCells (34::Qbo xs)++[.int .u8 34]:=by
     rw[QdG,<-l6.o,byteCells_snoc];rfl
    rw[e1];exact a7
   have i0:=QK.old HI.o.old j3;have k1:w6.heap[D]? = some (.deferred (some [])):=j3.others D _ o6.o (by have:=e8.o;omega) (by have:=e8.o;omega) (λc fz e=>by cases e);obtain⟨o3,n8,p2⟩:=Yc (QoF g7 i0.size) i0 k1;clear a7 I N j3 g7 i0 k1;gi_wp2_with fail;refine⟨trivial,?_⟩;refine(eL.2 o3.o).mono ?_;rintro e w7 ⟨rfl,a0,Z⟩;have i1:=QK.of a0 Z;have i6:w7.heap[D]? = some (.deferred (some [])):=i1.others D _ p2.o (by have:=e8.o;omega) (by have:=e8.o;omega) (λc fz e=>by cases e);have l3:=QK.old n8.o i1;obtain⟨l9,n4⟩:=Yb ((k7.o.trans l3).comp (St.put (o':=.deferred none) i6 rfl rfl).sb λi hi e=>by have:=e8.o;have:=k7.o.size;omega) i6;clear a0 Z i1 i6 l3;gi_wp2_with fail;refine⟨oO,.inl ⟨_,_,rfl,fF n4.o,?_⟩⟩;refine⟨.tuple #[.string ⟨(QdG s).toArray⟩,.int .i64 0],?_,by rw[HQ.o,i3.o],l9.o⟩;simp[results,results263,go_sem]
theorem Qkj(Z:Qb4 w){s:ByteArray}(hs:s.size<=10000000):Calls prog 250 #[s] w λe w'=>e=.returned (Qbf s)/\Nw w w':=by
 have I:=QkF Z hs;have HQ:=hY I;clear I Z hs;go_in;go_wp2_with fail;refine HQ.o.mono ?_;rintro e w1 ⟨rfl,N⟩;have HN:=hY N;clear N;go_wp2_with fail;go_ret;exact⟨rfl,HN.o⟩
end Go.Proofs.YtdiecmkpbadgjaaGreatDoor
namespace Go.Proofs.YtdiecmkpbadgjaaGreatDoor
open Go.Proofs.Tryz
open Go.RowKit Go.Maps Go.Shelf
mutual
def QgI:Val->Nat
 |.mk k b i t l ok ov=>if k=2 then Qut b else if k=3 then(Lib.itoa i).length else if k=4 then(Qbf t).size else if k=5 then 2+QfC l+(l.length-1)else if k=6 then 2+Qfl ok ov+(ov.length-1)else 4
def QfC:List Val->Nat
 |[]=>0
 |d::r=>QgI d+QfC r
def Qfl:List ByteArray->List Val->Nat
 |_,[]=>0
 |ks,d::r=>(Qbf (ks.headD ByteArray.empty)).size+1+QgI d+Qfl ks.tail r
end
theorem QjX:∀{l:List Val} {j:Nat} {d:Val},l[j]? = some d->QfC (l.take (j+1))=QfC (l.take j)+QgI d
 |[],j,d,h=>by simp at h
 | x :: r,0,d,h=>by
   simp at h;subst h;simp[QfC]
 | x :: r,j+1,d,h=>by
   have I:r[j]? = some d:=by simpa using h
   rw[bp,bp,QfC,QfC,QjX I,bH]
theorem QrE(l:List Val)(j:Nat):QfC (l.take j)<=QfC l:=by
 induction l generalizing j with
 |nil=>simp
 | cons x r ih=>
   cases j with
   |zero=>simp[QfC]
   |succ j=>rw[bp,QfC,QfC];have:=ih j;omega
theorem QjY:∀{ks:List ByteArray} {l:List Val} {j:Nat} {d:Val} {k:ByteArray},l[j]? = some d->ks[j]? = some k->Qfl ks (l.take (j+1))=Qfl ks (l.take j)+((Qbf k).size+1+QgI d)
 |ks,[],j,d,k,h,_=>by simp at h
 |[],x::r,j,d,k,h,hk=>by simp at hk
 | y :: ks,x :: r,0,d,k,h,hk=>by
   simp at h hk;subst h hk;simp[Qfl]
 | y :: ks,x :: r,j+1,d,k,h,hk=>by
   have N:r[j]? = some d:=by simpa using h
   have I:ks[j]? = some k:=by simpa using hk
   rw[bp,bp,Qfl,Qfl,cp,QjY N I];omega
theorem Qmi:∀(ks:List ByteArray) (l:List Val) (j:Nat),Qfl ks (l.take j)<=Qfl ks l
 |ks,[],j=>oO
 |ks,x::r,0=>by simp[Qfl]
 | ks,x :: r,j+1=>by
   rw[bp,Qfl,Qfl];have:=Qmi ks.tail r j;omega
variable{w:World}{B:Nat}
theorem Qcq{a b:Value}{m:Nat}(s:ByteArray)(I:Blk w B 275 (wrC a b m))(hm:m+s.size<=100000000) :
  Calls prog 245 #[.pointer (some B),.slice (some w) 1 1] (w.alloc (.cells #[s] 9)) λe w'=>(∃r,e=.returned r)/\Blk w' B 275 (wrC a b (m+s.size))/\Sb (λc=>c=B) w w':=by
 have N:Ext w (w.alloc (.cells #[s] 9)):=(gh w).alloc _ _;have hl:=I.lt;have Z:=QiA (s:=⟨some w,1⟩) (ks:=[s]) (I.ext N) (gA (gm w 9 #[.string s]) oN rfl) (λi hi=>by subst hi;exact⟨oO,oM⟩) (by simp[Qg9];omega) oO;exact Z.mono λe w' ⟨h1,h2,h3⟩=>⟨h1,by simpa[Qg9]using h2,(Nw.any (gj N) _).trans h3.sb⟩
theorem QrB{a b:Value}{m:Nat}(s t:ByteArray)(I:Blk w B 275 (wrC a b m))(hm:m+s.size+t.size<=100000000) :
  Calls prog 245 #[.pointer (some B),.slice (some w) 2 2] (w.alloc (.cells #[s,t] 9)) λe w'=>(∃r,e=.returned r)/\Blk w' B 275 (wrC a b (m+s.size+t.size))/\Sb (λc=>c=B) w w':=by
 have N:Ext w (w.alloc (.cells #[s,t] 9)):=(gh w).alloc _ _;have hl:=I.lt;have Z:=QiA (s:=⟨some w,2⟩) (ks:=[s,t]) (I.ext N) (gA (gm w 9 #[.string s,.string t]) oN rfl) (λi hi=>by subst hi;exact⟨oO,oM⟩) (by simp[Qg9];omega) oO;exact Z.mono λe w' ⟨h1,h2,h3⟩=>⟨h1,by simpa[Qg9,Nat.add_assoc]using h2,(Nw.any (gj N) _).trans h3.sb⟩
variable{V:Nat}
theorem QrZ{a b:Value}{n:Int}{m:Nat}{c0 c1 c3 c4 c5:Value}(hV:Blk w V 34 #[c0,c1,.int .i64 n,c3,c4,c5])(hB:Blk w B 275 (wrC a b m))(h0 : -9223372036854775808<=n)(h1:n<=9223372036854775807)(hm:m+(Lib.itoa n).length<=100000000)(hL:Qb4 w) :
  Calls prog 247 #[.pointer (some B),.pointer (some V)] w λe w'=>(∃r,e=.returned r)/\Blk w' B 275 (wrC a b (m+(Lib.itoa n).length))/\Sb (λc=>c=B) w w':=by
 have hf:=hL.num w (G5.refl w) n h0 h1;have c2:w.cell? ⟨V,2,none⟩=some (.int .i64 n):=hV.cell 2;obtain⟨HF,HB,HM⟩:=Yc hf hB hm;clear hf hV hB hm h0 h1 hL;go_in;go_wp2_with fail;refine HF.o.mono ?_;rintro e w1 ⟨rfl,I⟩;have hj:=Qcq (w:=w1) ⟨(Lib.itoa n).toArray⟩ (I.blk HB.o) (by have:=HM.o;simpa[ByteArray.size]using this);rw[show(ByteArray.mk (Lib.itoa n).toArray).size=(Lib.itoa n).length by simp[ByteArray.size]]at hj;obtain⟨HJ,HN⟩:=Yb hj I;clear hj I c2;go_wp2_with fail;refine HJ.o.mono ?_;rintro e w2 ⟨⟨r,rfl⟩,Z,N⟩;obtain⟨a1,a0⟩:=Yb Z ((HN.o.any _).trans N);clear Z N;go_wp2_with fail;go_end0;exact⟨⟨_,rfl⟩,a1.o,a0.o⟩
theorem Qr0{a b:Value}{t:ByteArray}{m:Nat}{c0 c1 c2 c4 c5:Value}(hV:Blk w V 34 #[c0,c1,c2,.string t,c4,c5])(hB:Blk w B 275 (wrC a b m))(ht:t.size<=10000000)(hm:m+(Qbf t).size<=100000000)(hL:Qb4 w) :
  Calls prog 249 #[.pointer (some B),.pointer (some V)] w λe w'=>(∃r,e=.returned r)/\Blk w' B 275 (wrC a b (m+(Qbf t).size))/\Sb (λc=>c=B) w w':=by
 have hf:=Qkj hL ht;have c2:w.cell? ⟨V,3,none⟩=some (.string t):=hV.cell 3;obtain⟨HF,HB,HM⟩:=Yc hf hB hm;clear hf hV hB hm hL ht;go_in;go_wp2_with fail;refine HF.o.mono ?_;rintro e w1 ⟨rfl,I⟩;have hj:=Qcq (w:=w1) (Qbf t) (I.blk HB.o) HM.o;obtain⟨HJ,HN⟩:=Yb hj I;clear hj I c2;go_wp2_with fail;refine HJ.o.mono ?_;rintro e w2 ⟨⟨r,rfl⟩,Z,N⟩;obtain⟨a1,a0⟩:=Yb Z ((HN.o.any _).trans N);clear Z N;go_wp2_with fail;go_end0;exact⟨⟨_,rfl⟩,a1.o,a0.o⟩
def fnO(k:Int):Nat:=if k=2 then 244 else if k=3 then 247 else if k=4 then 249 else if k=5 then 251 else if k=6 then 253 else 255
def bsO(k:Int)(V:Nat):Array Value:=if k=2\/k=3\/k=4\/k=5\/k=6 then#[.pointer (some ⟨V,0,none⟩)]else#[]
abbrev QtS(d:Val)(sl so:Sl):Array Value:=#[.int .i64 d.kind,.bool d.b,.int .i64 d.i,.string d.t,.slice sl.a d.l.length sl.c,.slice so.a d.ok.length so.c]
theorem Qlm(w:World)(d:Val)(sl so:Sl):Calls prog 228 #[QbV d sl so] w λe w'=>e=.returned (.func (.func (fnO d.kind)) #[] (bsO d.kind w.heap.size))/\Ext w w'/\Blk w' w.heap.size 34 (QtS d sl so):=by
 obtain⟨k,b,i,t,l,ok,ov⟩:=d;show Calls _ _ #[.agg #[k,b,i,t,.slice sl.a l.length sl.c,.slice so.a ok.length so.c]] _ λe w'=>e=.returned (.func (.func (fnO k)) #[] (bsO k w.heap.size))/\Ext w w'/\Blk w' w.heap.size 34 #[.int .i64 k,.bool b,.int .i64 i,.string t,.slice sl.a l.length sl.c,.slice so.a ok.length so.c]
 by_cases h2:k=2
 ·subst h2
  go_in;go_wp2_with fail;go_ret;exact⟨rfl,(gh w).alloc _ _,gm w _ _⟩
 by_cases N:k=3
 ·subst N
  go_in;go_wp2_with fail;go_ret;exact⟨rfl,(gh w).alloc _ _,gm w _ _⟩
 by_cases I:k=4
 ·subst I
  go_in;go_wp2_with fail;go_ret;exact⟨rfl,(gh w).alloc _ _,gm w _ _⟩
 by_cases Z:k=5
 ·subst Z
  go_in;go_wp2_with fail;go_ret;exact⟨rfl,(gh w).alloc _ _,gm w _ _⟩
 by_cases h6:k=6
 ·subst h6
  go_in;go_wp2_with fail;go_ret;exact⟨rfl,(gh w).alloc _ _,gm w _ _⟩
 have g2:(k==2)=false:=by simpa using h2
 have g3:(k==3)=false:=by simpa using N
 have g4:(k==4)=false:=by simpa using I
 have g5:(k==5)=false:=by simpa using Z
 have g6:(k==6)=false:=by simpa using h6
 have hf:fnO k=255:=by simp[fnO,h2,N,I,Z,h6]
 have hb:bsO k w.heap.size=#[]:=by simp[bsO,h2,N,I,Z,h6]
 rw[hf,hb];clear h2 N I Z h6 hf hb;go_in;go_wp2_with fail;go_ret;exact⟨rfl,(gh w).alloc _ _,gm w _ _⟩
mutual
def QcI:Val->Nat
 |.mk k b i t l ok ov=>7+t.size+QdR l+QfL ok ov
def QdR:List Val->Nat
 |[]=>0
 |d::r=>QcI d+QdR r
def QfL:List ByteArray->List Val->Nat
 |_,[]=>0
 |ks,d::r=>(ks.headD ByteArray.empty).size+2+QcI d+QfL ks.tail r
end
theorem QoO:∀{l:List Val} {j:Nat} {d:Val},l[j]? = some d->QcI d<=QdR l
 |[],j,d,h=>by simp at h
 |x::r,0,d,h=>by simp at h;subst h;rw[QdR];omega
 |x::r,j+1,d,h=>by have:=QoO (l:=r) (j:=j) (by simpa using h);rw[QdR];omega
theorem QkY:∀{ks:List ByteArray} {l:List Val} {j:Nat} {d:Val} {k:ByteArray},l[j]? = some d->ks[j]? = some k->QcI d+k.size<=QfL ks l
 |ks,[],j,d,k,h,_=>by simp at h
 |[],x::r,j,d,k,h,hk=>by simp at hk
 |y::ks,x::r,0,d,k,h,hk=>by simp at h hk;subst h hk;rw[QfL,dg];omega
 |y::ks,x::r,j+1,d,k,h,hk=>by have:=QkY (ks:=ks) (l:=r) (j:=j) (by simpa using h) (by simpa using hk);rw[QfL,cp];omega
theorem Qfo(s:ByteArray):(Qbf s).size<=6*s.size+2:=by
 unfold Qbf;split
 ·have:=QnO s
  show(QdG s).toArray.size<=_;rw[bm];exact this
 show 0<=_;omega
theorem Qto(x:Bool):Qut x<=5:=by rw[Qtn];split<;>omega
mutual
theorem QiE(F:Nat->Prop)(w:World):∀(d:Val) (sl so:Sl),RV w F d sl so->QgI d+2<=6*QcI d
 | .mk k b i t l ok ov,sl,so,h=>by
   unfold QgI QcI;cases h with
   |mk bl fl bo fo cl co hl ho hov el rl ek eo ro bk bi bt nl no=>
   split
   .have:=Qto b;omega
   split
   ·have:=Lib.itoa_length_le i (by simp [Lit.wf,IntKind.min,IntKind.max,IntKind.signed,IntKind.bits] at bi;omega) (by simp [Lit.wf,IntKind.min,IntKind.max,IntKind.signed,IntKind.bits] at bi;omega)
    omega
   split
   .have:=Qfo t;omega
   split
   ·have:=Qmg F w l cl (fun j d I=>rl j d I)
    omega
   split
   ·have:=Qmh F w ok ov co (fun j d I=>ro j d I) hov
    omega
   omega
theorem Qmg(F:Nat->Prop)(w:World):∀(l:List Val) (c:Nat->Sl × Sl),(∀j d,l[j]? = some d->RV w F d (c j).1 (c j).2)->QfC l+2*l.length<=6*QdR l
 |[],c,h=>by simp[QfC,QdR]
 | d :: r,c,h=>by
   have h1:=QiE F w d _ _ (h 0 d rfl);have h2:=Qmg F w r (λj=>c (j+1)) (λj d I=>h (j+1) d (by simpa using I));rw[QfC,QdR,aC];omega
theorem Qmh(F:Nat->Prop)(w:World):∀(ks:List ByteArray) (l:List Val) (c:Nat->Sl × Sl),(∀j d,l[j]? = some d->RV w F d (c j).1 (c j).2)->l.length=ks.length->Qfl ks l+2*l.length<=6*QfL ks l
 |ks,[],c,h,I=>by simp[Qfl,QfL]
 |[],d::r,c,h,I=>by cases I
 | k :: ks,d :: r,c,h,I=>by
   have h1:=QiE F w d _ _ (h 0 d rfl);have h2:=Qmh F w ks r (λj=>c (j+1)) (λj d N=>h (j+1) d (by simpa using N)) (by simpa using I);have Z:=Qfo k;rw[Qfl,QfL,aC,dg,cp];omega
end
def Qk0(j:Nat):ByteArray:=if j=0 then ByteArray.empty else⟨#[44]⟩
theorem Qjd(w:World)(j:Nat):Calls prog 252 #[.int .i64 (j:Int)] w λe w'=>e=.returned (Qk0 j)/\w'=w:=by
 by_cases h:j=0
 ·subst h
  go_in;go_wp2_with fail;go_ret;exact⟨rfl,rfl⟩
 have N:((j:Int)==0)=false:=by simp;omega
 have I:Qk0 j=⟨#[44]⟩:=eE h;rw[I];clear I h;go_in;go_wp2_with fail;go_ret;exact⟨rfl,rfl⟩
theorem Qih(j:Nat):(Qk0 j).size=j -(j-1):=by
 unfold Qk0;by_cases h:j=0
 .subst h;rfl
 rw[eE h];show 1=_;omega
def Qsv(B:Nat)(a b:Value)(n:Nat)(d:Val)(w:World)(e:Ending)(w':World):Prop:=
 (∃r,e=.returned r)/\Blk w' B 275 (wrC a b (n+QgI d))/\Sb (λc=>c=B) w w'
def Qvg(P:Val->Prop):Prop:=∀(d:Val),P d->QcI d<=1100000->∀(w:World) (F:Nat->Prop) (V B:Nat) (sl so:Sl) (a b:Value) (n:Nat),Blk w V 34 (QtS d sl so)->RV w F d sl so->(∀i,F i->i<w.heap.size/\i≠B)->V≠B->Blk w B 275 (wrC a b n)->n+QgI d<=9000000->Qb4 w->6<=B->
 Calls prog (fnO d.kind) (#[.pointer (some ⟨B,0,none⟩)]++bsO d.kind V) w (Qsv B a b n d w)
theorem Qfd(k:Int):∀args w,(callFunc (fnO k) args).run prog w=.ok (.enter (fnO k) args) w:=by
 unfold fnO;split
 .exact ff func244 kM rfl
 split
 .exact ff func247 kM rfl
 split
 .exact ff func249 kM rfl
 split
 .exact ff func251 kM rfl
 split
 .exact ff func253 kM rfl
 exact ff func255 kM rfl
variable{F:Nat->Prop}{sl so:Sl}{n:Nat}
theorem Qr1{P:Val->Prop}(hI:Qvg P){bo:Bool}{i:Int}{t:ByteArray}{l:List Val}{ok:List ByteArray}{ov:List Val}{a b:Value} 
  (hP:∀(j:Nat) (d:Val),l[j]? = some d->P d) (hc:QdR l<=1100000)
  (hV:Blk w V 34 #[.int .i64 5,.bool bo,.int .i64 i,.string t,.slice sl.a l.length sl.c,.slice so.a ok.length so.c]) (h:RV w F (.mk 5 bo i t l ok ov) sl so) (hF:∀i,F i->i<w.heap.size/\i≠B) (d7:V≠B) (hB:Blk w B 275 (wrC a b n)) (hn:n+(2+QfC l+(l.length-1))<=9000000) (hL:Qb4 w) (h6:6<=B) :
  Calls prog 251 #[.pointer (some B),.pointer (some V)] w λe w'=>(∃r,e=.returned r)/\Blk w' B 275 (wrC a b (n+(2+QfC l+(l.length-1))))/\Sb (λc=>c=B) w w':=by
 cases h with
 |mk bl fl bo' fo cl co hl ho hov el rl ek eo ro bk bi bt nl no=>
 have d0:=Qcq (w:=w) ⟨#[91]⟩ hB (by show n+1<=_;omega);have b7:=λW j=>Qjd W j
 obtain⟨c4,e2,HV,HF,e8,f3,a6⟩:=Yh d0 b7 hV hF el rl hl;obtain⟨f5,HI,HP,HC,HN⟩:=Yf hL hI hP hc hn;have g6:=hV.lt;have f9:=hB.lt;have g3:l.length<=2000000000000:=oM
 clear d0 b7 hV hB hF el rl ek eo ro hl ho hov hL hI hP hc hn bk bi bt nl no;go_in;go_wp2_with fail;refine c4.o.mono ?_;rintro e w1 ⟨⟨r,rfl⟩,b5,a8⟩;obtain⟨q0,q1,q2,q3,q4,q5⟩:=(a8.blk HV.o d7).c6;obtain⟨e3,f4⟩:=Yb b5 a8;clear b5 a8 c4;go_wp2_with fail;go_loopw[11] (λq wr=>∃(j:Nat),q=.int .i64 j/\j<=l.length/\Blk wr B 275 (wrC a b (n+1+(QfC (l.take j)+(j-1))))/\Sb (λc=>c=B) w wr) (λq _=>l.length -(intOf q).toNat)
 case atStart=>exact⟨0,rfl,aA _,e3.o,f4.o⟩
 obtain⟨j,rfl,hj,hb,hs⟩:=hrel;by_cases h1:j<l.length
 ·have g1:(j:Int)<(l.length:Int):=oM
  have g0:decide ((j:Int)<(l.length:Int))=true:=eI g1;obtain⟨d,hd⟩:∃d,l[j]? = some d:=⟨_,ac h1⟩;obtain⟨c7,f2,e1⟩:=a6.o.eq oM;have d6:=HF.o bl (a6.o.fits oM);have b6:Agree F w wr:=λx hx=>hs.block x (HF.o x hx).1 (HF.o x hx).2
  have e4:=a6.o.fits (show 0<l.length by omega);obtain⟨sa,sc⟩:=sl;dsimp only at c7 f2 e1;subst c7;obtain⟨v0,v1,v2,v3,v4,v5⟩:=(e8.o j d hd).agree b6 e4;have lb:bl<wr:=ab d6.1 hs.size;have hcut:=QrE l (j+1);have c9:=QjX hd;have a3:=Qih j;have N:n+1+(QfC (l.take j)+(j-1))+(Qk0 j).size+QgI d<=9000000:=by have:=HN.o;omega
  have c1:QcI d<=1100000:=ak (QoO hd) HC.o;obtain⟨HD,HB,HS,b4,f6,e6,e0⟩:=Yh hd hb hs N c9 a3 c1;have e7:=hY (HP.o j d hd);have g5:=Qfd d.kind;clear hb hs b6 d6 hcut c9 a3 N c1 hd;go_wp2_with fail;refine(e2.o _ j).mono ?_;rintro e w2 ⟨rfl,a5⟩;have b3:Ext wr w2:=by rw[a5];exact(gh wr).alloc _ _
  have c8:Blk w2 wr.heap.size 34 (QtS d (cl j).1 (cl j).2):=by rw[a5];exact gm wr 34 _
  clear a5;have b9:=Qcq (w:=w2) (Qk0 j) (HB.o.ext b3) (by have:=b4.o;omega);obtain⟨c3,f1,f7⟩:=Yc b9 c8 (HS.o.ext b3);have g4:=HB.o.lt;clear b3 c8 b9;go_wp2_with fail;refine c3.o.mono ?_;rintro e w3 ⟨⟨r2,rfl⟩,a1,I⟩;have c2:=I.blk f1.o oM;obtain⟨u0,u1,u2,u3,u4,u5⟩:=c2.c6;obtain⟨a2,a7⟩:=Yb a1 (f7.o.trans I);clear a1 I c2 c3 v0 v1 v2 v3 v4 v5;go_wp2_with fail;refine(Qlm _ d (cl j).1 (cl j).2).mono ?_;rintro e w4 ⟨rfl,a9,d3⟩;have Z:=a7.o.ext a9;have a4:Agree F w w4:=λx hx=>Z.block x (HF.o x hx).1 (HF.o x hx).2
  have a0:=HI.o d e7.o e0.o w4 F w3.heap.size B (cl j).1 (cl j).2 a b (n+1+(QfC (l.take j)+(j-1))+(Qk0 j).size) d3 ((f3.o j d HD.o).agree a4) (λi hi=>⟨Nat.lt_of_lt_of_le (HF.o i hi).1 Z.size,(HF.o i hi).2⟩) (by have:=a2.o.lt;omega) (a2.o.ext a9) b4.o
   (f5.o.sb Z λc hc e=>by have e:c=B:=e;omega) h6
  obtain⟨b0,d8⟩:=Yb a0 Z;clear a9 d3 Z a4 a0 u0 u1 u2 u3 u4 u5;go_wp2_with fail;refine b0.o.mono ?_;rintro e w5 ⟨⟨r3,rfl⟩,b8,c0⟩;obtain⟨f8,f0⟩:=Yb b8 (d8.o.trans c0);clear b8 c0;go_wp2_with fail;go_roundw
  case rel=>exact⟨j+1,by go_num,h1,by rw[show n+1+(QfC (l.take (j+1))+(j+1-1))=n+1+(QfC (l.take j)+(j-1))+(Qk0 j).size+QgI d by rw[f6.o,e6.o];omega];exact f8.o,f0.o⟩
  simp[intOf];omega
 obtain rfl:j=l.length:=oM
 rw[aR]at hb;have d4:=Qcq (w:=wr) ⟨#[93]⟩ hb (by have:=HN.o;show _+1<=_;omega);obtain⟨d5,HS⟩:=Yb d4 hs;have g1:decide ((l.length:Int)<(l.length:Int))=false:=eG oM;clear d4 hb hs;go_wp2_with fail;refine d5.o.mono ?_;rintro e w3 ⟨⟨r2,rfl⟩,a1,I⟩;obtain⟨a2,a7⟩:=Yb a1 (HS.o.trans I);clear a1 I d5;go_wp2_with fail;go_end0;exact⟨⟨_,rfl⟩,by rw[show n+(2+QfC l+(l.length-1))=n+1+(QfC l+(l.length-1))+1 by omega];exact a2.o,a7.o⟩
attribute [local go_sem] Oper.semAt_some
theorem QrR(w:World)(a:Option Addr)(n c:Nat):Calls prog 254 #[.slice a n c] w λe w'=>e=.returned (.func (.func 264) #[] #[.pointer (some w)])/\Ext w w'/\Blk w' w.heap.size 32 #[.slice a n c]:=by
 go_in;go_wp2_with fail;go_ret;exact⟨rfl,(gh w).alloc _ _,gm w _ _⟩
structure ME where
 t:ByteArray
 d:Val
 V:Nat
 sl:Sl
 so:Sl
abbrev QvF(x:ME):Array Value:=#[.string x.t,.func (.func (fnO x.d.kind)) #[] (bsO x.d.kind x.V)]
def Qt2(ok:List ByteArray)(xs:List ME):Prop:=xs.length=ok.length
structure MG(F:Nat->Prop)(ok:List ByteArray)(ov:List Val)(pre:List ME)(x:ME)(W0 W1:World):Prop where
 ex:∃k,ok[pre.length]? = some k/\ov[pre.length]? = some x.d/\x.t=Qk0 pre.length++Qbf k
 blk:Blk W1 x.V 34 (QtS x.d x.sl x.so)
 val:RV W1 F x.d x.sl x.so
 new:W0.heap.size<=x.V
structure MS(J:List ME->World->Prop)(K:Nat->Prop)(W:World)(j:Nat)(pre:List ME)(Wj wr:World):Prop where
 inv:J pre Wj
 nw:Nw Wj wr
 len:pre.length=j
 ag:Agree K W wr
 sz:W.heap.size<=wr.heap.size
structure MOk(w:World)(F:Nat->Prop)(so:Sl)(ok:List ByteArray)(ov:List Val):Prop where
 ex:∃(bo fo:Nat) (co:Nat->Sl × Sl),Qd5 F so ok.length bo fo/\RO w F bo fo ok ov co
 len:ov.length=ok.length
 few:∀k∈ok,k.size<=10000000
variable{w':World}
theorem MOk.agree{ok:List ByteArray}{ov:List Val}(h:MOk w F so ok ov)(ha:Agree F w w'):MOk w' F so ok ov:=by
 obtain⟨⟨Z,fo,co,h1,h2⟩,I,N⟩:=h;exact⟨⟨Z,fo,co,h1,h2.agree ha I (λh=>h1.fits h)⟩,I,N⟩
variable{j:Nat}
theorem MOk.at{ok:List ByteArray}{ov:List Val}(h:MOk w F so ok ov)(hj:j<ok.length) :
  ∃(b o:Nat) (k:ByteArray) (d:Val) (I N:Sl),so.a=some ⟨b,o,none⟩/\F b/\ok.length<=so.c/\so.c<=maxLen/\ok[j]? = some k/\ov[j]? = some d/\w.cell? ⟨b,o+j*7,none⟩=some (.string k)/\QaV w b (o+j*7+1) d I N/\RV w F d I N/\k.size<=10000000:=by
 obtain⟨⟨b,o,co,h1,h2⟩,h3,h4⟩:=h;obtain⟨e1,e2,e3⟩:=h1.eq oM;have Z:=ac hj;have hd:=ac (l:=ov) (i:=j) oM;exact⟨b,o,_,_,_,_,e1,h1.fits oM,e2,e3,Z,hd,(h2.keys j _ Z).1,h2.cells j _ hd,h2.reads j _ hd,h4 _ (am Z)⟩
theorem Qvt{J:List ME->World->Prop}{F K:Nat->Prop}{ok:List ByteArray}{ov:List Val}{W Wj wr I w5:World}{pre:List ME}{k:ByteArray}{d:Val}(h:MS J K W j pre Wj wr)(N:ok[j]? = some k/\ov[j]? = some d)(hb:Blk w5 I.heap.size 34 (QtS d sl so))(Z:RV wr F d sl so)(hn:Nw wr w5)(hF:∀b,F b->b<wr.heap.size)(hz:wr.heap.size<=I.heap.size) :
  MG F ok ov pre ⟨Qk0 j++Qbf k,d,I.heap.size,sl,so⟩ Wj w5:=
 ⟨⟨k,by rw[h.len];exact N.1,by rw[h.len];exact N.2,by rw[h.len]⟩,hb,Z.agree (hn.agree hF),ak h.nw.size hz⟩
def QvN(J Jx:List ME->World->Prop)(K:Nat->Prop)(W:World)(j:Nat)(xs:List ME)(bb:Bool)(w':World):Prop:=(bb=true/\MS J K W (j+1) xs w' w')\/(bb=false/\Jx xs w')
theorem Qtv{J Jx:List ME->World->Prop}{K:Nat->Prop}{W Wj wr w5:World}{pre:List ME}{x:ME}(h:MS J K W j pre Wj wr)(k:Nw wr w5)(Z:∀b,K b->b<W.heap.size)(e:Ending)(w':World)
  (N:(e=.returned true/\J (pre++[x]) w'/\Agree K w5 w'/\w5.heap.size<=w'.heap.size)\/(e=.returned false/\Jx (pre++[x]) w')):∃I:Bool,e=.returned I/\Yd (QvN J Jx K W j (pre++[x]) I w'):=by
 rcases N with⟨rfl,h1,h2,h3⟩ |⟨rfl,h1⟩
 .exact ⟨true,rfl,hY (.inl ⟨rfl,h1,gu _ _,by simp[h.len],(h.ag.trans (k.agree λb hb=>ab (Z b hb) h.sz)).trans h2,ak (ak h.sz k.size) h3⟩)⟩
 exact⟨false,rfl,hY (.inr ⟨rfl,h1⟩)⟩
variable{w0:World}
theorem QrS{N:Nat}{ok:List ByteArray}{ov:List Val}(hB:Blk w0 N 32 #[.slice so.a ok.length so.c])(hM:MOk w0 F so ok ov)(hF:∀b,F b->b<w0.heap.size)(hL:Qb4 w0)(hn:ok.length<=100000000) :
  Qve prog 264 #[.pointer (some N)] QvF (λb=>F b\/b=N\/b<6) (MG F ok ov) (Qt2 ok) (λ_=>True) w0:=by
 intro l J Jx W b9 hA f0 hJ;have h6:=hL.lib.big;have e8:=hB.lt;have c3:∀b,(F b\/b=N\/b<6)->b<W.heap.size:=λb hb=>by
  rcases hb with hb|rfl|hb
  .have:=hF b hb;omega
  .omega
  omega
 have b0:∀W1,Agree (λb=>F b\/b=N\/b<6) W W1->W.heap.size<=W1.heap.size->Blk W1 N 32 #[.slice so.a ok.length so.c]/\MOk W1 F so ok ov/\Qb4 W1:=λW1 hW hz=>by
  have ha:Agree (λb=>F b\/b=N\/b<6) w0 W1:=hA.trans hW;refine⟨(ha N (.inr (.inl rfl))).trans hB,hM.agree (ha.mono λb hb=>.inl hb),?_⟩;have hg:G5 w0 W1:=λb hb=>ha b (.inr (.inr hb))
  exact⟨⟨oM,λW2 I=>hL.lib.fmt W2 (hg.trans I),λW2 I=>hL.lib.val W2 (hg.trans I)⟩,λW2 I=>hL.dec W2 (hg.trans I),λW2 I=>hL.num W2 (hg.trans I)⟩
 obtain⟨e4,d4,HJ,a9⟩:=Ye b9 b0 hJ c3;have f2:(ok.length:Int)<=100000000:=oM
 have c0:W.cell? N=some (.slice so.a ok.length so.c):=(b0 W (Agree.refl _) (ao _)).1.cell 0;have lB:N<W.heap.size:=oM
 clear b9 hA hJ hB b0 hL h6 e8 f0 c3 hM hF;show Calls _ _ #[.func (.yield l) #[] #[],.pointer (some N)] W _;refine(eL (n:=5)).1 ?_;refine fK func264 rfl trivial ?_ rfl;simp only[ntmps264,zL,Nat.reduceAdd,Nat.reduceSub];gi_wp2_with fail;clear c0;gi_loopw [7] (λv wr=>∃(j:Nat) (pre:List ME) (Wj:World),v=.int .i64 (j:Int)/\j<=ok.length/\Yd (MS J (λb=>F b\/b=N\/b<6) W j pre Wj wr)) (λv _=>ok.length -(intOf v).toNat)
 case atStart=>exact⟨0,[],W,rfl,aA _,hY ⟨HJ.o,gu _ _,rfl,Agree.refl _,ao _⟩⟩
 obtain⟨j,pre,Wj,rfl,hj,Z⟩:=hrel;obtain⟨-,hm,a8⟩:=d4.o wr Z.o.ag Z.o.sz;by_cases c4:j<ok.length
 ·obtain ⟨bo,fo,k,d,a1,a0,c8,d8,e0,d6,hk,hd,kc,b4,c6,d0⟩:=hm.at c4
  have f3:bo<wr:=ab (a9.o bo (.inl d8)) Z.o.sz;obtain⟨sa,sc⟩:=so;dsimp only at c8 e0 d6;subst c8;obtain⟨v0,v1,v2,v3,v4,v5⟩:=b4.m;have g1:(j:Int)<(ok.length:Int):=oM
  have f4:decide ((j:Int)<(ok.length:Int))=true:=eI g1;obtain⟨d7,e6,e3,HK,d3⟩:=Yf (λ(b:Nat) (hb:F b)=>ab (a9.o b (.inl hb)) Z.o.sz) a8 c6 (And.intro hk hd) d0;clear hm a8 b4 c6 hk hd d0;gi_wp2_with fail;generalize a7:wr.alloc _=W3;have a6:Ext wr W3:=by rw[<-a7];exact(gh wr).alloc _ _
  have a4:Blk W3 wr.heap.size 124 #[.string k,.int .i64 d.kind,.bool d.b,.int .i64 d.i,.string d.t,.slice a1.a d.l.length a1.c,.slice a0.a d.ok.length a0.c]:=by rw[<-a7];exact gm wr _ _
  obtain⟨q0,q1,q2,q3,q4,q5,q6⟩:=a4.c7;have lq:=a4.lt;have hq:Calls prog 250 #[k] W3.drew λe w'=>e=.returned (Qbf k)/\Nw W3.drew w':=Qkj (e6.o.nw (gj (a6.drew))) d3.o
  have e1:=Qih j;have d5:=Qfo k;have c9:=d3.o;have c2:∀W:World,(Op.stringOp .add (Qk0 j) (Qbf k)).run prog W=.ok (.string (Qk0 j++Qbf k)) W:=λW=>run_string_add_sum (w:=W) _ _ oM
  clear e1 d5 c9;obtain⟨HQ,a5,b7⟩:=Yc hq a4 a6;clear a7 hq a4 a6 v0 v1 v2 v3 v4 v5 kc;gi_region_with (first
   |(refine⟨trivial,?_⟩;refine(eL.2 (Qjd _ j)).mono ?_;rintro e w4 ⟨rfl,rfl⟩)
   |(refine⟨trivial,?_⟩;refine(eL.2 HQ.o).mono ?_;rintro e w4 ⟨rfl,a2⟩;have c1:=hY a2;obtain⟨p0,p1,p2,p3,p4,p5,p6⟩:=(a2.blk (show Blk W3.drew _ _ _ from a5.o)).c7;have lp:=(a2.blk (show Blk W3.drew _ _ _ from a5.o)).lt;clear a2)
   |(refine⟨trivial,?_⟩;refine(eL.2 (Qlm _ d a1 a0)).mono ?_;rintro e w5 ⟨rfl,b8,b6⟩;have a3:=((gj b7.o.drew).trans c1.o).trans (gj b8);have hy:=e4.o pre ⟨Qk0 j++Qbf k,d,w4.heap.size,a1,a0⟩ Wj w5 Z.o.inv (Z.o.nw.trans a3) (Qvt Z.o HK.o b6 e3.o a3 d7.o (ak b7.o.size c1.o.size));have HH:=hY (Qtv (Jx:=Jx) (x:=⟨Qk0 j++Qbf k,d,w4.heap.size,a1,a0⟩) Z.o a3 a9.o);obtain⟨fn,f1,assign,body,hy,hR⟩:=hy;have HR:=hY hR;dsimp only[QvF]at hy;clear hR b8 b6 a3)
   |(refine HR.o.mono ?_;intro e w6 h6;obtain⟨bb,rfl,H7⟩:=HH.o e w6 h6;clear h6))
  all_goals
   clear p0 p1 p2 p3 p4 p5 p6 q0 q1 q2 q3 q4 q5 q6 c2 HQ a5 hy HR HH;rcases H7.o with⟨rfl,b5⟩ |⟨rfl,b3⟩
   ·have e7:=hY b5
    clear b5 H7;gi_wp2_with fail;go_roundw
    case rel=>exact⟨j+1,_,w6,by go_num,c4,e7⟩
    simp[intOf];omega
   have e2:=hY b3;clear b3 H7;gi_wp2_with fail;refine eN (v:=.tuple #[]) (by simp[results,results264,go_sem]) rfl ?_;exact⟨⟨_,rfl⟩,.inr ⟨_,w6,trivial,e2.o,gu _ _⟩⟩
 obtain rfl:j=ok.length:=oM
 have g1:decide ((ok.length:Int)<(ok.length:Int))=false:=eG oM;have HE:=hY (show Qt2 ok pre from Z.o.len);clear hm a8;gi_wp2_with fail;go_end0;exact⟨⟨_,rfl⟩,.inl ⟨pre,Wj,HE.o,Z.o.inv,Z.o.nw⟩⟩
end Go.Proofs.YtdiecmkpbadgjaaGreatDoor
