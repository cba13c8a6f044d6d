/- Steps to the theorem. -/
import Derived.Shelf.SlIter.Nil
import Derived.Shelf.SortM.Plain
import Derived.Shelf.SortM.SortNone
import Derived.Shelf.Strconv.Itoa4
import Derived.Shelf.Unicode.ValidAny
import Derived.Shelf.Small.Wraps
import Derived.Lib.LaidU8
import Derived.Lib.ItoaLen
import Derived.Test.YtahhllcdbjbpbaaGreatDoorRows
import Derived.Shelf.Unicode.DecodeLastEight
import Derived.Shelf.Strings.MapAny
import Derived.Maps.OwnIn
import Derived.Test.YtahhllcdbjbpbaaGreatDoorPqd
set_option linter.all false
set_option maxRecDepth 100000
set_option maxHeartbeats 4000000
namespace Go.Proofs.YtahhllcdbjbpbaaGreatDoor
open Go.Proofs.Tryz
open Go.RowKit Go.Maps Go.Sort Go.Shelf
def Tryz.Nx:Go.Shelf.Ren:=⟨λ| 7=>102|10=>142|n=>n,λ| 23=>155|26=>9|3=>166|28=>163|0=>0|27=>162|33=>124|4=>4|n=>n,λ| n=>n⟩
def Tryz.OZ:Go.Proofs.SlLaysZ.n7 prog Tryz.Nx:={
 mixed:=by kernel_rfl
 f7:=⟨Tryz.f102.name,oN,func102.trans (congrArg some kM)⟩
 f10:=⟨Tryz.f142.name,oN,func142.trans (congrArg some kM)⟩
 t0:=underlying0
 a0:=isAgg0
 z0:=sizeOf0
 v0:=zeroValue0
 t4:=underlying4
 a4:=isAgg4
 z4:=sizeOf4
 v4:=zeroValue4
 t23:=underlying155
 a23:=isAgg155
 z23:=sizeOf155
 v23:=zeroValue155
 t26:=underlying9
 a26:=isAgg9
 z26:=sizeOf9
 v26:=zeroValue9
 t27:=underlying162
 a27:=isAgg162
 z27:=sizeOf162
 v27:=zeroValue162
 t28:=underlying163
 a28:=isAgg163
 z28:=sizeOf163
 v28:=zeroValue163
 t33:=underlying124
 a33:=isAgg124
 z33:=sizeOf124
 v33:=zeroValue124 }
def Tryz.Sd:Go.Shelf.Ren:=⟨λ| 6=>101|8=>140|9=>141|11=>167|13=>169|12=>168|23=>202|24=>203|14=>193|15=>194|16=>195|17=>196|18=>197|19=>198|20=>199|21=>200|22=>201|25=>221|26=>222|27=>223|28=>224|29=>225|30=>226|31=>245|n=>n,λ| 26=>9|28=>163|24=>160|0=>0|3=>3|37=>181|48=>254|50=>24|4=>4|40=>248|39=>247|45=>108|5=>5|9=>9|51=>273|55=>277|57=>290|58=>184|33=>124|n=>n,λ| n=>n⟩
def Tryz.U8:Go.Proofs.SlLaysZ.n6 prog Tryz.Sd:={
 mixed:=by kernel_rfl
 f6:=⟨Tryz.f101.name,oN,func101.trans (congrArg some kM)⟩
 f8:=⟨Tryz.f140.name,oN,func140.trans (congrArg some kM)⟩
 f11:=⟨Tryz.f167.name,oN,func167.trans (congrArg some kM)⟩
 t0:=underlying0
 a0:=isAgg0
 z0:=sizeOf0
 v0:=zeroValue0
 t24:=underlying160
 a24:=isAgg160
 z24:=sizeOf160
 v24:=zeroValue160
 t26:=underlying9
 a26:=isAgg9
 z26:=sizeOf9
 v26:=zeroValue9
 t28:=underlying163
 a28:=isAgg163
 z28:=sizeOf163
 v28:=zeroValue163
 i26:=by kernel_rfl }
def Tryz.nC:Go.Shelf.Ren:=⟨λ| 6=>141|8=>169|9=>168|19=>202|20=>203|21=>193|22=>194|23=>195|24=>196|25=>197|26=>198|27=>199|28=>200|29=>201|36=>221|31=>222|32=>223|37=>224|38=>225|39=>226|41=>245|n=>n,λ| 27=>160|29=>9|3=>3|32=>181|26=>160|0=>0|44=>254|46=>24|4=>4|36=>248|35=>247|41=>108|5=>5|9=>9|53=>273|57=>277|63=>290|64=>184|n=>n,λ| n=>n⟩
def Tryz.LH:Go.Proofs.SlLaysM.n6 prog Tryz.nC:={
 mixed:=by kernel_rfl
 f6:=⟨Tryz.f141.name,oN,func141.trans (congrArg some kM)⟩
 f8:=func169.trans (congrArg some kM)
 f9:=⟨Tryz.f168.name,oN,func168.trans (congrArg some kM)⟩
 f19:=func202.trans (congrArg some kM)
 f20:=func203.trans (congrArg some kM)
 f21:=⟨Tryz.f193.name,oN,func193.trans (congrArg some kM)⟩
 f22:=⟨Tryz.f194.name,oN,func194.trans (congrArg some kM)⟩
 f23:=⟨Tryz.f195.name,oN,func195.trans (congrArg some kM)⟩
 f24:=⟨Tryz.f196.name,oN,func196.trans (congrArg some kM)⟩
 f25:=⟨Tryz.f197.name,oN,func197.trans (congrArg some kM)⟩
 f26:=⟨Tryz.f198.name,oN,func198.trans (congrArg some kM)⟩
 f27:=⟨Tryz.f199.name,oN,func199.trans (congrArg some kM)⟩
 f28:=⟨Tryz.f200.name,oN,func200.trans (congrArg some kM)⟩
 f29:=⟨Tryz.f201.name,oN,func201.trans (congrArg some kM)⟩
 f31:=func222.trans (congrArg some kM)
 f32:=func223.trans (congrArg some kM)
 f36:=⟨Tryz.f221.name,oN,func221.trans (congrArg some kM)⟩
 f37:=⟨Tryz.f224.name,oN,func224.trans (congrArg some kM)⟩
 f38:=⟨Tryz.f225.name,oN,func225.trans (congrArg some kM)⟩
 f39:=⟨Tryz.f226.name,oN,func226.trans (congrArg some kM)⟩
 f41:=⟨Tryz.f245.name,oN,func245.trans (congrArg some kM)⟩
 t0:=underlying0
 a0:=isAgg0
 z0:=sizeOf0
 v0:=zeroValue0
 t3:=underlying3
 a3:=isAgg3
 z3:=sizeOf3
 v3:=zeroValue3
 t4:=underlying4
 a4:=isAgg4
 z4:=sizeOf4
 v4:=zeroValue4
 t5:=underlying5
 a5:=isAgg5
 z5:=sizeOf5
 v5:=zeroValue5
 t9:=underlying9
 a9:=isAgg9
 z9:=sizeOf9
 v9:=zeroValue9
 t26:=underlying160
 a26:=isAgg160
 z26:=sizeOf160
 v26:=zeroValue160
 t27:=underlying160
 a27:=isAgg160
 z27:=sizeOf160
 v27:=zeroValue160
 t29:=underlying9
 a29:=isAgg9
 z29:=sizeOf9
 v29:=zeroValue9
 t32:=underlying181
 a32:=isAgg181
 z32:=sizeOf181
 v32:=zeroValue181
 t35:=underlying247
 a35:=isAgg247
 z35:=sizeOf247
 v35:=zeroValue247
 t36:=underlying248
 a36:=isAgg248
 z36:=sizeOf248
 v36:=zeroValue248
 t41:=underlying108
 a41:=isAgg108
 z41:=sizeOf108
 v41:=zeroValue108
 t44:=underlying254
 a44:=isAgg254
 z44:=sizeOf254
 v44:=zeroValue254
 t46:=underlying24
 a46:=isAgg24
 z46:=sizeOf24
 v46:=zeroValue24
 t53:=underlying273
 a53:=isAgg273
 z53:=sizeOf273
 v53:=zeroValue273
 t57:=underlying277
 a57:=isAgg277
 z57:=sizeOf277
 v57:=zeroValue277
 t63:=underlying290
 a63:=isAgg290
 z63:=sizeOf290
 v63:=zeroValue290
 t64:=underlying184
 a64:=isAgg184
 z64:=sizeOf184
 v64:=zeroValue184 }
def Tryz.li:Go.Shelf.Ren:=⟨λ| 99=>192|206=>220|n=>n,λ| 9=>9|4=>4|3=>3|n=>n,λ| n=>n⟩
def Tryz.Y0:Go.Proofs.Lays.n99 prog Tryz.li:={
 mixed:=by kernel_rfl
 f99:=func192.trans (congrArg some kM)
 f206:=func220.trans (congrArg some kM)
 t3:=underlying3
 a3:=isAgg3
 z3:=sizeOf3
 v3:=zeroValue3
 t4:=underlying4
 a4:=isAgg4
 z4:=sizeOf4
 v4:=zeroValue4
 t9:=underlying9
 a9:=isAgg9
 z9:=sizeOf9
 v9:=zeroValue9 }
def Tryz.gZ:Go.Shelf.Ren:=⟨λ| 173=>235|246=>249|283=>255|284=>256|285=>257|286=>258|129=>203|317=>267|318=>268|319=>269|320=>270|337=>275|338=>276|n=>n,λ| 2=>2|3=>3|9=>9|4=>4|171=>303|0=>0|53=>24|37=>235|5=>5|173=>305|212=>320|51=>254|20=>20|213=>321|46=>181|232=>327|233=>328|n=>n,λ| 17=>3|18=>4|19=>5|n=>n⟩
def Tryz.Pu:Go.Proofs.LaysM.n173 prog Tryz.gZ:={
 mixed:=by kernel_rfl
 f129:=func203.trans (congrArg some kM)
 f173:=func235.trans (congrArg some kM)
 f246:=func249.trans (congrArg some kM)
 f283:=func255.trans (congrArg some kM)
 f284:=func256.trans (congrArg some kM)
 f285:=func257.trans (congrArg some kM)
 f286:=func258.trans (congrArg some kM)
 f317:=func267.trans (congrArg some kM)
 f318:=func268.trans (congrArg some kM)
 f319:=func269.trans (congrArg some kM)
 f320:=func270.trans (congrArg some kM)
 f337:=func275.trans (congrArg some kM)
 f338:=func276.trans (congrArg some kM)
 t0:=underlying0
 a0:=isAgg0
 z0:=sizeOf0
 v0:=zeroValue0
 t2:=underlying2
 a2:=isAgg2
 z2:=sizeOf2
 v2:=zeroValue2
 t3:=underlying3
 a3:=isAgg3
 z3:=sizeOf3
 v3:=zeroValue3
 t4:=underlying4
 a4:=isAgg4
 z4:=sizeOf4
 v4:=zeroValue4
 t5:=underlying5
 a5:=isAgg5
 z5:=sizeOf5
 v5:=zeroValue5
 t9:=underlying9
 a9:=isAgg9
 z9:=sizeOf9
 v9:=zeroValue9
 t20:=underlying20
 a20:=isAgg20
 z20:=sizeOf20
 v20:=zeroValue20
 t37:=underlying235
 a37:=isAgg235
 z37:=sizeOf235
 v37:=zeroValue235
 t46:=underlying181
 a46:=isAgg181
 z46:=sizeOf181
 v46:=zeroValue181
 t51:=underlying254
 a51:=isAgg254
 z51:=sizeOf254
 v51:=zeroValue254
 t53:=underlying24
 a53:=isAgg24
 z53:=sizeOf24
 v53:=zeroValue24
 t171:=underlying303
 a171:=isAgg303
 z171:=sizeOf303
 v171:=zeroValue303
 t173:=underlying305
 a173:=isAgg305
 z173:=sizeOf305
 v173:=zeroValue305
 t212:=underlying320
 a212:=isAgg320
 z212:=sizeOf320
 v212:=zeroValue320
 t213:=underlying321
 a213:=isAgg321
 z213:=sizeOf321
 t232:=underlying327
 a232:=isAgg327
 z232:=sizeOf327
 v232:=zeroValue327
 t233:=underlying328
 a233:=isAgg328
 z233:=sizeOf328
 v233:=zeroValue328
 g17:=by kernel_rfl
 g18:=by kernel_rfl
 g19:=by kernel_rfl
 i0:=by kernel_rfl
 i2:=by kernel_rfl
 i3:=by kernel_rfl
 i4:=by kernel_rfl
 i5:=by kernel_rfl
 i9:=by kernel_rfl
 i20:=by kernel_rfl
 i37:=by kernel_rfl
 i46:=by kernel_rfl
 i51:=by kernel_rfl
 i53:=by kernel_rfl
 i171:=by kernel_rfl
 i173:=by kernel_rfl
 i212:=by kernel_rfl
 i232:=by kernel_rfl
 i233:=by kernel_rfl
 m17:=by kernel_rfl
 m18:=by kernel_rfl
 m19:=by kernel_rfl }
def Tryz.ZK:Go.Shelf.Ren:=⟨λ| 196=>229|259=>246|n=>n,λ| 9=>9|4=>4|3=>3|5=>5|12=>12|119=>293|0=>0|46=>181|139=>296|138=>295|53=>24|n=>n,λ| 3=>1|4=>2|n=>n⟩
def Tryz.kv:Go.Proofs.Lays.n196 prog Tryz.ZK:={
 mixed:=by kernel_rfl
 f196:=func229.trans (congrArg some kM)
 f259:=func246.trans (congrArg some kM)
 t0:=underlying0
 a0:=isAgg0
 z0:=sizeOf0
 v0:=zeroValue0
 t3:=underlying3
 a3:=isAgg3
 z3:=sizeOf3
 v3:=zeroValue3
 t4:=underlying4
 a4:=isAgg4
 z4:=sizeOf4
 v4:=zeroValue4
 t5:=underlying5
 a5:=isAgg5
 z5:=sizeOf5
 v5:=zeroValue5
 t9:=underlying9
 a9:=isAgg9
 z9:=sizeOf9
 v9:=zeroValue9
 t12:=underlying12
 a12:=isAgg12
 z12:=sizeOf12
 v12:=zeroValue12
 t46:=underlying181
 a46:=isAgg181
 z46:=sizeOf181
 v46:=zeroValue181
 t53:=underlying24
 a53:=isAgg24
 z53:=sizeOf24
 v53:=zeroValue24
 t119:=underlying293
 a119:=isAgg293
 z119:=sizeOf293
 t138:=underlying295
 a138:=isAgg295
 z138:=sizeOf295
 v138:=zeroValue295
 t139:=underlying296
 a139:=isAgg296
 z139:=sizeOf296
 v139:=zeroValue296
 g3:=by kernel_rfl
 g4:=by kernel_rfl }
def Tryz.qK:Go.Shelf.Ren:=⟨λ| 121=>233|214=>248|n=>n,λ| 4=>4|9=>9|n=>n,λ| n=>n⟩
def Tryz.ZQ:Go.Proofs.Lays.n121 prog Tryz.qK:={
 mixed:=by kernel_rfl
 f121:=func233.trans (congrArg some kM)
 f214:=func248.trans (congrArg some kM)
 t4:=underlying4
 a4:=isAgg4
 z4:=sizeOf4
 v4:=zeroValue4
 t9:=underlying9
 a9:=isAgg9
 z9:=sizeOf9
 v9:=zeroValue9 }
def Tryz.Td(m:Nat):AnyZ.SortsIn prog Tryz.Sd Fence.wide m:=
 ⟨fun N a0 cap ss W hH I Z=>eR.2 (AnyM.slices_Sort_string Tryz.LH N a0 cap ss W hH I Z),
  λp cap W=>eR.2 (AnyM.slices_Sort_string_none Tryz.LH p cap W)⟩
def Tryz.PC(mb:Option Nat)(W:AB):CallsIn Fence.wide 5 prog 102 #[.map mb] W λe w'=>e=.returned (.func (.func 142) #[] #[.pointer (some W)])/\w'=W.alloc (.cells #[.map mb] 155):=
 AnyZ.keys_in Tryz.OZ Fence.wide 5 trivial rfl mb W
def Tryz.nx{H:Type}(b nn:Nat)(D0:DataW H)(R:Value->Option (DataW H × List MemPlace))(w:AB)(N:w.ownsMap prog 9 R b nn D0)(a0:Maps.size D0<=maxLen)(I:Maps.size D0*16<=140737488355328) :
  CallsIn Fence.wide 5 prog 101 #[.func (.func 142) #[] #[.pointer (some w)]] (w.alloc (.cells #[.map (some b)] 155)) λe w'=>∃(v:Value) (ss:List (List UInt8)),e=.returned v/\ss.Perm (strKeys D0)/\
   w'.ownsRow (w.alloc (.cells #[.map (some b)] 155)).heap.size 9 1 v ss.length ((ss.mergeSort (λx y=>decide (x<=y))).map encStr)/\(v=.slice none 0 0↔ss=[])/\Below (w.alloc (.cells #[.map (some b)] 155)).heap.size (w.alloc (.cells #[.map (some b)] 155)) w':=by
 have a2:=N.lt;have a1:SeqGives Fence.wide 2 prog 142 #[.pointer (some w)] encStr (λss=>ss.Perm (strKeys D0)) (Maps.size D0) (w.alloc (.cells #[.map (some b)] 155)):=
  AnyZ.keys_gives (ρ:=Tryz.Nx) { Tryz.OZ with } Fence.wide _ trivial rfl oM w.heap.size b nn D0 _ oO oO (by
   obtain⟨es,Z,hb,Ft,hs,hD⟩:=N;exact⟨es,Z,(fe _ _ b a2).trans hb,Ft,hs,hD⟩)
 exact AnyZ.sorted_in Tryz.U8 Fence.wide 5 trivial trivial trivial trivial rfl oM (Tryz.Td _) (fq func141 kM rfl) 142 #[.pointer (some w)] trivial (fq func142 kM rfl) _ _ a0 I _ a1
def Tryz.Y'(w:AB) :
  CallsIn Fence.wide 5 prog 101 #[.func (.func 142) #[] #[.pointer (some w)]] (w.alloc (.cells #[.map none] 155)) λe w'=>∃(v:Value) (ss:List (List UInt8)),e=.returned v/\ss=[]/\
   w'.ownsRow (w.alloc (.cells #[.map none] 155)).heap.size 9 1 v ss.length ((ss.mergeSort (λx y=>decide (x<=y))).map encStr)/\(v=.slice none 0 0↔ss=[])/\Below (w.alloc (.cells #[.map none] 155)).heap.size (w.alloc (.cells #[.map none] 155)) w':=by
 have I:SeqGives Fence.wide 2 prog 142 #[.pointer (some w)] encStr (λss:List (List UInt8)=>ss=[]) 0 (w.alloc (.cells #[.map none] 155)):=
  AnyZ.keys_gives_nil (ρ:=Tryz.Nx) { Tryz.OZ with } Fence.wide _ trivial rfl w.heap.size _ oO oO
 exact AnyZ.sorted_in Tryz.U8 Fence.wide 5 trivial trivial trivial trivial rfl oM (Tryz.Td _) (fq func141 kM rfl) 142 #[.pointer (some w)] trivial (fq func142 kM rfl) _ 0 (aw _) oM _ I
abbrev C2(n:Int):Val:=.mk 3 false n ByteArray.empty [] [] []
abbrev NF(n:Int):Value:=.agg #[.int .i64 3,.bool false,.int .i64 n,.string ByteArray.empty,.slice none 0 0,.slice none 0 0]
def CO(ks:List AA):Nat:=(ks.map ByteArray.size).sum
variable{ks:List AA}{j:Nat}
def ZH{k:AA}(h:ks[j]? = some k):CO (ks.take (j+1))=CO (ks.take j)+k.size:=by
 obtain⟨I,rfl⟩:=ai.1 h;unfold CO;rw[List.take_succ_eq_append_getElem I,aB,ec];simp
def jb(ks:List AA)(j:Nat):CO (ks.take j)<=CO ks:=by
 have:CO ks=CO (ks.take j)+CO (ks.drop j):=by unfold CO;rw[<-ec,<-aB,aX]
 omega
abbrev wrC(a b:Value)(n:Nat):Array Value:=#[.bool false,a,b,.int .i64 (n:Int)]
variable{w:AB}{B n:Nat}{F:Nat->Prop}{s:Sl}
def M5{a b:Value}(hB:AE w B 267 (wrC a b n))(hr:Rd w F 1 s ks.length (ks.map .string))(hF:∀i,F i->i<w.heap.size/\i≠B)(hn:n+CO ks<=100000000)(b0:ks.length<=1000000) :
  Calls prog 232 #[.pointer (some B),.slice s.a ks.length s.c] w λe w'=>(∃r,e=.returned r)/\AE w' B 267 (wrC a b (n+CO ks))/\St (λc=>c=B) w w':=by
 obtain⟨g,o,h1,-,h3⟩:=hr;obtain⟨H1,H3,HF,HB⟩:=Ye h1 h3 hF hB;clear h1 h3 hF hB;go_in;go_wp2_with fail;go_loopw[8] (λq wr=>∃j:Nat,q=.int .i64 (j:Int)/\j<=ks.length/\AE wr B 267 (wrC a b (n+CO (ks.take j)))/\St (λc=>c=B) w wr) (λq _=>ks.length -(intOf q).toNat)
 case atStart=>exact⟨0,rfl,aw _,by simpa[CO]using HB.o,gH _ _⟩
 obtain⟨j,rfl,a9,I,N⟩:=hrel;by_cases a1:j<ks.length
 ·have g1:decide ((j:Int)<(ks.length:Int))=true:=eO oM
  have b3:(j:Int)<(ks.length:Int):=oM
  obtain⟨k,hk⟩:∃k,ks[j]? = some k:=⟨_,ac a1⟩;obtain⟨e1,hc,a4⟩:=H1.o.eq oM;have lg:=HF.o g (H1.o.fits oM);obtain⟨sa,sc⟩:=s;dsimp only at e1 hc a4;subst e1;have c0:wr.cell? ⟨g,o+j,none⟩=some (.string k):=(N.cell lg.1 lg.2).trans (H3.o j _ (by rw[ar,hk];rfl));have c3:wr.cell? ⟨B,3,none⟩=some (.int .i64 ((n+CO (ks.take j):Nat):Int)):=I.cell 3;have ck:wr.cell? B=some (.bool false):=I.cell 0;have f3:=I.frozen 3;have lB:=I.lt;have a2:=ZH hk;have a5:=jb ks (j+1);obtain⟨m,hm⟩:∃m,n+CO (ks.take j)=m:=⟨_,rfl⟩;have a0:n+CO (ks.take (j+1))=m+k.size:=oM
  rw[hm]at c3 I;have g2:IntKind.i64.wrap ((m:Int)+(k.size:Int))=(m:Int)+(k.size:Int):=by rw[eS];omega
  obtain⟨a6,a7,a3⟩:=Yc I N a0;clear I N hk a2 a5 hm a0;go_wp2_with fail;have Z:St (λc=>c=B) wr (wr.setCell ⟨B,3,none⟩ (.int .i64 ((m:Int)+(k.size:Int)))):=(gH (λc=>c=B) wr).set (p:=⟨B,3,none⟩) (.inr rfl) _;have a8:=a6.o.AX 3 (.int .i64 ((m:Int)+(k.size:Int)));exact⟨⟨j+1,rfl,a1,by rw[a3.o];exact a8,a7.o.trans Z⟩,by show ks.length -((j:Int)+1).toNat<ks.length -(j:Int).toNat;omega⟩
 obtain rfl:j=ks.length:=oM
 have g1:decide ((ks.length:Int)<(ks.length:Int))=false:=eM oM;rw[aR]at I;go_wp2_with fail;go_end0;exact⟨⟨_,rfl⟩,I,N⟩
def S7(n:Int)(W:AB):Prop:=Calls prog 235 #[.int .i64 n,.int .i64 10] W λe w'=>∃s:AA,e=.returned (.string s)/\s.size<=21/\Nw W w'
def join_one{a b:Value}{m:Nat}(s:AA)(I:AE w B 267 (wrC a b m))(hm:m<=10000000)(hs:s.size<=1000) :
  Calls prog 232 #[.pointer (some B),.slice (some w) 1 1] (w.alloc (.cells #[s] 9)) λe w'=>(∃r,e=.returned r)/\AE w' B 267 (wrC a b (m+s.size))/\Sb (λc=>c=B) w w':=by
 have N:Ext w (w.alloc (.cells #[s] 9)):=(gz w).alloc _ _;have hl:=I.lt;have Z:=M5 (s:=⟨some w,1⟩) (ks:=[s]) (I.ext N) (gG (gB w 9 #[.string s]) oN rfl) (λi hi=>by subst hi;exact⟨oO,oM⟩) (by simp[CO];omega) oO;exact Z.mono λe w' ⟨h1,h2,h3⟩=>⟨h1,by simpa[CO]using h2,(Nw.any (gA N) _).trans h3.sb⟩
def G5(w W:AB):Prop:=∀b,b<6->W.heap[b]? = w.heap[b]?
def G5.refl(w:AB):G5 w w:=λ_ _=>rfl
def G5.trans{a b c:AB}(h:G5 a b)(k:G5 b c):G5 a c:=λi hi=>(k i hi).trans (h i hi)
variable{H:Nat->Prop}{w':AB}
def Sb.g5(h:Sb H w w')(Z:6<=w.heap.size)(N:∀b,b<6->¬H b):G5 w w':=λb I=>h.block b oM (N b I)
structure DD(w:AB):Prop where
 big:6<=w.heap.size
 fmt:∀W,G5 w W->∀n:Int,-9223372036854775808<=n->n<=9223372036854775807->S7 n W
 val:∀W,G5 w W->∀s:AA,s.size<=maxLen->Calls prog 229 #[.string s] W λe w'=>e=.returned (.bool (Lib.validD s.data.toList))/\Nw W w'
def DD.sb(h:DD w)(k:Sb H w w')(N:∀b,b<6->¬H b):DD w':=
 ⟨Nat.le_trans h.big k.size,λW I=>h.fmt W ((k.g5 h.big N).trans I),λW I=>h.val W ((k.g5 h.big N).trans I)⟩
def DD.nw(h:DD w)(k:Nw w w'):DD w':=h.sb k λ_ _ e=>e
def AT(k:AA):Int:=if k.size=0 then 8 else if 64<k.size then 6 else if Lib.validD k.data.toList then 0 else 3
def Wd{k:AA}(I:AE w B 9 #[.string k]):Calls prog 214 #[.pointer (some B)] w λe w'=>e=.returned (.bool (decide (k.size=0)))/\w'=w:=by
 have c0:w.cell? B=some (.string k):=I.cell 0;have N:k.toList.isEmpty=decide (k.size=0):=by
  rw[eY];by_cases h:k.size=0
  ·have:k.data.toList=[]:=av (by rw [aQ];exact h)
   rw[this,eO h];rfl
  rw[eM h];cases Z:k.data.toList with
  |nil=>exact absurd (by have:=congrArg List.length Z;rw[aQ]at this;exact this) h
  |cons a l=>rfl
 have HK:=hY N;clear N;clear I;go_in;go_wp2_with fail;go_ret;exact⟨by rw[<-HK.o];rfl,rfl⟩
def Wg{k:AA}(I:AE w B 9 #[.string k]):Calls prog 215 #[.pointer (some B)] w λe w'=>e=.returned (.bool (decide (64<k.size)))/\w'=w:=by
 have N:w.cell? B=some (.string k):=I.cell 0;clear I;go_in;go_wp2_with fail;go_ret;exact⟨by rw[show decide (64<k.size)=decide ((64:Int)<(k.size:Int))from decide_eq_decide.2 oM];rfl,rfl⟩
def qH{k:AA}(N:AE w B 9 #[.string k])(hk:k.size<=maxLen)(Z:DD w):Calls prog 216 #[.pointer (some B)] w λe w'=>e=.returned (.bool (!Lib.validD k.data.toList))/\Nw w w':=by
 have c0:w.cell? B=some (.string k):=N.cell 0;have hu:∀W,G5 w W->Calls prog 211 #[k] W λe w'=>e=.returned (Lib.validD k.data.toList)/\Nw W w':=λW hW=>by
  have hv:=Z.val W hW k hk;have HV:=hY hv;clear hv Z N c0 hW;go_in;go_wp2_with fail;refine HV.o.mono ?_;rintro e w' ⟨rfl,I⟩;have HN:=hY I;clear I;go_wp2_with fail;go_ret;exact⟨rfl,HN.o⟩
 have HU:=hY (hu w (G5.refl w));clear N Z hu;go_in;go_wp2_with fail;refine HU.o.mono ?_;rintro e w' ⟨rfl,I⟩;have HN:=hY I;clear I;go_wp2_with fail;go_ret;exact⟨rfl,HN.o⟩
abbrev jn(B:Nat):Array Value:=#[.int .i64 8,.func (.func 214) #[] #[.pointer (some ⟨B,0,none⟩)],.int .i64 6,.func (.func 215) #[] #[.pointer (some ⟨B,0,none⟩)],.int .i64 3,.func (.func 216) #[] #[.pointer (some ⟨B,0,none⟩)]]
def XZ(w:AB)(k:AA):Calls prog 188 #[k] w λe w'=>e=.returned (.slice (some ⟨w+1,0,none⟩) 3 3)/\Ext w w'/\AE w' w.heap.size 9 #[.string k]/\∃t,AE w' (w.heap.size+1) t (jn w.heap.size):=by
 go_in;go_wp2_with fail;go_ret;generalize Z:World.alloc _ _=W0;obtain⟨I,a1,a0,N⟩:=CH w _ _ _ _ W0 Z;exact⟨rfl,I,a0,_,N⟩
def WA(P:Program)(w:AB)(a:Addr)(f:Fn)(I lb:Array Value)(m:Mode):(store a (.func f I lb) m).run P w=stored P w a (.func f I lb) m:=run_store P w a _ m rfl
attribute [local go_sem] WA
def Li{k:AA}(hk:k.size<=maxLen)(hL:DD w):Calls prog 161 #[k] w λe w'=>e=.returned (AT k)/\Nw w w':=by
 have hr:=λW=>XZ W k
 obtain⟨HR,HL⟩:=Yb hr hL;clear hr hL;go_in;go_wp2_with fail;refine(HR.o w).mono ?_;rintro e w1 ⟨rfl,a8,a6,t,I⟩;obtain⟨a7,b3,b0,a9⟩:=Ye a8 a6 I (HL.o.nw (gA a8));have l1:=I.lt;clear a8 a6 I HR;go_wp2_with fail;go_loopw[8] (λq wr=>∃j:Nat,q=.int .i64 (j:Int)/\j<=3/\(1<=j->k.size≠0)/\(2<=j->k.size<=64)/\(3<=j->Lib.validD k.data.toList=true)/\Nw w1 wr) (λq _=>3 -(intOf q).toNat)
 case atStart=>exact⟨0,rfl,oM,oM,oM,oM,gE _ _⟩
 obtain⟨j,rfl,hj,h1,h2,h3,hn⟩:=hrel;have a6:=hn.blk b3.o;have I:=gK hn b0.o;have c0:wr.cell? ⟨w+1,0,none⟩=some (.int .i64 8):=I.cell 0;have c1:wr.cell? ⟨w+1,1,none⟩=some (.func (.func 214) #[] #[.pointer (some w)]):=I.cell 1;have c2:wr.cell? ⟨w+1,2,none⟩=some (.int .i64 6):=I.cell 2;have c3:wr.cell? ⟨w+1,3,none⟩=some (.func (.func 215) #[] #[.pointer (some w)]):=I.cell 3;have c4:wr.cell? ⟨w+1,4,none⟩=some (.int .i64 3):=I.cell 4;have c5:wr.cell? ⟨w+1,5,none⟩=some (.func (.func 216) #[] #[.pointer (some w)]):=I.cell 5;obtain⟨HN,HB⟩:=Yb hn a6;clear a6 I hn;rcases(by omega:j=0\/j=1\/j=2\/j=3)with rfl|rfl|rfl|rfl
 ·go_wp2_with fail
  have N:=(gz wr).alloc #[.int .i64 8,.func (.func 214) #[] #[.pointer (some w)]] 239;have a3:=HB.o.ext N;have a2:=HN.o.trans (gA N);obtain⟨a5,a4⟩:=Yb a2 (gB wr 239 #[.int .i64 8,.func (.func 214) #[] #[.pointer (some w)]]);clear N a2 c0 c1 c2 c3 c4 c5;refine((Wd a3).mono λe w' h=>(show e=_/\Nw _ w' from⟨h.1,by rw[h.2];exact gE _ _⟩)).mono ?_;rintro e w4 ⟨rfl,Z⟩;have a0:=gK Z a4.o;have c0:w4.cell? wr=some (.int .i64 8):=a0.cell 0;have a1:=hY (a5.o.trans Z);clear Z a0 a3;by_cases hc:k.size=0
  ·have g0:decide (k.size=0)=true:=eO hc
   rw[g0];go_wp2_with fail;go_ret;exact⟨by rw[show AT k=8 by rw[AT,eN hc]]<;>rfl,(gA a7.o).trans a1.o⟩
  have g0:decide (k.size=0)=false:=eM hc;rw[g0];go_wp2_with fail;exact⟨⟨1,by go_num,oM,λ_=>hc,oM,oM,a1.o⟩,by simp[intOf]⟩
 ·go_wp2_with fail
  have N:=(gz wr).alloc #[.int .i64 6,.func (.func 215) #[] #[.pointer (some w)]] 239;have a3:=HB.o.ext N;have a2:=HN.o.trans (gA N);obtain⟨a5,a4⟩:=Yb a2 (gB wr 239 #[.int .i64 6,.func (.func 215) #[] #[.pointer (some w)]]);clear N a2 c0 c1 c2 c3 c4 c5;refine((Wg a3).mono λe w' h=>(show e=_/\Nw _ w' from⟨h.1,by rw[h.2];exact gE _ _⟩)).mono ?_;rintro e w4 ⟨rfl,Z⟩;have a0:=gK Z a4.o;have c0:w4.cell? wr=some (.int .i64 6):=a0.cell 0;have a1:=hY (a5.o.trans Z);clear Z a0 a3;by_cases hc:64<k.size
  ·have g0:decide (64<k.size)=true:=eO hc
   rw[g0];go_wp2_with fail;go_ret;exact⟨by rw[show AT k=6 by rw[AT,eL (h1 oM),eN hc]]<;>rfl,(gA a7.o).trans a1.o⟩
  have g0:decide (64<k.size)=false:=eM hc;rw[g0];go_wp2_with fail;exact⟨⟨2,by go_num,oM,λ_=>h1 oM,λ_=>oM,oM,a1.o⟩,by simp[intOf]⟩
 ·go_wp2_with fail
  have N:=(gz wr).alloc #[.int .i64 3,.func (.func 216) #[] #[.pointer (some w)]] 239;have a3:=HB.o.ext N;have a2:=HN.o.trans (gA N);obtain⟨a5,a4⟩:=Yb a2 (gB wr 239 #[.int .i64 3,.func (.func 216) #[] #[.pointer (some w)]]);clear N c0 c1 c2 c3 c4 c5;refine(qH a3 hk (a9.o.nw a2)).mono ?_;rintro e w4 ⟨rfl,Z⟩;have a0:=gK Z a4.o;have c0:w4.cell? wr=some (.int .i64 3):=a0.cell 0;have a1:=hY (a5.o.trans Z);clear Z a0 a3;by_cases hc:Lib.validD k.data.toList=false
  ·have g0:(!Lib.validD k.data.toList)=true:=by rw [hc];rfl
   rw[g0];go_wp2_with fail;go_ret;exact⟨by rw[show AT k=3 by rw[AT,eL (h1 oM),eL (by have:=h2 oM;omega),eL (by rw[hc];simp)]]<;>rfl,(gA a7.o).trans a1.o⟩
  have g0:(!Lib.validD k.data.toList)=false:=by rw[Bool.not_eq_false]at hc;rw[hc];rfl
  rw[g0];go_wp2_with fail;exact⟨⟨3,by go_num,oM,λ_=>h1 oM,λ_=>h2 oM,λ_=>by simpa using hc,a1.o⟩,by simp[intOf]⟩
 go_wp2_with fail;go_ret;exact⟨by rw[show AT k=0 by rw[AT,eL (h1 oM),eL (by have:=h2 oM;omega),eN (h3 oM)]];rfl,(gA a7.o).trans HN.o⟩
end Go.Proofs.YtahhllcdbjbpbaaGreatDoor
namespace Go.Proofs.YtahhllcdbjbpbaaGreatDoor
open Go.Proofs.Tryz
open Go.RowKit Go.Maps Go.Shelf
def Ad(k:Int)(b:Bool)(i:Int)(t:AA)(ln on:Nat):Bool:=
 if k<1\/6<k then true
 else(k != 2&&b) ||(k != 3&&i != 0) ||(k != 4&&t.size != 0) ||(k != 5&&ln != 0) ||(k != 6&&on != 0)
def Ll(v:Val):Bool:=Ad v.kind v.b v.i v.t v.l.length v.ok.length
def Dm{t:AA}(h:t.size=0):t.toList.isEmpty=true:=by
 rw[eY,List.isEmpty_iff];exact av (by rw[aQ];exact h)
def EG{t:AA}(h:¬t.size=0):t.toList.isEmpty=false:=by
 rw[Bool.eq_false_iff];intro e;rw[eY,List.isEmpty_iff]at e;have:=congrArg List.length e;rw[aQ]at this;exact h this
def ii(w:AB)(b:Bool)(i:Int)(t:AA)(Z N lc oc:Nat)(la oa:Option Addr) :
  Calls prog 230 #[.agg #[.int .i64 1,b,i,t,.slice la Z lc,.slice oa N oc]] w λe w'=>e=.returned (Ad 1 b i t Z N)/\Ext w w':=by
 by_cases hb:b=true
 ·subst hb
  go_in;go_wp2_with fail;go_ret;exact⟨by simp[Ad],(gz w).alloc _ _⟩
 obtain rfl:b=false:=by simpa using hb
 by_cases hi:i=0
 rotate_left
 ·have gi:(i != 0)=true:=by simp [hi]
  go_in;go_wp2_with fail;go_ret;exact⟨by simp[Ad,hi],(gz w).alloc _ _⟩
 subst hi;by_cases ht:t.size=0
 rotate_left
 ·have gt:=EG ht
  go_in;go_wp2_with fail;go_ret;exact⟨by simp[Ad,ht],(gz w).alloc _ _⟩
 have gt:=Dm ht;by_cases I:Z=0
 rotate_left
 ·have a0:(0:Int)<(Z:Int):=oM
  have a4:decide ((0:Int)<(Z:Int))=true:=eO a0;go_in;go_wp2_with fail;go_ret;exact⟨by simp[Ad,ht,I,(show 0<Z by omega)],(gz w).alloc _ _⟩
 have a0:decide ((0:Int)<(Z:Int))=false:=eM oM;by_cases a1:N=0
 rotate_left
 ·have a2:(0:Int)<(N:Int):=oM
  have a3:decide ((0:Int)<(N:Int))=true:=eO a2;go_in;go_wp2_with fail;go_ret;exact⟨by simp[Ad,ht,I,a1,(show 0<N by omega)],(gz w).alloc _ _⟩
 have a2:decide ((0:Int)<(N:Int))=false:=eM oM;go_in;go_wp2_with fail;go_ret;exact⟨by simp[Ad,ht,I,a1],(gz w).alloc _ _⟩
def WE(w:AB)(b:Bool)(i:Int)(t:AA)(Z N lc oc:Nat)(la oa:Option Addr) :
  Calls prog 230 #[.agg #[.int .i64 2,b,i,t,.slice la Z lc,.slice oa N oc]] w λe w'=>e=.returned (Ad 2 b i t Z N)/\Ext w w':=by
 by_cases hi:i=0
 rotate_left
 ·have gi:(i != 0)=true:=by simp [hi]
  go_in;go_wp2_with fail;go_ret;exact⟨by simp[Ad,hi],(gz w).alloc _ _⟩
 subst hi;by_cases ht:t.size=0
 rotate_left
 ·have gt:=EG ht
  go_in;go_wp2_with fail;go_ret;exact⟨by simp[Ad,ht],(gz w).alloc _ _⟩
 have gt:=Dm ht;by_cases I:Z=0
 rotate_left
 ·have a0:(0:Int)<(Z:Int):=oM
  have a4:decide ((0:Int)<(Z:Int))=true:=eO a0;go_in;go_wp2_with fail;go_ret;exact⟨by simp[Ad,ht,I,(show 0<Z by omega)],(gz w).alloc _ _⟩
 have a0:decide ((0:Int)<(Z:Int))=false:=eM oM;by_cases a1:N=0
 rotate_left
 ·have a2:(0:Int)<(N:Int):=oM
  have a3:decide ((0:Int)<(N:Int))=true:=eO a2;go_in;go_wp2_with fail;go_ret;exact⟨by simp[Ad,ht,I,a1,(show 0<N by omega)],(gz w).alloc _ _⟩
 have a2:decide ((0:Int)<(N:Int))=false:=eM oM;go_in;go_wp2_with fail;go_ret;exact⟨by simp[Ad,ht,I,a1],(gz w).alloc _ _⟩
def YS(w:AB)(b:Bool)(i:Int)(t:AA)(Z N lc oc:Nat)(la oa:Option Addr) :
  Calls prog 230 #[.agg #[.int .i64 3,b,i,t,.slice la Z lc,.slice oa N oc]] w λe w'=>e=.returned (Ad 3 b i t Z N)/\Ext w w':=by
 by_cases hb:b=true
 ·subst hb
  go_in;go_wp2_with fail;go_ret;exact⟨by simp[Ad],(gz w).alloc _ _⟩
 obtain rfl:b=false:=by simpa using hb
 by_cases ht:t.size=0
 rotate_left
 ·have gt:=EG ht
  go_in;go_wp2_with fail;go_ret;exact⟨by simp[Ad,ht],(gz w).alloc _ _⟩
 have gt:=Dm ht;by_cases I:Z=0
 rotate_left
 ·have a0:(0:Int)<(Z:Int):=oM
  have a4:decide ((0:Int)<(Z:Int))=true:=eO a0;go_in;go_wp2_with fail;go_ret;exact⟨by simp[Ad,ht,I,(show 0<Z by omega)],(gz w).alloc _ _⟩
 have a0:decide ((0:Int)<(Z:Int))=false:=eM oM;by_cases a1:N=0
 rotate_left
 ·have a2:(0:Int)<(N:Int):=oM
  have a3:decide ((0:Int)<(N:Int))=true:=eO a2;go_in;go_wp2_with fail;go_ret;exact⟨by simp[Ad,ht,I,a1,(show 0<N by omega)],(gz w).alloc _ _⟩
 have a2:decide ((0:Int)<(N:Int))=false:=eM oM;go_in;go_wp2_with fail;go_ret;exact⟨by simp[Ad,ht,I,a1],(gz w).alloc _ _⟩
def oH(w:AB)(b:Bool)(i:Int)(t:AA)(Z N lc oc:Nat)(la oa:Option Addr) :
  Calls prog 230 #[.agg #[.int .i64 4,b,i,t,.slice la Z lc,.slice oa N oc]] w λe w'=>e=.returned (Ad 4 b i t Z N)/\Ext w w':=by
 by_cases hb:b=true
 ·subst hb
  go_in;go_wp2_with fail;go_ret;exact⟨by simp[Ad],(gz w).alloc _ _⟩
 obtain rfl:b=false:=by simpa using hb
 by_cases hi:i=0
 rotate_left
 ·have gi:(i != 0)=true:=by simp [hi]
  go_in;go_wp2_with fail;go_ret;exact⟨by simp[Ad,hi],(gz w).alloc _ _⟩
 subst hi;by_cases I:Z=0
 rotate_left
 ·have a0:(0:Int)<(Z:Int):=oM
  have a4:decide ((0:Int)<(Z:Int))=true:=eO a0;go_in;go_wp2_with fail;go_ret;exact⟨by simp[Ad,I,(show 0<Z by omega)],(gz w).alloc _ _⟩
 have a0:decide ((0:Int)<(Z:Int))=false:=eM oM;by_cases a1:N=0
 rotate_left
 ·have a2:(0:Int)<(N:Int):=oM
  have a3:decide ((0:Int)<(N:Int))=true:=eO a2;go_in;go_wp2_with fail;go_ret;exact⟨by simp[Ad,I,a1,(show 0<N by omega)],(gz w).alloc _ _⟩
 have a2:decide ((0:Int)<(N:Int))=false:=eM oM;go_in;go_wp2_with fail;go_ret;exact⟨by simp[Ad,I,a1],(gz w).alloc _ _⟩
def Xv(w:AB)(b:Bool)(i:Int)(t:AA)(ln I lc oc:Nat)(la oa:Option Addr) :
  Calls prog 230 #[.agg #[.int .i64 5,b,i,t,.slice la ln lc,.slice oa I oc]] w λe w'=>e=.returned (Ad 5 b i t ln I)/\Ext w w':=by
 by_cases hb:b=true
 ·subst hb
  go_in;go_wp2_with fail;go_ret;exact⟨by simp[Ad],(gz w).alloc _ _⟩
 obtain rfl:b=false:=by simpa using hb
 by_cases hi:i=0
 rotate_left
 ·have gi:(i != 0)=true:=by simp [hi]
  go_in;go_wp2_with fail;go_ret;exact⟨by simp[Ad,hi],(gz w).alloc _ _⟩
 subst hi;by_cases N:t.size=0
 rotate_left
 ·have gt:=EG N
  go_in;go_wp2_with fail;go_ret;exact⟨by simp[Ad,N],(gz w).alloc _ _⟩
 have gt:=Dm N;by_cases Z:I=0
 rotate_left
 ·have a0:(0:Int)<(I:Int):=oM
  have a1:decide ((0:Int)<(I:Int))=true:=eO a0;go_in;go_wp2_with fail;go_ret;exact⟨by simp[Ad,N,Z,(show 0<I by omega)],(gz w).alloc _ _⟩
 have a0:decide ((0:Int)<(I:Int))=false:=eM oM;go_in;go_wp2_with fail;go_ret;exact⟨by simp[Ad,N,Z],(gz w).alloc _ _⟩
def nH(w:AB)(b:Bool)(i:Int)(t:AA)(I on lc oc:Nat)(la oa:Option Addr) :
  Calls prog 230 #[.agg #[.int .i64 6,b,i,t,.slice la I lc,.slice oa on oc]] w λe w'=>e=.returned (Ad 6 b i t I on)/\Ext w w':=by
 by_cases hb:b=true
 ·subst hb
  go_in;go_wp2_with fail;go_ret;exact⟨by simp[Ad],(gz w).alloc _ _⟩
 obtain rfl:b=false:=by simpa using hb
 by_cases hi:i=0
 rotate_left
 ·have gi:(i != 0)=true:=by simp [hi]
  go_in;go_wp2_with fail;go_ret;exact⟨by simp[Ad,hi],(gz w).alloc _ _⟩
 subst hi;by_cases Z:t.size=0
 rotate_left
 ·have gt:=EG Z
  go_in;go_wp2_with fail;go_ret;exact⟨by simp[Ad,Z],(gz w).alloc _ _⟩
 have gt:=Dm Z;by_cases a0:I=0
 rotate_left
 ·have N:(0:Int)<(I:Int):=oM
  have a1:decide ((0:Int)<(I:Int))=true:=eO N;go_in;go_wp2_with fail;go_ret;exact⟨by simp[Ad,Z,a0,(show 0<I by omega)],(gz w).alloc _ _⟩
 have N:decide ((0:Int)<(I:Int))=false:=eM oM;go_in;go_wp2_with fail;go_ret;exact⟨by simp[Ad,Z,a0],(gz w).alloc _ _⟩
def nK(w:AB){k:Int}(hk:k<1\/6<k)(b:Bool)(i:Int)(t:AA)(N I lc oc:Nat)(la oa:Option Addr) :
  Calls prog 230 #[.agg #[k,b,i,t,.slice la N lc,.slice oa I oc]] w λe w'=>e=.returned (Ad k b i t N I)/\Ext w w':=by
 have h1:(k==1)=false:=by simp;omega
 have h2:(k==2)=false:=by simp;omega
 have h3:(k==3)=false:=by simp;omega
 have h4:(k==4)=false:=by simp;omega
 have h5:(k==5)=false:=by simp;omega
 have h6:(k==6)=false:=by simp;omega
 have Z:Ad k b i t N I=true:=by unfold Ad;rw[eN hk]
 rw[Z];clear hk Z;go_in;go_wp2_with fail;go_ret;exact⟨rfl,(gz w).alloc _ _⟩
def iS(w:AB)(v:Val)(sl so:Sl):Calls prog 230 #[AS v sl so] w λe w'=>e=.returned (Ll v)/\Ext w w':=by
 obtain⟨k,b,i,t,l,N,Z⟩:=v;by_cases I:k<1\/6<k
 .exact nK w I b i t _ _ _ _ _ _
 rcases(show k=1\/k=2\/k=3\/k=4\/k=5\/k=6 by omega)with rfl|rfl|rfl|rfl|rfl|rfl
 .exact ii w b i t _ _ _ _ _ _
 .exact WE w b i t _ _ _ _ _ _
 .exact YS w b i t _ _ _ _ _ _
 .exact oH w b i t _ _ _ _ _ _
 .exact Xv w b i t _ _ _ _ _ _
 exact nH w b i t _ _ _ _ _ _
mutual
def Ai:Val->Nat->Int
 |.mk k b i t l ok ov,j=>if Ad k b i t l.length ok.length=true then 9 else if 64<j then 5 else if k=4 then(if Lib.validD t.data.toList then 0 else 3)else if k=5 then Bp l (j+1)else if k=6 then Bi none ok ov (j+1)else 0
def Bp:List Val->Nat->Int
 |[],_=>0
 |d::r,j=>if Ai d j≠0 then Ai d j else Bp r j
def Bi:Option AA->List AA->List Val->Nat->Int
 |_,_,[],_=>0
 |p,ks,d::s,j=>if !Lib.validD (ks.headD ByteArray.empty).data.toList then 3 else if p.any (λq=>!klt q (ks.headD ByteArray.empty))then 8 else if Ai d j≠0 then Ai d j else Bi (some (ks.headD ByteArray.empty)) ks.tail s j
end
variable{j:Nat}
def UE{l:List Val}{i:Nat}{d:Val}(h:l[i]? = some d):Bp (l.drop i) j=if Ai d j≠0 then Ai d j else Bp (l.drop (i+1)) j:=by
 obtain⟨h1,h2⟩:=ai.1 h;rw[aE h1,h2,Bp]
def Pk{a b:AA}(h:klt a b=true):Op.bytesLess b.toList a.toList=false:=by
 show klt b a=false;cases I:klt b a with
 |false=>rfl
 |true=>have:=Ck h I;rw[BI]at this;cases this
def Tk{a b:AA}(h:a≠b):(a.toList==b.toList)=false:=by
 rw[eP];intro e;rw[eY,eY]at e;exact h (by cases a;cases b;congr 1;exact dU.1 e)
def prevK(ok:List AA):Nat->Option AA
 |0=>none
 |j+1=>ok[j]?
def RX{p:Option AA}{ok:List AA}{ov:List Val}{Q i:Nat}{d:Val}{k:AA}(h:ov[i]? = some d)(Z:ok[i]? = some k):Bi p (ok.drop i) (ov.drop i) Q =
  if !Lib.validD k.data.toList then 3 else if p.any (λq=>!klt q k)then 8 else if Ai d Q≠0 then Ai d Q else Bi (some k) (ok.drop (i+1)) (ov.drop (i+1)) Q:=by
 obtain⟨h1,h2⟩:=ai.1 h;obtain⟨I,N⟩:=ai.1 Z;rw[aE h1,h2,aE I,N,Bi,di,cu]
variable{w:AB}
def Ms(I:DD w){k:AA}(hk:k.size<=maxLen):Calls prog 211 #[k] w λe w'=>e=.returned (Lib.validD k.data.toList)/\Nw w w':=by
 have N:=I.val w (G5.refl w) k hk;have HV:=hY N;clear N I;go_in;go_wp2_with fail;refine HV.o.mono ?_;rintro e w' ⟨rfl,Z⟩;have HN:=hY Z;clear Z;go_wp2_with fail;go_ret;exact⟨rfl,HN.o⟩
def Xa(m:Nat):∀(d:Val),SizeOf.sizeOf d<=m->∀(w:AB) (sl so:Sl) (q:Nat),q<=65->RV w (Lt w) d sl so->DD w->
  Calls prog 212 #[AS d sl so,.int .i64 (q:Int)] w λe w'=>e=.returned (.int .i64 (Ai d q))/\Nw w w':=by
 induction m with
 |zero=>intro d hd;have:=Val.CM d;omega
 |succ m ih=>
 intro d hd w sl so q hq h hL;have HI:=hY ih;clear ih;obtain⟨k,b,i,t,l,ok,ov⟩:=d;have d4:=λW=>iS W (.mk k b i t l ok ov) sl so
 show Calls _ _ #[.agg #[k,b,.int .i64 i,t,.slice sl.a l.length sl.c,.slice so.a ok.length so.c],.int .i64 q] _ _;have i2:=h;cases h with
 |mk bl fl bo fo cl co hl ho hov el rl ek eo ro bk bi bt nl no=>
 have f2:∀(j:Nat) (d:Val),l[j]? = some d->SizeOf.sizeOf d<=m:=λj d hj=>bz (ab (Val.Ev hj) hd)
 have e3:∀(j:Nat) (d:Val),ov[j]? = some d->SizeOf.sizeOf d<=m:=λj d hj=>bz (ab (Val.E0 hj) hd)
 have hu:=λW (hW:Nw w W)=>Ms (hL.nw hW) bt
 obtain⟨f6,g9,g8,f7,d7,i0,f9⟩:=Yh f2 e3 el rl ek eo ro;obtain⟨e7,HL,HU,c9,d0,d3⟩:=Yg hov hL hu d4 hl ho;clear f2 e3 el rl ek eo ro hov hd hL hu d4 i2;obtain⟨r,hr⟩:∃r,Ai (.mk k b i t l ok ov) q=r:=⟨_,rfl⟩;rw[hr];unfold Ai at hr;go_in;go_wp2_with fail;have e8:=(gz w).alloc #[.int .i64 k,.bool b,.int .i64 i,.string t,.slice sl.a l.length sl.c,.slice so.a ok.length so.c] 54;have b8:=gB w 54 #[.int .i64 k,.bool b,.int .i64 i,.string t,.slice sl.a l.length sl.c,.slice so.a ok.length so.c];refine(c9.o _).mono ?_;rintro e w1 ⟨rfl,b3⟩;obtain⟨q0,q1,q2,q3,q4,q5⟩:=(b8.ext b3).c6;have lq:=(b8.ext b3).lt;obtain⟨HX,HB⟩:=Yb (e8.trans b3) (b8.ext b3);clear e8 b3 b8 c9;unfold Ll;dsimp only[Val.kind,Val.b,Val.i,Val.t,Val.l,Val.ok];by_cases b7:Ad k b i t l.length ok.length=true
 ·rw [eN b7] at hr
  subst hr;rw[b7];go_wp2_with fail;go_ret;exact⟨rfl,gA HX.o⟩
 rw[eL b7]at hr;rw[show Ad k b i t l.length ok.length=false by simpa using b7];by_cases d5:64<q
 ·rw [eN d5] at hr
  subst hr;have g0:decide ((64:Int)<(q:Int))=true:=eO oM;go_wp2_with fail;go_ret;exact⟨rfl,gA HX.o⟩
 rw[eL d5]at hr;have g0:decide ((64:Int)<(q:Int))=false:=eM oM;by_cases h4:k=4
 ·subst h4
  rw[eN rfl]at hr;go_wp2_with fail;refine(HU.o _ (gA HX.o)).mono ?_;rintro e w2 ⟨rfl,f0⟩;have f3:=hY ((gA HX.o).trans f0);clear f0;cases hv:Lib.validD t.data.toList with
  | true=>
    rw[hv,eN rfl]at hr;subst hr;go_wp2_with fail;go_ret;exact⟨rfl,f3.o⟩
  | false=>
    rw[hv,eL oN]at hr;subst hr;go_wp2_with fail;go_ret;exact⟨rfl,f3.o⟩
 rw[eL h4]at hr;have g4:(k==4)=false:=by simpa using h4
 by_cases h5:k=5
 ·subst h5
  rw[eN rfl]at hr;go_wp2_with fail;go_loopw[30] (λqq wr=>∃j:Nat,qq=.int .i64 j/\j<=l.length/\Bp (l.drop j) (q+1)=r/\Nw w1 wr) (λqq _=>l.length -(intOf qq).toNat)
  case atStart=>exact⟨0,rfl,aw _,hr,gE _ _⟩
  obtain⟨j,rfl,hj,hm,hn⟩:=hrel;by_cases a6:j<l.length
  ·have g1:(j:Int)<(l.length:Int):=oM
   have f8:decide ((j:Int)<(l.length:Int))=true:=eO g1;obtain⟨d,hd⟩:∃d,l[j]? = some d:=⟨_,ac a6⟩;have Z:Nw w wr:=(gA HX.o).trans hn;have a2:Agree (Lt w) w wr:=gC Z λ_ h=>h
   obtain⟨b0,d6,d9⟩:=d0.o.eq oM;have a1:=d0.o.fits (show 0<l.length by omega);obtain⟨sa,sc⟩:=sl;dsimp only at b0 d6 d9;subst b0;obtain⟨v0,v1,v2,v3,v4,v5⟩:=(g8.o j d hd).agree a2 a1;have lb:bl<wr:=ab a1 Z.size;have b4:∀W,Nw wr W->Calls prog 212 #[AS d (cl j).1 (cl j).2,.int .i64 ((q:Int)+1)] W λe w'=>e=.returned (.int .i64 (Ai d (q+1)))/\Nw W w':=λW hW=>by
    rw[show(q:Int)+1=((q+1:Nat):Int)by omega];exact HI.o d (f6.o j d hd) W _ _ (q+1) oM (((f7.o j d hd).agree (a2.trans (gC hW λ_ h=>ab h Z.size))).mono λi hi=>ab hi (an Z.size hW.size)) (HL.o.nw (Z.trans hW))
   have I:=UE (j:=q+1) hd;rw[hm]at I;have g2:IntKind.i64.wrap ((q:Int)+1)=(q:Int)+1:=by rw[eS];omega
   obtain⟨a7,N,HN⟩:=Yc b4 I hn;clear hd Z a2 b4 I hn hm;go_wp2_with fail;have a4:=(gz wr).alloc #[.int .i64 d.kind,.bool d.b,.int .i64 d.i,.string d.t,.slice (cl j).1.a d.l.length (cl j).1.c,.slice (cl j).2.a d.ok.length (cl j).2.c] 54;refine(a7.o _ (gA a4)).mono ?_;rintro e w3 ⟨rfl,a3⟩;have e4:=hY ((HN.o.trans (gA a4)).trans a3);have I:=N.o;clear a4 a3 v0 v1 v2 v3 v4 v5 a7 N HN;generalize Ai d (q+1)=c at I;by_cases hc:c=0
   ·subst hc
    rw[eL oO]at I;have N:=hY I.symm;clear I;go_wp2_with fail;go_roundw
    case rel=>exact⟨j+1,by go_num,a6,N.o,e4.o⟩
    simp[intOf];omega
   rw[eN hc]at I;subst I;have g3:(r != 0)=true:=by simpa using hc
   have a0:=hY ((gA HX.o).trans e4.o);clear hc;go_wp2_with fail;go_ret;exact⟨rfl,a0.o⟩
  obtain rfl:j=l.length:=oM
  have g1:decide ((l.length:Int)<(l.length:Int))=false:=eM oM;have hz:r=0:=by rw[<-hm,cT,Bp]
  subst hz;have HN:=hY ((gA HX.o).trans hn);clear hn hm;go_wp2_with fail;go_ret;exact⟨rfl,HN.o⟩
 rw[eL h5]at hr;have g5:(k==5)=false:=by simpa using h5
 by_cases h6:k=6
 ·subst h6
  rw[eN rfl]at hr;go_wp2_with fail;go_loopw[47] (λqq wr=>∃j:Nat,qq=.int .i64 j/\j<=ok.length/\Bi (prevK ok j) (ok.drop j) (ov.drop j) (q+1)=r/\Nw w1 wr) (λqq _=>ok.length -(intOf qq).toNat)
  case atStart=>exact⟨0,rfl,aw _,hr,gE _ _⟩
  obtain⟨j,rfl,hj,hm,hn⟩:=hrel;by_cases a6:j<ok.length
  ·have g1:(j:Int)<(ok.length:Int):=oM
   have f8:decide ((j:Int)<(ok.length:Int))=true:=eO g1;obtain⟨kk,hk⟩:∃kk,ok[j]? = some kk:=⟨_,ac a6⟩;obtain⟨d,hd⟩:∃d,ov[j]? = some d:=⟨_,ac (by rw[e7.o];exact a6)⟩;have Z:Nw w wr:=(gA HX.o).trans hn;have a2:Agree (Lt w) w wr:=gC Z λ_ h=>h
   obtain⟨b0,d6,d9⟩:=d3.o.eq oM;have a1:=d3.o.fits (show 0<ok.length by omega);obtain⟨sa,sc⟩:=so;dsimp only at b0 d6 d9;subst b0;obtain⟨v0,v1,v2,v3,v4,v5⟩:=(i0.o j d hd).agree a2 a1;have lb:bo<wr:=ab a1 Z.size;have kc:wr.cell? ⟨bo,fo+j*7,none⟩=some (.string kk):=(a2.cell a1).trans (d7.o j kk hk).1;have f1:=(d7.o j kk hk).2;have b4:∀W,Nw wr W->Calls prog 212 #[AS d (co j).1 (co j).2,.int .i64 ((q:Int)+1)] W λe w'=>e=.returned (.int .i64 (Ai d (q+1)))/\Nw W w':=λW hW=>by
    rw[show(q:Int)+1=((q+1:Nat):Int)by omega];exact HI.o d (g9.o j d hd) W _ _ (q+1) oM (((f9.o j d hd).agree (a2.trans (gC hW λ_ h=>ab h Z.size))).mono λi hi=>ab hi (an Z.size hW.size)) (HL.o.nw (Z.trans hW))
   have f5:∀W,Nw wr W->Calls prog 211 #[.string kk] W λe w'=>e=.returned (.bool (Lib.validD kk.data.toList))/\Nw W w':=λW hW=>Ms (HL.o.nw (Z.trans hW)) f1
   have I:=RX (p:=prevK ok j) (Q:=q+1) hd hk;rw[hm]at I;have g2:IntKind.i64.wrap ((q:Int)+1)=(q:Int)+1:=by rw[eS];omega
   obtain⟨a7,N,f4,HN,e2,i1⟩:=Yg b4 I f5 hn hk (And.intro a2 a1);clear hd Z a2 b4 I hn hm f5 hk f1;go_wp2_with fail;have a4:=(gz wr).alloc #[.string kk,.int .i64 d.kind,.bool d.b,.int .i64 d.i,.string d.t,.slice (co j).1.a d.l.length (co j).1.c,.slice (co j).2.a d.ok.length (co j).2.c] 107;have d8:=gB wr 107 #[.string kk,.int .i64 d.kind,.bool d.b,.int .i64 d.i,.string d.t,.slice (co j).1.a d.l.length (co j).1.c,.slice (co j).2.a d.ok.length (co j).2.c];refine(f4.o _ (gA a4)).mono ?_;rintro e w3 ⟨rfl,a3⟩;have b5:=(HN.o.trans (gA a4)).trans a3;obtain⟨u0,u1,u2,u3,u4,u5,u6⟩:=(gK a3 d8).c7;have ul:=(gK a3 d8).lt;have p5:w3.cell? ⟨w,5,none⟩=some (.slice (some ⟨bo,fo,none⟩) ok.length sc):=(gK b5 HB.o).cell 5;have pl:=(gK b5 HB.o).lt;obtain⟨c8,e0⟩:=Yb b5 ((gA a4).trans a3);have e1:∀i y,j=i+1->ok[i]? = some y->w3.cell? ⟨bo,fo+i*7,none⟩=some (.string y):=λi y _ hy=>
    (gC (((gA HX.o).trans b5)) (λ_ h=>h)).cell i1.o.2 |>.trans (d7.o i y hy).1
   have b6:=hY e1;have i3:bo<w3:=by have:=e0.o.size;omega
   have I:=N.o;clear a4 d8 a3 b5 v0 v1 v2 v3 v4 v5 kc N f4 HN e1;cases hv:Lib.validD kk.data.toList with
   | false=>
     rw[hv]at I;rw[eN oN]at I;subst I;have a0:=hY ((gA HX.o).trans c8.o);go_wp2_with fail;go_ret;exact⟨rfl,a0.o⟩
   | true=>
     rw[hv]at I;rw[eL oN]at I;by_cases b9:j=0
     ·subst b9
      rw[show prevK ok 0=none from rfl,eE,eL oN]at I;have gg:decide ((0:Int)<((0:Nat):Int))=false:=oN
      have N:=hY I;clear I;go_wp2_with fail;go_quiet (fail);go_wp2_with fail;refine(a7.o _ (e0.o.trans (gA ((gz w3).drewN _)))).mono ?_;rintro e w4 ⟨rfl,a9⟩;have a8:=hY ((c8.o.trans (gA ((gz w3).drewN _))).trans a9);have I:=N.o;clear a9 a7 N u0 u1 u2 u3 u4 u5 u6;generalize Ai d (q+1)=c at I;by_cases hc:c=0
      ·subst hc
       rw[eL oO]at I;have N:=hY I.symm;clear I;go_wp2_with fail;go_roundw
       case rel=>exact⟨0+1,by go_num,a6,by rw[show prevK ok (0+1)=some kk from e2.o];exact N.o,a8.o⟩
       simp[intOf];omega
      rw[eN hc]at I;subst I;have g3:(r != 0)=true:=by simpa using hc
      have a0:=hY ((gA HX.o).trans a8.o);clear hc;go_wp2_with fail;go_ret;exact⟨rfl,a0.o⟩
     obtain⟨i,rfl⟩:∃i,j=i+1:=⟨j-1,oM⟩;obtain⟨y,hy⟩:∃y,ok[i]? = some y:=⟨_,ac oM⟩;have pk:=b6.o i y rfl hy;rw[show prevK ok (i+1)=some y from hy,dE]at I;have gg:decide ((0:Int)<((i+1:Nat):Int))=true:=eO oM;have i5:(0:Int)<((i+1:Nat):Int):=oM
     have gs:IntKind.i64.wrap (((i+1:Nat):Int)-1)=(i:Int):=by rw[eS];omega
     have i6:(0:Int)<=(i:Int):=oM
     have i4:(i:Int)<(ok.length:Int):=oM
     cases a5:klt y kk with
     | false=>
       rw[a5,eN oN]at I;subst I;have a0:=hY ((gA HX.o).trans c8.o);cases e6:klt kk y with
       | true=>
         have a1:Op.bytesLess kk.toList y.toList=true:=e6;clear hy b9 b6;go_wp2_with fail;go_quiet (fail);go_wp2_with fail;go_ret;exact⟨rfl,a0.o.trans (gA ((gz w3).drewN _))⟩
       | false=>
         obtain rfl:y=kk:=E6 a5 e6;have a1:Op.bytesLess y.toList y.toList=false:=a5;have g7:(y.toList==y.toList)=true:=oO
         clear hy b9 b6;go_wp2_with fail;go_quiet (fail);go_wp2_with fail;go_ret;exact⟨rfl,a0.o.trans (gA ((gz w3).drewN _))⟩
     | true=>
       rw[a5,eL oN]at I;have a1:Op.bytesLess kk.toList y.toList=false:=Pk a5;have g7:(kk.toList==y.toList)=false:=Tk (λe=>by rw[e,BI]at a5;cases a5);have N:=hY I;clear I hy b9 b6;go_wp2_with fail;go_quiet (fail);go_wp2_with fail;refine(a7.o _ (e0.o.trans (gA ((gz w3).drewN _)))).mono ?_;rintro e w4 ⟨rfl,a9⟩;have a8:=hY ((c8.o.trans (gA ((gz w3).drewN _))).trans a9);have I:=N.o;clear a9 a7 N u0 u1 u2 u3 u4 u5 u6;generalize Ai d (q+1)=c at I;by_cases hc:c=0
       ·subst hc
        rw[eL oO]at I;have N:=hY I.symm;clear I;go_wp2_with fail;go_roundw
        case rel=>exact⟨(i+1)+1,by go_num,a6,by rw[show prevK ok ((i+1)+1)=some kk from e2.o];exact N.o,a8.o⟩
        simp[intOf];omega
       rw[eN hc]at I;subst I;have g3:(r != 0)=true:=by simpa using hc
       have a0:=hY ((gA HX.o).trans a8.o);clear hc;go_wp2_with fail;go_ret;exact⟨rfl,a0.o⟩
  obtain rfl:j=ok.length:=oM
  have g1:decide ((ok.length:Int)<(ok.length:Int))=false:=eM oM;have hz:r=0:=by rw[<-hm,<-e7.o,cT (l:=ov),Bi]
  subst hz;have HN:=hY ((gA HX.o).trans hn);clear hn hm;go_wp2_with fail;go_ret;exact⟨rfl,HN.o⟩
 rw[eL h6]at hr;subst hr;have g6:(k==6)=false:=by simpa using h6
 go_wp2_with fail;go_ret;exact⟨rfl,gA HX.o⟩
variable{sl so:Sl}
def Z8{v:Val}(h:RV w (Lt w) v sl so)(hL:DD w):Calls prog 185 #[AS v sl so] w λe w'=>e=.returned (Ai v 1)/\Nw w w':=by
 have I:=(gz w).alloc #[.int .i64 v.kind,.bool v.b,.int .i64 v.i,.string v.t,.slice sl.a v.l.length sl.c,.slice so.a v.ok.length so.c] 54;have ho:=Xa _ v (ao _) (w.alloc (.cells #[v.kind,v.b,v.i,v.t,.slice sl.a v.l.length sl.c,.slice so.a v.ok.length so.c] 54)) sl so 1 oN ((h.agree (I.agree λ_ h=>h)).mono λi hi=>ab hi I.size) (hL.nw (gA I));obtain⟨HO,Z⟩:=Yb ho I;clear ho h I hL;go_in;go_wp2_with fail;refine HO.o.mono ?_;rintro e w1 ⟨rfl,N⟩;have HX:=hY ((gA Z.o).trans N);clear N;go_wp2_with fail;go_ret;exact⟨rfl,HX.o⟩
mutual
def Bo:Val->Nat
 |.mk k b i t l ok ov=>1+(if k=5 then BE l else if k=6 then BE ov else 0)
def BE:List Val->Nat
 |[]=>0
 |d::r=>max (Bo d) (BE r)
end
def Lg:∀{l:List Val} {j:Nat} {d:Val},l[j]? = some d->BE (l.take (j+1))=max (BE (l.take j)) (Bo d)
 |[],j,d,h=>by simp at h
 | x :: r,0,d,h=>by
   simp at h;subst h;simp[BE]
 | x :: r,j+1,d,h=>by
   have I:r[j]? = some d:=by simpa using h
   rw[bq,bq,BE,BE,Lg I,Nat.max_assoc]
def J1:∀{l:List Val} {j:Nat} {d:Val},l[j]? = some d->Bo d<=BE l
 |[],j,d,h=>by simp at h
 | x :: r,0,d,h=>by
   simp at h;subst h;rw[BE];exact Nat.le_max_left _ _
 | x :: r,j+1,d,h=>by
   have I:r[j]? = some d:=by simpa using h
   rw[BE];exact an (J1 I) (Nat.le_max_right _ _)
def iH(l:List Val)(j:Nat):BE (l.take j)<=BE l:=by
 induction l generalizing j with
 |nil=>simp
 | cons x r ih=>
   cases j with
   |zero=>simp[BE]
   |succ j=>rw[bq,BE,BE];have:=ih j;omega
mutual
def Jk:∀(v:Val) (q:Nat),Ai v q=0->Bo v+q<=65
 | .mk k b i t l ok ov,q,h=>by
   unfold Ai at h;unfold Bo;split at h
   .cases h
   split at h
   .cases h
   split at h
   ·rename_i h4
    subst h4;simp;omega
   split at h
   ·rename_i h5
    rw[eN h5];have:=VL l (q+1) h;omega
   split at h
   ·rename_i h5 h6
    rw[eL h5,eN h6];have:=SF _ _ ov (q+1) h;omega
   rename_i h5 h6;rw[eL h5,eL h6];omega
def VL:∀(l:List Val) (q:Nat),Bp l q=0->BE l+q<=65\/BE l=0
 |[],q,h=>.inr rfl
 | d :: r,q,h=>by
   rw[Bp]at h;split at h
   .rename_i h1;exact absurd h h1
   rename_i h1;have h2:=Jk d q (by simpa using h1);have I:=VL r q h;rw[BE];left;omega
def SF:∀(p:Option AA) (ks:List AA) (l:List Val) (q:Nat),Bi p ks l q=0->BE l+q<=65\/BE l=0
 |p,ks,[],q,h=>.inr rfl
 | p,ks,d :: r,q,h=>by
   rw[Bi]at h;split at h
   .cases h
   split at h
   .cases h
   split at h
   .rename_i h1;exact absurd h h1
   rename_i h1;have h2:=Jk d q (by simpa using h1);have I:=SF _ _ r q h;rw[BE];left;omega
end
def jY(m:Nat):∀(d:Val),SizeOf.sizeOf d<=m->Bo d<=1000000->∀(w:AB) (sl so:Sl),RV w (Lt w) d sl so->
  Calls prog 186 #[AS d sl so] w λe w'=>e=.returned (.int .i64 (Bo d:Int))/\Ext w w':=by
 induction m with
 |zero=>intro d hd;have:=Val.CM d;omega
 |succ m ih=>
 intro d hd d5 w sl so h;have HI:=hY ih;clear ih;obtain⟨k,b,i,t,l,ok,ov⟩:=d;show Calls _ _ #[.agg #[k,b,i,t,.slice sl.a l.length sl.c,.slice so.a ok.length so.c]] _ _;cases h with
 |mk bl fl bo fo cl co hl ho hov el rl ek eo ro bk bi bt nl no=>
 have c6:∀(j:Nat) (d:Val),l[j]? = some d->SizeOf.sizeOf d<=m:=λj d hj=>bz (ab (Val.Ev hj) hd)
 have b8:∀(j:Nat) (d:Val),ov[j]? = some d->SizeOf.sizeOf d<=m:=λj d hj=>bz (ab (Val.E0 hj) hd)
 obtain⟨c7,d0,c9,d3,d4,c8,b9⟩:=Yh c6 b8 el rl eo ro hov;obtain⟨b0,a9⟩:=Yb hl ho;obtain⟨r,hr⟩:∃r,Bo (.mk k b i t l ok ov)=r:=⟨_,rfl⟩;rw[hr]at d5 ⊢;unfold Bo at hr;clear c6 b8 el rl eo ro hov hd;go_in;by_cases h5:k=5
 ·subst h5
  rw[eN rfl]at hr;go_wp2_with fail;generalize a6:World.alloc w _=w1;have a5:Ext w w1:=by rw[<-a6];exact(gz w).alloc _ _
  have HX:=hY a5;clear a6 a5;go_loopw[3,15] (λdp qq wr=>∃j:Nat,dp=.int .i64 (BE (l.take j):Int)/\qq=.int .i64 j/\j<=l.length/\Ext w1 wr) (λ_ qq _=>l.length -(intOf qq).toNat)
  case atStart=>exact⟨0,rfl,rfl,aw _,gz _⟩
  obtain⟨j,rfl,rfl,hj,hn⟩:=hrel;by_cases a0:j<l.length
  ·have g1:(j:Int)<(l.length:Int):=oM
   have d6:decide ((j:Int)<(l.length:Int))=true:=eO g1;obtain⟨d,hd⟩:∃d,l[j]? = some d:=⟨_,ac a0⟩;have I:Ext w wr:=HX.o.trans hn;have N:Agree (Lt w) w wr:=I.agree λ_ h=>h
   obtain⟨a3,b3,b5⟩:=b0.o.eq oM;have a1:=b0.o.fits (show 0<l.length by omega);obtain⟨sa,sc⟩:=sl;dsimp only at a3 b3 b5;subst a3;obtain⟨v0,v1,v2,v3,v4,v5⟩:=(c9.o j d hd).agree N a1;have lb:bl<wr:=ab a1 I.size;have b7:=J1 hd;have a7:∀W,Ext wr W->Calls prog 186 #[AS d (cl j).1 (cl j).2] W λe w'=>e=.returned (.int .i64 (Bo d:Int))/\Ext W w':=λW hW=>
    HI.o d (c7.o j d hd) oM W _ _ (((d3.o j d hd).agree (N.trans (hW.agree λ_ h=>ab h I.size))).mono λi hi=>ab hi (an I.size hW.size))
   have a4:=Lg hd;obtain⟨a8,b6,HN⟩:=Yc a7 a4 hn;clear hd I N a7 hn a4 b7;go_wp2_with fail;have Z:=(gz wr).alloc #[.int .i64 d.kind,.bool d.b,.int .i64 d.i,.string d.t,.slice (cl j).1.a d.l.length (cl j).1.c,.slice (cl j).2.a d.ok.length (cl j).2.c] 54;refine(a8.o _ Z).mono ?_;rintro e w3 ⟨rfl,a2⟩;have b4:=hY ((HN.o.trans Z).trans a2);clear Z a2 v0 v1 v2 v3 v4 v5 a8 HN;go_wp2_with fail;go_roundw
   case rel=>exact⟨j+1,by rw[b6.o];go_num,by go_num,a0,b4.o⟩
   simp[intOf];omega
  obtain rfl:j=l.length:=oM
  have g1:decide ((l.length:Int)<(l.length:Int))=false:=eM oM;rw[aR];have g2:IntKind.i64.wrap (1+(BE l:Int))=1+(BE l:Int):=by rw[eS];omega
  have hz:(r:Int)=1+(BE l:Int):=oM
  obtain⟨HZ,HN⟩:=Yb hz (HX.o.trans hn);clear hn hz;go_wp2_with fail;go_ret;exact⟨by rw[HZ.o];rfl,HN.o⟩
 rw[eL h5]at hr;have g5:(k==5)=false:=by simpa using h5
 by_cases h6:k=6
 ·subst h6
  rw[eN rfl]at hr;go_wp2_with fail;generalize a6:World.alloc w _=w1;have a5:Ext w w1:=by rw[<-a6];exact(gz w).alloc _ _
  have HX:=hY a5;clear a6 a5;go_loopw[3,29] (λdp qq wr=>∃j:Nat,dp=.int .i64 (BE (ov.take j):Int)/\qq=.int .i64 j/\j<=ok.length/\Ext w1 wr) (λ_ qq _=>ok.length -(intOf qq).toNat)
  case atStart=>exact⟨0,rfl,rfl,aw _,gz _⟩
  obtain⟨j,rfl,rfl,hj,hn⟩:=hrel;by_cases a0:j<ok.length
  ·have g1:(j:Int)<(ok.length:Int):=oM
   have d6:decide ((j:Int)<(ok.length:Int))=true:=eO g1;obtain⟨kk,hk⟩:∃kk,ok[j]? = some kk:=⟨_,ac a0⟩;obtain⟨d,hd⟩:∃d,ov[j]? = some d:=⟨_,ac (by rw[b9.o];exact a0)⟩;have I:Ext w wr:=HX.o.trans hn;have N:Agree (Lt w) w wr:=I.agree λ_ h=>h
   obtain⟨a3,b3,b5⟩:=a9.o.eq oM;have a1:=a9.o.fits (show 0<ok.length by omega);obtain⟨sa,sc⟩:=so;dsimp only at a3 b3 b5;subst a3;obtain⟨v0,v1,v2,v3,v4,v5⟩:=(d4.o j d hd).agree N a1;have lb:bo<wr:=ab a1 I.size;have kc:wr.cell? ⟨bo,fo+j*7,none⟩=some (.string kk):=(N.cell a1).trans (ek j kk hk).1;have b7:=J1 hd;have a7:∀W,Ext wr W->Calls prog 186 #[AS d (co j).1 (co j).2] W λe w'=>e=.returned (.int .i64 (Bo d:Int))/\Ext W w':=λW hW=>
    HI.o d (d0.o j d hd) oM W _ _ (((c8.o j d hd).agree (N.trans (hW.agree λ_ h=>ab h I.size))).mono λi hi=>ab hi (an I.size hW.size))
   have a4:=Lg hd;obtain⟨a8,b6,HN⟩:=Yc a7 a4 hn;clear hd I N a7 hn a4 b7 hk;go_wp2_with fail;have Z:=(gz wr).alloc #[.string kk,.int .i64 d.kind,.bool d.b,.int .i64 d.i,.string d.t,.slice (co j).1.a d.l.length (co j).1.c,.slice (co j).2.a d.ok.length (co j).2.c] 107;refine(a8.o _ Z).mono ?_;rintro e w3 ⟨rfl,a2⟩;have b4:=hY ((HN.o.trans Z).trans a2);clear Z a2 v0 v1 v2 v3 v4 v5 kc a8 HN;go_wp2_with fail;go_roundw
   case rel=>exact⟨j+1,by rw[b6.o];go_num,by go_num,a0,b4.o⟩
   simp[intOf];omega
  obtain rfl:j=ok.length:=oM
  have g1:decide ((ok.length:Int)<(ok.length:Int))=false:=eM oM;rw[<-b9.o,aR];have g2:IntKind.i64.wrap (1+(BE ov:Int))=1+(BE ov:Int):=by rw[eS];omega
  have hz:(r:Int)=1+(BE ov:Int):=oM
  obtain⟨HZ,HN⟩:=Yb hz (HX.o.trans hn);clear hn hz;go_wp2_with fail;go_ret;exact⟨by rw[HZ.o];rfl,HN.o⟩
 rw[eL h6]at hr;subst hr;have g6:(k==6)=false:=by simpa using h6
 go_wp2_with fail;go_ret;exact⟨rfl,(gz w).alloc _ _⟩
variable{B:Nat}
def lF{a b:Value}{m:Nat}(hB:AE w B 267 (wrC a b m))(hm:m<=10000000) :
  Calls prog 242 #[.pointer (some B)] w λe w'=>(∃r,e=.returned r)/\AE w' B 267 (wrC a b (m+4))/\Sb (λc=>c=B) w w':=by
 have hj:=join_one (w:=w) ⟨#[110,117,108,108]⟩ hB hm oN;have HJ:=hY hj;clear hj hB;go_in;go_wp2_with fail;refine HJ.o.mono ?_;rintro e w1 ⟨⟨r,rfl⟩,N,I⟩;obtain⟨a0,Z⟩:=Yb N I;clear N I;go_wp2_with fail;go_end0;exact⟨⟨_,rfl⟩,a0.o,Z.o⟩
def IS(x:Bool):Nat:=(ByteArray.mk (Lib.formatBool x).toArray).size
def pb(x:Bool):IS x=if x then 4 else 5:=by cases x<;>decide
variable{V:Nat}
def pM{a b:Value}{x:Bool}{m:Nat}{c0 c2 c3 c4 c5:Value}(hV:AE w V 54 #[c0,.bool x,c2,c3,c4,c5])(hB:AE w B 267 (wrC a b m))(hm:m<=10000000) :
  Calls prog 231 #[.pointer (some B),.pointer (some V)] w λe w'=>(∃r,e=.returned r)/\AE w' B 267 (wrC a b (m+IS x))/\Sb (λc=>c=B) w w':=by
 have hf:=λW=>Any.strconv_FormatBool Tryz.ZQ x W
 have c1:w.cell? ⟨V,1,none⟩=some (.bool x):=hV.cell 1;obtain⟨HF,HB,HM⟩:=Yc hf hB hm;clear hf hV hB hm;go_in;go_wp2_with fail;refine(HF.o _).mono ?_;rintro e w1 ⟨rfl,rfl⟩;have hj:=join_one (w:=w1) ⟨(Lib.formatBool x).toArray⟩ HB.o HM.o (by cases x<;>decide);have HJ:=hY hj;clear hj c1;go_wp2_with fail;refine HJ.o.mono ?_;rintro e w2 ⟨⟨r,rfl⟩,I,N⟩;obtain⟨a0,Z⟩:=Yb I N;clear I N;go_wp2_with fail;go_end0;refine⟨⟨_,rfl⟩,?_,Z.o⟩;exact a0.o
open Go.Sort
def Tryz.kB:Go.Shelf.Ren:=⟨λ| 197=>272|260=>277|n=>n,λ| 9=>9|21=>21|3=>3|4=>4|5=>5|105=>323|119=>293|0=>0|46=>181|139=>296|138=>295|n=>n,λ| 3=>1|4=>2|n=>n⟩
def Tryz.Zr:Go.Proofs.Lays.n197 prog Tryz.kB:={
 mixed:=by kernel_rfl
 f197:=func272.trans (congrArg some kM)
 f260:=func277.trans (congrArg some kM)
 t0:=underlying0
 a0:=isAgg0
 z0:=sizeOf0
 v0:=zeroValue0
 t3:=underlying3
 a3:=isAgg3
 z3:=sizeOf3
 v3:=zeroValue3
 t4:=underlying4
 a4:=isAgg4
 z4:=sizeOf4
 v4:=zeroValue4
 t5:=underlying5
 a5:=isAgg5
 z5:=sizeOf5
 v5:=zeroValue5
 t9:=underlying9
 a9:=isAgg9
 z9:=sizeOf9
 v9:=zeroValue9
 t21:=underlying21
 a21:=isAgg21
 z21:=sizeOf21
 v21:=zeroValue21
 t46:=underlying181
 a46:=isAgg181
 z46:=sizeOf181
 v46:=zeroValue181
 t105:=underlying323
 a105:=isAgg323
 z105:=sizeOf323
 v105:=zeroValue323
 t119:=underlying293
 a119:=isAgg293
 z119:=sizeOf293
 t138:=underlying295
 a138:=isAgg295
 z138:=sizeOf295
 v138:=zeroValue295
 t139:=underlying296
 a139:=isAgg296
 z139:=sizeOf296
 v139:=zeroValue296
 g3:=by kernel_rfl
 g4:=by kernel_rfl }
def Tryz.iy:Go.Shelf.Ren:=⟨λ| 169=>264|n=>n,λ| 70=>263|9=>9|0=>0|72=>265|37=>235|127=>326|3=>3|5=>5|n=>n,λ| n=>n⟩
def Tryz.Wx:Go.Proofs.Lays.n169 prog Tryz.iy:={
 mixed:=by kernel_rfl
 f169:=func264.trans (congrArg some kM)
 t0:=underlying0
 a0:=isAgg0
 z0:=sizeOf0
 v0:=zeroValue0
 t3:=underlying3
 a3:=isAgg3
 z3:=sizeOf3
 v3:=zeroValue3
 t9:=underlying9
 a9:=isAgg9
 z9:=sizeOf9
 v9:=zeroValue9
 t37:=underlying235
 a37:=isAgg235
 z37:=sizeOf235
 v37:=zeroValue235
 t70:=underlying263
 a70:=isAgg263
 z70:=sizeOf263
 v70:=zeroValue263
 t72:=underlying265
 a72:=isAgg265
 z72:=sizeOf265
 v72:=zeroValue265
 t127:=underlying326
 a127:=isAgg326
 z127:=sizeOf326
 v127:=zeroValue326 }
def Tryz.V8:Go.Shelf.Ren:=⟨λ| 166=>247|167=>259|168=>262|240=>254|276=>266|242=>273|278=>278|n=>n,λ| 37=>235|70=>263|72=>265|75=>298|80=>145|164=>317|46=>181|51=>254|n=>n,λ| n=>n⟩
def Tryz.pR:Go.Proofs.Lays.n166 prog Tryz.V8:={
 mixed:=by kernel_rfl
 f166:=func247.trans (congrArg some kM)
 f240:=func254.trans (congrArg some kM)
 f276:=func266.trans (congrArg some kM)
 t0:=underlying0
 a0:=isAgg0
 z0:=sizeOf0
 v0:=zeroValue0
 t3:=underlying3
 a3:=isAgg3
 z3:=sizeOf3
 v3:=zeroValue3
 t4:=underlying4
 a4:=isAgg4
 z4:=sizeOf4
 v4:=zeroValue4
 t9:=underlying9
 a9:=isAgg9
 z9:=sizeOf9
 v9:=zeroValue9
 t20:=underlying20
 a20:=isAgg20
 z20:=sizeOf20
 v20:=zeroValue20
 t37:=underlying235
 a37:=isAgg235
 z37:=sizeOf235
 v37:=zeroValue235
 t70:=underlying263
 a70:=isAgg263
 z70:=sizeOf263
 v70:=zeroValue263
 t72:=underlying265
 a72:=isAgg265
 z72:=sizeOf265
 v72:=zeroValue265
 t75:=underlying298
 a75:=isAgg298
 z75:=sizeOf298
 v75:=zeroValue298
 t164:=underlying317
 a164:=isAgg317
 z164:=sizeOf317
 v164:=zeroValue317 }
def Tryz.qA:Go.Shelf.Ren:=⟨λ| 166=>247|167=>259|168=>262|240=>254|276=>266|242=>273|278=>278|n=>n,λ| 37=>235|70=>263|72=>265|75=>298|80=>145|164=>317|46=>181|51=>254|n=>n,λ| n=>n⟩
def Tryz.Yy:Go.Proofs.Lays.n167 prog Tryz.qA:={
 mixed:=by kernel_rfl
 f167:=func259.trans (congrArg some kM)
 f240:=func254.trans (congrArg some kM)
 f276:=func266.trans (congrArg some kM)
 t0:=underlying0
 a0:=isAgg0
 z0:=sizeOf0
 v0:=zeroValue0
 t4:=underlying4
 a4:=isAgg4
 z4:=sizeOf4
 v4:=zeroValue4
 t5:=underlying5
 a5:=isAgg5
 z5:=sizeOf5
 v5:=zeroValue5
 t9:=underlying9
 a9:=isAgg9
 z9:=sizeOf9
 v9:=zeroValue9
 t20:=underlying20
 a20:=isAgg20
 z20:=sizeOf20
 v20:=zeroValue20
 t37:=underlying235
 a37:=isAgg235
 z37:=sizeOf235
 v37:=zeroValue235
 t70:=underlying263
 a70:=isAgg263
 z70:=sizeOf263
 v70:=zeroValue263
 t72:=underlying265
 a72:=isAgg265
 z72:=sizeOf265
 v72:=zeroValue265
 t75:=underlying298
 a75:=isAgg298
 z75:=sizeOf298
 v75:=zeroValue298
 t164:=underlying317
 a164:=isAgg317
 z164:=sizeOf317
 v164:=zeroValue317 }
def Tryz.YU:Go.Shelf.Ren:=⟨λ| 166=>247|167=>259|168=>262|240=>254|276=>266|242=>273|278=>278|n=>n,λ| 37=>235|70=>263|72=>265|75=>298|80=>145|164=>317|46=>181|51=>254|n=>n,λ| n=>n⟩
def Tryz.iP:Go.Proofs.Lays.n168 prog Tryz.YU:={
 mixed:=by kernel_rfl
 f168:=func262.trans (congrArg some kM)
 f240:=func254.trans (congrArg some kM)
 f242:=func273.trans (congrArg some kM)
 f276:=func266.trans (congrArg some kM)
 f278:=func278.trans (congrArg some kM)
 t0:=underlying0
 a0:=isAgg0
 z0:=sizeOf0
 v0:=zeroValue0
 t3:=underlying3
 a3:=isAgg3
 z3:=sizeOf3
 v3:=zeroValue3
 t4:=underlying4
 a4:=isAgg4
 z4:=sizeOf4
 v4:=zeroValue4
 t5:=underlying5
 a5:=isAgg5
 z5:=sizeOf5
 v5:=zeroValue5
 t9:=underlying9
 a9:=isAgg9
 z9:=sizeOf9
 v9:=zeroValue9
 t20:=underlying20
 a20:=isAgg20
 z20:=sizeOf20
 v20:=zeroValue20
 t21:=underlying21
 a21:=isAgg21
 z21:=sizeOf21
 v21:=zeroValue21
 t37:=underlying235
 a37:=isAgg235
 z37:=sizeOf235
 v37:=zeroValue235
 t46:=underlying181
 a46:=isAgg181
 z46:=sizeOf181
 v46:=zeroValue181
 t51:=underlying254
 a51:=isAgg254
 z51:=sizeOf254
 v51:=zeroValue254
 t70:=underlying263
 a70:=isAgg263
 z70:=sizeOf263
 v70:=zeroValue263
 t72:=underlying265
 a72:=isAgg265
 z72:=sizeOf265
 v72:=zeroValue265
 t75:=underlying298
 a75:=isAgg298
 z75:=sizeOf298
 v75:=zeroValue298
 t164:=underlying317
 a164:=isAgg317
 z164:=sizeOf317
 v164:=zeroValue317 }
def Rh(w:AB)(os:Array Obj):Nw w (Go.Sort.grow w os):=
 ⟨rfl,rfl,rfl,by simp[Go.Sort.grow],λi hi _=>by simp[Go.Sort.grow,Array.getElem?_append_left hi]⟩
def Zd(n:Int)(I : -9223372036854775808<=n)(h1:n<=9223372036854775807)(N:Lib.TabIs prog w "internal/strconv.uint64pow10" .u64 Lib.pow10Tab):S7 n w:=
 (Any.strconv_FormatInt_10 Tryz.Pu n I h1 w N).mono λe w' h=>by
   obtain⟨Z,k,os,rfl⟩:=h;exact⟨_,Z,by have:=Lib.itoa_length_le n I h1;simpa[ByteArray.size]using this,(gA ((gz w).drewN k)).trans (Rh _ os)⟩
def YR(s:AA)(hs:s.size<=maxLen)(I:Lib.Utf8Tabs 1 2 w):Calls prog 229 #[s] w λe w'=>e=.returned (Lib.validD s.data.toList)/\Nw w w':=
 (Any.utf8_ValidString Tryz.kv s w (an hs oN) I).mono λe w' h=>⟨h.1,Sb.new h.2⟩
variable{W:AB}
def RN(h:G5 w W)(I:Lib.TabIs prog w "internal/strconv.uint64pow10" .u64 Lib.pow10Tab):Lib.TabIs prog W "internal/strconv.uint64pow10" .u64 Lib.pow10Tab:=by
 have N:prog.globalNamed "internal/strconv.uint64pow10" =some 3:=kM
 unfold Lib.TabIs World.var? at *;rw[N]at I ⊢;simp only[Option.bind_some]at I ⊢;rw[h 3 oN];exact I
def PL(h:G5 w W)(I:Lib.Utf8Tabs 1 2 w):Lib.Utf8Tabs 1 2 W:=by
 have N:∀b o,b<6->W.cell? ⟨b,o,none⟩=w.cell? ⟨b,o,none⟩:=λb o Z=>fi (w:=w) (a:=⟨b,o,none⟩) (h b Z)
 exact⟨λc h=>(N 1 _ oN).trans (I.1 c h),λi h=>⟨(N 2 _ oN).trans (I.2 i h).1,(N 2 _ oN).trans (I.2 i h).2⟩⟩
def Pz:Go.Pinned.utf8First=Lib.firstData:=kM
def RE:(Rows.laid_unicode_utf8_acceptRanges:DataW Unit)=Lib.acceptData:=kM
def Uv:(Rows.laid_internal_strconv_uint64pow10:DataW Unit)=Lib.tabData .u64 Lib.pow10Tab:=kM
def n0:prog.globalNamed "unicode/utf8.first" =some 1:=kM
def n1:prog.globalNamed "unicode/utf8.acceptRanges" =some 2:=kM
def n3:prog.globalNamed "internal/strconv.uint64pow10" =some 3:=kM
def n5:prog.globalNamed "math/bits.deBruijn64tab" =some 5:=kM
def ty0:(prog.globals[1]?).map (·.type)=some 293:=kM
def ty1:(prog.globals[2]?).map (·.type)=some 296:=kM
def ty3:(prog.globals[3]?).map (·.type)=some 320:=kM
def c5:prog.cellsOf 5=1:=kM
def Yn:prog.cellsOf 24=1:=kM
def Xm:prog.cellsOf 293=256:=kM
def O5:prog.cellsOf 295=2:=kM
def Wa:prog.cellsOf 320=20:=kM
abbrev ED:List (String × DataW Unit):=[("math/bits.deBruijn32tab",Rows.laid_math_bits_deBruijn32tab),("math/bits.deBruijn64tab",Rows.laid_math_bits_deBruijn64tab),("internal/strconv.uint64pow10",Rows.laid_internal_strconv_uint64pow10),("unicode/utf8.acceptRanges",Rows.laid_unicode_utf8_acceptRanges),("unicode/utf8.first",Rows.laid_unicode_utf8_first)]
def RS(h3:Lib.VarReads prog w "unicode/utf8.first" Lib.firstData) (h4:Lib.VarReads prog w "unicode/utf8.acceptRanges" Lib.acceptData):Lib.Utf8Tabs 1 2 w:=by
 refine⟨λc hc=>?_,λi hi=>?_⟩
 ·obtain ⟨g,t,cs,a1,p,hg,a0,I,hd⟩:=h3
  obtain rfl:=Option.some.inj (n0.symm.trans hg);obtain rfl:=Option.some.inj (ty0.symm.trans a0);have N:=Lib.cells_of_tab underlying293 underlying5 c5 Xm hd;rw[World.var?_cell hg I c,<-bW,N];simp[Lib.firstTab,hc]
 obtain⟨g,t,cs,a1,p,hg,a0,I,hd⟩:=h4;obtain rfl:=Option.some.inj (n1.symm.trans hg);obtain rfl:=Option.some.inj (ty1.symm.trans a0);obtain⟨a3,d,q,a2,he⟩:=Lib.array_elem underlying296 hd i hi;simp only[List.getElem?_map,List.getElem?_range hi,Option.map_some,Option.some.injEq]at a2;subst a2;rw[O5]at he;have N:=Lib.ints_of_struct underlying295 (λj f Z=>by
  match j,Z with
  |0,Z=>simp at Z;subst Z;exact⟨underlying5,rfl,c5⟩
  |1,Z=>simp at Z;subst Z;exact⟨underlying5,rfl,c5⟩
  |j+2,Z=>simp at Z) (by rw[O5];rfl) he
 have e0:=congrArg (·[0]?) N;have e1:=congrArg (·[1]?) N;simp only[List.getElem?_take,List.getElem?_drop]at e0 e1;constructor
 ·rw [World.var?_cell hg I (2*i),←bW]
  simpa[Nat.mul_comm]using e0
 rw[World.var?_cell hg I (2*i+1),<-bW];simpa[Nat.mul_comm]using e1
def Rx(h:Lib.VarReads prog w "internal/strconv.uint64pow10" (Lib.tabData .u64 Lib.pow10Tab)):Lib.TabIs prog w "internal/strconv.uint64pow10" .u64 Lib.pow10Tab:=by
 obtain⟨g,t,cs,Z,p,hg,N,I,hd⟩:=h;obtain rfl:=Option.some.inj (n3.symm.trans hg);obtain rfl:=Option.some.inj (ty3.symm.trans N);unfold Lib.TabIs;rw[I,<-Lib.cells_of_tab underlying320 underlying24 Yn Wa hd]
def Y8{d:DataW Unit}(h:Lib.VarReads prog w "math/bits.deBruijn64tab" d):6<=w.heap.size:=by
 obtain⟨g,t,cs,N,p,hg,Z,I,hd⟩:=h;unfold World.var? at I;rw[n5,dW]at I;have:(w.heap[5]?).isSome:=by
  cases hh:w.heap[5]? with
  |none=>rw[hh]at I;cases I
  |some o=>rfl
 have:=(aA.1 (Option.some_get this).symm).1;omega
def kK(h:laidMetH prog ED w):DD w:=by
 have I:laidMet prog ED w:=h;have Z:=Lib.laidMet.reads I (n:= "unicode/utf8.first") (d:=Rows.laid_unicode_utf8_first) (by simp[ED]);have ha:=Lib.laidMet.reads I (n:= "unicode/utf8.acceptRanges") (d:=Rows.laid_unicode_utf8_acceptRanges) (by simp[ED]);have hp:=Lib.laidMet.reads I (n:= "internal/strconv.uint64pow10") (d:=Rows.laid_internal_strconv_uint64pow10) (by simp[ED]);have hb:=Lib.laidMet.reads I (n:= "math/bits.deBruijn64tab") (d:=Rows.laid_math_bits_deBruijn64tab) (by simp[ED]);rw[show Rows.laid_unicode_utf8_first=Lib.firstData from Pz]at Z;rw[RE]at ha;rw[Uv]at hp;exact⟨Y8 hb,λW N n h0 h1=>Zd n h0 h1 (RN N (Rx hp)),λW N s hs=>YR s hs (PL N (RS Z ha))⟩
def La(ρ:Go.Shelf.Ren)(h72:ρ.t 72=265)(h5:ρ.t 5=5):Builder.Extra prog ρ where
 sizeBuilder:=by rw[h72];kernel_rfl
 liesBuilder:=by rw[h72];kernel_rfl
 t5:=by rw[h5];exact underlying5
 a5:=by rw[h5];exact isAgg5
 z5:=by rw[h5];exact sizeOf5
 v5:=by rw[h5];exact zeroValue5
 infoByte:=by rw[h5];kernel_rfl
 cellsByte:=by rw[h5];kernel_rfl
 sizeByte:=by rw[h5];kernel_rfl
 neB5:=by rw[h72,h5];decide
abbrev Cc(B b:Nat)(bs:List Value)(w:AB):Prop:=Lib.IsBuilderF 265 5 B b bs w
variable{bs:List Value}
def F3{B b:Nat}(c:Int)(h:Cc B b bs w)(N:bs.length+1<=140737488355328)(I:B<=w.heap.size) :
  Calls prog 259 #[.pointer (some b),.int .u8 c] w λe w'=>e=.returned .nilIface/\Cc B b (bs++[.int .u8 c]) w'/\Below B w w'/\Lib.OthersKept 5 (some b) w w':=
 (Any.Builder_WriteByte_k Tryz.Yy (La _ rfl rfl) B b bs c w h N I).mono λe w' h=>⟨h.1,.inr h.2.1,h.2.2.1,h.2.2.2⟩
def UK{B b:Nat}(s:AA)(h:Cc B b bs w)(N:bs.length+s.size<=140737488355328)(I:B<=w.heap.size) :
  Calls prog 247 #[.pointer (some b),s] w λe w'=>(∃r,e=.returned r)/\Cc B b (bs++Lib.strCells s) w'/\Below B w w'/\Lib.OthersKept 5 (some b) w w':=
 (Any.Builder_WriteString_k Tryz.pR (La _ rfl rfl) B b bs s w h N I).mono λe w' h=>⟨⟨_,h.1⟩,.inr h.2.1,h.2.2.1,h.2.2.2⟩
def NR{B b:Nat}(r:Int)(Z : -2147483648<=r)(N:r<=2147483647)(h:Cc B b bs w)(hl:bs.length+4<=140737488355328)(I:B<=w.heap.size) :
  Calls prog 262 #[.pointer (some b),.int .i32 r] w λe w'=>e=.returned (.tuple #[.int .i64 (Lib.runeCells r).length,.nilIface])/\Cc B b (bs++Lib.runeCells r) w'/\Below B w w'/\Lib.OthersKept 5 (some b) w w':=
 (Any.Builder_WriteRune_k Tryz.iP (La _ rfl rfl) B b bs r Z N w h hl I).mono λe w' h=>⟨h.1,.inr h.2.1,h.2.2.1,h.2.2.2⟩
def Gx(w:AB):Prop:=∀W,G5 w W->∀s:AA,Calls prog 272 #[.string s] W λe w'=>e=.returned (.tuple #[.int .i32 (Lib.decodeGo s).1,.int .i64 (Lib.decodeGo s).2])/\Nw W w'
def iW(h:laidMetH prog ED w):Gx w:=λW hW s=>by
 have N:laidMet prog ED w:=h;have I:=Lib.laidMet.reads N (n:= "unicode/utf8.first") (d:=Rows.laid_unicode_utf8_first) (by simp[ED]);have Z:=Lib.laidMet.reads N (n:= "unicode/utf8.acceptRanges") (d:=Rows.laid_unicode_utf8_acceptRanges) (by simp[ED]);rw[show Rows.laid_unicode_utf8_first=Lib.firstData from Pz]at I;rw[RE]at Z;exact(Any.utf8_DecodeRuneInString Tryz.Zr s W (PL hW (RS I Z))).mono λe w' h=>⟨h.1,Sb.new h.2⟩
variable{H:Nat->Prop}{w':AB}
def Gx.sb(h:Gx w)(N:6<=w.heap.size)(k:Sb H w w')(Z:∀b,b<6->¬H b):Gx w':=λW I=>h W ((k.g5 N Z).trans I)
def EA(r:Int):Bool:=decide (32<=r)&&r != 34&&r != 92
def kF(w:AB)(r:Int):Calls prog 261 #[.int .i32 r] w λe w'=>e=.returned (EA r)/\w'=w:=by
 by_cases h1:32<=r
 ·by_cases h2:r=34
  ·subst h2
   go_in;go_wp2_with fail;go_ret;exact⟨rfl,rfl⟩
  have g1:decide ((32:Int)<=r)=true:=eO h1;have g2:(r != 34)=true:=by simpa using h2
  by_cases I:r=92
  ·subst I
   go_in;go_wp2_with fail;go_ret;exact⟨rfl,rfl⟩
  have N:(r != 92)=true:=by simpa using I
  have hs:EA r=true:=by simp[EA,h1,h2,I]
  rw[hs];go_in;go_wp2_with fail;go_ret;exact⟨rfl,rfl⟩
 have g1:decide ((32:Int)<=r)=false:=eM h1;have hs:EA r=false:=by simp[EA,h1]
 rw[hs];go_in;go_wp2_with fail;go_ret;exact⟨rfl,rfl⟩
def Ca(s:AA):Nat->Nat->List (Nat × Nat)
 |0,_=>[]
 |f+1,p=>if s.size<=p then[]else if Utf8.decode s p=(65533,1)then[]else(p,(Utf8.decode s p).1)::Ca s f (p+(Utf8.decode s p).2)
def CW(s:AA):List (Nat × Nat):=Ca s s.size 0
def Jt{s:AA}{p:Nat}(h:p<s.size):1<=(Utf8.decode s p).2/\p+(Utf8.decode s p).2<=s.size/\(Utf8.decode s p).1<=1114111:=by
 refine⟨Lib.width_pos s p,?_,Lib.rune_le s p⟩;have:=Lib.decodeN_le_n (s.size-p) (s.get! p).toNat (s.get! (p+1)).toNat (s.get! (p+2)).toNat (s.get! (p+3)).toNat oM;rw[Lib.decode_at];omega
def I7(s:AA):∀(f p:Nat),(Ca s f p).length<=s.size-p
 |0,p=>aw _
 | f+1,p=>by
   unfold Ca;split
   .simp
   split
   .simp
   have:=I7 s f (p+(Utf8.decode s p).2);have:=Jt (s:=s) (p:=p) oM;simp only[List.length_cons];omega
def OL{s:AA}:∀{f p:Nat} {x:Nat × Nat},x∈Ca s f p->x.2<=1114111/\x.1<s.size
 |0,p,x,h=>by cases h
 | f+1,p,x,h=>by
   unfold Ca at h;split at h
   .cases h
   split at h
   .cases h
   rcases aH.1 h with rfl|h
   .exact ⟨Lib.rune_le s p,by show p<_;omega⟩
   exact OL h
def U6{s:AA}{f p:Nat}(h:s.size<=p):Ca s f p=[]:=by
 cases f with
 |zero=>rfl
 |succ f=>rw[Ca,eN h]
def Ox{s:AA}{f p:Nat}(h:Utf8.decode s p=(65533,1)):Ca s f p=[]:=by
 cases f with
 |zero=>rfl
 |succ f=>rw[Ca,eN h,ite_self]
def M9{s:AA}{f p:Nat}(N:p<s.size)(I:s.size<=p+f)(h:Utf8.decode s p≠(65533,1)):Ca s f p=(p,(Utf8.decode s p).1)::Ca s (f-1) (p+(Utf8.decode s p).2):=by
 cases f with
 |zero=>omega
 |succ f=>rw[Ca,eL oM,eL h];rfl
def DR(r:Nat):Option Nat:=if r=34 then some 34 else if r=92 then some 92 else if r=8 then some 98 else if r=9 then some 116 else if r=10 then some 110 else if r=12 then some 102 else if r=13 then some 114 else none
def EJ(k:Nat):UInt8:=if k<10 then(48+k).toUInt8 else(87+k).toUInt8
def DL(r:Nat):List UInt8:=if EA r then Lib.encodeRune r else match DR r with
 |some c=>[92,c.toUInt8]
 |none=>[92,117,48,48,EJ (r/16),EJ (r%16)]
def CG(l:List (Nat × Nat)):List UInt8:=(l.map λx=>DL x.2).flatten
def C4(s:AA):List UInt8:=34::CG (CW s)++[34]
def IB(l:List (Nat × Nat))(x:Nat × Nat):CG (l++[x])=CG l++DL x.2:=by simp[CG]
def pd(r:Nat):(DL r).length<=6:=by
 unfold DL;split
 ·have:=Lib.runeCells_le r
  rw[Lib.runeCells_length]at this;omega
 split<;>simp
def Gu:∀l:List (Nat × Nat),(CG l).length<=6*l.length
 |[]=>by simp[CG]
 | x :: r=>by
   have:=Gu r;have:=pd x.2;simp only[CG,List.map_cons,List.flatten_cons,List.length_append,List.length_cons]at *;omega
def Wb(s:AA):(C4 s).length<=6*s.size+2:=by
 have h1:=Gu (CW s);have h2:=I7 s s.size 0;unfold C4 CW at *;simp only[List.length_cons,List.length_append,List.length_nil];omega
variable{P:Program}
def Dj{l n:Nat}{f:FuncId}{args:Array Value}{R:AC->AB->Prop}(h:Calls P f args w R):CallsIn (Fence.wide.inRound l) n P f args w R:=eR.2 h
def pg{α:Type}(P:Program)(l:Nat)(encs:α->Array Value)(K:Nat->Prop)(G:List α->α->AB->AB->Prop)(J Jx:List α->AB->Prop):Prop:=
 ∀pre x W0 W1,J pre W0->Nw W0 W1->G pre x W0 W1->YieldAt Fence.wide 4 P l (encs x) W1 λe W'=>
  (e=.returned (.bool true)/\J (pre++[x]) W'/\Agree K W1 W'/\W1.heap.size<=W'.heap.size)\/(e=.returned (.bool false)/\Jx (pre++[x]) W')
def Na{α:Type}(P:Program)(g:Nat)(lb:Array Value)(encs:α->Array Value)(K:Nat->Prop)(G:List α->α->AB->AB->Prop)(S Sp:List α->Prop)(w0:AB):Prop:=
 ∀(l:Nat) (J Jx:List α->AB->Prop) (W:AB),pg P l encs K G J Jx->Agree K w0 W->w0.heap.size<=W.heap.size->J [] W->
  Calls P g (#[.func (.yield l) #[] #[]]++lb) W λe W'=>(∃v,e=.returned v)/\((∃xs W0,S xs/\J xs W0/\Nw W0 W')\/(∃pre W0,Sp pre/\Jx pre W0/\Nw W0 W'))
def ZD{α:Type}(K:Nat->Prop)(I:List α->AB->Prop)(Ix:Code->List α->AB->Prop)(xs:List α)(W:AB):Exit->Act->AB->Prop
 |.normal,_,W'=>I xs W'/\Agree K W W'/\W.heap.size<=W'.heap.size
 |.ret,_,W'=>Agree K W W'/\Ix .ret xs W'
 |.exit id,_,W'=>Agree K W W'/\Ix (.exit id) xs W'
 |.goto t,_,W'=>Agree K W W'/\Ix (.goto t) xs W'
 |.panic _,_,_=>False
 |.outgrown,_,_=>False
variable{n gf:Nat}{assign body:Code}{Q:Exit->Act->AB->Prop}{a:Act}{w0:AB}
def U1{α:Type}{g:Operand}{ps:Array Tmp} 
 {lb:Array Value} (hg:a.eval g=.func (.func gf) #[] lb) (eg:∀ args w,(callFunc gf args).run P w=.ok (.enter gf args) w)
  {encs:α->Array Value} {K:Nat->Prop} {G:List α->α->AB->AB->Prop} {S Sp:List α->Prop} (hseq:Na P gf lb encs K G S Sp w0)
  (hA:Agree K w0 w) (hsz:w0.heap.size<=w.heap.size) (hK:∀b,K b->b<w.heap.size) (hps:∀x,(encs x).size=ps.size)
  (I:List α->AB->Prop) (Ix:Code->List α->AB->Prop)
  (hI:∀{s W W'},I s W->Sb (λb=>b=w.heap.size+1) W W'->(∃r,W.heap[w.heap.size+1]? = some (.loop r))->(∃r,W'.heap[w.heap.size+1]? = some (.loop r))->I s W') (hIx:∀{c s W W'},Ix c s W->Sb (λb=>b=w.heap.size+1) W W'->(∃r,W.heap[w.heap.size+1]? = some (.loop r))->(∃r,W'.heap[w.heap.size+1]? = some (.loop r))->Ix c s W')
  (h0:∀W,Ext w W->w.heap.size+2<=W.heap.size->I [] W)
  (hround:∀(pre:List α) (x:α) (W0 W1:AB),I pre W0->w.heap.size+2<=W0.heap.size->Nw W0 W1->G pre x W0 W1->
    assign.wpIn (Fence.wide.inRound (w.heap.size+1)) 4 P (Exit.then (λa1 W2=>Nw W1 W2/\∀W3,Sb (λb=>b=w.heap.size+1) W2 W3->(∃r,W2.heap[w.heap.size+1]? = some (.loop r))->(∃r,W3.heap[w.heap.size+1]? = some (.loop r))->W3.heap[w.heap.size]? = some (.deferred (some []))->body.wpIn (Fence.wide.inRound (w.heap.size+1)) 4 P (ZD (λb=>K b\/b=w.heap.size\/b=w.heap.size+1) I Ix (pre++[x]) W3) a1 W3) (λ_ _ _=>False))
     { tmps:=(ps.zip (encs x)).foldl (λt (p,v)=>t.setIfInBounds p v) a.tmps,defers:=[] } W1)
  (hdone:∀(D:Nat) (xs:List α) (W:AB),D=w.heap.size->S xs->I xs W->W.heap[D]? = some (.deferred (some []))->Q .normal { a with defers:={ target:=.collected D,args:=#[] }::a.defers } W)
  (hstop:∀(D:Nat) (c:Code) (pre:List α) (W:AB),D=w.heap.size->Sp pre->Ix c pre W->W.heap[D]? = some (.deferred (some []))->c.wpIn Fence.wide n P Q { a with defers:={ target:=.collected D,args:=#[] }::a.defers } W) :
  (Code.rangeFunc g ps assign body).wpIn Fence.wide n P Q a w:=by
 refine wpIn_rangeFunc λfn hfn=>?_
 rw[show Fence.wide.round=none from rfl]
 let rec_:LoopState->Option Code->Obj:=λst pe=>.loop { state:=st,pending:=pe,fn,tmps:=a.tmps,params:=ps,assign,body,defers:=w.heap.size }
 let BK:LoopState->Option Code->AB->Prop:=λst pe W=>W.heap[w.heap.size+1]? = some (rec_ st pe)/\W.heap[w.heap.size]? = some (.deferred (some []))
 have bkL:∀{st pe W},BK st pe W->w.heap.size+1<W.heap.size:=λh=>(aA.1 h.1).1
 have bkr:∀{st pe W},BK st pe W->∃r,W.heap[w.heap.size+1]? = some (.loop r):=λh=>⟨_,h.1⟩
 have bkE:∀{st pe W W'},BK st pe W->Nw W W'->BK st pe W':=λh he=>⟨(he.block _ (aA.1 h.1).1 (λe=>e)).trans h.1,(he.block _ (aA.1 h.2).1 (λe=>e)).trans h.2⟩
 have bkS:∀{st pe W W'} {C:Nat->Prop},BK st pe W->Agree C W W'->C (w.heap.size+1)->C w.heap.size->BK st pe W':=λh hk h1 h2=>⟨(hk _ h1).trans h.1,(hk _ h2).trans h.2⟩
 have bkP:∀{st pe W} (st':LoopState) (pe':Option Code),BK st pe W->BK st' pe' (W.putObj (w.heap.size+1) (rec_ st' pe'))/\Sb (λb=>b=w.heap.size+1) W (W.putObj (w.heap.size+1) (rec_ st' pe')):=λst' pe' h=>
  ⟨⟨World.putObj_heap_same (aA.1 h.1).1,(fC oM).trans h.2⟩,(St.put h.1 rfl rfl).sb⟩
 have e1:Ext w (w.alloc (.deferred (some []))):=II w _ λW i j h=>by simp[World.frozen?,h]
 have e2:Ext (w.alloc (.deferred (some []))) ((w.alloc (.deferred (some []))).alloc (rec_ .ready none)):=II _ _ λW i j h=>by simp[World.frozen?,h,rec_]
 have hrun:=run_enterLoop_outer (P:=P) (w:=w) fn a.tmps ps assign body;have bk1:BK .ready none ((w.alloc (.deferred (some []))).alloc (rec_ .ready none)):=
  ⟨by have:=fB (w.alloc (.deferred (some []))) (rec_ .ready none);rwa[eQ]at this,(fe _ _ _ oO).trans (fB w _)⟩
 have eW:=e1.trans e2;have hs1:w.heap.size+2<=((w.alloc (.deferred (some []))).alloc (rec_ .ready none)).heap.size:=oO
 change _=Result.ok _ ((w.alloc (.deferred (some []))).alloc (rec_ .ready none))at hrun;generalize (w.alloc (.deferred (some []))).alloc (rec_ .ready none)=W1 at *;refine⟨w.heap.size+1,_,W1,{ target:=.fn (.func gf) lb,args:=#[.func (.yield (w.heap.size+1)) #[] #[]] },W1,gf,#[.func (.yield (w.heap.size+1)) #[] #[]]++lb,W1,hrun,?_,?_,?_,λh=>by simp[Fence.wide]at h,?_⟩
 ·simp only [resolve,hg]
  simp[go_sem]
 .intro f' hf';trivial
 .simp [invoke,go_sem,eg]
 refine eR.2 ((hseq (w.heap.size+1) (λpre W=>I pre W/\BK .ready none W) (λpre W=>∃c,Ix c pre W/\BK .done (some c) W) W1 ?_ (hA.trans (eW.agree hK)) (an hsz eW.size) ⟨h0 W1 eW hs1,bk1⟩).mono ?_)
 ·rintro pre x W0 Wy ⟨hi,hbk⟩ hx hgd
  have hbk1:=bkE hbk hx;have hl0:=bkL hbk;refine⟨fn,_,assign,body,run_yield (args:=encs x) hbk1.1 (hps x),roundIn_of_wpIn hfn (gw (hround pre x W0 Wy hi oM hx hgd) ?_)⟩;rintro e a3 W2 hp;cases e with
  | normal=>
    obtain⟨hx2,hb⟩:=hp;have hbk2:=bkE hbk1 hx2;obtain⟨hbk3,ht3⟩:=bkP .busy none hbk2;refine⟨_,run_beginRound hbk2.1 rfl,gw (hb _ ht3 (bkr hbk2) (bkr hbk3) hbk3.2) ?_⟩;have hl3:=bkL hbk3;have hl2:=bkL hbk2;have hl1:=bkL hbk1;generalize W2.putObj (w.heap.size+1) (rec_ .busy none)=W3 at *;rintro e a4 W4 hq;cases e with
    | normal=>
      obtain⟨hi4,hst,hlt4⟩:=hq;have hbk4:=bkS hbk3 hst (.inr (.inr rfl)) (.inr (.inl rfl));obtain⟨hbk5,ht5⟩:=bkP .ready none hbk4;refine⟨_,_,fu none hbk4.1,.inl ⟨rfl,⟨hI hi4 ht5 (bkr hbk4) (bkr hbk5),hbk5⟩,λb hb=>?_,?_⟩⟩
      ·have hbw:=hK b hb
       have h1:=hx2.block b oM (λe=>e);have h2:=ht3.block b oM (λe=>oM);have h3:=hst b (.inl hb);have h4:=ht5.block b (by have:=bkL hbk4;omega) (λe=>oM);exact h4.trans (h3.trans (h2.trans h1))
      have:=hx2.size;have:=ht3.size;simp;omega
    | ret=>
      have hbk4:=bkS hbk3 hq.1 (.inr (.inr rfl)) (.inr (.inl rfl));obtain⟨hbk5,ht5⟩:=bkP .done (some .ret) hbk4;exact⟨_,_,fu (some .ret) hbk4.1,.inr ⟨rfl,.ret,hIx hq.2 ht5 (bkr hbk4) (bkr hbk5),hbk5⟩⟩
    | exit id=>
      have hbk4:=bkS hbk3 hq.1 (.inr (.inr rfl)) (.inr (.inl rfl));obtain⟨hbk5,ht5⟩:=bkP .done (some (.exit id)) hbk4;exact⟨_,_,fu (some (.exit id)) hbk4.1,.inr ⟨rfl,.exit id,hIx hq.2 ht5 (bkr hbk4) (bkr hbk5),hbk5⟩⟩
    | goto t=>
      have hbk4:=bkS hbk3 hq.1 (.inr (.inr rfl)) (.inr (.inl rfl));obtain⟨hbk5,ht5⟩:=bkP .done (some (.goto t)) hbk4;exact⟨_,_,fu (some (.goto t)) hbk4.1,.inr ⟨rfl,.goto t,hIx hq.2 ht5 (bkr hbk4) (bkr hbk5),hbk5⟩⟩
    |panic ch=>exact hq.elim
    |outgrown=>exact hq.elim
  |ret=>exact hp.elim
  |exit id=>exact hp.elim
  |goto t=>exact hp.elim
  |panic ch=>exact hp.elim
  |outgrown=>exact hp.elim
 rintro e W2 ⟨⟨v,rfl⟩,(⟨xs,W0,hS,⟨hi,hbk⟩,hx⟩ |⟨pre,W0,hSp,⟨c,hi,hbk⟩,hx⟩)⟩
 ·have hbk2:=bkE hbk hx
  have hbk0:=hbk;obtain⟨hbk5,ht5⟩:=bkP .exhausted none hbk2;exact⟨none,_,gm hbk2.1 oO,hdone _ xs _ rfl hS (hI hi ((hx.any _).trans ht5) (bkr hbk0) (bkr hbk5)) hbk5.2⟩
 have hbk2:=bkE hbk hx;have hbk0:=hbk;obtain⟨hbk5,ht5⟩:=bkP .exhausted (some c) hbk2;exact⟨some c,_,gm hbk2.1 oO,hstop _ c pre _ rfl hSp (hIx hi ((hx.any _).trans ht5) (bkr hbk0) (bkr hbk5)) hbk5.2⟩
abbrev fT:=@callsIn_of_wp
attribute [local go_sem] Oper.semAt_some
def gO(w:AB)(s:AA):Calls prog 260 #[s] w λe w'=>e=.returned (.func (.func 271) #[] #[.pointer (some w)])/\Ext w w'/\AE w' w.heap.size 9 #[.string s]:=by
 go_in;go_wp2_with fail;go_ret;exact⟨rfl,(gz w).alloc _ _,gB w _ _⟩
abbrev PF(x:Nat × Nat):Array Value:=#[.int .i64 (x.1:Int),.int .i32 (x.2:Int)]
def ON(s:AA)(xs:List (Nat × Nat)):Prop:=xs=CW s
def Wn(s:AA)(pre:List (Nat × Nat))(x:Nat × Nat)(W0 W1:AB):Prop:=(CW s)[pre.length]? = some x
structure Gh(s:AA)(J:List (Nat × Nat)->AB->Prop)(K:Nat->Prop)(W:AB)(p f:Nat)(pre:List (Nat × Nat))(Wj wr:AB):Prop where
 inv:J pre Wj
 nw:Nw Wj wr
 pre_:CW s=pre++Ca s f p
 few:s.size<=p+f
 ag:Agree K W wr
 sz:W.heap.size<=wr.heap.size
def Gh.grow{s:AA}{J:List (Nat × Nat)->AB->Prop}{K:Nat->Prop}{p f:Nat}{pre:List (Nat × Nat)}{Wj wr w6:AB}(h:Gh s J K W p f pre Wj wr)(N:∀b,K b->b<W.heap.size)(k:Nw wr w6):Gh s J K W p f pre Wj w6:=
 ⟨h.inv,h.nw.trans k,h.pre_,h.few,h.ag.trans (k.agree λb I=>ab (N b I) h.sz),an h.sz k.size⟩
def V0{s:AA}{J:List (Nat × Nat)->AB->Prop}{K:Nat->Prop}{p f r z:Nat}{pre:List (Nat × Nat)}{Wj wr w6:AB}(h:Gh s J K W p f pre Wj wr)(hp:p<s.size)(hd:Utf8.decode s p=(r,z))(hz:1<=z)(Z:Utf8.decode s p≠(65533,1))
  (I:J (pre++[(p,r)]) w6) (N:Agree K wr w6) (hs:wr.heap.size<=w6.heap.size):Gh s J K W (p+z) (f-1) (pre++[(p,r)]) w6 w6:=by
 refine⟨I,gE _ _,?_,?_,h.ag.trans N,an h.sz hs⟩
 .rw [h.pre_,M9 hp h.few Z,hd,aU];rfl
 have:=h.few;omega
def ot{s:AA}(hB:AE w0 B 9 #[.string s])(hD:Gx w0)(h6:6<=w0.heap.size)(hs:s.size<=1000000000000) :
  Na prog 271 #[.pointer (some B)] PF (λb=>b=B\/b<6) (Wn s) (ON s) (λ_=>True) w0:=by
 intro l J Jx W b6 hA b8 hJ;have c6:=hB.lt;have b3:∀b,(b=B\/b<6)->b<W.heap.size:=λb hb=>by rcases hb with rfl|hb<;>omega
 have a4:∀W1,Agree (λb=>b=B\/b<6) W W1->W.heap.size<=W1.heap.size->W1.cell? B=some (.string s)/\B<W1.heap.size/\G5 w0 W1:=λW1 hW hz=>
  ⟨(hW.cell (.inl rfl)).trans ((fi (w:=w0) (a:=⟨B,0,none⟩) (hA B (.inl rfl))).trans (hB.cell 0)),oM,
    λb hb=>(hW b (.inr hb)).trans (hA b (.inr hb))⟩
 have a3:∀W1 p r z,Agree (λb=>b=B\/b<6) W W1->W.heap.size<=W1.heap.size->p<s.size->Utf8.decode s p=(r,z)->Calls prog 272 #[.string (s.extract p s.size)] W1 λe w'=>e=.returned (.tuple #[.int .i32 (r:Int),.int .i64 (z:Int)])/\Nw W1 w':=λW1 p r z hW hz hp hd=>by
  have h:=hD W1 (a4 W1 hW hz).2.2 (s.extract p s.size);rw[Lib.decodeGo_extract s p hp,hd]at h;exact h
 obtain⟨c9,c7,HJ,b4,d3⟩:=Yf b6 a4 hJ a3 b3;clear b6 hA hJ hB a4 a3 hD h6 c6 b8 b3;show Calls _ _ #[.func (.yield l) #[] #[],.pointer (some B)] W _;refine(eR (n:=5)).1 ?_;refine fT func271 rfl trivial ?_ rfl;simp only[ntmps271,zL,Nat.reduceAdd,Nat.reduceSub];gi_wp2_with fail;gi_loopw [3] (λv wr=>∃(p f:Nat) (pre:List (Nat × Nat)) (Wj:AB),v=.int .i64 (p:Int)/\p<=s.size/\Yd (Gh s J (λb=>b=B\/b<6) W p f pre Wj wr)) (λv _=>s.size -(intOf v).toNat)
 case atStart=>exact⟨0,s.size,[],W,rfl,aw _,hY ⟨HJ.o,gE _ _,rfl,oM,Agree.refl _,ao _⟩⟩
 obtain⟨p,f,pre,Wj,rfl,hp,HS⟩:=hrel;obtain⟨c0,lB,-⟩:=c7.o wr HS.o.ag HS.o.sz;by_cases a1:p<s.size
 ·obtain ⟨r,z,hd⟩:∃ r z,Utf8.decode s p=(r,z):=⟨_,_,rfl⟩
  obtain⟨Z,a0,hr⟩:=Jt a1;rw[hd]at Z a0 hr;dsimp only at Z a0 hr;have a9:=b4.o wr p r z HS.o.ag HS.o.sz a1 hd;have g1:(p:Int)<(s.size:Int):=oM
  have g2:(0:Int)<=(p:Int):=oM
  have g3:(p:Int)<=(s.size:Int):=oM
  have g4:IntKind.i64.wrap ((p:Int)+(z:Int))=(p:Int)+(z:Int):=by rw[eS];omega
  obtain⟨b9,HD⟩:=Yb a9 hd;clear a9 hd;gi_wp2_with fail;refine⟨trivial,?_⟩;refine(eR.2 b9.o).mono ?_;rintro e w2 ⟨rfl,b0⟩;have N:=hY (HS.o.grow d3.o b0);clear b0;by_cases I:r=65533/\z=1
  ·obtain ⟨rfl,rfl⟩:=I
   have HE:=hY (show ON s pre by show pre=CW s;rw[N.o.pre_,Ox HD.o,aY]);gi_wp2_with fail;refine eU (v:=.tuple #[]) (by simp[results,results271,go_sem]) rfl ?_;exact⟨⟨_,rfl⟩,.inl ⟨pre,Wj,HE.o,N.o.inv,N.o.nw⟩⟩
  have a5:Utf8.decode s p≠(65533,1):=by rw[HD.o];intro e;injection e with e1 e2;exact I ⟨e1,e2⟩
  have hy:=c9.o pre (p,r) Wj w2 N.o.inv N.o.nw (by show _[_]? = _;rw[N.o.pre_,M9 a1 N.o.few a5,HD.o,aO (ao _),cE];rfl);obtain⟨fn,d4,assign,body,hy,hR⟩:=hy;obtain⟨HR,d0,a7⟩:=Yc hR a5 Z;dsimp only[PF]at hy;clear hR a5;have b7:∀(e:AC) (w':AB),((e=.returned true/\J (pre++[(p,r)]) w'/\Agree (λb=>b=B\/b<6) w2 w'/\w2.heap.size<=w'.heap.size)\/(e=.returned false/\Jx (pre++[(p,r)]) w'))->
    (e=.returned true/\Yd (Gh s J (λb=>b=B\/b<6) W (p+z) (f-1) (pre++[(p,r)]) w' w'))\/(e=.returned false/\Jx (pre++[(p,r)]) w'):=by
   rintro e w' (⟨rfl,h1,h2,h3⟩ |⟨rfl,h1⟩)
   .exact .inl ⟨rfl,hY (V0 N.o a1 HD.o a7.o d0.o h1 h2 h3)⟩
   exact .inr ⟨rfl,h1⟩
  have b5:=hY b7;clear b7;by_cases a2:r=65533
  ·have c8:z≠1:=fun e=>I ⟨a2,e⟩
   have b1:((r:Int)==65533)=true:=by simp[a2]
   have b2:((z:Int)==1)=false:=by simp;omega
   clear a2 c8 I Z;gi_wp2_with fail;refine HR.o.mono ?_;intro e w6 h6;rcases b5.o e w6 h6 with⟨rfl,a8⟩ |⟨rfl,a6⟩
   ·clear h6 hy
    gi_wp2_with fail;go_roundw
    case rel=>exact⟨p+z,f-1,_,w6,by go_num,a0,a8⟩
    have:=a7.o;simp[intOf];omega
   clear h6 hy;gi_wp2_with fail;refine eU (v:=.tuple #[]) (by simp[results,results271,go_sem]) rfl ?_;exact⟨⟨_,rfl⟩,.inr ⟨_,w6,trivial,a6,gE _ _⟩⟩
  have b1:((r:Int)==65533)=false:=by simp;omega
  clear a2 I Z;gi_wp2_with fail;refine HR.o.mono ?_;intro e w6 h6;rcases b5.o e w6 h6 with⟨rfl,a8⟩ |⟨rfl,a6⟩
  ·clear h6 hy
   gi_wp2_with fail;go_roundw
   case rel=>exact⟨p+z,f-1,_,w6,by go_num,a0,a8⟩
   have:=a7.o;simp[intOf];omega
  clear h6 hy;gi_wp2_with fail;refine eU (v:=.tuple #[]) (by simp[results,results271,go_sem]) rfl ?_;exact⟨⟨_,rfl⟩,.inr ⟨_,w6,trivial,a6,gE _ _⟩⟩
 obtain rfl:p=s.size:=oM
 have HE:=hY (show ON s pre by show pre=CW s;rw[HS.o.pre_,U6 (ao _),aY]);have g1:¬(s.size:Int)<(s.size:Int):=oM
 gi_wp2_with fail;go_end0;exact⟨⟨_,rfl⟩,.inl ⟨pre,HE.o,Wj,HS.o.inv,HS.o.nw⟩⟩
end Go.Proofs.YtahhllcdbjbpbaaGreatDoor
namespace Go.Proofs.YtahhllcdbjbpbaaGreatDoor
open Go.Proofs.Tryz
open Go.RowKit Go.Maps Go.Shelf
def Fh:Keyed prog 21:=int_keyed (q:=.i32) underlying21
abbrev BY(D:DataW Unit)(r c:Int):DataW Unit:=D.put (.int .i32 r) (.lit (.int .i32 c))
def Iw:DataW Unit:=BY (BY (BY (BY (BY (BY (BY (.map []) 34 34) 92 92) 8 98) 9 116) 10 110) 12 102) 13 114
def Gq{D:DataW Unit}(I:IsMap D)(r c:Int):IsMap (BY D r c):=I.put _ _
def Gk{D:DataW Unit}(I:IsMap D)(r c x:Int):Maps.has (BY D r c) (.int .i32 x)=(decide (x=r)||Maps.has D (.int .i32 x)):=by
 by_cases h:x=r
 .subst h;rw[BY,has_put_same I (show WideAt.IsKeyLit (.int .i32 x)from trivial)];simp
 rw[BY,has_put_other (λe=>h (by injection e))];simp[h]
def Ga{D:DataW Unit}(I:IsMap D)(r c x:Int)(z:DataW Unit):(BY D r c).atKey (.int .i32 x) z=if x=r then .lit (.int .i32 c)else D.atKey (.int .i32 x) z:=by
 by_cases h:x=r
 .subst h;rw[BY,atKey_put_same I (show WideAt.IsKeyLit (.int .i32 x)from trivial),eN rfl]
 rw[BY,atKey_put_other (λe=>h (by injection e)),eL h]
def L2:IsMap (.map []:DataW Unit):=⟨_,rfl⟩
def No:IsMap (BY (.map []) 34 34):=Gq L2 _ _
def OA:IsMap (BY (BY (.map []) 34 34) 92 92):=Gq No _ _
def ND:IsMap (BY (BY (BY (.map []) 34 34) 92 92) 8 98):=Gq OA _ _
def OG:IsMap (BY (BY (BY (BY (.map []) 34 34) 92 92) 8 98) 9 116):=Gq ND _ _
def N2:IsMap (BY (BY (BY (BY (BY (.map []) 34 34) 92 92) 8 98) 9 116) 10 110):=Gq OG _ _
def Uo:IsMap (BY (BY (BY (BY (BY (BY (.map []) 34 34) 92 92) 8 98) 9 116) 10 110) 12 102):=Gq N2 _ _
def YL(r:Nat):Maps.has Iw (.int .i32 (r:Int))=(DR r).isSome:=by
 have I:Maps.has (.map []:DataW Unit) (.int .i32 (r:Int))=false:=rfl;rw[Iw,Gk Uo,Gk N2,Gk OG,Gk ND,Gk OA,Gk No,Gk L2,I];unfold DR
 repeat' split
 all_goals (try subst_vars)
 all_goals simp
 all_goals omega
def Vt(r:Nat):Iw.atKey (.int .i32 (r:Int)) (.lit (.int .i32 0))=.lit (.int .i32 (((DR r).getD 0:Nat):Int)):=by
 have I:(.map []:DataW Unit).atKey (.int .i32 (r:Int)) (.lit (.int .i32 0))=.lit (.int .i32 0):=rfl;rw[Iw,Ga Uo,Ga N2,Ga OG,Ga ND,Ga OA,Ga No,Ga L2,I];unfold DR
 repeat' split
 all_goals first|rfl |(exfalso;omega)
abbrev E2(w:AB)(M:Nat):Prop:=w.ownsMap prog 21 (plainElem prog 21) M 7 Iw
def FW(c:Int)(I:(Lit.int .i32 c).wf=true):plainElem (H:=Unit) prog 21 (.int .i32 c)=some (.lit (.int .i32 c),[]):=plainElem_int underlying21 I
def F0(c:Int)(I:(Lit.int .i32 c).wf=true):keyOf prog 21 (.int .i32 c)=some (.int .i32 c):=keyOf_int_mk underlying21 I
def lA(w:AB):Calls prog 263 #[] w λe w'=>e=.returned (.map (some w.heap.size))/\Nw w w'/\E2 w' w.heap.size:=by
 have b4:=@run_makeMap prog;have a2:=World.ownsMap_made w prog 21 (plainElem (H:=Unit) prog 21);obtain⟨w1,r1,a3,a7⟩:=a2.update Fh underlying307 oN (F0 34 oN) (FW 34 oN);obtain⟨w2,r2,N,b0⟩:=a3.update Fh underlying307 oN (F0 92 oN) (FW 92 oN);obtain⟨w3,r3,I,a9⟩:=N.update Fh underlying307 oN (F0 8 oN) (FW 98 oN);obtain⟨w4,r4,a0,b3⟩:=I.update Fh underlying307 oN (F0 9 oN) (FW 116 oN);obtain⟨w5,r5,a1,a8⟩:=a0.update Fh underlying307 oN (F0 10 oN) (FW 110 oN);obtain⟨w6,r6,a4,a6⟩:=a1.update Fh underlying307 oN (F0 12 oN) (FW 102 oN);obtain⟨w7,r7,Z,a5⟩:=a4.update Fh underlying307 oN (F0 13 oN) (FW 114 oN);have HM:=hY Z;clear a2 a3 N I a0 a1 a4 Z;go_in;go_wp2_with fail;go_ret;refine⟨rfl,?_,HM.o⟩;have h0:Nw w (w.alloc (.map #[] 0)):=Sb.made (World.grownBy_alloc _ _ _);exact((((((h0.comp (Sb.grown a7) λi hi e=>by have e:i=w.heap.size:=e;omega).comp (Sb.grown b0) λi hi e=>by have e:i=w.heap.size:=e;omega).comp (Sb.grown a9) λi hi e=>by have e:i=w.heap.size:=e;omega).comp (Sb.grown b3) λi hi e=>by have e:i=w.heap.size:=e;omega).comp (Sb.grown a8) λi hi e=>by have e:i=w.heap.size:=e;omega).comp (Sb.grown a6) λi hi e=>by have e:i=w.heap.size:=e;omega).comp (Sb.grown a5) λi hi e=>by have e:i=w.heap.size:=e;omega
attribute [local go_sem] Oper.semAt_some
structure Aw(w:AB):Prop where
 lib:DD w
 dec:Gx w
 num:∀W,G5 w W->∀n:Int,-9223372036854775808<=n->n<=9223372036854775807->Calls prog 235 #[.int .i64 n,.int .i64 10] W λe w'=>e=.returned (.string ⟨(Lib.itoa n).toArray⟩)/\Nw W w'
variable{H:Nat->Prop}{w w':AB}
def Aw.sb(h:Aw w)(k:Sb H w w')(I:∀b,b<6->¬H b):Aw w':=
 ⟨h.lib.sb k I,h.dec.sb h.lib.big k I,λW N=>h.num W ((k.g5 h.lib.big I).trans N)⟩
def Aw.nw(h:Aw w)(k:Nw w w'):Aw w':=h.sb k λ_ _ e=>e
def Bl(s:AA):AA:=if Lib.validD s.data.toList then⟨(C4 s).toArray⟩else ByteArray.empty
def kT(w:AB):(zeroValue 21).run prog w=.ok (.int .i32 0) w:=kM
variable{W:AB}
def U7{M:Nat}(h:E2 W M)(r:Nat)(hr:r<=1114111) :
  (Instr.lookup 307 (.map (some M)) (.int .i32 (r:Int)) true).run prog W=.ok (.tuple #[.int .i32 (((DR r).getD 0:Nat):Int),.bool (DR r).isSome]) W:=by
 obtain⟨v,ps,I,N⟩:=World.ownsMap.look_ok h Fh underlying307 (kT W) (FW 0 oN) (F0 r (by simp[Lit.wf,IntKind.min,IntKind.max,IntKind.signed,IntKind.bits];omega));rw[Vt]at N;rw[YL]at I;obtain⟨c,rfl,Z,-⟩:=plainElem_int_inv underlying21 N;have:=congrArg Prod.fst Z;simp only[DataW.lit.injEq,Lit.int.injEq,true_and]at this;rw[I,this]
def E2.set{M:Nat}(h:E2 W M){p:Addr}(I:M≠p.block)(u:Value):E2 (W.setCell p u) M:=IT h (ft _ _ _ _ I)
variable{bs:List Value}{W':AB}
def Cc.keep{B b x:Nat}(h:Cc B b bs W)(k:Sb (λi=>i=x) W W')(hb:b≠x)(hx:∀c Z,W.heap[x]?≠some (.cells c 5 Z)):Cc B b bs W':=by
 have hg:W.grownBy W' (some x):=⟨k.os,k.tape,k.output,k.size,λi hi hn=>k.block i hi λe=>hn (by rw[e])⟩;have N:∀p,Lib.BuilderAtF 265 5 B b p bs W->Lib.BuilderAtF 265 5 B b p bs W':=by
  rintro p ⟨h1,v,h2,h3,h4⟩;refine⟨h1,v,(k.block b (fU h2) hb).trans h2,h3.kept hg ?_,h4⟩;rcases h3.2 with⟨rfl,_⟩ |⟨g,a1,a0,Z,rfl,_,I,_⟩
  .exact .inl rfl
  refine .inr λe=>?_
  simp only[Value.ownBlock,Option.some.injEq]at e;subst e;exact hx _ _ I
 exact h.imp (N _) (N _)
def Cc.nw{B b:Nat}(h:Cc B b bs W)(k:Nw W W'):Cc B b bs W':=by
 have N:W.grownBy W' none:=⟨k.os,k.tape,k.output,k.size,λi hi _=>k.block i hi λe=>e⟩;have I:∀p,Lib.BuilderAtF 265 5 B b p bs W->Lib.BuilderAtF 265 5 B b p bs W':=by
  rintro p ⟨h1,v,h2,h3,Z⟩;refine⟨h1,v,(k.block b (fU h2) λe=>e).trans h2,h3.kept N ?_,Z⟩;cases v.ownBlock with
  |none=>exact .inl rfl
  |some x=>exact .inr oO
 exact h.imp (I _) (I _)
def Cc.lt{B b:Nat}(h:Cc B b bs W):b<W:=h.elim (λh=>h.lt) (λh=>h.lt)
structure QK(B:Nat)(w w':AB):Prop where
 os:w'.os=w.os
 tape:w'.tape=w.tape
 output:w'.output=w.output
 size:w.heap.size<=w'.heap.size
 block:∀k,k<B->k<w.heap.size->w'.heap[k]? = w.heap[k]?
 others:∀k o,w.heap[k]? = some o->k≠B->k≠B+1->(∀c fz,o≠.cells c 5 fz)->w'.heap[k]? = some o
def QK.refl(B:Nat)(w:AB):QK B w w:=⟨rfl,rfl,rfl,ao _,λ_ _ _=>rfl,λ_ _ h _ _ _=>h⟩
variable{B:Nat}
def QK.trans{a b c:AB}(h:QK B a b)(k:QK B b c):QK B a c:=
 ⟨k.os.trans h.os,k.tape.trans h.tape,k.output.trans h.output,an h.size k.size,λi hi I=>(k.block i hi (ab I h.size)).trans (h.block i hi I),λi o Z h1 h2 N=>k.others i o (h.others i o Z h1 h2 N) h1 h2 N⟩
def QK.nw(h:Nw w w'):QK B w w':=
 ⟨h.os,h.tape,h.output,h.size,λk _ N=>h.block k N λe=>e,λk o I _ _ _=>(h.block k (aA.1 I).1 λe=>e).trans I⟩
def QK.of(h:Below B w w')(k:Lib.OthersKept 5 (some (B+1)) w w'):QK B w w':=
 ⟨h.os,h.tape,h.output,h.size,λi hi _=>h.block i hi,λi o I _ h2 N=>k i o I (λe=>h2 (by injection e)) N⟩
def QK.set(w:AB)(u:Value):QK B w (w.setCell B u):=
 ⟨rfl,rfl,rfl,oO,λk N _=>ft _ _ _ _ (by show k≠B;omega),λk o I h1 _ _=>(ft _ _ _ _ h1).trans I⟩
variable{g:Nat}
def QK.blk(h:QK B w w'){t:TypeId}{cs:Array Value}(N:AE w g t cs)(h1:g≠B)(h2:g≠B+1)(I:t≠5):AE w' g t cs:=
 h.others g _ N h1 h2 λc Z e=>I (by injection e)
def QK.FH(h:QK B w w'){M:Nat}(Z:E2 w M)(h1:M≠B)(h2:M≠B+1):E2 w' M:=by
 refine IT Z ?_;obtain⟨es,I,N,-⟩:=Z;rw[N];exact h.others M _ N h1 h2 λc fz e=>by cases e
variable{w1:AB}
def QK.old(h:Nw w1 W)(k:QK w1.heap.size W W'):Nw w1 W':=
 ⟨k.os.trans h.os,k.tape.trans h.tape,k.output.trans h.output,an h.size k.size,λb I N=>(k.block b I (ab I h.size)).trans (h.block b I N)⟩
def QK.agree{K:Nat->Prop}(k:QK w1.heap.size W W')(hK:∀b,K b->(b<w1.heap.size/\b<W.heap.size)\/∃o,W.heap[b]? = some o/\b≠w1.heap.size/\b≠w1.heap.size+1/\∀c I,o≠.cells c 5 I):Agree K W W':=λb N=>by
 rcases hK b N with⟨h1,h2⟩ |⟨o,h1,h2,h3,Z⟩
 .exact k.block b h1 h2
 rw[h1];exact k.others b o h1 h2 h3 Z
structure QI(w1:AB)(pre:List (Nat × Nat))(W:AB):Prop where
 bld:Cc w1.heap.size (w1.heap.size+1) (Lib.byteCells (34::CG pre)) W
 FH:∃mb,AE W w1.heap.size 307 #[.map mb]/\∀M,mb=some M->M≠w1.heap.size/\M≠w1.heap.size+1/\E2 W M
 old:Nw w1 W
def QI.nw{pre:List (Nat × Nat)}(h:QI w1 pre W)(k:Nw W W'):QI w1 pre W':=by
 obtain⟨N,h1,h2⟩:=h.FH;exact⟨h.bld.nw k,⟨N,k.blk h1,λM I=>⟨(h2 M I).1,(h2 M I).2.1,IT (h2 M I).2.2 (k.block M (World.ownsMap.lt (h2 M I).2.2) λe=>e)⟩⟩,h.old.trans k⟩
def QI.turn{pre:List (Nat × Nat)}{x:Nat}(h:QI w1 pre W)(k:Sb (λi=>i=x) W W')(hx:w1.heap.size+1<x)(hl:∃r,W.heap[x]? = some (.loop r)):QI w1 pre W':=by
 obtain⟨mb,h1,h2⟩:=h.FH;obtain⟨r,Z⟩:=hl;refine⟨h.bld.keep k oM (λc fz e=>by rw[Z]at e;cases e),⟨mb,k.blk h1 oM,λM I=>⟨(h2 M I).1,(h2 M I).2.1,IT (h2 M I).2.2 (k.block M (World.ownsMap.lt (h2 M I).2.2) λe=>?_)⟩⟩,h.old.comp k λi hi e=>oM⟩;obtain⟨es,N,hb,-⟩:=(h2 M I).2.2;subst e;rw[Z]at hb;cases hb
def QI.snoc{pre:List (Nat × Nat)}{x:Nat × Nat}{mb:Option Nat}(h:QI w1 pre W)(k:QK w1.heap.size W W')(I:Cc w1.heap.size (w1.heap.size+1) (Lib.byteCells (34::CG (pre++[x]))) W')
  (N:AE W' w1.heap.size 307 #[.map mb]) (Z:∀M,mb=some M->M≠w1.heap.size/\M≠w1.heap.size+1/\E2 W' M):QI w1 (pre++[x]) W':=
 ⟨I,⟨mb,N,Z⟩,k.old h.old⟩
def byteCells_snoc(l r:List UInt8):Lib.byteCells (l++r)=Lib.byteCells l++Lib.byteCells r:=by simp[Lib.byteCells]
variable{r:Nat}
def Po(h:r<32):bits .and .i32 (r:Int) 15=(r:Int)%16:=by
 have:∀k:Fin 32,bits .and .i32 ((k.val:Nat):Int) 15=((k.val:Nat):Int)%16:=oN
 exact this ⟨r,h⟩
def Lm(k:Nat)(I:k<16)(h:k<(ByteArray.mk #[48,49,50,51,52,53,54,55,56,57,97,98,99,100,101,102]).size):(ByteArray.mk #[48,49,50,51,52,53,54,55,56,57,97,98,99,100,101,102])[k]'h=EJ k:=by
 have:∀k:Fin 16,(ByteArray.mk #[48,49,50,51,52,53,54,55,56,57,97,98,99,100,101,102])[k.val]'k.isLt=EJ k.val:=oN
 exact this ⟨k,I⟩
def QI.next{pre:List (Nat × Nat)}{x:Nat × Nat}{mb:Option Nat}{I D:Nat}{s:AA}(h:QI w1 pre W)(hs:AE W I 9 #[.string s])(a1:w1.heap.size+1<I)(hD:W.heap[D]? = some (.deferred (some [])))(a0:w1.heap.size+1<D)(hl:∃r,W.heap[D+1]? = some (.loop r))(h6:6<=w1.heap.size)
  (k:QK w1.heap.size W W') (N:Cc w1.heap.size (w1.heap.size+1) (Lib.byteCells (34::CG (pre++[x]))) W') (hL:AE W' w1.heap.size 307 #[.map mb]) (hM:∀M,mb=some M->M≠w1.heap.size/\M≠w1.heap.size+1/\E2 W' M) :
  (QI w1 (pre++[x]) W'/\AE W' I 9 #[.string s])/\Agree (λb=>(b=I\/b<6)\/b=D\/b=D+1) W W'/\W.heap.size<=W'.heap.size:=by
 have ho:=h.old.size;refine⟨⟨h.snoc k N hL hM,k.blk hs oM oM oN⟩,k.agree λb N=>?_,k.size⟩;rcases N with(rfl|N)|rfl|rfl
 .exact .inr ⟨_,hs,oM,oM,λc Z e=>by injection e with e1 e2;exact absurd e2 oN⟩
 .exact .inl ⟨oM,oM⟩
 .exact .inr ⟨_,hD,oM,oM,λc Z e=>by cases e⟩
 obtain⟨r,hr⟩:=hl;exact .inr ⟨_,hr,oM,oM,λc Z e=>by cases e⟩
variable{px:Nat}
def XH{pre:List (Nat × Nat)}(h:EA (r:Int)=true):Lib.byteCells (34::CG (pre++[(px,r)]))=Lib.byteCells (34::CG pre)++Lib.runeCells (r:Int):=by
 have:DL r=Lib.encodeRune r:=by unfold DL;rw[h];rfl
 rw[IB,this,<-aJ,byteCells_snoc,Lib.byteCells_encodeRune]
def Z5{c:Nat}(h:c<128):Lib.runeCells (c:Int)=Lib.byteCells [c.toUInt8]:=by
 rw[Lib.runeCells,Lib.encodeRuneZ_one oM oM];simp[Lib.byteCells];omega
def NS{r c:Nat}(I:DR r=some c):c<128:=by
 unfold DR at I
 repeat' split at I
 all_goals first |(cases I;done) |(injection I with I;omega)
def VP{pre:List (Nat × Nat)}{px r c:Nat}(h:EA (r:Int)=false)(N:DR r=some c):Lib.byteCells (34::CG (pre++[(px,r)]))=(Lib.byteCells (34::CG pre)++[.int .u8 92])++Lib.runeCells (c:Int):=by
 have I:=NS N;have:DL r=[92]++[c.toUInt8]:=by unfold DL;rw[h,N];rfl
 rw[IB,this,<-aJ,<-aU,byteCells_snoc,byteCells_snoc,Z5 I];rfl
def Ro{pre:List (Nat × Nat)}(h:EA (r:Int)=false)(I:DR r=none):Lib.byteCells (34::CG (pre++[(px,r)]))=((Lib.byteCells (34::CG pre)++Lib.strCells ⟨#[92,117,48,48]⟩)++[.int .u8 (EJ (r/16)).toNat])++[.int .u8 (EJ (r%16)).toNat]:=by
 have:DL r=[92,117,48,48]++[EJ (r/16)]++[EJ (r%16)]:=by unfold DL;rw[h,I];rfl
 rw[IB,this,<-aJ,<-aU,<-aU,byteCells_snoc,byteCells_snoc,byteCells_snoc];rfl
def Tp(h:EA (r:Int)=false)(I:DR r=none):r<32:=by
 unfold DR at I;simp only[EA,Bool.and_eq_false_iff,decide_eq_false_iff_not,bne_eq_false_iff_eq]at h
 repeat' split at I
 all_goals first |(cases I;done)|omega
end Go.Proofs.YtahhllcdbjbpbaaGreatDoor
namespace Go.Proofs.YtahhllcdbjbpbaaGreatDoor
open Go.Proofs.Tryz
open Go.RowKit Go.Maps Go.Shelf
abbrev fM:=@run_takeDeferred
abbrev fN:=@callsIn_of_wp_marks
attribute [local go_sem] Oper.semAt_some
variable{w:AB}
def nJ{B b:Nat}{l:List UInt8}(h:Cc B b (Lib.byteCells l) w)(I:B<=w.heap.size) :
  Calls prog 264 #[.pointer (some b)] w λe w'=>e=.returned (.string ⟨l.toArray⟩)/\Below B w w'/\Lib.OthersKept 5 (some b) w w':=
 (Any.Builder_String_any_k Tryz.Wx (La _ rfl rfl) B b l w h I).mono λe w' h=>⟨h.1,h.2.2.1,h.2.2.2⟩
def Iq(s:AA):Int:=if Lib.validD s.data.toList then 0 else 3
def WQ(hL:Aw w){s:AA}(hs:s.size<=10000000) :
  Calls prog 250 #[s] w λe w'=>e=.returned (.tuple #[(Bl s),(Iq s)])/\Nw w w':=by
 have hv:=Ms hL.lib (k:=s) (by unfold maxLen;omega);have q8:∀(w:AB) (r:Option Nat),(binOp .eql 307 (.map r) (.map none)).run prog w=.ok (.bool r.isNone) w:=λw r=>run_eql_map_nil w _ _ _ r underlying307
 obtain⟨HV,HL⟩:=Yb hv hL;clear hv hL;refine(eR (n:=6)).1 ?_;refine fN func250 rfl trivial ?_ rfl;simp only[ntmps250,zL,Nat.reduceAdd,Nat.reduceSub];gi_wp2_with fail;refine⟨trivial,?_⟩;refine(eR.2 HV.o).mono ?_;rintro e w1 ⟨rfl,f2⟩;cases d7:Lib.validD s.data.toList with
 | false=>
   obtain⟨HQ,j5,HN⟩:=Yc (show Bl s=ByteArray.empty by unfold Bl;rw[d7];rfl) (show Iq s=3 by unfold Iq;rw[d7];rfl) f2;clear f2 d7;gi_wp2_with fail;refine⟨.tuple #[.string ⟨#[]⟩,.int .i64 3],by simp[results,results250,go_sem],?_⟩;exact⟨by rw[HQ.o,j5.o];rfl,HN.o⟩
 | true=>
   obtain⟨HQ,j5⟩:=Yb (show Bl s=⟨(C4 s).toArray⟩by unfold Bl;rw[d7];rfl) (show Iq s=0 by unfold Iq;rw[d7];rfl);have l3:=HL.o.nw f2;obtain⟨k2,l2⟩:=Yb f2 l3;clear f2 d7 l3;gi_wp2_with fail;generalize k8:World.alloc (World.alloc _ _) _=W0;obtain⟨l4,q7,o2,k1⟩:=CH w1 _ _ _ _ W0 k8;have f0:Cc w1.heap.size (w1.heap.size+1) [] W0:=.inl ⟨Nat.le_succ _,.slice none 0 0,k1,World.ownsRowF_of (e9 _ _ _ _),by simp[Value.ownBlock]⟩;have b0:=F3 34 f0 oO oM;obtain⟨f8,o4,p3⟩:=Yc b0 l4 o2;clear k8 f0 b0 l4 k1;refine⟨trivial,?_⟩;refine(eR.2 f8.o).mono ?_;rintro e w2 ⟨rfl,d0,g9,e6⟩;have i0:=QK.of g9 e6;have e3:QI w1 [] w2:=⟨d0,⟨none,e6 _ _ p3.o oO (λc fz e=>by cases e),λM hM=>by cases hM⟩,QK.old (gA o4.o) i0⟩;have q4:w1.heap.size+1<w2.heap.size:=d0.lt;have l6:=l2.o.nw e3.old;obtain⟨l9,o8⟩:=Yb e3 l6;clear d0 g9 e6 i0 e3 l6;gi_wp2_with fail;refine⟨trivial,?_⟩;refine(eR.2 (gO w2 s)).mono ?_;rintro e w3 ⟨rfl,g3,f9⟩;have g6:=l9.o.nw (gA g3);have i7:=o8.o.nw (gA g3);have q0:=g3.size;have p9:=f9.lt;have n4:=i7.lib.big;have e4:=l2.o.lib.big;obtain⟨p0,k4,p6⟩:=Yc (ot (w0:=w3) f9 i7.dec n4 oM) g6 f9;clear g3 g6 i7 f9;gi_wp2_with fail;refine U1 (gf:=271) (lb:=#[.pointer (some w2)]) rfl (fq func271 kM rfl) p0.o (Agree.refl _) (ao _)
    (λb hb=>by rcases hb with rfl|hb<;>omega) (λ_=>rfl) (λpre W=>QI w1 pre W/\AE W w2.heap.size 9 #[.string s]) (λ_ _ _=>False)
    (λh k hl q5=>⟨h.1.turn k oM hl,k.blk h.2 oM⟩) (λh _ _ _=>h) (λW hW hz=>⟨k4.o.nw (gA hW),p6.o.ext hW⟩) ?round ?done ?stop
   case stop=>
    rintro D c pre W hD r2 hX j3;exact hX.elim
   case round=>
    rintro pre x r1 W1 hI r0 d6 hG;have i2:x∈CW s:=ap hG;have i4:=(OL i2).1;have p8:pre.length<s.size:=by
     have h1:=(ai.1 hG).1;have h2:=I7 s s.size 0;unfold CW at h1;omega
    have i5:=Gu pre;have q9:(Lib.byteCells (34::CG pre)).length<=60000001:=by simp[Lib.byteCells];omega
    have i8:=hY (And.intro (hI.1.nw d6) (d6.blk hI.2));have q3:=d6.size;clear hI hG i2 d6 i5;obtain⟨px,r⟩:=x;dsimp only at i4;gi_wp2_with fail;refine⟨gE _ _,λW3 k3 k7 l5 k0=>?_⟩;obtain⟨a4,e0,f1⟩:=Yc (And.intro (i8.o.1.turn k3 oM k7) (k3.blk i8.o.2 oM)) l5 k0;have q6:=k3.size;have q1:=a4.o.1.old.size;clear k3 k7 i8 l5 k0;gi_wp2_with fail;refine⟨trivial,?_⟩;refine(Dj (kF W3 r)).mono ?_;rintro e w4 ⟨rfl,rfl⟩;obtain⟨mb,k6,k9⟩:=a4.o.1.FH;obtain⟨d8,c7⟩:=Yb k6 k9;clear k6 k9;cases g4:EA (r:Int)with
    | true=>
      have a1:=NR (r:Int) oM oM a4.o.1.bld oM oM;obtain⟨b8,c6⟩:=Yb a1 g4;clear a1 g4;gi_wp2_with fail;refine⟨trivial,?_⟩;refine(Dj b8.o).mono ?_;rintro e w5 ⟨rfl,l7,g8,f3⟩;have j9:=QK.of g8 f3;have a8:=hY (a4.o.1.next (x:=(px,r)) a4.o.2 oM f1.o oM e0.o e4 j9 (by rw[XH c6.o];exact l7) (f3 _ _ d8.o oO λc fz e=>by cases e) (λM hM=>⟨(c7.o M hM).1,(c7.o M hM).2.1,j9.FH (c7.o M hM).2.2 (c7.o M hM).1 (c7.o M hM).2.1⟩));clear l7 g8 f3 j9;gi_wp2_with fail;exact a8.o
    | false=>
      have c6:=hY g4;have o3:w4.cell? w1=some (.map mb):=d8.o.cell 0;have o1:=d8.o.lt;have p1:=d8.o.frozen 0;clear g4;rcases mb with _|M
      ·have g7:=lA w4
       have i1:=hY g7;clear g7;gi_wp2_with fail;refine⟨trivial,?_⟩;refine(Dj i1.o).mono ?_;rintro e w5 ⟨rfl,g0,f5⟩;have b6:=g0.blk d8.o;have n8:w5.cell? w1=some (.map none):=b6.cell 0;have n7:=b6.lt;have p4:=b6.frozen 0;clear o3 p1;gi_upto_region 12 with(fail);obtain⟨d9,c9,a5,c8⟩:=Ye (((a4.o.1.bld.nw g0).keep (x:=w1) ((gE (λi=>i=w1.heap.size) w5).set (p:=⟨w1,0,none⟩) (.inr rfl) (.map (some w4.heap.size))) oM (λc fz e=>by have e2:=b6.symm.trans e;injection e2 with e2;injection e2 with _ e2;exact absurd e2 oN))) ((QK.nw (B:=w1) g0).trans (QK.set w5 (.map (some w4.heap.size)))) (b6.AX 0 (.map (some w4.heap.size))) (f5.set (p:=⟨w1,0,none⟩) (by show w4.heap.size≠w1.heap.size;omega) (.map (some w4.heap.size)));obtain⟨M,hM⟩:∃M,M=w4.heap.size:=⟨_,rfl⟩;have a2:=hY (show M≠w1.heap.size/\M≠w1.heap.size+1 by omega);have q2:=a4.o.1.bld.lt;rw[<-hM]at d9 c9 a5 c8 ⊢;generalize World.setCell w5 _ _=W at *;clear hM g0 f5 b6 n8 n7 p4 o1 i1;have k5:=hY (Lib.OthersKept.refl 5 (some (w1.heap.size+1)) W);have b7:=U7 c8.o r i4;have cL:W.cell? w1=some (.map (some M)):=a5.o.cell 0;have lL:=a5.o.lt;have o9:=c9.o.size;cases a3:DR r with
       | some c=>
         rw[a3]at b7;have d5:=hY a3;have j0:=NS a3;have b0:=F3 92 d9.o oM oM;have f8:=hY b0;clear b0 a3;gi_wp2_with fail;refine⟨trivial,?_⟩;refine(Dj f8.o).mono ?_;rintro e w6 ⟨rfl,a7,N,I⟩;have i3:=N.size;have a1:=NR (c:Int) oM oM a7 (by rw[aj];simp only[List.length_cons,List.length_nil];omega) oM;obtain⟨b8,d4,d3⟩:=Yc a1 (QK.of N I) I;clear a1 a7 N I cL b7;gi_wp2_with fail;refine⟨trivial,?_⟩;refine(Dj b8.o).mono ?_;rintro e w7 ⟨rfl,b5,a0,Z⟩;have a9:=d4.o.trans (QK.of a0 Z);have a8:=hY (a4.o.1.next (x:=(px,r)) (mb:=some M) a4.o.2 oM f1.o oM e0.o e4 (c9.o.trans a9) (by rw[VP c6.o d5.o];exact b5) ((d3.o.trans Z) _ _ a5.o oO λc fz e=>by cases e) (λM' a6=>by injection a6 with a6;subst a6;exact⟨a2.o.1,a2.o.2,a9.FH c8.o a2.o.1 a2.o.2⟩));clear b5 a0 Z a9;gi_wp2_with fail;exact a8.o
       | none=>
         rw[a3]at b7;have e7:=Tp c6.o a3;have n6:=Po e7;have d5:=hY a3;have f7:=UK ⟨#[92,117,48,48]⟩ d9.o (by show _+4<=_;omega) oM;have j6:=hY f7;clear f7 a3;gi_wp2_with fail;refine⟨trivial,?_⟩;refine(Dj j6.o).mono ?_;rintro e w6 ⟨⟨rs,rfl⟩,a7,N,I⟩;have i3:=N.size;have a1:=F3 (EJ (r/16)).toNat a7 (by rw[aj,show(Lib.strCells ⟨#[92,117,48,48]⟩).length=4 from rfl];omega) oM;obtain⟨b8,d4,d3⟩:=Yc a1 (QK.of N I) I;clear a1 a7 N I cL b7;gi_wp2_with fail;rw[Lm (r/16) oM];refine⟨trivial,?_⟩;refine(Dj b8.o).mono ?_;rintro e w7 ⟨rfl,b5,a0,Z⟩;have o0:=a0.size;have a1:=F3 (EJ (r%16)).toNat b5 (by rw[aj,aj,show(Lib.strCells ⟨#[92,117,48,48]⟩).length=4 from rfl];simp only[List.length_cons,List.length_nil];omega) oM;obtain⟨f6,j4,j8⟩:=Yc a1 (d4.o.trans (QK.of a0 Z)) (d3.o.trans Z);clear a1 b5 a0 Z;gi_wp2_with fail;rw[Lm (r%16) oM];refine⟨trivial,?_⟩;refine(Dj f6.o).mono ?_;rintro e w8 ⟨rfl,f4,b9,b3⟩;have b4:=j4.o.trans (QK.of b9 b3);have a8:=hY (a4.o.1.next (x:=(px,r)) (mb:=some M) a4.o.2 oM f1.o oM e0.o e4 (c9.o.trans b4) (by rw[Ro c6.o d5.o];exact f4) ((j8.o.trans b3) _ _ a5.o oO λc fz e=>by cases e) (λM' a6=>by injection a6 with a6;subst a6;exact⟨a2.o.1,a2.o.2,b4.FH c8.o a2.o.1 a2.o.2⟩));clear f4 b9 b3 b4;gi_wp2_with fail;exact a8.o
      gi_upto_region 12 with(fail);obtain⟨d9,c9⟩:=Yb a4.o.1.bld (QK.refl w1.heap.size w4);have a5:=d8;have c8:=hY (c7.o M rfl).2.2;obtain⟨a2,k5⟩:=Yb (And.intro (c7.o M rfl).1 (c7.o M rfl).2.1) (Lib.OthersKept.refl 5 (some (w1.heap.size+1)) w4);have b7:=U7 c8.o r i4;have cL:w4.cell? w1=some (.map (some M)):=a5.o.cell 0;have lL:=a5.o.lt;have o9:=c9.o.size;cases a3:DR r with
      | some c=>
        rw[a3]at b7;have d5:=hY a3;have j0:=NS a3;have b0:=F3 92 d9.o oM oM;have f8:=hY b0;clear b0 a3;gi_wp2_with fail;refine⟨trivial,?_⟩;refine(Dj f8.o).mono ?_;rintro e w6 ⟨rfl,a7,N,I⟩;have i3:=N.size;have a1:=NR (c:Int) oM oM a7 (by rw[aj];simp only[List.length_cons,List.length_nil];omega) oM;obtain⟨b8,d4,d3⟩:=Yc a1 (QK.of N I) I;clear a1 a7 N I cL b7;gi_wp2_with fail;refine⟨trivial,?_⟩;refine(Dj b8.o).mono ?_;rintro e w7 ⟨rfl,b5,a0,Z⟩;have a9:=d4.o.trans (QK.of a0 Z);have a8:=hY (a4.o.1.next (x:=(px,r)) (mb:=some M) a4.o.2 oM f1.o oM e0.o e4 (c9.o.trans a9) (by rw[VP c6.o d5.o];exact b5) ((d3.o.trans Z) _ _ a5.o oO λc fz e=>by cases e) (λM' a6=>by injection a6 with a6;subst a6;exact⟨a2.o.1,a2.o.2,a9.FH c8.o a2.o.1 a2.o.2⟩));clear b5 a0 Z a9;gi_wp2_with fail;exact a8.o
      | none=>
        rw[a3]at b7;have e7:=Tp c6.o a3;have n6:=Po e7;have d5:=hY a3;have f7:=UK ⟨#[92,117,48,48]⟩ d9.o (by show _+4<=_;omega) oM;have j6:=hY f7;clear f7 a3;gi_wp2_with fail;refine⟨trivial,?_⟩;refine(Dj j6.o).mono ?_;rintro e w6 ⟨⟨rs,rfl⟩,a7,N,I⟩;have i3:=N.size;have a1:=F3 (EJ (r/16)).toNat a7 (by rw[aj,show(Lib.strCells ⟨#[92,117,48,48]⟩).length=4 from rfl];omega) oM;obtain⟨b8,d4,d3⟩:=Yc a1 (QK.of N I) I;clear a1 a7 N I cL b7;gi_wp2_with fail;rw[Lm (r/16) oM];refine⟨trivial,?_⟩;refine(Dj b8.o).mono ?_;rintro e w7 ⟨rfl,b5,a0,Z⟩;have o0:=a0.size;have a1:=F3 (EJ (r%16)).toNat b5 (by rw[aj,aj,show(Lib.strCells ⟨#[92,117,48,48]⟩).length=4 from rfl];simp only[List.length_cons,List.length_nil];omega) oM;obtain⟨f6,j4,j8⟩:=Yc a1 (d4.o.trans (QK.of a0 Z)) (d3.o.trans Z);clear a1 b5 a0 Z;gi_wp2_with fail;rw[Lm (r%16) oM];refine⟨trivial,?_⟩;refine(Dj f6.o).mono ?_;rintro e w8 ⟨rfl,f4,b9,b3⟩;have b4:=j4.o.trans (QK.of b9 b3);have a8:=hY (a4.o.1.next (x:=(px,r)) (mb:=some M) a4.o.2 oM f1.o oM e0.o e4 (c9.o.trans b4) (by rw[Ro c6.o d5.o];exact f4) ((j8.o.trans b3) _ _ a5.o oO λc fz e=>by cases e) (λM' a6=>by injection a6 with a6;subst a6;exact⟨a2.o.1,a2.o.2,b4.FH c8.o a2.o.1 a2.o.2⟩));clear f4 b9 b3 b4;gi_wp2_with fail;exact a8.o
   rintro D xs W hD hS ⟨hI,-⟩ j3;have j1:xs=CW s:=hS;have i5:=Gu xs;have n2:xs.length<=s.size:=by rw[j1];exact I7 s s.size 0
   have b0:=F3 34 hI.bld (by simp[Lib.byteCells];omega) hI.old.size;obtain⟨l8,HI,n9,p2,e8⟩:=Yf b0 hI j3 j1 hD;clear hS i5 n2 b0 hI j3 j1 hD;gi_wp2_with fail;refine⟨trivial,?_⟩;refine(eR.2 l8.o).mono ?_;rintro e w6 ⟨rfl,a7,N,I⟩;have i6:=QK.of N I;have g5:Cc w1.heap.size (w1.heap.size+1) (Lib.byteCells (C4 s)) w6:=by
    have e1:Lib.byteCells (C4 s)=Lib.byteCells (34::CG xs)++[.int .u8 34]:=by
     rw[C4,<-p2.o,byteCells_snoc];rfl
    rw[e1];exact a7
   have j2:=QK.old HI.o.old i6;have l0:w6.heap[D]? = some (.deferred (some [])):=i6.others D _ n9.o (by have:=e8.o;omega) (by have:=e8.o;omega) (λc fz e=>by cases e);obtain⟨p5,o7,o6⟩:=Yc (nJ g5 j2.size) j2 l0;clear a7 N I i6 g5 j2 l0;gi_wp2_with fail;refine⟨trivial,?_⟩;refine(eR.2 p5.o).mono ?_;rintro e w7 ⟨rfl,a0,Z⟩;have j7:=QK.of a0 Z;have i9:w7.heap[D]? = some (.deferred (some [])):=j7.others D _ o6.o (by have:=e8.o;omega) (by have:=e8.o;omega) (λc fz e=>by cases e);have l1:=QK.old o7.o j7;obtain⟨o5,p7⟩:=Yb ((k2.o.trans l1).comp (St.put (o':=.deferred none) i9 rfl rfl).sb λi hi e=>by have:=e8.o;have:=k2.o.size;omega) i9;clear a0 Z j7 i9 l1;gi_wp2_with fail;refine⟨oO,.inl ⟨_,_,rfl,fM p7.o,?_⟩⟩;refine⟨.tuple #[.string ⟨(C4 s).toArray⟩,.int .i64 0],?_,by rw[HQ.o,j5.o],o5.o⟩;simp[results,results250,go_sem]
def Uy(I:Aw w){s:AA}(hs:s.size<=10000000):Calls prog 237 #[s] w λe w'=>e=.returned (Bl s)/\Nw w w':=by
 have N:=WQ I hs;have HQ:=hY N;clear N I hs;go_in;go_wp2_with fail;refine HQ.o.mono ?_;rintro e w1 ⟨rfl,Z⟩;have HN:=hY Z;clear Z;go_wp2_with fail;go_ret;exact⟨rfl,HN.o⟩
end Go.Proofs.YtahhllcdbjbpbaaGreatDoor
namespace Go.Proofs.YtahhllcdbjbpbaaGreatDoor
open Go.Proofs.Tryz
open Go.RowKit Go.Maps Go.Shelf
mutual
def Be:Val->Nat
 |.mk k b i t l ok ov=>if k=2 then IS b else if k=3 then(Lib.itoa i).length else if k=4 then(Bl t).size else if k=5 then 2+Bm l+(l.length-1)else if k=6 then 2+Bf ok ov+(ov.length-1)else 4
def Bm:List Val->Nat
 |[]=>0
 |d::r=>Be d+Bm r
def Bf:List AA->List Val->Nat
 |_,[]=>0
 |ks,d::r=>(Bl (ks.headD ByteArray.empty)).size+1+Be d+Bf ks.tail r
end
def Ny:∀{l:List Val} {j:Nat} {d:Val},l[j]? = some d->Bm (l.take (j+1))=Bm (l.take j)+Be d
 |[],j,d,h=>by simp at h
 | x :: r,0,d,h=>by
   simp at h;subst h;simp[Bm]
 | x :: r,j+1,d,h=>by
   have I:r[j]? = some d:=by simpa using h
   rw[bq,bq,Bm,Bm,Ny I,bH]
def NM(l:List Val)(j:Nat):Bm (l.take j)<=Bm l:=by
 induction l generalizing j with
 |nil=>simp
 | cons x r ih=>
   cases j with
   |zero=>simp[Bm]
   |succ j=>rw[bq,Bm,Bm];have:=ih j;omega
def Mx:∀{ks:List AA} {l:List Val} {j:Nat} {d:Val} {k:AA},l[j]? = some d->ks[j]? = some k->Bf ks (l.take (j+1))=Bf ks (l.take j)+((Bl k).size+1+Be d)
 |ks,[],j,d,k,h,_=>by simp at h
 |[],x::r,j,d,k,h,hk=>by simp at hk
 | y :: ks,x :: r,0,d,k,h,hk=>by
   simp at h hk;subst h hk;simp[Bf]
 | y :: ks,x :: r,j+1,d,k,h,hk=>by
   have N:r[j]? = some d:=by simpa using h
   have I:ks[j]? = some k:=by simpa using hk
   rw[bq,bq,Bf,Bf,cu,Mx N I];omega
def Lu:∀(ks:List AA) (l:List Val) (j:Nat),Bf ks (l.take j)<=Bf ks l
 |ks,[],j=>oO
 |ks,x::r,0=>by simp[Bf]
 | ks,x :: r,j+1=>by
   rw[bq,Bf,Bf];have:=Lu ks.tail r j;omega
variable{w:AB}{B:Nat}
def Gg{a b:Value}{m:Nat}(s:AA)(I:AE w B 267 (wrC a b m))(hm:m+s.size<=100000000) :
  Calls prog 232 #[.pointer (some B),.slice (some w) 1 1] (w.alloc (.cells #[s] 9)) λe w'=>(∃r,e=.returned r)/\AE w' B 267 (wrC a b (m+s.size))/\Sb (λc=>c=B) w w':=by
 have N:Ext w (w.alloc (.cells #[s] 9)):=(gz w).alloc _ _;have hl:=I.lt;have Z:=M5 (s:=⟨some w,1⟩) (ks:=[s]) (I.ext N) (gG (gB w 9 #[.string s]) oN rfl) (λi hi=>by subst hi;exact⟨oO,oM⟩) (by simp[CO];omega) oO;exact Z.mono λe w' ⟨h1,h2,h3⟩=>⟨h1,by simpa[CO]using h2,(Nw.any (gA N) _).trans h3.sb⟩
def pw{a b:Value}{m:Nat}(s t:AA)(I:AE w B 267 (wrC a b m))(hm:m+s.size+t.size<=100000000) :
  Calls prog 232 #[.pointer (some B),.slice (some w) 2 2] (w.alloc (.cells #[s,t] 9)) λe w'=>(∃r,e=.returned r)/\AE w' B 267 (wrC a b (m+s.size+t.size))/\Sb (λc=>c=B) w w':=by
 have N:Ext w (w.alloc (.cells #[s,t] 9)):=(gz w).alloc _ _;have hl:=I.lt;have Z:=M5 (s:=⟨some w,2⟩) (ks:=[s,t]) (I.ext N) (gG (gB w 9 #[.string s,.string t]) oN rfl) (λi hi=>by subst hi;exact⟨oO,oM⟩) (by simp[CO];omega) oO;exact Z.mono λe w' ⟨h1,h2,h3⟩=>⟨h1,by simpa[CO,Nat.add_assoc]using h2,(Nw.any (gA N) _).trans h3.sb⟩
variable{V:Nat}
def Xl{a b:Value}{n:Int}{m:Nat}{c0 c1 c3 c4 c5:Value}(hV:AE w V 54 #[c0,c1,.int .i64 n,c3,c4,c5])(hB:AE w B 267 (wrC a b m))(h0 : -9223372036854775808<=n)(h1:n<=9223372036854775807)(hm:m+(Lib.itoa n).length<=100000000)(hL:Aw w) :
  Calls prog 234 #[.pointer (some B),.pointer (some V)] w λe w'=>(∃r,e=.returned r)/\AE w' B 267 (wrC a b (m+(Lib.itoa n).length))/\Sb (λc=>c=B) w w':=by
 have hf:=hL.num w (G5.refl w) n h0 h1;have c2:w.cell? ⟨V,2,none⟩=some (.int .i64 n):=hV.cell 2;obtain⟨HF,HB,HM⟩:=Yc hf hB hm;clear hf hV hB hm h0 h1 hL;go_in;go_wp2_with fail;refine HF.o.mono ?_;rintro e w1 ⟨rfl,I⟩;have hj:=Gg (w:=w1) ⟨(Lib.itoa n).toArray⟩ (I.blk HB.o) (by have:=HM.o;simpa[ByteArray.size]using this);rw[show(ByteArray.mk (Lib.itoa n).toArray).size=(Lib.itoa n).length by simp[ByteArray.size]]at hj;obtain⟨HJ,HN⟩:=Yb hj I;clear hj I c2;go_wp2_with fail;refine HJ.o.mono ?_;rintro e w2 ⟨⟨r,rfl⟩,N,Z⟩;obtain⟨a1,a0⟩:=Yb N ((HN.o.any _).trans Z);clear N Z;go_wp2_with fail;go_end0;exact⟨⟨_,rfl⟩,a1.o,a0.o⟩
def ZF{a b:Value}{t:AA}{m:Nat}{c0 c1 c2 c4 c5:Value}(hV:AE w V 54 #[c0,c1,c2,.string t,c4,c5])(hB:AE w B 267 (wrC a b m))(ht:t.size<=10000000)(hm:m+(Bl t).size<=100000000)(hL:Aw w) :
  Calls prog 236 #[.pointer (some B),.pointer (some V)] w λe w'=>(∃r,e=.returned r)/\AE w' B 267 (wrC a b (m+(Bl t).size))/\Sb (λc=>c=B) w w':=by
 have hf:=Uy hL ht;have c2:w.cell? ⟨V,3,none⟩=some (.string t):=hV.cell 3;obtain⟨HF,HB,HM⟩:=Yc hf hB hm;clear hf hV hB hm hL ht;go_in;go_wp2_with fail;refine HF.o.mono ?_;rintro e w1 ⟨rfl,I⟩;have hj:=Gg (w:=w1) (Bl t) (I.blk HB.o) HM.o;obtain⟨HJ,HN⟩:=Yb hj I;clear hj I c2;go_wp2_with fail;refine HJ.o.mono ?_;rintro e w2 ⟨⟨r,rfl⟩,N,Z⟩;obtain⟨a1,a0⟩:=Yb N ((HN.o.any _).trans Z);clear N Z;go_wp2_with fail;go_end0;exact⟨⟨_,rfl⟩,a1.o,a0.o⟩
def fnO(k:Int):Nat:=if k=2 then 231 else if k=3 then 234 else if k=4 then 236 else if k=5 then 238 else if k=6 then 240 else 242
def bsO(k:Int)(V:Nat):Array Value:=if k=2\/k=3\/k=4\/k=5\/k=6 then#[.pointer (some ⟨V,0,none⟩)]else#[]
abbrev Cl(d:Val)(sl so:Sl):Array Value:=#[.int .i64 d.kind,.bool d.b,.int .i64 d.i,.string d.t,.slice sl.a d.l.length sl.c,.slice so.a d.ok.length so.c]
def Nn(w:AB)(d:Val)(sl so:Sl):Calls prog 213 #[AS d sl so] w λe w'=>e=.returned (.func (.func (fnO d.kind)) #[] (bsO d.kind w.heap.size))/\Ext w w'/\AE w' w.heap.size 54 (Cl d sl so):=by
 obtain⟨k,b,i,t,l,ok,ov⟩:=d;show Calls _ _ #[.agg #[k,b,i,t,.slice sl.a l.length sl.c,.slice so.a ok.length so.c]] _ λe w'=>e=.returned (.func (.func (fnO k)) #[] (bsO k w.heap.size))/\Ext w w'/\AE w' w.heap.size 54 #[.int .i64 k,.bool b,.int .i64 i,.string t,.slice sl.a l.length sl.c,.slice so.a ok.length so.c]
 by_cases h2:k=2
 ·subst h2
  go_in;go_wp2_with fail;go_ret;exact⟨rfl,(gz w).alloc _ _,gB w _ _⟩
 by_cases h3:k=3
 ·subst h3
  go_in;go_wp2_with fail;go_ret;exact⟨rfl,(gz w).alloc _ _,gB w _ _⟩
 by_cases N:k=4
 ·subst N
  go_in;go_wp2_with fail;go_ret;exact⟨rfl,(gz w).alloc _ _,gB w _ _⟩
 by_cases Z:k=5
 ·subst Z
  go_in;go_wp2_with fail;go_ret;exact⟨rfl,(gz w).alloc _ _,gB w _ _⟩
 by_cases I:k=6
 ·subst I
  go_in;go_wp2_with fail;go_ret;exact⟨rfl,(gz w).alloc _ _,gB w _ _⟩
 have g2:(k==2)=false:=by simpa using h2
 have g3:(k==3)=false:=by simpa using h3
 have g4:(k==4)=false:=by simpa using N
 have g5:(k==5)=false:=by simpa using Z
 have g6:(k==6)=false:=by simpa using I
 have hf:fnO k=242:=by simp[fnO,h2,h3,N,Z,I]
 have hb:bsO k w.heap.size=#[]:=by simp[bsO,h2,h3,N,Z,I]
 rw[hf,hb];clear h2 h3 N Z I hf hb;go_in;go_wp2_with fail;go_ret;exact⟨rfl,(gz w).alloc _ _,gB w _ _⟩
mutual
def Ah:Val->Nat
 |.mk k b i t l ok ov=>7+t.size+BX l+B9 ok ov
def BX:List Val->Nat
 |[]=>0
 |d::r=>Ah d+BX r
def B9:List AA->List Val->Nat
 |_,[]=>0
 |ks,d::r=>(ks.headD ByteArray.empty).size+2+Ah d+B9 ks.tail r
end
def JX:∀{l:List Val} {j:Nat} {d:Val},l[j]? = some d->Ah d<=BX l
 |[],j,d,h=>by simp at h
 |x::r,0,d,h=>by simp at h;subst h;rw[BX];omega
 |x::r,j+1,d,h=>by have:=JX (l:=r) (j:=j) (by simpa using h);rw[BX];omega
def Fy:∀{ks:List AA} {l:List Val} {j:Nat} {d:Val} {k:AA},l[j]? = some d->ks[j]? = some k->Ah d+k.size<=B9 ks l
 |ks,[],j,d,k,h,_=>by simp at h
 |[],x::r,j,d,k,h,hk=>by simp at hk
 |y::ks,x::r,0,d,k,h,hk=>by simp at h hk;subst h hk;rw[B9,di];omega
 |y::ks,x::r,j+1,d,k,h,hk=>by have:=Fy (ks:=ks) (l:=r) (j:=j) (by simpa using h) (by simpa using hk);rw[B9,cu];omega
def NN(s:AA):(Bl s).size<=6*s.size+2:=by
 unfold Bl;split
 ·have:=Wb s
  show(C4 s).toArray.size<=_;rw[bp];exact this
 show 0<=_;omega
def pL(x:Bool):IS x<=5:=by rw[pb];split<;>omega
mutual
def LC(F:Nat->Prop)(w:AB):∀(d:Val) (sl so:Sl),RV w F d sl so->Be d+2<=6*Ah d
 | .mk k b i t l ok ov,sl,so,h=>by
   unfold Be Ah;cases h with
   |mk bl fl bo fo cl co hl ho hov el rl ek eo ro bk bi bt nl no=>
   split
   .have:=pL b;omega
   split
   ·have:=Lib.itoa_length_le i (by simp [Lit.wf,IntKind.min,IntKind.max,IntKind.signed,IntKind.bits] at bi;omega) (by simp [Lit.wf,IntKind.min,IntKind.max,IntKind.signed,IntKind.bits] at bi;omega)
    omega
   split
   .have:=NN t;omega
   split
   ·have:=Rv F w l cl (fun j d I=>rl j d I)
    omega
   split
   ·have:=TO F w ok ov co (fun j d I=>ro j d I) hov
    omega
   omega
def Rv(F:Nat->Prop)(w:AB):∀(l:List Val) (c:Nat->Sl × Sl),(∀j d,l[j]? = some d->RV w F d (c j).1 (c j).2)->Bm l+2*l.length<=6*BX l
 |[],c,h=>by simp[Bm,BX]
 | d :: r,c,h=>by
   have h1:=LC F w d _ _ (h 0 d rfl);have h2:=Rv F w r (λj=>c (j+1)) (λj d I=>h (j+1) d (by simpa using I));rw[Bm,BX,aC];omega
def TO(F:Nat->Prop)(w:AB):∀(ks:List AA) (l:List Val) (c:Nat->Sl × Sl),(∀j d,l[j]? = some d->RV w F d (c j).1 (c j).2)->l.length=ks.length->Bf ks l+2*l.length<=6*B9 ks l
 |ks,[],c,h,I=>by simp[Bf,B9]
 |[],d::r,c,h,I=>by cases I
 | k :: ks,d :: r,c,h,I=>by
   have h1:=LC F w d _ _ (h 0 d rfl);have h2:=TO F w ks r (λj=>c (j+1)) (λj d N=>h (j+1) d (by simpa using N)) (by simpa using I);have Z:=NN k;rw[Bf,B9,aC,di,cu];omega
end
def Da(j:Nat):AA:=if j=0 then ByteArray.empty else⟨#[44]⟩
def Tu(w:AB)(j:Nat):Calls prog 239 #[.int .i64 (j:Int)] w λe w'=>e=.returned (Da j)/\w'=w:=by
 by_cases h:j=0
 ·subst h
  go_in;go_wp2_with fail;go_ret;exact⟨rfl,rfl⟩
 have N:((j:Int)==0)=false:=by simp;omega
 have I:Da j=⟨#[44]⟩:=eL h;rw[I];clear I h;go_in;go_wp2_with fail;go_ret;exact⟨rfl,rfl⟩
def OJ(j:Nat):(Da j).size=j -(j-1):=by
 unfold Da;by_cases h:j=0
 .subst h;rfl
 rw[eL h];show 1=_;omega
def VF(B:Nat)(a b:Value)(n:Nat)(d:Val)(w:AB)(e:AC)(w':AB):Prop:=
 (∃r,e=.returned r)/\AE w' B 267 (wrC a b (n+Be d))/\Sb (λc=>c=B) w w'
def MZ(P:Val->Prop):Prop:=∀(d:Val),P d->Ah d<=1100000->∀(w:AB) (F:Nat->Prop) (V B:Nat) (sl so:Sl) (a b:Value) (n:Nat),AE w V 54 (Cl d sl so)->RV w F d sl so->(∀i,F i->i<w.heap.size/\i≠B)->V≠B->AE w B 267 (wrC a b n)->n+Be d<=9000000->Aw w->6<=B->
 Calls prog (fnO d.kind) (#[.pointer (some ⟨B,0,none⟩)]++bsO d.kind V) w (VF B a b n d w)
def Ob(k:Int):∀args w,(callFunc (fnO k) args).run prog w=.ok (.enter (fnO k) args) w:=by
 unfold fnO;split
 .exact fq func231 kM rfl
 split
 .exact fq func234 kM rfl
 split
 .exact fq func236 kM rfl
 split
 .exact fq func238 kM rfl
 split
 .exact fq func240 kM rfl
 exact fq func242 kM rfl
variable{F:Nat->Prop}{sl so:Sl}{n:Nat}
def XR{P:Val->Prop}(hI:MZ P){bo:Bool}{i:Int}{t:AA}{l:List Val}{ok:List AA}{ov:List Val}{a b:Value} 
  (hP:∀(j:Nat) (d:Val),l[j]? = some d->P d) (hc:BX l<=1100000)
  (hV:AE w V 54 #[.int .i64 5,.bool bo,.int .i64 i,.string t,.slice sl.a l.length sl.c,.slice so.a ok.length so.c]) (h:RV w F (.mk 5 bo i t l ok ov) sl so) (hF:∀i,F i->i<w.heap.size/\i≠B) (f0:V≠B) (hB:AE w B 267 (wrC a b n)) (hn:n+(2+Bm l+(l.length-1))<=9000000) (hL:Aw w) (h6:6<=B) :
  Calls prog 238 #[.pointer (some B),.pointer (some V)] w λe w'=>(∃r,e=.returned r)/\AE w' B 267 (wrC a b (n+(2+Bm l+(l.length-1))))/\Sb (λc=>c=B) w w':=by
 cases h with
 |mk bl fl bo' fo cl co hl ho hov el rl ek eo ro bk bi bt nl no=>
 have c9:=Gg (w:=w) ⟨#[91]⟩ hB (by show n+1<=_;omega);have b8:=λW j=>Tu W j
 obtain⟨d7,e8,HV,HF,e7,f2,a5⟩:=Yh c9 b8 hV hF el rl hl;obtain⟨g0,HI,HP,HC,HN⟩:=Yf hL hI hP hc hn;have g6:=hV.lt;have g8:=hB.lt;have g9:l.length<=2000000000000:=oM
 clear c9 b8 hV hB hF el rl ek eo ro hl ho hov hL hI hP hc hn bk bi bt nl no;go_in;go_wp2_with fail;refine d7.o.mono ?_;rintro e w1 ⟨⟨r,rfl⟩,b4,b3⟩;obtain⟨q0,q1,q2,q3,q4,q5⟩:=(b3.blk HV.o f0).c6;obtain⟨f4,f1⟩:=Yb b4 b3;clear b4 b3 d7;go_wp2_with fail;go_loopw[11] (λq wr=>∃(j:Nat),q=.int .i64 j/\j<=l.length/\AE wr B 267 (wrC a b (n+1+(Bm (l.take j)+(j-1))))/\Sb (λc=>c=B) w wr) (λq _=>l.length -(intOf q).toNat)
 case atStart=>exact⟨0,rfl,aw _,f4.o,f1.o⟩
 obtain⟨j,rfl,hj,hb,hs⟩:=hrel;by_cases h1:j<l.length
 ·have g1:(j:Int)<(l.length:Int):=oM
  have i0:decide ((j:Int)<(l.length:Int))=true:=eO g1;obtain⟨d,hd⟩:∃d,l[j]? = some d:=⟨_,ac h1⟩;obtain⟨b9,e2,f5⟩:=a5.o.eq oM;have e1:=HF.o bl (a5.o.fits oM);have b7:Agree F w wr:=λx hx=>hs.block x (HF.o x hx).1 (HF.o x hx).2
  have e3:=a5.o.fits (show 0<l.length by omega);obtain⟨sa,sc⟩:=sl;dsimp only at b9 e2 f5;subst b9;obtain⟨v0,v1,v2,v3,v4,v5⟩:=(e7.o j d hd).agree b7 e3;have lb:bl<wr:=ab e1.1 hs.size;have hcut:=NM l (j+1);have c7:=Ny hd;have a4:=OJ j;have a0:n+1+(Bm (l.take j)+(j-1))+(Da j).size+Be d<=9000000:=by have:=HN.o;omega
  have d0:Ah d<=1100000:=an (JX hd) HC.o;obtain⟨HD,HB,HS,d8,f6,f9,g4⟩:=Yh hd hb hs a0 c7 a4 d0;have e6:=hY (HP.o j d hd);have g5:=Ob d.kind;clear hb hs b7 e1 hcut c7 a4 a0 d0 hd;go_wp2_with fail;refine(e8.o _ j).mono ?_;rintro e w2 ⟨rfl,a6⟩;have a7:Ext wr w2:=by rw[a6];exact(gz wr).alloc _ _
  have c8:AE w2 wr.heap.size 54 (Cl d (cl j).1 (cl j).2):=by rw[a6];exact gB wr 54 _
  clear a6;have b6:=Gg (w:=w2) (Da j) (HB.o.ext a7) (by have:=d8.o;omega);obtain⟨e0,f8,f3⟩:=Yc b6 c8 (HS.o.ext a7);have g7:=HB.o.lt;clear a7 c8 b6;go_wp2_with fail;refine e0.o.mono ?_;rintro e w3 ⟨⟨r2,rfl⟩,a1,I⟩;have d6:=I.blk f8.o oM;obtain⟨u0,u1,u2,u3,u4,u5⟩:=d6.c6;obtain⟨a2,b0⟩:=Yb a1 (f3.o.trans I);clear a1 I d6 e0 v0 v1 v2 v3 v4 v5;go_wp2_with fail;refine(Nn _ d (cl j).1 (cl j).2).mono ?_;rintro e w4 ⟨rfl,a9,b5⟩;have N:=b0.o.ext a9;have a3:Agree F w w4:=λx hx=>N.block x (HF.o x hx).1 (HF.o x hx).2
  have Z:=HI.o d e6.o g4.o w4 F w3.heap.size B (cl j).1 (cl j).2 a b (n+1+(Bm (l.take j)+(j-1))+(Da j).size) b5 ((f2.o j d HD.o).agree a3) (λi hi=>⟨Nat.lt_of_lt_of_le (HF.o i hi).1 N.size,(HF.o i hi).2⟩) (by have:=a2.o.lt;omega) (a2.o.ext a9) d8.o
   (g0.o.sb N λc hc e=>by have e:c=B:=e;omega) h6
  obtain⟨a8,g3⟩:=Yb Z N;clear a9 b5 N a3 Z u0 u1 u2 u3 u4 u5;go_wp2_with fail;refine a8.o.mono ?_;rintro e w5 ⟨⟨r3,rfl⟩,d4,d5⟩;obtain⟨e4,f7⟩:=Yb d4 (g3.o.trans d5);clear d4 d5;go_wp2_with fail;go_roundw
  case rel=>exact⟨j+1,by go_num,h1,by rw[show n+1+(Bm (l.take (j+1))+(j+1-1))=n+1+(Bm (l.take j)+(j-1))+(Da j).size+Be d by rw[f6.o,f9.o];omega];exact e4.o,f7.o⟩
  simp[intOf];omega
 obtain rfl:j=l.length:=oM
 rw[aR]at hb;have d9:=Gg (w:=wr) ⟨#[93]⟩ hb (by have:=HN.o;show _+1<=_;omega);obtain⟨d3,HS⟩:=Yb d9 hs;have g1:decide ((l.length:Int)<(l.length:Int))=false:=eM oM;clear d9 hb hs;go_wp2_with fail;refine d3.o.mono ?_;rintro e w3 ⟨⟨r2,rfl⟩,a1,I⟩;obtain⟨a2,b0⟩:=Yb a1 (HS.o.trans I);clear a1 I d3;go_wp2_with fail;go_end0;exact⟨⟨_,rfl⟩,by rw[show n+(2+Bm l+(l.length-1))=n+1+(Bm l+(l.length-1))+1 by omega];exact a2.o,b0.o⟩
attribute [local go_sem] Oper.semAt_some
def XL(w:AB)(a:Option Addr)(n c:Nat):Calls prog 241 #[.slice a n c] w λe w'=>e=.returned (.func (.func 251) #[] #[.pointer (some w)])/\Ext w w'/\AE w' w.heap.size 52 #[.slice a n c]:=by
 go_in;go_wp2_with fail;go_ret;exact⟨rfl,(gz w).alloc _ _,gB w _ _⟩
structure ME where
 t:AA
 d:Val
 V:Nat
 sl:Sl
 so:Sl
abbrev VT(x:ME):Array Value:=#[.string x.t,.func (.func (fnO x.d.kind)) #[] (bsO x.d.kind x.V)]
def TF(ok:List AA)(xs:List ME):Prop:=xs.length=ok.length
structure MG(F:Nat->Prop)(ok:List AA)(ov:List Val)(pre:List ME)(x:ME)(W0 W1:AB):Prop where
 ex:∃k,ok[pre.length]? = some k/\ov[pre.length]? = some x.d/\x.t=Da pre.length++Bl k
 blk:AE W1 x.V 54 (Cl x.d x.sl x.so)
 val:RV W1 F x.d x.sl x.so
 new:W0.heap.size<=x.V
structure MS(J:List ME->AB->Prop)(K:Nat->Prop)(W:AB)(j:Nat)(pre:List ME)(Wj wr:AB):Prop where
 inv:J pre Wj
 nw:Nw Wj wr
 len:pre.length=j
 ag:Agree K W wr
 sz:W.heap.size<=wr.heap.size
structure FV(w:AB)(F:Nat->Prop)(so:Sl)(ok:List AA)(ov:List Val):Prop where
 ex:∃(bo fo:Nat) (co:Nat->Sl × Sl),BV F so ok.length bo fo/\RO w F bo fo ok ov co
 len:ov.length=ok.length
 few:∀k∈ok,k.size<=10000000
variable{w':AB}
def FV.agree{ok:List AA}{ov:List Val}(h:FV w F so ok ov)(ha:Agree F w w'):FV w' F so ok ov:=by
 obtain⟨⟨bo,N,co,h1,h2⟩,I,Z⟩:=h;exact⟨⟨bo,N,co,h1,h2.agree ha I (λh=>h1.fits h)⟩,I,Z⟩
variable{j:Nat}
def FV.at{ok:List AA}{ov:List Val}(h:FV w F so ok ov)(hj:j<ok.length) :
  ∃(b o:Nat) (k:AA) (d:Val) (I N:Sl),so.a=some ⟨b,o,none⟩/\F b/\ok.length<=so.c/\so.c<=maxLen/\ok[j]? = some k/\ov[j]? = some d/\w.cell? ⟨b,o+j*7,none⟩=some (.string k)/\BR w b (o+j*7+1) d I N/\RV w F d I N/\k.size<=10000000:=by
 obtain⟨⟨b,o,co,h1,h2⟩,h3,h4⟩:=h;obtain⟨e1,e2,e3⟩:=h1.eq oM;have Z:=ac hj;have hd:=ac (l:=ov) (i:=j) oM;exact⟨b,o,_,_,_,_,e1,h1.fits oM,e2,e3,Z,hd,(h2.keys j _ Z).1,h2.cells j _ hd,h2.reads j _ hd,h4 _ (ap Z)⟩
def WY{J:List ME->AB->Prop}{F K:Nat->Prop}{ok:List AA}{ov:List Val}{W Wj wr I w5:AB}{pre:List ME}{k:AA}{d:Val}(h:MS J K W j pre Wj wr)(N:ok[j]? = some k/\ov[j]? = some d)(hb:AE w5 I.heap.size 54 (Cl d sl so))(hr:RV wr F d sl so)(hn:Nw wr w5)(hF:∀b,F b->b<wr.heap.size)(Z:wr.heap.size<=I.heap.size) :
  MG F ok ov pre ⟨Da j++Bl k,d,I.heap.size,sl,so⟩ Wj w5:=
 ⟨⟨k,by rw[h.len];exact N.1,by rw[h.len];exact N.2,by rw[h.len]⟩,hb,hr.agree (hn.agree hF),an h.nw.size Z⟩
def oJ(J Jx:List ME->AB->Prop)(K:Nat->Prop)(W:AB)(j:Nat)(xs:List ME)(bb:Bool)(w':AB):Prop:=(bb=true/\MS J K W (j+1) xs w' w')\/(bb=false/\Jx xs w')
def Zj{J Jx:List ME->AB->Prop}{K:Nat->Prop}{W Wj wr w5:AB}{pre:List ME}{x:ME}(h:MS J K W j pre Wj wr)(k:Nw wr w5)(hK:∀b,K b->b<W.heap.size)(e:AC)(w':AB)
  (Z:(e=.returned true/\J (pre++[x]) w'/\Agree K w5 w'/\w5.heap.size<=w'.heap.size)\/(e=.returned false/\Jx (pre++[x]) w')):∃I:Bool,e=.returned I/\Yd (oJ J Jx K W j (pre++[x]) I w'):=by
 rcases Z with⟨rfl,h1,h2,h3⟩ |⟨rfl,h1⟩
 .exact ⟨true,rfl,hY (.inl ⟨rfl,h1,gE _ _,by simp[h.len],(h.ag.trans (k.agree λb N=>ab (hK b N) h.sz)).trans h2,an (an h.sz k.size) h3⟩)⟩
 exact⟨false,rfl,hY (.inr ⟨rfl,h1⟩)⟩
variable{w0:AB}
def kY{N:Nat}{ok:List AA}{ov:List Val}(hB:AE w0 N 52 #[.slice so.a ok.length so.c])(hM:FV w0 F so ok ov)(hF:∀b,F b->b<w0.heap.size)(hL:Aw w0)(hn:ok.length<=100000000) :
  Na prog 251 #[.pointer (some N)] VT (λb=>F b\/b=N\/b<6) (MG F ok ov) (TF ok) (λ_=>True) w0:=by
 intro l J Jx W d5 hA d7 hJ;have h6:=hL.lib.big;have e2:=hB.lt;have b6:∀b,(F b\/b=N\/b<6)->b<W.heap.size:=λb hb=>by
  rcases hb with hb|rfl|hb
  .have:=hF b hb;omega
  .omega
  omega
 have a4:∀W1,Agree (λb=>F b\/b=N\/b<6) W W1->W.heap.size<=W1.heap.size->AE W1 N 52 #[.slice so.a ok.length so.c]/\FV W1 F so ok ov/\Aw W1:=λW1 hW hz=>by
  have ha:Agree (λb=>F b\/b=N\/b<6) w0 W1:=hA.trans hW;refine⟨(ha N (.inr (.inl rfl))).trans hB,hM.agree (ha.mono λb hb=>.inl hb),?_⟩;have hg:G5 w0 W1:=λb hb=>ha b (.inr (.inr hb))
  exact⟨⟨oM,λW2 I=>hL.lib.fmt W2 (hg.trans I),λW2 I=>hL.lib.val W2 (hg.trans I)⟩,λW2 I=>hL.dec W2 (hg.trans I),λW2 I=>hL.num W2 (hg.trans I)⟩
 obtain⟨e7,e4,HJ,a9⟩:=Ye d5 a4 hJ b6;have f5:(ok.length:Int)<=100000000:=oM
 have c0:W.cell? N=some (.slice so.a ok.length so.c):=(a4 W (Agree.refl _) (ao _)).1.cell 0;have lB:N<W.heap.size:=oM
 clear d5 hA hJ hB a4 hL h6 e2 d7 b6 hM hF;show Calls _ _ #[.func (.yield l) #[] #[],.pointer (some N)] W _;refine(eR (n:=5)).1 ?_;refine fT func251 rfl trivial ?_ rfl;simp only[ntmps251,zL,Nat.reduceAdd,Nat.reduceSub];gi_wp2_with fail;clear c0;gi_loopw [7] (λv wr=>∃(j:Nat) (pre:List ME) (Wj:AB),v=.int .i64 (j:Int)/\j<=ok.length/\Yd (MS J (λb=>F b\/b=N\/b<6) W j pre Wj wr)) (λv _=>ok.length -(intOf v).toNat)
 case atStart=>exact⟨0,[],W,rfl,aw _,hY ⟨HJ.o,gE _ _,rfl,Agree.refl _,ao _⟩⟩
 obtain⟨j,pre,Wj,rfl,hj,HS⟩:=hrel;obtain⟨-,hm,a5⟩:=e4.o wr HS.o.ag HS.o.sz;by_cases d4:j<ok.length
 ·obtain ⟨bo,fo,k,d,Z,a0,b7,d9,d8,e6,hk,hd,kc,c9,d6,b8⟩:=hm.at d4
  have f4:bo<wr:=ab (a9.o bo (.inl d9)) HS.o.sz;obtain⟨sa,sc⟩:=so;dsimp only at b7 d8 e6;subst b7;obtain⟨v0,v1,v2,v3,v4,v5⟩:=c9.m;have g1:(j:Int)<(ok.length:Int):=oM
  have f6:decide ((j:Int)<(ok.length:Int))=true:=eO g1;obtain⟨e1,f2,f0,HK,b4⟩:=Yf (λ(b:Nat) (hb:F b)=>ab (a9.o b (.inl hb)) HS.o.sz) a5 d6 (And.intro hk hd) b8;clear hm a5 c9 d6 hk hd b8;gi_wp2_with fail;generalize a8:wr.alloc _=W3;have a7:Ext wr W3:=by rw[<-a8];exact(gz wr).alloc _ _
  have a2:AE W3 wr.heap.size 107 #[.string k,.int .i64 d.kind,.bool d.b,.int .i64 d.i,.string d.t,.slice Z.a d.l.length Z.c,.slice a0.a d.ok.length a0.c]:=by rw[<-a8];exact gB wr _ _
  obtain⟨q0,q1,q2,q3,q4,q5,q6⟩:=a2.c7;have lq:=a2.lt;have hq:Calls prog 237 #[k] W3.drew λe w'=>e=.returned (Bl k)/\Nw W3.drew w':=Uy (f2.o.nw (gA (a7.drew))) b4.o
  have f1:=OJ j;have e0:=NN k;have c6:=b4.o;have c8:∀W:AB,(Op.stringOp .add (Da j) (Bl k)).run prog W=.ok (.string (Da j++Bl k)) W:=λW=>run_string_add_sum (w:=W) _ _ oM
  clear f1 e0 c6;obtain⟨HQ,a6,d0⟩:=Yc hq a2 a7;clear a8 hq a2 a7 v0 v1 v2 v3 v4 v5 kc;gi_region_with (first
   |(refine⟨trivial,?_⟩;refine(eR.2 (Tu _ j)).mono ?_;rintro e w4 ⟨rfl,rfl⟩)
   |(refine⟨trivial,?_⟩;refine(eR.2 HQ.o).mono ?_;rintro e w4 ⟨rfl,a1⟩;have b3:=hY a1;obtain⟨p0,p1,p2,p3,p4,p5,p6⟩:=(a1.blk (show AE W3.drew _ _ _ from a6.o)).c7;have lp:=(a1.blk (show AE W3.drew _ _ _ from a6.o)).lt;clear a1)
   |(refine⟨trivial,?_⟩;refine(eR.2 (Nn _ d Z a0)).mono ?_;rintro e w5 ⟨rfl,b0,d3⟩;have a3:=((gA d0.o.drew).trans b3.o).trans (gA b0);have hy:=e7.o pre ⟨Da j++Bl k,d,w4.heap.size,Z,a0⟩ Wj w5 HS.o.inv (HS.o.nw.trans a3) (WY HS.o HK.o d3 f0.o a3 e1.o (an d0.o.size b3.o.size));have HH:=hY (Zj (Jx:=Jx) (x:=⟨Da j++Bl k,d,w4.heap.size,Z,a0⟩) HS.o a3 a9.o);obtain⟨fn,f3,assign,body,hy,hR⟩:=hy;have HR:=hY hR;dsimp only[VT]at hy;clear hR b0 d3 a3)
   |(refine HR.o.mono ?_;intro e w6 h6;obtain⟨bb,rfl,H7⟩:=HH.o e w6 h6;clear h6))
  all_goals
   clear p0 p1 p2 p3 p4 p5 p6 q0 q1 q2 q3 q4 q5 q6 c8 HQ a6 hy HR HH;rcases H7.o with⟨rfl,b9⟩ |⟨rfl,b5⟩
   ·have e8:=hY b9
    clear b9 H7;gi_wp2_with fail;go_roundw
    case rel=>exact⟨j+1,_,w6,by go_num,d4,e8⟩
    simp[intOf];omega
   have e3:=hY b5;clear b5 H7;gi_wp2_with fail;refine eU (v:=.tuple #[]) (by simp[results,results251,go_sem]) rfl ?_;exact⟨⟨_,rfl⟩,.inr ⟨_,w6,trivial,e3.o,gE _ _⟩⟩
 obtain rfl:j=ok.length:=oM
 have g1:decide ((ok.length:Int)<(ok.length:Int))=false:=eM oM;have HE:=hY (show TF ok pre from HS.o.len);clear hm a5;gi_wp2_with fail;go_end0;exact⟨⟨_,rfl⟩,.inl ⟨pre,Wj,HE.o,HS.o.inv,HS.o.nw⟩⟩
end Go.Proofs.YtahhllcdbjbpbaaGreatDoor
