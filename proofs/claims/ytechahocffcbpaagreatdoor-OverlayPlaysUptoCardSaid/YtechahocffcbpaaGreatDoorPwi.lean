/- What the theorem needs of the texts OwnV, OwnW, OwnM, OwnO, FitV, OvBack, OvBackW, ScanP, ScanW, ScanR, ScanT, ScanK, ScanQ, KeysEnd, ScanX, Known08, Law8B, Coll3, OvSort: no condition of its own. -/
import Derived.Lib.ItoaLen
import Derived.Laws.IdiomStrings
import Derived.WalkArith
import Derived.Sort.LoopGhostIn
import Derived.Stop.RegionWithIn
import Derived.TacticsInMore
import Derived.LoopNIn
import Derived.LoopIn
import Derived.RangeFuncNested
import Derived.RangeFuncBound
import Derived.RangeFuncCalls
import Derived.RangeFuncLeaves
import Derived.Shelf.Abstract
import Derived.Shelf.RegionOpen
import Derived.OwnWalkIn
import Derived.OrdersIn
import Derived.WalkMore
import Derived.Sort.OwnSorted
import Derived.Test.YtechahocffcbpaaGreatDoorPwa
import Derived.Test.YtechahocffcbpaaGreatDoorPwb
import Derived.Test.YtechahocffcbpaaGreatDoorPwc
import Derived.Test.YtechahocffcbpaaGreatDoorPwd
import Derived.Test.YtechahocffcbpaaGreatDoorPwe
import Derived.Test.YtechahocffcbpaaGreatDoorPwf
import Derived.Test.YtechahocffcbpaaGreatDoorPwg
set_option maxRecDepth 100000
set_option maxHeartbeats 4000000
namespace Go.Proofs.YtechahocffcbpaaGreatDoor
open Go.RowKit Go.Maps Go.Shelf
set_option linter.unusedVariables false
set_option linter.unusedSimpArgs false
mutual
/-- How many bytes a value's text has. -/
def lenV:Val→Nat
 | .mk k b i t l ok ov=>if k=2 then lenB b else if k=3 then (Lib.itoa i).length else if k=4 then (quoteA t).size else if k=5 then 2+lenL l+(l.length - 1) else if k=6 then 2+lenM ok ov+(ov.length - 1) else 4
def lenL:List Val→Nat
 | []=>0
 | d :: r=>lenV d+lenL r
def lenM:List ByteArray→List Val→Nat
 | _,[]=>0
 | ks,d :: r=>(quoteA (ks.headD ByteArray.empty)).size+1+lenV d+lenM ks.tail r
end
theorem lenL_take:∀ {l:List Val} {j:Nat} {d:Val},l[j]? = some d→lenL (l.take (j+1))=lenL (l.take j)+lenV d
 | [],j,d,h=>by simp at h
 | x :: r,0,d,h=>by
   simp at h;subst h
   simp [lenL]
 | x :: r,j+1,d,h=>by
   have h':r[j]? = some d:=by simpa using h
   rw [List.take_succ_cons,List.take_succ_cons,lenL,lenL,lenL_take h',Nat.add_assoc]
theorem lenL_cut (l:List Val) (j:Nat):lenL (l.take j)≤lenL l:=by
 induction l generalizing j with
 | nil=>simp
 | cons x r ih=>
   cases j with
   | zero=>simp [lenL]
   | succ j=>rw [List.take_succ_cons,lenL,lenL];have:=ih j;omega
theorem lenM_take:∀ {ks:List ByteArray} {l:List Val} {j:Nat} {d:Val} {k:ByteArray},l[j]? = some d→ks[j]? = some k→lenM ks (l.take (j+1))=lenM ks (l.take j)+((quoteA k).size+1+lenV d)
 | ks,[],j,d,k,h,_=>by simp at h
 | [],x :: r,j,d,k,h,hk=>by simp at hk
 | y :: ks,x :: r,0,d,k,h,hk=>by
   simp at h hk;subst h hk
   simp [lenM]
 | y :: ks,x :: r,j+1,d,k,h,hk=>by
   have h':r[j]? = some d:=by simpa using h
   have hk':ks[j]? = some k:=by simpa using hk
   rw [List.take_succ_cons,List.take_succ_cons,lenM,lenM,List.tail_cons,lenM_take h' hk'];omega
theorem lenM_cut:∀ (ks:List ByteArray) (l:List Val) (j:Nat),lenM ks (l.take j)≤lenM ks l
 | ks,[],j=>by simp
 | ks,x :: r,0=>by simp [lenM]
 | ks,x :: r,j+1=>by
   rw [List.take_succ_cons,lenM,lenM];have:=lenM_cut ks.tail r j;omega
theorem join_oneG {w:World} {B:Nat} {a b:Value} {m:Nat} (s:ByteArray) (hB:Blk w B 144 (wrC a b m)) (hm:m+s.size≤100000000) :
  Calls Tryz.prog 139 #[.pointer (some ⟨B,0,none⟩),.slice (some ⟨w.heap.size,0,none⟩) 1 1] (w.alloc (.cells #[.string s] 9)) fun e w'=>(∃ r,e=.returned r)∧Blk w' B 144 (wrC a b (m+s.size))∧Sb (fun c=>c=B) w w':=by
 have hx:Ext w (w.alloc (.cells #[.string s] 9)):=(Ext.refl w).alloc _ _
 have hl:=hB.lt
 have hj:=join_any (s:=⟨some ⟨w.heap.size,0,none⟩,1⟩) (ks:=[s]) (hB.ext hx) (Rd.block (Blk.new w 9 #[.string s]) (by decide) rfl) (fun i hi=>by subst hi;exact ⟨by simp,by omega⟩) (by simp [sumS];omega) (by simp)
 exact hj.mono fun e w' ⟨h1,h2,h3⟩=>⟨h1,by simpa [sumS] using h2,(Nw.any (Nw.of hx) _).trans h3.sb⟩
theorem join_two {w:World} {B:Nat} {a b:Value} {m:Nat} (s t:ByteArray) (hB:Blk w B 144 (wrC a b m)) (hm:m+s.size+t.size≤100000000) :
  Calls Tryz.prog 139 #[.pointer (some ⟨B,0,none⟩),.slice (some ⟨w.heap.size,0,none⟩) 2 2] (w.alloc (.cells #[.string s,.string t] 9)) fun e w'=>(∃ r,e=.returned r)∧Blk w' B 144 (wrC a b (m+s.size+t.size))∧Sb (fun c=>c=B) w w':=by
 have hx:Ext w (w.alloc (.cells #[.string s,.string t] 9)):=(Ext.refl w).alloc _ _
 have hl:=hB.lt
 have hj:=join_any (s:=⟨some ⟨w.heap.size,0,none⟩,2⟩) (ks:=[s,t]) (hB.ext hx) (Rd.block (Blk.new w 9 #[.string s,.string t]) (by decide) rfl) (fun i hi=>by subst hi;exact ⟨by simp,by omega⟩) (by simp [sumS];omega) (by simp)
 exact hj.mono fun e w' ⟨h1,h2,h3⟩=>⟨h1,by simpa [sumS,Nat.add_assoc] using h2,(Nw.any (Nw.of hx) _).trans h3.sb⟩
theorem own2_any {w:World} {V B:Nat} {a b:Value} {n:Int} {m:Nat} {c0 c1 c3 c4 c5:Value} (hV:Blk w V 34 #[c0,c1,.int .i64 n,c3,c4,c5]) (hB:Blk w B 144 (wrC a b m)) (h0 : -9223372036854775808≤n) (h1:n≤9223372036854775807) (hm:m+(Lib.itoa n).length≤100000000) (hL:LibQ w) :
  Calls Tryz.prog 141 #[.pointer (some ⟨B,0,none⟩),.pointer (some ⟨V,0,none⟩)] w fun e w'=>(∃ r,e=.returned r)∧Blk w' B 144 (wrC a b (m+(Lib.itoa n).length))∧Sb (fun c=>c=B) w w':=by
 have hf:=hL.num w (G5.refl w) n h0 h1
 have c2:w.cell? ⟨V,2,none⟩=some (.int .i64 n):=hV.cell 2
 have HF:=Lib.hid hf
 have HB:=Lib.hid hB
 have HM:=Lib.hid hm
 clear hf hV hB hm h0 h1 hL
 go_enter Tryz.func141,Tryz.ntmps141
 go_wp2_with fail
 refine HF.out.mono ?_
 rintro e w1 ⟨rfl,hn1⟩
 have hj:=join_oneG (w:=w1) ⟨(Lib.itoa n).toArray⟩ (hn1.blk HB.out) (by have:=HM.out;simpa [ByteArray.size] using this)
 rw [show (ByteArray.mk (Lib.itoa n).toArray).size=(Lib.itoa n).length by simp [ByteArray.size]] at hj
 have HJ:=Lib.hid hj
 have HN:=Lib.hid hn1
 clear hj hn1 c2
 go_wp2_with fail
 refine HJ.out.mono ?_
 rintro e w2 ⟨⟨r,rfl⟩,hb1,hs1⟩
 have HB1:=Lib.hid hb1
 have HS1:=Lib.hid ((HN.out.any _).trans hs1)
 clear hb1 hs1
 go_wp2_with fail
 go_end0
 exact ⟨⟨_,rfl⟩,HB1.out,HS1.out⟩
theorem own3_any {w:World} {V B:Nat} {a b:Value} {t:ByteArray} {m:Nat} {c0 c1 c2 c4 c5:Value} (hV:Blk w V 34 #[c0,c1,c2,.string t,c4,c5]) (hB:Blk w B 144 (wrC a b m)) (ht:t.size≤10000000) (hm:m+(quoteA t).size≤100000000) (hL:LibQ w) :
  Calls Tryz.prog 143 #[.pointer (some ⟨B,0,none⟩),.pointer (some ⟨V,0,none⟩)] w fun e w'=>(∃ r,e=.returned r)∧Blk w' B 144 (wrC a b (m+(quoteA t).size))∧Sb (fun c=>c=B) w w':=by
 have hf:=quote_any hL ht
 have c2:w.cell? ⟨V,3,none⟩=some (.string t):=hV.cell 3
 have HF:=Lib.hid hf
 have HB:=Lib.hid hB
 have HM:=Lib.hid hm
 clear hf hV hB hm hL ht
 go_enter Tryz.func143,Tryz.ntmps143
 go_wp2_with fail
 refine HF.out.mono ?_
 rintro e w1 ⟨rfl,hn1⟩
 have hj:=join_oneG (w:=w1) (quoteA t) (hn1.blk HB.out) HM.out
 have HJ:=Lib.hid hj
 have HN:=Lib.hid hn1
 clear hj hn1 c2
 go_wp2_with fail
 refine HJ.out.mono ?_
 rintro e w2 ⟨⟨r,rfl⟩,hb1,hs1⟩
 have HB1:=Lib.hid hb1
 have HS1:=Lib.hid ((HN.out.any _).trans hs1)
 clear hb1 hs1
 go_wp2_with fail
 go_end0
 exact ⟨⟨_,rfl⟩,HB1.out,HS1.out⟩
def fnO (k:Int):Nat:=if k=2 then 138 else if k=3 then 141 else if k=4 then 143 else if k=5 then 145 else if k=6 then 147 else 149
def bsO (k:Int) (V:Nat):Array Value:=if k=2∨k=3∨k=4∨k=5∨k=6 then #[.pointer (some ⟨V,0,none⟩)] else #[]
abbrev valC (d:Val) (sl so:Sl):Array Value:=#[.int .i64 d.kind,.bool d.b,.int .i64 d.i,.string d.t,.slice sl.a d.l.length sl.c,.slice so.a d.ok.length so.c]
theorem own_any (w:World) (d:Val) (sl so:Sl):Calls Tryz.prog 94 #[aggV d sl so] w fun e w'=>e=.returned (.func (.func (fnO d.kind)) #[] (bsO d.kind w.heap.size))∧Ext w w'∧Blk w' w.heap.size 34 (valC d sl so):=by
 obtain ⟨k,b,i,t,l,ok,ov⟩:=d
 show Calls _ _ #[.agg #[.int .i64 k,.bool b,.int .i64 i,.string t,.slice sl.a l.length sl.c,.slice so.a ok.length so.c]] _ fun e w'=>e=.returned (.func (.func (fnO k)) #[] (bsO k w.heap.size))∧Ext w w'∧Blk w' w.heap.size 34 #[.int .i64 k,.bool b,.int .i64 i,.string t,.slice sl.a l.length sl.c,.slice so.a ok.length so.c]
 by_cases h2:k=2
 ·subst h2
  go_enter Tryz.func94,Tryz.ntmps94
  go_wp2_with fail
  go_ret
  exact ⟨rfl,(Ext.refl w).alloc _ _,Blk.new w _ _⟩
 by_cases h3:k=3
 ·subst h3
  go_enter Tryz.func94,Tryz.ntmps94
  go_wp2_with fail
  go_ret
  exact ⟨rfl,(Ext.refl w).alloc _ _,Blk.new w _ _⟩
 by_cases h4:k=4
 ·subst h4
  go_enter Tryz.func94,Tryz.ntmps94
  go_wp2_with fail
  go_ret
  exact ⟨rfl,(Ext.refl w).alloc _ _,Blk.new w _ _⟩
 by_cases h5:k=5
 ·subst h5
  go_enter Tryz.func94,Tryz.ntmps94
  go_wp2_with fail
  go_ret
  exact ⟨rfl,(Ext.refl w).alloc _ _,Blk.new w _ _⟩
 by_cases h6:k=6
 ·subst h6
  go_enter Tryz.func94,Tryz.ntmps94
  go_wp2_with fail
  go_ret
  exact ⟨rfl,(Ext.refl w).alloc _ _,Blk.new w _ _⟩
 have g2:(k == 2)=false:=by simpa using h2
 have g3:(k == 3)=false:=by simpa using h3
 have g4:(k == 4)=false:=by simpa using h4
 have g5:(k == 5)=false:=by simpa using h5
 have g6:(k == 6)=false:=by simpa using h6
 have hf:fnO k=149:=by simp [fnO,h2,h3,h4,h5,h6]
 have hb:bsO k w.heap.size=#[]:=by simp [bsO,h2,h3,h4,h5,h6]
 rw [hf,hb]
 clear h2 h3 h4 h5 h6 hf hb
 go_enter Tryz.func94,Tryz.ntmps94
 go_wp2_with fail
 go_ret
 exact ⟨rfl,(Ext.refl w).alloc _ _,Blk.new w _ _⟩
mutual
/-- How much a value counts. -/
def cntV:Val→Nat
 | .mk k b i t l ok ov=>7+t.size+cntL l+cntM ok ov
def cntL:List Val→Nat
 | []=>0
 | d :: r=>cntV d+cntL r
def cntM:List ByteArray→List Val→Nat
 | _,[]=>0
 | ks,d :: r=>(ks.headD ByteArray.empty).size+2+cntV d+cntM ks.tail r
end
theorem cntL_at:∀ {l:List Val} {j:Nat} {d:Val},l[j]? = some d→cntV d≤cntL l
 | [],j,d,h=>by simp at h
 | x :: r,0,d,h=>by simp at h;subst h;rw [cntL];omega
 | x :: r,j+1,d,h=>by have:=cntL_at (l:=r) (j:=j) (by simpa using h);rw [cntL];omega
theorem cntM_at:∀ {ks:List ByteArray} {l:List Val} {j:Nat} {d:Val} {k:ByteArray},l[j]? = some d→ks[j]? = some k→cntV d+k.size≤cntM ks l
 | ks,[],j,d,k,h,_=>by simp at h
 | [],x :: r,j,d,k,h,hk=>by simp at hk
 | y :: ks,x :: r,0,d,k,h,hk=>by simp at h hk;subst h hk;rw [cntM,List.headD_cons];omega
 | y :: ks,x :: r,j+1,d,k,h,hk=>by have:=cntM_at (ks:=ks) (l:=r) (j:=j) (by simpa using h) (by simpa using hk);rw [cntM,List.tail_cons];omega
theorem quoteA_len (s:ByteArray):(quoteA s).size≤6*s.size+2:=by
 unfold quoteA
 split
 ·have:=quoteS_len s
  show (quoteS s).toArray.size≤_
  rw [List.size_toArray];exact this
 show 0≤_;omega
theorem lenB_le (x:Bool):lenB x≤5:=by rw [lenB_eq];split <;> omega
mutual
theorem lenV_cnt (F:Nat→Prop) (w:World):∀ (d:Val) (sl so:Sl),RV w F d sl so→lenV d+2≤6*cntV d
 | .mk k b i t l ok ov,sl,so,h=>by
   unfold lenV cntV
   cases h with
   | mk bl fl bo fo cl co hl ho hov el rl ek eo ro bk bi bt nl no=>
   split
   ·have:=lenB_le b;omega
   split
   ·have:=Lib.itoa_length_le i (by simp [Lit.wf,IntKind.min,IntKind.max,IntKind.signed,IntKind.bits] at bi;omega) (by simp [Lit.wf,IntKind.min,IntKind.max,IntKind.signed,IntKind.bits] at bi;omega)
    omega
   split
   ·have:=quoteA_len t;omega
   split
   ·have:=lenL_cnt F w l cl (fun j d hj=>rl j d hj)
    omega
   split
   ·have:=lenM_cnt F w ok ov co (fun j d hj=>ro j d hj) hov
    omega
   omega
theorem lenL_cnt (F:Nat→Prop) (w:World):∀ (l:List Val) (c:Nat→Sl × Sl),(∀ j d,l[j]? = some d→RV w F d (c j).1 (c j).2)→lenL l+2*l.length≤6*cntL l
 | [],c,h=>by simp [lenL,cntL]
 | d :: r,c,h=>by
   have h1:=lenV_cnt F w d _ _ (h 0 d rfl)
   have h2:=lenL_cnt F w r (fun j=>c (j+1)) (fun j d hj=>h (j+1) d (by simpa using hj))
   rw [lenL,cntL,List.length_cons];omega
theorem lenM_cnt (F:Nat→Prop) (w:World):∀ (ks:List ByteArray) (l:List Val) (c:Nat→Sl × Sl),(∀ j d,l[j]? = some d→RV w F d (c j).1 (c j).2)→l.length=ks.length→lenM ks l+2*l.length≤6*cntM ks l
 | ks,[],c,h,hl=>by simp [lenM,cntM]
 | [],d :: r,c,h,hl=>by cases hl
 | k :: ks,d :: r,c,h,hl=>by
   have h1:=lenV_cnt F w d _ _ (h 0 d rfl)
   have h2:=lenM_cnt F w ks r (fun j=>c (j+1)) (fun j d hj=>h (j+1) d (by simpa using hj)) (by simpa using hl)
   have h3:=quoteA_len k
   rw [lenM,cntM,List.length_cons,List.headD_cons,List.tail_cons];omega
end
def comA (j:Nat):ByteArray:=if j=0 then ByteArray.empty else ⟨#[44]⟩
theorem between_x (w:World) (j:Nat):Calls Tryz.prog 146 #[.int .i64 (j:Int)] w fun e w'=>e=.returned (.string (comA j))∧w'=w:=by
 by_cases h:j=0
 ·subst h
  go_enter Tryz.func146,Tryz.ntmps146
  go_wp2_with fail
  go_ret
  exact ⟨rfl,rfl⟩
 have g0:((j:Int) == 0)=false:=by simp;omega
 have hc:comA j=⟨#[44]⟩:=if_neg h
 rw [hc]
 clear hc h
 go_enter Tryz.func146,Tryz.ntmps146
 go_wp2_with fail
 go_ret
 exact ⟨rfl,rfl⟩
theorem comA_len (j:Nat):(comA j).size=j - (j - 1):=by
 unfold comA
 by_cases h:j=0
 ·subst h;rfl
 rw [if_neg h];show 1=_;omega
def WrPost (B:Nat) (a b:Value) (n:Nat) (d:Val) (w:World) (e:Ending) (w':World):Prop:=
 (∃ r,e=.returned r)∧Blk w' B 144 (wrC a b (n+lenV d))∧Sb (fun c=>c=B) w w'
def WrIH (P:Val→Prop):Prop:=∀ (d:Val),P d→cntV d≤1100000→∀ (w:World) (F:Nat→Prop) (V B:Nat) (sl so:Sl) (a b:Value) (n:Nat),Blk w V 34 (valC d sl so)→RV w F d sl so→(∀ i,F i→i<w.heap.size∧i≠B)→V≠B→Blk w B 144 (wrC a b n)→n+lenV d≤9000000→LibQ w→6≤B→
 Calls Tryz.prog (fnO d.kind) (#[.pointer (some ⟨B,0,none⟩)]++bsO d.kind V) w (WrPost B a b n d w)
theorem enters_own (k:Int):∀ args w,(callFunc (fnO k) args).run Tryz.prog w=.ok (.enter (fnO k) args) w:=by
 unfold fnO
 split
 ·exact enters_of Tryz.func138 (by kernel_rfl) rfl
 split
 ·exact enters_of Tryz.func141 (by kernel_rfl) rfl
 split
 ·exact enters_of Tryz.func143 (by kernel_rfl) rfl
 split
 ·exact enters_of Tryz.func145 (by kernel_rfl) rfl
 split
 ·exact enters_of Tryz.func147 (by kernel_rfl) rfl
 exact enters_of Tryz.func149 (by kernel_rfl) rfl
theorem own4_any {P:Val→Prop} (hI:WrIH P) {w:World} {F:Nat→Prop} {V B:Nat} {bo:Bool} {i:Int} {t:ByteArray} {l:List Val} {ok:List ByteArray} {ov:List Val} {sl so:Sl} {a b:Value} {n:Nat}
  (hP:∀ (j:Nat) (d:Val),l[j]? = some d→P d) (hc:cntL l≤1100000)
  (hV:Blk w V 34 #[.int .i64 5,.bool bo,.int .i64 i,.string t,.slice sl.a l.length sl.c,.slice so.a ok.length so.c]) (h:RV w F (.mk 5 bo i t l ok ov) sl so) (hF:∀ i,F i→i<w.heap.size∧i≠B) (hVB:V≠B) (hB:Blk w B 144 (wrC a b n)) (hn:n+(2+lenL l+(l.length - 1))≤9000000) (hL:LibQ w) (h6:6≤B) :
  Calls Tryz.prog 145 #[.pointer (some ⟨B,0,none⟩),.pointer (some ⟨V,0,none⟩)] w fun e w'=>(∃ r,e=.returned r)∧Blk w' B 144 (wrC a b (n+(2+lenL l+(l.length - 1))))∧Sb (fun c=>c=B) w w':=by
 cases h with
 | mk bl fl bo' fo cl co hl ho hov el rl ek eo ro bk bi bt nl no=>
 have hj0:=join_oneG (w:=w) ⟨#[91]⟩ hB (by show n+1≤_;omega)
 have hbt:=fun W j=>between_x W j
 have HJ0:=Lib.hid hj0
 have HBT:=Lib.hid hbt
 have HV:=Lib.hid hV
 have HF:=Lib.hid hF
 have HEL:=Lib.hid el
 have HRL:=Lib.hid rl
 have HSL:=Lib.hid hl
 have HLQ:=Lib.hid hL
 have HI:=Lib.hid hI
 have HP:=Lib.hid hP
 have HC:=Lib.hid hc
 have HN:=Lib.hid hn
 have hVl:=hV.lt
 have hBl:=hB.lt
 have hll:l.length≤2000000000000:=by omega
 clear hj0 hbt hV hB hF el rl ek eo ro hl ho hov hL hI hP hc hn bk bi bt nl no
 go_enter Tryz.func145,Tryz.ntmps145
 go_wp2_with fail
 refine HJ0.out.mono ?_
 rintro e w1 ⟨⟨r,rfl⟩,hb1,hs1⟩
 obtain ⟨q0,q1,q2,q3,q4,q5⟩:=(hs1.blk HV.out hVB).c6
 have HB1:=Lib.hid hb1
 have HS1:=Lib.hid hs1
 clear hb1 hs1 HJ0
 go_wp2_with fail
 go_loopw [11] (fun q wr=>∃ (j:Nat),q=.int .i64 j∧j≤l.length∧Blk wr B 144 (wrC a b (n+1+(lenL (l.take j)+(j - 1))))∧Sb (fun c=>c=B) w wr) (fun q _=>l.length - (intOf q).toNat)
 case atStart=>exact ⟨0,rfl,Nat.zero_le _,HB1.out,HS1.out⟩
 obtain ⟨j,rfl,hj,hb,hs⟩:=hrel
 by_cases h1:j<l.length
 ·have g1:(j:Int)<(l.length:Int):=by omega
  have g1':decide ((j:Int)<(l.length:Int))=true:=decide_eq_true g1
  obtain ⟨d,hd⟩:∃ d,l[j]? = some d:=⟨_,List.getElem?_eq_getElem h1⟩
  obtain ⟨hsa,hlc,hcm⟩:=HSL.out.eq (by omega)
  have hbl:=HF.out bl (HSL.out.fits (by omega))
  have hag:Agree F w wr:=fun x hx=>hs.block x (HF.out x hx).1 (HF.out x hx).2
  have hbF:=HSL.out.fits (show 0<l.length by omega)
  obtain ⟨sa,sc⟩:=sl
  dsimp only at hsa hlc hcm
  subst hsa
  obtain ⟨v0,v1,v2,v3,v4,v5⟩:=(HEL.out j d hd).agree hag hbF
  have lb:bl<wr.heap.size:=Nat.lt_of_lt_of_le hbl.1 hs.size
  have hcut:=lenL_cut l (j+1)
  have htk:=lenL_take hd
  have hcom:=comA_len j
  have hlenN:n+1+(lenL (l.take j)+(j - 1))+(comA j).size+lenV d≤9000000:=by have:=HN.out;omega
  have hcd:cntV d≤1100000:=Nat.le_trans (cntL_at hd) HC.out
  have HD:=Lib.hid hd
  have HB:=Lib.hid hb
  have HS:=Lib.hid hs
  have HLN:=Lib.hid hlenN
  have HTK:=Lib.hid htk
  have HCM:=Lib.hid hcom
  have HCD:=Lib.hid hcd
  have HPD:=Lib.hid (HP.out j d hd)
  have hen:=enters_own d.kind
  clear hb hs hag hbl hcut htk hcom hlenN hcd hd
  go_wp2_with fail
  refine (HBT.out _ j).mono ?_
  rintro e w2 ⟨rfl,hw2⟩
  have hx2:Ext wr w2:=by rw [hw2];exact (Ext.refl wr).alloc _ _
  have hb2:Blk w2 wr.heap.size 34 (valC d (cl j).1 (cl j).2):=by rw [hw2];exact Blk.new wr 34 _
  clear hw2
  have hj2:=join_oneG (w:=w2) (comA j) (HB.out.ext hx2) (by have:=HLN.out;omega)
  have HJ2:=Lib.hid hj2
  have HIB:=Lib.hid hb2
  have HS2:=Lib.hid (HS.out.ext hx2)
  have hlr:=HB.out.lt
  clear hx2 hb2 hj2
  go_wp2_with fail
  refine HJ2.out.mono ?_
  rintro e w3 ⟨⟨r2,rfl⟩,hb3,hs3⟩
  have hi3:=hs3.blk HIB.out (by omega)
  obtain ⟨u0,u1,u2,u3,u4,u5⟩:=hi3.c6
  have HB3:=Lib.hid hb3
  have HS3:=Lib.hid (HS2.out.trans hs3)
  clear hb3 hs3 hi3 HJ2 v0 v1 v2 v3 v4 v5
  go_wp2_with fail
  refine (own_any _ d (cl j).1 (cl j).2).mono ?_
  rintro e w4 ⟨rfl,hx4,hbv⟩
  have hs4:=HS3.out.ext hx4
  have hag4:Agree F w w4:=fun x hx=>hs4.block x (HF.out x hx).1 (HF.out x hx).2
  have hcall:=HI.out d HPD.out HCD.out w4 F w3.heap.size B (cl j).1 (cl j).2 a b (n+1+(lenL (l.take j)+(j - 1))+(comA j).size) hbv ((HRL.out j d HD.out).agree hag4) (fun i hi=>⟨Nat.lt_of_lt_of_le (HF.out i hi).1 hs4.size,(HF.out i hi).2⟩) (by have:=HB3.out.lt;omega) (HB3.out.ext hx4) HLN.out
   (HLQ.out.sb hs4 fun c hc e=>by have e:c=B:=e;omega) h6
  have HCALL:=Lib.hid hcall
  have HS4:=Lib.hid hs4
  clear hx4 hbv hs4 hag4 hcall u0 u1 u2 u3 u4 u5
  go_wp2_with fail
  refine HCALL.out.mono ?_
  rintro e w5 ⟨⟨r3,rfl⟩,hb5,hs5⟩
  have HB5:=Lib.hid hb5
  have HS5:=Lib.hid (HS4.out.trans hs5)
  clear hb5 hs5
  go_wp2_with fail
  go_roundw
  case rel=>exact ⟨j+1,by go_num,h1,by rw [show n+1+(lenL (l.take (j+1))+(j+1 - 1))=n+1+(lenL (l.take j)+(j - 1))+(comA j).size+lenV d by rw [HTK.out,HCM.out];omega];exact HB5.out,HS5.out⟩
  simp [intOf];omega
 obtain rfl:j=l.length:=by omega
 rw [List.take_length] at hb
 have hj1:=join_oneG (w:=wr) ⟨#[93]⟩ hb (by have:=HN.out;show _+1≤_;omega)
 have HJ1:=Lib.hid hj1
 have HS:=Lib.hid hs
 have g1:decide ((l.length:Int)<(l.length:Int))=false:=decide_eq_false (by omega)
 clear hj1 hb hs
 go_wp2_with fail
 refine HJ1.out.mono ?_
 rintro e w3 ⟨⟨r2,rfl⟩,hb3,hs3⟩
 have HB3:=Lib.hid hb3
 have HS3:=Lib.hid (HS.out.trans hs3)
 clear hb3 hs3 HJ1
 go_wp2_with fail
 go_end0
 exact ⟨⟨_,rfl⟩,by rw [show n+(2+lenL l+(l.length - 1))=n+1+(lenL l+(l.length - 1))+1 by omega];exact HB3.out,HS3.out⟩
attribute [local go_sem] Oper.semAt_some
theorem mems_any (w:World) (a:Option Addr) (n c:Nat):Calls Tryz.prog 148 #[.slice a n c] w fun e w'=>e=.returned (.func (.func 184) #[] #[.pointer (some ⟨w.heap.size,0,none⟩)])∧Ext w w'∧Blk w' w.heap.size 32 #[.slice a n c]:=by
 go_enter Tryz.func148,Tryz.ntmps148
 go_wp2_with fail
 go_ret
 exact ⟨rfl,(Ext.refl w).alloc _ _,Blk.new w _ _⟩
structure ME where
 t:ByteArray
 d:Val
 V:Nat
 sl:Sl
 so:Sl
abbrev encM (x:ME):Array Value:=#[.string x.t,.func (.func (fnO x.d.kind)) #[] (bsO x.d.kind x.V)]
def MDone (ok:List ByteArray) (xs:List ME):Prop:=xs.length=ok.length
structure MG (F:Nat→Prop) (ok:List ByteArray) (ov:List Val) (pre:List ME) (x:ME) (W0 W1:World):Prop where
 ex:∃ k,ok[pre.length]? = some k∧ov[pre.length]? = some x.d∧x.t=comA pre.length++quoteA k
 blk:Blk W1 x.V 34 (valC x.d x.sl x.so)
 val:RV W1 F x.d x.sl x.so
 new:W0.heap.size≤x.V
structure MS (J:List ME→World→Prop) (K:Nat→Prop) (W:World) (j:Nat) (pre:List ME) (Wj wr:World):Prop where
 inv:J pre Wj
 nw:Nw Wj wr
 len:pre.length=j
 ag:Agree K W wr
 sz:W.heap.size≤wr.heap.size
structure MOk (w:World) (F:Nat→Prop) (so:Sl) (ok:List ByteArray) (ov:List Val):Prop where
 ex:∃ (bo fo:Nat) (co:Nat→Sl × Sl),SlAt F so ok.length bo fo∧RO w F bo fo ok ov co
 len:ov.length=ok.length
 few:∀ k∈ok,k.size≤10000000
theorem MOk.agree {w w':World} {F:Nat→Prop} {so:Sl} {ok:List ByteArray} {ov:List Val} (h:MOk w F so ok ov) (ha:Agree F w w'):MOk w' F so ok ov:=by
 obtain ⟨⟨bo,fo,co,h1,h2⟩,h3,h4⟩:=h
 exact ⟨⟨bo,fo,co,h1,h2.agree ha h3 (fun h=>h1.fits h)⟩,h3,h4⟩
theorem MOk.at {w:World} {F:Nat→Prop} {so:Sl} {ok:List ByteArray} {ov:List Val} (h:MOk w F so ok ov) {j:Nat} (hj:j<ok.length) :
  ∃ (b o:Nat) (k:ByteArray) (d:Val) (sl2 so2:Sl),so.a=some ⟨b,o,none⟩∧F b∧ok.length≤so.c∧so.c≤maxLen∧ok[j]? = some k∧ov[j]? = some d∧w.cell? ⟨b,o+j*7,none⟩=some (.string k)∧VCells w b (o+j*7+1) d sl2 so2∧RV w F d sl2 so2∧k.size≤10000000:=by
 obtain ⟨⟨b,o,co,h1,h2⟩,h3,h4⟩:=h
 obtain ⟨e1,e2,e3⟩:=h1.eq (by omega)
 have hk:=List.getElem?_eq_getElem hj
 have hd:=List.getElem?_eq_getElem (l:=ov) (i:=j) (by omega)
 exact ⟨b,o,_,_,_,_,e1,h1.fits (by omega),e2,e3,hk,hd,(h2.keys j _ hk).1,h2.cells j _ hd,h2.reads j _ hd,h4 _ (List.mem_of_getElem? hk)⟩
theorem mg_of {J:List ME→World→Prop} {F K:Nat→Prop} {ok:List ByteArray} {ov:List Val} {W Wj wr w4 w5:World} {j:Nat} {pre:List ME} {k:ByteArray} {d:Val} {sl so:Sl} (h:MS J K W j pre Wj wr) (hk:ok[j]? = some k∧ov[j]? = some d) (hb:Blk w5 w4.heap.size 34 (valC d sl so)) (hr:RV wr F d sl so) (hn:Nw wr w5) (hF:∀ b,F b→b<wr.heap.size) (hz:wr.heap.size≤w4.heap.size) :
  MG F ok ov pre ⟨comA j++quoteA k,d,w4.heap.size,sl,so⟩ Wj w5:=
 ⟨⟨k,by rw [h.len];exact hk.1,by rw [h.len];exact hk.2,by rw [h.len]⟩,hb,hr.agree (hn.agree hF),Nat.le_trans h.nw.size hz⟩
def MRes (J Jx:List ME→World→Prop) (K:Nat→Prop) (W:World) (j:Nat) (xs:List ME) (bb:Bool) (w':World):Prop:=(bb=true∧MS J K W (j+1) xs w' w')∨(bb=false∧Jx xs w')
theorem mres_of {J Jx:List ME→World→Prop} {K:Nat→Prop} {W Wj wr w5:World} {j:Nat} {pre:List ME} {x:ME} (h:MS J K W j pre Wj wr) (k:Nw wr w5) (hK:∀ b,K b→b<W.heap.size) (e:Ending) (w':World)
  (hp:(e=.returned (.bool true)∧J (pre++[x]) w'∧Agree K w5 w'∧w5.heap.size≤w'.heap.size)∨(e=.returned (.bool false)∧Jx (pre++[x]) w')):∃ bb:Bool,e=.returned (.bool bb)∧Hid (MRes J Jx K W j (pre++[x]) bb w'):=by
 rcases hp with ⟨rfl,h1,h2,h3⟩ | ⟨rfl,h1⟩
 ·exact ⟨true,rfl,Lib.hid (.inl ⟨rfl,h1,Sb.refl _ _,by simp [h.len],(h.ag.trans (k.agree fun b hb=>Nat.lt_of_lt_of_le (hK b hb) h.sz)).trans h2,Nat.le_trans (Nat.le_trans h.sz k.size) h3⟩)⟩
 exact ⟨false,rfl,Lib.hid (.inr ⟨rfl,h1⟩)⟩
theorem mems_seq {w0:World} {Bx:Nat} {F:Nat→Prop} {so:Sl} {ok:List ByteArray} {ov:List Val} (hB:Blk w0 Bx 32 #[.slice so.a ok.length so.c]) (hM:MOk w0 F so ok ov) (hF:∀ b,F b→b<w0.heap.size) (hL:LibQ w0) (hn:ok.length≤100000000) :
  SeqP Tryz.prog 184 #[.pointer (some ⟨Bx,0,none⟩)] encM (fun b=>F b∨b=Bx∨b<6) (MG F ok ov) (MDone ok) (fun _=>True) w0:=by
 intro l J Jx W hTk hA hsz hJ
 have h6:=hL.lib.big
 have hlB:=hB.lt
 have hKW:∀ b,(F b∨b=Bx∨b<6)→b<W.heap.size:=fun b hb=>by
  rcases hb with hb | rfl | hb
  ·have:=hF b hb;omega
  ·omega
  omega
 have hss:∀ W1,Agree (fun b=>F b∨b=Bx∨b<6) W W1→W.heap.size≤W1.heap.size→Blk W1 Bx 32 #[.slice so.a ok.length so.c]∧MOk W1 F so ok ov∧LibQ W1:=fun W1 hW hz=>by
  have ha:Agree (fun b=>F b∨b=Bx∨b<6) w0 W1:=hA.trans hW
  refine ⟨(ha Bx (.inr (.inl rfl))).trans hB,hM.agree (ha.mono fun b hb=>.inl hb),?_⟩
  have hg:G5 w0 W1:=fun b hb=>ha b (.inr (.inr hb))
  exact ⟨⟨by omega,fun W2 hW2=>hL.lib.fmt W2 (hg.trans hW2),fun W2 hW2=>hL.lib.val W2 (hg.trans hW2)⟩,fun W2 hW2=>hL.dec W2 (hg.trans hW2),fun W2 hW2=>hL.num W2 (hg.trans hW2)⟩
 have HTK:=Lib.hid hTk
 have HSS:=Lib.hid hss
 have HJ:=Lib.hid hJ
 have HKW:=Lib.hid hKW
 have hnl:(ok.length:Int)≤100000000:=by omega
 have c0:W.cell? ⟨Bx,0,none⟩=some (.slice so.a ok.length so.c):=(hss W (Agree.refl _) (Nat.le_refl _)).1.cell 0
 have lB:Bx<W.heap.size:=by omega
 clear hTk hA hJ hB hss hL h6 hlB hsz hKW hM hF
 show Calls _ _ #[.func (.yield l) #[] #[],.pointer (some ⟨Bx,0,none⟩)] W _
 refine (callsIn_wide (n:=5)).1 ?_
 refine callsIn_of_wp Tryz.func184 rfl trivial ?_ rfl
 simp only [Tryz.ntmps184,List.size_toArray,List.length_cons,List.length_nil,Nat.reduceAdd,Nat.reduceSub,Array.replicate_succ,Array.replicate_zero,List.push_toArray,List.append_toArray,List.nil_append,List.cons_append]
 gi_wp2_with fail
 clear c0
 gi_loopw [7] (fun v wr=>∃ (j:Nat) (pre:List ME) (Wj:World),v=.int .i64 (j:Int)∧j≤ok.length∧Hid (MS J (fun b=>F b∨b=Bx∨b<6) W j pre Wj wr)) (fun v _=>ok.length - (intOf v).toNat)
 case atStart=>exact ⟨0,[],W,rfl,Nat.zero_le _,Lib.hid ⟨HJ.out,Sb.refl _ _,rfl,Agree.refl _,Nat.le_refl _⟩⟩
 obtain ⟨j,pre,Wj,rfl,hj,HS⟩:=hrel
 obtain ⟨-,hm,hlq⟩:=HSS.out wr HS.out.ag HS.out.sz
 by_cases hlt:j<ok.length
 ·obtain ⟨bo,fo,k,d,sl2,so2,hsa,hbF,hlc,hcm,hk,hd,kc,hvc,hrv,hks⟩:=hm.at hlt
  have hbo:bo<wr.heap.size:=Nat.lt_of_lt_of_le (HKW.out bo (.inl hbF)) HS.out.sz
  obtain ⟨sa,sc⟩:=so
  dsimp only at hsa hlc hcm
  subst hsa
  obtain ⟨v0,v1,v2,v3,v4,v5⟩:=hvc.m
  have g1:(j:Int)<(ok.length:Int):=by omega
  have g1':decide ((j:Int)<(ok.length:Int))=true:=decide_eq_true g1
  have HKF:=Lib.hid (fun (b:Nat) (hb:F b)=>Nat.lt_of_lt_of_le (HKW.out b (.inl hb)) HS.out.sz)
  have HLQ:=Lib.hid hlq
  have HRV:=Lib.hid hrv
  have HK:=Lib.hid (And.intro hk hd)
  have HKS:=Lib.hid hks
  clear hm hlq hvc hrv hk hd hks
  gi_wp2_with fail
  generalize hW3:wr.alloc _=W3
  have hx3:Ext wr W3:=by rw [←hW3];exact (Ext.refl wr).alloc _ _
  have hb3:Blk W3 wr.heap.size 115 #[.string k,.int .i64 d.kind,.bool d.b,.int .i64 d.i,.string d.t,.slice sl2.a d.l.length sl2.c,.slice so2.a d.ok.length so2.c]:=by rw [←hW3];exact Blk.new wr _ _
  obtain ⟨q0,q1,q2,q3,q4,q5,q6⟩:=hb3.c7
  have lq:=hb3.lt
  have hq:Calls Tryz.prog 144 #[.string k] W3.drew fun e w'=>e=.returned (.string (quoteA k))∧Nw W3.drew w':=quote_any (HLQ.out.nw (Nw.of (hx3.drew))) HKS.out
  have hcl:=comA_len j
  have hql:=quoteA_len k
  have hks':=HKS.out
  have hcat:∀ W:World,(Op.stringOp .add (comA j) (quoteA k)).run Tryz.prog W=.ok (.string (comA j++quoteA k)) W:=fun W=>run_string_add_sum (w:=W) _ _ (by omega)
  clear hcl hql hks'
  have HQ:=Lib.hid hq
  have HB3:=Lib.hid hb3
  have HX3:=Lib.hid hx3
  clear hW3 hq hb3 hx3 v0 v1 v2 v3 v4 v5 kc
  gi_region_with (first
   | (refine ⟨trivial,?_⟩;refine (callsIn_wide.2 (between_x _ j)).mono ?_;rintro e w4 ⟨rfl,rfl⟩)
   | (refine ⟨trivial,?_⟩;refine (callsIn_wide.2 HQ.out).mono ?_;rintro e w4 ⟨rfl,hn4⟩;have HN4:=Lib.hid hn4;obtain ⟨p0,p1,p2,p3,p4,p5,p6⟩:=(hn4.blk (show Blk W3.drew _ _ _ from HB3.out)).c7;have lp:=(hn4.blk (show Blk W3.drew _ _ _ from HB3.out)).lt;clear hn4)
   | (refine ⟨trivial,?_⟩;refine (callsIn_wide.2 (own_any _ d sl2 so2)).mono ?_;rintro e w5 ⟨rfl,hx5,hb5⟩;have hn5:=((Nw.of HX3.out.drew).trans HN4.out).trans (Nw.of hx5);have hy:=HTK.out pre ⟨comA j++quoteA k,d,w4.heap.size,sl2,so2⟩ Wj w5 HS.out.inv (HS.out.nw.trans hn5) (mg_of HS.out HK.out hb5 HRV.out hn5 HKF.out (Nat.le_trans HX3.out.size HN4.out.size));have HH:=Lib.hid (mres_of (Jx:=Jx) (x:=⟨comA j++quoteA k,d,w4.heap.size,sl2,so2⟩) HS.out hn5 HKW.out);obtain ⟨fn,tmps,assign,body,hy,hR⟩:=hy;have HR:=Lib.hid hR;dsimp only [encM] at hy;clear hR hx5 hb5 hn5)
   | (refine HR.out.mono ?_;intro e w6 h6;obtain ⟨bb,rfl,H7⟩:=HH.out e w6 h6;clear h6))
  all_goals
   clear p0 p1 p2 p3 p4 p5 p6 q0 q1 q2 q3 q4 q5 q6 hcat HQ HB3 hy HR HH
   rcases H7.out with ⟨rfl,hms⟩ | ⟨rfl,hjx⟩
   ·have HMS:=Lib.hid hms
    clear hms H7
    gi_wp2_with fail
    go_roundw
    case rel=>exact ⟨j+1,_,w6,by go_num,hlt,HMS⟩
    simp [intOf];omega
   have HJX:=Lib.hid hjx
   clear hjx H7
   gi_wp2_with fail
   refine bodyPost_ret (v:=.tuple #[]) (by simp [results,Tryz.results184,go_sem]) rfl ?_
   exact ⟨⟨_,rfl⟩,.inr ⟨_,w6,trivial,HJX.out,Sb.refl _ _⟩⟩
 obtain rfl:j=ok.length:=by omega
 have g1:decide ((ok.length:Int)<(ok.length:Int))=false:=decide_eq_false (by omega)
 have HE:=Lib.hid (show MDone ok pre from HS.out.len)
 clear hm hlq
 gi_wp2_with fail
 go_end0
 exact ⟨⟨_,rfl⟩,.inl ⟨pre,Wj,HE.out,HS.out.inv,HS.out.nw⟩⟩
end Go.Proofs.YtechahocffcbpaaGreatDoor
namespace Go.Proofs.YtechahocffcbpaaGreatDoor
open Go.RowKit Go.Maps Go.Shelf
set_option linter.unusedVariables false
set_option linter.unusedSimpArgs false
attribute [local go_sem] Oper.semAt_some
structure OI (w:World) (B:Nat) (a b:Value) (n:Nat) (ok:List ByteArray) (ov:List Val) (pre:List ME) (W:World):Prop where
 blk:Blk W B 144 (wrC a b (n+1+(lenM ok (ov.take pre.length)+(pre.length - 1))))
 sb:Sb (fun c=>c=B) w W
 box:Blk W w.heap.size 147 #[.pointer (some ⟨B,0,none⟩)]
theorem OI.nw {w W W':World} {B:Nat} {a b:Value} {n:Nat} {ok:List ByteArray} {ov:List Val} {pre:List ME} (h:OI w B a b n ok ov pre W) (k:Nw W W'):OI w B a b n ok ov pre W':=⟨k.blk h.blk,h.sb.trans (k.any _),k.blk h.box⟩
theorem OI.turn {w W W':World} {B x:Nat} {a b:Value} {n:Nat} {ok:List ByteArray} {ov:List Val} {pre:List ME} (h:OI w B a b n ok ov pre W) (k:Sb (fun i=>i=x) W W') (hx:w.heap.size<x) (hB:B<w.heap.size):OI w B a b n ok ov pre W':=
 ⟨k.blk h.blk (by omega),h.sb.comp k (fun i hi e=>by have e:i=x:=e;omega),k.blk h.box (by omega)⟩
theorem lenM_few:∀ (ks:List ByteArray) (l:List Val),l.length=ks.length→ks.length≤cntM ks l
 | [],_,_=>Nat.zero_le _
 | k :: ks,[],h=>by cases h
 | k :: ks,d :: r,h=>by
   have:=lenM_few ks r (by simpa using h)
   rw [cntM,List.tail_cons,List.length_cons];omega
theorem lenM_short {ks:List ByteArray} {l:List Val}:lenM ks (l.take 0)=0:=by cases ks <;> simp [lenM]
theorem own5_any {P:Val→Prop} (hI:WrIH P) {w:World} {F:Nat→Prop} {V B:Nat} {bo:Bool} {i:Int} {t:ByteArray} {l:List Val} {ok:List ByteArray} {ov:List Val} {sl so:Sl} {a b:Value} {n:Nat}
  (hP:∀ (j:Nat) (d:Val),ov[j]? = some d→P d) (hc:cntM ok ov≤1100000)
  (hV:Blk w V 34 #[.int .i64 6,.bool bo,.int .i64 i,.string t,.slice sl.a l.length sl.c,.slice so.a ok.length so.c]) (h:RV w F (.mk 6 bo i t l ok ov) sl so) (hF:∀ i,F i→i<w.heap.size∧i≠B) (hVB:V≠B) (hB:Blk w B 144 (wrC a b n)) (hn:n+(2+lenM ok ov+(ov.length - 1))≤9000000) (hL:LibQ w) (h6:6≤B) :
  Calls Tryz.prog 147 #[.pointer (some ⟨B,0,none⟩),.pointer (some ⟨V,0,none⟩)] w fun e w'=>(∃ r,e=.returned r)∧Blk w' B 144 (wrC a b (n+(2+lenM ok ov+(ov.length - 1))))∧Sb (fun c=>c=B) w w':=by
 cases h with
 | mk bl fl bo' fo cl co hl ho hov el rl ek eo ro bk bi bt nl no=>
 have hmok:MOk w F so ok ov:=⟨⟨bo',fo,co,ho,ek,eo,ro⟩,hov,fun k hk=>by
  obtain ⟨j,hj⟩:=List.mem_iff_getElem?.1 hk
  have hjl:=(List.getElem?_eq_some_iff.1 hj).1
  have:=cntM_at (List.getElem?_eq_getElem (l:=ov) (i:=j) (by omega)) hj
  omega⟩
 have hcnt:ok.length≤1100000:=by
  have:=lenM_few ok ov hov
  omega
 have hVl:=hV.lt
 have hBl:=hB.lt
 have HMOK:=Lib.hid hmok
 have HV:=Lib.hid hV
 have HF:=Lib.hid hF
 have HB:=Lib.hid hB
 have HLQ:=Lib.hid hL
 have HI:=Lib.hid hI
 have HP:=Lib.hid hP
 have HC:=Lib.hid hc
 have HN:=Lib.hid hn
 have HOV:=Lib.hid hov
 clear hmok hV hF hB hL hI hP hc hn el rl ek eo ro hl ho bk bi bt nl no hov
 refine (callsIn_wide (n:=6)).1 ?_
 refine callsIn_of_wp_marks Tryz.func147 rfl trivial ?_ rfl
 simp only [Tryz.ntmps147,List.size_toArray,List.length_cons,List.length_nil,Nat.reduceAdd,Nat.reduceSub,Array.replicate_succ,Array.replicate_zero,List.push_toArray,List.append_toArray,List.nil_append,List.cons_append]
 gi_wp2_with fail
 generalize hW0:w.alloc (.cells #[.pointer (some ⟨B,0,none⟩)] _)=W0
 have hx0:Ext w W0:=by rw [←hW0];exact (Ext.refl w).alloc _ _
 have hz0:W0.heap.size=w.heap.size+1:=by rw [←hW0];simp
 have hb0:Blk W0 w.heap.size 147 #[.pointer (some ⟨B,0,none⟩)]:=by rw [←hW0];exact Blk.new w _ _
 have hj0:=join_oneG (w:=W0) ⟨#[123]⟩ (HB.out.ext hx0) (by have:=HN.out;show n+1≤_;omega)
 rw [hz0] at hj0
 have HJ0:=Lib.hid hj0
 have HX0:=Lib.hid hx0
 have HB0:=Lib.hid hb0
 clear hW0 hj0 hx0 hb0
 refine ⟨trivial,?_⟩
 refine (callsIn_wide.2 HJ0.out).mono ?_
 rintro e w1 ⟨⟨r,rfl⟩,hb1,hs1⟩
 have hs01:=(HX0.out.sb (fun c=>c=B)).trans hs1
 obtain ⟨q0,q1,q2,q3,q4,q5⟩:=(hs01.blk HV.out hVB).c6
 have lq:=(hs01.blk HV.out hVB).lt
 have hbb1:=hs1.blk HB0.out (by omega)
 have HB1:=Lib.hid hb1
 have HS1:=Lib.hid hs01
 have HBB1:=Lib.hid hbb1
 have hz1:=hs1.size
 clear hb1 hs1 hs01 hbb1 HJ0
 gi_wp2_with fail
 refine ⟨trivial,?_⟩
 refine (callsIn_wide.2 (mems_any w1 so.a ok.length so.c)).mono ?_
 rintro e w2 ⟨rfl,hx2,hb2⟩
 have hs2:=HS1.out.ext hx2
 have hag2:Agree F w w2:=fun x hx=>hs2.block x (HF.out x hx).1 (HF.out x hx).2
 have hL2:LibQ w2:=HLQ.out.sb hs2 fun c hc e=>by have e:c=B:=e;omega
 have hF2:∀ b,F b→b<w2.heap.size:=fun b hb=>Nat.lt_of_lt_of_le (HF.out b hb).1 hs2.size
 have hoi2:OI w B a b n ok ov [] w2:=⟨by have:=HB1.out.ext hx2;rw [show ([]:List ME).length=0 from rfl,lenM_short];exact this,hs2,HBB1.out.ext hx2⟩
 have hz2:=hx2.size
 have hlb2:=hb2.lt
 have h26:=hL2.lib.big
 have HSQ:=Lib.hid (mems_seq hb2 (HMOK.out.agree hag2) hF2 hL2 (by omega))
 have HOI2:=Lib.hid hoi2
 have HF2:=Lib.hid hF2
 clear hx2 hb2 hs2 hag2 hL2 hF2 hoi2 q0 q1 q2 q3 q4 q5
 gi_wp2_with fail
 refine wpIn_rangeP (gf:=184) (lb:=#[.pointer (some ⟨w1.heap.size,0,none⟩)]) rfl (enters_of Tryz.func184 (by kernel_rfl) rfl) HSQ.out (Agree.refl _) (Nat.le_refl _)
  (fun b hb=>by
    rcases hb with hb | rfl | hb
    ·exact HF2.out b hb
    ·omega
    omega) (fun _=>rfl) (OI w B a b n ok ov) (fun _ _ _=>False)
  (fun h k hl hl'=>h.turn k (by omega) hBl) (fun h _ _ _=>h) (fun W hW hz=>HOI2.out.nw (Nw.of hW)) ?round ?done ?stop
 case stop=>
  rintro D c pre W hD hSp hX hDk
  exact hX.elim
 case round=>
  rintro pre x W0' W1 hI hsz hn01 hG
  obtain ⟨tx,d,Vx,sl2,so2⟩:=x
  obtain ⟨⟨k,hk,hd,htx⟩,hbk,hrv,hnew⟩:=hG
  dsimp only at hd htx hbk hrv hnew
  have hjl:=(List.getElem?_eq_some_iff.1 hk).1
  have HII:=Lib.hid (hI.nw hn01)
  have hcut:=lenM_cut ok ov (pre.length+1)
  have htk:=lenM_take hd hk
  have hcom:=comA_len pre.length
  have htl:tx.size=(comA pre.length).size+(quoteA k).size:=by rw [htx,ByteArray.size_append]
  have hovl:=HOV.out
  have hnn:=HN.out
  have hsum:n+1+(lenM ok (ov.take pre.length)+(pre.length - 1))+tx.size+1+lenV d≤9000000:=by omega
  have hsum2:n+1+(lenM ok (ov.take (pre.length+1))+(pre.length+1 - 1))=n+1+(lenM ok (ov.take pre.length)+(pre.length - 1))+tx.size+1+lenV d:=by omega
  have hcd:cntV d≤1100000:=by have:=cntM_at hd hk;have:=HC.out;omega
  have HPD:=Lib.hid (HP.out _ d hd)
  have HCD:=Lib.hid hcd
  have HSUM:=Lib.hid hsum
  have HSUM2:=Lib.hid hsum2
  have HBK:=Lib.hid hbk
  have HRV:=Lib.hid hrv
  have hz01:=hn01.size
  have lbk:=hbk.lt
  have hen:=enters_own d.kind
  clear hI hn01 hk hd htx hbk hrv hcut htk hcom htl hovl hnn hsum hsum2 hcd hjl
  gi_wp2_with fail
  refine ⟨Sb.refl _ _,fun W3 k3 hl1 hl3 hd3=>?_⟩
  have hi3:=HII.out.turn k3 (by omega) hBl
  have p0:W3.cell? ⟨w.heap.size,0,none⟩=some (.pointer (some ⟨B,0,none⟩)):=hi3.box.cell 0
  have lp:=hi3.box.lt
  have hz3:=k3.size
  have hbk3:=k3.blk HBK.out (by omega)
  have hrv3:RV W3 F d sl2 so2:=HRV.out.agree fun b hb=>k3.block b (by have:=HF2.out b hb;omega) (fun e=>by have e:b=_:=e;have:=HF2.out b hb;omega)
  have hj3:=join_two (w:=W3) tx ⟨#[58]⟩ hi3.blk (by have:=HSUM.out;show _+1≤_;omega)
  have HI3:=Lib.hid hi3
  have HBK3:=Lib.hid hbk3
  have HRV3:=Lib.hid hrv3
  have HJ3:=Lib.hid hj3
  have HL3:=Lib.hid hl3
  have HD3:=Lib.hid hd3
  clear k3 hl1 hl3 hd3 hi3 hbk3 hrv3 hj3 HII HBK HRV
  gi_wp2_with fail
  refine ⟨trivial,?_⟩
  refine (calls_round HJ3.out).mono ?_
  rintro e w5 ⟨⟨r5,rfl⟩,hb5,hs5⟩
  have p5:w5.cell? ⟨w.heap.size,0,none⟩=some (.pointer (some ⟨B,0,none⟩)):=(hs5.blk HI3.out.box (by omega)).cell 0
  have lp5:=(hs5.blk HI3.out.box (by omega)).lt
  have hz5:=hs5.size
  have hs05:=HI3.out.sb.trans hs5
  have hcall:=HI.out d HPD.out HCD.out w5 F Vx B sl2 so2 a b _ (hs5.blk HBK3.out (by omega)) (HRV3.out.agree fun b hb=>hs5.block b (by have:=HF2.out b hb;omega) (HF.out b hb).2) (fun i hi=>⟨by have:=HF2.out i hi;omega,(HF.out i hi).2⟩) (by omega) hb5 (by have:=HSUM.out;exact this) (HLQ.out.sb hs05 fun c hc e=>by have e:c=B:=e;omega) h6
  have HCALL:=Lib.hid hcall
  have HS5:=Lib.hid hs5
  clear hb5 hs5 hs05 hcall p0
  gi_wp2_with fail
  refine ⟨trivial,?_⟩
  refine (calls_round HCALL.out).mono ?_
  rintro e w6 ⟨⟨r6,rfl⟩,hb6,hs6⟩
  have hs36:=HS5.out.trans hs6
  have HEND:=Lib.hid (show OI w B a b n ok ov (pre++[⟨tx,d,Vx,sl2,so2⟩]) w6∧Agree (fun b=>(F b∨b=w1.heap.size∨b<6)∨b=w2.heap.size∨b=w2.heap.size+1) W3 w6∧W3.heap.size≤w6.heap.size from
   ⟨⟨by rw [List.length_append,show [(⟨tx,d,Vx,sl2,so2⟩:ME)].length=1 from rfl,HSUM2.out];exact hb6,HI3.out.sb.trans hs36,hs36.blk HI3.out.box (by omega)⟩,
     fun b hb=>hs36.block b (by
      rcases hb with (hb | rfl | hb) | rfl | rfl
      ·have:=HF2.out b hb;omega
      all_goals omega) (fun e=>by
      have e:b=B:=e
      rcases hb with (hb | rfl | hb) | rfl | rfl
      ·exact (HF.out b hb).2 e
      all_goals omega),hs36.size⟩)
  clear hb6 hs6 hs36
  gi_wp2_with fail
  exact HEND.out
 rintro D xs W hD hS hI hDk
 have hxs:xs.length=ok.length:=hS
 have hblk:=hI.blk
 rw [hxs,←HOV.out,List.take_length] at hblk
 have p0:W.cell? ⟨w.heap.size,0,none⟩=some (.pointer (some ⟨B,0,none⟩)):=hI.box.cell 0
 have lp:=hI.box.lt
 have hj1:=join_oneG (w:=W) ⟨#[125]⟩ hblk (by have:=HN.out;show _+1≤_;omega)
 have HJ1:=Lib.hid hj1
 have HI9:=Lib.hid hI
 have HDK:=Lib.hid hDk
 have HDE:=Lib.hid hD
 have lD:=(Array.getElem?_eq_some_iff.1 hDk).1
 clear hj1 hI hDk hD hS hxs hblk
 gi_wp2_with fail
 refine ⟨trivial,?_⟩
 refine (callsIn_wide.2 HJ1.out).mono ?_
 rintro e w6 ⟨⟨r6,rfl⟩,hb6,hs6⟩
 have hD6:w6.heap[D]? = some (.deferred (some [])):=(hs6.block D lD (fun e=>by have e:D=B:=e;have:=HDE.out;omega)).trans HDK.out
 have hst:=(St.put (o':=.deferred none) hD6 rfl rfl).sb
 have hfin:=hst.blk hb6 (by have:=HDE.out;omega)
 have hsf:Sb (fun c=>c=B) w _:=(HI9.out.sb.trans hs6).comp hst (fun i hi e=>by have e:i=D:=e;have:=HDE.out;omega)
 have HD6:=Lib.hid hD6
 have HFIN:=Lib.hid hfin
 have HSF:=Lib.hid hsf
 clear hb6 hs6 hD6 hst hfin hsf
 gi_wp2_with fail
 refine ⟨by simp,.inl ⟨_,_,rfl,run_takeDeferred HD6.out,?_⟩⟩
 refine ⟨.tuple #[],?_,⟨_,rfl⟩,by rw [show n+(2+lenM ok ov+(ov.length - 1))=n+1+(lenM ok ov+(ov.length - 1))+1 by omega];exact HFIN.out,HSF.out⟩
 simp [results,Tryz.results147,go_sem]
theorem wr_any (m:Nat):WrIH (fun d=>SizeOf.sizeOf d≤m):=by
 induction m with
 | zero=>intro d hd;have:=Val.sz_pos d;omega
 | succ m ih=>
 intro d hd hc w F V B sl so a b n hV h hF hVB hB hn hL h6
 have hrv:=h
 obtain ⟨k,bo,i,t,l,ok,ov⟩:=d
 cases h with
 | mk bl fl bo' fo cl co hl ho hov el rl ek eo ro bk bi bt nl no=>
 unfold cntV at hc
 unfold lenV at hn
 unfold WrPost lenV
 show Calls _ (fnO k) (_++bsO k V) _ _
 by_cases h2:k=2
 ·subst h2
  rw [if_pos rfl] at hn
  exact (own1_any hV hB (by omega)).mono fun e w' h=>by rw [if_pos rfl];exact h
 by_cases h3:k=3
 ·subst h3
  simp only [if_neg h2,if_pos] at hn ⊢
  exact own2_any hV hB (by simp [Lit.wf,IntKind.min,IntKind.max,IntKind.signed,IntKind.bits] at bi;omega) (by simp [Lit.wf,IntKind.min,IntKind.max,IntKind.signed,IntKind.bits] at bi;omega) (by omega) hL
 by_cases h4:k=4
 ·subst h4
  simp only [if_neg h2,if_neg h3,if_pos] at hn ⊢
  exact own3_any hV hB (by omega) (by omega) hL
 by_cases h5:k=5
 ·subst h5
  simp only [if_neg h2,if_neg h3,if_neg h4,if_pos] at hn ⊢
  exact own4_any ih (fun j d hj=>Nat.le_of_lt_succ (Nat.lt_of_lt_of_le (Val.sz_l hj) hd)) (by omega) hV hrv hF hVB hB hn hL h6
 by_cases h6':k=6
 ·subst h6'
  simp only [if_neg h2,if_neg h3,if_neg h4,if_neg h5,if_pos] at hn ⊢
  exact own5_any ih (fun j d hj=>Nat.le_of_lt_succ (Nat.lt_of_lt_of_le (Val.sz_o hj) hd)) (by omega) hV hrv hF hVB hB hn hL h6
 simp only [if_neg h2,if_neg h3,if_neg h4,if_neg h5,if_neg h6'] at hn ⊢
 have hf:fnO k=149:=by simp [fnO,h2,h3,h4,h5,h6']
 have hb:bsO k V=#[]:=by simp [bsO,h2,h3,h4,h5,h6']
 rw [hf,hb]
 exact own6_any hB (by omega)
end Go.Proofs.YtechahocffcbpaaGreatDoor
namespace Go.Proofs.YtechahocffcbpaaGreatDoor
open Go.RowKit Go.Maps Go.Shelf
set_option linter.unusedVariables false
set_option linter.unusedSimpArgs false
theorem bytes_any {w:World} {d:Val} {sl so:Sl} (h:RV w (Lt w.heap.size) d sl so) (hc:cntV d≤1100000) (hL:LibQ w):Calls Tryz.prog 61 #[aggV d sl so] w fun e w'=>e=.returned (.int .i64 (lenV d:Int))∧Nw w w':=by
 have hlc:=lenV_cnt _ w d sl so h
 have h6:=hL.lib.big
 have HH:=Lib.hid h
 have HC:=Lib.hid hc
 have HL:=Lib.hid hL
 have HLC:=Lib.hid hlc
 clear h hc hL hlc
 go_enter Tryz.func61,Tryz.ntmps61
 go_wp2_with fail
 generalize hW0:World.alloc _ _=W0
 obtain ⟨hx0,hz0,hb0,hb1⟩:=two_blocks w _ _ _ _ W0 hW0
 have HX0:=Lib.hid hx0
 have HB1:=Lib.hid hb1
 clear hW0 hx0 hb0 hb1
 refine (own_any W0 d sl so).mono ?_
 rintro e w1 ⟨rfl,hx1,hbv⟩
 rw [hz0] at hbv
 have hw1:=HB1.out.ext hx1
 have hn1:=(Nw.of HX0.out).trans (Nw.of hx1)
 have hcall:=wr_any _ d (Nat.le_refl _) HC.out w1 (Lt w.heap.size) (w.heap.size+2) (w.heap.size+1) sl so _ _ 0 hbv (HH.out.agree (Nw.agree hn1 fun b hb=>hb)) (fun i hi=>⟨Nat.lt_of_lt_of_le hi hn1.size,by have hi:i<w.heap.size:=hi;omega⟩) (by omega) hw1 (by have:=HLC.out;have:=HC.out;omega) (HL.out.nw hn1) (by omega)
 have HCALL:=Lib.hid hcall
 have HN1:=Lib.hid hn1
 have hen:=enters_own d.kind
 clear hx1 hbv hw1 hn1 hcall
 go_wp2_with fail
 refine HCALL.out.mono ?_
 rintro e w2 ⟨⟨r,rfl⟩,hb,hs⟩
 have c3:w2.cell? ⟨w.heap.size+1,3,none⟩=some (.int .i64 ((0+lenV d:Nat):Int)):=hb.cell 3
 rw [Nat.zero_add] at c3
 have HN2:=Lib.hid (HN1.out.comp hs fun i hi e=>by have e:i=w.heap.size+1:=e;omega)
 clear hb hs
 go_wp2_with fail
 go_ret
 exact ⟨rfl,HN2.out⟩
def fitV (d:Val):Int:=if mayV d 1≠0 then mayV d 1 else if 16<deepV d then 5 else if 1024<lenV d then 6 else 0
theorem fits_any {w:World} {d:Val} {sl so:Sl} (h:RV w (Lt w.heap.size) d sl so) (hc:cntV d≤1100000) (hL:LibQ w):Calls Tryz.prog 34 #[aggV d sl so] w fun e w'=>e=.returned (.int .i64 (fitV d))∧Nw w w':=by
 have hRV:∀ W,Nw w W→RV W (Lt W.heap.size) d sl so:=fun W hW=>(h.agree (Nw.agree hW fun b hb=>hb)).mono fun b hb=>Nat.lt_of_lt_of_le hb hW.size
 have hm:=fun W (hW:Nw w W)=>may_anyV (hRV W hW) (hL.lib.nw hW)
 have hd:=fun W (hW:Nw w W) (hq:deepV d≤1000000)=>deepAt_any _ d (Nat.le_refl _) hq W sl so (hRV W hW)
 have hb:=fun W (hW:Nw w W)=>bytes_any (hRV W hW) hc (hL.nw hW)
 have HM:=Lib.hid hm
 have HD:=Lib.hid hd
 have HB:=Lib.hid hb
 obtain ⟨r,hr⟩:∃ r,fitV d=r:=⟨_,rfl⟩
 rw [hr]
 have HR:=Lib.hid hr
 clear hm hd hb hr hRV h hL
 go_enter Tryz.func34,Tryz.ntmps34
 go_wp2_with fail
 have hx0:=(Ext.refl w).alloc (valC d sl so) 34
 have hb0:=Blk.new w 34 (valC d sl so)
 refine (HM.out _ (Nw.of hx0)).mono ?_
 rintro e w1 ⟨rfl,hn1⟩
 have hb1:=hn1.blk hb0
 obtain ⟨q0,q1,q2,q3,q4,q5⟩:=hb1.c6
 have lq:=hb1.lt
 have HX1:=Lib.hid ((Nw.of hx0).trans hn1)
 have HB1:=Lib.hid hb1
 clear hx0 hb0 hn1 hb1
 obtain ⟨m,hm⟩:∃ m,mayV d 1=m:=⟨_,rfl⟩
 rw [hm]
 by_cases hm0:m=0
 ·subst hm0
  have hdm:=deep_may d 1 hm
  have HDP:=Lib.hid hdm
  have HM0:=Lib.hid hm
  clear hm hdm
  go_wp2_with fail
  refine (HD.out _ HX1.out (by have:=HDP.out;omega)).mono ?_
  rintro e w2 ⟨rfl,hx2⟩
  have hb2:=HB1.out.ext hx2
  clear q0 q1 q2 q3 q4 q5
  obtain ⟨q0,q1,q2,q3,q4,q5⟩:=hb2.c6
  have lq2:=hb2.lt
  have HX2:=Lib.hid (HX1.out.trans (Nw.of hx2))
  clear hx2 hb2
  by_cases hd16:16<deepV d
  ·have g0:decide ((16:Int)<(deepV d:Int))=true:=decide_eq_true (by omega)
   have hr5:r=5:=by rw [←HR.out,fitV,HM0.out,if_neg (by simp),if_pos hd16]
   have HR5:=Lib.hid hr5
   clear hr5 hd16
   go_wp2_with fail
   go_ret
   exact ⟨by rw [HR5.out];rfl,HX2.out⟩
  have g0:decide ((16:Int)<(deepV d:Int))=false:=decide_eq_false (by omega)
  have HD16:=Lib.hid hd16
  clear hd16
  go_wp2_with fail
  refine (HB.out _ HX2.out).mono ?_
  rintro e w3 ⟨rfl,hn3⟩
  have HN3:=Lib.hid (HX2.out.trans hn3)
  clear hn3 q0 q1 q2 q3 q4 q5
  by_cases hl:1024<lenV d
  ·have g1:decide ((1024:Int)<(lenV d:Int))=true:=decide_eq_true (by omega)
   have HR6:=Lib.hid (show r=6 by rw [←HR.out,fitV,HM0.out,if_neg (by simp),if_neg HD16.out,if_pos hl])
   clear hl
   go_wp2_with fail
   go_ret
   exact ⟨by rw [HR6.out];rfl,HN3.out⟩
  have g1:decide ((1024:Int)<(lenV d:Int))=false:=decide_eq_false (by omega)
  have HR0:=Lib.hid (show r=0 by rw [←HR.out,fitV,HM0.out,if_neg (by simp),if_neg HD16.out,if_neg hl])
  clear hl
  go_wp2_with fail
  go_ret
  exact ⟨by rw [HR0.out];rfl,HN3.out⟩
 have g0:(m != 0)=true:=by simpa using hm0
 have HRM:=Lib.hid (show r=m by rw [←HR.out,fitV,hm,if_pos hm0])
 clear hm hm0
 go_wp2_with fail
 go_ret
 exact ⟨by rw [HRM.out];rfl,HX1.out⟩
end Go.Proofs.YtechahocffcbpaaGreatDoor
namespace Go.Proofs.YtechahocffcbpaaGreatDoor
open Go.RowKit Go.Maps
set_option linter.unusedVariables false
set_option linter.unusedSimpArgs false
theorem undo1_any {w:World} {O b:Nat} {C:AL SV} {r sl:Value} {u:UD} {bw bd bo bk:Nat} {o:SV} (hblk:Blk w O 29 #[r,.map (some b),sl]) (hmap:OvMap w (some b) C) (hs:SortedA C) (hC:C.length<maxLen) (hk:u.k.size≤maxLen)
  (hbw:Blk w bw 4 #[.bool u.old.isSome]) (hbd:Blk w bd 85 o.cells) (ho:∀ x,u.old=some x→x=o) (hbo:Blk w bo 43 #[.pointer (some ⟨O,0,none⟩)]) (hbk:Blk w bk 9 #[.string u.k]) :
  Calls Tryz.prog 62 #[.pointer (some ⟨bw,0,none⟩),.pointer (some ⟨bd,0,none⟩),.pointer (some ⟨bo,0,none⟩),.pointer (some ⟨bk,0,none⟩)] w fun e w'=>(∃ r,e=.returned r)∧OvMap w' (some b) (undo1 u C)∧Sb (fun c=>c=b) w w':=by
 obtain ⟨k,old⟩:=u
 have cw:w.cell? ⟨bw,0,none⟩=some (.bool old.isSome):=hbw.cell 0
 have nO:=OvMap.ne hmap hblk
 have no:=OvMap.ne hmap hbo
 have nk:=OvMap.ne hmap hbk
 have nd:=OvMap.ne hmap hbd
 have HMAP:=Lib.hid hmap
 cases old with
 | none=>
   have HSS:=Lib.hid (show ∀ W,Sb (fun c=>c=b) w W→W.cell? ⟨bo,0,none⟩=some (.pointer (some ⟨O,0,none⟩))∧W.cell? ⟨O,1,none⟩=some (.map (some b))∧W.cell? ⟨bk,0,none⟩=some (.string k) from
    fun W hW=>⟨(hW.blk hbo no).cell 0,(hW.blk hblk nO).cell 1,(hW.blk hbk nk).cell 0⟩)
   clear hblk hbw hbd hbo hbk hmap ho nO no nk nd
   go_enter Tryz.func62,Tryz.ntmps62
   go_wp2_with fail
   refine wp_region_held_drew (S:=(fun w'=>Sb (fun c=>c=b) w w')) (by kernel_rfl) (((Sb.refl _ w).drew)) (fun hHeld=>?_)
   refine heldT 0 (some 11) HSS hHeld ?_
   refine heldT 1 (some 12) HSS hHeld ?_
   refine heldT 2 (some 13) HSS hHeld ?_
   refine heldT 3 (some 14) HSS hHeld ?_
   refine heldT 4 (some 15) HSS hHeld ?_
   refine held_call (i:=5) (by kernel_rfl) rfl (by rfl) (fun K hK=>?_)
   skip
   (refine oper_delA (b:=b) (C:=C) (k:=k) rfl rfl rfl (HMAP.out.heap fun _ _=>rfl) hk ?_;intro w7 hown7 hsb7)
   refine hK.out _ _ (hHeld.trans hsb7) (fun hHeld=>?_)
   clear hK K
   try simp only [Act.put,List.setIfInBounds_toArray,List.set_cons_zero,List.set_cons_succ]
   refine wpAnyH_done (by kernel_rfl) ?_ _
   go_end0
   exact ⟨⟨_,rfl⟩,hown7,hHeld⟩
 | some x=>
   obtain rfl:=ho x rfl
   obtain ⟨has,v,sl',so⟩:=x
   have HSS:=Lib.hid (show ∀ W,Sb (fun c=>c=b) w W→W.cell? ⟨bo,0,none⟩=some (.pointer (some ⟨O,0,none⟩))∧W.cell? ⟨O,1,none⟩=some (.map (some b))∧W.cell? ⟨bk,0,none⟩=some (.string k)∧W.cell? ⟨bd,0,none⟩=some (.bool has)∧W.cell? ⟨bd,1,none⟩=some (.int .i64 v.kind)∧W.cell? ⟨bd,2,none⟩=some (.bool v.b)∧W.cell? ⟨bd,3,none⟩=some (.int .i64 v.i)∧W.cell? ⟨bd,4,none⟩=some (.string v.t)∧W.cell? ⟨bd,5,none⟩=some (.slice sl'.a v.l.length sl'.c)∧W.cell? ⟨bd,6,none⟩=some (.slice so.a v.ok.length so.c) from
    fun W hW=>⟨(hW.blk hbo no).cell 0,(hW.blk hblk nO).cell 1,(hW.blk hbk nk).cell 0,(hW.blk hbd nd).cell 0,(hW.blk hbd nd).cell 1,(hW.blk hbd nd).cell 2,(hW.blk hbd nd).cell 3,(hW.blk hbd nd).cell 4,(hW.blk hbd nd).cell 5,(hW.blk hbd nd).cell 6⟩)
   clear hblk hbw hbd hbo hbk hmap ho nO no nk nd
   go_enter Tryz.func62,Tryz.ntmps62
   go_wp2_with fail
   refine wp_region_held_drew (S:=(fun w'=>Sb (fun c=>c=b) w w')) (by kernel_rfl) (((Sb.refl _ w).drew)) (fun hHeld=>?_)
   refine heldT 0 (some 5) HSS hHeld ?_
   refine heldT 1 (some 6) HSS hHeld ?_
   refine heldT 2 (some 7) HSS hHeld ?_
   refine heldT 3 (some 8) HSS hHeld ?_
   refine heldT 4 (some 9) HSS hHeld ?_
   refine heldT 5 (some 10) HSS hHeld ?_
   refine held_call (i:=6) (by kernel_rfl) rfl (by rfl) (fun K hK=>?_)
   skip
   (refine oper_putA (b:=b) (C:=C) (k:=k) (s:=⟨has,v,sl',so⟩) rfl rfl rfl rfl (HMAP.out.heap fun _ _=>rfl) hk hC hs ?_;intro w7 hown7 hsb7)
   refine hK.out _ _ (hHeld.trans hsb7) (fun hHeld=>?_)
   clear hK K
   try simp only [Act.put,List.setIfInBounds_toArray,List.set_cons_zero,List.set_cons_succ]
   refine wpAnyH_done (by kernel_rfl) ?_ _
   go_end0
   exact ⟨⟨_,rfl⟩,hown7,hHeld⟩
theorem own_cut {w:World} {base e n c:Nat} {a:Option Addr} {xs:List Value} (h:w.ownsRow base e 1 (.slice a n c) n xs) {m:Nat} (hm:m≤n):w.ownsRow base e 1 (.slice a m c) m (xs.take m):=by
 have hl:=h.1
 rcases h.2 with ⟨hv,h0⟩ | ⟨g,cap,cur,hv,hbg,hg,hnc,hcm,hcs,ht⟩
 ·obtain rfl:m=0:=by omega
  subst h0
  exact ⟨by simp,.inl ⟨hv,rfl⟩⟩
 injection hv with h1 h2 h3
 subst h1 h3
 refine ⟨by rw [List.length_take];omega,.inr ⟨g,c,cur,rfl,hbg,hg,by omega,hcm,hcs,?_⟩⟩
 rw [←ht,List.take_take]
 congr 1
 omega
section
variable {H : Nat → Prop} {w : World} {O : Nat} {d : OD}
structure BackMid (w:World) (O:Nat) (d:OD) (xs:List Value) (j:Nat) (W:World):Prop where
 blk:Blk W O 29 #[rootV d.T,.map d.mb,.slice d.s.a d.us.length d.s.c]
 map:OvMap W d.mb (backA d.us d.C j)
 row:∃ ys,W.ownsRow 0 1 1 (.slice d.s.a d.us.length d.s.c) d.us.length ys∧∀ i,i<j→ys[i]? = xs[i]?
 sb:Sb (OvB O d) w W
def BackPost (H:Nat→Prop) (O:Nat) (d:OD) (m:Nat) (w:World) (e:Ending) (w':World):Prop:=
 e=.returned (.int .i64 0)∧OvTo H w O d ⟨d.T,d.mb,d.s,d.us.take m,d.Hs.take (m+1),backA d.us d.C m⟩ w'
theorem back_end {m:Nat} (hm:m≤d.us.length) (h:OvAt H w O d) {xs:List Value} (hl:xs.length=d.us.length) (hun:∀ (i:Nat) (u:UD) (v:Value),d.us[i]? = some u→xs[i]? = some v→UndoV w (OvF H w O d) O u v) {W:World} (hW:BackMid w O d xs m W) :
  OvTo H w O d ⟨d.T,d.mb,d.s,d.us.take m,d.Hs.take (m+1),backA d.us d.C m⟩ (W.setCell ⟨O,2,none⟩ (.slice d.s.a m d.s.c)):=by
 have hset:Sb (OvB O d) W (W.setCell ⟨O,2,none⟩ (.slice d.s.a m d.s.c)):=(Sb.refl (OvB O d) W).set (p:=⟨O,2,none⟩) (.inr (.inl rfl)) _
 have hall:=hW.sb.trans hset
 have hset1:Sb (fun c=>c=O) W (W.setCell ⟨O,2,none⟩ (.slice d.s.a m d.s.c)):=(Sb.refl (fun c=>c=O) W).set (p:=⟨O,2,none⟩) (.inr rfl) _
 have ha:Agree (OvF H w O d) w (W.setCell ⟨O,2,none⟩ (.slice d.s.a m d.s.c)):=fun i hi=>hall.block i hi.1 hi.2.1
 have hmm:∀ i,OvF H w O d i→OvF H (W.setCell ⟨O,2,none⟩ (.slice d.s.a m d.s.c)) O ⟨d.T,d.mb,d.s,d.us.take m,d.Hs.take (m+1),backA d.us d.C m⟩ i:=fun i hi=>⟨Nat.lt_of_lt_of_le hi.1 hall.size,hi.2.1,hi.2.2⟩
 obtain ⟨ys,hys,hyx⟩:=hW.row
 have htl:(d.us.take m).length=m:=by rw [List.length_take];omega
 have hC:d.Hs[m]? = some (backA d.us d.C m):=h.hist.back h.last (d.us.length - m) m (by omega)
 have hch:=h.hist.take hm
 have hbO:∀ b,d.mb=some b→b≠O:=fun b hb e=>h.ne.1 (by rw [hb,e])
 have hrec:∀ (A:List UD) (C:AL SV),(∀ p∈C,p.1.size≤maxLen∧SVok w (OvF H w O d) p.2)→(∀ u∈A,u.k.size≤maxLen∧∀ o,u.old=some o→SVok w (OvF H w O d) o)→∀ p∈A.foldr undo1 C,p.1.size≤maxLen∧SVok w (OvF H w O d) p.2:=by
  intro A C hC0
  induction A with
  | nil=>intro _;exact hC0
  | cons u r ih=>
    intro hA p hp
    have ih':=ih fun x hx=>hA x (List.mem_cons_of_mem _ hx)
    have hu:=hA u (List.mem_cons_self ..)
    rw [List.foldr_cons,undo1] at hp
    cases ho:u.old with
    | none=>rw [ho] at hp;exact ih' p (List.mem_filter.1 hp).1
    | some o=>
      rw [ho] at hp
      rcases mem_putA hp with rfl | hp
      ·exact ⟨hu.1,hu.2 o ho⟩
      exact ih' p hp
 refine ⟨⟨?_,?_,⟨ys.take m,?_,?_,?_⟩,?_,?_,hch,?_,?_,backA_sorted h.sorted _ _,(h.tree.agree ha).mono hmm,h.ok,h.ne,h.out,?_⟩,hall,fun b hb=>.inl hb⟩
 ·have:=hW.blk.set_ 2 (.slice d.s.a m d.s.c)
  show Blk _ O _ #[_,_,.slice d.s.a (d.us.take m).length d.s.c]
  rw [htl];exact this
 ·exact hW.map.heap fun b hb=>hset1.block b (hW.map.lt hb) (hbO b hb)
 ·show (ys.take m).length=(d.us.take m).length
  have:=hys.1
  rw [htl,List.length_take];omega
 ·show World.ownsRow _ 0 _ 1 (.slice d.s.a (d.us.take m).length d.s.c) (d.us.take m).length _
  rw [htl]
  exact own_agree (own_cut hys hm) hset1.agree fun b hb=>⟨(own_row hys hb).2,fun e=>h.ne.2.1 (by rw [←e];exact hb)⟩
 ·intro i u v hu hv
  have hu:(d.us.take m)[i]? = some u:=hu
  have hi:i<m:=by have:=(List.getElem?_eq_some_iff.1 hu).1;omega
  rw [List.getElem?_take_of_lt hi] at hu hv
  rw [hyx i hi] at hv
  exact ((hun i u v hu hv).agree ha).mono hmm
 ·intro p hp
  have:=hrec (d.us.drop m) d.C h.vals (fun u hu=>h.olds u (List.mem_of_mem_drop hu)) p hp
  exact ⟨this.1,(this.2.agree ha).mono hmm⟩
 ·intro u hu
  have:=h.olds u (List.mem_of_mem_take hu)
  exact ⟨this.1,fun o ho=>((this.2 o ho).agree ha).mono hmm⟩
 ·show (d.Hs.take (m+1))[0]? = _
  rw [List.getElem?_take_of_lt (by omega)];exact h.h0
 ·show (d.Hs.take (m+1))[(d.us.take m).length]? = _
  rw [htl,List.getElem?_take_of_lt (by omega)];exact hC
 intro hne
 exact h.some_ fun e=>hne (by show d.us.take m=[];rw [e];exact List.take_nil)
theorem back_step {xs:List Value} {j g b:Nat} (h:OvAt H w O d) (hb:d.mb=some b) (hg:d.s.a=some ⟨g,0,none⟩) {u:UD} (hu:d.us[j]? = some u) {W W1:World} (hW:BackMid w O d xs (j+1) W) (hm:OvMap W1 (some b) (undo1 u (backA d.us d.C (j+1)))) (hs:Sb (fun c=>c=b) W W1) :
  BackMid w O d xs j (W1.setCell ⟨g,j,none⟩ Value.nilFunc):=by
 have hj:j<d.us.length:=(List.getElem?_eq_some_iff.1 hu).1
 have hrow:d.s.row=some g:=by rw [Sl.row,hg];rfl
 have hgb:g≠b:=fun e=>h.ne.2.2 b hb (by rw [hrow,e])
 have hgO:g≠O:=fun e=>h.ne.2.1 (by rw [hrow,e])
 have hbO:b≠O:=fun e=>h.ne.1 (by rw [hb,e])
 obtain ⟨ys,hys,hyx⟩:=hW.row
 have hown1:W1.ownsRow 0 1 1 (.slice d.s.a d.us.length d.s.c) d.us.length ys:=own_agree hys hs.agree fun i hi=>⟨(own_row hys hi).2,fun e=>hgb (by rw [hrow] at hi;injection hi with hi;omega)⟩
 have hset:Sb (fun c=>c=g) W1 (W1.setCell ⟨g,j,none⟩ Value.nilFunc):=(Sb.refl (fun c=>c=g) W1).set (p:=⟨g,j,none⟩) (.inr rfl) _
 refine ⟨hset.blk (hs.blk hW.blk fun e=>hbO e.symm) fun e=>hgO e.symm,?_,⟨ys.set j Value.nilFunc,?_,fun i hi=>?_⟩,?_⟩
 ·rw [hb,backA_step hu]
  exact hm.heap fun i hi=>by
   injection hi with hi
   subst hi
   exact hset.block b (hm.lt rfl) fun e=>hgb e.symm
 ·rw [hg] at hown1 ⊢
  exact own_set hown1 hj _
 ·rw [List.getElem?_set_ne (by omega)]
  exact hyx i (by omega)
 exact (hW.sb.trans (hs.mono fun i _ e=>.inr (.inl (by rw [hb,e])))).trans (hset.mono fun i _ e=>.inr (.inr (by rw [hrow,e])))
end
theorem run_store_nilF (P:Program) (w:World) (a:Addr) (m:Mode):(store a Value.nilFunc m).run P w=stored P w a Value.nilFunc m:=run_store P w a _ m rfl
attribute [local go_sem] run_store_nilF
theorem own_cell {w:World} {base e n c g:Nat} {xs:List Value} (h:w.ownsRow base e 1 (.slice (some ⟨g,0,none⟩) n c) n xs) {i:Nat} {u:Value} (hx:xs[i]? = some u):w.cell? ⟨g,i,none⟩=some u∧(n≤c∧c≤maxLen)∧g<w.heap.size∧w.frozen? ⟨g,i,none⟩=false:=by
 rcases h.2 with ⟨hv,h0⟩ | ⟨g',cap,cur,hv,hbg,hg,hnc,hcm,hcs,ht⟩
 ·cases hv
 injection hv with h1 h2 h3
 injection h1 with h1
 injection h1 with h1
 subst h1 h3
 have hi:i<n:=by have:=(List.getElem?_eq_some_iff.1 hx).1;have:=h.1;omega
 have hb:Blk w g e cur:=hg
 refine ⟨?_,⟨hnc,hcm⟩,hb.lt,hb.frozen i⟩
 rw [hb.cell i]
 rw [←ht,List.getElem?_take_of_lt (by omega)] at hx
 simpa using hx
theorem back_no {H:Nat→Prop} {w:World} {O:Nat} {d:OD} (h:OvAt H w O d) {m:Int} (hm:m<0∨(d.us.length:Int)<m):Calls Tryz.prog 20 #[.pointer (some ⟨O,0,none⟩),.int .i64 m] w fun e w'=>e=.returned (.int .i64 17)∧Ext w w':=by
 have c2:w.cell? ⟨O,2,none⟩=some (.slice d.s.a d.us.length d.s.c):=h.blk.cell 2
 clear h
 by_cases hm0:m<0
 ·have g0:decide (m<0)=true:=decide_eq_true hm0
  go_enter Tryz.func20,Tryz.ntmps20
  go_wp2_with fail
  go_ret
  exact ⟨rfl,Ext.refl w⟩
 have g0:decide (m<0)=false:=decide_eq_false hm0
 have g1:decide ((d.us.length:Int)<m)=true:=decide_eq_true (by omega)
 go_enter Tryz.func20,Tryz.ntmps20
 go_wp2_with fail
 go_ret
 exact ⟨rfl,Ext.refl w⟩
theorem back_ov {H:Nat→Prop} {w:World} {O:Nat} {d:OD} (h:OvAt H w O d) (hn:d.us.length≤1000000) {m:Nat} (hm:m≤d.us.length):Calls Tryz.prog 20 #[.pointer (some ⟨O,0,none⟩),.int .i64 (m:Int)] w (BackPost H O d m w):=by
 have c2:w.cell? ⟨O,2,none⟩=some (.slice d.s.a d.us.length d.s.c):=h.blk.cell 2
 have lO:=h.blk.lt
 obtain ⟨xs,hl,hown,hun⟩:=h.row
 have g0:decide ((m:Int)<0)=false:=decide_eq_false (by omega)
 have g1:decide ((d.us.length:Int)<(m:Int))=false:=decide_eq_false (by omega)
 have g1':decide (d.us.length<m)=false:=decide_eq_false (by omega)
 have hst:BackMid w O d xs d.us.length w:=⟨h.blk,by rw [backA_end];exact h.map,⟨xs,hown,fun _ _=>rfl⟩,Sb.refl _ _⟩
 have HAT:=Lib.hid h
 have HUN:=Lib.hid hun
 have HL:=Lib.hid hl
 have HST:=Lib.hid hst
 clear h hun hl hst hown
 go_enter Tryz.func20,Tryz.ntmps20
 go_wp2_with fail
 go_loopw [5] (fun q wr=>∃ (j:Nat) (i:Int),q=.int .i64 i∧i+1=(j:Int)∧m≤j∧j≤d.us.length∧BackMid w O d xs j wr) (fun q _=>(intOf q+1).toNat)
 case atStart=>exact ⟨d.us.length,_,rfl,by omega,hm,Nat.le_refl _,HST.out⟩
 obtain ⟨j,i,rfl,hij,hmj,hjl,hW⟩:=hrel
 by_cases hlt:m<j
 ·obtain ⟨j,rfl⟩:∃ k,j=k+1:=⟨j - 1,by omega⟩
  obtain rfl:i=(j:Int):=by omega
  have g2:decide ((m:Int)≤(j:Int))=true:=decide_eq_true (by omega)
  have hu:d.us[j]? = some d.us[j]:=List.getElem?_eq_getElem (by omega)
  obtain ⟨u,hue⟩:∃ u,d.us[j]=u:=⟨_,rfl⟩
  rw [hue] at hu
  obtain ⟨v,hv⟩:∃ v,xs[j]? = some v:=⟨_,List.getElem?_eq_getElem (by have:=HL.out;omega)⟩
  obtain ⟨b,hb⟩:=HAT.out.some_ (fun e=>by rw [e] at hu;simp at hu)
  obtain ⟨bw,bd,bo,bk,o,rfl,⟨fw,fd,fo,fk⟩,kw,kd,ho,ko,kk⟩:=HUN.out j u v hu hv
  obtain ⟨ys,hys,hyx⟩:=hW.row
  have hyv:ys[j]? = some (undoC bw bd bo bk):=by rw [hyx j (by omega)];exact hv
  obtain ⟨g,ha⟩:∃ g,d.s.a=some ⟨g,0,none⟩:=by
   rcases hys.2 with ⟨-,h0⟩ | ⟨g,cap,cur,hv,-⟩
   ·omega
   injection hv with h1
   exact ⟨g,h1⟩
  rw [ha] at hys
  obtain ⟨cj,⟨hnc,hcm⟩,lg,fj⟩:=own_cell hys hyv
  have b2:wr.cell? ⟨O,2,none⟩=some (.slice d.s.a d.us.length d.s.c):=hW.blk.cell 2
  rw [ha] at b2
  have lW:=hW.blk.lt
  have hblk:Blk wr O 29 #[rootV d.T,.map (some b),.slice d.s.a d.us.length d.s.c]:=by rw [←hb];exact hW.blk
  have hmap:OvMap wr (some b) (backA d.us d.C (j+1)):=by rw [←hb];exact hW.map
  have hun1:=undo1_any hblk hmap (backA_sorted HAT.out.sorted d.us (j+1)) (by have:=HAT.out.hist.short HAT.out.h0 _ _ (HAT.out.hist.back HAT.out.last (d.us.length - (j+1)) (j+1) (by omega));unfold maxLen;omega) (HAT.out.olds u (List.mem_of_getElem? hu)).1 (hW.sb.blk kw fw.2.1) (hW.sb.blk kd fd.2.1) ho (hW.sb.blk ko fo.2.1) (hW.sb.blk kk fk.2.1)
  have hrg:d.s.row=some g:=by rw [Sl.row,ha];rfl
  have hgb:¬g=b:=fun e=>HAT.out.ne.2.2 b hb (by rw [hrg,e])
  have hOb:¬O=b:=fun e=>HAT.out.ne.1 (by rw [hb,e])
  have HW:=Lib.hid hW
  have HU:=Lib.hid hu
  have HB:=Lib.hid hb
  have HA:=Lib.hid ha
  have HUN1:=Lib.hid hun1
  have j0:(0:Int)≤(j:Int):=by omega
  have j1:(j:Int)<(d.us.length:Int):=by omega
  have fj2:∀ W,Sb (fun c=>c=b) wr W→W.frozen? ⟨g,j,none⟩=false∧W.cell? ⟨g,j,none⟩=some (undoC bw bd bo bk)∧W.cell? ⟨O,2,none⟩=some (.slice (some ⟨g,0,none⟩) d.us.length d.s.c)∧g<W.heap.size:=fun W hS=>
   ⟨(World.frozen?_of_block (hS.block g lg hgb)).trans fj,(hS.cell lg hgb).trans cj,(hS.cell lW hOb).trans b2,Nat.lt_of_lt_of_le lg hS.size⟩
  have FJ:=Lib.hid fj2
  clear hW hij c2 hu hue hv hb fw fd fo fk kw kd ho ko kk hys hyx hyv ha hblk hmap hun1 hrg hgb hOb fj2 HST
  go_wp2_with (go_at_call 62;refine (HUN1.out).mono ?_;rintro e w1 ⟨⟨r,rfl⟩,hm1,hs1⟩;obtain ⟨f1,c1,b3,l1⟩:=FJ.out w1 hs1;have HM1:=Lib.hid hm1;have HS1:=Lib.hid hs1;clear hm1 hs1 FJ)
  go_roundw
  case rel=>exact ⟨j,(j:Int) - 1,by go_num,by omega,by omega,by omega,back_step HAT.out HB.out HA.out HU.out HW.out HM1.out HS1.out⟩
  simp [intOf]
 obtain rfl:j=m:=by omega
 have g2:decide ((j:Int)≤i)=false:=decide_eq_false (by omega)
 have b2:wr.cell? ⟨O,2,none⟩=some (.slice d.s.a d.us.length d.s.c):=hW.blk.cell 2
 have f2:=hW.blk.frozen 2
 have lW:=hW.blk.lt
 have HW:=Lib.hid hW
 clear hW hij c2
 have hca:(d.s.a=none∧d.us.length=0∧d.s.c=0)∨∃ g,d.s.a=some ⟨g,0,none⟩∧d.us.length≤d.s.c∧d.s.c≤maxLen:=by
  obtain ⟨ys,hys,-⟩:=HW.out.row
  rcases hys.2 with ⟨hv,h0⟩ | ⟨g,cap,cur,hv,-,-,hnc,hcm,-⟩
  ·injection hv with h1 h2 h3
   exact .inl ⟨h1,h0,h3⟩
  injection hv with h1 h2 h3
  exact .inr ⟨g,h1,by rw [h3];exact hnc,by rw [h3];exact hcm⟩
 rcases hca with ⟨ha,hz,hc⟩ | ⟨g,ha,hnc,hcm⟩
 ·obtain rfl:j=0:=by omega
  have HA:=Lib.hid ha
  have HC:=Lib.hid hc
  have HZ:=Lib.hid hz
  rw [ha,hz,hc] at b2
  clear ha hc hz
  have g3:decide ((0:Int)≤i)=false:=g2
  go_wp2_with fail
  refine bodyPost_ret (v:=.int .i64 0) (by simp [results,Tryz.results20,go_sem]) rfl ?_
  have hend:=back_end hm HAT.out HL.out HUN.out HW.out
  rw [HA.out,HC.out] at hend
  exact ⟨rfl,hend⟩
 rw [ha] at b2
 have HA:=Lib.hid ha
 clear ha
 have k0:(0:Int)≤(j:Int):=by omega
 have k1:(j:Int)≤(d.s.c:Int):=by omega
 go_wp2_with fail
 refine bodyPost_ret (v:=.int .i64 0) (by simp [results,Tryz.results20,go_sem]) rfl ?_
 have hend:=back_end hm HAT.out HL.out HUN.out HW.out
 rw [HA.out] at hend
 exact ⟨rfl,hend⟩
end Go.Proofs.YtechahocffcbpaaGreatDoor
namespace Go.Proofs.YtechahocffcbpaaGreatDoor
set_option linter.unusedVariables false
def inI (lo hi:ByteArray) (op:Bool) (e:Ent):Bool:=!(klt e.1 lo) && (op || klt e.1 hi)
def rangeE (lo hi:ByteArray) (op:Bool) (es:List Ent):List Ent:=es.filter (inI lo hi op)
theorem rangeE_app (lo hi:ByteArray) (op:Bool) (a b:List Ent):rangeE lo hi op (a++b)=rangeE lo hi op a++rangeE lo hi op b:=List.filter_append ..
theorem rangeE_below {lo hi:ByteArray} {op:Bool} {es:List Ent} (h:∀ e∈es,klt e.1 lo=true):rangeE lo hi op es=[]:=
 List.filter_eq_nil_iff.2 fun e he=>by simp [inI,h e he]
def endI (hi:ByteArray) (op:Bool) (k:ByteArray):Bool:=!op && !(klt k hi)
theorem rangeE_above {lo hi:ByteArray} {op:Bool} {es:List Ent} (h:∀ e∈es,endI hi op e.1=true):rangeE lo hi op es=[]:=
 List.filter_eq_nil_iff.2 fun e he=>by
  have:=h e he
  simp only [endI,Bool.and_eq_true,Bool.not_eq_true'] at this
  simp [inI,this.1,this.2]
theorem endI_up {hi:ByteArray} {op:Bool} {a b:ByteArray} (h:endI hi op a=true) (hab:klt a b=true):endI hi op b=true:=by
 simp only [endI,Bool.and_eq_true,Bool.not_eq_true'] at h ⊢
 refine ⟨h.1,?_⟩
 cases hb:klt b hi
 ·rfl
 rw [klt_trans hab hb] at h;cases h.2
theorem rangeE_one {lo hi:ByteArray} {op:Bool} {e:Ent} (h1:klt e.1 lo=false) (h2:endI hi op e.1=false):rangeE lo hi op [e]=[e]:=by
 have:inI lo hi op e=true:=by
  simp only [endI,Bool.and_eq_false_iff,Bool.not_eq_false'] at h2
  rcases h2 with h2 | h2 <;> simp [inI,h1,h2]
 simp [rangeE,this]
theorem rangeE_behind {lo hi:ByteArray} {op:Bool} {A B:List Ent} (hs:Sorted (A++B)) (h:∃ e∈A,endI hi op e.1=true):rangeE lo hi op B=[]:=by
 obtain ⟨e,he,h⟩:=h
 exact rangeE_above fun x hx=>endI_up h ((sorted_app hs).2.2 e he x hx)
theorem le_last {es:List Ent} (hs:Sorted es) {e:Ent} (he:e∈es):klt (lastK es) e.1=false:=by
 have hne:es≠[]:=by rintro rfl;cases he
 rcases List.eq_nil_or_concat es with rfl | ⟨a,x,rfl⟩
 ·exact absurd rfl hne
 rw [List.concat_eq_append] at hs he
 have hl:lastK (a.concat x)=x.1:=by simp [lastK]
 rw [hl]
 rcases List.mem_append.1 he with h | h
 ·exact klt_asymm ((sorted_app hs).2.2 e h x (List.mem_singleton.2 rfl))
 rw [List.mem_singleton.1 h];exact klt_irrefl _
theorem first_le {es:List Ent} (hs:Sorted es) {e:Ent} (he:e∈es):klt e.1 (firstK es)=false:=by
 cases es with
 | nil=>cases he
 | cons x es=>
   show klt e.1 x.1=false
   rcases List.mem_cons.1 he with rfl | h
   ·exact klt_irrefl _
   exact klt_asymm ((List.pairwise_cons.1 hs).1 e h)
theorem lt_of_last {es:List Ent} (hs:Sorted es) {lo:ByteArray} (h:klt (lastK es) lo=true):∀ e∈es,klt e.1 lo=true:=fun e he=>klt_of_ge_lt (le_last hs he) h
theorem end_of_first {es:List Ent} (hs:Sorted es) {hi:ByteArray} {op:Bool} (h:endI hi op (firstK es)=true):∀ e∈es,endI hi op e.1=true:=fun e he=>by
 simp only [endI,Bool.and_eq_true,Bool.not_eq_true'] at h ⊢
 refine ⟨h.1,?_⟩
 cases hb:klt e.1 hi
 ·rfl
 have:=klt_of_ge_lt (first_le hs he) hb
 rw [h.2] at this;cases this
def endL:List UInt8→Option (List UInt8)
 | []=>none
 | b :: t=>match endL t with
   | some e=>some (b :: e)
   | none=>if b=255 then none else some [b+1]
theorem bl_nil (k:List UInt8):Op.bytesLess k []=false:=by cases k <;> rfl
theorem u8_lt_succ {b c:UInt8} (hb:b≠255):(c<b+1)↔(c<b∨c=b):=by
 have h1:(b+1).toNat=b.toNat+1:=by
  rw [UInt8.toNat_add]
  have:b.toNat≠255:=fun e=>hb (UInt8.toNat_inj.1 e)
  have:=b.toNat_lt
  show (b.toNat+1) % 256=_
  omega
 rw [UInt8.lt_iff_toNat_lt,UInt8.lt_iff_toNat_lt,h1,←UInt8.toNat_inj]
 omega
theorem begins_iff:∀ p k:List UInt8,(p.isPrefixOf k)=(!(Op.bytesLess k p) && (match endL p with | none=>true | some e=>Op.bytesLess k e))
 | [],k=>by simp [bl_nil,endL,List.isPrefixOf]
 | b :: t,[]=>by simp [Op.bytesLess,List.isPrefixOf]
 | b :: t,c :: s=>by
   have ih:=begins_iff t s
   simp only [List.isPrefixOf,Op.bytesLess,endL]
   by_cases hlt:c<b
   ·have hne:(b == c)=false:=beq_eq_false_iff_ne.2 (by rintro rfl;exact absurd hlt (UInt8.lt_irrefl _))
    simp [hlt,hne]
   by_cases he:c=b
   ·subst he
    cases hE:endL t with
    | some e=>
      rw [hE] at ih
      simp [Op.bytesLess,ih,UInt8.lt_irrefl]
    | none=>
      rw [hE] at ih
      by_cases h255:c=255
      ·subst h255;simp [ih,UInt8.lt_irrefl]
      have h1:c<c+1:=(u8_lt_succ h255).2 (.inr rfl)
      simp [Op.bytesLess,ih,UInt8.lt_irrefl,h255,h1]
   have hne:(b == c)=false:=beq_eq_false_iff_ne.2 fun e=>he e.symm
   have hne':(c == b)=false:=beq_eq_false_iff_ne.2 he
   simp only [hne,Bool.false_and,hlt,decide_false,hne',Bool.or_self,Bool.not_false,Bool.true_and]
   cases hE:endL t with
   | some e=>simp [Op.bytesLess,hlt,hne']
   | none=>
     by_cases h255:b=255
     ·exfalso
      subst h255
      have h1:=UInt8.not_lt.1 hlt
      have h2:c≤255:=UInt8.le_iff_toNat_le.2 (by have:=c.toNat_lt;show c.toNat≤255;omega)
      exact he (UInt8.le_antisymm h2 h1)
     have h1:¬c<b+1:=fun h=>by
      rcases (u8_lt_succ h255).1 h with h | h
      ·exact hlt h
      exact he h
     simp [h255,Op.bytesLess,h1,bl_nil]
theorem endL_ff:∀ n:Nat,endL (List.replicate n 255)=none
 | 0=>rfl
 | n+1=>by rw [List.replicate_succ,endL,endL_ff n];rfl
theorem endL_at {b:UInt8} (hb:b≠255) (n:Nat):∀ a:List UInt8,endL (a++b :: List.replicate n 255)=some (a++[b+1])
 | []=>by rw [List.nil_append,endL,endL_ff];simp [hb]
 | x :: a=>by rw [List.cons_append,endL,endL_at hb n a];rfl
end Go.Proofs.YtechahocffcbpaaGreatDoor
namespace Go.Proofs.YtechahocffcbpaaGreatDoor
open Go.RowKit
set_option linter.unusedVariables false
set_option linter.unusedSimpArgs false
abbrev inV (lo hi:ByteArray) (op:Bool):Value:=.agg #[.string lo,.string hi,.bool op]
theorem ends_any (w:World) (lo hi:ByteArray) (op:Bool) (k:ByteArray):Calls Tryz.prog 172 #[inV lo hi op,.string k] w fun e w'=>e=.returned (.bool (endI hi op k))∧Ext w w':=by
 cases op
 ·go_enter Tryz.func172,Tryz.ntmps172
  go_wp2_with fail
  go_ret
  exact ⟨rfl,(Ext.refl w).alloc _ _⟩
 go_enter Tryz.func172,Tryz.ntmps172
 go_wp2_with fail
 go_ret
 exact ⟨rfl,(Ext.refl w).alloc _ _⟩
structure LeafC (At:World→Prop) (nv:Value) (es:List Ent):Prop where
 ext:∀ {W W'},At W→Ext W W'→At W'
 ptr:∃ p,nv=.pointer p
 height:∀ W,At W→Calls Tryz.prog 69 #[nv] W fun e w'=>e=.returned (.int .i64 0)∧W=w'
 size:∀ W,At W→Calls Tryz.prog 73 #[nv] W fun e w'=>e=.returned (.int .i64 es.length)∧∃ q,w'=W.drewN q
 kids:∀ W,At W→Calls Tryz.prog 70 #[nv] W fun e w'=>e=.returned (.slice none 0 0)∧W=w'
 entry:∀ W,At W→∀ (i:Nat) (e:Ent),es[i]? = some e→Calls Tryz.prog 75 #[nv,.int .i64 i] W (EntryPost e.1 e.2 W)
 none:∀ W,At W→∀ i:Int,(i<0∨es.length≤i)→Calls Tryz.prog 75 #[nv,.int .i64 i] W fun e w'=>e=.returned (.tuple #[aggE ByteArray.empty zeroV Sl.none Sl.none,.bool false])∧Ext W w'
 sorted:Sorted es
 few:es.length≤8
def NodeAt (F:Nat→Prop) (h:Nat) (t:PT h) (W:World):Prop:=IsN W F h t∧∀ b,F b→b<W.heap.size
theorem NodeAt.ext {F:Nat→Prop} {h:Nat} {t:PT h} {W W':World} (a:NodeAt F h t W) (k:Ext W W'):NodeAt F h t W':=⟨a.1.agree (k.agree a.2),fun b hb=>Nat.lt_of_lt_of_le (a.2 b hb) k.size⟩
theorem NodeAt.lt {F:Nat→Prop} {h:Nat} {t:PT h} {W:World} (a:NodeAt F h t W):IsN W (Lt W.heap.size) h t:=a.1.mono a.2
theorem leafC_node {F:Nat→Prop} {t:PT 0} (ok:OkT 0 t) (hs:Sorted (ents 0 t)):LeafC (NodeAt F 0 t) (ptr 0 t) (ents 0 t) where
 ext:=NodeAt.ext
 ptr:=⟨_,rfl⟩
 height W a:=height_any a.1
 size W a:=size_any a.1 (Nat.le_trans (show (ents 0 t).length≤8 from ok) (by decide))
 kids W a:=kids_leaf a.1
 entry W a i e h:=entry_any a.lt h
 none W a i h:=entry_none a.lt h
 sorted:=hs
 few:=ok
theorem leafC_nil:LeafC (fun _=>True) (.pointer none) [] where
 ext _ _:=trivial
 ptr:=⟨_,rfl⟩
 height W _:=height_nil W
 size W _:=(size_nil W).mono fun e w' ⟨h1,h2⟩=>⟨h1,0,h2.symm⟩
 kids W _:=kids_nil W
 entry W _ i e h:=by simp at h
 none W _ i _:=entry_nil W i
 sorted:=List.Pairwise.nil
 few:=by simp
/-- The closure of below. -/
theorem below1_any {W:World} {nv:Value} {b1 b2:Nat} {k k':ByteArray} {v:Val} {i:Nat} (h1:W.cell? ⟨b1,0,none⟩=some nv) (h2:W.cell? ⟨b2,0,none⟩=some (.string k))
  (hp:∃ p,nv=.pointer p) (hc:Calls Tryz.prog 75 #[nv,.int .i64 i] W (EntryPost k' v W)) :
  Calls Tryz.prog 206 #[.int .i64 i,.pointer (some ⟨b1,0,none⟩),.pointer (some ⟨b2,0,none⟩)] W fun e w'=>e=.returned (.bool !(klt k' k))∧Ext W w':=by
 obtain ⟨p,rfl⟩:=hp
 have hb2:=World.block_lt_of_cell? W _ h2
 go_enter Tryz.func206,Tryz.ntmps206
 go_wp2_with fail
 refine hc.mono ?_
 rintro e w1 ⟨sl,so,rfl,hx,-⟩
 have q2:=(hx.cell hb2).trans h2
 have l2:b2<w1.heap.size:=Nat.lt_of_lt_of_le hb2 hx.size
 have HX:=Lib.hid hx
 clear hc hx h2
 go_wp2
 go_ret
 exact ⟨rfl,HX.out.alloc _ _⟩
theorem below_any {At:World→Prop} {nv:Value} {es:List Ent} (hc:LeafC At nv es) {w:World} (hw:At w) (k:ByteArray):Calls Tryz.prog 191 #[nv,.string k] w fun e w'=>e=.returned (.int .i64 (posE es k))∧Ext w w':=by
 obtain ⟨pp,rfl⟩:=hc.ptr
 have hl:=hc.few
 have hsr:∀ W,Ext w W→W.cell? ⟨w.heap.size,0,none⟩=some (.pointer pp)→W.cell? ⟨w.heap.size+1,0,none⟩=some (.string k)→Calls Tryz.prog 72 #[.int .i64 es.length,.func (.func 206) #[] #[.pointer (some ⟨w.heap.size,0,none⟩),.pointer (some ⟨w.heap.size+1,0,none⟩)]] W (SearchPost es.length (fun i=>!(klt ((es[i]?.map Prod.fst).getD ByteArray.empty) k)) W):=by
  intro W hW c1 c2
  refine search_any 206 _ _ es.length _ W (enters_of Tryz.func206 (by kernel_rfl) rfl) (by omega) ?_ ?_
  ·intro i W' hi hW'
   obtain ⟨x,hx⟩:∃ x,es[i]? = some x:=⟨_,List.getElem?_eq_getElem hi⟩
   rw [hx]
   exact below1_any ((hW'.cell (World.block_lt_of_cell? W _ c1)).trans c1) ((hW'.cell (World.block_lt_of_cell? W _ c2)).trans c2) ⟨_,rfl⟩ (hc.entry W' (hc.ext (hc.ext hw hW) hW') i x hx)
  intro i j hij hj hpi
  by_cases hij':i=j
  ·subst hij';exact hpi
  obtain ⟨x,hx⟩:∃ x,es[i]? = some x:=⟨_,List.getElem?_eq_getElem (by omega)⟩
  obtain ⟨y,hy⟩:∃ y,es[j]? = some y:=⟨_,List.getElem?_eq_getElem hj⟩
  have hxy:=sorted_lt hc.sorted (i:=i) (j:=j) (by omega) hx hy
  rw [hx] at hpi;rw [hy]
  simp only [Option.map_some,Option.getD_some,Bool.not_eq_true'] at hpi ⊢
  cases hyk:klt y.1 k
  ·rfl
  have:=klt_trans hxy hyk
  rw [hpi] at this;cases this
 have HC:=Lib.hid hc
 have HSR:=Lib.hid hsr
 have HW:=Lib.hid hw
 clear hc hsr hw
 go_enter Tryz.func191,Tryz.ntmps191
 go_wp2_with fail
 generalize hW0:World.alloc _ _=W0
 obtain ⟨hx0,hz0,hb0,hb1⟩:=two_blocks w _ _ _ _ W0 hW0
 have q0:W0.cell? ⟨w.heap.size,0,none⟩=some (.pointer pp):=hb0.cell 0
 have HX0:=Lib.hid hx0
 have HB0:=Lib.hid hb0
 have HB1:=Lib.hid hb1
 clear hW0 hb0 hb1 hx0 hz0
 refine (HC.out.size W0 (HC.out.ext HW.out HX0.out)).mono ?_
 rintro e w1 ⟨rfl,q,rfl⟩
 clear q0
 go_wp2_with fail
 refine (HSR.out _ (HX0.out.drewN q) (HB0.out.cell 0) (HB1.out.cell 0)).mono ?_
 rintro e w1 ⟨p,rfl,hp,hlo,hhi,he1⟩
 have hpos:posE es k=p:=posE_of hp (fun i e hi he=>by
   have:(!(klt ((es[i]?.map Prod.fst).getD ByteArray.empty) k))=false:=hlo i hi
   rw [he] at this
   simpa using this) (fun e he=>by
   have:(!(klt ((es[p]?.map Prod.fst).getD ByteArray.empty) k))=true:=hhi p (Nat.le_refl _) (List.getElem?_eq_some_iff.1 he).1
   rw [he] at this
   simpa using this)
 have HE:=Lib.hid ((HX0.out.drewN q).trans he1)
 have HP:=Lib.hid hpos
 clear hlo hhi hpos he1
 go_wp2_with fail
 go_ret
 exact ⟨by rw [HP.out];rfl,HE.out⟩
theorem kid_ne {h:Nat} {t:PT (h+1)} (ok:OkT (h+1) t) {kid:PT h} (hk:kid∈t.2):ents h kid≠[]:=by
 have h1:=ok.2.2 kid hk
 have:=ents_pos h kid h1.1 (by omega)
 intro e;rw [e] at this;simp at this
def getI (es:List Ent) (i:Int):Option Ent:=if i<0 then none else es[i.toNat]?
abbrev noE:Ent:=(ByteArray.empty,zeroV)
def AtIPost (o:Option Ent) (w:World) (e:Ending) (w':World):Prop:=
 ∃ sl so,e=.returned (.tuple #[aggE (o.getD noE).1 (o.getD noE).2 sl so,.bool o.isSome])∧Ext w w'∧RV w' (In w.heap.size w'.heap.size) (o.getD noE).2 sl so
theorem EntryPost.atI {x:Ent} {w:World} {e:Ending} {w':World} (h:EntryPost x.1 x.2 w e w'):AtIPost (some x) w e w':=h
theorem atIPost_none {w:World} {e:Ending} {w':World} (h:e=.returned (.tuple #[aggE ByteArray.empty zeroV Sl.none Sl.none,.bool false])∧Ext w w'):AtIPost none w e w':=
 ⟨Sl.none,Sl.none,h.1,h.2,RV.flat _ _ _ _ _ _ (by decide) (by decide) (by decide)⟩
theorem LeafC.get {At:World→Prop} {nv:Value} {es:List Ent} (hc:LeafC At nv es) {w:World} (hw:At w) (i:Int):Calls Tryz.prog 75 #[nv,.int .i64 i] w (AtIPost (getI es i) w):=by
 unfold getI
 split
 ·exact (hc.none w hw i (.inl ‹_›)).mono fun e w' h=>atIPost_none h
 cases hx:es[i.toNat]? with
 | none=>exact (hc.none w hw i (.inr (by have:=List.getElem?_eq_none_iff.1 hx;omega))).mono fun e w' h=>atIPost_none h
 | some x=>
   have:=hc.entry w hw i.toNat x hx
   rw [Int.toNat_of_nonneg (by omega)] at this
   exact this.mono fun e w' h=>h.atI
def TreeAt (F:Nat→Prop) (T:RT) (W:World):Prop:=IsT W F T∧∀ b,F b→b<W.heap.size
theorem TreeAt.ext {F:Nat→Prop} {T:RT} {W W':World} (a:TreeAt F T W) (k:Ext W W'):TreeAt F T W':=⟨a.1.agree (k.agree a.2),fun b hb=>Nat.lt_of_lt_of_le (a.2 b hb) k.size⟩
end Go.Proofs.YtechahocffcbpaaGreatDoor
namespace Go.Proofs.YtechahocffcbpaaGreatDoor
open Go.RowKit Go.Shelf
set_option linter.unusedVariables false
set_option linter.unusedSimpArgs false
attribute [local go_sem] Oper.semAt_some
abbrev encE (x:LE):Array Value:=#[.string x.k,aggV x.v x.sl x.so]
structure ScanG (all:List Ent) (pre:List LE) (x:LE) (W0 W1:World):Prop where
 at_:all[pre.length]? = some x.ent
 pre_:pre.map LE.ent=all.take pre.length
 val:RV W1 (In W0.heap.size W1.heap.size) x.v x.sl x.so
 key:x.k.size≤maxLen
def WalkPost (lo hi:ByteArray) (op:Bool) (es all:List Ent) (pre:List LE) (J:List LE→(Nat→Prop)→World→Prop) (Jx:List LE→World→Prop) (C:Nat→Prop) (W:World) (e:Ending) (W':World):Prop:=
 (∃ (new:List LE) (C':Nat→Prop) (W0:World),(e=.returned (.bool true)∨(e=.returned (.bool false)∧∃ x∈es,endI hi op x.1=true))∧J (pre++new) C' W0∧Ext W0 W'∧new.map LE.ent=rangeE lo hi op es∧St C W W'∧∀ b,C' b→C b∨W.heap.size≤b)∨
 (e=.returned (.bool false)∧St C W W'∧∃ pre' W0,Jx pre' W0∧Ext W0 W'∧pre'.map LE.ent <+: all)
theorem scanG_next {all rest:List Ent} {pre new:List LE} {A:List Ent} {lo hi:ByteArray} {op:Bool} {x:LE} {B:List Ent} (hall:all=pre.map LE.ent++(rangeE lo hi op (A++x.ent :: B)++rest)) (hn:new.map LE.ent=rangeE lo hi op A) (h1:klt x.k lo=false) (h2:endI hi op x.k=false) :
  all[(pre++new).length]? = some x.ent∧(pre++new).map LE.ent=all.take (pre++new).length∧(new++[x]).map LE.ent=rangeE lo hi op (A++[x.ent]):=by
 have e1:rangeE lo hi op (A++x.ent :: B)=rangeE lo hi op A++(x.ent :: rangeE lo hi op B):=by
  rw [show A++x.ent :: B=A++([x.ent]++B) from rfl,rangeE_app,rangeE_app,rangeE_one (e:=x.ent) h1 h2];rfl
 rw [e1,←hn] at hall
 have e2:all=(pre++new).map LE.ent++(x.ent :: (rangeE lo hi op B++rest)):=by rw [hall];simp
 have hl:(pre++new).length=((pre++new).map LE.ent).length:=by simp
 refine ⟨?_,?_,?_⟩
 ·rw [e2,hl,List.getElem?_append_right (Nat.le_refl _),Nat.sub_self];rfl
 ·rw [e2,hl,List.take_left]
 rw [List.map_append,hn,rangeE_app,List.map_cons,List.map_nil,rangeE_one (e:=x.ent) h1 h2]
theorem rangeE_rest {lo hi:ByteArray} {op:Bool} {es:List Ent} (hs:Sorted es) {i:Nat} {x:Ent} (hx:es[i]? = some x) (he:endI hi op x.1=true):rangeE lo hi op (es.take i)=rangeE lo hi op es:=by
 have hd:es.drop i=x :: es.drop (i+1):=by
  obtain ⟨h1,rfl⟩:=List.getElem?_eq_some_iff.1 hx
  exact List.drop_eq_getElem_cons h1
 conv=>rhs;rw [←List.take_append_drop i es]
 rw [rangeE_app,rangeE_above (es:=es.drop i),List.append_nil]
 intro e hem
 have hsd:Sorted (es.drop i):=List.Pairwise.sublist (List.drop_sublist _ _) hs
 rw [hd] at hem hsd
 rcases List.mem_cons.1 hem with rfl | hem
 ·exact he
 exact endI_up he ((List.pairwise_cons.1 hsd).1 e hem)
theorem take_snoc_prefix {α:Type} {l:List α} {n:Nat} {x:α} (h:l[n]? = some x):l.take n++[x] <+: l:=by
 have e:l.take (n+1)=l.take n++[x]:=by rw [List.take_add_one,h];rfl
 rw [←e];exact List.take_prefix _ _
structure LeafS (lo hi:ByteArray) (op:Bool) (es:List Ent) (At:World→Prop) (pre:List LE) (J:List LE→(Nat→Prop)→World→Prop) (C:Nat→Prop) (W:World) (i:Nat) (new:List LE) (C':Nat→Prop) (Wj wr:World):Prop where
 j:J (pre++new) C' Wj
 ext:Ext Wj wr
 new_:new.map LE.ent=rangeE lo hi op (es.take i)
 st:St C W wr
 sub:∀ b,C' b→C b∨W.heap.size<b
 box:Blk wr W.heap.size 176 #[.string lo,.string hi,.bool op]
 at_:At wr
theorem walkLeaf_any {At:World→Prop} {F:Nat→Prop} {nv:Value} {es:List Ent} (hc:LeafC At nv es) (hagr:∀ W W',At W→Agree F W W'→W.heap.size≤W'.heap.size→At W') (hsm:∀ e∈es,e.1.size≤maxLen) {lo hi:ByteArray} {op:Bool} {all rest:List Ent} {pre:List LE}
  {l:Nat} {J:List LE→(Nat→Prop)→World→Prop} {Jx:List LE→World→Prop} (hT:Takes Tryz.prog l encE (ScanG all) J Jx) {C:Nat→Prop} {W0 W:World} (hJ:J pre C W0) (hx:Ext W0 W) (hw:At W) (hF:∀ b,F b→b<W.heap.size∧¬C b) (hall:all=pre.map LE.ent++(rangeE lo hi op es++rest)) :
  Calls Tryz.prog 170 #[nv,inV lo hi op,.func (.yield l) #[] #[]] W (WalkPost lo hi op es all pre J Jx C W):=by
 obtain ⟨pp,rfl⟩:=hc.ptr
 have hl:=hc.few
 have hCl:=hT.lt pre C W0 hJ
 have hx1:Ext W (W.alloc (.cells #[.string lo,.string hi,.bool op] 176)):=(Ext.refl W).alloc _ _
 have hb1:=Blk.new W 176 #[.string lo,.string hi,.bool op]
 have hbe:=below_any hc (hc.ext hw hx1) lo
 obtain ⟨hp1,hp2⟩:=pos_split es lo hc.sorted
 obtain ⟨p,hp⟩:∃ p,posE es lo=p:=⟨_,rfl⟩
 rw [hp] at hbe hp1 hp2
 have hple:p≤es.length:=by rw [←hp];exact posE_le _ _
 have q0:(W.alloc (.cells #[.string lo,.string hi,.bool op] 176)).cell? ⟨W.heap.size,0,none⟩=some (.string lo):=hb1.cell 0
 have HC:=Lib.hid hc
 have HAG:=Lib.hid hagr
 have HSM:=Lib.hid hsm
 have HT:=Lib.hid hT
 have HJ:=Lib.hid hJ
 have HX:=Lib.hid hx
 have HW:=Lib.hid hw
 have HF:=Lib.hid hF
 have HALL:=Lib.hid hall
 have HB1:=Lib.hid hb1
 have HBE:=Lib.hid hbe
 have HP1:=Lib.hid hp1
 have HP2:=Lib.hid hp2
 have HX1:=Lib.hid hx1
 have HCL:=Lib.hid hCl
 clear hc hagr hsm hT hJ hx hw hF hall hbe hp1 hp2 hp hb1 hx1 hCl
 refine (callsIn_wide (n:=5)).1 ?_
 refine callsIn_of_wp Tryz.func170 rfl trivial ?_ rfl
 simp only [Tryz.ntmps170,List.size_toArray,List.length_cons,List.length_nil,Nat.reduceAdd,Nat.reduceSub,Array.replicate_succ,Array.replicate_zero,List.push_toArray,List.append_toArray,List.nil_append,List.cons_append]
 gi_wp2_with fail
 refine ⟨trivial,?_⟩
 refine (callsIn_wide.2 HBE.out).mono ?_
 rintro e w1 ⟨rfl,hx2⟩
 have HX2:=Lib.hid (HX1.out.trans hx2)
 have HB2:=Lib.hid (HB1.out.ext hx2)
 clear hx2 q0 HBE
 gi_wp2_with fail
 gi_loopw [7] (fun v wr=>∃ (i:Nat) (new:List LE) (C':Nat→Prop) (Wj:World),v=.int .i64 i∧p≤i∧i≤es.length∧LeafS lo hi op es At pre J C W i new C' Wj wr) (fun v _=>es.length - (intOf v).toNat)
 case atStart=>exact ⟨p,[],C,W0,rfl,Nat.le_refl _,hple,⟨by rw [List.append_nil];exact HJ.out,HX.out.trans HX2.out,by rw [rangeE_below HP1.out];rfl,HX2.out.st _,fun b hb=>.inl hb,HB2.out,HC.out.ext HW.out HX2.out⟩⟩
 obtain ⟨i,new,C',Wj,rfl,hpi,hil,hS⟩:=hrel
 have HS:=Lib.hid hS
 have hsz:=HC.out.size wr hS.at_
 have HSZ:=Lib.hid hsz
 clear hS hsz
 gi_wp2_with fail
 refine ⟨trivial,?_⟩
 refine (callsIn_wide.2 HSZ.out).mono ?_
 rintro e w2 ⟨rfl,q,rfl⟩
 have hxq:Ext wr (wr.drewN q):=(Ext.refl wr).drewN q
 by_cases hlt:i<es.length
 ·have g1:(i:Int)<(es.length:Int):=by omega
  have g1':decide ((i:Int)<(es.length:Int))=true:=decide_eq_true g1
  obtain ⟨x,hxi⟩:∃ x,es[i]? = some x:=⟨_,List.getElem?_eq_getElem hlt⟩
  have hen:=HC.out.entry (wr.drewN q) (HC.out.ext HS.out.at_ hxq) i x hxi
  have HEN:=Lib.hid hen
  have HXI:=Lib.hid hxi
  clear hen hxi
  gi_wp2_with fail
  refine ⟨trivial,?_⟩
  refine (callsIn_wide.2 HEN.out).mono ?_
  rintro e w3 ⟨sl,so,rfl,hx3,hrv⟩
  have hx4:Ext w3 (w3.alloc (.cells #[.string x.1,.int .i64 x.2.kind,.bool x.2.b,.int .i64 x.2.i,.string x.2.t,.slice sl.a x.2.l.length sl.c,.slice so.a x.2.ok.length so.c] 64)):=(Ext.refl w3).alloc _ _
  have hb4:=Blk.new w3 64 #[.string x.1,.int .i64 x.2.kind,.bool x.2.b,.int .i64 x.2.i,.string x.2.t,.slice sl.a x.2.l.length sl.c,.slice so.a x.2.ok.length so.c]
  have HX4:=Lib.hid ((hxq.trans hx3).trans hx4)
  have HX34:=Lib.hid hx4
  have HB4:=Lib.hid hb4
  have HRV:=Lib.hid hrv
  have hbx:=HS.out.box.ext (hxq.trans hx3)
  have qb0:w3.cell? ⟨W.heap.size,0,none⟩=some (.string lo):=hbx.cell 0
  have qb1:w3.cell? ⟨W.heap.size,1,none⟩=some (.string hi):=hbx.cell 1
  have qb2:w3.cell? ⟨W.heap.size,2,none⟩=some (.bool op):=hbx.cell 2
  have lb:=hbx.lt
  clear hx3 hx4 hb4 hrv hbx
  gi_wp2_with fail
  refine ⟨trivial,?_⟩
  refine (callsIn_wide.2 (ends_any _ lo hi op x.1)).mono ?_
  rintro e w5 ⟨rfl,hx5⟩
  have hX5:=HX4.out.trans hx5
  have hb5:=HB4.out.ext hx5
  obtain ⟨c0,c1,c2,c3,c4,c5,c6⟩:=hb5.c7
  have hat5:=HC.out.ext HS.out.at_ hX5
  have hbx5:=HS.out.box.ext hX5
  have hs4:=HX34.out.size
  have hs5:=hx5.size
  have hsj:=HS.out.ext.size
  have hrv5:RV w5 (In wr.heap.size w5.heap.size) x.2 sl so:=((HRV.out.agree (HX34.out.agree fun b hb=>hb.2)).agree (hx5.agree fun b hb=>by have:=hb.2;omega)).mono fun b hb=>⟨hb.1,by have:=hb.2;omega⟩
  have HX5:=Lib.hid hX5
  have HAT:=Lib.hid hat5
  have HBX:=Lib.hid hbx5
  have HRV5:=Lib.hid hrv5
  clear hx5 hX5 hb5 hat5 hbx5 hrv5 HRV HX4 HX34 HB4 qb0 qb1 qb2
  cases hend:endI hi op x.1 with
  | true=>
    gi_wp2_with fail
    refine ⟨fun _ h=>absurd h (by simp),?_⟩
    gi_wp2_with fail
    go_ret
    refine .inl ⟨new,C',Wj,.inr ⟨rfl,x,List.mem_of_getElem? HXI.out,hend⟩,HS.out.j,HS.out.ext.trans HX5.out,?_,HS.out.st.ext HX5.out,fun b hb=>(HS.out.sub b hb).imp_right Nat.le_of_lt⟩
    rw [HS.out.new_,rangeE_rest HC.out.sorted HXI.out hend]
  | false=>
    have hge:klt x.1 lo=false:=HP2.out x (by
     obtain ⟨h1,rfl⟩:=List.getElem?_eq_some_iff.1 HXI.out
     rw [List.mem_iff_getElem?]
     exact ⟨i - p,by rw [List.getElem?_drop,Nat.add_sub_cancel' hpi];exact HXI.out⟩)
    have hes:es=es.take i++x :: es.drop (i+1):=by
     obtain ⟨h1,h2⟩:=List.getElem?_eq_some_iff.1 HXI.out
     conv=>lhs;rw [←List.take_append_drop i es,List.drop_eq_getElem_cons h1,h2]
    obtain ⟨n1,n2,n3⟩:=scanG_next (x:=⟨x.1,x.2,sl,so⟩) (A:=es.take i) (B:=es.drop (i+1)) (all:=all) (rest:=rest) (pre:=pre) (by show all=pre.map LE.ent++(rangeE lo hi op (es.take i++x :: es.drop (i+1))++rest);rw [←hes];exact HALL.out) HS.out.new_ hge hend
    have hy:=HT.out.take (pre++new) C' ⟨x.1,x.2,sl,so⟩ Wj w5 HS.out.j (HS.out.ext.trans HX5.out) ⟨n1,n2,HRV5.out.mono fun b hb=>⟨by have:=hb.1;omega,hb.2⟩,HSM.out x (List.mem_of_getElem? HXI.out)⟩
    obtain ⟨fn,tmps,assign,body,hy,hR⟩:=hy
    have HR:=Lib.hid hR
    have HN1:=Lib.hid n1
    have HN2:=Lib.hid n2
    have HN3:=Lib.hid n3
    have HES:=Lib.hid hes
    clear hR n1 n2 n3 hes
    dsimp only [encE] at hy
    gi_wp2_with fail
    refine HR.out.mono ?_
    rintro e w6 (⟨rfl,C6,hj6,hst6,hsub6⟩ | ⟨rfl,hjx,hst6⟩)
    ·have hj6':J (pre++(new++[⟨x.1,x.2,sl,so⟩])) C6 w6:=by rw [←List.append_assoc];exact hj6
     have hWC:∀ b,b≤W.heap.size→C' b→C b:=fun b hb h=>by
      rcases HS.out.sub b h with h | h
      ·exact h
      omega
     have hWC0:¬C' W.heap.size:=fun h=>by
      have h1:=HCL.out _ (hWC _ (Nat.le_refl _) h)
      have:=HX.out.size;omega
     have HS6:=Lib.hid (show LeafS lo hi op es At pre J C W (i+1) (new++[⟨x.1,x.2,sl,so⟩]) C6 w6 w6 from
      ⟨hj6',Ext.refl _,by rw [HN3.out,List.take_add_one,HXI.out];rfl,(HS.out.st.ext HX5.out).then hst6 (fun b hb h=>hWC b (Nat.le_of_lt hb) h),fun b hb=>by
        rcases hsub6 b hb with h | h
        ·exact HS.out.sub b h
        exact .inr (by omega),hst6.blk HBX.out hWC0,HAG.out w5 w6 HAT.out (hst6.agree.mono fun b hb=>⟨by have:=(HF.out b hb).1;omega,fun h=>(HF.out b hb).2 (hWC b (Nat.le_of_lt (HF.out b hb).1) h)⟩) hst6.size⟩)
     clear hj6 hst6 hsub6 hj6' hWC hWC0 hy
     gi_wp2_with fail
     go_roundw
     case rel=>exact ⟨i+1,_,C6,w6,by go_num,by omega,hlt,HS6.out⟩
     simp [intOf];omega
    gi_wp2_with fail
    go_ret
    have hst:St C W w6:=(HS.out.st.ext HX5.out).then hst6 fun b hb h=>by
     rcases HS.out.sub b h with h | h
     ·exact h
     omega
    exact .inr ⟨rfl,hst,_,w6,hjx,Ext.refl _,by
     rw [List.map_append,HN2.out]
     exact take_snoc_prefix HN1.out⟩
 obtain rfl:i=es.length:=by omega
 gi_wp2_with fail
 go_ret
 refine .inl ⟨new,C',Wj,.inl rfl,HS.out.j,HS.out.ext.trans hxq,?_,HS.out.st.ext hxq,fun b hb=>(HS.out.sub b hb).imp_right Nat.le_of_lt⟩
 rw [HS.out.new_,List.take_length]
theorem keys_small {w:World} {F:Nat→Prop}:∀ {h:Nat} {t:PT h},IsN w F h t→∀ e∈ents h t,e.1.size≤maxLen
 | 0,t,⟨_,s,xs,_,h3,h4⟩,e,he=>by
   have he:e∈t.2:=he
   rw [←h4] at he
   obtain ⟨x,hx,rfl⟩:=List.mem_map.1 he
   exact (h3.vals x hx).2
 | h+1,t,⟨_,s,_,_,h4⟩,e,he=>by
   have he:e∈t.2.flatMap (ents h):=he
   obtain ⟨k,hk,he⟩:=List.mem_flatMap.1 he
   exact keys_small (h4 k hk) e he
theorem WalkPost.from {lo hi:ByteArray} {op:Bool} {es all:List Ent} {pre:List LE} {J:List LE→(Nat→Prop)→World→Prop} {Jx:List LE→World→Prop} {C:Nat→Prop} {W W1:World} {e:Ending} {W':World} (h:WalkPost lo hi op es all pre J Jx C W1 e W') (hx:Ext W W1):WalkPost lo hi op es all pre J Jx C W e W':=by
 rcases h with ⟨new,C',W0,h1,h2,h3,h4,h5,h6⟩ | h
 ·exact .inl ⟨new,C',W0,h1,h2,h3,h4,(hx.st C).trans h5,fun b hb=>(h6 b hb).imp_right fun h=>Nat.le_trans hx.size h⟩
 exact .inr ⟨h.1,(hx.st C).trans h.2.1,h.2.2⟩
theorem WalkPost.bool {lo hi:ByteArray} {op:Bool} {es all:List Ent} {pre:List LE} {J:List LE→(Nat→Prop)→World→Prop} {Jx:List LE→World→Prop} {C:Nat→Prop} {W:World} {e:Ending} {W':World} (h:WalkPost lo hi op es all pre J Jx C W e W'):∃ b,e=.returned (.bool b):=by
 rcases h with ⟨new,C',W0,h1 | h1,_⟩ | h
 ·exact ⟨_,h1⟩
 ·exact ⟨_,h1.1⟩
 exact ⟨_,h.1⟩
theorem walk_leaf {At:World→Prop} {F:Nat→Prop} {nv:Value} {es:List Ent} (hc:LeafC At nv es) (hagr:∀ W W',At W→Agree F W W'→W.heap.size≤W'.heap.size→At W') (hsm:∀ e∈es,e.1.size≤maxLen) {lo hi:ByteArray} {op:Bool} {all rest:List Ent} {pre:List LE}
  {l:Nat} {J:List LE→(Nat→Prop)→World→Prop} {Jx:List LE→World→Prop} (hT:Takes Tryz.prog l encE (ScanG all) J Jx) {C:Nat→Prop} {W0 W:World} (hJ:J pre C W0) (hx:Ext W0 W) (hw:At W) (hF:∀ b,F b→b<W.heap.size∧¬C b) (hall:all=pre.map LE.ent++(rangeE lo hi op es++rest)) :
  Calls Tryz.prog 121 #[nv,inV lo hi op,.func (.yield l) #[] #[]] W (WalkPost lo hi op es all pre J Jx C W):=by
 have hx1:Ext W (W.alloc (.cells #[.string lo,.string hi,.bool op] 176)):=(Ext.refl W).alloc _ _
 have hh:=hc.height _ (hc.ext hw hx1)
 have hwl:=walkLeaf_any hc hagr hsm hT hJ (hx.trans hx1) (hc.ext hw hx1) (fun b hb=>⟨Nat.lt_of_lt_of_le (hF b hb).1 hx1.size,(hF b hb).2⟩) hall
 obtain ⟨pp,rfl⟩:=hc.ptr
 have HWL:=Lib.hid hwl
 have HX1:=Lib.hid hx1
 clear hc hagr hsm hT hJ hx hw hF hall hwl hx1
 go_enter Tryz.func121,Tryz.ntmps121
 go_wp2_with fail
 refine hh.mono ?_
 rintro e w1 ⟨rfl,rfl⟩
 go_wp2_with fail
 refine HWL.out.mono ?_
 rintro e w2 hp
 obtain ⟨b,rfl⟩:=hp.bool
 have HP:=Lib.hid (hp.from HX1.out)
 clear hp
 go_wp2_with fail
 go_ret
 exact HP.out
structure NodeS (lo hi:ByteArray) (op:Bool) (F:Nat→Prop) (h:Nat) (t:PT (h+1)) (pre:List LE) (J:List LE→(Nat→Prop)→World→Prop) (C:Nat→Prop) (W w3:World) (g:Nat) (j:Nat) (new:List LE) (C':Nat→Prop) (Wj wr:World):Prop where
 j_:J (pre++new) C' Wj
 ext:Ext Wj wr
 new_:new.map LE.ent=rangeE lo hi op ((t.2.take j).flatMap (ents h))
 st:St C W wr
 sub:∀ b,C' b→C b∨w3.heap.size≤b
 big:w3.heap.size≤wr.heap.size
 box:Blk wr W.heap.size 176 #[.string lo,.string hi,.bool op]
 rows:∀ o,wr.cell? ⟨g,o,none⟩=w3.cell? ⟨g,o,none⟩
 at_:NodeAt F (h+1) t wr
theorem walk_succ {F:Nat→Prop} {lo hi:ByteArray} {op:Bool} {all:List Ent} {l:Nat} {J:List LE→(Nat→Prop)→World→Prop} {Jx:List LE→World→Prop} (hT:Takes Tryz.prog l encE (ScanG all) J Jx) {h:Nat}
  (ih:∀ (t:PT h) (pre:List LE) (rest:List Ent) (C:Nat→Prop) (W0 W:World),J pre C W0→Ext W0 W→NodeAt F h t W→(∀ b,F b→¬C b)→OkT h t→Sorted (ents h t)→(ents h t).length≤1000000→all=pre.map LE.ent++(rangeE lo hi op (ents h t)++rest)→
    Calls Tryz.prog 121 #[ptr h t,inV lo hi op,.func (.yield l) #[] #[]] W (WalkPost lo hi op (ents h t) all pre J Jx C W))
  {t:PT (h+1)} {pre:List LE} {rest:List Ent} {C:Nat→Prop} {W0 W:World} (hJ:J pre C W0) (hx:Ext W0 W) (hn:NodeAt F (h+1) t W) (hF:∀ b,F b→¬C b) (ok:OkT (h+1) t) (hs:Sorted (ents (h+1) t)) (hl:(ents (h+1) t).length≤1000000) (hall:all=pre.map LE.ent++(rangeE lo hi op (ents (h+1) t)++rest)) :
  Calls Tryz.prog 121 #[ptr (h+1) t,inV lo hi op,.func (.yield l) #[] #[]] W (WalkPost lo hi op (ents (h+1) t) all pre J Jx C W):=by
 have hlen8:=ok.2.1
 have hlen2:=ok.1
 have hCl:=hT.lt pre C W0 hJ
 have hx1:Ext W (W.alloc (.cells #[.string lo,.string hi,.bool op] 176)):=(Ext.refl W).alloc _ _
 have hb1:=Blk.new W 176 #[.string lo,.string hi,.bool op]
 have hh:=height_any (hn.ext hx1).1
 have hkc:=kids_any (hn.ext hx1).1 (by omega)
 have hhm:h+1<1000000:=Nat.lt_of_lt_of_le (height_lt (h+1) t ok (by show 1≤t.2.length;omega)) hl
 have hne:(((h+1:Nat):Int) == 0)=false:=beq_eq_false_iff_ne.2 (by omega)
 have hne':((h:Int)+1 == 0)=false:=beq_eq_false_iff_ne.2 (by omega)
 have HT:=Lib.hid hT
 have HIH:=Lib.hid ih
 have HJ:=Lib.hid hJ
 have HX:=Lib.hid hx
 have HN:=Lib.hid hn
 have HF:=Lib.hid hF
 have HOK:=Lib.hid ok
 have HS:=Lib.hid hs
 have HL:=Lib.hid hl
 have HALL:=Lib.hid hall
 have HX1:=Lib.hid hx1
 have HB1:=Lib.hid hb1
 have HCL:=Lib.hid hCl
 clear hT ih hJ hx hn hF ok hs hl hall hx1 hb1 hCl
 refine (callsIn_wide (n:=5)).1 ?_
 refine callsIn_of_wp Tryz.func121 rfl trivial ?_ rfl
 simp only [Tryz.ntmps121,List.size_toArray,List.length_cons,List.length_nil,Nat.reduceAdd,Nat.reduceSub,Array.replicate_succ,Array.replicate_zero,List.push_toArray,List.append_toArray,List.nil_append,List.cons_append]
 gi_wp2_with fail
 refine ⟨trivial,?_⟩
 refine (callsIn_wide.2 hh).mono ?_
 rintro e w1 ⟨rfl,rfl⟩
 gi_wp2_with fail
 refine ⟨trivial,?_⟩
 refine (callsIn_wide.2 hkc).mono ?_
 rintro e w3 ⟨sk,rfl,hown,hx3⟩
 have hrd:Rd w3 (Lt w3.heap.size) 1 sk t.2.length (ptrs h t.2):=(Rd.of_own hown).mono fun i hi=>hi.2
 obtain ⟨g,cap,rfl,hbg,hnc,hcm,hfil⟩:=own_block hown (by omega)
 have hgl:=hfil.lt
 have hWg:W.heap.size<g:=by simp at hbg;omega
 have HRD:=Lib.hid hrd
 have HX3:=Lib.hid (HX1.out.trans hx3)
 have HB3:=Lib.hid (HB1.out.ext hx3)
 have hs3:=HX3.out.size
 have hs0:=HX.out.size
 clear hown hrd hx3 hfil hkc hh HB1 HX1
 gi_wp2_with fail
 gi_loopw [19] (fun v wr=>∃ (j:Nat) (new:List LE) (C':Nat→Prop) (Wj:World),v=.int .i64 j∧j≤t.2.length∧NodeS lo hi op F h t pre J C W w3 g j new C' Wj wr) (fun v _=>t.2.length - (intOf v).toNat)
 case atStart=>exact ⟨0,[],C,W0,rfl,Nat.zero_le _,⟨by rw [List.append_nil];exact HJ.out,HX.out.trans HX3.out,rfl,HX3.out.st _,fun b hb=>.inl hb,Nat.le_refl _,HB3.out,fun _=>rfl,HN.out.ext HX3.out⟩⟩
 obtain ⟨j,new,C',Wj,rfl,hj,hS⟩:=hrel
 have HSN:=Lib.hid hS
 clear hS
 by_cases hlt:j<t.2.length
 ·obtain ⟨kid,hkid⟩:∃ kid,t.2[j]? = some kid:=⟨_,List.getElem?_eq_getElem hlt⟩
  obtain ⟨b,o',hba,-,-,-,hbc⟩:=HRD.out.ptr_at hkid
  obtain ⟨rfl,rfl⟩:g=b∧0=o':=by simpa using hba
  have kc:wr.cell? ⟨g,j,none⟩=some (ptr h kid):=by rw [HSN.out.rows];simpa using hbc
  have hjl:(j:Int)<(t.2.length:Int):=by omega
  have hkm:=List.mem_of_getElem? hkid
  have hkn:NodeAt F h kid wr:=⟨HSN.out.at_.1.2.choose_spec.2.2 kid hkm,HSN.out.at_.2⟩
  have hks:Sorted (ents h kid):=kid_sorted HS.out kid hkm
  have hmid:=take_mid hkid
  have hent:ents (h+1) t=(t.2.take j).flatMap (ents h)++(ents h kid++(t.2.drop (j+1)).flatMap (ents h)):=by
   show t.2.flatMap (ents h)=_
   conv=>lhs;rw [hmid]
   simp only [List.flatMap_append,List.flatMap_cons]
  have hlk:(ents h kid).length≤1000000:=by have:=HL.out;rw [hent] at this;simp only [List.length_append] at this;omega
  have hsnoc:(t.2.take (j+1)).flatMap (ents h)=(t.2.take j).flatMap (ents h)++ents h kid:=by rw [List.take_add_one,hkid];simp
  have HLAST:=Lib.hid (fun W1 (hW:Ext wr W1)=>last_any (hkn.ext hW).1)
  have HFIRST:=Lib.hid (fun W1 (hW:Ext wr W1)=>first_any (hkn.ext hW).1)
  have hbox:=HSN.out.box
  have HSS:=Lib.hid (show ∀ W1,Ext wr W1→W1.cell? ⟨W.heap.size,0,none⟩=some (.string lo)∧W1.cell? ⟨W.heap.size,1,none⟩=some (.string hi)∧W1.cell? ⟨W.heap.size,2,none⟩=some (.bool op) from fun W1 hW=>⟨(hbox.ext hW).cell 0,(hbox.ext hW).cell 1,(hbox.ext hW).cell 2⟩)
  have HKN:=Lib.hid hkn
  have HKS:=Lib.hid hks
  have HENT:=Lib.hid hent
  have HSNOC:=Lib.hid hsnoc
  clear hkid hba hbc hkn hks hmid hent hsnoc hbox
  cases hlb:klt (lastK (ents h kid)) lo with
  | true=>
    have hb1:Op.bytesLess (lastK (ents h kid)).toList lo.toList=true:=hlb
    gi_wp2_with fail
    refine wpIn_wide.2 ?_
    refine wp_region_held_drew (S:=(fun w'=>Ext wr w')) (by kernel_rfl) (((Ext.refl wr).drew)) (fun hHeld=>?_)
    refine heldT 0 (some 24) HSS hHeld ?_
    refine heldT 2 (some 26) HSS hHeld ?_
    refine heldT 3 (some 27) HSS hHeld ?_
    refine held_call (i:=1) (by kernel_rfl) rfl (by rfl) (fun K hK=>?_)
    go_simp
    (refine (HLAST.out _ hHeld).mono ?_;rintro e w5 ⟨rfl,rfl⟩)
    refine hK.out _ _ (hHeld) (fun hHeld=>?_)
    clear hK K
    try simp only [Act.put,List.setIfInBounds_toArray,List.set_cons_zero,List.set_cons_succ]
    refine heldT 4 (some 28) HSS hHeld ?_
    refine heldT 5 (some 23) HSS hHeld ?_
    refine wpAnyH_done (by kernel_rfl) ?_ _
    have HX5:=Lib.hid hHeld
    clear hHeld
    have HS6:=Lib.hid (show NodeS lo hi op F h t pre J C W w3 g (j+1) new C' Wj wr.drew from
     ⟨HSN.out.j_,HSN.out.ext.trans HX5.out,by rw [HSN.out.new_,HSNOC.out,rangeE_app,rangeE_below (lt_of_last HKS.out hlb),List.append_nil],HSN.out.st.ext HX5.out,HSN.out.sub,by have:=HX5.out.size;have:=HSN.out.big;omega,HSN.out.box.ext HX5.out,fun o=>(HX5.out.cell (by have:=HSN.out.big;omega)).trans (HSN.out.rows o),HSN.out.at_.ext HX5.out⟩)
    generalize wr.drew=w6 at *
    gi_wp2_with fail
    go_roundw
    case rel=>exact ⟨j+1,new,C',Wj,by go_num,hlt,HS6.out⟩
    simp [intOf];omega
  | false=>
    have hb1:Op.bytesLess (lastK (ents h kid)).toList lo.toList=false:=hlb
    gi_wp2_with fail
    refine wpIn_wide.2 ?_
    refine wp_region_held_drew (S:=(fun w'=>Ext wr w')) (by kernel_rfl) (((Ext.refl wr).drew)) (fun hHeld=>?_)
    refine heldT 0 (some 24) HSS hHeld ?_
    refine heldT 2 (some 26) HSS hHeld ?_
    refine heldT 3 (some 27) HSS hHeld ?_
    refine held_call (i:=1) (by kernel_rfl) rfl (by rfl) (fun K hK=>?_)
    go_simp
    (refine (HLAST.out _ hHeld).mono ?_;rintro e w5 ⟨rfl,rfl⟩)
    refine hK.out _ _ (hHeld) (fun hHeld=>?_)
    clear hK K
    try simp only [Act.put,List.setIfInBounds_toArray,List.set_cons_zero,List.set_cons_succ]
    refine heldT 4 (some 28) HSS hHeld ?_
    refine heldT 5 (some 23) HSS hHeld ?_
    refine wpAnyH_done (by kernel_rfl) ?_ _
    cases hend:endI hi op (firstK (ents h kid)) with
    | true=>
      have HEND:=Lib.hid (show ∀ W1,Calls Tryz.prog 172 #[inV lo hi op,.string (firstK (ents h kid))] W1 fun e w'=>e=.returned (.bool true)∧Ext W1 w' from fun W1=>by have:=ends_any W1 lo hi op (firstK (ents h kid));rwa [hend] at this)
      gi_wp2_with fail
      refine wpIn_wide.2 ?_
      refine wp_region_held_drew (S:=(fun w'=>Ext wr w')) (by kernel_rfl) ((hHeld.drew)) (fun hHeld=>?_)
      refine heldT 0 (some 30) HSS hHeld ?_
      refine heldT 1 (some 31) HSS hHeld ?_
      refine held_call (i:=2) (by kernel_rfl) rfl (by rfl) (fun K hK=>?_)
      go_simp
      (refine (HFIRST.out _ hHeld).mono ?_;rintro e w6 ⟨rfl,rfl⟩)
      refine hK.out _ _ (hHeld) (fun hHeld=>?_)
      clear hK K
      try simp only [Act.put,List.setIfInBounds_toArray,List.set_cons_zero,List.set_cons_succ]
      refine held_call (i:=3) (by kernel_rfl) rfl (by rfl) (fun K hK=>?_)
      go_simp
      (refine (HEND.out _).mono ?_;rintro e w7 ⟨rfl,hx7⟩)
      refine hK.out _ _ (hHeld.trans hx7) (fun hHeld=>?_)
      clear hK K
      try simp only [Act.put,List.setIfInBounds_toArray,List.set_cons_zero,List.set_cons_succ]
      refine heldT 4 (some 29) HSS hHeld ?_
      refine wpAnyH_done (by kernel_rfl) ?_ _
      have HX7:=Lib.hid hHeld
      clear hHeld hx7
      gi_wp2_with fail
      go_ret
      have hne0:=kid_ne HOK.out hkm
      obtain ⟨x,hxm⟩:=List.exists_mem_of_ne_nil _ hne0
      have hxe:=end_of_first HKS.out hend x hxm
      refine .inl ⟨new,C',Wj,.inr ⟨rfl,x,by rw [HENT.out];simp [hxm],hxe⟩,HSN.out.j_,HSN.out.ext.trans HX7.out,?_,HSN.out.st.ext HX7.out,fun b hb=>(HSN.out.sub b hb).imp_right fun h=>by omega⟩
      have hsd:=HS.out
      rw [HENT.out] at hsd
      rw [HSN.out.new_,HENT.out,rangeE_app,rangeE_app,rangeE_above (end_of_first HKS.out hend),rangeE_behind (A:=ents h kid) (sorted_app hsd).2.1 ⟨x,hxm,hxe⟩,List.append_nil,List.append_nil]
    | false=>
      have HEND:=Lib.hid (show ∀ W1,Calls Tryz.prog 172 #[inV lo hi op,.string (firstK (ents h kid))] W1 fun e w'=>e=.returned (.bool false)∧Ext W1 w' from fun W1=>by have:=ends_any W1 lo hi op (firstK (ents h kid));rwa [hend] at this)
      gi_wp2_with fail
      refine wpIn_wide.2 ?_
      refine wp_region_held_drew (S:=(fun w'=>Ext wr w')) (by kernel_rfl) ((hHeld.drew)) (fun hHeld=>?_)
      refine heldT 0 (some 30) HSS hHeld ?_
      refine heldT 1 (some 31) HSS hHeld ?_
      refine held_call (i:=2) (by kernel_rfl) rfl (by rfl) (fun K hK=>?_)
      go_simp
      (refine (HFIRST.out _ hHeld).mono ?_;rintro e w6 ⟨rfl,rfl⟩)
      refine hK.out _ _ (hHeld) (fun hHeld=>?_)
      clear hK K
      try simp only [Act.put,List.setIfInBounds_toArray,List.set_cons_zero,List.set_cons_succ]
      refine held_call (i:=3) (by kernel_rfl) rfl (by rfl) (fun K hK=>?_)
      go_simp
      (refine (HEND.out _).mono ?_;rintro e w7 ⟨rfl,hx7⟩)
      refine hK.out _ _ (hHeld.trans hx7) (fun hHeld=>?_)
      clear hK K
      try simp only [Act.put,List.setIfInBounds_toArray,List.set_cons_zero,List.set_cons_succ]
      refine heldT 4 (some 29) HSS hHeld ?_
      refine wpAnyH_done (by kernel_rfl) ?_ _
      have HX7:=Lib.hid hHeld
      obtain ⟨q0,q1,q2⟩:=HSS.out w7 hHeld
      have hFC:∀ b,F b→¬C' b:=fun b hb h=>by
       rcases HSN.out.sub b h with h | h
       ·exact HF.out b hb h
       have:=(HN.out.2 b hb);omega
      have hic:=HIH.out kid (pre++new) (rangeE lo hi op ((t.2.drop (j+1)).flatMap (ents h))++rest) C' Wj w7 HSN.out.j_ (HSN.out.ext.trans HX7.out) (HKN.out.ext HX7.out) hFC (HOK.out.2.2 kid hkm).1 HKS.out hlk (by
       rw [HALL.out,HENT.out,List.map_append,HSN.out.new_,rangeE_app,rangeE_app]
       simp only [List.append_assoc])
      have HIC:=Lib.hid hic
      have hs7:=HX7.out.size
      clear hHeld hx7 hFC hic
      gi_wp2_with fail
      refine ⟨trivial,?_⟩
      refine (callsIn_wide.2 HIC.out).mono ?_
      rintro e w8 (⟨new',C8,W8,hb8,hj8,hx8,hn8,hst8,hsub8⟩ | ⟨rfl,hst8,pre',W8,hj8,hx8,hp8⟩)
      ·have hst:St C W w8:=(HSN.out.st.ext HX7.out).then hst8 fun b hb h=>by
        rcases HSN.out.sub b h with h | h
        ·exact h
        omega
       have hsub:∀ b,C8 b→C b∨w3.heap.size≤b:=fun b hb=>by
        rcases hsub8 b hb with h | h
        ·exact HSN.out.sub b h
        exact .inr (by have:=HSN.out.big;omega)
       have hj8':J (pre++(new++new')) C8 W8:=by rw [←List.append_assoc];exact hj8
       have hn8':(new++new').map LE.ent=rangeE lo hi op ((t.2.take (j+1)).flatMap (ents h)):=by rw [List.map_append,HSN.out.new_,hn8,HSNOC.out,rangeE_app]
       rcases hb8 with rfl | ⟨rfl,x,hxm,hxe⟩
       ·have hnC:∀ b,b<w3.heap.size→W.heap.size≤b→¬C' b:=fun b h1 h2 h=>by
         rcases HSN.out.sub b h with h | h
         ·have:=HCL.out b h;omega
         omega
        have HS8:=Lib.hid (show NodeS lo hi op F h t pre J C W w3 g (j+1) (new++new') C8 W8 w8 from
         ⟨hj8',hx8,hn8',hst,hsub,by have:=hst8.size;have:=HSN.out.big;omega,hst8.blk (HSN.out.box.ext HX7.out) (hnC _ (by omega) (Nat.le_refl _)),
           fun o=>(hst8.cell (by have:=HSN.out.big;omega) (hnC _ hgl (by omega))).trans ((HX7.out.cell (by have:=HSN.out.big;omega)).trans (HSN.out.rows o)),
           ⟨(HSN.out.at_.ext HX7.out).1.agree (hst8.agree.mono fun b hb=>⟨by have:=(HSN.out.at_.ext HX7.out).2 b hb;omega,fun h=>by
             rcases HSN.out.sub b h with h | h
             ·exact HF.out b hb h
             have:=(HN.out.2 b hb);omega⟩),fun b hb=>by have:=hst8.size;have:=HN.out.2 b hb;have:=HSN.out.big;omega⟩⟩)
        clear hst hsub hj8' hn8' hj8 hx8 hn8 hst8 hsub8 hnC
        gi_wp2_with fail
        go_roundw
        case rel=>exact ⟨j+1,_,C8,W8,by go_num,hlt,HS8.out⟩
        simp [intOf];omega
       clear hst8 hsub8 hn8 hj8
       gi_wp2_with fail
       go_ret
       refine .inl ⟨new++new',C8,W8,.inr ⟨rfl,x,by rw [HENT.out];simp [hxm],hxe⟩,hj8',hx8,?_,hst,fun b hb=>(hsub b hb).imp_right fun h=>by omega⟩
       have hsd:=HS.out
       rw [HENT.out] at hsd
       rw [hn8',HSNOC.out,HENT.out,rangeE_app,rangeE_app,rangeE_app,rangeE_behind (A:=ents h kid) (sorted_app hsd).2.1 ⟨x,hxm,hxe⟩,List.append_nil]
      gi_wp2_with fail
      go_ret
      exact .inr ⟨rfl,(HSN.out.st.ext HX7.out).then hst8 (fun b hb h=>by
       rcases HSN.out.sub b h with h | h
       ·exact h
       omega),pre',W8,hj8,hx8,hp8⟩
 obtain rfl:j=t.2.length:=by omega
 gi_wp2_with fail
 go_ret
 refine .inl ⟨new,C',Wj,.inl rfl,HSN.out.j_,HSN.out.ext,?_,HSN.out.st,fun b hb=>(HSN.out.sub b hb).imp_right fun h=>by omega⟩
 rw [HSN.out.new_,List.take_length];rfl
theorem walk_any {F:Nat→Prop} {lo hi:ByteArray} {op:Bool} {all:List Ent} {l:Nat} {J:List LE→(Nat→Prop)→World→Prop} {Jx:List LE→World→Prop} (hT:Takes Tryz.prog l encE (ScanG all) J Jx) :
  ∀ (h:Nat) (t:PT h) (pre:List LE) (rest:List Ent) (C:Nat→Prop) (W0 W:World),J pre C W0→Ext W0 W→NodeAt F h t W→(∀ b,F b→¬C b)→OkT h t→Sorted (ents h t)→(ents h t).length≤1000000→all=pre.map LE.ent++(rangeE lo hi op (ents h t)++rest)→
   Calls Tryz.prog 121 #[ptr h t,inV lo hi op,.func (.yield l) #[] #[]] W (WalkPost lo hi op (ents h t) all pre J Jx C W)
 | 0,t,pre,rest,C,W0,W,hJ,hx,hn,hF,ok,hs,_,hall=>
   walk_leaf (F:=F) (leafC_node ok hs) (fun W W' a ha hz=>⟨a.1.agree ha,fun b hb=>Nat.lt_of_lt_of_le (a.2 b hb) hz⟩) (keys_small hn.1) hT hJ hx hn (fun b hb=>⟨hn.2 b hb,hF b hb⟩) hall
 | h+1,t,pre,rest,C,W0,W,hJ,hx,hn,hF,ok,hs,hl,hall=>
   walk_succ hT (fun t pre rest C W0 W a b c d e f g i=>walk_any hT h t pre rest C W0 W a b c d e f g i) hJ hx hn hF ok hs hl hall
theorem walkR_any {F:Nat→Prop} {lo hi:ByteArray} {op:Bool} {l:Nat} {J:List LE→(Nat→Prop)→World→Prop} {Jx:List LE→World→Prop} {T:RT} (hT:Takes Tryz.prog l encE (ScanG (rangeE lo hi op (entsT T))) J Jx)
  {C:Nat→Prop} {W0 W:World} (hJ:J [] C W0) (hx:Ext W0 W) (hn:TreeAt F T W) (hF:∀ b,F b→¬C b) (ok:OkR T) (hl:(entsT T).length≤1000000) :
  Calls Tryz.prog 121 #[rootV T,inV lo hi op,.func (.yield l) #[] #[]] W (WalkPost lo hi op (entsT T) (rangeE lo hi op (entsT T)) [] J Jx C W):=by
 match T,hn,ok,hl with
 | none,_,_,_=>exact walk_leaf (F:=fun _=>False) (rest:=[]) leafC_nil (fun _ _ _ _ _=>trivial) (fun e he=>by cases he) hT hJ hx trivial (fun b hb=>hb.elim) (by simp [entsT])
 | some ⟨h,t⟩,hn,ok,hl=>exact walk_any hT h t [] [] C W0 W hJ hx hn hF ok.1 ok.2.2 hl (by simp [entsT])
end Go.Proofs.YtechahocffcbpaaGreatDoor
namespace Go.Proofs.YtechahocffcbpaaGreatDoor
open Go.RowKit Go.Shelf
set_option linter.unusedVariables false
set_option linter.unusedSimpArgs false
structure RangeB (w:World) (B:Nat) (T:RT) (lo hi:ByteArray) (op:Bool):Prop where
 bt:Blk w B 25 #[rootV T]
 bl:Blk w (B+1) 9 #[.string lo]
 bh:Blk w (B+2) 9 #[.string hi]
 bo:Blk w (B+3) 4 #[.bool op]
def RangeK (F:Nat→Prop) (B:Nat) (b:Nat):Prop:=F b∨(B≤b∧b<B+4)
abbrev rangeL (B:Nat):Array Value:=#[.pointer (some ⟨B,0,none⟩),.pointer (some ⟨B+1,0,none⟩),.pointer (some ⟨B+2,0,none⟩),.pointer (some ⟨B+3,0,none⟩)]
theorem RangeB.agree {w w':World} {B:Nat} {T:RT} {lo hi:ByteArray} {op:Bool} (h:RangeB w B T lo hi op) {F:Nat→Prop} (ha:Agree F w w') (hF:∀ b,B≤b→b<B+4→F b):RangeB w' B T lo hi op:=
 ⟨h.bt.agree ha (hF _ (by omega) (by omega)),h.bl.agree ha (hF _ (by omega) (by omega)),h.bh.agree ha (hF _ (by omega) (by omega)),h.bo.agree ha (hF _ (by omega) (by omega))⟩
theorem RangeB.lt {w:World} {B:Nat} {T:RT} {lo hi:ByteArray} {op:Bool} (h:RangeB w B T lo hi op):B+3<w.heap.size:=h.bo.lt
theorem WalkPost.st {lo hi:ByteArray} {op:Bool} {es all:List Ent} {pre:List LE} {J:List LE→(Nat→Prop)→World→Prop} {Jx:List LE→World→Prop} {C:Nat→Prop} {W:World} {e:Ending} {W':World} (h:WalkPost lo hi op es all pre J Jx C W e W'):St C W W':=by
 rcases h with ⟨_,_,_,_,_,_,_,h5,_⟩ | ⟨_,h5,_⟩ <;> exact h5
theorem range_seq {w0:World} {F:Nat→Prop} {T:RT} {B:Nat} {lo hi:ByteArray} {op:Bool} (hT:TreeAt F T w0) (ok:OkR T) (hl:(entsT T).length≤1000000) (hB:RangeB w0 B T lo hi op) :
  SeqC Tryz.prog 120 (rangeL B) encE (RangeK F B) (ScanG (rangeE lo hi op (entsT T))) (fun xs=>xs.map LE.ent=rangeE lo hi op (entsT T)) (fun pre=>pre.map LE.ent <+: rangeE lo hi op (entsT T)) w0:=by
 intro l J Jx C W hTk hA hsz hCK hJ
 have hBW:RangeB W B T lo hi op:=hB.agree hA fun b h1 h2=>.inr ⟨h1,h2⟩
 have hTW:TreeAt F T W:=⟨hT.1.agree (hA.mono fun b hb=>.inl hb),fun b hb=>Nat.lt_of_lt_of_le (hT.2 b hb) hsz⟩
 have hwk:=fun W1 (hW:Ext W W1)=>walkR_any hTk hJ hW (hTW.ext hW) (fun b hb h=>hCK b h (.inl hb)) ok hl
 have hCl:=hTk.lt [] C W hJ
 obtain ⟨p,hp⟩:=rootV_ptr T
 rw [hp] at hwk
 have hbt:=hBW.bt
 rw [hp] at hbt
 have HSS:=Lib.hid (show ∀ W1,St C W W1→W1.cell? ⟨B,0,none⟩=some (.pointer p)∧W1.cell? ⟨B+1,0,none⟩=some (.string lo)∧W1.cell? ⟨B+2,0,none⟩=some (.string hi)∧W1.cell? ⟨B+3,0,none⟩=some (.bool op) from fun W1 hW=>
  ⟨(hW.blk hbt fun h=>hCK _ h (.inr ⟨by omega,by omega⟩)).cell 0,(hW.blk hBW.bl fun h=>hCK _ h (.inr ⟨by omega,by omega⟩)).cell 0,(hW.blk hBW.bh fun h=>hCK _ h (.inr ⟨by omega,by omega⟩)).cell 0,(hW.blk hBW.bo fun h=>hCK _ h (.inr ⟨by omega,by omega⟩)).cell 0⟩)
 have HWK:=Lib.hid hwk
 clear hTk hA hsz hCK hJ hBW hTW hwk hp hT ok hl hB hbt hCl
 show Calls _ _ #[.func (.yield l) #[] #[],.pointer (some ⟨B,0,none⟩),.pointer (some ⟨B+1,0,none⟩),.pointer (some ⟨B+2,0,none⟩),.pointer (some ⟨B+3,0,none⟩)] W _
 go_enter Tryz.func120,Tryz.ntmps120
 go_wp2_with fail
 refine wp_region_held_drew (S:=(fun w'=>St C W w')) (by kernel_rfl) (((St.refl C W).drew)) (fun hHeld=>?_)
 refine heldT 0 (some 6) HSS hHeld ?_
 refine heldT 2 (some 8) HSS hHeld ?_
 refine heldT 3 (some 9) HSS hHeld ?_
 refine heldT 4 (some 10) HSS hHeld ?_
 refine heldT 5 (some 11) HSS hHeld ?_
 refine heldT 6 (some 12) HSS hHeld ?_
 refine held_call (i:=1) (by kernel_rfl) rfl (by rfl) (fun K hK=>?_)
 go_simp
 (refine (treeRoot_any _ _).mono ?_;rintro e w1 ⟨rfl,hx1⟩;replace hx1:=((Ext.refl W).drew).trans hx1;have HX1:=Lib.hid hx1)
 refine hK.out _ _ (hx1.st C) (fun hHeld=>?_)
 clear hK K
 try simp only [Act.put,List.setIfInBounds_toArray,List.set_cons_zero,List.set_cons_succ]
 refine held_call (i:=7) (by kernel_rfl) rfl (by rfl) (fun K hK=>?_)
 go_simp
 (refine (HWK.out _ HX1.out).mono ?_;intro e w2 hp2;obtain ⟨b2,rfl⟩:=hp2.bool;have HP2:=Lib.hid (hp2.from HX1.out);clear hp2)
 refine hK.out _ _ (HP2.out.st) (fun hHeld=>?_)
 clear hK K
 try simp only [Act.put,List.setIfInBounds_toArray,List.set_cons_zero,List.set_cons_succ]
 refine wpAnyH_done (by kernel_rfl) ?_ _
 go_wp2_with fail
 go_end0
 refine ⟨⟨_,rfl⟩,?_⟩
 rcases HP2.out with ⟨new,C',W0,-,h2,h3,h4,-,-⟩ | ⟨-,-,pre',W0,h2,h3,h4⟩
 ·exact .inl ⟨new,C',W0,h4,h2,h3⟩
 exact .inr ⟨pre',W0,h4,h2,h3⟩
def RangePost (T:RT) (lo hi:ByteArray) (op:Bool) (w:World) (e:Ending) (w':World):Prop:=
 ∃ B,e=.returned (.func (.func 120) #[] (rangeL B))∧Ext w w'∧RangeB w' B T lo hi op∧w.heap.size≤B
theorem range_any (w:World) (T:RT) (lo hi:ByteArray) (op:Bool):Calls Tryz.prog 81 #[treeV T,.string lo,.string hi,.bool op] w (RangePost T lo hi op w):=by
 obtain ⟨p,hp⟩:=rootV_ptr T
 rw [treeV,hp]
 go_enter Tryz.func81,Tryz.ntmps81
 go_wp2_with fail
 go_ret
 obtain ⟨hx,-,b0,b1,b2,b3⟩:=four_blocks w 25 9 9 4 #[.pointer p] #[.string lo] #[.string hi] #[.bool op] _ rfl
 exact ⟨w.heap.size,rfl,hx,⟨by rw [hp];exact b0,b1,b2,b3⟩,Nat.le_refl _⟩
end Go.Proofs.YtechahocffcbpaaGreatDoor
namespace Go.Proofs.YtechahocffcbpaaGreatDoor
open Go.RowKit
set_option linter.unusedVariables false
set_option linter.unusedSimpArgs false
theorem Bw.trans {a b c:World} (h:Below a.heap.size a b) (k:Below b.heap.size b c):Below a.heap.size a c:=h.trans (k.mono h.size)
theorem Bw.ext {a b c:World} (h:Below a.heap.size a b) (k:Ext b c):Below a.heap.size a c:=Bw.trans h k.below
theorem toList_eq' (p:ByteArray):p.toList=p.data.toList:=ByteArray.toList_eq p
theorem size_toList (p:ByteArray):p.toList.length=p.size:=by rw [toList_eq',Array.length_toList];rfl
theorem at_toList {p:ByteArray} {i:Nat} (h:i<p.size):p.toList[i]? = some p[i]:=by
 rw [toList_eq',Array.getElem?_toList]
 exact Array.getElem?_eq_getElem h
def EndPost (p:ByteArray) (w:World) (e:Ending) (w':World):Prop:=
 Below w.heap.size w w'∧∃ (end_:ByteArray) (ok:Bool),e=.returned (.tuple #[.string end_,.bool ok])∧(match endL p.toList with | none=>ok=false∧end_=ByteArray.empty | some q=>ok=true∧end_.toList=q)
theorem mk_toList (l:List UInt8):(ByteArray.mk l.toArray).toList=l:=by rw [toList_eq']
theorem split_last {p:ByteArray} {i n:Nat} (h:i<p.size) (hr:p.toList.drop (i+1)=List.replicate n 255):p.toList=p.toList.take i++p[i] :: List.replicate n 255:=by
 have h1:=at_toList h
 obtain ⟨h2,h3⟩:=List.getElem?_eq_some_iff.1 h1
 conv=>lhs;rw [←List.take_append_drop i p.toList,List.drop_eq_getElem_cons h2,h3,hr]
theorem extract_toList (p:ByteArray) (k:Nat):(p.extract 0 k).toList=p.toList.take k:=by
 rw [toList_eq',toList_eq',ByteArray.data_extract]
 simp
theorem bytesRow_at {s:ByteArray} {cap i:Nat} {b:UInt8} (h:s.toList[i]? = some b):(bytesRow s cap)[i]? = some (.int .u8 (b.toNat:Int)):=by
 rw [toList_eq',Array.getElem?_toList] at h
 have hi:=(Array.getElem?_eq_some_iff.1 h).1
 unfold bytesRow
 rw [Array.getElem?_append_left (by simpa using hi),Array.getElem?_map,h];rfl
theorem bytesRow_size (s:ByteArray) (cap:Nat):s.size≤(bytesRow s cap).size:=by
 unfold bytesRow
 rw [Array.size_append,Array.size_map]
 exact Nat.le_add_right _ _
theorem bytes_laid (w:World) (s:ByteArray) (cap:Nat) (t:TypeId) {i:Nat} {b c:UInt8} (hb:s.toList[i]? = some b) (W:World) (hW:W=(w.alloc (.cells (bytesRow s cap) t ((bytesRow s cap).size,(bytesRow s cap).size+1))).drew) :
  W.cell? ⟨w.heap.size,i,none⟩=some (.int .u8 (b.toNat:Int))∧W.frozen? ⟨w.heap.size,i,none⟩=false∧w.heap.size<W.heap.size∧Below w.heap.size w W∧
   ∀ j (x:UInt8),(s.toList.set i c)[j]? = some x→(W.setCell ⟨w.heap.size,i,none⟩ (.int .u8 (c.toNat:Int))).cell? ⟨w.heap.size,j,none⟩=some (.int .u8 (x.toNat:Int)):=by
 have hr:∀ j,W.cell? ⟨w.heap.size,j,none⟩=(bytesRow s cap)[j]?:=fun j=>by
  rw [hW];exact World.cell?_alloc_mark w _ _ _ j
 have hi:i<s.size:=by
  have:=(List.getElem?_eq_some_iff.1 hb).1
  rwa [size_toList] at this
 have hh:W.heap[w.heap.size]? = some (.cells (bytesRow s cap) t ((bytesRow s cap).size,(bytesRow s cap).size+1)):=by
  rw [hW];exact heap_alloc_new w _
 refine ⟨by rw [hr];exact bytesRow_at hb,?_,by rw [hW];show w.heap.size<(w.alloc _).heap.size;rw [World.size_alloc];exact Nat.lt_succ_self _,by rw [hW];exact ((Below.refl _ w).alloc (Nat.le_refl _) _).drew,fun j x hx=>?_⟩
 ·unfold World.frozen?
  rw [hh]
  have:=bytesRow_size s cap
  simp;omega
 by_cases hj:j=i
 ·subst hj
  rw [List.getElem?_set_self (List.getElem?_eq_some_iff.1 hb).1] at hx
  cases hx
  exact World.cell?_setCell_same W _ _ ((hr j).trans (bytesRow_at hb))
 rw [List.getElem?_set_ne (fun e=>hj e.symm)] at hx
 rw [cell_set_other _ _ _ _ _ (fun e=>hj e.symm),hr]
 exact bytesRow_at hx
theorem keysEnd_any (w:World) (p:ByteArray) (hp:p.size≤maxLen):Calls Tryz.prog 80 #[.string p] w (EndPost p w):=by
 unfold maxLen at hp
 have hcv:∀ (s:ByteArray) (W:World),(convert 9 140 (.string s)).run Tryz.prog W=.ok (.slice (some ⟨W.heap.size,0,none⟩) s.size (grownCap W s.size 0 5)) (W.drew.alloc (.cells (bytesRow s (grownCap W s.size 0 5)) 5 ((bytesRow s (grownCap W s.size 0 5)).size,(bytesRow s (grownCap W s.size 0 5)).size+1))):=
  fun s W=>run_bytes_of_string W 9 140 5 s Tryz.underlying9 Tryz.underlying140 Tryz.underlying5
 have hw0:wrap64 ((p.size:Int) - 1)=(p.size:Int) - 1:=by unfold wrap64;omega
 go_enter Tryz.func80,Tryz.ntmps80
 go_wp2_with fail
 go_step3
 go_wp2_with fail
 go_step3
 go_wp2_with fail
 go_loopw [4] (fun v wr=>wr=w∧((v=.int .i64 (-1)∧endL p.toList=none)∨∃ i,i<p.size∧v=.int .i64 (i:Int)∧p.toList.drop (i+1)=List.replicate (p.size - (i+1)) 255)) (fun v _=>(intOf v+1).toNat)
 case atStart=>
  refine ⟨rfl,?_⟩
  by_cases h0:p.size=0
  ·refine .inl ⟨by rw [h0];rfl,?_⟩
   have:p.toList=[]:=List.eq_nil_of_length_eq_zero (by rw [size_toList];exact h0)
   rw [this];rfl
  refine .inr ⟨p.size - 1,by omega,by congr 1;omega,?_⟩
  rw [List.drop_eq_nil_of_le (by rw [size_toList];omega),show p.size - (p.size - 1+1)=0 from by omega];rfl
 obtain ⟨rfl,⟨rfl,hn⟩ | ⟨i,hi,rfl,hr⟩⟩:=hrel
 ·have HN:=Lib.hid hn
  clear hn
  go_wp2_with fail
  rw [Exit.noGoto_ret]
  refine bodyPost_ret (v:=.tuple #[.string ByteArray.empty,.bool false]) (by simp [results,Tryz.results80,go_sem];rfl) rfl ?_
  exact ⟨Below.refl _ _,ByteArray.empty,false,rfl,by rw [HN.out];exact ⟨rfl,rfl⟩⟩
 have hi':(i:Int)<(p.size:Int):=by omega
 have hi0:(0:Int)≤(i:Int):=by omega
 have hsp:=split_last hi hr
 have HSP:=Lib.hid hsp
 have HR:=Lib.hid hr
 have hw1:wrap64 ((i:Int) - 1)=(i:Int) - 1:=by unfold wrap64;omega
 clear hsp hr
 by_cases hff:p[i]=255
 ·have hb1:(((p[i].toNat:Nat):Int) != 255)=false:=by rw [hff];rfl
  go_wp2_with fail
  go_roundw
  case rel=>
   refine ⟨trivial,?_⟩
   cases i with
   | zero=>
     refine .inl ⟨rfl,?_⟩
     rw [HSP.out,hff,List.take_zero,List.nil_append,←List.replicate_succ]
     exact endL_ff _
   | succ i=>
     refine .inr ⟨i,by omega,by simp,?_⟩
     have h2:p.toList.drop (i+1)=p[i+1] :: p.toList.drop (i+1+1):=by
      have h1:=at_toList hi
      obtain ⟨h2,h3⟩:=List.getElem?_eq_some_iff.1 h1
      rw [List.drop_eq_getElem_cons h2,h3]
     rw [h2,HR.out,hff,←List.replicate_succ]
     congr 1;omega
  simp [intOf]
 have hb1:(((p[i].toNat:Nat):Int) != 255)=true:=bne_iff_ne.2 fun e=>hff (UInt8.toNat_inj.1 (by show p[i].toNat=255;omega))
 have hmin:min (i+1) p.size=i+1:=by omega
 have hexs:(p.extract 0 (i+1)).size=i+1:=by rw [←size_toList,extract_toList,List.length_take,size_toList];omega
 have hlt256:p[i].toNat<256:=p[i].toNat_lt
 have hw8:IntKind.u8.wrap ((p[i].toNat:Int)+1)=(p[i].toNat:Int)+1:=by
  have:p[i].toNat≠255:=fun e=>hff (UInt8.toNat_inj.1 e)
  rw [IntKind.wrap_u8];omega
 obtain ⟨q,hq⟩:∃ q,q=(p.extract 0 (i+1)).toList.set i (p[i]+1):=⟨_,rfl⟩
 have hext:(p.extract 0 (i+1)).toList=p.toList.take i++[p[i]]:=by
  rw [extract_toList,List.take_add_one,at_toList hi];rfl
 have htl:(p.toList.take i).length=i:=by rw [List.length_take,size_toList];omega
 have hqe:q=p.toList.take i++[p[i]+1]:=by
  rw [hq,hext,List.set_append_right _ _ (by omega),htl,Nat.sub_self];rfl
 have hql:q.length=i+1:=by rw [hqe,List.length_append,htl];rfl
 have hend:endL p.toList=some q:=by rw [HSP.out,endL_at hff,hqe]
 have hib:(p.extract 0 (i+1)).toList[i]? = some p[i]:=by rw [hext,List.getElem?_append_right (by omega),htl,Nat.sub_self];rfl
 have hbn:((p[i]+1).toNat:Int)=(p[i].toNat:Int)+1:=by
  have h1:(p[i]+1).toNat=p[i].toNat+1:=by
   rw [UInt8.toNat_add]
   have:p[i].toNat≠255:=fun e=>hff (UInt8.toNat_inj.1 e)
   show (p[i].toNat+1) % 256=_
   omega
  omega
 have hcb:∀ W:World,(∀ j (hj:j<q.length),W.cell? ((⟨wr.heap.size,0,none⟩:Addr).add j)=some (.int .u8 (q[j].toNat:Int)))→∀ cap,(convert 140 9 (.slice (some ⟨wr.heap.size,0,none⟩) (i+1) cap)).run Tryz.prog W=.ok (.string ⟨q.toArray⟩) W:=fun W h cap=>by
  have:=run_convert_bytes_back (P:=Tryz.prog) W 140 9 5 ⟨wr.heap.size,0,none⟩ cap q Tryz.underlying140 Tryz.underlying5 Tryz.underlying9 h
  rwa [hql] at this
 have HCB:=Lib.hid hcb
 have HEND:=Lib.hid hend
 have HQ:=Lib.hid hq
 have HIB:=Lib.hid hib
 have HBN:=Lib.hid hbn
 clear hq hext htl hqe hql hend hib hbn hcb
 go_upto_region 8 with (fail)
 generalize hW2:World.drew _=W2
 obtain ⟨c2,f2,l2,hbl2,hset⟩:=bytes_laid wr (p.extract 0 (i+1)) _ _ (c:=p[i]+1) HIB.out W2 hW2.symm
 rw [HBN.out,←HQ.out] at hset
 have HS2:=Lib.hid hset
 have HBL:=Lib.hid hbl2
 clear hW2 hset hbl2 hcv
 go_upto_region 9 with (fail)
 have hcb:=HCB.out (W2.setCell ⟨wr.heap.size,i,none⟩ (.int .u8 ((p[i].toNat:Int)+1))) (fun j hj=>by
  rw [add_at,Nat.zero_add]
  exact HS2.out j _ (List.getElem?_eq_getElem hj))
 go_wp2_with fail
 rw [Exit.noGoto_ret]
 refine bodyPost_ret (v:=.tuple #[.string ⟨q.toArray⟩,.bool true]) (by simp [results,Tryz.results80,go_sem]) rfl ?_
 exact ⟨HBL.out.setCell (p:=⟨wr.heap.size,i,none⟩) (Nat.le_refl _) _,_,_,rfl,by rw [HEND.out];exact ⟨rfl,mk_toList q⟩⟩
end Go.Proofs.YtechahocffcbpaaGreatDoor
namespace Go.Proofs.YtechahocffcbpaaGreatDoor
open Go.RowKit Go.Shelf
set_option linter.unusedVariables false
set_option linter.unusedSimpArgs false
def prefixE (p:ByteArray) (es:List Ent):List Ent:=es.filter fun e=>p.toList.isPrefixOf e.1.toList
theorem EndPost.range {p:ByteArray} {w:World} {e:Ending} {w':World} (h:EndPost p w e w'):∃ (en:ByteArray) (ok:Bool),e=.returned (.tuple #[.string en,.bool ok])∧Below w.heap.size w w'∧∀ es,rangeE p en (!ok) es=prefixE p es:=by
 obtain ⟨hb,en,ok,he,hm⟩:=h
 refine ⟨en,ok,he,hb,fun es=>?_⟩
 refine List.filter_congr fun x _=>?_
 rw [begins_iff]
 cases hE:endL p.toList with
 | none=>
   rw [hE] at hm
   obtain ⟨rfl,-⟩:=hm
   rfl
 | some q=>
   rw [hE] at hm
   obtain ⟨rfl,hq⟩:=hm
   simp only [inI,Bool.not_true,Bool.false_or,klt,hq]
def PrefixPost (T:RT) (p:ByteArray) (w:World) (e:Ending) (w':World):Prop:=
 ∃ (B:Nat) (en:ByteArray) (op:Bool),e=.returned (.func (.func 120) #[] (rangeL B))∧Below w.heap.size w w'∧RangeB w' B T p en op∧w.heap.size≤B∧∀ es,rangeE p en op es=prefixE p es
theorem prefix_any (w:World) (T:RT) (p:ByteArray) (hp:p.size≤maxLen):Calls Tryz.prog 47 #[treeV T,.string p] w (PrefixPost T p w):=by
 have hr:=fun W lo hi op=>range_any W T lo hi op
 have hke:=fun W=>keysEnd_any W p hp
 obtain ⟨r,hpr⟩:=rootV_ptr T
 rw [treeV,hpr]
 simp only [treeV,hpr] at hr
 have hx0:Ext w (w.alloc (.cells #[.pointer r] 25)):=(Ext.refl w).alloc _ _
 have hb0:=Blk.new w 25 #[.pointer r]
 have HX0:=Lib.hid hx0
 have HB0:=Lib.hid hb0
 have HR:=Lib.hid hr
 have HKE:=Lib.hid hke
 clear hx0 hb0 hr hpr hke
 go_enter Tryz.func47,Tryz.ntmps47
 go_wp2_with fail
 refine (HKE.out _).mono ?_
 intro e w1 he
 obtain ⟨en,ok,rfl,hb1,hen⟩:=he.range
 have hbw:=Bw.trans HX0.out.below hb1
 have c0:w1.cell? ⟨w.heap.size,0,none⟩=some (.pointer r):=(HB0.out.agree (Agree.of_below hb1 (F:=Lt (w.alloc (.cells #[.pointer r] 25)).heap.size) fun _ h=>h) HB0.out.lt).cell 0
 have HBW:=Lib.hid hbw
 have HEN:=Lib.hid hen
 clear he hb1 hen hbw
 go_wp2_with fail
 refine (HR.out _ _ _ _).mono ?_
 rintro e w2 ⟨B,rfl,hx2,hrb,hB⟩
 have HP:=Lib.hid (show Below w.heap.size w w2∧RangeB w2 B T p en (!ok)∧w.heap.size≤B from ⟨Bw.ext HBW.out hx2,hrb,Nat.le_trans HBW.out.size hB⟩)
 clear hx2 hrb hB
 go_wp2_with fail
 go_ret
 exact ⟨B,en,!ok,rfl,HP.out.1,HP.out.2.1,HP.out.2.2,HEN.out⟩
end Go.Proofs.YtechahocffcbpaaGreatDoor
namespace Go.Proofs.YtechahocffcbpaaGreatDoor
open Go.RowKit
set_option linter.unusedVariables false
set_option linter.unusedSimpArgs false
def num8 (n:Int):Val:=.mk 3 false n ByteArray.empty [] [] []
def e5:List Ent:=[(⟨#[97]⟩,num8 1),(⟨#[98]⟩,num8 3),(⟨#[98,47,49]⟩,num8 4),(⟨#[98,47,50]⟩,num8 0),(⟨#[99]⟩,num8 2)]
theorem Bw.tree {w w':World} {T:RT} (h:TreeAt (Lt w.heap.size) T w) (k:Below w.heap.size w w'):TreeAt (Lt w.heap.size) T w':=⟨h.1.agree (Agree.of_below k (F:=Lt w.heap.size) fun _ h=>h),fun b hb=>Nat.lt_of_lt_of_le hb k.size⟩
theorem Bw.blk {w w':World} {g:Nat} {t:TypeId} {cs:Array Value} (h:Blk w g t cs) (k:Below w.heap.size w w'):Blk w' g t cs:=h.agree (Agree.of_below k (F:=Lt w.heap.size) fun _ h=>h) h.lt
theorem ES.part {w:World} {F:Nat→Prop} {b o c:Nat} {xs:List LE} (h:ES w F ⟨some ⟨b,o,none⟩,c⟩ xs) {i n:Nat} (hn:i+n≤xs.length) (h0:0<n):ES w F ⟨some ⟨b,o+i*7,none⟩,c - i⟩ ((xs.drop i).take n):=by
 obtain ⟨⟨b',o',h1,h2,h3⟩,hv,hf⟩:=h
 obtain ⟨e1,e2,e3⟩:=h1.eq (by omega)
 have hF:=h1.fits (by omega)
 obtain ⟨rfl,rfl⟩:b=b'∧o=o':=by simpa using e1
 have hl:((xs.drop i).take n).length=n:=by rw [List.length_take,List.length_drop];omega
 dsimp only at e2 e3
 refine ⟨⟨b,o+i*7,by rw [hl];exact .some _ _ _ _ (by omega) (by omega) hF,by rw [flatE_len],fun j u hj=>?_⟩,fun x hx=>hv x (List.mem_of_mem_drop (List.mem_of_mem_take hx)),by rw [hl];omega⟩
 have hj':(flatE xs)[i*7+j]? = some u:=by
  rw [←flatE_take,←flatE_drop] at hj
  have hjl:=(List.getElem?_eq_some_iff.1 hj).1
  rw [List.getElem?_take] at hj
  split at hj
  ·rwa [List.getElem?_drop] at hj
  cases hj
 rw [Nat.add_assoc]
 exact h3 _ u hj'
end Go.Proofs.YtechahocffcbpaaGreatDoor
namespace Go.Proofs.YtechahocffcbpaaGreatDoor
open Go.RowKit Go.Shelf
set_option linter.unusedVariables false
theorem ES.pre {w:World} {F:Nat→Prop} {b o c:Nat} {xs:List LE} (h:ES w F ⟨some ⟨b,o,none⟩,c⟩ xs) {n:Nat} (hn:n≤xs.length) (h0:0<xs.length):ES w F ⟨some ⟨b,o,none⟩,c⟩ (xs.take n):=by
 rcases Nat.eq_zero_or_pos n with rfl | hp
 ·obtain ⟨⟨b',o',h1,h2,h3⟩,hv,hf⟩:=h
  obtain ⟨e1,e2,e3⟩:=h1.eq h0
  have hF:=h1.fits h0
  obtain ⟨rfl,rfl⟩:b=b'∧o=o':=by simpa using e1
  exact ⟨⟨b,o,.some _ _ _ _ (Nat.zero_le _) e3 hF,by simp [flatE],fun j u hj=>by simp [flatE] at hj⟩,fun x hx=>by simp at hx,by simp⟩
 have:=h.part (i:=0) (n:=n) (by omega) hp
 simpa using this
end Go.Proofs.YtechahocffcbpaaGreatDoor
namespace Go.Proofs.YtechahocffcbpaaGreatDoor
open Go.RowKit Go.Maps Go.Sort Go.Shelf
set_option linter.unusedVariables false
set_option linter.unusedSimpArgs false
abbrev bytesO (k:ByteArray):List UInt8:=k.data.toList
theorem map_bytesO (ks:List ByteArray):(ks.map bytesO).map encStr=ks.map .string:=by rw [List.map_map];rfl
theorem less_lt:∀ x y:List UInt8,Op.bytesLess x y=decide (x<y)
 | [],[]=>rfl
 | [],_ :: _=>rfl
 | _ :: _,[]=>rfl
 | a :: x,b :: y=>by
   rw [Op.bytesLess,less_lt x y]
   by_cases h1:a<b
   ·simp [h1,List.cons_lt_cons_iff]
   by_cases h2:a=b
   ·subst h2;simp [List.cons_lt_cons_iff]
   simp [h1,h2,List.cons_lt_cons_iff]
theorem klt_lt (a b:ByteArray):klt a b=decide (bytesO a<bytesO b):=by
 show Op.bytesLess a.toList b.toList=_
 rw [ByteArray.toList_eq,ByteArray.toList_eq,less_lt]
theorem bytesO_back (ts:List (List UInt8)):(ts.map fun l=>(⟨l.toArray⟩:ByteArray)).map bytesO=ts:=by
 rw [List.map_map]
 exact (List.map_congr_left fun l _=>rfl).trans (List.map_id _)
theorem rise_sorted {ts:List ByteArray} (h:(ts.map bytesO).Pairwise fun x y=>decide (x≤y)=true) (hn:ts.Nodup):ts.Pairwise fun x y=>klt x y=true:=by
 have h2:=List.pairwise_map.1 h
 refine (h2.and hn).imp ?_
 rintro x y ⟨h3,h4⟩
 cases hk:klt x y with
 | true=>rfl
 | false=>
   exfalso
   have h5:klt y x=true:=klt_of_not hk h4
   rw [klt_lt,decide_eq_true_eq] at h5
   rw [decide_eq_true_eq] at h3
   exact absurd h3 (by simpa [List.not_le] using h5)
theorem leB_sorted (l:List (List UInt8)):(l.mergeSort fun x y=>decide (x≤y)).Pairwise fun x y=>decide (x≤y)=true:=
 List.pairwise_mergeSort (fun a b c h1 h2=>by simp only [decide_eq_true_eq] at *;exact List.le_trans h1 h2) (fun a b=>by simp only [Bool.or_eq_true,decide_eq_true_eq];exact List.le_total a b) l
theorem sortStr_any {w:World} {base:Nat} {s:Sl} {ks:List ByteArray} (hown:w.ownsRow base 9 1 (.slice s.a ks.length s.c) ks.length (ks.map .string)) (hn:ks.length≤1000000000) :
  Calls Tryz.prog 49 #[.slice s.a ks.length s.c] w fun e w'=>e=.returned (.tuple #[])∧∃ ts:List ByteArray,ts.Perm ks∧(ts.map bytesO).Pairwise (fun x y=>decide (x≤y)=true)∧w'.ownsRow base 9 1 (.slice s.a ts.length s.c) ts.length (ts.map .string)∧ts.length=ks.length∧w.grownBy w' s.row:=by
 rcases hown.2 with ⟨hv,h0⟩ | ⟨g,cap,cur,hv,hbg,hg,hnc,hcm,hcs,ht⟩
 ·have hk:ks=[]:=List.eq_nil_of_length_eq_zero h0
  subst hk
  refine (AnyM.slices_Sort_string_none Tryz.sort49 s.a s.c w).mono ?_
  rintro e w' ⟨rfl,rfl⟩
  exact ⟨rfl,[],List.Perm.refl _,List.Pairwise.nil,hown,rfl,⟨rfl,rfl,rfl,Nat.le_refl _,fun _ _ _=>rfl⟩⟩
 injection hv with h1 h2 h3
 obtain ⟨sa,sc⟩:=s
 dsimp only at h1 h3
 subst h1 h3
 have hH:Holds encStr w g 0 (ks.map bytesO).toArray:=holds_of_block hg (by rw [map_bytesO,List.length_map];simpa using ht)
 have hc:=AnyM.slices_Sort_string Tryz.sort49 g 0 sc (ks.map bytesO) w hH (Array.getElem?_eq_some_iff.1 hg).1 (by rw [List.length_map];omega)
 rw [List.length_map] at hc
 refine hc.mono ?_
 rintro e w' ⟨rfl,n,os,rfl⟩
 have hp:((ks.map bytesO).mergeSort fun x y=>decide (x≤y)).Perm (ks.map bytesO):=List.mergeSort_perm _ _
 have hlen:((ks.map bytesO).mergeSort fun x y=>decide (x≤y)).length=ks.length:=by rw [hp.length_eq,List.length_map]
 obtain ⟨ts,hts⟩:∃ ts:List ByteArray,ts.map bytesO=(ks.map bytesO).mergeSort fun x y=>decide (x≤y):=⟨_,bytesO_back _⟩
 have hlt:ts.length=ks.length:=by rw [←hlen,←hts,List.length_map]
 refine ⟨rfl,ts,?_,by rw [hts];exact leB_sorted _,?_,hlt,by rw [←hts];exact grownBy_sorted _⟩
 ·have hq:(ts.map bytesO).Perm (ks.map bytesO):=by rw [hts];exact hp
  have:=hq.map fun l:List UInt8=>(⟨l.toArray⟩:ByteArray)
  rw [List.map_map,List.map_map] at this
  rwa [show ((fun l:List UInt8=>(⟨l.toArray⟩:ByteArray))∘bytesO)=id from rfl,List.map_id,List.map_id] at this
 rw [←hts,hlt,←map_bytesO]
 have:=ownsRow_sorted (w:=w) (base:=base) (cap:=sc) (n:=n) (os:=os) (ss:=ks.map bytesO) (ts:=ts.map bytesO) (by rw [List.length_map,List.length_map,hlt]) hbg hg (by rw [List.length_map];exact hnc) hcm hcs
 rw [List.length_map] at this
 exact this
end Go.Proofs.YtechahocffcbpaaGreatDoor
