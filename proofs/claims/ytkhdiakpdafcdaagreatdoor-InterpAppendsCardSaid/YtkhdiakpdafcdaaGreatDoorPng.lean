/- What the theorem needs of the texts OvPut: no condition of its own. -/
import Derived.Laws.IdiomStrings
import Derived.WalkArith
import Derived.Test.YtkhdiakpdafcdaaGreatDoorPna
import Derived.Test.YtkhdiakpdafcdaaGreatDoorPnc
import Derived.Test.YtkhdiakpdafcdaaGreatDoorPnd
import Derived.Test.YtkhdiakpdafcdaaGreatDoorPne
import Derived.Test.YtkhdiakpdafcdaaGreatDoorPnf
set_option maxRecDepth 100000
set_option maxHeartbeats 1000000
namespace Go.Proofs.YtkhdiakpdafcdaaGreatDoor
open Go.RowKit Go.Maps
set_option linter.unusedVariables false
set_option linter.unusedSimpArgs false
abbrev Nw (w w':World):Prop:=Sb (fun _=>False) w w'
theorem Nw.any {w w':World} (h:Nw w w') (H:Nat→Prop):Sb H w w':=h.mono fun _ _ e=>e.elim
theorem Nw.blk {w w':World} (h:Nw w w') {g:Nat} {t:TypeId} {cs:Array Value} (hb:Blk w g t cs):Blk w' g t cs:=Sb.blk h hb fun e=>e
theorem Nw.agree {w w':World} (h:Nw w w') {F:Nat→Prop} (hF:∀ b,F b→b<w.heap.size):Agree F w w':=fun b hb=>h.block b (hF b hb) fun e=>e
theorem Nw.of {w w':World} (h:Ext w w'):Nw w w':=h.sb _
section
variable {H : Nat → Prop} {w w' : World} {O : Nat} {d d' : OD}
theorem OvAt.nw (h:OvAt H w O d) (k:Nw w w'):OvAt H w' O d:=h.sb k fun _ hb=>hb.elim
theorem OvTo.after {w0:World} (h:OvTo H w O d d' w') (k:Nw w0 w):OvTo H w0 O d d' w':=
 ⟨h.at_,(k.any _).trans h.sb,fun b hb=>(h.new b hb).imp id fun hh=>Nat.le_trans k.size hh⟩
theorem OvTo.then (h:OvTo H w O d d' w') {w2:World} (k:Nw w' w2):OvTo H w O d d' w2:=⟨h.at_.nw k,h.sb.trans (k.any _),h.new⟩
def OD.step (d:OD) (k:ByteArray) (sv:SV) (mb:Option Nat) (s:Sl):OD:=⟨d.T,mb,s,d.us++[⟨k,getA d.C k⟩],d.Hs++[putA d.C k sv],putA d.C k sv⟩
end
def DelPostO (H:Nat→Prop) (O:Nat) (d:OD) (k:ByteArray) (w:World) (e:Ending) (w':World):Prop:=
 e=.returned (.bool (d.now k).isSome)∧(((d.now k).isSome=false∧Nw w w')∨((d.now k).isSome=true∧∃ mb s,OvTo H w O d (d.step k zeroSV mb s) w'))
theorem delete_ov {H:Nat→Prop} {w:World} {O:Nat} {d:OD} (h:OvAt H w O d) (hH:∀ b,H b→b<w.heap.size) (hn:d.us.length≤1000000) (hl:(entsT d.T).length≤1000000) {k:ByteArray} (hk:k.size≤maxLen) :
  Calls Tryz.prog 20 #[.pointer (some ⟨O,0,none⟩),.string k] w (DelPostO H O d k w):=by
 have hg:=get_ov h hl hk
 have hst:=fun W (hW:Ext w W)=>step_any (h.ext hW) (fun b hb=>Nat.lt_of_lt_of_le (hH b hb) hW.size) hn hk (sv:=zeroSV) ⟨rv_zeroO _ _,fun _=>rfl⟩
 unfold DelPostO
 generalize d.now k=og at *
 have HST:=Lib.hid hst
 have HG:=Lib.hid hg
 clear h hH hst hg
 go_enter Tryz.func20,Tryz.ntmps20
 go_wp2_with fail
 refine HG.out.mono ?_
 rintro e w1 ⟨sl,so,rfl,hx1,-⟩
 have HX1:=Lib.hid hx1
 clear hx1
 cases og with
 | none=>
   go_wp2_with fail
   go_ret
   exact ⟨rfl,.inl ⟨rfl,Nw.of (HX1.out.alloc _ _)⟩⟩
 | some v=>
   go_wp2_with fail
   have hx2:=HX1.out.alloc (w:=w1) #[.int .i64 v.kind,.bool v.b,.int .i64 v.i,.string v.t,.slice sl.a v.l.length sl.c,.slice so.a v.ok.length so.c] 28
   refine (HST.out _ hx2).mono ?_
   rintro e w3 ⟨⟨r,rfl⟩,mb,s,hto⟩
   have HTO:=Lib.hid (hto.after (Nw.of hx2))
   clear hto hx2
   go_wp2_with fail
   go_ret
   exact ⟨rfl,.inr ⟨rfl,mb,s,HTO.out⟩⟩
theorem put_ov_key {w:World} {O:Nat} {k:ByteArray} {v:Val} {sl so:Sl} {c:Int} (hmay:∀ W,Nw w W→Calls Tryz.prog 42 #[.string k] W fun e w'=>e=.returned (.int .i64 c)∧Nw W w') (hc:c≠0) :
  Calls Tryz.prog 17 #[.pointer (some ⟨O,0,none⟩),.string k,aggV v sl so] w fun e w'=>e=.returned (.int .i64 8)∧Nw w w':=by
 have HM:=Lib.hid hmay
 have g0:(c != 0)=true:=bne_iff_ne.2 hc
 clear hmay hc
 go_enter Tryz.func17,Tryz.ntmps17
 go_wp2_with fail
 have hx0:Ext w (w.alloc (.cells #[.int .i64 v.kind,.bool v.b,.int .i64 v.i,.string v.t,.slice sl.a v.l.length sl.c,.slice so.a v.ok.length so.c] 28)):=(Ext.refl w).alloc _ _
 refine (HM.out _ (Nw.of hx0)).mono ?_
 rintro e w1 ⟨rfl,hx1⟩
 have HX1:=Lib.hid ((Nw.of hx0).trans hx1)
 clear hx0 hx1
 go_wp2_with fail
 go_ret
 exact ⟨rfl,HX1.out⟩
/-- A value does not fit: nothing is put. -/
theorem put_ov_no {w:World} {O:Nat} {k:ByteArray} {v:Val} {sl so:Sl} {c:Int} (hmay:∀ W,Nw w W→Calls Tryz.prog 42 #[.string k] W fun e w'=>e=.returned (.int .i64 0)∧Nw W w')
  (hfit:∀ W,Nw w W→Calls Tryz.prog 43 #[aggV v sl so] W fun e w'=>e=.returned (.int .i64 c)∧Nw W w') (hc:c≠0) :
  Calls Tryz.prog 17 #[.pointer (some ⟨O,0,none⟩),.string k,aggV v sl so] w fun e w'=>e=.returned (.int .i64 c)∧Nw w w':=by
 have HM:=Lib.hid hmay
 have HF:=Lib.hid hfit
 have g0:(c != 0)=true:=bne_iff_ne.2 hc
 clear hmay hc hfit
 go_enter Tryz.func17,Tryz.ntmps17
 go_wp2_with fail
 have hx0:Ext w (w.alloc (.cells #[.int .i64 v.kind,.bool v.b,.int .i64 v.i,.string v.t,.slice sl.a v.l.length sl.c,.slice so.a v.ok.length so.c] 28)):=(Ext.refl w).alloc _ _
 have hb0:=Blk.new w 28 #[.int .i64 v.kind,.bool v.b,.int .i64 v.i,.string v.t,.slice sl.a v.l.length sl.c,.slice so.a v.ok.length so.c]
 refine (HM.out _ (Nw.of hx0)).mono ?_
 rintro e w1 ⟨rfl,hx1⟩
 obtain ⟨q0,q1,q2,q3,q4,q5⟩:=(hx1.blk hb0).c6
 have hx01:=(Nw.of hx0).trans hx1
 have HX1:=Lib.hid hx01
 clear hx0 hx1 hx01 hb0
 go_wp2_with fail
 refine (HF.out _ HX1.out).mono ?_
 rintro e w2 ⟨rfl,hx2⟩
 have HX2:=Lib.hid (HX1.out.trans hx2)
 clear hx2 q0 q1 q2 q3 q4 q5
 go_wp2_with fail
 go_ret
 exact ⟨rfl,HX2.out⟩
def PutPostO (H:Nat→Prop) (O:Nat) (d:OD) (k:ByteArray) (v:Val) (w:World) (e:Ending) (w':World):Prop:=
 e=.returned (.int .i64 0)∧∃ sl so mb s,OvTo H w O d (d.step k ⟨true,v,sl,so⟩ mb s) w'
theorem put_ov {H:Nat→Prop} {w:World} {O:Nat} {d:OD} (h:OvAt H w O d) (hH:∀ b,H b→b<w.heap.size) (hn:d.us.length≤1000000) {k:ByteArray} (hk:k.size≤maxLen) {v:Val} {sl so:Sl} (hv:RV w (Lt w.heap.size) v sl so)
  (hmay:∀ W,Nw w W→Calls Tryz.prog 42 #[.string k] W fun e w'=>e=.returned (.int .i64 0)∧Nw W w')
  (hfit:∀ W,Nw w W→Calls Tryz.prog 43 #[aggV v sl so] W fun e w'=>e=.returned (.int .i64 0)∧Nw W w') :
  Calls Tryz.prog 17 #[.pointer (some ⟨O,0,none⟩),.string k,aggV v sl so] w (PutPostO H O d k v w):=by
 have hst:=fun W (hW:Nw w W) sv hsv=>step_any (h.nw hW) (fun b hb=>Nat.lt_of_lt_of_le (hH b hb) hW.size) hn hk (sv:=sv) hsv
 have hcp:=fun W (hW:Nw w W)=>copy_any _ v (Nat.le_refl _) W sl so ((hv.agree (hW.agree fun b hb=>hb)).mono fun b hb=>Nat.lt_of_lt_of_le hb hW.size)
 have hown:∀ b,OvB O d b→b<w.heap.size:=fun b hb=>h.own_lt hb
 have HM:=Lib.hid hmay
 have HF:=Lib.hid hfit
 have HST:=Lib.hid hst
 have HCP:=Lib.hid hcp
 have HOWN:=Lib.hid hown
 have HHH:=Lib.hid hH
 clear hmay hfit h hv hst hcp hown hH
 go_enter Tryz.func17,Tryz.ntmps17
 go_wp2_with fail
 have hx0:Ext w (w.alloc (.cells #[.int .i64 v.kind,.bool v.b,.int .i64 v.i,.string v.t,.slice sl.a v.l.length sl.c,.slice so.a v.ok.length so.c] 28)):=(Ext.refl w).alloc _ _
 have hb0:=Blk.new w 28 #[.int .i64 v.kind,.bool v.b,.int .i64 v.i,.string v.t,.slice sl.a v.l.length sl.c,.slice so.a v.ok.length so.c]
 refine (HM.out _ (Nw.of hx0)).mono ?_
 rintro e w1 ⟨rfl,hx1⟩
 have hb1:=hx1.blk hb0
 obtain ⟨q0,q1,q2,q3,q4,q5⟩:=hb1.c6
 have hx01:=(Nw.of hx0).trans hx1
 have HX1:=Lib.hid hx01
 have HB1:=Lib.hid hb1
 clear hx0 hx1 hx01 hb0 hb1 HM
 go_wp2_with fail
 refine (HF.out _ HX1.out).mono ?_
 rintro e w2 ⟨rfl,hx2⟩
 have hb2:=hx2.blk HB1.out
 have hx02:=HX1.out.trans hx2
 have HX2:=Lib.hid hx02
 clear hx2 q0 q1 q2 q3 q4 q5 HB1 HF
 obtain ⟨q0,q1,q2,q3,q4,q5⟩:=hb2.c6
 clear hb2 hx02
 go_wp2_with fail
 refine (HCP.out _ HX2.out).mono ?_
 rintro e w3 ⟨sl',so',rfl,hx3,hrv⟩
 have hx03:=HX2.out.trans (Nw.of hx3)
 have hok:SVok w3 (OvF H w3 O d) ⟨true,v,sl',so'⟩:=⟨hrv.mono fun i hi=>⟨hi.2,fun e=>by have:=HOWN.out i e;have:=HX2.out.size;have:=hi.1;omega,fun e=>by have:=HHH.out i e;have:=HX2.out.size;have:=hi.1;omega⟩,fun e=>by cases e⟩
 have hcall:=HST.out w3 hx03 _ hok
 have HX3:=Lib.hid hx03
 have HCALL:=Lib.hid hcall
 clear hx3 hrv hx03 hok hcall q0 q1 q2 q3 q4 q5 HCP HST
 go_wp2_with fail
 refine HCALL.out.mono ?_
 rintro e w4 ⟨⟨r,rfl⟩,mb,s,hto⟩
 have HTO:=Lib.hid (hto.after HX3.out)
 clear hto
 go_wp2_with fail
 go_ret
 exact ⟨rfl,sl',so',mb,s,HTO.out⟩
end Go.Proofs.YtkhdiakpdafcdaaGreatDoor
