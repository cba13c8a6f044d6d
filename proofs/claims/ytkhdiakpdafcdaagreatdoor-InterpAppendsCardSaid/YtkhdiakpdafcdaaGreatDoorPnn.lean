/- What the theorem needs of the texts Int6, Int7, TotM, Int8, Int9: no condition of its own. -/
import Derived.Laws.IdiomStrings
import Derived.WalkArith
import Derived.OrdersIn
import Derived.Deep.CutRange
import Derived.Test.YtkhdiakpdafcdaaGreatDoorPna
import Derived.Test.YtkhdiakpdafcdaaGreatDoorPnc
import Derived.Test.YtkhdiakpdafcdaaGreatDoorPnd
import Derived.Test.YtkhdiakpdafcdaaGreatDoorPne
import Derived.Test.YtkhdiakpdafcdaaGreatDoorPnf
import Derived.Test.YtkhdiakpdafcdaaGreatDoorPng
import Derived.Test.YtkhdiakpdafcdaaGreatDoorPnh
import Derived.Test.YtkhdiakpdafcdaaGreatDoorPni
import Derived.Test.YtkhdiakpdafcdaaGreatDoorPnj
import Derived.Test.YtkhdiakpdafcdaaGreatDoorPnk
import Derived.Test.YtkhdiakpdafcdaaGreatDoorPnl
import Derived.Test.YtkhdiakpdafcdaaGreatDoorPnm
set_option maxRecDepth 100000
set_option maxHeartbeats 4000000
namespace Go.Proofs.YtkhdiakpdafcdaaGreatDoor
open Go.RowKit Go.Maps Go.Shelf
set_option linter.unusedVariables false
set_option linter.unusedSimpArgs false
theorem setMu_no {M:List Ent} {k:ByteArray} {v:Val} (h:(setMu M k v).1≠0):(setMu M k v).2=M:=by
 unfold setMu at h ⊢
 split at h
 ·rw [if_pos (by assumption)]
 rename_i h1
 rw [if_neg h1]
 split at h
 ·rw [if_pos (by assumption)]
 exact absurd rfl h
theorem addM_no {M:List Ent} {k:ByteArray} {n b:Int} (h:(addM M k n b).1≠0):(addM M k n b).2=M:=by
 unfold addM at h ⊢
 split at h
 ·rw [if_pos (by assumption)]
 rename_i h1
 rw [if_neg h1]
 exact setMu_no h
theorem rowM_no {M:List Ent} {k:ByteArray} {l:List Val} {x:Val} (h:(rowM M k l x).1≠0):(rowM M k l x).2=M:=by
 unfold rowM at h ⊢
 split at h
 ·rw [if_pos (by assumption)]
 rename_i h1
 rw [if_neg h1]
 exact setMu_no h
theorem stepM_no {m:Mu} {M:List Ent}:(stepM m M).1≠0→(stepM m M).2=M:=by
 obtain ⟨kd,k,tk,i,had,was,has,v,l⟩:=m
 rw [stepM]
 by_cases k1:kd=1
 ·rw [if_pos k1];exact setMu_no
 rw [if_neg k1]
 by_cases k2:kd=2
 ·rw [if_pos k2];split
  ·exact fun h=>absurd rfl h
  exact fun _=>rfl
 rw [if_neg k2]
 by_cases k3:kd=3
 ·rw [if_pos k3];unfold incM;split
  ·split
   ·exact fun _=>rfl
   exact addM_no
  exact addM_no
 rw [if_neg k3]
 by_cases k4:kd=4
 ·rw [if_pos k4];split
  ·split
   ·exact setMu_no
   exact fun h=>absurd rfl h
  exact fun _=>rfl
 rw [if_neg k4]
 by_cases k5:kd=5
 ·rw [if_pos k5];unfold appM;split
  ·split
   ·exact fun _=>rfl
   exact rowM_no
  exact rowM_no
 rw [if_neg k5]
 by_cases k6:kd=6
 ·rw [if_pos k6];unfold moveM;split
  ·exact fun _=>rfl
  exact fun h=>absurd rfl h
 rw [if_neg k6]
 by_cases k7:kd=7
 ·rw [if_pos k7];split
  ·split
   ·exact fun _=>rfl
   rename_i h1;exact fun h=>absurd h h1
  exact fun _=>rfl
 rw [if_neg k7]
 exact fun _=>rfl
def budM (m:Mu) (M:List Ent):Nat:=sizeM m*(2*(M.length+sizeM m)+1)
theorem bud_pos (m:Mu) (M:List Ent):1+2*M.length≤budM m M:=by
 have h:1≤sizeM m:=by rw [sizeM_eq];omega
 unfold budM
 calc 1+2*M.length≤1*(2*(M.length+sizeM m)+1):=by omega
  _≤sizeM m*(2*(M.length+sizeM m)+1):=Nat.mul_le_mul_right _ h
theorem totM_tk (m:Mu):m.tk.size≤totM m:=by
 obtain ⟨kd,k,tk,i,had,was,has,v,l⟩:=m
 rw [totM]
 show tk.size≤_
 omega
theorem do_fin {H:Nat→Prop} {w w':World} {O:Nat} {d d2:OD} {M:List Ent} {r:Int × List Ent} {n:Nat} (h:r.1≠0→r.2=M) (hg:GoX H w O d (if r.1=0 then r.2 else M) n w' d2):∃ d',GoX H w O d r.2 n w' d':=by
 refine ⟨d2,?_⟩
 by_cases h0:r.1=0
 ·rw [if_pos h0] at hg;exact hg
 rw [if_neg h0] at hg;rw [h h0];exact hg
theorem do_kind_1 {H:Nat→Prop} {w:World} {O:Nat} {d:OD} {M:List Ent} {m:Mu} {c:MuS} (h:OvX H w O d M) (hH:∀ b,H b→b<w.heap.size) (hG:∀ b,b<6→H b) (hm:RMu w (fun b=>b<w.heap.size∧¬OvB O d b) m c) (hL:LibQ w)
  (hd:d.us.length+budM m M≤1000000) (hl:(entsT d.T).length≤1000000) (ht:totM m≤1000000) (hk:m.kd=1) :
  Calls Tryz.prog 49 #[.pointer (some ⟨O,0,none⟩),aggMu m c] w fun e w'=>e=.returned (.int .i64 (stepM m M).1)∧∃ d',GoX H w O d (stepM m M).2 (budM m M) w' d':=by
 have hmf:∀ (fn:Fn) (first cap:Array Value) (w:World),(Instr.makeFunc fn first cap).run Tryz.prog w=.ok (.func fn first cap) w:=fun _ _ _ _=>rfl
 have e1:(m.kd == 1)=true:=by simp [hk]
 have HD:=Lib.hid hd
 have HEL:=Lib.hid hl
 have HTT:=Lib.hid ht
 have HBU:=Lib.hid (bud_pos m M)
 have HKD:=Lib.hid hk
 clear hd hl ht hk
 obtain ⟨r,hr⟩:∃ r,stepM m M=r:=⟨_,rfl⟩
 rw [hr]
 have HNO:=Lib.hid (show r.1≠0→r.2=M from fun h=>by rw [←hr] at h ⊢;exact stepM_no h)
 have HR:=Lib.hid hr
 clear hr
 go_enter_defers Tryz.func49,Tryz.ntmps49
 go_upto_region 1 with fail
 generalize hW0:World.alloc _ _=W0
 obtain ⟨hx0,hz0,hb2,hb3,hb4⟩:=three_blocks w _ _ _ _ _ _ W0 hW0
 have c2:W0.cell? ⟨w.heap.size,0,none⟩=some (.pointer (some ⟨O,0,none⟩)):=hb2.cell 0
 have hmark:=mark_ov (h.ov.nw (Nw.of hx0))
 have HMK:=Lib.hid hmark
 have HX0:=Lib.hid hx0
 have HB2:=Lib.hid hb2
 have HB3:=Lib.hid hb3
 have HB4:=Lib.hid hb4
 have HZ0:=Lib.hid hz0
 have HH:=Lib.hid h
 have HHH:=Lib.hid hH
 have HG6:=Lib.hid hG
 have HM:=Lib.hid hm
 have HL:=Lib.hid hL
 clear hW0 hx0 hz0 hb2 hb3 hb4 hmark h hH hG hm hL
 go_wp2_with fail
 refine HMK.out.mono ?_
 rintro e w1 ⟨rfl,hx1⟩
 go_upto_region 2 with fail
 have hx2:=(Ext.refl w1).alloc #[.int .i64 (d.us.length:Int)] 3
 have hb5:=Blk.new w1 3 #[.int .i64 (d.us.length:Int)]
 have hz2:(w1.alloc (.cells #[.int .i64 (d.us.length:Int)] 3)).heap.size=w1.heap.size+1:=World.size_alloc _ _
 generalize hW2:World.alloc _ _=W2 at hx2 hb5 hz2 ⊢
 have HX2:=Lib.hid ((HX0.out.trans hx1).trans hx2)
 have HB22:=Lib.hid ((HB2.out.ext hx1).ext hx2)
 have HB32:=Lib.hid ((HB3.out.ext hx1).ext hx2)
 have HB42:=Lib.hid ((HB4.out.ext hx1).ext hx2)
 have HB5:=Lib.hid hb5
 have HZ:=Lib.hid (show w.heap.size+3≤w1.heap.size∧W2.heap.size=w1.heap.size+1 from ⟨by rw [←HZ0.out];exact hx1.size,hz2⟩)
 have HMC:=Lib.hid (MuC.of_blk HB32.out)
 have HOX:=Lib.hid (HH.out.boxes (Nw.of HX2.out))
 clear hW2 hx1 hx2 hb5 hz2 c2 HX0 HB2 HB3 HB4 HZ0
 have k0:=HMC.out.kind
 go_upto_region 4 with fail
 have hst:stepM m M=setMu M m.k m.v:=by
  obtain ⟨kd,k,tk,i,had,was,has,v,l⟩:=m
  have hk:kd=1:=HKD.out
  subst hk
  rw [stepM];rfl
 obtain ⟨v0,v1,v2,v3,v4,v5⟩:=HMC.out.v6
 have b1:=HMC.out.c1
 have b2':=HMC.out.c2
 have b3:W2.cell? ⟨w.heap.size+1,3,none⟩=some (.int .i64 m.i):=HMC.out 3 _ rfl
 have b2:W2.cell? ⟨w.heap.size,0,none⟩=some (.pointer (some ⟨O,0,none⟩)):=HB22.out.cell 0
 have hmw:RMu W2 (Lt W2.heap.size) m c:=(HM.out.agree (HX2.out.agree fun b hb=>hb.1)).mono fun b hb=>Nat.lt_of_lt_of_le hb.1 HX2.out.size
 have hput:=putX (k:=m.k) HOX.out (fun b hb=>hb.elim (fun e=>Nat.lt_of_lt_of_le (HHH.out b e) HX2.out.size) fun e=>e.2) (by have:=HD.out;have:=HBU.out;omega) hmw.parts.2.2.1 hmw.parts.2.1 (Nat.le_trans (totM_v m).1 (by have:=HTT.out;omega)) (HL.out.nw (Nw.of HX2.out))
 rw [←hst,HR.out] at hput
 clear hst
 have HPUT:=Lib.hid hput
 clear hput hmw
 go_wp2_with fail
 refine HPUT.out.mono ?_
 rintro e w3 ⟨rfl,d1,hg⟩
 have HG:=Lib.hid (hg.more (m:=budM m M) (by have:=HBU.out;omega))
 have hb4:=hg.go.sb.blk HB42.out (fun e=>by have:=HH.out.ov.own_lt e;omega)
 have c4:w3.cell? ⟨w.heap.size+1+1,0,none⟩=some (.int .i64 0):=hb4.cell 0
 have f4:=hb4.frozen 0
 clear hg hb4 k0
 go_wp2_with fail
 refine leaves_cons (f:=77) (args:=#[.pointer (some ⟨w.heap.size+1+1,0,none⟩),.pointer (some ⟨w.heap.size,0,none⟩),.pointer (some ⟨w1.heap.size,0,none⟩)]) (by simp) (by simp [go_sem]) ?_
 refine (do_door (code:=r.1) (Nw.of HX2.out) HOX.out (fun b e=>HH.out.ov.own_lt e) HG.out (by have:=HG.out.few;have:=HD.out;omega) HB42.out HB22.out HB5.out (by omega) (by omega) (by have:=HZ.out;omega) (by omega) (by have:=HZ.out;omega)).mono ?_
 rintro e u' w'' ⟨rfl,rfl,hb,d2,hg⟩
 have q4:w''.cell? ⟨w.heap.size+1+1,0,none⟩=some (.int .i64 r.1):=hb.cell 0
 have hfin:=do_fin (r:=r) HNO.out hg
 clear hb hg
 simp [Leaves,settle,results,Tryz.results49,go_sem,q4,hfin]
theorem do_kind_2 {H:Nat→Prop} {w:World} {O:Nat} {d:OD} {M:List Ent} {m:Mu} {c:MuS} (h:OvX H w O d M) (hH:∀ b,H b→b<w.heap.size) (hG:∀ b,b<6→H b) (hm:RMu w (fun b=>b<w.heap.size∧¬OvB O d b) m c) (hL:LibQ w)
  (hd:d.us.length+budM m M≤1000000) (hl:(entsT d.T).length≤1000000) (ht:totM m≤1000000) (hk:m.kd=2) :
  Calls Tryz.prog 49 #[.pointer (some ⟨O,0,none⟩),aggMu m c] w fun e w'=>e=.returned (.int .i64 (stepM m M).1)∧∃ d',GoX H w O d (stepM m M).2 (budM m M) w' d':=by
 have hmf:∀ (fn:Fn) (first cap:Array Value) (w:World),(Instr.makeFunc fn first cap).run Tryz.prog w=.ok (.func fn first cap) w:=fun _ _ _ _=>rfl
 have e1:(m.kd == 1)=false:=by simp [hk]
 have e2:(m.kd == 2)=true:=by simp [hk]
 have HD:=Lib.hid hd
 have HEL:=Lib.hid hl
 have HTT:=Lib.hid ht
 have HBU:=Lib.hid (bud_pos m M)
 have HKD:=Lib.hid hk
 clear hd hl ht hk
 obtain ⟨r,hr⟩:∃ r,stepM m M=r:=⟨_,rfl⟩
 rw [hr]
 have HNO:=Lib.hid (show r.1≠0→r.2=M from fun h=>by rw [←hr] at h ⊢;exact stepM_no h)
 have HR:=Lib.hid hr
 clear hr
 go_enter_defers Tryz.func49,Tryz.ntmps49
 go_upto_region 1 with fail
 generalize hW0:World.alloc _ _=W0
 obtain ⟨hx0,hz0,hb2,hb3,hb4⟩:=three_blocks w _ _ _ _ _ _ W0 hW0
 have c2:W0.cell? ⟨w.heap.size,0,none⟩=some (.pointer (some ⟨O,0,none⟩)):=hb2.cell 0
 have hmark:=mark_ov (h.ov.nw (Nw.of hx0))
 have HMK:=Lib.hid hmark
 have HX0:=Lib.hid hx0
 have HB2:=Lib.hid hb2
 have HB3:=Lib.hid hb3
 have HB4:=Lib.hid hb4
 have HZ0:=Lib.hid hz0
 have HH:=Lib.hid h
 have HHH:=Lib.hid hH
 have HG6:=Lib.hid hG
 have HM:=Lib.hid hm
 have HL:=Lib.hid hL
 clear hW0 hx0 hz0 hb2 hb3 hb4 hmark h hH hG hm hL
 go_wp2_with fail
 refine HMK.out.mono ?_
 rintro e w1 ⟨rfl,hx1⟩
 go_upto_region 2 with fail
 have hx2:=(Ext.refl w1).alloc #[.int .i64 (d.us.length:Int)] 3
 have hb5:=Blk.new w1 3 #[.int .i64 (d.us.length:Int)]
 have hz2:(w1.alloc (.cells #[.int .i64 (d.us.length:Int)] 3)).heap.size=w1.heap.size+1:=World.size_alloc _ _
 generalize hW2:World.alloc _ _=W2 at hx2 hb5 hz2 ⊢
 have HX2:=Lib.hid ((HX0.out.trans hx1).trans hx2)
 have HB22:=Lib.hid ((HB2.out.ext hx1).ext hx2)
 have HB32:=Lib.hid ((HB3.out.ext hx1).ext hx2)
 have HB42:=Lib.hid ((HB4.out.ext hx1).ext hx2)
 have HB5:=Lib.hid hb5
 have HZ:=Lib.hid (show w.heap.size+3≤w1.heap.size∧W2.heap.size=w1.heap.size+1 from ⟨by rw [←HZ0.out];exact hx1.size,hz2⟩)
 have HMC:=Lib.hid (MuC.of_blk HB32.out)
 have HOX:=Lib.hid (HH.out.boxes (Nw.of HX2.out))
 clear hW2 hx1 hx2 hb5 hz2 c2 HX0 HB2 HB3 HB4 HZ0
 have k0:=HMC.out.kind
 go_upto_region 4 with fail
 have hst:stepM m M=if (getE M m.k).isSome then (0,delE M m.k) else (12,M):=by
  obtain ⟨kd,k,tk,i,had,was,has,v,l⟩:=m
  have hk:kd=2:=HKD.out
  subst hk
  rw [stepM];rfl
 have b1:=HMC.out.c1
 have b2:W2.cell? ⟨w.heap.size,0,none⟩=some (.pointer (some ⟨O,0,none⟩)):=HB22.out.cell 0
 have hmw:RMu W2 (Lt W2.heap.size) m c:=(HM.out.agree (HX2.out.agree fun b hb=>hb.1)).mono fun b hb=>Nat.lt_of_lt_of_le hb.1 HX2.out.size
 have hput:=delX (k:=m.k) HOX.out (fun b hb=>hb.elim (fun e=>Nat.lt_of_lt_of_le (HHH.out b e) HX2.out.size) fun e=>e.2) (by have:=HD.out;have:=HBU.out;omega) HEL.out hmw.parts.2.2.1
 rw [HR.out] at hst
 have HST:=Lib.hid hst
 have HPUT:=Lib.hid hput
 clear hput hmw hst
 go_wp2_with fail
 refine HPUT.out.mono ?_
 rintro e w3 ⟨rfl,d1,hg⟩
 have HG:=Lib.hid (hg.more (m:=budM m M) (by have:=HBU.out;omega))
 clear hg k0
 rcases Bool.eq_false_or_eq_true (getE M m.k).isSome with hi | hi
 ·have hs:=HST.out
  rw [if_pos hi] at hs
  subst hs
  rw [hi]
  clear hi HST
  have hb4:=HG.out.go.sb.blk HB42.out (fun e=>by have:=HH.out.ov.own_lt e;omega)
  have c4:w3.cell? ⟨w.heap.size+1+1,0,none⟩=some (.int .i64 0):=hb4.cell 0
  have f4:=hb4.frozen 0
  clear hb4
  go_wp2_with fail
  refine leaves_cons (f:=77) (args:=#[.pointer (some ⟨w.heap.size+1+1,0,none⟩),.pointer (some ⟨w.heap.size,0,none⟩),.pointer (some ⟨w1.heap.size,0,none⟩)]) (by simp) (by simp [go_sem]) ?_
  refine (do_door (code:=0) (Nw.of HX2.out) HOX.out (fun b e=>HH.out.ov.own_lt e) HG.out (by have:=HG.out.few;have:=HD.out;omega) HB42.out HB22.out HB5.out (by omega) (by omega) (by have:=HZ.out;omega) (by omega) (by have:=HZ.out;omega)).mono ?_
  rintro e u' w'' ⟨rfl,rfl,hb,d2,hg⟩
  have q4:w''.cell? ⟨w.heap.size+1+1,0,none⟩=some (.int .i64 0):=hb.cell 0
  have hfin:=(show ∃ d',GoX H w O d (delE M m.k) (budM m M) w'' d' from ⟨d2,hg⟩)
  clear hb hg
  simp [Leaves,settle,results,Tryz.results49,go_sem,q4,hfin]
 have hs:=HST.out
 rw [if_neg (by rw [hi];decide)] at hs
 subst hs
 rw [hi]
 clear hi HST
 have hb4:=HG.out.go.sb.blk HB42.out (fun e=>by have:=HH.out.ov.own_lt e;omega)
 have c4:w3.cell? ⟨w.heap.size+1+1,0,none⟩=some (.int .i64 0):=hb4.cell 0
 have f4:=hb4.frozen 0
 clear hb4
 go_wp2_with fail
 refine leaves_cons (f:=77) (args:=#[.pointer (some ⟨w.heap.size+1+1,0,none⟩),.pointer (some ⟨w.heap.size,0,none⟩),.pointer (some ⟨w1.heap.size,0,none⟩)]) (by simp) (by simp [go_sem]) ?_
 refine (do_door (code:=12) (Nw.of HX2.out) HOX.out (fun b e=>HH.out.ov.own_lt e) HG.out (by have:=HG.out.few;have:=HD.out;omega) HB42.out HB22.out HB5.out (by omega) (by omega) (by have:=HZ.out;omega) (by omega) (by have:=HZ.out;omega)).mono ?_
 rintro e u' w'' ⟨rfl,rfl,hb,d2,hg⟩
 have q4:w''.cell? ⟨w.heap.size+1+1,0,none⟩=some (.int .i64 12):=hb.cell 0
 have hfin:=(show ∃ d',GoX H w O d M (budM m M) w'' d' from ⟨d2,hg⟩)
 clear hb hg
 simp [Leaves,settle,results,Tryz.results49,go_sem,q4,hfin]
theorem do_kind_3 {H:Nat→Prop} {w:World} {O:Nat} {d:OD} {M:List Ent} {m:Mu} {c:MuS} (h:OvX H w O d M) (hH:∀ b,H b→b<w.heap.size) (hG:∀ b,b<6→H b) (hm:RMu w (fun b=>b<w.heap.size∧¬OvB O d b) m c) (hL:LibQ w)
  (hd:d.us.length+budM m M≤1000000) (hl:(entsT d.T).length≤1000000) (ht:totM m≤1000000) (hk:m.kd=3) :
  Calls Tryz.prog 49 #[.pointer (some ⟨O,0,none⟩),aggMu m c] w fun e w'=>e=.returned (.int .i64 (stepM m M).1)∧∃ d',GoX H w O d (stepM m M).2 (budM m M) w' d':=by
 have hmf:∀ (fn:Fn) (first cap:Array Value) (w:World),(Instr.makeFunc fn first cap).run Tryz.prog w=.ok (.func fn first cap) w:=fun _ _ _ _=>rfl
 have e1:(m.kd == 1)=false:=by simp [hk]
 have e2:(m.kd == 2)=false:=by simp [hk]
 have e3:(m.kd == 3)=true:=by simp [hk]
 have HD:=Lib.hid hd
 have HEL:=Lib.hid hl
 have HTT:=Lib.hid ht
 have HBU:=Lib.hid (bud_pos m M)
 have HKD:=Lib.hid hk
 clear hd hl ht hk
 obtain ⟨r,hr⟩:∃ r,stepM m M=r:=⟨_,rfl⟩
 rw [hr]
 have HNO:=Lib.hid (show r.1≠0→r.2=M from fun h=>by rw [←hr] at h ⊢;exact stepM_no h)
 have HR:=Lib.hid hr
 clear hr
 go_enter_defers Tryz.func49,Tryz.ntmps49
 go_upto_region 1 with fail
 generalize hW0:World.alloc _ _=W0
 obtain ⟨hx0,hz0,hb2,hb3,hb4⟩:=three_blocks w _ _ _ _ _ _ W0 hW0
 have c2:W0.cell? ⟨w.heap.size,0,none⟩=some (.pointer (some ⟨O,0,none⟩)):=hb2.cell 0
 have hmark:=mark_ov (h.ov.nw (Nw.of hx0))
 have HMK:=Lib.hid hmark
 have HX0:=Lib.hid hx0
 have HB2:=Lib.hid hb2
 have HB3:=Lib.hid hb3
 have HB4:=Lib.hid hb4
 have HZ0:=Lib.hid hz0
 have HH:=Lib.hid h
 have HHH:=Lib.hid hH
 have HG6:=Lib.hid hG
 have HM:=Lib.hid hm
 have HL:=Lib.hid hL
 clear hW0 hx0 hz0 hb2 hb3 hb4 hmark h hH hG hm hL
 go_wp2_with fail
 refine HMK.out.mono ?_
 rintro e w1 ⟨rfl,hx1⟩
 go_upto_region 2 with fail
 have hx2:=(Ext.refl w1).alloc #[.int .i64 (d.us.length:Int)] 3
 have hb5:=Blk.new w1 3 #[.int .i64 (d.us.length:Int)]
 have hz2:(w1.alloc (.cells #[.int .i64 (d.us.length:Int)] 3)).heap.size=w1.heap.size+1:=World.size_alloc _ _
 generalize hW2:World.alloc _ _=W2 at hx2 hb5 hz2 ⊢
 have HX2:=Lib.hid ((HX0.out.trans hx1).trans hx2)
 have HB22:=Lib.hid ((HB2.out.ext hx1).ext hx2)
 have HB32:=Lib.hid ((HB3.out.ext hx1).ext hx2)
 have HB42:=Lib.hid ((HB4.out.ext hx1).ext hx2)
 have HB5:=Lib.hid hb5
 have HZ:=Lib.hid (show w.heap.size+3≤w1.heap.size∧W2.heap.size=w1.heap.size+1 from ⟨by rw [←HZ0.out];exact hx1.size,hz2⟩)
 have HMC:=Lib.hid (MuC.of_blk HB32.out)
 have HOX:=Lib.hid (HH.out.boxes (Nw.of HX2.out))
 clear hW2 hx1 hx2 hb5 hz2 c2 HX0 HB2 HB3 HB4 HZ0
 have k0:=HMC.out.kind
 go_upto_region 4 with fail
 have hst:stepM m M=incM M m.k m.i:=by
  obtain ⟨kd,k,tk,i,had,was,has,v,l⟩:=m
  have hk:kd=3:=HKD.out
  subst hk
  rw [stepM];rfl
 obtain ⟨v0,v1,v2,v3,v4,v5⟩:=HMC.out.v6
 have b1:=HMC.out.c1
 have b2':=HMC.out.c2
 have b3:W2.cell? ⟨w.heap.size+1,3,none⟩=some (.int .i64 m.i):=HMC.out 3 _ rfl
 have b2:W2.cell? ⟨w.heap.size,0,none⟩=some (.pointer (some ⟨O,0,none⟩)):=HB22.out.cell 0
 have hmw:RMu W2 (Lt W2.heap.size) m c:=(HM.out.agree (HX2.out.agree fun b hb=>hb.1)).mono fun b hb=>Nat.lt_of_lt_of_le hb.1 HX2.out.size
 have hput:=inc_any (k:=m.k) (by_:=m.i) HOX.out (fun b hb=>hb.elim (fun e=>Nat.lt_of_lt_of_le (HHH.out b e) HX2.out.size) fun e=>e.2) (by have:=HD.out;have:=HBU.out;omega) HEL.out hmw.parts.2.2.1 hmw.parts.2.2.2.2 (HL.out.nw (Nw.of HX2.out))
 rw [←hst,HR.out] at hput
 clear hst
 have HPUT:=Lib.hid hput
 clear hput hmw
 go_wp2_with fail
 refine HPUT.out.mono ?_
 rintro e w3 ⟨rfl,d1,hg⟩
 have HG:=Lib.hid (hg.more (m:=budM m M) (by have:=HBU.out;omega))
 have hb4:=hg.go.sb.blk HB42.out (fun e=>by have:=HH.out.ov.own_lt e;omega)
 have c4:w3.cell? ⟨w.heap.size+1+1,0,none⟩=some (.int .i64 0):=hb4.cell 0
 have f4:=hb4.frozen 0
 clear hg hb4 k0
 go_wp2_with fail
 refine leaves_cons (f:=77) (args:=#[.pointer (some ⟨w.heap.size+1+1,0,none⟩),.pointer (some ⟨w.heap.size,0,none⟩),.pointer (some ⟨w1.heap.size,0,none⟩)]) (by simp) (by simp [go_sem]) ?_
 refine (do_door (code:=r.1) (Nw.of HX2.out) HOX.out (fun b e=>HH.out.ov.own_lt e) HG.out (by have:=HG.out.few;have:=HD.out;omega) HB42.out HB22.out HB5.out (by omega) (by omega) (by have:=HZ.out;omega) (by omega) (by have:=HZ.out;omega)).mono ?_
 rintro e u' w'' ⟨rfl,rfl,hb,d2,hg⟩
 have q4:w''.cell? ⟨w.heap.size+1+1,0,none⟩=some (.int .i64 r.1):=hb.cell 0
 have hfin:=do_fin (r:=r) HNO.out hg
 clear hb hg
 simp [Leaves,settle,results,Tryz.results49,go_sem,q4,hfin]
theorem do_kind_4 {H:Nat→Prop} {w:World} {O:Nat} {d:OD} {M:List Ent} {m:Mu} {c:MuS} (h:OvX H w O d M) (hH:∀ b,H b→b<w.heap.size) (hG:∀ b,b<6→H b) (hm:RMu w (fun b=>b<w.heap.size∧¬OvB O d b) m c) (hL:LibQ w)
  (hd:d.us.length+budM m M≤1000000) (hl:(entsT d.T).length≤1000000) (ht:totM m≤1000000) (hk:m.kd=4) :
  Calls Tryz.prog 49 #[.pointer (some ⟨O,0,none⟩),aggMu m c] w fun e w'=>e=.returned (.int .i64 (stepM m M).1)∧∃ d',GoX H w O d (stepM m M).2 (budM m M) w' d':=by
 have hmf:∀ (fn:Fn) (first cap:Array Value) (w:World),(Instr.makeFunc fn first cap).run Tryz.prog w=.ok (.func fn first cap) w:=fun _ _ _ _=>rfl
 have e1:(m.kd == 1)=false:=by simp [hk]
 have e2:(m.kd == 2)=false:=by simp [hk]
 have e3:(m.kd == 3)=false:=by simp [hk]
 have e4:(m.kd == 4)=true:=by simp [hk]
 have HD:=Lib.hid hd
 have HEL:=Lib.hid hl
 have HTT:=Lib.hid ht
 have HBU:=Lib.hid (bud_pos m M)
 have HKD:=Lib.hid hk
 clear hd hl ht hk
 obtain ⟨r,hr⟩:∃ r,stepM m M=r:=⟨_,rfl⟩
 rw [hr]
 have HNO:=Lib.hid (show r.1≠0→r.2=M from fun h=>by rw [←hr] at h ⊢;exact stepM_no h)
 have HR:=Lib.hid hr
 clear hr
 go_enter_defers Tryz.func49,Tryz.ntmps49
 go_upto_region 1 with fail
 generalize hW0:World.alloc _ _=W0
 obtain ⟨hx0,hz0,hb2,hb3,hb4⟩:=three_blocks w _ _ _ _ _ _ W0 hW0
 have c2:W0.cell? ⟨w.heap.size,0,none⟩=some (.pointer (some ⟨O,0,none⟩)):=hb2.cell 0
 have hmark:=mark_ov (h.ov.nw (Nw.of hx0))
 have HMK:=Lib.hid hmark
 have HX0:=Lib.hid hx0
 have HB2:=Lib.hid hb2
 have HB3:=Lib.hid hb3
 have HB4:=Lib.hid hb4
 have HZ0:=Lib.hid hz0
 have HH:=Lib.hid h
 have HHH:=Lib.hid hH
 have HG6:=Lib.hid hG
 have HM:=Lib.hid hm
 have HL:=Lib.hid hL
 clear hW0 hx0 hz0 hb2 hb3 hb4 hmark h hH hG hm hL
 go_wp2_with fail
 refine HMK.out.mono ?_
 rintro e w1 ⟨rfl,hx1⟩
 go_upto_region 2 with fail
 have hx2:=(Ext.refl w1).alloc #[.int .i64 (d.us.length:Int)] 3
 have hb5:=Blk.new w1 3 #[.int .i64 (d.us.length:Int)]
 have hz2:(w1.alloc (.cells #[.int .i64 (d.us.length:Int)] 3)).heap.size=w1.heap.size+1:=World.size_alloc _ _
 generalize hW2:World.alloc _ _=W2 at hx2 hb5 hz2 ⊢
 have HX2:=Lib.hid ((HX0.out.trans hx1).trans hx2)
 have HB22:=Lib.hid ((HB2.out.ext hx1).ext hx2)
 have HB32:=Lib.hid ((HB3.out.ext hx1).ext hx2)
 have HB42:=Lib.hid ((HB4.out.ext hx1).ext hx2)
 have HB5:=Lib.hid hb5
 have HZ:=Lib.hid (show w.heap.size+3≤w1.heap.size∧W2.heap.size=w1.heap.size+1 from ⟨by rw [←HZ0.out];exact hx1.size,hz2⟩)
 have HMC:=Lib.hid (MuC.of_blk HB32.out)
 have HOX:=Lib.hid (HH.out.boxes (Nw.of HX2.out))
 clear hW2 hx1 hx2 hb5 hz2 c2 HX0 HB2 HB3 HB4 HZ0
 have k0:=HMC.out.kind
 go_upto_region 4 with fail
 have hst:stepM m M=casM M m:=by
  obtain ⟨kd,k,tk,i,had,was,has,v,l⟩:=m
  have hk:kd=4:=HKD.out
  subst hk
  rw [stepM];rfl
 obtain ⟨v0,v1,v2,v3,v4,v5⟩:=HMC.out.v6
 have b1:=HMC.out.c1
 have b2':=HMC.out.c2
 have b3:W2.cell? ⟨w.heap.size+1,3,none⟩=some (.int .i64 m.i):=HMC.out 3 _ rfl
 have b2:W2.cell? ⟨w.heap.size,0,none⟩=some (.pointer (some ⟨O,0,none⟩)):=HB22.out.cell 0
 have hmw:RMu W2 (Lt W2.heap.size) m c:=(HM.out.agree (HX2.out.agree fun b hb=>hb.1)).mono fun b hb=>Nat.lt_of_lt_of_le hb.1 HX2.out.size
 have hput:=cas_any (m:=m) (c:=c) HOX.out (fun b hb=>hb.elim (fun e=>Nat.lt_of_lt_of_le (HHH.out b e) HX2.out.size) fun e=>e.2) (by have:=HD.out;have:=HBU.out;omega) HEL.out hmw (by have:=HTT.out;omega) (HL.out.nw (Nw.of HX2.out))
 rw [←hst,HR.out] at hput
 clear hst
 have HPUT:=Lib.hid hput
 clear hput hmw
 go_wp2_with (refine load_mu rfl (.tmp 3) rfl (w.heap.size+1) 0 rfl m c HMC.out ?_)
 refine HPUT.out.mono ?_
 rintro e w3 ⟨rfl,d1,hg⟩
 have HG:=Lib.hid (hg.more (m:=budM m M) (by have:=HBU.out;omega))
 have hb4:=hg.go.sb.blk HB42.out (fun e=>by have:=HH.out.ov.own_lt e;omega)
 have c4:w3.cell? ⟨w.heap.size+1+1,0,none⟩=some (.int .i64 0):=hb4.cell 0
 have f4:=hb4.frozen 0
 clear hg hb4 k0
 go_wp2_with fail
 refine leaves_cons (f:=77) (args:=#[.pointer (some ⟨w.heap.size+1+1,0,none⟩),.pointer (some ⟨w.heap.size,0,none⟩),.pointer (some ⟨w1.heap.size,0,none⟩)]) (by simp) (by simp [go_sem]) ?_
 refine (do_door (code:=r.1) (Nw.of HX2.out) HOX.out (fun b e=>HH.out.ov.own_lt e) HG.out (by have:=HG.out.few;have:=HD.out;omega) HB42.out HB22.out HB5.out (by omega) (by omega) (by have:=HZ.out;omega) (by omega) (by have:=HZ.out;omega)).mono ?_
 rintro e u' w'' ⟨rfl,rfl,hb,d2,hg⟩
 have q4:w''.cell? ⟨w.heap.size+1+1,0,none⟩=some (.int .i64 r.1):=hb.cell 0
 have hfin:=do_fin (r:=r) HNO.out hg
 clear hb hg
 simp [Leaves,settle,results,Tryz.results49,go_sem,q4,hfin]
theorem do_kind_5 {H:Nat→Prop} {w:World} {O:Nat} {d:OD} {M:List Ent} {m:Mu} {c:MuS} (h:OvX H w O d M) (hH:∀ b,H b→b<w.heap.size) (hG:∀ b,b<6→H b) (hm:RMu w (fun b=>b<w.heap.size∧¬OvB O d b) m c) (hL:LibQ w)
  (hd:d.us.length+budM m M≤1000000) (hl:(entsT d.T).length≤1000000) (ht:totM m≤1000000) (hk:m.kd=5) :
  Calls Tryz.prog 49 #[.pointer (some ⟨O,0,none⟩),aggMu m c] w fun e w'=>e=.returned (.int .i64 (stepM m M).1)∧∃ d',GoX H w O d (stepM m M).2 (budM m M) w' d':=by
 have hmf:∀ (fn:Fn) (first cap:Array Value) (w:World),(Instr.makeFunc fn first cap).run Tryz.prog w=.ok (.func fn first cap) w:=fun _ _ _ _=>rfl
 have e1:(m.kd == 1)=false:=by simp [hk]
 have e2:(m.kd == 2)=false:=by simp [hk]
 have e3:(m.kd == 3)=false:=by simp [hk]
 have e4:(m.kd == 4)=false:=by simp [hk]
 have e5:(m.kd == 5)=true:=by simp [hk]
 have HD:=Lib.hid hd
 have HEL:=Lib.hid hl
 have HTT:=Lib.hid ht
 have HBU:=Lib.hid (bud_pos m M)
 have HKD:=Lib.hid hk
 clear hd hl ht hk
 obtain ⟨r,hr⟩:∃ r,stepM m M=r:=⟨_,rfl⟩
 rw [hr]
 have HNO:=Lib.hid (show r.1≠0→r.2=M from fun h=>by rw [←hr] at h ⊢;exact stepM_no h)
 have HR:=Lib.hid hr
 clear hr
 go_enter_defers Tryz.func49,Tryz.ntmps49
 go_upto_region 1 with fail
 generalize hW0:World.alloc _ _=W0
 obtain ⟨hx0,hz0,hb2,hb3,hb4⟩:=three_blocks w _ _ _ _ _ _ W0 hW0
 have c2:W0.cell? ⟨w.heap.size,0,none⟩=some (.pointer (some ⟨O,0,none⟩)):=hb2.cell 0
 have hmark:=mark_ov (h.ov.nw (Nw.of hx0))
 have HMK:=Lib.hid hmark
 have HX0:=Lib.hid hx0
 have HB2:=Lib.hid hb2
 have HB3:=Lib.hid hb3
 have HB4:=Lib.hid hb4
 have HZ0:=Lib.hid hz0
 have HH:=Lib.hid h
 have HHH:=Lib.hid hH
 have HG6:=Lib.hid hG
 have HM:=Lib.hid hm
 have HL:=Lib.hid hL
 clear hW0 hx0 hz0 hb2 hb3 hb4 hmark h hH hG hm hL
 go_wp2_with fail
 refine HMK.out.mono ?_
 rintro e w1 ⟨rfl,hx1⟩
 go_upto_region 2 with fail
 have hx2:=(Ext.refl w1).alloc #[.int .i64 (d.us.length:Int)] 3
 have hb5:=Blk.new w1 3 #[.int .i64 (d.us.length:Int)]
 have hz2:(w1.alloc (.cells #[.int .i64 (d.us.length:Int)] 3)).heap.size=w1.heap.size+1:=World.size_alloc _ _
 generalize hW2:World.alloc _ _=W2 at hx2 hb5 hz2 ⊢
 have HX2:=Lib.hid ((HX0.out.trans hx1).trans hx2)
 have HB22:=Lib.hid ((HB2.out.ext hx1).ext hx2)
 have HB32:=Lib.hid ((HB3.out.ext hx1).ext hx2)
 have HB42:=Lib.hid ((HB4.out.ext hx1).ext hx2)
 have HB5:=Lib.hid hb5
 have HZ:=Lib.hid (show w.heap.size+3≤w1.heap.size∧W2.heap.size=w1.heap.size+1 from ⟨by rw [←HZ0.out];exact hx1.size,hz2⟩)
 have HMC:=Lib.hid (MuC.of_blk HB32.out)
 have HOX:=Lib.hid (HH.out.boxes (Nw.of HX2.out))
 clear hW2 hx1 hx2 hb5 hz2 c2 HX0 HB2 HB3 HB4 HZ0
 have k0:=HMC.out.kind
 go_upto_region 4 with fail
 have hst:stepM m M=appM M m.k m.v:=by
  obtain ⟨kd,k,tk,i,had,was,has,v,l⟩:=m
  have hk:kd=5:=HKD.out
  subst hk
  rw [stepM];rfl
 obtain ⟨v0,v1,v2,v3,v4,v5⟩:=HMC.out.v6
 have b1:=HMC.out.c1
 have b2':=HMC.out.c2
 have b3:W2.cell? ⟨w.heap.size+1,3,none⟩=some (.int .i64 m.i):=HMC.out 3 _ rfl
 have b2:W2.cell? ⟨w.heap.size,0,none⟩=some (.pointer (some ⟨O,0,none⟩)):=HB22.out.cell 0
 have hmw:RMu W2 (Lt W2.heap.size) m c:=(HM.out.agree (HX2.out.agree fun b hb=>hb.1)).mono fun b hb=>Nat.lt_of_lt_of_le hb.1 HX2.out.size
 have hput:=behind_any (k:=m.k) HOX.out (fun b hb=>hb.elim (fun e=>Nat.lt_of_lt_of_le (HHH.out b e) HX2.out.size) fun e=>e.2) (by have:=HD.out;have:=HBU.out;omega) HEL.out hmw.parts.2.2.1 hmw.parts.2.1 (Nat.le_trans (totM_v m).1 (by have:=HTT.out;omega)) (HL.out.nw (Nw.of HX2.out))
 rw [←hst,HR.out] at hput
 clear hst
 have HPUT:=Lib.hid hput
 clear hput hmw
 go_wp2_with fail
 refine HPUT.out.mono ?_
 rintro e w3 ⟨rfl,d1,hg⟩
 have HG:=Lib.hid (hg.more (m:=budM m M) (by have:=HBU.out;omega))
 have hb4:=hg.go.sb.blk HB42.out (fun e=>by have:=HH.out.ov.own_lt e;omega)
 have c4:w3.cell? ⟨w.heap.size+1+1,0,none⟩=some (.int .i64 0):=hb4.cell 0
 have f4:=hb4.frozen 0
 clear hg hb4 k0
 go_wp2_with fail
 refine leaves_cons (f:=77) (args:=#[.pointer (some ⟨w.heap.size+1+1,0,none⟩),.pointer (some ⟨w.heap.size,0,none⟩),.pointer (some ⟨w1.heap.size,0,none⟩)]) (by simp) (by simp [go_sem]) ?_
 refine (do_door (code:=r.1) (Nw.of HX2.out) HOX.out (fun b e=>HH.out.ov.own_lt e) HG.out (by have:=HG.out.few;have:=HD.out;omega) HB42.out HB22.out HB5.out (by omega) (by omega) (by have:=HZ.out;omega) (by omega) (by have:=HZ.out;omega)).mono ?_
 rintro e u' w'' ⟨rfl,rfl,hb,d2,hg⟩
 have q4:w''.cell? ⟨w.heap.size+1+1,0,none⟩=some (.int .i64 r.1):=hb.cell 0
 have hfin:=do_fin (r:=r) HNO.out hg
 clear hb hg
 simp [Leaves,settle,results,Tryz.results49,go_sem,q4,hfin]
theorem do_kind_6 {H:Nat→Prop} {w:World} {O:Nat} {d:OD} {M:List Ent} {m:Mu} {c:MuS} (h:OvX H w O d M) (hH:∀ b,H b→b<w.heap.size) (hG:∀ b,b<6→H b) (hm:RMu w (fun b=>b<w.heap.size∧¬OvB O d b) m c) (hL:LibQ w)
  (hd:d.us.length+budM m M≤1000000) (hl:(entsT d.T).length≤1000000) (ht:totM m≤1000000) (hk:m.kd=6) :
  Calls Tryz.prog 49 #[.pointer (some ⟨O,0,none⟩),aggMu m c] w fun e w'=>e=.returned (.int .i64 (stepM m M).1)∧∃ d',GoX H w O d (stepM m M).2 (budM m M) w' d':=by
 have hmf:∀ (fn:Fn) (first cap:Array Value) (w:World),(Instr.makeFunc fn first cap).run Tryz.prog w=.ok (.func fn first cap) w:=fun _ _ _ _=>rfl
 have e1:(m.kd == 1)=false:=by simp [hk]
 have e2:(m.kd == 2)=false:=by simp [hk]
 have e3:(m.kd == 3)=false:=by simp [hk]
 have e4:(m.kd == 4)=false:=by simp [hk]
 have e5:(m.kd == 5)=false:=by simp [hk]
 have e6:(m.kd == 6)=true:=by simp [hk]
 have HD:=Lib.hid hd
 have HEL:=Lib.hid hl
 have HTT:=Lib.hid ht
 have HBU:=Lib.hid (bud_pos m M)
 have HKD:=Lib.hid hk
 clear hd hl ht hk
 obtain ⟨r,hr⟩:∃ r,stepM m M=r:=⟨_,rfl⟩
 rw [hr]
 have HNO:=Lib.hid (show r.1≠0→r.2=M from fun h=>by rw [←hr] at h ⊢;exact stepM_no h)
 have HR:=Lib.hid hr
 clear hr
 go_enter_defers Tryz.func49,Tryz.ntmps49
 go_upto_region 1 with fail
 generalize hW0:World.alloc _ _=W0
 obtain ⟨hx0,hz0,hb2,hb3,hb4⟩:=three_blocks w _ _ _ _ _ _ W0 hW0
 have c2:W0.cell? ⟨w.heap.size,0,none⟩=some (.pointer (some ⟨O,0,none⟩)):=hb2.cell 0
 have hmark:=mark_ov (h.ov.nw (Nw.of hx0))
 have HMK:=Lib.hid hmark
 have HX0:=Lib.hid hx0
 have HB2:=Lib.hid hb2
 have HB3:=Lib.hid hb3
 have HB4:=Lib.hid hb4
 have HZ0:=Lib.hid hz0
 have HH:=Lib.hid h
 have HHH:=Lib.hid hH
 have HG6:=Lib.hid hG
 have HM:=Lib.hid hm
 have HL:=Lib.hid hL
 clear hW0 hx0 hz0 hb2 hb3 hb4 hmark h hH hG hm hL
 go_wp2_with fail
 refine HMK.out.mono ?_
 rintro e w1 ⟨rfl,hx1⟩
 go_upto_region 2 with fail
 have hx2:=(Ext.refl w1).alloc #[.int .i64 (d.us.length:Int)] 3
 have hb5:=Blk.new w1 3 #[.int .i64 (d.us.length:Int)]
 have hz2:(w1.alloc (.cells #[.int .i64 (d.us.length:Int)] 3)).heap.size=w1.heap.size+1:=World.size_alloc _ _
 generalize hW2:World.alloc _ _=W2 at hx2 hb5 hz2 ⊢
 have HX2:=Lib.hid ((HX0.out.trans hx1).trans hx2)
 have HB22:=Lib.hid ((HB2.out.ext hx1).ext hx2)
 have HB32:=Lib.hid ((HB3.out.ext hx1).ext hx2)
 have HB42:=Lib.hid ((HB4.out.ext hx1).ext hx2)
 have HB5:=Lib.hid hb5
 have HZ:=Lib.hid (show w.heap.size+3≤w1.heap.size∧W2.heap.size=w1.heap.size+1 from ⟨by rw [←HZ0.out];exact hx1.size,hz2⟩)
 have HMC:=Lib.hid (MuC.of_blk HB32.out)
 have HOX:=Lib.hid (HH.out.boxes (Nw.of HX2.out))
 clear hW2 hx1 hx2 hb5 hz2 c2 HX0 HB2 HB3 HB4 HZ0
 have k0:=HMC.out.kind
 go_upto_region 4 with fail
 have hst:stepM m M=moveM M m.k m.tk:=by
  obtain ⟨kd,k,tk,i,had,was,has,v,l⟩:=m
  have hk:kd=6:=HKD.out
  subst hk
  rw [stepM];rfl
 obtain ⟨v0,v1,v2,v3,v4,v5⟩:=HMC.out.v6
 have b1:=HMC.out.c1
 have b2':=HMC.out.c2
 have b3:W2.cell? ⟨w.heap.size+1,3,none⟩=some (.int .i64 m.i):=HMC.out 3 _ rfl
 have b2:W2.cell? ⟨w.heap.size,0,none⟩=some (.pointer (some ⟨O,0,none⟩)):=HB22.out.cell 0
 have hmw:RMu W2 (Lt W2.heap.size) m c:=(HM.out.agree (HX2.out.agree fun b hb=>hb.1)).mono fun b hb=>Nat.lt_of_lt_of_le hb.1 HX2.out.size
 have hput:=move_any (f:=m.k) (t:=m.tk) HOX.out (fun b hb=>hb.elim (fun e=>Nat.lt_of_lt_of_le (HHH.out b e) HX2.out.size) fun e=>e.2) (by have:=HD.out;have:=HBU.out;omega) HEL.out hmw.parts.2.2.1 (Nat.le_trans (totM_tk m) (by have:=HTT.out;omega)) (HL.out.nw (Nw.of HX2.out)) (fun b hb=>.inl (HG6.out b hb))
 rw [←hst,HR.out] at hput
 clear hst
 have HPUT:=Lib.hid hput
 clear hput hmw
 go_wp2_with fail
 refine HPUT.out.mono ?_
 rintro e w3 ⟨rfl,d1,hg⟩
 have HG:=Lib.hid (hg.more (m:=budM m M) (by have:=HBU.out;omega))
 have hb4:=hg.go.sb.blk HB42.out (fun e=>by have:=HH.out.ov.own_lt e;omega)
 have c4:w3.cell? ⟨w.heap.size+1+1,0,none⟩=some (.int .i64 0):=hb4.cell 0
 have f4:=hb4.frozen 0
 clear hg hb4 k0
 go_wp2_with fail
 refine leaves_cons (f:=77) (args:=#[.pointer (some ⟨w.heap.size+1+1,0,none⟩),.pointer (some ⟨w.heap.size,0,none⟩),.pointer (some ⟨w1.heap.size,0,none⟩)]) (by simp) (by simp [go_sem]) ?_
 refine (do_door (code:=r.1) (Nw.of HX2.out) HOX.out (fun b e=>HH.out.ov.own_lt e) HG.out (by have:=HG.out.few;have:=HD.out;omega) HB42.out HB22.out HB5.out (by omega) (by omega) (by have:=HZ.out;omega) (by omega) (by have:=HZ.out;omega)).mono ?_
 rintro e u' w'' ⟨rfl,rfl,hb,d2,hg⟩
 have q4:w''.cell? ⟨w.heap.size+1+1,0,none⟩=some (.int .i64 r.1):=hb.cell 0
 have hfin:=do_fin (r:=r) HNO.out hg
 clear hb hg
 simp [Leaves,settle,results,Tryz.results49,go_sem,q4,hfin]
theorem do_kind_o {H:Nat→Prop} {w:World} {O:Nat} {d:OD} {M:List Ent} {m:Mu} {c:MuS} (h:OvX H w O d M) (hH:∀ b,H b→b<w.heap.size) (hG:∀ b,b<6→H b) (hm:RMu w (fun b=>b<w.heap.size∧¬OvB O d b) m c) (hL:LibQ w)
  (hd:d.us.length+budM m M≤1000000) (hl:(entsT d.T).length≤1000000) (ht:totM m≤1000000) (hk:m.kd≠1∧m.kd≠2∧m.kd≠3∧m.kd≠4∧m.kd≠5∧m.kd≠6∧m.kd≠7) :
  Calls Tryz.prog 49 #[.pointer (some ⟨O,0,none⟩),aggMu m c] w fun e w'=>e=.returned (.int .i64 (stepM m M).1)∧∃ d',GoX H w O d (stepM m M).2 (budM m M) w' d':=by
 have hmf:∀ (fn:Fn) (first cap:Array Value) (w:World),(Instr.makeFunc fn first cap).run Tryz.prog w=.ok (.func fn first cap) w:=fun _ _ _ _=>rfl
 have e1:(m.kd == 1)=false:=beq_eq_false_iff_ne.2 hk.1
 have e2:(m.kd == 2)=false:=beq_eq_false_iff_ne.2 hk.2.1
 have e3:(m.kd == 3)=false:=beq_eq_false_iff_ne.2 hk.2.2.1
 have e4:(m.kd == 4)=false:=beq_eq_false_iff_ne.2 hk.2.2.2.1
 have e5:(m.kd == 5)=false:=beq_eq_false_iff_ne.2 hk.2.2.2.2.1
 have e6:(m.kd == 6)=false:=beq_eq_false_iff_ne.2 hk.2.2.2.2.2.1
 have e7:(m.kd == 7)=false:=beq_eq_false_iff_ne.2 hk.2.2.2.2.2.2
 have HD:=Lib.hid hd
 have HEL:=Lib.hid hl
 have HTT:=Lib.hid ht
 have HBU:=Lib.hid (bud_pos m M)
 have HKD:=Lib.hid hk
 clear hd hl ht hk
 obtain ⟨r,hr⟩:∃ r,stepM m M=r:=⟨_,rfl⟩
 rw [hr]
 have HNO:=Lib.hid (show r.1≠0→r.2=M from fun h=>by rw [←hr] at h ⊢;exact stepM_no h)
 have HR:=Lib.hid hr
 clear hr
 go_enter_defers Tryz.func49,Tryz.ntmps49
 go_upto_region 1 with fail
 generalize hW0:World.alloc _ _=W0
 obtain ⟨hx0,hz0,hb2,hb3,hb4⟩:=three_blocks w _ _ _ _ _ _ W0 hW0
 have c2:W0.cell? ⟨w.heap.size,0,none⟩=some (.pointer (some ⟨O,0,none⟩)):=hb2.cell 0
 have hmark:=mark_ov (h.ov.nw (Nw.of hx0))
 have HMK:=Lib.hid hmark
 have HX0:=Lib.hid hx0
 have HB2:=Lib.hid hb2
 have HB3:=Lib.hid hb3
 have HB4:=Lib.hid hb4
 have HZ0:=Lib.hid hz0
 have HH:=Lib.hid h
 have HHH:=Lib.hid hH
 have HG6:=Lib.hid hG
 have HM:=Lib.hid hm
 have HL:=Lib.hid hL
 clear hW0 hx0 hz0 hb2 hb3 hb4 hmark h hH hG hm hL
 go_wp2_with fail
 refine HMK.out.mono ?_
 rintro e w1 ⟨rfl,hx1⟩
 go_upto_region 2 with fail
 have hx2:=(Ext.refl w1).alloc #[.int .i64 (d.us.length:Int)] 3
 have hb5:=Blk.new w1 3 #[.int .i64 (d.us.length:Int)]
 have hz2:(w1.alloc (.cells #[.int .i64 (d.us.length:Int)] 3)).heap.size=w1.heap.size+1:=World.size_alloc _ _
 generalize hW2:World.alloc _ _=W2 at hx2 hb5 hz2 ⊢
 have HX2:=Lib.hid ((HX0.out.trans hx1).trans hx2)
 have HB22:=Lib.hid ((HB2.out.ext hx1).ext hx2)
 have HB32:=Lib.hid ((HB3.out.ext hx1).ext hx2)
 have HB42:=Lib.hid ((HB4.out.ext hx1).ext hx2)
 have HB5:=Lib.hid hb5
 have HZ:=Lib.hid (show w.heap.size+3≤w1.heap.size∧W2.heap.size=w1.heap.size+1 from ⟨by rw [←HZ0.out];exact hx1.size,hz2⟩)
 have HMC:=Lib.hid (MuC.of_blk HB32.out)
 have HOX:=Lib.hid (HH.out.boxes (Nw.of HX2.out))
 clear hW2 hx1 hx2 hb5 hz2 c2 HX0 HB2 HB3 HB4 HZ0
 have k0:=HMC.out.kind
 go_upto_region 4 with fail
 have hst:r=(9,M):=by
  rw [←HR.out]
  obtain ⟨kd,k,tk,i,had,was,has,v,l⟩:=m
  have hk:kd≠1∧kd≠2∧kd≠3∧kd≠4∧kd≠5∧kd≠6∧kd≠7:=HKD.out
  rw [stepM,if_neg hk.1,if_neg hk.2.1,if_neg hk.2.2.1,if_neg hk.2.2.2.1,if_neg hk.2.2.2.2.1,if_neg hk.2.2.2.2.2.1,if_neg hk.2.2.2.2.2.2]
 subst hst
 have HG:=Lib.hid (HOX.out.stay (n:=budM m M) (Sb.refl _ W2))
 have c4:W2.cell? ⟨w.heap.size+1+1,0,none⟩=some (.int .i64 0):=HB42.out.cell 0
 have f4:=HB42.out.frozen 0
 go_wp2_with fail
 refine leaves_cons (f:=77) (args:=#[.pointer (some ⟨w.heap.size+1+1,0,none⟩),.pointer (some ⟨w.heap.size,0,none⟩),.pointer (some ⟨w1.heap.size,0,none⟩)]) (by simp) (by simp [go_sem]) ?_
 refine (do_door (code:=9) (Nw.of HX2.out) HOX.out (fun b e=>HH.out.ov.own_lt e) HG.out (by have:=HG.out.few;have:=HD.out;omega) HB42.out HB22.out HB5.out (by omega) (by omega) (by have:=HZ.out;omega) (by omega) (by have:=HZ.out;omega)).mono ?_
 rintro e u' w'' ⟨rfl,rfl,hb,d2,hg⟩
 have q4:w''.cell? ⟨w.heap.size+1+1,0,none⟩=some (.int .i64 9):=hb.cell 0
 have hfin:=(show ∃ d',GoX H w O d M (budM m M) w'' d' from ⟨d2,hg⟩)
 clear hb hg
 simp [Leaves,settle,results,Tryz.results49,go_sem,q4,hfin]
theorem seqM_at {l:List Mu} {j:Nat} {x:Mu} (h:l[j]? = some x) (M:List Ent):seqM (l.drop j) M=if (stepM x M).1≠0 then ((stepM x M).1,M) else seqM (l.drop (j+1)) (stepM x M).2:=by
 obtain ⟨h1,h2⟩:=List.getElem?_eq_some_iff.1 h
 rw [List.drop_eq_getElem_cons h1,h2,seqM]
def DoIH (m:Mu):Prop:=∀ (j:Nat) (x:Mu),m.l[j]? = some x→∀ (y:MuS) (H:Nat→Prop) (W:World) (O:Nat) (d:OD) (M:List Ent),OvX H W O d M→(∀ b,H b→b<W.heap.size)→(∀ b,b<6→H b)→RMu W (fun b=>b<W.heap.size∧¬OvB O d b) x y→LibQ W→
 d.us.length+budM x M≤1000000→(entsT d.T).length≤1000000→totM x≤1000000→
 Calls Tryz.prog 49 #[.pointer (some ⟨O,0,none⟩),aggMu x y] W fun e w'=>e=.returned (.int .i64 (stepM x M).1)∧∃ d',GoX H W O d (stepM x M).2 (budM x M) w' d'
theorem do_kind_7 {H:Nat→Prop} {w:World} {O:Nat} {d:OD} {M:List Ent} {m:Mu} {c:MuS} (h:OvX H w O d M) (hH:∀ b,H b→b<w.heap.size) (hG:∀ b,b<6→H b) (hm:RMu w (fun b=>b<w.heap.size∧¬OvB O d b) m c) (hL:LibQ w)
  (hd:d.us.length+budM m M≤1000000) (hl:(entsT d.T).length≤1000000) (ht:totM m≤1000000) (hk:m.kd=7) (hkey:m.k.size=0→m.had=false)
  (ih:DoIH m) :
  Calls Tryz.prog 49 #[.pointer (some ⟨O,0,none⟩),aggMu m c] w fun e w'=>e=.returned (.int .i64 (stepM m M).1)∧∃ d',GoX H w O d (stepM m M).2 (budM m M) w' d':=by
 have hmf:∀ (fn:Fn) (first cap:Array Value) (w:World),(Instr.makeFunc fn first cap).run Tryz.prog w=.ok (.func fn first cap) w:=fun _ _ _ _=>rfl
 have e1:(m.kd == 1)=false:=by simp [hk]
 have e2:(m.kd == 2)=false:=by simp [hk]
 have e3:(m.kd == 3)=false:=by simp [hk]
 have e4:(m.kd == 4)=false:=by simp [hk]
 have e5:(m.kd == 5)=false:=by simp [hk]
 have e6:(m.kd == 6)=false:=by simp [hk]
 have e7:(m.kd == 7)=true:=by simp [hk]
 have HD:=Lib.hid hd
 have HEL:=Lib.hid hl
 have HTT:=Lib.hid ht
 have HBU:=Lib.hid (bud_pos m M)
 have HKD:=Lib.hid hk
 have HKEY:=Lib.hid hkey
 have HIH:=Lib.hid ih
 clear hd hl ht hk hkey ih
 obtain ⟨r,hr⟩:∃ r,stepM m M=r:=⟨_,rfl⟩
 rw [hr]
 have HNO:=Lib.hid (show r.1≠0→r.2=M from fun h=>by rw [←hr] at h ⊢;exact stepM_no h)
 have HR:=Lib.hid hr
 clear hr
 go_enter_defers Tryz.func49,Tryz.ntmps49
 go_upto_region 1 with fail
 generalize hW0:World.alloc _ _=W0
 obtain ⟨hx0,hz0,hb2,hb3,hb4⟩:=three_blocks w _ _ _ _ _ _ W0 hW0
 have c2:W0.cell? ⟨w.heap.size,0,none⟩=some (.pointer (some ⟨O,0,none⟩)):=hb2.cell 0
 have hmark:=mark_ov (h.ov.nw (Nw.of hx0))
 have HMK:=Lib.hid hmark
 have HX0:=Lib.hid hx0
 have HB2:=Lib.hid hb2
 have HB3:=Lib.hid hb3
 have HB4:=Lib.hid hb4
 have HZ0:=Lib.hid hz0
 have HH:=Lib.hid h
 have HHH:=Lib.hid hH
 have HG6:=Lib.hid hG
 have HM:=Lib.hid hm
 have HL:=Lib.hid hL
 clear hW0 hx0 hz0 hb2 hb3 hb4 hmark h hH hG hm hL
 go_wp2_with fail
 refine HMK.out.mono ?_
 rintro e w1 ⟨rfl,hx1⟩
 go_upto_region 2 with fail
 have hx2:=(Ext.refl w1).alloc #[.int .i64 (d.us.length:Int)] 3
 have hb5:=Blk.new w1 3 #[.int .i64 (d.us.length:Int)]
 have hz2:(w1.alloc (.cells #[.int .i64 (d.us.length:Int)] 3)).heap.size=w1.heap.size+1:=World.size_alloc _ _
 generalize hW2:World.alloc _ _=W2 at hx2 hb5 hz2 ⊢
 have HX2:=Lib.hid ((HX0.out.trans hx1).trans hx2)
 have HB22:=Lib.hid ((HB2.out.ext hx1).ext hx2)
 have HB32:=Lib.hid ((HB3.out.ext hx1).ext hx2)
 have HB42:=Lib.hid ((HB4.out.ext hx1).ext hx2)
 have HB5:=Lib.hid hb5
 have HZ:=Lib.hid (show w.heap.size+3≤w1.heap.size∧W2.heap.size=w1.heap.size+1 from ⟨by rw [←HZ0.out];exact hx1.size,hz2⟩)
 have HMC:=Lib.hid (MuC.of_blk HB32.out)
 have HOX:=Lib.hid (HH.out.boxes (Nw.of HX2.out))
 clear hW2 hx1 hx2 hb5 hz2 c2 HX0 HB2 HB3 HB4 HZ0
 have k0:=HMC.out.kind
 go_upto_region 4 with fail
 go_upto_region 19 with fail
 have hseq:stepM m M=if asM M m.k m.had m.was then (if (seqM m.l M).1≠0 then ((seqM m.l M).1,M) else seqM m.l M) else (13,M):=by
  obtain ⟨kd,k,tk,i,had,was,has,v,l⟩:=m
  have hk:kd=7:=HKD.out
  subst hk
  rw [stepM];rfl
 rw [HR.out] at hseq
 have HSEQ:=Lib.hid hseq
 have b1:=HMC.out.c1
 have b2:W2.cell? ⟨w.heap.size,0,none⟩=some (.pointer (some ⟨O,0,none⟩)):=HB22.out.cell 0
 have hmw:RMu W2 (Lt W2.heap.size) m c:=(HM.out.agree (HX2.out.agree fun b hb=>hb.1)).mono fun b hb=>Nat.lt_of_lt_of_le hb.1 HX2.out.size
 have HSAID:=Lib.hid (said_any HOX.out HEL.out hmw)
 clear hseq hmw k0
 go_cut [68] from 60 to 68 (fun v w'=>v=.bool (!asM M m.k m.had m.was)∧Nw W2 w')
 case first=>
  by_cases hk0:m.k.size=0
  ·have g0:=empty_text hk0
   have ha:asM M m.k m.had m.was=true:=by
    have hn:getE M m.k=none:=by
     cases hg:getE M m.k with
     | none=>rfl
     | some y=>
       have:=(HH.out.rel.ok.get hg).1
       unfold mayK at this
       rw [if_pos hk0] at this;cases this
    unfold asM
    rw [hn,HKEY.out hk0];rfl
   have HA:=Lib.hid ha
   clear ha hk0
   go_wp2_with fail
   go_meet
   exact ⟨by rw [HA.out] <;> rfl,Sb.refl _ _⟩
  have g0:=full_text hk0
  clear hk0
  repeat (first | (refine wp_load_mid 31 (.tmp 3) rfl (w.heap.size+1) 0 rfl (cellsMu m c) _ HMC.out.range Tryz.underlying31 rfl (by rw [len_mu];exact Tryz.infoMut) ?_) | go_values | go_skip | go_guarded | go_step)
  refine HSAID.out.mono ?_
  rintro e w3 ⟨rfl,hx3⟩
  have HX3:=Lib.hid (Nw.of hx3)
  clear hx3
  go_wp2_with fail
  go_meet
  exact ⟨rfl,HX3.out⟩
 obtain ⟨hv,hn⟩:=hcut
 subst hv
 have HNC:=Lib.hid hn
 have hb4:=hn.blk HB42.out
 have c4:wc.cell? ⟨w.heap.size+1+1,0,none⟩=some (.int .i64 0):=hb4.cell 0
 have f4:=hb4.frozen 0
 have HC:=Lib.hid (HMC.out.nw hn)
 clear hn hb4 b1 b2
 rcases Bool.eq_false_or_eq_true (asM M m.k m.had m.was) with ha | ha
 rotate_left
 ·have hs:=HSEQ.out
  rw [if_neg (by rw [ha];decide)] at hs
  subst hs
  have HG:=Lib.hid (HOX.out.stay (n:=budM m M) HNC.out)
  rw [show (!asM M m.k m.had m.was)=true by rw [ha];rfl]
  clear ha
  go_wp2_with fail
  refine leaves_cons (f:=77) (args:=#[.pointer (some ⟨w.heap.size+1+1,0,none⟩),.pointer (some ⟨w.heap.size,0,none⟩),.pointer (some ⟨w1.heap.size,0,none⟩)]) (by simp) (by simp [go_sem]) ?_
  refine (do_door (code:=13) (Nw.of HX2.out) HOX.out (fun b e=>HH.out.ov.own_lt e) HG.out (by have:=HG.out.few;have:=HD.out;omega) HB42.out HB22.out HB5.out (by omega) (by omega) (by have:=HZ.out;omega) (by omega) (by have:=HZ.out;omega)).mono ?_
  rintro e u' w'' ⟨rfl,rfl,hb,d2,hg⟩
  have q4:w''.cell? ⟨w.heap.size+1+1,0,none⟩=some (.int .i64 13):=hb.cell 0
  have hfin:=(show ∃ d',GoX H w O d M (budM m M) w'' d' from ⟨d2,hg⟩)
  clear hb hg
  simp [Leaves,settle,results,Tryz.results49,go_sem,q4,hfin]
 have hs:=HSEQ.out
 rw [if_pos ha] at hs
 have HS:=Lib.hid hs
 rw [show (!asM M m.k m.had m.was)=false by rw [ha];rfl]
 have c18:wc.cell? ⟨w.heap.size+1,8+10,none⟩=some (.slice c.s.a m.l.length c.s.c):=HC.out 18 _ rfl
 have hlen:=HM.out.len
 clear hs ha c4 f4
 go_wp2_with fail
 go_loopw [72] (fun v72 wr=>∃ (j:Nat) (d1:OD) (M1:List Ent),v72=.int .i64 (j:Int)∧j≤m.l.length∧Hid (GoX (HB H w.heap.size W2.heap.size) W2 O d M1 (sizeMs (m.l.take j)*(2*(M.length+sizeM m)+1)) wr d1)∧Hid (seqM (m.l.drop j) M1=seqM m.l M)∧Hid (M1.length≤M.length+sizeMs (m.l.take j))) (fun v _=>m.l.length - (intOf v).toNat)
 case atStart=>exact ⟨0,d,M,rfl,Nat.zero_le _,Lib.hid (HOX.out.stay HNC.out),Lib.hid rfl,Lib.hid (Nat.le_add_right _ _)⟩
 obtain ⟨j,d1,M1,rfl,hj,HGX,HSQ,HML⟩:=hrel
 by_cases hlt:j<m.l.length
 ·have l1:(j:Int)<(m.l.length:Int):=by omega
  have l1':decide ((j:Int)<(m.l.length:Int))=true:=decide_eq_true l1
  have l0:(0:Int)≤(j:Int):=by omega
  obtain ⟨x,hx⟩:∃ x,m.l[j]? = some x:=⟨_,List.getElem?_eq_getElem hlt⟩
  obtain ⟨b,o,y,hsa,hbf,hlc,hcm,hcl,hrx⟩:=HM.out.at hx
  have hsz:=HX2.out.size
  have htot:Sb (OvB O d) w wr:=((Nw.of HX2.out).any _).trans HGX.out.go.sb
  have HROW:=Lib.hid (show MuC wr b (o+j*19) x y from fun i u hu=>(htot.cell hbf.1 hbf.2).trans (hcl i u hu))
  have hbl:b<wr.heap.size:=Nat.lt_of_lt_of_le hbf.1 htot.size
  have hsx:=sizeMs_take hx
  have hsm:=sizeMs_le m.l (j+1)
  have hse:=sizeM_eq m
  have hml:=HML.out
  have hb1:budM x M1≤sizeM x*(2*(M.length+sizeM m)+1):=Nat.mul_le_mul_left _ (by omega)
  have hb2:sizeMs (m.l.take (j+1))*(2*(M.length+sizeM m)+1)=sizeMs (m.l.take j)*(2*(M.length+sizeM m)+1)+sizeM x*(2*(M.length+sizeM m)+1):=by rw [hsx,Nat.add_mul]
  have hb3:sizeMs (m.l.take (j+1))*(2*(M.length+sizeM m)+1)≤budM m M:=Nat.mul_le_mul_right _ (by omega)
  have hcall:=fun W (hW:Ext wr W)=>HIH.out j x hx y (HB H w.heap.size W2.heap.size) W O d1 M1 (HGX.out.at_.nw (Nw.of hW)) (fun b hb=>Nat.lt_of_lt_of_le (hb.elim (fun e=>Nat.lt_of_lt_of_le (HHH.out b e) hsz) fun e=>e.2) (Nat.le_trans HGX.out.go.sb.size hW.size)) (fun b hb=>.inl (HG6.out b hb))
   ((hrx.agree (fun b hb=>(htot.trans ((Nw.of hW).any _)).block b hb.1 hb.2)).mono fun b hb=>⟨Nat.lt_of_lt_of_le hb.1 (Nat.le_trans htot.size hW.size),fun e=>(HGX.out.go.new b e).elim hb.2 fun e2=>by have:=hb.1;omega⟩)
   (((HL.out.nw (Nw.of HX2.out)).sb HGX.out.go.sb (fun b hb e=>HH.out.ov.out b e (HG6.out b hb))).nw (Nw.of hW)) (by have:=HGX.out.few;have:=HD.out;omega) (by rw [HGX.out.T];exact HEL.out) (Nat.le_trans (totMs_at hx) (Nat.le_trans (totM_l m) HTT.out))
  have HCALL:=Lib.hid hcall
  have HBB:=Lib.hid (show sizeMs (m.l.take j)*(2*(M.length+sizeM m)+1)+budM x M1≤sizeMs (m.l.take (j+1))*(2*(M.length+sizeM m)+1)∧sizeMs (m.l.take (j+1))*(2*(M.length+sizeM m)+1)≤budM m M from ⟨by omega,hb3⟩)
  have HLE:=Lib.hid (show (stepM x M1).2.length≤M.length+sizeMs (m.l.take (j+1)) by have:=stepM_len x M1;omega)
  have hsq:=HSQ.out
  rw [seqM_at hx] at hsq
  have HSQ2:=Lib.hid hsq
  have hb2r:=HGX.out.go.sb.blk HB22.out (fun e=>by have:=HH.out.ov.own_lt e;omega)
  have b2w:wr.cell? ⟨w.heap.size,0,none⟩=some (.pointer (some ⟨O,0,none⟩)):=hb2r.cell 0
  have l2r:=hb2r.lt
  obtain ⟨q,hq⟩:∃ q,stepM x M1=q:=⟨_,rfl⟩
  have HQ:=Lib.hid hq
  rw [hsa]
  clear hsz htot hsx hsm hse hml hb1 hb2 hb3 hcall hsq hb2r hrx hcl hx hq hbf
  go_wp2_with (first | (refine load_mu rfl (.tmp 74) rfl b (o+j*19) rfl x y HROW.out ?_) | (refine fill_mu rfl rfl rfl x y (w0:=wr) (b:=wr.heap.size) rfl ((Ext.refl wr).alloc _ _) (Blk.new wr _ _) rfl rfl rfl ?_;intro w5 hx5 hm5;have HX5:=Lib.hid hx5;have b25:=(hx5.cell l2r).trans b2w;have HM5:=Lib.hid (MuC.of_blk hm5);clear hx5 hm5) | (refine load_mu rfl (.tmp 7) rfl wr.heap.size 0 rfl x y HM5.out ?_))
  refine (HCALL.out _ HX5.out).mono ?_
  rintro e w6 ⟨rfl,d2,hg2⟩
  rw [HQ.out] at hg2 ⊢
  have HG2:=Lib.hid (HGX.out.trans (hg2.since (Nw.of HX5.out)))
  clear hg2 b25 b2w l2r
  by_cases h0:q.1=0
  ·have g0:(q.1 == 0)=true:=by simp [h0]
   have hsq:=HSQ2.out
   have hle:=HLE.out
   rw [HQ.out] at hsq hle
   rw [if_neg (fun h=>h h0)] at hsq
   have HSQ3:=Lib.hid hsq
   have HLE3:=Lib.hid hle
   clear hsq hle h0
   go_wp2_with fail
   go_roundw
   case measure=>simp [intOf];omega
   exact ⟨j+1,d2,q.2,by go_num,hlt,Lib.hid (HG2.out.more HBB.out.1),HSQ3,HLE3⟩
  have g0:(q.1 == 0)=false:=beq_eq_false_iff_ne.2 h0
  have hsq:=HSQ2.out
  rw [HQ.out,if_pos h0] at hsq
  have hs:=HS.out
  rw [←hsq,if_pos h0] at hs
  subst hs
  have HG:=Lib.hid (HG2.out.more (m:=budM m M) (Nat.le_trans HBB.out.1 HBB.out.2))
  have hb4:=HG.out.go.sb.blk HB42.out (fun e=>by have:=HH.out.ov.own_lt e;omega)
  have c4:w6.cell? ⟨w.heap.size+1+1,0,none⟩=some (.int .i64 0):=hb4.cell 0
  have f4:=hb4.frozen 0
  have H0:=Lib.hid h0
  clear hb4 hsq h0
  go_wp2_with fail
  refine leaves_cons (f:=77) (args:=#[.pointer (some ⟨w.heap.size+1+1,0,none⟩),.pointer (some ⟨w.heap.size,0,none⟩),.pointer (some ⟨w1.heap.size,0,none⟩)]) (by simp) (by simp [go_sem]) ?_
  refine (do_door (code:=q.1) (Nw.of HX2.out) HOX.out (fun b e=>HH.out.ov.own_lt e) HG.out (by have:=HG.out.few;have:=HD.out;omega) HB42.out HB22.out HB5.out (by omega) (by omega) (by have:=HZ.out;omega) (by omega) (by have:=HZ.out;omega)).mono ?_
  rintro e u' w'' ⟨rfl,rfl,hb,d2,hg⟩
  have q4:w''.cell? ⟨w.heap.size+1+1,0,none⟩=some (.int .i64 q.1):=hb.cell 0
  have hfin:=(show ∃ d',GoX H w O d M (budM m M) w'' d' from ⟨d2,by rw [if_neg H0.out] at hg;exact hg⟩)
  clear hb hg
  simp [Leaves,settle,results,Tryz.results49,go_sem,q4,hfin]
 obtain rfl:j=m.l.length:=by omega
 have l1:decide ((m.l.length:Int)<(m.l.length:Int))=false:=decide_eq_false (by omega)
 have hsq:=HSQ.out
 rw [List.drop_length,seqM] at hsq
 have hs:=HS.out
 rw [←hsq,if_neg (fun h=>h rfl)] at hs
 subst hs
 have HG:=Lib.hid (HGX.out.more (m:=budM m M) (by rw [List.take_length];exact Nat.mul_le_mul_right _ (by rw [sizeM_eq];omega)))
 have hb4:=HG.out.go.sb.blk HB42.out (fun e=>by have:=HH.out.ov.own_lt e;omega)
 have c4:wr.cell? ⟨w.heap.size+1+1,0,none⟩=some (.int .i64 0):=hb4.cell 0
 have f4:=hb4.frozen 0
 clear hb4 hsq
 go_wp2_with fail
 refine leaves_cons (f:=77) (args:=#[.pointer (some ⟨w.heap.size+1+1,0,none⟩),.pointer (some ⟨w.heap.size,0,none⟩),.pointer (some ⟨w1.heap.size,0,none⟩)]) (by simp) (by simp [go_sem]) ?_
 refine (do_door (code:=0) (Nw.of HX2.out) HOX.out (fun b e=>HH.out.ov.own_lt e) HG.out (by have:=HG.out.few;have:=HD.out;omega) HB42.out HB22.out HB5.out (by omega) (by omega) (by have:=HZ.out;omega) (by omega) (by have:=HZ.out;omega)).mono ?_
 rintro e u' w'' ⟨rfl,rfl,hb,d2,hg⟩
 have q4:w''.cell? ⟨w.heap.size+1+1,0,none⟩=some (.int .i64 0):=hb.cell 0
 have hfin:=(show ∃ d',GoX H w O d M1 (budM m M) w'' d' from ⟨d2,hg⟩)
 clear hb hg
 simp [Leaves,settle,results,Tryz.results49,go_sem,q4,hfin]
end Go.Proofs.YtkhdiakpdafcdaaGreatDoor
namespace Go.Proofs.YtkhdiakpdafcdaaGreatDoor
open Go.RowKit
set_option linter.unusedVariables false
set_option linter.unusedSimpArgs false
theorem nilV_cnt {v:Val} (hw:wfV v) (h:nilV v=true):cntV v≤7168:=by
 obtain ⟨k,b,i,t,l,ok,ov⟩:=v
 simp only [nilV,Val.kind,Val.b,Val.i,Val.t,Val.l,Val.ok,Bool.and_eq_true,beq_iff_eq,Bool.not_eq_true'] at h
 obtain ⟨⟨⟨⟨⟨-,-⟩,-⟩,h1⟩,h2⟩,h3⟩:=h
 have h2':l=[]:=List.eq_nil_of_length_eq_zero h2
 have h3':ok=[]:=List.eq_nil_of_length_eq_zero h3
 subst h2' h3'
 unfold wfV at hw
 have h4:ov=[]:=List.eq_nil_of_length_eq_zero hw.1.symm
 subst h4
 rw [cntV,cntL,cntM,h1]
 decide
theorem key_size {k:ByteArray} (h:mayK k=0):k.size≤64:=by
 unfold mayK at h
 split at h
 ·cases h
 split at h
 ·cases h
 omega
theorem beg_size {k:ByteArray} (h:begK k=true):k.size≤64:=by
 unfold begK at h
 simp only [Bool.and_eq_true,decide_eq_true_eq] at h
 exact h.1
theorem look_tot {w:World} {F:Nat→Prop} {m:Mu} {c:MuS} (h:RMu w F m c):∀ q,lookM m q=0→totM m≤14472*sizeM m:=by
 induction h with
 | @mk kd k tk i had was has v l c bl fl cl rw_ rv hl el rl bk bt bkd bi nl ih=>
   intro q hz
   rw [lookM] at hz
   split at hz
   ·cases hz
   rename_i c1
   split at hz
   ·cases hz
   split at hz
   ·cases hz
   rename_i c3
   split at hz
   ·rename_i c4;simp only [Bool.and_eq_true,bne_iff_ne] at c4;exact absurd hz c4.2
   rename_i c4
   split at hz
   ·rename_i c5;simp only [Bool.and_eq_true,bne_iff_ne] at c5;exact absurd hz c5.2
   rename_i c5
   have hb:bareM kd k tk i had was has v l.length=true:=by simpa using c1
   have hkm:keyM kd k tk had=true:=by simpa using c3
   unfold bareM at hb
   simp only [Bool.and_eq_true] at hb
   obtain ⟨⟨⟨⟨⟨⟨⟨-,b2⟩,-⟩,-⟩,-⟩,b6⟩,b7⟩,-⟩:=hb
   have hk:k.size≤64∧tk.size≤64:=by
    unfold keyM at hkm
    by_cases h6:kd=6
    ·rw [if_pos h6,Bool.and_eq_true] at hkm
     exact ⟨beg_size hkm.1,beg_size hkm.2⟩
    rw [if_neg h6] at hkm
    have ht:tk.size=0:=by simpa [h6] using b2
    by_cases h7:kd=7∧k.size=0
    ·omega
    rw [if_neg h7] at hkm
    have:=key_size (k:=k) (by simpa using hkm)
    omega
   have hw:cntV was≤7168:=by
    cases hh:had with
    | true=>
      rw [hh] at c4
      have hf:fitV was=0:=by simpa using c4
      exact okV.cnt ⟨rw_.wf,hf⟩
    | false=>
      rw [hh] at b6
      exact nilV_cnt rw_.wf (by simpa using b6)
   have hv:cntV v≤7168:=by
    cases hh:valM kd has with
    | true=>
      rw [hh] at c5
      have hf:fitV v=0:=by simpa using c5
      exact okV.cnt ⟨rv.wf,hf⟩
    | false=>
      unfold valM at hh
      rw [hh] at b7
      exact nilV_cnt rv.wf (by simpa using b7)
   have hll:∀ (l:List Mu) (q:Nat),(∀ (j:Nat) (x:Mu),l[j]? = some x→∀ q,lookM x q=0→totM x≤14472*sizeM x)→lookMs l q=0→totMs l≤14472*sizeMs l:=by
    intro l
    induction l with
    | nil=>intro q _ _;rw [totMs];omega
    | cons a r ihr=>
      intro q hh hz
      rw [lookMs] at hz
      by_cases h0:lookM a q=0
      ·rw [if_neg (fun e=>e h0)] at hz
       have h1:=hh 0 a rfl q h0
       have h2:=ihr q (fun j x hj=>hh (j+1) x (by simpa using hj)) hz
       rw [totMs,sizeMs];omega
      rw [if_pos h0] at hz;exact absurd hz h0
   have:=hll l (q+1) (fun j x hj=>ih j x hj) hz
   rw [totM,sizeM]
   omega
theorem tot_may {w:World} {F:Nat→Prop} {m:Mu} {c:MuS} (h:RMu w F m c) (hm:mayMu m=0):totM m≤1000000:=by
 unfold mayMu at hm
 split at hm
 ·cases hm
 have:=look_tot h 1 hm
 omega
end Go.Proofs.YtkhdiakpdafcdaaGreatDoor
namespace Go.Proofs.YtkhdiakpdafcdaaGreatDoor
open Go.RowKit Go.Maps Go.Shelf
set_option linter.unusedVariables false
set_option linter.unusedSimpArgs false
theorem look_zero {m:Mu} {q:Nat} (h:lookM m q=0):keyM m.kd m.k m.tk m.had=true∧lookMs m.l (q+1)=0:=by
 rw [lookM_eq] at h
 split at h
 ·cases h
 split at h
 ·cases h
 split at h
 ·cases h
 rename_i hk
 split at h
 ·rename_i h1
  simp [h] at h1
 split at h
 ·rename_i h1
  simp [h] at h1
 exact ⟨by simpa using hk,h⟩
theorem looks_at:∀ {l:List Mu} {q j:Nat} {x:Mu},lookMs l q=0→l[j]? = some x→lookM x q=0
 | [],q,j,x,_,hx=>by simp at hx
 | m :: r,q,0,x,h,hx=>by
   obtain rfl:m=x:=by simpa using hx
   rw [lookMs] at h
   by_cases h0:lookM m q=0
   ·exact h0
   rw [if_pos h0] at h;exact h
 | m :: r,q,j+1,x,h,hx=>by
   rw [lookMs] at h
   by_cases h0:lookM m q=0
   ·rw [if_neg (fun e=>e h0)] at h
    exact looks_at (l:=r) (j:=j) h (by simpa using hx)
   rw [if_pos h0] at h;exact absurd h h0
theorem do_anyN (n:Nat):∀ (m:Mu) (q:Nat),SizeOf.sizeOf m≤n→lookM m q=0→∀ (c:MuS) (H:Nat→Prop) (w:World) (O:Nat) (d:OD) (M:List Ent),OvX H w O d M→(∀ b,H b→b<w.heap.size)→(∀ b,b<6→H b)→RMu w (fun b=>b<w.heap.size∧¬OvB O d b) m c→LibQ w→
  d.us.length+budM m M≤1000000→(entsT d.T).length≤1000000→totM m≤1000000→
  Calls Tryz.prog 49 #[.pointer (some ⟨O,0,none⟩),aggMu m c] w fun e w'=>e=.returned (.int .i64 (stepM m M).1)∧∃ d',GoX H w O d (stepM m M).2 (budM m M) w' d':=by
 induction n with
 | zero=>intro m q h;have:=Mu.sz_pos m;omega
 | succ n ih=>
   intro m q hn hq c H w O d M h hH hG hm hL hd hl ht
   by_cases k1:m.kd=1
   ·exact do_kind_1 h hH hG hm hL hd hl ht k1
   by_cases k2:m.kd=2
   ·exact do_kind_2 h hH hG hm hL hd hl ht k2
   by_cases k3:m.kd=3
   ·exact do_kind_3 h hH hG hm hL hd hl ht k3
   by_cases k4:m.kd=4
   ·exact do_kind_4 h hH hG hm hL hd hl ht k4
   by_cases k5:m.kd=5
   ·exact do_kind_5 h hH hG hm hL hd hl ht k5
   by_cases k6:m.kd=6
   ·exact do_kind_6 h hH hG hm hL hd hl ht k6
   by_cases k7:m.kd=7
   ·obtain ⟨hk,hs⟩:=look_zero hq
    refine do_kind_7 h hH hG hm hL hd hl ht k7 (fun h0=>?_) fun j x hx y H' W O' d' M' h1 h2 h3 h4 h5 h6 h7 h8=>ih x (q+1) (by have:=Mu.sz_at hx;omega) (looks_at hs hx) y H' W O' d' M' h1 h2 h3 h4 h5 h6 h7 h8
    unfold keyM at hk
    rw [if_neg (by omega),if_pos ⟨k7,h0⟩] at hk
    simpa using hk
   exact do_kind_o h hH hG hm hL hd hl ht ⟨k1,k2,k3,k4,k5,k6,k7⟩
theorem doM_any {m:Mu} {q:Nat} {c:MuS} {H:Nat→Prop} {w:World} {O:Nat} {d:OD} {M:List Ent} (hq:lookM m q=0) (h:OvX H w O d M) (hH:∀ b,H b→b<w.heap.size) (hG:∀ b,b<6→H b) (hm:RMu w (fun b=>b<w.heap.size∧¬OvB O d b) m c) (hL:LibQ w)
  (hd:d.us.length+budM m M≤1000000) (hl:(entsT d.T).length≤1000000) (ht:totM m≤1000000) :
  Calls Tryz.prog 49 #[.pointer (some ⟨O,0,none⟩),aggMu m c] w fun e w'=>e=.returned (.int .i64 (stepM m M).1)∧∃ d',GoX H w O d (stepM m M).2 (budM m M) w' d':=do_anyN _ m q (Nat.le_refl _) hq c H w O d M h hH hG hm hL hd hl ht
theorem may_look {m:Mu} (h:mayMu m=0):lookM m 1=0:=by
 unfold mayMu at h
 split at h
 ·cases h
 exact h
theorem Do_any {m:Mu} {c:MuS} {H:Nat→Prop} {w:World} {O:Nat} {d:OD} {M:List Ent} (h:OvX H w O d M) (hH:∀ b,H b→b<w.heap.size) (hG:∀ b,b<6→H b) (hm:RMu w (fun b=>b<w.heap.size∧¬OvB O d b) m c) (hL:LibQ w)
  (hd:mayMu m=0→d.us.length+budM m M≤1000000) (hl:(entsT d.T).length≤1000000) (ht:totM m≤1100000) :
  Calls Tryz.prog 23 #[.pointer (some ⟨O,0,none⟩),aggMu m c] w fun e w'=>e=.returned (.int .i64 (runM M m).1)∧∃ d',GoX H w O d (runM M m).2 (budM m M) w' d':=by
 have hmw:∀ W,Nw w W→RMu W (fun b=>b<W.heap.size∧¬OvB O d b) m c:=fun W hW=>(hm.agree (Nw.agree hW fun b hb=>hb.1)).mono fun b hb=>⟨Nat.lt_of_lt_of_le hb.1 hW.size,hb.2⟩
 have hmay:=fun W (hW:Nw w W)=>may_any' ((hmw W hW).mono (G:=Lt W.heap.size) fun b hb=>hb.1) ht (hL.nw hW)
 have hdo:=fun (h0:mayMu m=0) W (hW:Nw w W)=>doM_any (q:=1) (may_look h0) (h.nw hW) (fun b hb=>Nat.lt_of_lt_of_le (hH b hb) hW.size) hG (hmw W hW) (hL.nw hW) (hd h0) hl (tot_may hm h0)
 obtain ⟨r,hr⟩:∃ r,runM M m=r:=⟨_,rfl⟩
 rw [hr]
 have HR:=Lib.hid hr
 have HMAY:=Lib.hid hmay
 have HDO:=Lib.hid hdo
 have HH:=Lib.hid h
 clear h hH hG hm hL hd hl ht hmw hmay hdo hr
 go_enter Tryz.func23,Tryz.ntmps23
 go_upto_region 1 with fail
 generalize hW0:World.alloc _ _=W0
 obtain ⟨hx0,hb0,hz0⟩:=box_mu (m:=m) (c:=c) hW0
 have HX0:=Lib.hid (Nw.of hx0)
 have HB0:=Lib.hid hb0
 clear hW0 hx0 hb0 hz0
 go_wp2_with (refine load_mu rfl (.tmp 3) rfl w.heap.size 0 rfl m c HB0.out ?_)
 refine (HMAY.out _ HX0.out).mono ?_
 rintro e w1 ⟨rfl,hn⟩
 have HX1:=Lib.hid (HX0.out.trans hn)
 have HB1:=Lib.hid (HB0.out.nw hn)
 clear hn
 by_cases h0:mayMu m=0
 ·have g0:(mayMu m == 0)=true:=by simp [h0]
  have hs:stepM m M=r:=by rw [←HR.out];unfold runM;rw [if_neg (fun e=>e h0)]
  have hc:=HDO.out h0 w1 HX1.out
  rw [hs] at hc
  have HC:=Lib.hid hc
  clear h0 hs hc
  go_wp2_with (refine load_mu rfl (.tmp 3) rfl w.heap.size 0 rfl m c HB1.out ?_)
  refine HC.out.mono ?_
  rintro e w2 ⟨rfl,d1,hg⟩
  have HG:=Lib.hid (hg.since HX1.out)
  clear hg
  go_wp2_with fail
  go_ret
  exact ⟨rfl,d1,HG.out⟩
 have g0:(mayMu m == 0)=false:=beq_eq_false_iff_ne.2 h0
 have hs:r=(mayMu m,M):=by rw [←HR.out];unfold runM;rw [if_pos h0]
 subst hs
 clear h0
 go_wp2_with fail
 go_ret
 exact ⟨rfl,d,HH.out.stay HX1.out⟩
theorem runM_no {M:List Ent} {m:Mu} (h:(runM M m).1≠0):(runM M m).2=M:=by
 unfold runM at h ⊢
 split at h
 ·rw [if_pos (by assumption)]
 rename_i h1
 rw [if_neg h1]
 exact stepM_no h
theorem Run_any {w:World} {F:Nat→Prop} {T:RT} {m:Mu} {c:MuS} (hT:IsT w F T) (hF:∀ b,F b→6≤b∧b<w.heap.size) (ok:OkR T) (hM:OkM (entsT T)) (hm:RMu w (Lt w.heap.size) m c) (hL:LibQ w) (hd:mayMu m=0→(entsT T).length+budM m (entsT T)≤1000000) (hl:(entsT T).length≤1000000) (ht:totM m≤1100000) :
  Calls Tryz.prog 28 #[treeV T,aggMu m c] w fun e w'=>∃ T',e=.returned (.tuple #[treeV T',.int .i64 (runM (entsT T) m).1])∧OkR T'∧IsT w' (Up F w w') T'∧entsT T'=(runM (entsT T) m).2∧OkM (runM (entsT T) m).2∧Nw w w'∧((runM (entsT T) m).2=entsT T→T'=T):=by
 obtain ⟨r,hr⟩:∃ r,runM (entsT T) m=r:=⟨_,rfl⟩
 rw [hr]
 have HR:=Lib.hid hr
 have HNO:=Lib.hid (show r.1≠0→r.2=entsT T from fun h=>by rw [←hr] at h ⊢;exact runM_no h)
 obtain ⟨p,hp⟩:=rootV_ptr T
 have HP:=Lib.hid hp
 have HT:=Lib.hid hT
 have HF:=Lib.hid hF
 have HOK:=Lib.hid ok
 have HOM:=Lib.hid hM
 have HM:=Lib.hid hm
 have HL:=Lib.hid hL
 have HD:=Lib.hid hd
 have HTT:=Lib.hid ht
 have HLE:=Lib.hid hl
 have HMZ:=Lib.hid (show r.1=0→mayMu m=0 from fun h=>by rw [←hr] at h;unfold runM at h;split at h <;> simp_all)
 rw [treeV,hp]
 clear hr hp hT hF ok hM hm hL hd ht hl
 go_enter Tryz.func28,Tryz.ntmps28
 go_upto_region 1 with fail
 generalize hW0:World.alloc _ _=W0
 obtain ⟨hx0,hz0,hb0,hb1,hb2⟩:=three_blocks w _ _ _ _ _ _ W0 hW0
 clear hW0
 have c0:W0.cell? ⟨w.heap.size,0,none⟩=some (.pointer p):=hb0.cell 0
 have hn0:=Nw.of hx0
 have hbeg:=begin_ov (w:=W0) (F:=F) (H:=fun b=>b<W0.heap.size∧¬F b) (T:=T) (HT.out.agree (hx0.agree fun b hb=>(HF.out b hb).2)) HOK.out (fun b hb=>⟨Nat.lt_of_lt_of_le (HF.out b hb).2 hx0.size,fun e=>e.2 hb⟩) (fun b hb=>hb.1)
 rw [treeV,HP.out] at hbeg
 have HBG:=Lib.hid hbeg
 have HX0:=Lib.hid hx0
 have HB0:=Lib.hid hb0
 have HB2:=Lib.hid hb2
 have HMC:=Lib.hid (MuC.of_blk hb1)
 have HZ0:=Lib.hid hz0
 clear hx0 hn0 hb0 hb1 hb2 hz0 hbeg
 go_wp2_with fail
 refine HBG.out.mono ?_
 rintro e w1 ⟨O,rfl,hO,hov,hx1⟩
 have hn1:=(Nw.of HX0.out).trans (Nw.of hx1)
 have hox:OvX (fun b=>b<W0.heap.size∧¬F b) w1 O (od0 T) (entsT T):=⟨hov,RelX.start HOM.out⟩
 have hdo:=Do_any (m:=m) (c:=c) hox (fun b hb=>Nat.lt_of_lt_of_le hb.1 hx1.size) (fun b hb=>⟨Nat.lt_of_lt_of_le hb (HL.out.nw (Nw.of HX0.out)).lib.big,fun e=>by have:=(HF.out b e).1;omega⟩) ((HM.out.agree (Nw.agree hn1 fun b hb=>hb)).mono fun b hb=>⟨Nat.lt_of_lt_of_le hb hn1.size,fun e=>by
  have hb':b<w.heap.size:=hb
  have hz:=HZ0.out
  rcases e with e | e | e
  ·omega
  ·cases e
  cases e⟩) (HL.out.nw hn1) (fun h0=>by show 0+_≤_;have:=HD.out h0;omega) HLE.out HTT.out
 rw [HR.out] at hdo
 have HDO:=Lib.hid hdo
 have HOX:=Lib.hid hox
 have HN1:=Lib.hid hn1
 have HX1:=Lib.hid hx1
 have HMC1:=Lib.hid (HMC.out.ext hx1)
 have HO:=Lib.hid hO
 clear hdo hox hn1 hx1 hov hO c0
 go_wp2_with (refine load_mu rfl (.tmp 3) rfl (w.heap.size+1) 0 rfl m c HMC1.out ?_)
 refine HDO.out.mono ?_
 rintro e w2 ⟨rfl,d1,hg⟩
 have HG:=Lib.hid hg
 have HRO:=Lib.hid (show OkM r.2 from hg.rel.ok)
 have hob:∀ b,b<W0.heap.size→¬OvB O (od0 T) b:=fun b hb e=>by
  have:=HO.out
  rcases e with e | e | e
  ·omega
  ·cases e
  cases e
 have HOB:=Lib.hid hob
 have hz:=HZ0.out
 have hk0:=hg.go.sb.blk (HB0.out.ext HX1.out) (hob _ (by omega))
 have hk2:=hg.go.sb.blk (HB2.out.ext HX1.out) (hob _ (by omega))
 have HK2:=Lib.hid hk2
 have q0:w2.cell? ⟨w.heap.size,0,none⟩=some (.pointer p):=hk0.cell 0
 have q2:∃ z,w2.cell? ⟨w.heap.size+1+1,0,none⟩=some z:=⟨_,hk2.cell 0⟩
 have f2:=hk2.frozen 0
 have HNW:=Lib.hid (show Nw w w2 from HN1.out.comp hg.go.sb fun i hi e=>hob i (by omega) e)
 obtain ⟨z,q2⟩:=q2
 by_cases h0:r.1=0
 ·have g0:(r.1 == 0)=true:=by simp [h0]
  have hcom:=comX hg.at_ (by rw [hg.T];have h1:=hg.few;have h2:=hg.go.at_.few;have h3:=HD.out (HMZ.out h0);have h4:(od0 T).us.length=0:=rfl;have h5:(entsT (od0 T).T).length=(entsT T).length:=rfl;omega)
  have HCOM:=Lib.hid hcom
  have H0:=Lib.hid h0
  clear hg hob hz hk0 hk2 h0 hcom
  go_wp2_with fail
  refine HCOM.out.mono ?_
  rintro e w3 ⟨T',rfl,ok',hT',hen,hn3,hid⟩
  obtain ⟨p',hp'⟩:=rootV_ptr T'
  have hk3:=hn3.blk HK2.out
  have q3:=hk3.cell 0
  have f3:=hk3.frozen 0
  have HK3:=Lib.hid hk3
  have HP':=Lib.hid hp'
  have HN3:=Lib.hid (HNW.out.trans hn3)
  have HY3:=Lib.hid hn3
  have HT':=Lib.hid hT'
  have HEN:=Lib.hid hen
  have HID:=Lib.hid (show r.2=entsT T→T'=T from fun h=>by have h1:=HG.out.T;rw [h1] at hid;exact hid h)
  rw [treeV,hp']
  clear hk3 hn3 hT' hen hp' q0 q2 f2 hid
  go_wp2_with fail
  generalize hW:World.setCell _ _ _=W
  have hs:Sb (fun i=>i=w.heap.size+1+1) w3 W:=by rw [←hW];exact (Sb.refl (fun i=>i=w.heap.size+1+1) w3).set (p:=⟨w.heap.size+1+1,0,none⟩) (.inr rfl) _
  have hb:Blk W (w.heap.size+1+1) 41 #[.pointer p']:=by rw [←hW];exact HK3.out.set_ 0 (.pointer p')
  have q4:W.cell? ⟨w.heap.size+1+1,0,none⟩=some (.pointer p'):=hb.cell 0
  clear hW q3 f3
  refine bodyPost_ret (v:=.tuple #[.agg #[.pointer p'],.int .i64 0]) (by simp [results,Tryz.results28,go_sem,q4]) rfl ?_
  refine ⟨T',by rw [treeV,HP'.out,H0.out],ok',?_,HEN.out,HRO.out,HN3.out.comp hs fun i hi e=>by omega,HID.out⟩
  have hzz:=HZ0.out
  refine (HT'.out.agree (F:=Up (OvF (fun b=>b<W0.heap.size∧¬F b) w2 O d1) w2 w3) fun b hb=>hs.block b ?_ ?_).mono fun b hb=>?_
  all_goals
   have s1:=HY3.out.size
   have s2:=hs.size
   have s3:=HNW.out.size
   have s4:=HL.out.lib.big
   have s5:=HX1.out.size
   have s6:=HG.out.go.sb.size
  ·rcases hb with e | e
   ·exact Nat.lt_of_lt_of_le e.1 s1
   exact e.2
  ·intro e2
   rcases hb with e | e
   ·exact e.2.2 ⟨by omega,fun e3=>by have:=(HF.out b e3).2;omega⟩
   omega
  rcases hb with e | e
  ·by_cases hf:F b
   ·exact .inl hf
   have h1:=e.1
   by_cases h2:b<W0.heap.size
   ·exact absurd ⟨h2,hf⟩ e.2.2
   exact .inr ⟨by omega,by omega⟩
  exact .inr ⟨by omega,by omega⟩
 have g0:(r.1 == 0)=false:=beq_eq_false_iff_ne.2 h0
 have H0:=Lib.hid h0
 clear hg hob hz hk0 hk2 h0
 go_wp2_with fail
 generalize hW:World.setCell _ _ _=W
 have hs:Sb (fun i=>i=w.heap.size+1+1) w2 W:=by rw [←hW];exact (Sb.refl (fun i=>i=w.heap.size+1+1) w2).set (p:=⟨w.heap.size+1+1,0,none⟩) (.inr rfl) _
 have hb:Blk W (w.heap.size+1+1) 41 #[.pointer p]:=by rw [←hW];exact HK2.out.set_ 0 (.pointer p)
 have q4:W.cell? ⟨w.heap.size+1+1,0,none⟩=some (.pointer p):=hb.cell 0
 have hnw:Nw w W:=HNW.out.comp hs fun i hi e=>by omega
 clear hW q0 q2 f2
 refine bodyPost_ret (v:=.tuple #[.agg #[.pointer p],.int .i64 r.1]) (by simp [results,Tryz.results28,go_sem,q4]) rfl ?_
 exact ⟨T,by rw [treeV,HP.out],HOK.out,(HT.out.agree (Nw.agree hnw fun b hb=>(HF.out b hb).2)).mono fun b hb=>.inl hb,(HNO.out H0.out).symm,HRO.out,hnw,fun _=>rfl⟩
end Go.Proofs.YtkhdiakpdafcdaaGreatDoor
