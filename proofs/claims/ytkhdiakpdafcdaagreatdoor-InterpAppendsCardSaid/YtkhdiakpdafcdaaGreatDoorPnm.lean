/- What the theorem needs of the texts MutS, MutK, MutF, MutL, MutC, Int3, OvLay3, TurnK, Int4, Int5: no condition of its own. -/
import Derived.Laws.IdiomStrings
import Derived.WalkArith
import Derived.OrdersIn
import Derived.WalkLawsBesides
import Derived.Deep.Cut
import Derived.Deep.DeepCutAuto
import Derived.Recover
import Derived.ArgAppend
import Derived.Ground.NamesProg
import Derived.Shelf.Small.Wraps
import Derived.Defers
import Derived.Test.YtkhdiakpdafcdaaGreatDoorPna
import Derived.Test.YtkhdiakpdafcdaaGreatDoorPnc
import Derived.Test.YtkhdiakpdafcdaaGreatDoorPnd
import Derived.Test.YtkhdiakpdafcdaaGreatDoorPne
import Derived.Test.YtkhdiakpdafcdaaGreatDoorPnf
import Derived.Test.YtkhdiakpdafcdaaGreatDoorPng
import Derived.Test.YtkhdiakpdafcdaaGreatDoorPnh
import Derived.Test.YtkhdiakpdafcdaaGreatDoorPni
import Derived.Test.YtkhdiakpdafcdaaGreatDoorPnj
import Derived.Test.YtkhdiakpdafcdaaGreatDoorPnk
import Derived.Test.YtkhdiakpdafcdaaGreatDoorPnl
set_option maxRecDepth 100000
set_option maxHeartbeats 4000000
namespace Go.Proofs.YtkhdiakpdafcdaaGreatDoor
open Go.RowKit Go.Maps Go.Shelf
set_option linter.unusedVariables false
set_option linter.unusedSimpArgs false
def bareMu (m:Mu):Bool:=bareM m.kd m.k m.tk m.i m.had m.was m.has m.v m.l.length
theorem nil_zero:nilV zeroV=true:=rfl
theorem MuC.kind {w:World} {b:Nat} {m:Mu} {c:MuS} (h:MuC w b 0 m c):w.cell? ⟨b,0,none⟩=some (.int .i64 m.kd):=h 0 _ rfl
theorem MuC.c11 {w:World} {b:Nat} {m:Mu} {c:MuS} (h:MuC w b 0 m c):w.cell? ⟨b,11,none⟩=some (.bool m.has):=h 11 _ rfl
theorem MuC.c4 {w:World} {b:Nat} {m:Mu} {c:MuS} (h:MuC w b 0 m c):w.cell? ⟨b,4,none⟩=some (.bool m.had):=h 4 _ rfl
theorem MuC.was6 {w:World} {b:Nat} {m:Mu} {c:MuS} (h:MuC w b 0 m c):w.cell? ⟨b,5,none⟩=some (.int .i64 m.was.kind)∧w.cell? ⟨b,6,none⟩=some (.bool m.was.b)∧w.cell? ⟨b,7,none⟩=some (.int .i64 m.was.i)∧w.cell? ⟨b,8,none⟩=some (.string m.was.t)∧w.cell? ⟨b,9,none⟩=some (.slice c.w1.a m.was.l.length c.w1.c)∧w.cell? ⟨b,10,none⟩=some (.slice c.w2.a m.was.ok.length c.w2.c):=⟨h 5 _ rfl,h 6 _ rfl,h 7 _ rfl,h 8 _ rfl,h 9 _ rfl,h 10 _ rfl⟩
theorem MuC.v6 {w:World} {b:Nat} {m:Mu} {c:MuS} (h:MuC w b 0 m c):w.cell? ⟨b,12,none⟩=some (.int .i64 m.v.kind)∧w.cell? ⟨b,13,none⟩=some (.bool m.v.b)∧w.cell? ⟨b,14,none⟩=some (.int .i64 m.v.i)∧w.cell? ⟨b,15,none⟩=some (.string m.v.t)∧w.cell? ⟨b,16,none⟩=some (.slice c.v1.a m.v.l.length c.v1.c)∧w.cell? ⟨b,17,none⟩=some (.slice c.v2.a m.v.ok.length c.v2.c):=⟨h 12 _ rfl,h 13 _ rfl,h 14 _ rfl,h 15 _ rfl,h 16 _ rfl,h 17 _ rfl⟩
theorem strange_was (w:World) (m:Mu) (c:MuS) (hh:m.had=false) (hz:nilV m.was=false):Calls Tryz.prog 121 #[aggMu m c] w fun e w'=>e=.returned (.bool (!bareMu m))∧Ext w w':=by
 have hr:(!bareMu m)=true:=by simp [bareMu,bareM,hh,hz]
 rw [hr]
 have HZ:=Lib.hid hz
 have HH:=Lib.hid hh
 clear hr hz hh
 go_enter Tryz.func121,Tryz.ntmps121
 go_upto_region 1 with fail
 generalize hW0:World.alloc _ _=W0
 obtain ⟨hx0,hb0,hz0⟩:=box_mu (m:=m) (c:=c) hW0
 have HX0:=Lib.hid hx0
 have HB0:=Lib.hid hb0
 have c4:=hb0.c4
 rw [HH.out] at c4
 clear hW0 hx0 hb0 hz0
 obtain ⟨c5,c6,c7,c8,c9,c10⟩:=HB0.out.was6
 go_wp2_with fail
 refine (zero_any _ m.was c.w1 c.w2).mono ?_
 rintro e W1 ⟨rfl,hx1⟩
 have HX1:=Lib.hid (HX0.out.trans hx1)
 clear hx1
 rw [HZ.out]
 go_wp2_with fail
 go_ret
 exact ⟨rfl,HX1.out⟩
theorem strange_1h (w:World) (m:Mu) (c:MuS) (hk:m.kd=1) (hh:m.had=true):Calls Tryz.prog 121 #[aggMu m c] w fun e w'=>e=.returned (.bool (!bareMu m))∧Ext w w':=by
 have hr:(!bareMu m)=(!blankM (Mu.mk m.kd ByteArray.empty m.tk m.i m.had m.was m.has zeroV m.l)):=by
  obtain ⟨kd',k',tk',i',had',was',has',v',l'⟩:=m
  simp only [Mu.kd,Mu.had,Mu.was,Mu.has,Mu.v] at hk hh
  simp [bareMu,bareM,blankM,Mu.kd,hk,hh,nil_zero,Mu.k,Mu.tk,Mu.i,Mu.had,Mu.was,Mu.has,Mu.v,Mu.l]
 have HR:=Lib.hid hr
 have HH:=Lib.hid hh
 have e1:(m.kd == 1)=true:=by simp [hk]
 clear hr hk hh
 go_enter Tryz.func121,Tryz.ntmps121
 go_upto_region 1 with fail
 generalize hW0:World.alloc _ _=W0
 obtain ⟨hx0,hb0,hz0⟩:=box_mu (m:=m) (c:=c) hW0
 have HX0:=Lib.hid hx0
 have HB0:=Lib.hid hb0
 have c4:=hb0.c4
 rw [HH.out] at c4
 clear hW0 hx0 hb0 hz0
 go_upto_region 4 with (first | (refine load_mu rfl (.tmp 1) rfl w.heap.size 0 rfl m c HB0.out ?_) | (refine fill_mu rfl rfl rfl m c (w0:=W0) (b:=W0.heap.size) rfl ((Ext.refl W0).alloc _ _) (Blk.new W0 _ _) rfl rfl rfl ?_;intro w5 hx5 hm5;have HX5:=Lib.hid (HX0.out.trans hx5);have HB0:=Lib.hid (MuC.ext HB0.out hx5);have HB5:=Lib.hid hm5;clear hx5 hm5))
 have d0:=HB0.out.kind
 have hg:w.heap.size≤W0.heap.size:=HX0.out.size
 go_wp2_with (first | (refine put_mu' [.string ⟨#[]⟩] ?_ ?_ ?_ hg HX5.out HB5.out 1 ?_ ?_ (Mu.mk m.kd ByteArray.empty m.tk m.i m.had m.was m.has m.v m.l) ⟨c.w1,c.w2,c.v1,c.v2,c.s⟩ ?_ ?_;rfl;kernel_rfl;rfl;decide;rfl;rfl;intro v0 hx0 hm0;have GX0:=Lib.hid hx0;have GB0:=Lib.hid hm0;clear hx0 hm0) | (refine put_mu' [.int .i64 0,.bool false,.int .i64 0,.string ⟨#[]⟩,.slice none 0 0,.slice none 0 0] ?_ ?_ ?_ hg GX0.out GB0.out 12 ?_ ?_ (Mu.mk m.kd ByteArray.empty m.tk m.i m.had m.was m.has zeroV m.l) ⟨c.w1,c.w2,Sl.none,Sl.none,c.s⟩ ?_ ?_;rfl;kernel_rfl;rfl;decide;rfl;rfl;intro v1 hx1 hm1;have GX1:=Lib.hid hx1;have GB1:=Lib.hid hm1;clear hx1 hm1) | (refine load_mu rfl (.tmp 3) rfl W0.heap.size 0 rfl (Mu.mk m.kd ByteArray.empty m.tk m.i m.had m.was m.has zeroV m.l) ⟨c.w1,c.w2,Sl.none,Sl.none,c.s⟩ (MuC.of_blk GB1.out) ?_))
 refine (blank_any _ (Mu.mk m.kd ByteArray.empty m.tk m.i m.had m.was m.has zeroV m.l) ⟨c.w1,c.w2,Sl.none,Sl.none,c.s⟩).mono ?_
 rintro e W7 ⟨rfl,hx7⟩
 have HX7:=Lib.hid (GX1.out.trans hx7)
 clear hx7
 go_wp2_with fail
 go_ret
 exact ⟨by rw [HR.out] <;> rfl,HX7.out⟩
theorem strange_1z (w:World) (m:Mu) (c:MuS) (hk:m.kd=1) (hh:m.had=false) (hz:nilV m.was=true):Calls Tryz.prog 121 #[aggMu m c] w fun e w'=>e=.returned (.bool (!bareMu m))∧Ext w w':=by
 have hr:(!bareMu m)=(!blankM (Mu.mk m.kd ByteArray.empty m.tk m.i m.had m.was m.has zeroV m.l)):=by
  obtain ⟨kd',k',tk',i',had',was',has',v',l'⟩:=m
  simp only [Mu.kd,Mu.had,Mu.was,Mu.has,Mu.v] at hk hh hz
  simp [bareMu,bareM,blankM,Mu.kd,hk,hh,nil_zero,Mu.k,Mu.tk,Mu.i,Mu.had,Mu.was,Mu.has,Mu.v,Mu.l,hz]
 have HR:=Lib.hid hr
 have HH:=Lib.hid hh
 have HZ:=Lib.hid hz
 have e1:(m.kd == 1)=true:=by simp [hk]
 clear hr hk hh hz
 go_enter Tryz.func121,Tryz.ntmps121
 go_upto_region 1 with fail
 generalize hW0:World.alloc _ _=W0
 obtain ⟨hx0,hb0,hz0⟩:=box_mu (m:=m) (c:=c) hW0
 have HX0:=Lib.hid hx0
 have HB0:=Lib.hid hb0
 have c4:=hb0.c4
 rw [HH.out] at c4
 clear hW0 hx0 hb0 hz0
 obtain ⟨c5,c6,c7,c8,c9,c10⟩:=HB0.out.was6
 go_wp2_with fail
 refine (zero_any _ m.was c.w1 c.w2).mono ?_
 rintro e W1 ⟨rfl,hx1⟩
 have HX1:=Lib.hid (HX0.out.trans hx1)
 have HB1:=Lib.hid (HB0.out.ext hx1)
 clear hx1 c4 c5 c6 c7 c8 c9 c10
 rw [HZ.out]
 go_upto_region 4 with (first | (refine load_mu rfl (.tmp 1) rfl w.heap.size 0 rfl m c HB1.out ?_) | (refine fill_mu rfl rfl rfl m c (w0:=W1) (b:=W1.heap.size) rfl ((Ext.refl W1).alloc _ _) (Blk.new W1 _ _) rfl rfl rfl ?_;intro w5 hx5 hm5;have HX5:=Lib.hid (HX1.out.trans hx5);have HB0:=Lib.hid (MuC.ext HB1.out hx5);have HB5:=Lib.hid hm5;clear hx5 hm5))
 have d0:=HB0.out.kind
 have hg:w.heap.size≤W1.heap.size:=HX1.out.size
 go_wp2_with (first | (refine put_mu' [.string ⟨#[]⟩] ?_ ?_ ?_ hg HX5.out HB5.out 1 ?_ ?_ (Mu.mk m.kd ByteArray.empty m.tk m.i m.had m.was m.has m.v m.l) ⟨c.w1,c.w2,c.v1,c.v2,c.s⟩ ?_ ?_;rfl;kernel_rfl;rfl;decide;rfl;rfl;intro v0 hx0 hm0;have GX0:=Lib.hid hx0;have GB0:=Lib.hid hm0;clear hx0 hm0) | (refine put_mu' [.int .i64 0,.bool false,.int .i64 0,.string ⟨#[]⟩,.slice none 0 0,.slice none 0 0] ?_ ?_ ?_ hg GX0.out GB0.out 12 ?_ ?_ (Mu.mk m.kd ByteArray.empty m.tk m.i m.had m.was m.has zeroV m.l) ⟨c.w1,c.w2,Sl.none,Sl.none,c.s⟩ ?_ ?_;rfl;kernel_rfl;rfl;decide;rfl;rfl;intro v1 hx1 hm1;have GX1:=Lib.hid hx1;have GB1:=Lib.hid hm1;clear hx1 hm1) | (refine load_mu rfl (.tmp 3) rfl W1.heap.size 0 rfl (Mu.mk m.kd ByteArray.empty m.tk m.i m.had m.was m.has zeroV m.l) ⟨c.w1,c.w2,Sl.none,Sl.none,c.s⟩ (MuC.of_blk GB1.out) ?_))
 refine (blank_any _ (Mu.mk m.kd ByteArray.empty m.tk m.i m.had m.was m.has zeroV m.l) ⟨c.w1,c.w2,Sl.none,Sl.none,c.s⟩).mono ?_
 rintro e W7 ⟨rfl,hx7⟩
 have HX7:=Lib.hid (GX1.out.trans hx7)
 clear hx7
 go_wp2_with fail
 go_ret
 exact ⟨by rw [HR.out] <;> rfl,HX7.out⟩
theorem strange_5h (w:World) (m:Mu) (c:MuS) (hk:m.kd=5) (hh:m.had=true):Calls Tryz.prog 121 #[aggMu m c] w fun e w'=>e=.returned (.bool (!bareMu m))∧Ext w w':=by
 have hr:(!bareMu m)=(!blankM (Mu.mk m.kd ByteArray.empty m.tk m.i m.had m.was m.has zeroV m.l)):=by
  obtain ⟨kd',k',tk',i',had',was',has',v',l'⟩:=m
  simp only [Mu.kd,Mu.had,Mu.was,Mu.has,Mu.v] at hk hh
  simp [bareMu,bareM,blankM,Mu.kd,hk,hh,nil_zero,Mu.k,Mu.tk,Mu.i,Mu.had,Mu.was,Mu.has,Mu.v,Mu.l]
 have HR:=Lib.hid hr
 have HH:=Lib.hid hh
 have e1:(m.kd == 1)=false:=by simp [hk]
 have e5:(m.kd == 5)=true:=by simp [hk]
 clear hr hk hh
 go_enter Tryz.func121,Tryz.ntmps121
 go_upto_region 1 with fail
 generalize hW0:World.alloc _ _=W0
 obtain ⟨hx0,hb0,hz0⟩:=box_mu (m:=m) (c:=c) hW0
 have HX0:=Lib.hid hx0
 have HB0:=Lib.hid hb0
 have c4:=hb0.c4
 rw [HH.out] at c4
 clear hW0 hx0 hb0 hz0
 go_upto_region 4 with (first | (refine load_mu rfl (.tmp 1) rfl w.heap.size 0 rfl m c HB0.out ?_) | (refine fill_mu rfl rfl rfl m c (w0:=W0) (b:=W0.heap.size) rfl ((Ext.refl W0).alloc _ _) (Blk.new W0 _ _) rfl rfl rfl ?_;intro w5 hx5 hm5;have HX5:=Lib.hid (HX0.out.trans hx5);have HB0:=Lib.hid (MuC.ext HB0.out hx5);have HB5:=Lib.hid hm5;clear hx5 hm5))
 have d0:=HB0.out.kind
 have hg:w.heap.size≤W0.heap.size:=HX0.out.size
 go_wp2_with (first | (refine put_mu' [.string ⟨#[]⟩] ?_ ?_ ?_ hg HX5.out HB5.out 1 ?_ ?_ (Mu.mk m.kd ByteArray.empty m.tk m.i m.had m.was m.has m.v m.l) ⟨c.w1,c.w2,c.v1,c.v2,c.s⟩ ?_ ?_;rfl;kernel_rfl;rfl;decide;rfl;rfl;intro v0 hx0 hm0;have GX0:=Lib.hid hx0;have GB0:=Lib.hid hm0;clear hx0 hm0) | (refine put_mu' [.int .i64 0,.bool false,.int .i64 0,.string ⟨#[]⟩,.slice none 0 0,.slice none 0 0] ?_ ?_ ?_ hg GX0.out GB0.out 12 ?_ ?_ (Mu.mk m.kd ByteArray.empty m.tk m.i m.had m.was m.has zeroV m.l) ⟨c.w1,c.w2,Sl.none,Sl.none,c.s⟩ ?_ ?_;rfl;kernel_rfl;rfl;decide;rfl;rfl;intro v1 hx1 hm1;have GX1:=Lib.hid hx1;have GB1:=Lib.hid hm1;clear hx1 hm1) | (refine load_mu rfl (.tmp 3) rfl W0.heap.size 0 rfl (Mu.mk m.kd ByteArray.empty m.tk m.i m.had m.was m.has zeroV m.l) ⟨c.w1,c.w2,Sl.none,Sl.none,c.s⟩ (MuC.of_blk GB1.out) ?_))
 refine (blank_any _ (Mu.mk m.kd ByteArray.empty m.tk m.i m.had m.was m.has zeroV m.l) ⟨c.w1,c.w2,Sl.none,Sl.none,c.s⟩).mono ?_
 rintro e W7 ⟨rfl,hx7⟩
 have HX7:=Lib.hid (GX1.out.trans hx7)
 clear hx7
 go_wp2_with fail
 go_ret
 exact ⟨by rw [HR.out] <;> rfl,HX7.out⟩
theorem strange_5z (w:World) (m:Mu) (c:MuS) (hk:m.kd=5) (hh:m.had=false) (hz:nilV m.was=true):Calls Tryz.prog 121 #[aggMu m c] w fun e w'=>e=.returned (.bool (!bareMu m))∧Ext w w':=by
 have hr:(!bareMu m)=(!blankM (Mu.mk m.kd ByteArray.empty m.tk m.i m.had m.was m.has zeroV m.l)):=by
  obtain ⟨kd',k',tk',i',had',was',has',v',l'⟩:=m
  simp only [Mu.kd,Mu.had,Mu.was,Mu.has,Mu.v] at hk hh hz
  simp [bareMu,bareM,blankM,Mu.kd,hk,hh,nil_zero,Mu.k,Mu.tk,Mu.i,Mu.had,Mu.was,Mu.has,Mu.v,Mu.l,hz]
 have HR:=Lib.hid hr
 have HH:=Lib.hid hh
 have HZ:=Lib.hid hz
 have e1:(m.kd == 1)=false:=by simp [hk]
 have e5:(m.kd == 5)=true:=by simp [hk]
 clear hr hk hh hz
 go_enter Tryz.func121,Tryz.ntmps121
 go_upto_region 1 with fail
 generalize hW0:World.alloc _ _=W0
 obtain ⟨hx0,hb0,hz0⟩:=box_mu (m:=m) (c:=c) hW0
 have HX0:=Lib.hid hx0
 have HB0:=Lib.hid hb0
 have c4:=hb0.c4
 rw [HH.out] at c4
 clear hW0 hx0 hb0 hz0
 obtain ⟨c5,c6,c7,c8,c9,c10⟩:=HB0.out.was6
 go_wp2_with fail
 refine (zero_any _ m.was c.w1 c.w2).mono ?_
 rintro e W1 ⟨rfl,hx1⟩
 have HX1:=Lib.hid (HX0.out.trans hx1)
 have HB1:=Lib.hid (HB0.out.ext hx1)
 clear hx1 c4 c5 c6 c7 c8 c9 c10
 rw [HZ.out]
 go_upto_region 4 with (first | (refine load_mu rfl (.tmp 1) rfl w.heap.size 0 rfl m c HB1.out ?_) | (refine fill_mu rfl rfl rfl m c (w0:=W1) (b:=W1.heap.size) rfl ((Ext.refl W1).alloc _ _) (Blk.new W1 _ _) rfl rfl rfl ?_;intro w5 hx5 hm5;have HX5:=Lib.hid (HX1.out.trans hx5);have HB0:=Lib.hid (MuC.ext HB1.out hx5);have HB5:=Lib.hid hm5;clear hx5 hm5))
 have d0:=HB0.out.kind
 have hg:w.heap.size≤W1.heap.size:=HX1.out.size
 go_wp2_with (first | (refine put_mu' [.string ⟨#[]⟩] ?_ ?_ ?_ hg HX5.out HB5.out 1 ?_ ?_ (Mu.mk m.kd ByteArray.empty m.tk m.i m.had m.was m.has m.v m.l) ⟨c.w1,c.w2,c.v1,c.v2,c.s⟩ ?_ ?_;rfl;kernel_rfl;rfl;decide;rfl;rfl;intro v0 hx0 hm0;have GX0:=Lib.hid hx0;have GB0:=Lib.hid hm0;clear hx0 hm0) | (refine put_mu' [.int .i64 0,.bool false,.int .i64 0,.string ⟨#[]⟩,.slice none 0 0,.slice none 0 0] ?_ ?_ ?_ hg GX0.out GB0.out 12 ?_ ?_ (Mu.mk m.kd ByteArray.empty m.tk m.i m.had m.was m.has zeroV m.l) ⟨c.w1,c.w2,Sl.none,Sl.none,c.s⟩ ?_ ?_;rfl;kernel_rfl;rfl;decide;rfl;rfl;intro v1 hx1 hm1;have GX1:=Lib.hid hx1;have GB1:=Lib.hid hm1;clear hx1 hm1) | (refine load_mu rfl (.tmp 3) rfl W1.heap.size 0 rfl (Mu.mk m.kd ByteArray.empty m.tk m.i m.had m.was m.has zeroV m.l) ⟨c.w1,c.w2,Sl.none,Sl.none,c.s⟩ (MuC.of_blk GB1.out) ?_))
 refine (blank_any _ (Mu.mk m.kd ByteArray.empty m.tk m.i m.had m.was m.has zeroV m.l) ⟨c.w1,c.w2,Sl.none,Sl.none,c.s⟩).mono ?_
 rintro e W7 ⟨rfl,hx7⟩
 have HX7:=Lib.hid (GX1.out.trans hx7)
 clear hx7
 go_wp2_with fail
 go_ret
 exact ⟨by rw [HR.out] <;> rfl,HX7.out⟩
theorem strange_2h (w:World) (m:Mu) (c:MuS) (hk:m.kd=2) (hh:m.had=true):Calls Tryz.prog 121 #[aggMu m c] w fun e w'=>e=.returned (.bool (!bareMu m))∧Ext w w':=by
 have hr:(!bareMu m)=(!blankM (Mu.mk m.kd ByteArray.empty m.tk m.i m.had m.was m.has m.v m.l)):=by
  obtain ⟨kd',k',tk',i',had',was',has',v',l'⟩:=m
  simp only [Mu.kd,Mu.had,Mu.was,Mu.has,Mu.v] at hk hh
  simp [bareMu,bareM,blankM,Mu.kd,hk,hh,nil_zero,Mu.k,Mu.tk,Mu.i,Mu.had,Mu.was,Mu.has,Mu.v,Mu.l]
 have HR:=Lib.hid hr
 have HH:=Lib.hid hh
 have e1:(m.kd == 1)=false:=by simp [hk]
 have e5:(m.kd == 5)=false:=by simp [hk]
 have e2:(m.kd == 2)=true:=by simp [hk]
 clear hr hk hh
 go_enter Tryz.func121,Tryz.ntmps121
 go_upto_region 1 with fail
 generalize hW0:World.alloc _ _=W0
 obtain ⟨hx0,hb0,hz0⟩:=box_mu (m:=m) (c:=c) hW0
 have HX0:=Lib.hid hx0
 have HB0:=Lib.hid hb0
 have c4:=hb0.c4
 rw [HH.out] at c4
 clear hW0 hx0 hb0 hz0
 go_upto_region 4 with (first | (refine load_mu rfl (.tmp 1) rfl w.heap.size 0 rfl m c HB0.out ?_) | (refine fill_mu rfl rfl rfl m c (w0:=W0) (b:=W0.heap.size) rfl ((Ext.refl W0).alloc _ _) (Blk.new W0 _ _) rfl rfl rfl ?_;intro w5 hx5 hm5;have HX5:=Lib.hid (HX0.out.trans hx5);have HB0:=Lib.hid (MuC.ext HB0.out hx5);have HB5:=Lib.hid hm5;clear hx5 hm5))
 have d0:=HB0.out.kind
 have hg:w.heap.size≤W0.heap.size:=HX0.out.size
 go_wp2_with (first | (refine put_mu' [.string ⟨#[]⟩] ?_ ?_ ?_ hg HX5.out HB5.out 1 ?_ ?_ (Mu.mk m.kd ByteArray.empty m.tk m.i m.had m.was m.has m.v m.l) ⟨c.w1,c.w2,c.v1,c.v2,c.s⟩ ?_ ?_;rfl;kernel_rfl;rfl;decide;rfl;rfl;intro v0 hx0 hm0;have GX0:=Lib.hid hx0;have GB0:=Lib.hid hm0;clear hx0 hm0) | (refine load_mu rfl (.tmp 3) rfl W0.heap.size 0 rfl (Mu.mk m.kd ByteArray.empty m.tk m.i m.had m.was m.has m.v m.l) ⟨c.w1,c.w2,c.v1,c.v2,c.s⟩ (MuC.of_blk GB0.out) ?_))
 refine (blank_any _ (Mu.mk m.kd ByteArray.empty m.tk m.i m.had m.was m.has m.v m.l) ⟨c.w1,c.w2,c.v1,c.v2,c.s⟩).mono ?_
 rintro e W7 ⟨rfl,hx7⟩
 have HX7:=Lib.hid (GX0.out.trans hx7)
 clear hx7
 go_wp2_with fail
 go_ret
 exact ⟨by rw [HR.out] <;> rfl,HX7.out⟩
theorem strange_2z (w:World) (m:Mu) (c:MuS) (hk:m.kd=2) (hh:m.had=false) (hz:nilV m.was=true):Calls Tryz.prog 121 #[aggMu m c] w fun e w'=>e=.returned (.bool (!bareMu m))∧Ext w w':=by
 have hr:(!bareMu m)=(!blankM (Mu.mk m.kd ByteArray.empty m.tk m.i m.had m.was m.has m.v m.l)):=by
  obtain ⟨kd',k',tk',i',had',was',has',v',l'⟩:=m
  simp only [Mu.kd,Mu.had,Mu.was,Mu.has,Mu.v] at hk hh hz
  simp [bareMu,bareM,blankM,Mu.kd,hk,hh,nil_zero,Mu.k,Mu.tk,Mu.i,Mu.had,Mu.was,Mu.has,Mu.v,Mu.l,hz]
 have HR:=Lib.hid hr
 have HH:=Lib.hid hh
 have HZ:=Lib.hid hz
 have e1:(m.kd == 1)=false:=by simp [hk]
 have e5:(m.kd == 5)=false:=by simp [hk]
 have e2:(m.kd == 2)=true:=by simp [hk]
 clear hr hk hh hz
 go_enter Tryz.func121,Tryz.ntmps121
 go_upto_region 1 with fail
 generalize hW0:World.alloc _ _=W0
 obtain ⟨hx0,hb0,hz0⟩:=box_mu (m:=m) (c:=c) hW0
 have HX0:=Lib.hid hx0
 have HB0:=Lib.hid hb0
 have c4:=hb0.c4
 rw [HH.out] at c4
 clear hW0 hx0 hb0 hz0
 obtain ⟨c5,c6,c7,c8,c9,c10⟩:=HB0.out.was6
 go_wp2_with fail
 refine (zero_any _ m.was c.w1 c.w2).mono ?_
 rintro e W1 ⟨rfl,hx1⟩
 have HX1:=Lib.hid (HX0.out.trans hx1)
 have HB1:=Lib.hid (HB0.out.ext hx1)
 clear hx1 c4 c5 c6 c7 c8 c9 c10
 rw [HZ.out]
 go_upto_region 4 with (first | (refine load_mu rfl (.tmp 1) rfl w.heap.size 0 rfl m c HB1.out ?_) | (refine fill_mu rfl rfl rfl m c (w0:=W1) (b:=W1.heap.size) rfl ((Ext.refl W1).alloc _ _) (Blk.new W1 _ _) rfl rfl rfl ?_;intro w5 hx5 hm5;have HX5:=Lib.hid (HX1.out.trans hx5);have HB0:=Lib.hid (MuC.ext HB1.out hx5);have HB5:=Lib.hid hm5;clear hx5 hm5))
 have d0:=HB0.out.kind
 have hg:w.heap.size≤W1.heap.size:=HX1.out.size
 go_wp2_with (first | (refine put_mu' [.string ⟨#[]⟩] ?_ ?_ ?_ hg HX5.out HB5.out 1 ?_ ?_ (Mu.mk m.kd ByteArray.empty m.tk m.i m.had m.was m.has m.v m.l) ⟨c.w1,c.w2,c.v1,c.v2,c.s⟩ ?_ ?_;rfl;kernel_rfl;rfl;decide;rfl;rfl;intro v0 hx0 hm0;have GX0:=Lib.hid hx0;have GB0:=Lib.hid hm0;clear hx0 hm0) | (refine load_mu rfl (.tmp 3) rfl W1.heap.size 0 rfl (Mu.mk m.kd ByteArray.empty m.tk m.i m.had m.was m.has m.v m.l) ⟨c.w1,c.w2,c.v1,c.v2,c.s⟩ (MuC.of_blk GB0.out) ?_))
 refine (blank_any _ (Mu.mk m.kd ByteArray.empty m.tk m.i m.had m.was m.has m.v m.l) ⟨c.w1,c.w2,c.v1,c.v2,c.s⟩).mono ?_
 rintro e W7 ⟨rfl,hx7⟩
 have HX7:=Lib.hid (GX0.out.trans hx7)
 clear hx7
 go_wp2_with fail
 go_ret
 exact ⟨by rw [HR.out] <;> rfl,HX7.out⟩
theorem strange_3h (w:World) (m:Mu) (c:MuS) (hk:m.kd=3) (hh:m.had=true):Calls Tryz.prog 121 #[aggMu m c] w fun e w'=>e=.returned (.bool (!bareMu m))∧Ext w w':=by
 have hr:(!bareMu m)=(!blankM (Mu.mk m.kd ByteArray.empty m.tk 0 m.had m.was m.has m.v m.l)):=by
  obtain ⟨kd',k',tk',i',had',was',has',v',l'⟩:=m
  simp only [Mu.kd,Mu.had,Mu.was,Mu.has,Mu.v] at hk hh
  simp [bareMu,bareM,blankM,Mu.kd,hk,hh,nil_zero,Mu.k,Mu.tk,Mu.i,Mu.had,Mu.was,Mu.has,Mu.v,Mu.l]
 have HR:=Lib.hid hr
 have HH:=Lib.hid hh
 have e1:(m.kd == 1)=false:=by simp [hk]
 have e5:(m.kd == 5)=false:=by simp [hk]
 have e2:(m.kd == 2)=false:=by simp [hk]
 have e3:(m.kd == 3)=true:=by simp [hk]
 clear hr hk hh
 go_enter Tryz.func121,Tryz.ntmps121
 go_upto_region 1 with fail
 generalize hW0:World.alloc _ _=W0
 obtain ⟨hx0,hb0,hz0⟩:=box_mu (m:=m) (c:=c) hW0
 have HX0:=Lib.hid hx0
 have HB0:=Lib.hid hb0
 have c4:=hb0.c4
 rw [HH.out] at c4
 clear hW0 hx0 hb0 hz0
 go_upto_region 4 with (first | (refine load_mu rfl (.tmp 1) rfl w.heap.size 0 rfl m c HB0.out ?_) | (refine fill_mu rfl rfl rfl m c (w0:=W0) (b:=W0.heap.size) rfl ((Ext.refl W0).alloc _ _) (Blk.new W0 _ _) rfl rfl rfl ?_;intro w5 hx5 hm5;have HX5:=Lib.hid (HX0.out.trans hx5);have HB0:=Lib.hid (MuC.ext HB0.out hx5);have HB5:=Lib.hid hm5;clear hx5 hm5))
 have d0:=HB0.out.kind
 have hg:w.heap.size≤W0.heap.size:=HX0.out.size
 go_wp2_with (first | (refine put_mu' [.string ⟨#[]⟩] ?_ ?_ ?_ hg HX5.out HB5.out 1 ?_ ?_ (Mu.mk m.kd ByteArray.empty m.tk m.i m.had m.was m.has m.v m.l) ⟨c.w1,c.w2,c.v1,c.v2,c.s⟩ ?_ ?_;rfl;kernel_rfl;rfl;decide;rfl;rfl;intro v0 hx0 hm0;have GX0:=Lib.hid hx0;have GB0:=Lib.hid hm0;clear hx0 hm0) | (refine put_mu' [.int .i64 0] ?_ ?_ ?_ hg GX0.out GB0.out 3 ?_ ?_ (Mu.mk m.kd ByteArray.empty m.tk 0 m.had m.was m.has m.v m.l) ⟨c.w1,c.w2,c.v1,c.v2,c.s⟩ ?_ ?_;rfl;kernel_rfl;rfl;decide;rfl;rfl;intro v1 hx1 hm1;have GX1:=Lib.hid hx1;have GB1:=Lib.hid hm1;clear hx1 hm1) | (refine load_mu rfl (.tmp 3) rfl W0.heap.size 0 rfl (Mu.mk m.kd ByteArray.empty m.tk 0 m.had m.was m.has m.v m.l) ⟨c.w1,c.w2,c.v1,c.v2,c.s⟩ (MuC.of_blk GB1.out) ?_))
 refine (blank_any _ (Mu.mk m.kd ByteArray.empty m.tk 0 m.had m.was m.has m.v m.l) ⟨c.w1,c.w2,c.v1,c.v2,c.s⟩).mono ?_
 rintro e W7 ⟨rfl,hx7⟩
 have HX7:=Lib.hid (GX1.out.trans hx7)
 clear hx7
 go_wp2_with fail
 go_ret
 exact ⟨by rw [HR.out] <;> rfl,HX7.out⟩
theorem strange_3z (w:World) (m:Mu) (c:MuS) (hk:m.kd=3) (hh:m.had=false) (hz:nilV m.was=true):Calls Tryz.prog 121 #[aggMu m c] w fun e w'=>e=.returned (.bool (!bareMu m))∧Ext w w':=by
 have hr:(!bareMu m)=(!blankM (Mu.mk m.kd ByteArray.empty m.tk 0 m.had m.was m.has m.v m.l)):=by
  obtain ⟨kd',k',tk',i',had',was',has',v',l'⟩:=m
  simp only [Mu.kd,Mu.had,Mu.was,Mu.has,Mu.v] at hk hh hz
  simp [bareMu,bareM,blankM,Mu.kd,hk,hh,nil_zero,Mu.k,Mu.tk,Mu.i,Mu.had,Mu.was,Mu.has,Mu.v,Mu.l,hz]
 have HR:=Lib.hid hr
 have HH:=Lib.hid hh
 have HZ:=Lib.hid hz
 have e1:(m.kd == 1)=false:=by simp [hk]
 have e5:(m.kd == 5)=false:=by simp [hk]
 have e2:(m.kd == 2)=false:=by simp [hk]
 have e3:(m.kd == 3)=true:=by simp [hk]
 clear hr hk hh hz
 go_enter Tryz.func121,Tryz.ntmps121
 go_upto_region 1 with fail
 generalize hW0:World.alloc _ _=W0
 obtain ⟨hx0,hb0,hz0⟩:=box_mu (m:=m) (c:=c) hW0
 have HX0:=Lib.hid hx0
 have HB0:=Lib.hid hb0
 have c4:=hb0.c4
 rw [HH.out] at c4
 clear hW0 hx0 hb0 hz0
 obtain ⟨c5,c6,c7,c8,c9,c10⟩:=HB0.out.was6
 go_wp2_with fail
 refine (zero_any _ m.was c.w1 c.w2).mono ?_
 rintro e W1 ⟨rfl,hx1⟩
 have HX1:=Lib.hid (HX0.out.trans hx1)
 have HB1:=Lib.hid (HB0.out.ext hx1)
 clear hx1 c4 c5 c6 c7 c8 c9 c10
 rw [HZ.out]
 go_upto_region 4 with (first | (refine load_mu rfl (.tmp 1) rfl w.heap.size 0 rfl m c HB1.out ?_) | (refine fill_mu rfl rfl rfl m c (w0:=W1) (b:=W1.heap.size) rfl ((Ext.refl W1).alloc _ _) (Blk.new W1 _ _) rfl rfl rfl ?_;intro w5 hx5 hm5;have HX5:=Lib.hid (HX1.out.trans hx5);have HB0:=Lib.hid (MuC.ext HB1.out hx5);have HB5:=Lib.hid hm5;clear hx5 hm5))
 have d0:=HB0.out.kind
 have hg:w.heap.size≤W1.heap.size:=HX1.out.size
 go_wp2_with (first | (refine put_mu' [.string ⟨#[]⟩] ?_ ?_ ?_ hg HX5.out HB5.out 1 ?_ ?_ (Mu.mk m.kd ByteArray.empty m.tk m.i m.had m.was m.has m.v m.l) ⟨c.w1,c.w2,c.v1,c.v2,c.s⟩ ?_ ?_;rfl;kernel_rfl;rfl;decide;rfl;rfl;intro v0 hx0 hm0;have GX0:=Lib.hid hx0;have GB0:=Lib.hid hm0;clear hx0 hm0) | (refine put_mu' [.int .i64 0] ?_ ?_ ?_ hg GX0.out GB0.out 3 ?_ ?_ (Mu.mk m.kd ByteArray.empty m.tk 0 m.had m.was m.has m.v m.l) ⟨c.w1,c.w2,c.v1,c.v2,c.s⟩ ?_ ?_;rfl;kernel_rfl;rfl;decide;rfl;rfl;intro v1 hx1 hm1;have GX1:=Lib.hid hx1;have GB1:=Lib.hid hm1;clear hx1 hm1) | (refine load_mu rfl (.tmp 3) rfl W1.heap.size 0 rfl (Mu.mk m.kd ByteArray.empty m.tk 0 m.had m.was m.has m.v m.l) ⟨c.w1,c.w2,c.v1,c.v2,c.s⟩ (MuC.of_blk GB1.out) ?_))
 refine (blank_any _ (Mu.mk m.kd ByteArray.empty m.tk 0 m.had m.was m.has m.v m.l) ⟨c.w1,c.w2,c.v1,c.v2,c.s⟩).mono ?_
 rintro e W7 ⟨rfl,hx7⟩
 have HX7:=Lib.hid (GX1.out.trans hx7)
 clear hx7
 go_wp2_with fail
 go_ret
 exact ⟨by rw [HR.out] <;> rfl,HX7.out⟩
theorem strange_4ha (w:World) (m:Mu) (c:MuS) (hk:m.kd=4) (hh:m.had=true) (hs:m.has=true):Calls Tryz.prog 121 #[aggMu m c] w fun e w'=>e=.returned (.bool (!bareMu m))∧Ext w w':=by
 have hr:(!bareMu m)=(!blankM (Mu.mk m.kd ByteArray.empty m.tk m.i false zeroV false zeroV m.l)):=by
  obtain ⟨kd',k',tk',i',had',was',has',v',l'⟩:=m
  simp only [Mu.kd,Mu.had,Mu.was,Mu.has,Mu.v] at hk hh hs
  simp [bareMu,bareM,blankM,Mu.kd,hk,hh,nil_zero,Mu.k,Mu.tk,Mu.i,Mu.had,Mu.was,Mu.has,Mu.v,Mu.l,hs]
 have HR:=Lib.hid hr
 have HH:=Lib.hid hh
 have HS:=Lib.hid hs
 have e1:(m.kd == 1)=false:=by simp [hk]
 have e5:(m.kd == 5)=false:=by simp [hk]
 have e2:(m.kd == 2)=false:=by simp [hk]
 have e3:(m.kd == 3)=false:=by simp [hk]
 have e4:(m.kd == 4)=true:=by simp [hk]
 clear hr hk hh hs
 go_enter Tryz.func121,Tryz.ntmps121
 go_upto_region 1 with fail
 generalize hW0:World.alloc _ _=W0
 obtain ⟨hx0,hb0,hz0⟩:=box_mu (m:=m) (c:=c) hW0
 have HX0:=Lib.hid hx0
 have HB0:=Lib.hid hb0
 have c4:=hb0.c4
 rw [HH.out] at c4
 clear hW0 hx0 hb0 hz0
 go_upto_region 4 with (first | (refine load_mu rfl (.tmp 1) rfl w.heap.size 0 rfl m c HB0.out ?_) | (refine fill_mu rfl rfl rfl m c (w0:=W0) (b:=W0.heap.size) rfl ((Ext.refl W0).alloc _ _) (Blk.new W0 _ _) rfl rfl rfl ?_;intro w5 hx5 hm5;have HX5:=Lib.hid (HX0.out.trans hx5);have HB0:=Lib.hid (MuC.ext HB0.out hx5);have HB5:=Lib.hid hm5;clear hx5 hm5))
 have d0:=HB0.out.kind
 have hg:w.heap.size≤W0.heap.size:=HX0.out.size
 have d11:=HB0.out.c11
 rw [HS.out] at d11
 go_upto_region 16 with fail
 go_wp2_with (first | (refine put_mu' [.string ⟨#[]⟩] ?_ ?_ ?_ hg HX5.out HB5.out 1 ?_ ?_ (Mu.mk m.kd ByteArray.empty m.tk m.i m.had m.was m.has m.v m.l) ⟨c.w1,c.w2,c.v1,c.v2,c.s⟩ ?_ ?_;rfl;kernel_rfl;rfl;decide;rfl;rfl;intro v0 hx0 hm0;have GX0:=Lib.hid hx0;have GB0:=Lib.hid hm0;clear hx0 hm0) | (refine put_mu' [.bool false] ?_ ?_ ?_ hg GX0.out GB0.out 4 ?_ ?_ (Mu.mk m.kd ByteArray.empty m.tk m.i false m.was m.has m.v m.l) ⟨c.w1,c.w2,c.v1,c.v2,c.s⟩ ?_ ?_;rfl;kernel_rfl;rfl;decide;rfl;rfl;intro v1 hx1 hm1;have GX1:=Lib.hid hx1;have GB1:=Lib.hid hm1;clear hx1 hm1) | (refine put_mu' [.int .i64 0,.bool false,.int .i64 0,.string ⟨#[]⟩,.slice none 0 0,.slice none 0 0] ?_ ?_ ?_ hg GX1.out GB1.out 5 ?_ ?_ (Mu.mk m.kd ByteArray.empty m.tk m.i false zeroV m.has m.v m.l) ⟨Sl.none,Sl.none,c.v1,c.v2,c.s⟩ ?_ ?_;rfl;kernel_rfl;rfl;decide;rfl;rfl;intro v2 hx2 hm2;have GX2:=Lib.hid hx2;have GB2:=Lib.hid hm2;clear hx2 hm2) | (refine put_mu' [.bool false] ?_ ?_ ?_ hg GX2.out GB2.out 11 ?_ ?_ (Mu.mk m.kd ByteArray.empty m.tk m.i false zeroV false m.v m.l) ⟨Sl.none,Sl.none,c.v1,c.v2,c.s⟩ ?_ ?_;rfl;kernel_rfl;rfl;decide;rfl;rfl;intro v3 hx3 hm3;have GX3:=Lib.hid hx3;have GB3:=Lib.hid hm3;clear hx3 hm3) | (refine put_mu' [.int .i64 0,.bool false,.int .i64 0,.string ⟨#[]⟩,.slice none 0 0,.slice none 0 0] ?_ ?_ ?_ hg GX3.out GB3.out 12 ?_ ?_ (Mu.mk m.kd ByteArray.empty m.tk m.i false zeroV false zeroV m.l) ⟨Sl.none,Sl.none,Sl.none,Sl.none,c.s⟩ ?_ ?_;rfl;kernel_rfl;rfl;decide;rfl;rfl;intro v4 hx4 hm4;have GX4:=Lib.hid hx4;have GB4:=Lib.hid hm4;clear hx4 hm4) | (refine load_mu rfl (.tmp 3) rfl W0.heap.size 0 rfl (Mu.mk m.kd ByteArray.empty m.tk m.i false zeroV false zeroV m.l) ⟨Sl.none,Sl.none,Sl.none,Sl.none,c.s⟩ (MuC.of_blk GB4.out) ?_))
 refine (blank_any _ (Mu.mk m.kd ByteArray.empty m.tk m.i false zeroV false zeroV m.l) ⟨Sl.none,Sl.none,Sl.none,Sl.none,c.s⟩).mono ?_
 rintro e W7 ⟨rfl,hx7⟩
 have HX7:=Lib.hid (GX4.out.trans hx7)
 clear hx7
 go_wp2_with fail
 go_ret
 exact ⟨by rw [HR.out] <;> rfl,HX7.out⟩
theorem strange_4hb (w:World) (m:Mu) (c:MuS) (hk:m.kd=4) (hh:m.had=true) (hs:m.has=false) (hv:nilV m.v=true):Calls Tryz.prog 121 #[aggMu m c] w fun e w'=>e=.returned (.bool (!bareMu m))∧Ext w w':=by
 have hr:(!bareMu m)=(!blankM (Mu.mk m.kd ByteArray.empty m.tk m.i false zeroV false zeroV m.l)):=by
  obtain ⟨kd',k',tk',i',had',was',has',v',l'⟩:=m
  simp only [Mu.kd,Mu.had,Mu.was,Mu.has,Mu.v] at hk hh hs hv
  simp [bareMu,bareM,blankM,Mu.kd,hk,hh,nil_zero,Mu.k,Mu.tk,Mu.i,Mu.had,Mu.was,Mu.has,Mu.v,Mu.l,hs,hv]
 have HR:=Lib.hid hr
 have HH:=Lib.hid hh
 have HS:=Lib.hid hs
 have HV:=Lib.hid hv
 have e1:(m.kd == 1)=false:=by simp [hk]
 have e5:(m.kd == 5)=false:=by simp [hk]
 have e2:(m.kd == 2)=false:=by simp [hk]
 have e3:(m.kd == 3)=false:=by simp [hk]
 have e4:(m.kd == 4)=true:=by simp [hk]
 clear hr hk hh hs hv
 go_enter Tryz.func121,Tryz.ntmps121
 go_upto_region 1 with fail
 generalize hW0:World.alloc _ _=W0
 obtain ⟨hx0,hb0,hz0⟩:=box_mu (m:=m) (c:=c) hW0
 have HX0:=Lib.hid hx0
 have HB0:=Lib.hid hb0
 have c4:=hb0.c4
 rw [HH.out] at c4
 clear hW0 hx0 hb0 hz0
 go_upto_region 4 with (first | (refine load_mu rfl (.tmp 1) rfl w.heap.size 0 rfl m c HB0.out ?_) | (refine fill_mu rfl rfl rfl m c (w0:=W0) (b:=W0.heap.size) rfl ((Ext.refl W0).alloc _ _) (Blk.new W0 _ _) rfl rfl rfl ?_;intro w5 hx5 hm5;have HX5:=Lib.hid (HX0.out.trans hx5);have HB0:=Lib.hid (MuC.ext HB0.out hx5);have HB5:=Lib.hid hm5;clear hx5 hm5))
 have d0:=HB0.out.kind
 have hg:w.heap.size≤W0.heap.size:=HX0.out.size
 have d11:=HB0.out.c11
 rw [HS.out] at d11
 obtain ⟨d12,d13,d14,d15,d16,d17⟩:=HB0.out.v6
 go_wp2_with fail
 refine (zero_any _ m.v c.v1 c.v2).mono ?_
 rintro e W6 ⟨rfl,hx6⟩
 rw [HV.out]
 have HB6:=Lib.hid (HB5.out.ext hx6)
 have HX6:=Lib.hid (HX5.out.trans hx6)
 clear hx6 d0 d11 d12 d13 d14 d15 d16 d17
 go_wp2_with (first | (refine put_mu' [.string ⟨#[]⟩] ?_ ?_ ?_ hg HX6.out HB6.out 1 ?_ ?_ (Mu.mk m.kd ByteArray.empty m.tk m.i m.had m.was m.has m.v m.l) ⟨c.w1,c.w2,c.v1,c.v2,c.s⟩ ?_ ?_;rfl;kernel_rfl;rfl;decide;rfl;rfl;intro v0 hx0 hm0;have GX0:=Lib.hid hx0;have GB0:=Lib.hid hm0;clear hx0 hm0) | (refine put_mu' [.bool false] ?_ ?_ ?_ hg GX0.out GB0.out 4 ?_ ?_ (Mu.mk m.kd ByteArray.empty m.tk m.i false m.was m.has m.v m.l) ⟨c.w1,c.w2,c.v1,c.v2,c.s⟩ ?_ ?_;rfl;kernel_rfl;rfl;decide;rfl;rfl;intro v1 hx1 hm1;have GX1:=Lib.hid hx1;have GB1:=Lib.hid hm1;clear hx1 hm1) | (refine put_mu' [.int .i64 0,.bool false,.int .i64 0,.string ⟨#[]⟩,.slice none 0 0,.slice none 0 0] ?_ ?_ ?_ hg GX1.out GB1.out 5 ?_ ?_ (Mu.mk m.kd ByteArray.empty m.tk m.i false zeroV m.has m.v m.l) ⟨Sl.none,Sl.none,c.v1,c.v2,c.s⟩ ?_ ?_;rfl;kernel_rfl;rfl;decide;rfl;rfl;intro v2 hx2 hm2;have GX2:=Lib.hid hx2;have GB2:=Lib.hid hm2;clear hx2 hm2) | (refine put_mu' [.bool false] ?_ ?_ ?_ hg GX2.out GB2.out 11 ?_ ?_ (Mu.mk m.kd ByteArray.empty m.tk m.i false zeroV false m.v m.l) ⟨Sl.none,Sl.none,c.v1,c.v2,c.s⟩ ?_ ?_;rfl;kernel_rfl;rfl;decide;rfl;rfl;intro v3 hx3 hm3;have GX3:=Lib.hid hx3;have GB3:=Lib.hid hm3;clear hx3 hm3) | (refine put_mu' [.int .i64 0,.bool false,.int .i64 0,.string ⟨#[]⟩,.slice none 0 0,.slice none 0 0] ?_ ?_ ?_ hg GX3.out GB3.out 12 ?_ ?_ (Mu.mk m.kd ByteArray.empty m.tk m.i false zeroV false zeroV m.l) ⟨Sl.none,Sl.none,Sl.none,Sl.none,c.s⟩ ?_ ?_;rfl;kernel_rfl;rfl;decide;rfl;rfl;intro v4 hx4 hm4;have GX4:=Lib.hid hx4;have GB4:=Lib.hid hm4;clear hx4 hm4) | (refine load_mu rfl (.tmp 3) rfl W0.heap.size 0 rfl (Mu.mk m.kd ByteArray.empty m.tk m.i false zeroV false zeroV m.l) ⟨Sl.none,Sl.none,Sl.none,Sl.none,c.s⟩ (MuC.of_blk GB4.out) ?_))
 refine (blank_any _ (Mu.mk m.kd ByteArray.empty m.tk m.i false zeroV false zeroV m.l) ⟨Sl.none,Sl.none,Sl.none,Sl.none,c.s⟩).mono ?_
 rintro e W7 ⟨rfl,hx7⟩
 have HX7:=Lib.hid (GX4.out.trans hx7)
 clear hx7
 go_wp2_with fail
 go_ret
 exact ⟨by rw [HR.out] <;> rfl,HX7.out⟩
theorem strange_4hc (w:World) (m:Mu) (c:MuS) (hk:m.kd=4) (hh:m.had=true) (hs:m.has=false) (hv:nilV m.v=false):Calls Tryz.prog 121 #[aggMu m c] w fun e w'=>e=.returned (.bool (!bareMu m))∧Ext w w':=by
 have hr:(!bareMu m)=true:=by
  obtain ⟨kd',k',tk',i',had',was',has',v',l'⟩:=m
  simp only [Mu.kd,Mu.had,Mu.was,Mu.has,Mu.v] at hk hh hs hv
  simp [bareMu,bareM,blankM,Mu.kd,hk,hh,nil_zero,Mu.k,Mu.tk,Mu.i,Mu.had,Mu.was,Mu.has,Mu.v,Mu.l,hs,hv]
 have HR:=Lib.hid hr
 have HH:=Lib.hid hh
 have HS:=Lib.hid hs
 have HV:=Lib.hid hv
 have e1:(m.kd == 1)=false:=by simp [hk]
 have e5:(m.kd == 5)=false:=by simp [hk]
 have e2:(m.kd == 2)=false:=by simp [hk]
 have e3:(m.kd == 3)=false:=by simp [hk]
 have e4:(m.kd == 4)=true:=by simp [hk]
 clear hr hk hh hs hv
 go_enter Tryz.func121,Tryz.ntmps121
 go_upto_region 1 with fail
 generalize hW0:World.alloc _ _=W0
 obtain ⟨hx0,hb0,hz0⟩:=box_mu (m:=m) (c:=c) hW0
 have HX0:=Lib.hid hx0
 have HB0:=Lib.hid hb0
 have c4:=hb0.c4
 rw [HH.out] at c4
 clear hW0 hx0 hb0 hz0
 go_upto_region 4 with (first | (refine load_mu rfl (.tmp 1) rfl w.heap.size 0 rfl m c HB0.out ?_) | (refine fill_mu rfl rfl rfl m c (w0:=W0) (b:=W0.heap.size) rfl ((Ext.refl W0).alloc _ _) (Blk.new W0 _ _) rfl rfl rfl ?_;intro w5 hx5 hm5;have HX5:=Lib.hid (HX0.out.trans hx5);have HB0:=Lib.hid (MuC.ext HB0.out hx5);have HB5:=Lib.hid hm5;clear hx5 hm5))
 have d0:=HB0.out.kind
 have hg:w.heap.size≤W0.heap.size:=HX0.out.size
 have d11:=HB0.out.c11
 rw [HS.out] at d11
 obtain ⟨d12,d13,d14,d15,d16,d17⟩:=HB0.out.v6
 go_wp2_with fail
 refine (zero_any _ m.v c.v1 c.v2).mono ?_
 rintro e W6 ⟨rfl,hx6⟩
 rw [HV.out]
 have HX6:=Lib.hid (HX5.out.trans hx6)
 clear hx6
 go_wp2_with fail
 go_ret
 exact ⟨by rw [HR.out] <;> rfl,HX6.out⟩
theorem strange_4za (w:World) (m:Mu) (c:MuS) (hk:m.kd=4) (hh:m.had=false) (hz:nilV m.was=true) (hs:m.has=true):Calls Tryz.prog 121 #[aggMu m c] w fun e w'=>e=.returned (.bool (!bareMu m))∧Ext w w':=by
 have hr:(!bareMu m)=(!blankM (Mu.mk m.kd ByteArray.empty m.tk m.i false zeroV false zeroV m.l)):=by
  obtain ⟨kd',k',tk',i',had',was',has',v',l'⟩:=m
  simp only [Mu.kd,Mu.had,Mu.was,Mu.has,Mu.v] at hk hh hz hs
  simp [bareMu,bareM,blankM,Mu.kd,hk,hh,nil_zero,Mu.k,Mu.tk,Mu.i,Mu.had,Mu.was,Mu.has,Mu.v,Mu.l,hz,hs]
 have HR:=Lib.hid hr
 have HH:=Lib.hid hh
 have HS:=Lib.hid hs
 have HZ:=Lib.hid hz
 have e1:(m.kd == 1)=false:=by simp [hk]
 have e5:(m.kd == 5)=false:=by simp [hk]
 have e2:(m.kd == 2)=false:=by simp [hk]
 have e3:(m.kd == 3)=false:=by simp [hk]
 have e4:(m.kd == 4)=true:=by simp [hk]
 clear hr hk hh hz hs
 go_enter Tryz.func121,Tryz.ntmps121
 go_upto_region 1 with fail
 generalize hW0:World.alloc _ _=W0
 obtain ⟨hx0,hb0,hz0⟩:=box_mu (m:=m) (c:=c) hW0
 have HX0:=Lib.hid hx0
 have HB0:=Lib.hid hb0
 have c4:=hb0.c4
 rw [HH.out] at c4
 clear hW0 hx0 hb0 hz0
 obtain ⟨c5,c6,c7,c8,c9,c10⟩:=HB0.out.was6
 go_wp2_with fail
 refine (zero_any _ m.was c.w1 c.w2).mono ?_
 rintro e W1 ⟨rfl,hx1⟩
 have HX1:=Lib.hid (HX0.out.trans hx1)
 have HB1:=Lib.hid (HB0.out.ext hx1)
 clear hx1 c4 c5 c6 c7 c8 c9 c10
 rw [HZ.out]
 go_upto_region 4 with (first | (refine load_mu rfl (.tmp 1) rfl w.heap.size 0 rfl m c HB1.out ?_) | (refine fill_mu rfl rfl rfl m c (w0:=W1) (b:=W1.heap.size) rfl ((Ext.refl W1).alloc _ _) (Blk.new W1 _ _) rfl rfl rfl ?_;intro w5 hx5 hm5;have HX5:=Lib.hid (HX1.out.trans hx5);have HB0:=Lib.hid (MuC.ext HB1.out hx5);have HB5:=Lib.hid hm5;clear hx5 hm5))
 have d0:=HB0.out.kind
 have hg:w.heap.size≤W1.heap.size:=HX1.out.size
 have d11:=HB0.out.c11
 rw [HS.out] at d11
 go_upto_region 16 with fail
 go_wp2_with (first | (refine put_mu' [.string ⟨#[]⟩] ?_ ?_ ?_ hg HX5.out HB5.out 1 ?_ ?_ (Mu.mk m.kd ByteArray.empty m.tk m.i m.had m.was m.has m.v m.l) ⟨c.w1,c.w2,c.v1,c.v2,c.s⟩ ?_ ?_;rfl;kernel_rfl;rfl;decide;rfl;rfl;intro v0 hx0 hm0;have GX0:=Lib.hid hx0;have GB0:=Lib.hid hm0;clear hx0 hm0) | (refine put_mu' [.bool false] ?_ ?_ ?_ hg GX0.out GB0.out 4 ?_ ?_ (Mu.mk m.kd ByteArray.empty m.tk m.i false m.was m.has m.v m.l) ⟨c.w1,c.w2,c.v1,c.v2,c.s⟩ ?_ ?_;rfl;kernel_rfl;rfl;decide;rfl;rfl;intro v1 hx1 hm1;have GX1:=Lib.hid hx1;have GB1:=Lib.hid hm1;clear hx1 hm1) | (refine put_mu' [.int .i64 0,.bool false,.int .i64 0,.string ⟨#[]⟩,.slice none 0 0,.slice none 0 0] ?_ ?_ ?_ hg GX1.out GB1.out 5 ?_ ?_ (Mu.mk m.kd ByteArray.empty m.tk m.i false zeroV m.has m.v m.l) ⟨Sl.none,Sl.none,c.v1,c.v2,c.s⟩ ?_ ?_;rfl;kernel_rfl;rfl;decide;rfl;rfl;intro v2 hx2 hm2;have GX2:=Lib.hid hx2;have GB2:=Lib.hid hm2;clear hx2 hm2) | (refine put_mu' [.bool false] ?_ ?_ ?_ hg GX2.out GB2.out 11 ?_ ?_ (Mu.mk m.kd ByteArray.empty m.tk m.i false zeroV false m.v m.l) ⟨Sl.none,Sl.none,c.v1,c.v2,c.s⟩ ?_ ?_;rfl;kernel_rfl;rfl;decide;rfl;rfl;intro v3 hx3 hm3;have GX3:=Lib.hid hx3;have GB3:=Lib.hid hm3;clear hx3 hm3) | (refine put_mu' [.int .i64 0,.bool false,.int .i64 0,.string ⟨#[]⟩,.slice none 0 0,.slice none 0 0] ?_ ?_ ?_ hg GX3.out GB3.out 12 ?_ ?_ (Mu.mk m.kd ByteArray.empty m.tk m.i false zeroV false zeroV m.l) ⟨Sl.none,Sl.none,Sl.none,Sl.none,c.s⟩ ?_ ?_;rfl;kernel_rfl;rfl;decide;rfl;rfl;intro v4 hx4 hm4;have GX4:=Lib.hid hx4;have GB4:=Lib.hid hm4;clear hx4 hm4) | (refine load_mu rfl (.tmp 3) rfl W1.heap.size 0 rfl (Mu.mk m.kd ByteArray.empty m.tk m.i false zeroV false zeroV m.l) ⟨Sl.none,Sl.none,Sl.none,Sl.none,c.s⟩ (MuC.of_blk GB4.out) ?_))
 refine (blank_any _ (Mu.mk m.kd ByteArray.empty m.tk m.i false zeroV false zeroV m.l) ⟨Sl.none,Sl.none,Sl.none,Sl.none,c.s⟩).mono ?_
 rintro e W7 ⟨rfl,hx7⟩
 have HX7:=Lib.hid (GX4.out.trans hx7)
 clear hx7
 go_wp2_with fail
 go_ret
 exact ⟨by rw [HR.out] <;> rfl,HX7.out⟩
theorem strange_4zb (w:World) (m:Mu) (c:MuS) (hk:m.kd=4) (hh:m.had=false) (hz:nilV m.was=true) (hs:m.has=false) (hv:nilV m.v=true):Calls Tryz.prog 121 #[aggMu m c] w fun e w'=>e=.returned (.bool (!bareMu m))∧Ext w w':=by
 have hr:(!bareMu m)=(!blankM (Mu.mk m.kd ByteArray.empty m.tk m.i false zeroV false zeroV m.l)):=by
  obtain ⟨kd',k',tk',i',had',was',has',v',l'⟩:=m
  simp only [Mu.kd,Mu.had,Mu.was,Mu.has,Mu.v] at hk hh hz hs hv
  simp [bareMu,bareM,blankM,Mu.kd,hk,hh,nil_zero,Mu.k,Mu.tk,Mu.i,Mu.had,Mu.was,Mu.has,Mu.v,Mu.l,hz,hs,hv]
 have HR:=Lib.hid hr
 have HH:=Lib.hid hh
 have HS:=Lib.hid hs
 have HZ:=Lib.hid hz
 have HV:=Lib.hid hv
 have e1:(m.kd == 1)=false:=by simp [hk]
 have e5:(m.kd == 5)=false:=by simp [hk]
 have e2:(m.kd == 2)=false:=by simp [hk]
 have e3:(m.kd == 3)=false:=by simp [hk]
 have e4:(m.kd == 4)=true:=by simp [hk]
 clear hr hk hh hz hs hv
 go_enter Tryz.func121,Tryz.ntmps121
 go_upto_region 1 with fail
 generalize hW0:World.alloc _ _=W0
 obtain ⟨hx0,hb0,hz0⟩:=box_mu (m:=m) (c:=c) hW0
 have HX0:=Lib.hid hx0
 have HB0:=Lib.hid hb0
 have c4:=hb0.c4
 rw [HH.out] at c4
 clear hW0 hx0 hb0 hz0
 obtain ⟨c5,c6,c7,c8,c9,c10⟩:=HB0.out.was6
 go_wp2_with fail
 refine (zero_any _ m.was c.w1 c.w2).mono ?_
 rintro e W1 ⟨rfl,hx1⟩
 have HX1:=Lib.hid (HX0.out.trans hx1)
 have HB1:=Lib.hid (HB0.out.ext hx1)
 clear hx1 c4 c5 c6 c7 c8 c9 c10
 rw [HZ.out]
 go_upto_region 4 with (first | (refine load_mu rfl (.tmp 1) rfl w.heap.size 0 rfl m c HB1.out ?_) | (refine fill_mu rfl rfl rfl m c (w0:=W1) (b:=W1.heap.size) rfl ((Ext.refl W1).alloc _ _) (Blk.new W1 _ _) rfl rfl rfl ?_;intro w5 hx5 hm5;have HX5:=Lib.hid (HX1.out.trans hx5);have HB0:=Lib.hid (MuC.ext HB1.out hx5);have HB5:=Lib.hid hm5;clear hx5 hm5))
 have d0:=HB0.out.kind
 have hg:w.heap.size≤W1.heap.size:=HX1.out.size
 have d11:=HB0.out.c11
 rw [HS.out] at d11
 obtain ⟨d12,d13,d14,d15,d16,d17⟩:=HB0.out.v6
 go_wp2_with fail
 refine (zero_any _ m.v c.v1 c.v2).mono ?_
 rintro e W6 ⟨rfl,hx6⟩
 rw [HV.out]
 have HB6:=Lib.hid (HB5.out.ext hx6)
 have HX6:=Lib.hid (HX5.out.trans hx6)
 clear hx6 d0 d11 d12 d13 d14 d15 d16 d17
 go_wp2_with (first | (refine put_mu' [.string ⟨#[]⟩] ?_ ?_ ?_ hg HX6.out HB6.out 1 ?_ ?_ (Mu.mk m.kd ByteArray.empty m.tk m.i m.had m.was m.has m.v m.l) ⟨c.w1,c.w2,c.v1,c.v2,c.s⟩ ?_ ?_;rfl;kernel_rfl;rfl;decide;rfl;rfl;intro v0 hx0 hm0;have GX0:=Lib.hid hx0;have GB0:=Lib.hid hm0;clear hx0 hm0) | (refine put_mu' [.bool false] ?_ ?_ ?_ hg GX0.out GB0.out 4 ?_ ?_ (Mu.mk m.kd ByteArray.empty m.tk m.i false m.was m.has m.v m.l) ⟨c.w1,c.w2,c.v1,c.v2,c.s⟩ ?_ ?_;rfl;kernel_rfl;rfl;decide;rfl;rfl;intro v1 hx1 hm1;have GX1:=Lib.hid hx1;have GB1:=Lib.hid hm1;clear hx1 hm1) | (refine put_mu' [.int .i64 0,.bool false,.int .i64 0,.string ⟨#[]⟩,.slice none 0 0,.slice none 0 0] ?_ ?_ ?_ hg GX1.out GB1.out 5 ?_ ?_ (Mu.mk m.kd ByteArray.empty m.tk m.i false zeroV m.has m.v m.l) ⟨Sl.none,Sl.none,c.v1,c.v2,c.s⟩ ?_ ?_;rfl;kernel_rfl;rfl;decide;rfl;rfl;intro v2 hx2 hm2;have GX2:=Lib.hid hx2;have GB2:=Lib.hid hm2;clear hx2 hm2) | (refine put_mu' [.bool false] ?_ ?_ ?_ hg GX2.out GB2.out 11 ?_ ?_ (Mu.mk m.kd ByteArray.empty m.tk m.i false zeroV false m.v m.l) ⟨Sl.none,Sl.none,c.v1,c.v2,c.s⟩ ?_ ?_;rfl;kernel_rfl;rfl;decide;rfl;rfl;intro v3 hx3 hm3;have GX3:=Lib.hid hx3;have GB3:=Lib.hid hm3;clear hx3 hm3) | (refine put_mu' [.int .i64 0,.bool false,.int .i64 0,.string ⟨#[]⟩,.slice none 0 0,.slice none 0 0] ?_ ?_ ?_ hg GX3.out GB3.out 12 ?_ ?_ (Mu.mk m.kd ByteArray.empty m.tk m.i false zeroV false zeroV m.l) ⟨Sl.none,Sl.none,Sl.none,Sl.none,c.s⟩ ?_ ?_;rfl;kernel_rfl;rfl;decide;rfl;rfl;intro v4 hx4 hm4;have GX4:=Lib.hid hx4;have GB4:=Lib.hid hm4;clear hx4 hm4) | (refine load_mu rfl (.tmp 3) rfl W1.heap.size 0 rfl (Mu.mk m.kd ByteArray.empty m.tk m.i false zeroV false zeroV m.l) ⟨Sl.none,Sl.none,Sl.none,Sl.none,c.s⟩ (MuC.of_blk GB4.out) ?_))
 refine (blank_any _ (Mu.mk m.kd ByteArray.empty m.tk m.i false zeroV false zeroV m.l) ⟨Sl.none,Sl.none,Sl.none,Sl.none,c.s⟩).mono ?_
 rintro e W7 ⟨rfl,hx7⟩
 have HX7:=Lib.hid (GX4.out.trans hx7)
 clear hx7
 go_wp2_with fail
 go_ret
 exact ⟨by rw [HR.out] <;> rfl,HX7.out⟩
theorem strange_4zc (w:World) (m:Mu) (c:MuS) (hk:m.kd=4) (hh:m.had=false) (hz:nilV m.was=true) (hs:m.has=false) (hv:nilV m.v=false):Calls Tryz.prog 121 #[aggMu m c] w fun e w'=>e=.returned (.bool (!bareMu m))∧Ext w w':=by
 have hr:(!bareMu m)=true:=by
  obtain ⟨kd',k',tk',i',had',was',has',v',l'⟩:=m
  simp only [Mu.kd,Mu.had,Mu.was,Mu.has,Mu.v] at hk hh hz hs hv
  simp [bareMu,bareM,blankM,Mu.kd,hk,hh,nil_zero,Mu.k,Mu.tk,Mu.i,Mu.had,Mu.was,Mu.has,Mu.v,Mu.l,hz,hs,hv]
 have HR:=Lib.hid hr
 have HH:=Lib.hid hh
 have HS:=Lib.hid hs
 have HZ:=Lib.hid hz
 have HV:=Lib.hid hv
 have e1:(m.kd == 1)=false:=by simp [hk]
 have e5:(m.kd == 5)=false:=by simp [hk]
 have e2:(m.kd == 2)=false:=by simp [hk]
 have e3:(m.kd == 3)=false:=by simp [hk]
 have e4:(m.kd == 4)=true:=by simp [hk]
 clear hr hk hh hz hs hv
 go_enter Tryz.func121,Tryz.ntmps121
 go_upto_region 1 with fail
 generalize hW0:World.alloc _ _=W0
 obtain ⟨hx0,hb0,hz0⟩:=box_mu (m:=m) (c:=c) hW0
 have HX0:=Lib.hid hx0
 have HB0:=Lib.hid hb0
 have c4:=hb0.c4
 rw [HH.out] at c4
 clear hW0 hx0 hb0 hz0
 obtain ⟨c5,c6,c7,c8,c9,c10⟩:=HB0.out.was6
 go_wp2_with fail
 refine (zero_any _ m.was c.w1 c.w2).mono ?_
 rintro e W1 ⟨rfl,hx1⟩
 have HX1:=Lib.hid (HX0.out.trans hx1)
 have HB1:=Lib.hid (HB0.out.ext hx1)
 clear hx1 c4 c5 c6 c7 c8 c9 c10
 rw [HZ.out]
 go_upto_region 4 with (first | (refine load_mu rfl (.tmp 1) rfl w.heap.size 0 rfl m c HB1.out ?_) | (refine fill_mu rfl rfl rfl m c (w0:=W1) (b:=W1.heap.size) rfl ((Ext.refl W1).alloc _ _) (Blk.new W1 _ _) rfl rfl rfl ?_;intro w5 hx5 hm5;have HX5:=Lib.hid (HX1.out.trans hx5);have HB0:=Lib.hid (MuC.ext HB1.out hx5);have HB5:=Lib.hid hm5;clear hx5 hm5))
 have d0:=HB0.out.kind
 have hg:w.heap.size≤W1.heap.size:=HX1.out.size
 have d11:=HB0.out.c11
 rw [HS.out] at d11
 obtain ⟨d12,d13,d14,d15,d16,d17⟩:=HB0.out.v6
 go_wp2_with fail
 refine (zero_any _ m.v c.v1 c.v2).mono ?_
 rintro e W6 ⟨rfl,hx6⟩
 rw [HV.out]
 have HX6:=Lib.hid (HX5.out.trans hx6)
 clear hx6
 go_wp2_with fail
 go_ret
 exact ⟨by rw [HR.out] <;> rfl,HX6.out⟩
theorem strange_6h (w:World) (m:Mu) (c:MuS) (hk:m.kd=6) (hh:m.had=true):Calls Tryz.prog 121 #[aggMu m c] w fun e w'=>e=.returned (.bool (!bareMu m))∧Ext w w':=by
 have hr:(!bareMu m)=(!blankM (Mu.mk m.kd ByteArray.empty ByteArray.empty m.i m.had m.was m.has m.v m.l)):=by
  obtain ⟨kd',k',tk',i',had',was',has',v',l'⟩:=m
  simp only [Mu.kd,Mu.had,Mu.was,Mu.has,Mu.v] at hk hh
  simp [bareMu,bareM,blankM,Mu.kd,hk,hh,nil_zero,Mu.k,Mu.tk,Mu.i,Mu.had,Mu.was,Mu.has,Mu.v,Mu.l]
 have HR:=Lib.hid hr
 have HH:=Lib.hid hh
 have e1:(m.kd == 1)=false:=by simp [hk]
 have e5:(m.kd == 5)=false:=by simp [hk]
 have e2:(m.kd == 2)=false:=by simp [hk]
 have e3:(m.kd == 3)=false:=by simp [hk]
 have e4:(m.kd == 4)=false:=by simp [hk]
 have e6:(m.kd == 6)=true:=by simp [hk]
 clear hr hk hh
 go_enter Tryz.func121,Tryz.ntmps121
 go_upto_region 1 with fail
 generalize hW0:World.alloc _ _=W0
 obtain ⟨hx0,hb0,hz0⟩:=box_mu (m:=m) (c:=c) hW0
 have HX0:=Lib.hid hx0
 have HB0:=Lib.hid hb0
 have c4:=hb0.c4
 rw [HH.out] at c4
 clear hW0 hx0 hb0 hz0
 go_upto_region 4 with (first | (refine load_mu rfl (.tmp 1) rfl w.heap.size 0 rfl m c HB0.out ?_) | (refine fill_mu rfl rfl rfl m c (w0:=W0) (b:=W0.heap.size) rfl ((Ext.refl W0).alloc _ _) (Blk.new W0 _ _) rfl rfl rfl ?_;intro w5 hx5 hm5;have HX5:=Lib.hid (HX0.out.trans hx5);have HB0:=Lib.hid (MuC.ext HB0.out hx5);have HB5:=Lib.hid hm5;clear hx5 hm5))
 have d0:=HB0.out.kind
 have hg:w.heap.size≤W0.heap.size:=HX0.out.size
 go_wp2_with (first | (refine put_mu' [.string ⟨#[]⟩] ?_ ?_ ?_ hg HX5.out HB5.out 1 ?_ ?_ (Mu.mk m.kd ByteArray.empty m.tk m.i m.had m.was m.has m.v m.l) ⟨c.w1,c.w2,c.v1,c.v2,c.s⟩ ?_ ?_;rfl;kernel_rfl;rfl;decide;rfl;rfl;intro v0 hx0 hm0;have GX0:=Lib.hid hx0;have GB0:=Lib.hid hm0;clear hx0 hm0) | (refine put_mu' [.string ⟨#[]⟩] ?_ ?_ ?_ hg GX0.out GB0.out 2 ?_ ?_ (Mu.mk m.kd ByteArray.empty ByteArray.empty m.i m.had m.was m.has m.v m.l) ⟨c.w1,c.w2,c.v1,c.v2,c.s⟩ ?_ ?_;rfl;kernel_rfl;rfl;decide;rfl;rfl;intro v1 hx1 hm1;have GX1:=Lib.hid hx1;have GB1:=Lib.hid hm1;clear hx1 hm1) | (refine load_mu rfl (.tmp 3) rfl W0.heap.size 0 rfl (Mu.mk m.kd ByteArray.empty ByteArray.empty m.i m.had m.was m.has m.v m.l) ⟨c.w1,c.w2,c.v1,c.v2,c.s⟩ (MuC.of_blk GB1.out) ?_))
 refine (blank_any _ (Mu.mk m.kd ByteArray.empty ByteArray.empty m.i m.had m.was m.has m.v m.l) ⟨c.w1,c.w2,c.v1,c.v2,c.s⟩).mono ?_
 rintro e W7 ⟨rfl,hx7⟩
 have HX7:=Lib.hid (GX1.out.trans hx7)
 clear hx7
 go_wp2_with fail
 go_ret
 exact ⟨by rw [HR.out] <;> rfl,HX7.out⟩
theorem strange_6z (w:World) (m:Mu) (c:MuS) (hk:m.kd=6) (hh:m.had=false) (hz:nilV m.was=true):Calls Tryz.prog 121 #[aggMu m c] w fun e w'=>e=.returned (.bool (!bareMu m))∧Ext w w':=by
 have hr:(!bareMu m)=(!blankM (Mu.mk m.kd ByteArray.empty ByteArray.empty m.i m.had m.was m.has m.v m.l)):=by
  obtain ⟨kd',k',tk',i',had',was',has',v',l'⟩:=m
  simp only [Mu.kd,Mu.had,Mu.was,Mu.has,Mu.v] at hk hh hz
  simp [bareMu,bareM,blankM,Mu.kd,hk,hh,nil_zero,Mu.k,Mu.tk,Mu.i,Mu.had,Mu.was,Mu.has,Mu.v,Mu.l,hz]
 have HR:=Lib.hid hr
 have HH:=Lib.hid hh
 have HZ:=Lib.hid hz
 have e1:(m.kd == 1)=false:=by simp [hk]
 have e5:(m.kd == 5)=false:=by simp [hk]
 have e2:(m.kd == 2)=false:=by simp [hk]
 have e3:(m.kd == 3)=false:=by simp [hk]
 have e4:(m.kd == 4)=false:=by simp [hk]
 have e6:(m.kd == 6)=true:=by simp [hk]
 clear hr hk hh hz
 go_enter Tryz.func121,Tryz.ntmps121
 go_upto_region 1 with fail
 generalize hW0:World.alloc _ _=W0
 obtain ⟨hx0,hb0,hz0⟩:=box_mu (m:=m) (c:=c) hW0
 have HX0:=Lib.hid hx0
 have HB0:=Lib.hid hb0
 have c4:=hb0.c4
 rw [HH.out] at c4
 clear hW0 hx0 hb0 hz0
 obtain ⟨c5,c6,c7,c8,c9,c10⟩:=HB0.out.was6
 go_wp2_with fail
 refine (zero_any _ m.was c.w1 c.w2).mono ?_
 rintro e W1 ⟨rfl,hx1⟩
 have HX1:=Lib.hid (HX0.out.trans hx1)
 have HB1:=Lib.hid (HB0.out.ext hx1)
 clear hx1 c4 c5 c6 c7 c8 c9 c10
 rw [HZ.out]
 go_upto_region 4 with (first | (refine load_mu rfl (.tmp 1) rfl w.heap.size 0 rfl m c HB1.out ?_) | (refine fill_mu rfl rfl rfl m c (w0:=W1) (b:=W1.heap.size) rfl ((Ext.refl W1).alloc _ _) (Blk.new W1 _ _) rfl rfl rfl ?_;intro w5 hx5 hm5;have HX5:=Lib.hid (HX1.out.trans hx5);have HB0:=Lib.hid (MuC.ext HB1.out hx5);have HB5:=Lib.hid hm5;clear hx5 hm5))
 have d0:=HB0.out.kind
 have hg:w.heap.size≤W1.heap.size:=HX1.out.size
 go_wp2_with (first | (refine put_mu' [.string ⟨#[]⟩] ?_ ?_ ?_ hg HX5.out HB5.out 1 ?_ ?_ (Mu.mk m.kd ByteArray.empty m.tk m.i m.had m.was m.has m.v m.l) ⟨c.w1,c.w2,c.v1,c.v2,c.s⟩ ?_ ?_;rfl;kernel_rfl;rfl;decide;rfl;rfl;intro v0 hx0 hm0;have GX0:=Lib.hid hx0;have GB0:=Lib.hid hm0;clear hx0 hm0) | (refine put_mu' [.string ⟨#[]⟩] ?_ ?_ ?_ hg GX0.out GB0.out 2 ?_ ?_ (Mu.mk m.kd ByteArray.empty ByteArray.empty m.i m.had m.was m.has m.v m.l) ⟨c.w1,c.w2,c.v1,c.v2,c.s⟩ ?_ ?_;rfl;kernel_rfl;rfl;decide;rfl;rfl;intro v1 hx1 hm1;have GX1:=Lib.hid hx1;have GB1:=Lib.hid hm1;clear hx1 hm1) | (refine load_mu rfl (.tmp 3) rfl W1.heap.size 0 rfl (Mu.mk m.kd ByteArray.empty ByteArray.empty m.i m.had m.was m.has m.v m.l) ⟨c.w1,c.w2,c.v1,c.v2,c.s⟩ (MuC.of_blk GB1.out) ?_))
 refine (blank_any _ (Mu.mk m.kd ByteArray.empty ByteArray.empty m.i m.had m.was m.has m.v m.l) ⟨c.w1,c.w2,c.v1,c.v2,c.s⟩).mono ?_
 rintro e W7 ⟨rfl,hx7⟩
 have HX7:=Lib.hid (GX1.out.trans hx7)
 clear hx7
 go_wp2_with fail
 go_ret
 exact ⟨by rw [HR.out] <;> rfl,HX7.out⟩
theorem strange_7h (w:World) (m:Mu) (c:MuS) (hk:m.kd=7) (hh:m.had=true):Calls Tryz.prog 121 #[aggMu m c] w fun e w'=>e=.returned (.bool (!bareMu m))∧Ext w w':=by
 have hr:(!bareMu m)=(!blankM (Mu.mk m.kd ByteArray.empty m.tk m.i false zeroV m.has m.v [])):=by
  obtain ⟨kd',k',tk',i',had',was',has',v',l'⟩:=m
  simp only [Mu.kd,Mu.had,Mu.was,Mu.has,Mu.v] at hk hh
  simp [bareMu,bareM,blankM,Mu.kd,hk,hh,nil_zero,Mu.k,Mu.tk,Mu.i,Mu.had,Mu.was,Mu.has,Mu.v,Mu.l]
 have HR:=Lib.hid hr
 have HH:=Lib.hid hh
 have e1:(m.kd == 1)=false:=by simp [hk]
 have e5:(m.kd == 5)=false:=by simp [hk]
 have e2:(m.kd == 2)=false:=by simp [hk]
 have e3:(m.kd == 3)=false:=by simp [hk]
 have e4:(m.kd == 4)=false:=by simp [hk]
 have e6:(m.kd == 6)=false:=by simp [hk]
 have e7:(m.kd == 7)=true:=by simp [hk]
 clear hr hk hh
 go_enter Tryz.func121,Tryz.ntmps121
 go_upto_region 1 with fail
 generalize hW0:World.alloc _ _=W0
 obtain ⟨hx0,hb0,hz0⟩:=box_mu (m:=m) (c:=c) hW0
 have HX0:=Lib.hid hx0
 have HB0:=Lib.hid hb0
 have c4:=hb0.c4
 rw [HH.out] at c4
 clear hW0 hx0 hb0 hz0
 go_upto_region 4 with (first | (refine load_mu rfl (.tmp 1) rfl w.heap.size 0 rfl m c HB0.out ?_) | (refine fill_mu rfl rfl rfl m c (w0:=W0) (b:=W0.heap.size) rfl ((Ext.refl W0).alloc _ _) (Blk.new W0 _ _) rfl rfl rfl ?_;intro w5 hx5 hm5;have HX5:=Lib.hid (HX0.out.trans hx5);have HB0:=Lib.hid (MuC.ext HB0.out hx5);have HB5:=Lib.hid hm5;clear hx5 hm5))
 have d0:=HB0.out.kind
 have hg:w.heap.size≤W0.heap.size:=HX0.out.size
 go_wp2_with (first | (refine put_mu' [.string ⟨#[]⟩] ?_ ?_ ?_ hg HX5.out HB5.out 1 ?_ ?_ (Mu.mk m.kd ByteArray.empty m.tk m.i m.had m.was m.has m.v m.l) ⟨c.w1,c.w2,c.v1,c.v2,c.s⟩ ?_ ?_;rfl;kernel_rfl;rfl;decide;rfl;rfl;intro v0 hx0 hm0;have GX0:=Lib.hid hx0;have GB0:=Lib.hid hm0;clear hx0 hm0) | (refine put_mu' [.bool false] ?_ ?_ ?_ hg GX0.out GB0.out 4 ?_ ?_ (Mu.mk m.kd ByteArray.empty m.tk m.i false m.was m.has m.v m.l) ⟨c.w1,c.w2,c.v1,c.v2,c.s⟩ ?_ ?_;rfl;kernel_rfl;rfl;decide;rfl;rfl;intro v1 hx1 hm1;have GX1:=Lib.hid hx1;have GB1:=Lib.hid hm1;clear hx1 hm1) | (refine put_mu' [.int .i64 0,.bool false,.int .i64 0,.string ⟨#[]⟩,.slice none 0 0,.slice none 0 0] ?_ ?_ ?_ hg GX1.out GB1.out 5 ?_ ?_ (Mu.mk m.kd ByteArray.empty m.tk m.i false zeroV m.has m.v m.l) ⟨Sl.none,Sl.none,c.v1,c.v2,c.s⟩ ?_ ?_;rfl;kernel_rfl;rfl;decide;rfl;rfl;intro v2 hx2 hm2;have GX2:=Lib.hid hx2;have GB2:=Lib.hid hm2;clear hx2 hm2) | (refine put_mu' [.slice none 0 0] ?_ ?_ ?_ hg GX2.out GB2.out 18 ?_ ?_ (Mu.mk m.kd ByteArray.empty m.tk m.i false zeroV m.has m.v []) ⟨Sl.none,Sl.none,c.v1,c.v2,Sl.none⟩ ?_ ?_;rfl;kernel_rfl;rfl;decide;rfl;rfl;intro v3 hx3 hm3;have GX3:=Lib.hid hx3;have GB3:=Lib.hid hm3;clear hx3 hm3) | (refine load_mu rfl (.tmp 3) rfl W0.heap.size 0 rfl (Mu.mk m.kd ByteArray.empty m.tk m.i false zeroV m.has m.v []) ⟨Sl.none,Sl.none,c.v1,c.v2,Sl.none⟩ (MuC.of_blk GB3.out) ?_))
 refine (blank_any _ (Mu.mk m.kd ByteArray.empty m.tk m.i false zeroV m.has m.v []) ⟨Sl.none,Sl.none,c.v1,c.v2,Sl.none⟩).mono ?_
 rintro e W7 ⟨rfl,hx7⟩
 have HX7:=Lib.hid (GX3.out.trans hx7)
 clear hx7
 go_wp2_with fail
 go_ret
 exact ⟨by rw [HR.out] <;> rfl,HX7.out⟩
theorem strange_7z (w:World) (m:Mu) (c:MuS) (hk:m.kd=7) (hh:m.had=false) (hz:nilV m.was=true):Calls Tryz.prog 121 #[aggMu m c] w fun e w'=>e=.returned (.bool (!bareMu m))∧Ext w w':=by
 have hr:(!bareMu m)=(!blankM (Mu.mk m.kd ByteArray.empty m.tk m.i false zeroV m.has m.v [])):=by
  obtain ⟨kd',k',tk',i',had',was',has',v',l'⟩:=m
  simp only [Mu.kd,Mu.had,Mu.was,Mu.has,Mu.v] at hk hh hz
  simp [bareMu,bareM,blankM,Mu.kd,hk,hh,nil_zero,Mu.k,Mu.tk,Mu.i,Mu.had,Mu.was,Mu.has,Mu.v,Mu.l,hz]
 have HR:=Lib.hid hr
 have HH:=Lib.hid hh
 have HZ:=Lib.hid hz
 have e1:(m.kd == 1)=false:=by simp [hk]
 have e5:(m.kd == 5)=false:=by simp [hk]
 have e2:(m.kd == 2)=false:=by simp [hk]
 have e3:(m.kd == 3)=false:=by simp [hk]
 have e4:(m.kd == 4)=false:=by simp [hk]
 have e6:(m.kd == 6)=false:=by simp [hk]
 have e7:(m.kd == 7)=true:=by simp [hk]
 clear hr hk hh hz
 go_enter Tryz.func121,Tryz.ntmps121
 go_upto_region 1 with fail
 generalize hW0:World.alloc _ _=W0
 obtain ⟨hx0,hb0,hz0⟩:=box_mu (m:=m) (c:=c) hW0
 have HX0:=Lib.hid hx0
 have HB0:=Lib.hid hb0
 have c4:=hb0.c4
 rw [HH.out] at c4
 clear hW0 hx0 hb0 hz0
 obtain ⟨c5,c6,c7,c8,c9,c10⟩:=HB0.out.was6
 go_wp2_with fail
 refine (zero_any _ m.was c.w1 c.w2).mono ?_
 rintro e W1 ⟨rfl,hx1⟩
 have HX1:=Lib.hid (HX0.out.trans hx1)
 have HB1:=Lib.hid (HB0.out.ext hx1)
 clear hx1 c4 c5 c6 c7 c8 c9 c10
 rw [HZ.out]
 go_upto_region 4 with (first | (refine load_mu rfl (.tmp 1) rfl w.heap.size 0 rfl m c HB1.out ?_) | (refine fill_mu rfl rfl rfl m c (w0:=W1) (b:=W1.heap.size) rfl ((Ext.refl W1).alloc _ _) (Blk.new W1 _ _) rfl rfl rfl ?_;intro w5 hx5 hm5;have HX5:=Lib.hid (HX1.out.trans hx5);have HB0:=Lib.hid (MuC.ext HB1.out hx5);have HB5:=Lib.hid hm5;clear hx5 hm5))
 have d0:=HB0.out.kind
 have hg:w.heap.size≤W1.heap.size:=HX1.out.size
 go_wp2_with (first | (refine put_mu' [.string ⟨#[]⟩] ?_ ?_ ?_ hg HX5.out HB5.out 1 ?_ ?_ (Mu.mk m.kd ByteArray.empty m.tk m.i m.had m.was m.has m.v m.l) ⟨c.w1,c.w2,c.v1,c.v2,c.s⟩ ?_ ?_;rfl;kernel_rfl;rfl;decide;rfl;rfl;intro v0 hx0 hm0;have GX0:=Lib.hid hx0;have GB0:=Lib.hid hm0;clear hx0 hm0) | (refine put_mu' [.bool false] ?_ ?_ ?_ hg GX0.out GB0.out 4 ?_ ?_ (Mu.mk m.kd ByteArray.empty m.tk m.i false m.was m.has m.v m.l) ⟨c.w1,c.w2,c.v1,c.v2,c.s⟩ ?_ ?_;rfl;kernel_rfl;rfl;decide;rfl;rfl;intro v1 hx1 hm1;have GX1:=Lib.hid hx1;have GB1:=Lib.hid hm1;clear hx1 hm1) | (refine put_mu' [.int .i64 0,.bool false,.int .i64 0,.string ⟨#[]⟩,.slice none 0 0,.slice none 0 0] ?_ ?_ ?_ hg GX1.out GB1.out 5 ?_ ?_ (Mu.mk m.kd ByteArray.empty m.tk m.i false zeroV m.has m.v m.l) ⟨Sl.none,Sl.none,c.v1,c.v2,c.s⟩ ?_ ?_;rfl;kernel_rfl;rfl;decide;rfl;rfl;intro v2 hx2 hm2;have GX2:=Lib.hid hx2;have GB2:=Lib.hid hm2;clear hx2 hm2) | (refine put_mu' [.slice none 0 0] ?_ ?_ ?_ hg GX2.out GB2.out 18 ?_ ?_ (Mu.mk m.kd ByteArray.empty m.tk m.i false zeroV m.has m.v []) ⟨Sl.none,Sl.none,c.v1,c.v2,Sl.none⟩ ?_ ?_;rfl;kernel_rfl;rfl;decide;rfl;rfl;intro v3 hx3 hm3;have GX3:=Lib.hid hx3;have GB3:=Lib.hid hm3;clear hx3 hm3) | (refine load_mu rfl (.tmp 3) rfl W1.heap.size 0 rfl (Mu.mk m.kd ByteArray.empty m.tk m.i false zeroV m.has m.v []) ⟨Sl.none,Sl.none,c.v1,c.v2,Sl.none⟩ (MuC.of_blk GB3.out) ?_))
 refine (blank_any _ (Mu.mk m.kd ByteArray.empty m.tk m.i false zeroV m.has m.v []) ⟨Sl.none,Sl.none,c.v1,c.v2,Sl.none⟩).mono ?_
 rintro e W7 ⟨rfl,hx7⟩
 have HX7:=Lib.hid (GX3.out.trans hx7)
 clear hx7
 go_wp2_with fail
 go_ret
 exact ⟨by rw [HR.out] <;> rfl,HX7.out⟩
theorem strange_oh (w:World) (m:Mu) (c:MuS) (h1:m.kd≠1) (h5:m.kd≠5) (h2:m.kd≠2) (h3:m.kd≠3) (h4:m.kd≠4) (h6:m.kd≠6) (h7:m.kd≠7) (hh:m.had=true):Calls Tryz.prog 121 #[aggMu m c] w fun e w'=>e=.returned (.bool (!bareMu m))∧Ext w w':=by
 have hr:(!bareMu m)=true:=by
  have hn:¬(1≤m.kd∧m.kd≤7):=by omega
  simp [bareMu,bareM,hn]
 have HR:=Lib.hid hr
 have HH:=Lib.hid hh
 have e1:(m.kd == 1)=false:=beq_eq_false_iff_ne.2 h1
 have e5:(m.kd == 5)=false:=beq_eq_false_iff_ne.2 h5
 have e2:(m.kd == 2)=false:=beq_eq_false_iff_ne.2 h2
 have e3:(m.kd == 3)=false:=beq_eq_false_iff_ne.2 h3
 have e4:(m.kd == 4)=false:=beq_eq_false_iff_ne.2 h4
 have e6:(m.kd == 6)=false:=beq_eq_false_iff_ne.2 h6
 have e7:(m.kd == 7)=false:=beq_eq_false_iff_ne.2 h7
 clear hr hh h1 h5 h2 h3 h4 h6 h7
 go_enter Tryz.func121,Tryz.ntmps121
 go_upto_region 1 with fail
 generalize hW0:World.alloc _ _=W0
 obtain ⟨hx0,hb0,hz0⟩:=box_mu (m:=m) (c:=c) hW0
 have HX0:=Lib.hid hx0
 have HB0:=Lib.hid hb0
 have c4:=hb0.c4
 rw [HH.out] at c4
 clear hW0 hx0 hb0 hz0
 go_upto_region 4 with (first | (refine load_mu rfl (.tmp 1) rfl w.heap.size 0 rfl m c HB0.out ?_) | (refine fill_mu rfl rfl rfl m c (w0:=W0) (b:=W0.heap.size) rfl ((Ext.refl W0).alloc _ _) (Blk.new W0 _ _) rfl rfl rfl ?_;intro w5 hx5 hm5;have HX5:=Lib.hid (HX0.out.trans hx5);have HB0:=Lib.hid (MuC.ext HB0.out hx5);clear hx5 hm5))
 have d0:=HB0.out.kind
 go_wp2_with fail
 go_ret
 exact ⟨by rw [HR.out] <;> rfl,HX5.out⟩
theorem strange_oz (w:World) (m:Mu) (c:MuS) (h1:m.kd≠1) (h5:m.kd≠5) (h2:m.kd≠2) (h3:m.kd≠3) (h4:m.kd≠4) (h6:m.kd≠6) (h7:m.kd≠7) (hh:m.had=false) (hz:nilV m.was=true):Calls Tryz.prog 121 #[aggMu m c] w fun e w'=>e=.returned (.bool (!bareMu m))∧Ext w w':=by
 have hr:(!bareMu m)=true:=by
  have hn:¬(1≤m.kd∧m.kd≤7):=by omega
  simp [bareMu,bareM,hn]
 have HR:=Lib.hid hr
 have HH:=Lib.hid hh
 have HZ:=Lib.hid hz
 have e1:(m.kd == 1)=false:=beq_eq_false_iff_ne.2 h1
 have e5:(m.kd == 5)=false:=beq_eq_false_iff_ne.2 h5
 have e2:(m.kd == 2)=false:=beq_eq_false_iff_ne.2 h2
 have e3:(m.kd == 3)=false:=beq_eq_false_iff_ne.2 h3
 have e4:(m.kd == 4)=false:=beq_eq_false_iff_ne.2 h4
 have e6:(m.kd == 6)=false:=beq_eq_false_iff_ne.2 h6
 have e7:(m.kd == 7)=false:=beq_eq_false_iff_ne.2 h7
 clear hr hh h1 h5 h2 h3 h4 h6 h7 hz
 go_enter Tryz.func121,Tryz.ntmps121
 go_upto_region 1 with fail
 generalize hW0:World.alloc _ _=W0
 obtain ⟨hx0,hb0,hz0⟩:=box_mu (m:=m) (c:=c) hW0
 have HX0:=Lib.hid hx0
 have HB0:=Lib.hid hb0
 have c4:=hb0.c4
 rw [HH.out] at c4
 clear hW0 hx0 hb0 hz0
 obtain ⟨c5,c6,c7,c8,c9,c10⟩:=HB0.out.was6
 go_wp2_with fail
 refine (zero_any _ m.was c.w1 c.w2).mono ?_
 rintro e W1 ⟨rfl,hx1⟩
 have HX1:=Lib.hid (HX0.out.trans hx1)
 have HB1:=Lib.hid (HB0.out.ext hx1)
 clear hx1 c4 c5 c6 c7 c8 c9 c10
 rw [HZ.out]
 go_upto_region 4 with (first | (refine load_mu rfl (.tmp 1) rfl w.heap.size 0 rfl m c HB1.out ?_) | (refine fill_mu rfl rfl rfl m c (w0:=W1) (b:=W1.heap.size) rfl ((Ext.refl W1).alloc _ _) (Blk.new W1 _ _) rfl rfl rfl ?_;intro w5 hx5 hm5;have HX5:=Lib.hid (HX1.out.trans hx5);have HB0:=Lib.hid (MuC.ext HB1.out hx5);clear hx5 hm5))
 have d0:=HB0.out.kind
 go_wp2_with fail
 go_ret
 exact ⟨by rw [HR.out] <;> rfl,HX5.out⟩
theorem strange_any (w:World) (m:Mu) (c:MuS):Calls Tryz.prog 121 #[aggMu m c] w fun e w'=>e=.returned (.bool (!bareMu m))∧Ext w w':=by
 rcases Bool.eq_false_or_eq_true m.had with hh | hh
 ·by_cases h1:m.kd=1
  ·exact strange_1h w m c h1 hh
  by_cases h5:m.kd=5
  ·exact strange_5h w m c h5 hh
  by_cases h2:m.kd=2
  ·exact strange_2h w m c h2 hh
  by_cases h3:m.kd=3
  ·exact strange_3h w m c h3 hh
  by_cases h4:m.kd=4
  ·rcases Bool.eq_false_or_eq_true m.has with hs | hs
   ·exact strange_4ha w m c h4 hh hs
   rcases Bool.eq_false_or_eq_true (nilV m.v) with hv | hv
   ·exact strange_4hb w m c h4 hh hs hv
   exact strange_4hc w m c h4 hh hs hv
  by_cases h6:m.kd=6
  ·exact strange_6h w m c h6 hh
  by_cases h7:m.kd=7
  ·exact strange_7h w m c h7 hh
  exact strange_oh w m c h1 h5 h2 h3 h4 h6 h7 hh
 rcases Bool.eq_false_or_eq_true (nilV m.was) with hz | hz
 rotate_left
 ·exact strange_was w m c hh hz
 by_cases h1:m.kd=1
 ·exact strange_1z w m c h1 hh hz
 by_cases h5:m.kd=5
 ·exact strange_5z w m c h5 hh hz
 by_cases h2:m.kd=2
 ·exact strange_2z w m c h2 hh hz
 by_cases h3:m.kd=3
 ·exact strange_3z w m c h3 hh hz
 by_cases h4:m.kd=4
 ·rcases Bool.eq_false_or_eq_true m.has with hs | hs
  ·exact strange_4za w m c h4 hh hz hs
  rcases Bool.eq_false_or_eq_true (nilV m.v) with hv | hv
  ·exact strange_4zb w m c h4 hh hz hs hv
  exact strange_4zc w m c h4 hh hz hs hv
 by_cases h6:m.kd=6
 ·exact strange_6z w m c h6 hh hz
 by_cases h7:m.kd=7
 ·exact strange_7z w m c h7 hh hz
 exact strange_oz w m c h1 h5 h2 h3 h4 h6 h7 hh hz
theorem valid_any {w:World} {k:ByteArray} (hk:k.size≤maxLen) (hL:Lib0 w):Calls Tryz.prog 116 #[.string k] w fun e w'=>e=.returned (.bool (Lib.validD k.data.toList))∧Nw w w':=by
 have hv:=hL.val w (G5.refl w) k hk
 have HV:=Lib.hid hv
 clear hv hL
 go_enter Tryz.func116,Tryz.ntmps116
 go_wp2_with fail
 refine HV.out.mono ?_
 rintro e w' ⟨rfl,hn⟩
 have HN:=Lib.hid hn
 clear hn
 go_wp2_with fail
 go_ret
 exact ⟨rfl,HN.out⟩
theorem beginning_any {w:World} (p:ByteArray) (hL:Lib0 w):Calls Tryz.prog 174 #[.string p] w fun e w'=>e=.returned (.bool (begK p))∧Nw w w':=by
 by_cases h:p.size≤64
 ·have hb:begK p=Lib.validD p.data.toList:=by unfold begK;rw [decide_eq_true h];rfl
  have HB:=Lib.hid hb
  have HV:=Lib.hid (valid_any (w:=w) (k:=p) (Nat.le_trans h (by decide)) hL)
  have g:((p.size:Int)≤64):=by omega
  clear hb hL h
  go_enter Tryz.func174,Tryz.ntmps174
  go_wp2_with fail
  refine HV.out.mono ?_
  rintro e w' ⟨rfl,hn⟩
  have HN:=Lib.hid hn
  clear hn
  go_wp2_with fail
  go_ret
  exact ⟨by rw [HB.out] <;> rfl,HN.out⟩
 have hb:begK p=false:=by unfold begK;rw [decide_eq_false h];rfl
 have HB:=Lib.hid hb
 have g:¬((p.size:Int)≤64):=by omega
 clear hb hL h
 go_enter Tryz.func174,Tryz.ntmps174
 go_wp2_with fail
 go_ret
 exact ⟨by rw [HB.out] <;> rfl,Sb.refl _ _⟩
theorem MuC.c1 {w:World} {b:Nat} {m:Mu} {c:MuS} (h:MuC w b 0 m c):w.cell? ⟨b,1,none⟩=some (.string m.k):=h 1 _ rfl
theorem MuC.c2 {w:World} {b:Nat} {m:Mu} {c:MuS} (h:MuC w b 0 m c):w.cell? ⟨b,2,none⟩=some (.string m.tk):=h 2 _ rfl
theorem keyed_any {w:World} (m:Mu) (c:MuS) (hk:m.k.size≤maxLen) (hL:Lib0 w):Calls Tryz.prog 122 #[aggMu m c] w fun e w'=>e=.returned (.bool (keyM m.kd m.k m.tk m.had))∧Nw w w':=by
 by_cases h6:m.kd=6
 ·have hr:keyM m.kd m.k m.tk m.had=(begK m.k && begK m.tk):=by unfold keyM;rw [if_pos h6]
  have HR:=Lib.hid hr
  have e6:(m.kd == 6)=true:=by simp [h6]
  clear hr h6 hk
  go_enter Tryz.func122,Tryz.ntmps122
  go_upto_region 1 with fail
  generalize hW0:World.alloc _ _=W0
  obtain ⟨hx0,hb0,hz0⟩:=box_mu (m:=m) (c:=c) hW0
  have HX0:=Lib.hid (Nw.of hx0)
  have c0:=hb0.kind
  have c1:=hb0.c1
  have HB0:=Lib.hid hb0
  have HL:=Lib.hid (hL.nw (Nw.of hx0))
  have l0:=hb0.lt
  clear hW0 hx0 hb0 hz0 hL
  go_wp2_with fail
  refine (beginning_any m.k HL.out).mono ?_
  rintro e w1 ⟨rfl,hn⟩
  have HN1:=Lib.hid (HX0.out.trans hn)
  have HL1:=Lib.hid (HL.out.nw hn)
  have d2:=(hn.cell l0 (fun h=>h)).trans HB0.out.c2
  clear hn c0 c1
  rcases Bool.eq_false_or_eq_true (begK m.k) with hb | hb
  ·have HB:=Lib.hid hb
   rw [hb]
   clear hb
   go_wp2_with fail
   refine (beginning_any m.tk HL1.out).mono ?_
   rintro e w2 ⟨rfl,hn⟩
   have HN2:=Lib.hid (HN1.out.trans hn)
   clear hn
   go_wp2_with fail
   go_ret
   exact ⟨by rw [HR.out,HB.out] <;> rfl,HN2.out⟩
  have HB:=Lib.hid hb
  rw [hb]
  clear hb
  go_wp2_with fail
  go_ret
  exact ⟨by rw [HR.out,HB.out] <;> rfl,HN1.out⟩
 have e6:(m.kd == 6)=false:=by simp [h6]
 by_cases h7:m.kd=7
 ·have e7:(m.kd == 7)=true:=by simp [h7]
  by_cases h0:m.k.size=0
  ·have hr:keyM m.kd m.k m.tk m.had=!m.had:=by unfold keyM;rw [if_neg h6,if_pos ⟨h7,h0⟩]
   have HR:=Lib.hid hr
   have g0:=empty_text h0
   clear hr h6 hk h7 hL h0
   go_enter Tryz.func122,Tryz.ntmps122
   go_upto_region 1 with fail
   generalize hW0:World.alloc _ _=W0
   obtain ⟨hx0,hb0,hz0⟩:=box_mu (m:=m) (c:=c) hW0
   have HX0:=Lib.hid (Nw.of hx0)
   have c0:=hb0.kind
   have c1:=hb0.c1
   have c4:=hb0.c4
   clear hW0 hx0 hb0 hz0
   go_wp2_with fail
   go_ret
   exact ⟨by rw [HR.out] <;> rfl,HX0.out⟩
  have hr:keyM m.kd m.k m.tk m.had=(mayK m.k == 0):=by unfold keyM;rw [if_neg h6,if_neg fun h=>h0 h.2]
  have HR:=Lib.hid hr
  have g0:=full_text h0
  have HK:=Lib.hid hk
  clear hr h6 hk h7 h0
  go_enter Tryz.func122,Tryz.ntmps122
  go_upto_region 1 with fail
  generalize hW0:World.alloc _ _=W0
  obtain ⟨hx0,hb0,hz0⟩:=box_mu (m:=m) (c:=c) hW0
  have HX0:=Lib.hid (Nw.of hx0)
  have c0:=hb0.kind
  have c1:=hb0.c1
  have HL:=Lib.hid (hL.nw (Nw.of hx0))
  clear hW0 hx0 hb0 hz0 hL
  go_wp2_with fail
  refine (keysMay_any HK.out HL.out).mono ?_
  rintro e w1 ⟨rfl,hn⟩
  have HN1:=Lib.hid (HX0.out.trans hn)
  clear hn c0 c1
  go_wp2_with fail
  go_ret
  exact ⟨by rw [HR.out] <;> rfl,HN1.out⟩
 have e7:(m.kd == 7)=false:=by simp [h7]
 have hr:keyM m.kd m.k m.tk m.had=(mayK m.k == 0):=by unfold keyM;rw [if_neg h6,if_neg fun h=>h7 h.1]
 have HR:=Lib.hid hr
 have HK:=Lib.hid hk
 clear hr h6 hk h7
 go_enter Tryz.func122,Tryz.ntmps122
 go_upto_region 1 with fail
 generalize hW0:World.alloc _ _=W0
 obtain ⟨hx0,hb0,hz0⟩:=box_mu (m:=m) (c:=c) hW0
 have HX0:=Lib.hid (Nw.of hx0)
 have c0:=hb0.kind
 have c1:=hb0.c1
 have HL:=Lib.hid (hL.nw (Nw.of hx0))
 clear hW0 hx0 hb0 hz0 hL
 go_wp2_with fail
 refine (keysMay_any HK.out HL.out).mono ?_
 rintro e w1 ⟨rfl,hn⟩
 have HN1:=Lib.hid (HX0.out.trans hn)
 clear hn c0 c1
 go_wp2_with fail
 go_ret
 exact ⟨by rw [HR.out] <;> rfl,HN1.out⟩
theorem lookMs_at {l:List Mu} {j:Nat} {m:Mu} (h:l[j]? = some m) (d:Nat):lookMs (l.drop j) d=if lookM m d≠0 then lookM m d else lookMs (l.drop (j+1)) d:=by
 obtain ⟨h1,h2⟩:=List.getElem?_eq_some_iff.1 h
 rw [List.drop_eq_getElem_cons h1,h2,lookMs]
abbrev wrongE (code:Int):Ending:=.panicked [{ v:=.iface 167 (.agg #[.int .i64 code]),recovered:=false }]
def lookE (code:Int):Ending:=if code=0 then .returned (.tuple #[]) else wrongE code
theorem must_yes (w:World) (code:Int):Calls Tryz.prog 120 #[.bool true,.int .i64 code] w fun e w'=>e=.returned (.tuple #[])∧w'=w:=by
 go_enter Tryz.func120,Tryz.ntmps120
 go_wp2_with fail
 refine bodyPost_end (v:=.tuple #[]) (by simp [results,Tryz.results120,go_sem]) rfl ?_
 exact ⟨rfl,rfl⟩
theorem must_no (w:World) (code:Int):Calls Tryz.prog 120 #[.bool false,.int .i64 code] w fun e w'=>e=wrongE code∧w'=w:=by
 go_enter Tryz.func120,Tryz.ntmps120
 go_wp2_with fail
 exact ⟨rfl,rfl,rfl⟩
theorem pass_any (w:World) (code:Int):Calls Tryz.prog 123 #[.int .i64 code] w fun e w'=>e=lookE code∧w'=w:=by
 by_cases h:code=0
 ·subst h
  go_enter Tryz.func123,Tryz.ntmps123
  go_wp2_with fail
  refine (must_yes w 0).mono ?_
  rintro e w' ⟨rfl,rfl⟩
  go_wp2_with fail
  refine bodyPost_end (v:=.tuple #[]) (by simp [results,Tryz.results123,go_sem]) rfl ?_
  exact ⟨rfl,rfl⟩
 have hb:(code == 0)=false:=beq_eq_false_iff_ne.2 h
 have HE:=Lib.hid (show lookE code=wrongE code by unfold lookE;rw [if_neg h])
 go_enter Tryz.func123,Tryz.ntmps123
 go_wp2_with fail
 refine (must_no w code).mono ?_
 rintro e w' ⟨rfl,rfl⟩
 go_wp2_with fail
 exact ⟨rfl,HE.out.symm,rfl⟩
section
variable {m : Mu} {d : Nat}
theorem lookM_eq:lookM m d=if !bareMu m then 9 else if 6<d then 5 else if !keyM m.kd m.k m.tk m.had then 8 else if m.had && fitV m.was != 0 then fitV m.was else if valM m.kd m.has && fitV m.v != 0 then fitV m.v else lookMs m.l (d+1):=by
 obtain ⟨kd,k,tk,i,had,was,has,v,l⟩:=m
 rw [lookM];rfl
theorem look9 (hb:bareMu m=false):lookM m d=9:=by rw [lookM_eq,hb];rfl
theorem look5 (hb:bareMu m=true) (h:6<d):lookM m d=5:=by rw [lookM_eq,hb,if_pos h];rfl
theorem look8 (hb:bareMu m=true) (h:¬6<d) (hk:keyM m.kd m.k m.tk m.had=false):lookM m d=8:=by rw [lookM_eq,hb,if_neg h,hk];rfl
theorem lookW (hb:bareMu m=true) (h:¬6<d) (hk:keyM m.kd m.k m.tk m.had=true) (hh:m.had=true) (hf:fitV m.was≠0):lookM m d=fitV m.was:=by
 rw [lookM_eq,hb,if_neg h,hk,hh];simp [hf]
theorem lookV (hb:bareMu m=true) (h:¬6<d) (hk:keyM m.kd m.k m.tk m.had=true) (hs:(m.had && fitV m.was != 0)=false) (hv:valM m.kd m.has=true) (hf:fitV m.v≠0):lookM m d=fitV m.v:=by
 rw [lookM_eq,hb,if_neg h,hk,hs,hv];simp [hf]
theorem lookL (hb:bareMu m=true) (h:¬6<d) (hk:keyM m.kd m.k m.tk m.had=true) (hs:(m.had && fitV m.was != 0)=false) (hv:(valM m.kd m.has && fitV m.v != 0)=false):lookM m d=lookMs m.l (d+1):=by
 rw [lookM_eq,hb,if_neg h,hk,hs,hv];rfl
theorem wrong_of {code:Int} (h:lookM m d=code) (h0:code≠0):wrongE code=lookE (lookM m d):=by rw [h];unfold lookE;rw [if_neg h0]
theorem right_of (h:lookM m d=0):Ending.returned (.tuple #[])=lookE (lookM m d):=by rw [h];rfl
theorem totM_l (m:Mu):totMs m.l≤totM m:=by
 obtain ⟨kd,k,tk,i,had,was,has,v,l⟩:=m
 rw [totM]
 exact Nat.le_add_left _ _
end
theorem pass_yes (w:World) {code:Int} (h:code=0):Calls Tryz.prog 123 #[.int .i64 code] w fun e w'=>e=.returned (.tuple #[])∧w'=w:=(pass_any w code).mono fun e w' hh=>⟨by rw [hh.1,h];rfl,hh.2⟩
theorem pass_no (w:World) {code:Int} (h:code≠0):Calls Tryz.prog 123 #[.int .i64 code] w fun e w'=>e=wrongE code∧w'=w:=(pass_any w code).mono fun e w' hh=>⟨by rw [hh.1];unfold lookE;rw [if_neg h],hh.2⟩
theorem MuC.nw {w w':World} {b o:Nat} {m:Mu} {c:MuS} (h:MuC w b o m c) (k:Nw w w'):MuC w' b o m c:=fun j u hu=>(k.cell h.lt (fun e=>e)).trans (h j u hu)
theorem RMu.nw {w w':World} {m:Mu} {c:MuS} (h:RMu w (Lt w.heap.size) m c) (k:Nw w w'):RMu w' (Lt w'.heap.size) m c:=(h.agree (Nw.agree k fun b hb=>hb)).mono fun b hb=>Nat.lt_of_lt_of_le hb k.size
theorem look_step {w:World} {m:Mu} {c:MuS} {d:Nat} (hd:d≤7) (hm:RMu w (Lt w.heap.size) m c) (ht:totM m≤1100000) (hL:LibQ w)
  (ih:d≤6→∀ (x:Mu) (y:MuS) (W:World),RMu W (Lt W.heap.size) x y→totM x≤1100000→LibQ W→Calls Tryz.prog 76 #[aggMu x y,.int .i64 ((d+1:Nat):Int)] W fun e w'=>e=lookE (lookM x (d+1))∧Nw W w') :
  Calls Tryz.prog 76 #[aggMu m c,.int .i64 (d:Int)] w fun e w'=>e=lookE (lookM m d)∧Nw w w':=by
 have HI:=Lib.hid ih
 have HM:=Lib.hid hm
 have HT:=Lib.hid ht
 have HD:=Lib.hid hd
 clear ih hm ht hd
 go_enter Tryz.func76,Tryz.ntmps76
 go_upto_region 1 with fail
 generalize hW0:World.alloc _ _=W0
 obtain ⟨hx0,hb0,hz0⟩:=box_mu (m:=m) (c:=c) hW0
 have HX0:=Lib.hid hx0
 have HB0:=Lib.hid hb0
 have HL:=Lib.hid hL
 clear hW0 hx0 hb0 hz0 hL
 go_wp2_with (refine load_mu rfl (.tmp 2) rfl w.heap.size 0 rfl m c HB0.out ?_)
 refine (strange_any _ m c).mono ?_
 rintro e w1 ⟨rfl,hx1⟩
 have HX1:=Lib.hid (Nw.of (HX0.out.trans hx1))
 have HB1:=Lib.hid (HB0.out.ext hx1)
 clear hx1
 rcases Bool.eq_false_or_eq_true (bareMu m) with hb | hb
 rotate_left
 ·have g:(!bareMu m)=true:=by rw [hb];rfl
  have HE:=Lib.hid (wrong_of (look9 (d:=d) hb) (by decide))
  rw [g]
  clear hb g
  go_wp2_with fail
  refine (must_no _ 9).mono ?_
  rintro e w2 ⟨rfl,rfl⟩
  go_wp2_with fail
  exact ⟨rfl,HE.out,HX1.out⟩
 have HBA:=Lib.hid hb
 have g:(!bareMu m)=false:=by rw [hb];rfl
 rw [g]
 clear hb g
 go_wp2_with fail
 refine (must_yes _ 9).mono ?_
 rintro e w2 ⟨rfl,rfl⟩
 by_cases h6:6<d
 ·have g:decide ((d:Int)≤6)=false:=decide_eq_false (by omega)
  have HE:=Lib.hid (wrong_of (look5 (d:=d) HBA.out h6) (by decide))
  clear h6
  go_wp2_with fail
  refine (must_no _ 5).mono ?_
  rintro e w2 ⟨rfl,rfl⟩
  go_wp2_with fail
  exact ⟨rfl,HE.out,HX1.out⟩
 have H6:=Lib.hid h6
 have g6:decide ((d:Int)≤6)=true:=decide_eq_true (by omega)
 clear h6
 go_wp2_with fail
 refine (must_yes _ 5).mono ?_
 rintro e w2 ⟨rfl,rfl⟩
 clear g6
 go_wp2_with (refine load_mu rfl (.tmp 2) rfl w.heap.size 0 rfl m c HB1.out ?_)
 refine (keyed_any m c HM.out.parts.2.2.1 (HL.out.nw HX1.out).lib).mono ?_
 rintro e w3 ⟨rfl,hn3⟩
 have HX3:=Lib.hid (HX1.out.trans hn3)
 have HB3:=Lib.hid (HB1.out.nw hn3)
 clear hn3
 rcases Bool.eq_false_or_eq_true (keyM m.kd m.k m.tk m.had) with hk | hk
 rotate_left
 ·have HE:=Lib.hid (wrong_of (look8 (d:=d) HBA.out H6.out hk) (by decide))
  rw [hk]
  clear hk
  go_wp2_with fail
  refine (must_no _ 8).mono ?_
  rintro e w2 ⟨rfl,rfl⟩
  go_wp2_with fail
  exact ⟨rfl,HE.out,HX3.out⟩
 have HK:=Lib.hid hk
 rw [hk]
 clear hk
 go_wp2_with fail
 refine (must_yes _ 8).mono ?_
 rintro e wq ⟨rfl,rfl⟩
 have c4:=HB3.out.c4
 obtain ⟨c5,c6,c7,c8,c9,c10⟩:=HB3.out.was6
 go_upto_if 17 with fail
 go_cut [] (fun wc=>Nw wq wc∧(m.had && fitV m.was != 0)=false)
 case first=>
  rcases Bool.eq_false_or_eq_true m.had with hh | hh
  ·rw [hh]
   go_wp2_with fail
   refine (fits_any (d:=m.was) (HM.out.nw HX3.out).parts.1 (Nat.le_trans (totM_v m).2 HT.out) (HL.out.nw HX3.out)).mono ?_
   rintro e w4 ⟨rfl,hn4⟩
   have HX4:=Lib.hid (HX3.out.trans hn4)
   have HN4:=Lib.hid hn4
   by_cases hf:fitV m.was=0
   ·have HF:=Lib.hid hf
    have HH:=Lib.hid hh
    clear hf hh hn4
    go_wp2_with fail
    refine (pass_yes _ HF.out).mono ?_
    rintro e w5 ⟨rfl,rfl⟩
    go_wp2_with fail
    go_meet
    exact ⟨HN4.out,by rw [HF.out];simp⟩
   have HF:=Lib.hid hf
   have HE:=Lib.hid (wrong_of (lookW (d:=d) HBA.out H6.out HK.out hh hf) hf)
   clear hf hh hn4
   go_wp2_with fail
   refine (pass_no _ HF.out).mono ?_
   rintro e w5 ⟨rfl,rfl⟩
   go_wp2_with fail
   exact ⟨rfl,HE.out,HX4.out⟩
  rw [hh]
  go_wp2_with fail
  go_meet
  exact ⟨Sb.refl _ _,by rw [hh];rfl⟩
 obtain ⟨hx4,hs⟩:=hcut
 have HX4:=Lib.hid (HX3.out.trans hx4)
 have HS:=Lib.hid hs
 have HB4:=Lib.hid (HB3.out.nw hx4)
 clear hx4 hs c4 c5 c6 c7 c8 c9 c10
 have c0:=HB4.out.kind
 have c11:=HB4.out.c11
 obtain ⟨c12,c13,c14,c15,c16,c17⟩:=HB4.out.v6
 go_upto_region 6 with fail
 go_cut [38] (fun v w'=>v=.bool (valM m.kd m.has)∧w'=wc)
 case first=>
  by_cases k1:m.kd=1
  ·have e1:(m.kd == 1)=true:=by simp [k1]
   have hv:valM m.kd m.has=true:=by simp [valM,k1]
   have HV:=Lib.hid hv
   clear hv k1
   go_wp2_with fail
   go_meet
   exact ⟨by rw [HV.out],rfl⟩
  have e1:(m.kd == 1)=false:=by simp [k1]
  by_cases k5:m.kd=5
  ·have e5:(m.kd == 5)=true:=by simp [k5]
   have hv:valM m.kd m.has=true:=by simp [valM,k5]
   have HV:=Lib.hid hv
   clear hv k1 k5
   go_wp2_with fail
   go_meet
   exact ⟨by rw [HV.out],rfl⟩
  have e5:(m.kd == 5)=false:=by simp [k5]
  by_cases k4:m.kd=4
  ·have e4:(m.kd == 4)=true:=by simp [k4]
   have hv:valM m.kd m.has=m.has:=by simp [valM,k4]
   have HV:=Lib.hid hv
   clear hv k1 k5 k4
   go_wp2_with fail
   go_meet
   exact ⟨by rw [HV.out],rfl⟩
  have e4:(m.kd == 4)=false:=by simp [k4]
  have hv:valM m.kd m.has=false:=by simp [valM,k1,k5,k4]
  have HV:=Lib.hid hv
  clear hv k1 k5 k4
  go_wp2_with fail
  go_meet
  exact ⟨by rw [HV.out],rfl⟩
 obtain ⟨hv,hw⟩:=hcut
 subst hv
 clear c0 c11
 rename_i wz
 subst hw
 go_upto_if 38 with fail
 go_cut [] (fun w'=>Nw wc w'∧(valM m.kd m.has && fitV m.v != 0)=false)
 case first=>
  rcases Bool.eq_false_or_eq_true (valM m.kd m.has) with hv | hv
  ·rw [hv]
   go_wp2_with fail
   refine (fits_any (d:=m.v) (HM.out.nw HX4.out).parts.2.1 (Nat.le_trans (totM_v m).1 HT.out) (HL.out.nw HX4.out)).mono ?_
   rintro e w5 ⟨rfl,hn5⟩
   have HX5:=Lib.hid (HX4.out.trans hn5)
   have HN5:=Lib.hid hn5
   by_cases hf:fitV m.v=0
   ·have HF:=Lib.hid hf
    have HV:=Lib.hid hv
    clear hf hv hn5
    go_wp2_with fail
    refine (pass_yes _ HF.out).mono ?_
    rintro e w6 ⟨rfl,rfl⟩
    go_wp2_with fail
    go_meet
    exact ⟨HN5.out,by rw [HF.out];simp⟩
   have HF:=Lib.hid hf
   have HE:=Lib.hid (wrong_of (lookV (d:=d) HBA.out H6.out HK.out HS.out hv hf) hf)
   clear hf hv hn5
   go_wp2_with fail
   refine (pass_no _ HF.out).mono ?_
   rintro e w6 ⟨rfl,rfl⟩
   go_wp2_with fail
   exact ⟨rfl,HE.out,HX5.out⟩
  rw [hv]
  go_wp2_with fail
  go_meet
  exact ⟨Sb.refl _ _,by rw [hv];rfl⟩
 obtain ⟨hx5,hs5⟩:=hcut
 have HX5:=Lib.hid (HX4.out.trans hx5)
 have c18:wc.cell? ⟨w.heap.size,8+10,none⟩=some (.slice c.s.a m.l.length c.s.c):=(HB4.out.nw hx5) 18 _ rfl
 have HC:=Lib.hid (lookL HBA.out H6.out HK.out HS.out hs5)
 have hlen:=HM.out.len
 have hdw:wrap64 ((d:Int)+1)=((d+1:Nat):Int):=by
  have:=H6.out
  unfold wrap64
  omega
 have HDW:=Lib.hid hdw
 clear hx5 hs5 c12 c13 c14 c15 c16 c17 hdw
 go_wp2_with fail
 go_loopw [46] (fun v46 wr=>∃ j:Nat,v46=.int .i64 (j:Int)∧j≤m.l.length∧Hid (Nw w wr)∧Hid (lookMs (m.l.drop j) (d+1)=lookMs m.l (d+1))) (fun v _=>m.l.length - (intOf v).toNat)
 case atStart=>exact ⟨0,rfl,Nat.zero_le _,HX5,Lib.hid rfl⟩
 obtain ⟨j,rfl,hj,HX,HJ⟩:=hrel
 by_cases hlt:j<m.l.length
 ·have l1:(j:Int)<(m.l.length:Int):=by omega
  have l1':decide ((j:Int)<(m.l.length:Int))=true:=decide_eq_true l1
  have l0:(0:Int)≤(j:Int):=by omega
  obtain ⟨x,hx⟩:∃ x,m.l[j]? = some x:=⟨_,List.getElem?_eq_getElem hlt⟩
  obtain ⟨b,o,y,hsa,hbl,hlc,hcm,hcl,hrx⟩:=HM.out.at hx
  have HROW:=Lib.hid (hcl.nw HX.out)
  have hblr:b<wr.heap.size:=HROW.out.lt
  have hcall:=fun W (hW:Ext wr W)=>HI.out (by have:=H6.out;omega) x y W (hrx.nw (HX.out.trans (Nw.of hW))) (Nat.le_trans (totMs_at hx) (Nat.le_trans (totM_l m) HT.out)) (HL.out.nw (HX.out.trans (Nw.of hW)))
  have HCALL:=Lib.hid hcall
  have hat:=lookMs_at hx (d+1)
  rw [HJ.out] at hat
  have HAT:=Lib.hid hat
  clear hrx hcl hcall hx hbl hat
  rw [hsa]
  go_wp2_with (first | (refine load_mu rfl (.tmp 48) rfl b (o+j*19) rfl x y HROW.out ?_) | (refine fill_mu rfl rfl rfl x y (w0:=wr) (b:=wr.heap.size) rfl ((Ext.refl wr).alloc _ _) (Blk.new wr _ _) rfl rfl rfl ?_;intro w5 hx5 hm5;have HX5:=Lib.hid hx5;have HM5:=Lib.hid (MuC.of_blk hm5);clear hx5 hm5) | (refine load_mu rfl (.tmp 5) rfl wr.heap.size 0 rfl x y HM5.out ?_))
  rw [HDW.out]
  by_cases hf:lookM x (d+1)=0
  ·refine ((HCALL.out _ HX5.out).mono fun e W h=>(show e=.returned (.tuple #[])∧Nw _ W from ⟨by rw [h.1,hf];rfl,h.2⟩)).mono ?_
   rintro e w2 ⟨rfl,hn2⟩
   have HX2:=Lib.hid ((HX.out.trans (Nw.of HX5.out)).trans hn2)
   have hat:=HAT.out
   rw [if_neg (fun h=>h hf)] at hat
   have HA:=Lib.hid hat.symm
   clear hn2 hf hat
   go_wp2_with fail
   go_roundw
   case rel=>exact ⟨j+1,by go_num,hlt,HX2,HA⟩
   simp [intOf];omega
  have hat:=HAT.out
  rw [if_pos hf] at hat
  have HE:=Lib.hid (wrong_of (HC.out.trans hat) hf)
  refine ((HCALL.out _ HX5.out).mono fun e W h=>(show e=wrongE (lookM x (d+1))∧Nw _ W from ⟨by rw [h.1];unfold lookE;rw [if_neg hf],h.2⟩)).mono ?_
  rintro e w2 ⟨rfl,hn2⟩
  have HX2:=Lib.hid ((HX.out.trans (Nw.of HX5.out)).trans hn2)
  clear hn2 hf hat
  go_wp2_with fail
  exact ⟨rfl,HE.out,HX2.out⟩
 obtain rfl:j=m.l.length:=by omega
 have l1:decide ((m.l.length:Int)<(m.l.length:Int))=false:=decide_eq_false (by omega)
 have HE:=Lib.hid (right_of (m:=m) (d:=d) (by rw [HC.out,←HJ.out,List.drop_length];rfl))
 go_wp2_with fail
 refine bodyPost_end (v:=.tuple #[]) (by simp [results,Tryz.results76,go_sem]) rfl ?_
 exact ⟨HE.out,HX.out⟩
theorem look_anyN (n:Nat):∀ (d:Nat) (m:Mu) (c:MuS) (w:World),d+n=7→RMu w (Lt w.heap.size) m c→totM m≤1100000→LibQ w→Calls Tryz.prog 76 #[aggMu m c,.int .i64 (d:Int)] w fun e w'=>e=lookE (lookM m d)∧Nw w w':=by
 induction n with
 | zero=>exact fun d m c w hd hm ht hL=>look_step (by omega) hm ht hL fun h=>by omega
 | succ n ih=>exact fun d m c w hd hm ht hL=>look_step (by omega) hm ht hL fun h x y W hx hy hW=>ih (d+1) x y W (by omega) hx hy hW
theorem look_any {w:World} {m:Mu} {c:MuS} (hm:RMu w (Lt w.heap.size) m c) (ht:totM m≤1100000) (hL:LibQ w):Calls Tryz.prog 76 #[aggMu m c,.int .i64 1] w fun e w'=>e=lookE (lookM m 1)∧Nw w w':=look_anyN 6 1 m c w rfl hm ht hL
theorem yes_world {w:World} {b:Nat} {t T:TypeId} {v v':Value} {cs:Array Value} (hb:Blk w b t #[v']) (W:World) (hW:(w.setCell ⟨b,0,none⟩ v).alloc (.cells cs T)=W):Sb (fun i=>i=b) w W∧Blk W b t #[v]:=by
 subst hW
 have h1:Blk (w.setCell ⟨b,0,none⟩ v) b t #[v]:=hb.set_ 0 v
 have h2:=(Ext.refl (w.setCell ⟨b,0,none⟩ v)).alloc cs T
 exact ⟨((Sb.refl (fun i=>i=b) w).set (p:=⟨b,0,none⟩) (.inr rfl) v).ext h2,h1.ext h2⟩
theorem caught_idle (p:Addr) (w:World):CallsD Tryz.prog 119 #[.pointer (some p)] .returning w fun e u' w'=>e=.returned (.tuple #[])∧u'=.returning∧w'=w:=by
 refine callsD_of_wpS Tryz.func119 rfl fun c₀ cs hu=>?_
 apply wpS_seq
 apply wpS_region
 simp [wpOpsS,go_sem,recoverD,hu,Tryz.ntmps119,Exit.thenS]
 refine wpS_of_wp ?_
 go_wp2
 cases c₀
 simp_all [bodyPostS,results,Tryz.results119]
theorem assert_wrong (W:World) (v:Value) (xT:TypeId):(Instr.typeAssert (.iface 167 v) xT 167 true).run Tryz.prog W=.ok (.tuple #[v,.bool true]) W:=by kernel_rfl
theorem caught_yes (b:Nat) (code:Int) (w:World) (hb:Blk w b 43 #[.int .i64 0]) :
  CallsD Tryz.prog 119 #[.pointer (some ⟨b,0,none⟩)] (.panicking [{ v:=.iface 167 (.agg #[.int .i64 code]),recovered:=false }]) w fun e u' w'=>
   e=.returned (.tuple #[])∧u'=.panicking [{ v:=.iface 167 (.agg #[.int .i64 code]),recovered:=true }]∧Sb (fun i=>i=b) w w'∧Blk w' b 43 #[.int .i64 code]:=by
 have c0:w.cell? ⟨b,0,none⟩=some (.int .i64 0):=hb.cell 0
 have f0:=hb.frozen 0
 have l0:=hb.lt
 refine callsD_of_wpS Tryz.func119 rfl fun c₀ cs hu=>?_
 apply wpS_seq
 apply wpS_region
 simp [wpOpsS,go_sem,recoverD,hu,Tryz.ntmps119,Exit.thenS]
 refine wpS_of_wp ?_
 have ha:=fun W=>assert_wrong W (.agg #[.int .i64 code])
 change Code.wp _ _ _ { tmps:=#[.pointer (some ⟨b,0,none⟩),undef,undef,undef,.iface 167 (.agg #[.int .i64 code]),undef,undef,undef,undef,undef,undef],defers:=[] } w
 go_wp2
 generalize hW:World.alloc _ _=W
 obtain ⟨h1,h2⟩:=yes_world hb W hW
 clear hW ha c0 f0 l0
 cases c₀
 simp_all [bodyPostS,results,Tryz.results119]
theorem may1_any {w:World} {m:Mu} {c:MuS} {B:Nat} (hC:MuC w B 0 m c) (hm:RMu w (Lt w.heap.size) m c) (ht:totM m≤1100000) (hL:LibQ w) :
  Calls Tryz.prog 75 #[.pointer (some ⟨B,0,none⟩)] w fun e w'=>e=lookE (lookM m 1)∧Nw w w':=by
 have HC:=Lib.hid (look_any hm ht hL)
 have HB:=Lib.hid hC
 clear hC hm ht hL
 by_cases h:lookM m 1=0
 ·have HE:=Lib.hid h
  go_enter Tryz.func75,Tryz.ntmps75
  clear h
  go_wp2_with (refine load_mu rfl (.tmp 0) rfl B 0 rfl m c HB.out ?_)
  refine (HC.out.mono fun e W h=>(show e=.returned (.tuple #[])∧Nw _ W from ⟨by rw [h.1,HE.out];rfl,h.2⟩)).mono ?_
  rintro e w1 ⟨rfl,hn⟩
  have HN:=Lib.hid hn
  clear hn
  go_wp2_with fail
  refine bodyPost_end (v:=.tuple #[]) (by simp [results,Tryz.results75,go_sem]) rfl ?_
  exact ⟨by rw [HE.out];rfl,HN.out⟩
 have HE:=Lib.hid (show lookE (lookM m 1)=wrongE (lookM m 1) by unfold lookE;rw [if_neg h])
 go_enter Tryz.func75,Tryz.ntmps75
 clear h
 go_wp2_with (refine load_mu rfl (.tmp 0) rfl B 0 rfl m c HB.out ?_)
 refine (HC.out.mono fun e W h=>(show e=wrongE (lookM m 1)∧Nw _ W from ⟨by rw [h.1,HE.out],h.2⟩)).mono ?_
 rintro e w1 ⟨rfl,hn⟩
 have HN:=Lib.hid hn
 clear hn
 go_wp2_with fail
 exact ⟨rfl,HE.out.symm,HN.out⟩
theorem caught_may {w:World} {m:Mu} {c:MuS} {B:Nat} (hC:MuC w B 0 m c) (hm:RMu w (Lt w.heap.size) m c) (ht:totM m≤1100000) (hL:LibQ w) :
  Calls Tryz.prog 74 #[.func (.func 75) #[] #[.pointer (some ⟨B,0,none⟩)]] w fun e w'=>e=.returned (.int .i64 (lookM m 1))∧Nw w w':=by
 have hmf:∀ (fn:Fn) (first cap:Array Value) (w:World),(Instr.makeFunc fn first cap).run Tryz.prog w=.ok (.func fn first cap) w:=fun _ _ _ _=>rfl
 have hx0:=(Ext.refl w).alloc #[.int .i64 0] 43
 have HN0:=Lib.hid (Nw.of hx0)
 have HB0:=Lib.hid (Blk.new w 43 #[.int .i64 0])
 have HC:=Lib.hid (may1_any (hC.nw HN0.out) (hm.nw HN0.out) ht (hL.nw HN0.out))
 clear hC hm ht hL hx0
 by_cases h:lookM m 1=0
 ·have HE:=Lib.hid h
  clear h
  go_enter_defers Tryz.func74,Tryz.ntmps74
  go_wp2_with fail
  refine (HC.out.mono fun e W h=>(show e=.returned (.tuple #[])∧Nw _ W from ⟨by rw [h.1,HE.out];rfl,h.2⟩)).mono ?_
  rintro e w1 ⟨rfl,hn⟩
  have hb1:=hn.blk HB0.out
  have c1:w1.cell? ⟨w.heap.size,0,none⟩=some (.int .i64 0):=hb1.cell 0
  have f1:=hb1.frozen 0
  have l1:=hb1.lt
  have HN1:=Lib.hid (HN0.out.trans hn)
  have HB1:=Lib.hid hb1
  clear hn hb1
  go_wp2_with fail
  generalize hW:World.setCell _ _ _=W
  have hs:Sb (fun i=>i=w.heap.size) w1 W:=by rw [←hW];exact (Sb.refl (fun i=>i=w.heap.size) w1).set (p:=⟨w.heap.size,0,none⟩) (.inr rfl) _
  have hb2:Blk W w.heap.size 43 #[.int .i64 0]:=by rw [←hW];exact HB1.out.set_ 0 (.int .i64 0)
  clear hW c1 f1 l1
  have HS:=Lib.hid (show Nw w W from HN1.out.comp hs fun i hi e=>by omega)
  have HB2:=Lib.hid hb2
  clear hs hb2
  refine leaves_cons (f:=119) (args:=#[.pointer (some ⟨w.heap.size,0,none⟩)]) (by simp) (by simp [go_sem]) ?_
  refine (caught_idle ⟨w.heap.size,0,none⟩ _).mono ?_
  rintro e u' w'' ⟨rfl,rfl,rfl⟩
  have c2:w''.cell? ⟨w.heap.size,0,none⟩=some (.int .i64 0):=HB2.out.cell 0
  have hE:=HE.out
  have hS:=HS.out
  simp [Leaves,settle,results,Tryz.results74,go_sem,c2,hE,hS]
 have HE:=Lib.hid (show lookE (lookM m 1)=wrongE (lookM m 1) by unfold lookE;rw [if_neg h])
 clear h
 go_enter_defers Tryz.func74,Tryz.ntmps74
 go_wp2_with fail
 refine (HC.out.mono fun e W h=>(show e=wrongE (lookM m 1)∧Nw _ W from ⟨by rw [h.1,HE.out],h.2⟩)).mono ?_
 rintro e w1 ⟨rfl,hn⟩
 have HB1:=Lib.hid (hn.blk HB0.out)
 have HN1:=Lib.hid (HN0.out.trans hn)
 clear hn
 go_wp2_with fail
 refine leaves_cons (f:=119) (args:=#[.pointer (some ⟨w.heap.size,0,none⟩)]) (by simp) (by simp [go_sem]) ?_
 refine (caught_yes w.heap.size (lookM m 1) _ HB1.out).mono ?_
 rintro e u' w'' ⟨rfl,rfl,hs,hb⟩
 have c2:w''.cell? ⟨w.heap.size,0,none⟩=some (.int .i64 (lookM m 1)):=hb.cell 0
 have hS:Nw w w'':=HN1.out.comp hs fun i hi e=>by omega
 simp [Leaves,settle,results,Tryz.results74,go_sem,c2,hS]
theorem may_any' {w:World} {m:Mu} {c:MuS} (hm:RMu w (Lt w.heap.size) m c) (ht:totM m≤1100000) (hL:LibQ w):Calls Tryz.prog 48 #[aggMu m c] w fun e w'=>e=.returned (.int .i64 (mayMu m))∧Nw w w':=by
 have hsz:sizeM m≤1100000:=Nat.le_trans (size_tot m) ht
 have hmf:∀ (fn:Fn) (first cap:Array Value) (w:World),(Instr.makeFunc fn first cap).run Tryz.prog w=.ok (.func fn first cap) w:=fun _ _ _ _=>rfl
 have HM:=Lib.hid hm
 have HT:=Lib.hid ht
 have HL:=Lib.hid hL
 have HSZ:=Lib.hid hsz
 clear hm ht hL hsz
 go_enter Tryz.func48,Tryz.ntmps48
 go_upto_region 1 with fail
 generalize hW0:World.alloc _ _=W0
 obtain ⟨hx0,hb0,hz0⟩:=box_mu (m:=m) (c:=c) hW0
 have HX0:=Lib.hid hx0
 have HB0:=Lib.hid hb0
 clear hW0 hx0 hb0 hz0
 go_wp2_with (refine load_mu rfl (.tmp 1) rfl w.heap.size 0 rfl m c HB0.out ?_)
 refine (size_any' (HM.out.nw (Nw.of HX0.out)) HSZ.out).mono ?_
 rintro e w1 ⟨rfl,hx1⟩
 have HX1:=Lib.hid (HX0.out.trans hx1)
 have HB1:=Lib.hid (HB0.out.ext hx1)
 clear hx1
 by_cases h64:64<sizeM m
 ·have g:decide ((64:Int)<(sizeM m:Int))=true:=decide_eq_true (by omega)
  have HE:=Lib.hid (show mayMu m=6 by unfold mayMu;rw [if_pos h64])
  clear h64
  go_wp2_with fail
  go_ret
  exact ⟨by rw [HE.out] <;> rfl,Nw.of HX1.out⟩
 have g:decide ((64:Int)<(sizeM m:Int))=false:=decide_eq_false (by omega)
 have HE:=Lib.hid (show mayMu m=lookM m 1 by unfold mayMu;rw [if_neg h64])
 clear h64
 go_wp2_with fail
 refine (caught_may HB1.out (HM.out.nw (Nw.of HX1.out)) HT.out (HL.out.nw (Nw.of HX1.out))).mono ?_
 rintro e w2 ⟨rfl,hn⟩
 have HN:=Lib.hid ((Nw.of HX1.out).trans hn)
 clear hn
 go_wp2_with fail
 go_ret
 exact ⟨by rw [HE.out] <;> rfl,HN.out⟩
theorem row_rv {W:World} {base:Nat} {s:Sl} {xs:List WV} (hown:W.ownsRow base 28 6 (.slice s.a xs.length s.c) xs.length (flatW xs)) (hv:∀ x∈xs,RV W (Lt W.heap.size) x.v x.sl x.so) (hn:xs.length*88≤140737488355328) :
  RV W (Lt W.heap.size) (rowV (xs.map WV.v)) s Sl.none:=by
 obtain ⟨b,o,hsl,hc⟩:=rd_cells (Rd.of_own hown)
 have hat:∀ (j:Nat) (d:Val),(xs.map WV.v)[j]? = some d→∃ x,xs[j]? = some x∧x.v=d:=fun j d hd=>by
  rw [List.getElem?_map] at hd
  cases hx:xs[j]? with
  | none=>rw [hx] at hd;cases hd
  | some x=>rw [hx] at hd;exact ⟨x,rfl,by injection hd⟩
 refine .mk b o 0 0 (fun j=>((xs.getD j ⟨zeroV,Sl.none,Sl.none⟩).sl,(xs.getD j ⟨zeroV,Sl.none,Sl.none⟩).so)) (fun _=>(Sl.none,Sl.none)) (by rw [List.length_map];exact hsl.mono fun i h=>h.2) (.nil _ _) rfl ?_ ?_ (fun j k h=>by simp at h) (fun j d h=>by simp at h) (fun j d h=>by simp at h) (by decide) (by decide) (by decide) (by rw [List.length_map];exact hn) (by simp)
 ·intro j d hd
  obtain ⟨x,hx,rfl⟩:=hat j d hd
  have e:xs.getD j ⟨zeroV,Sl.none,Sl.none⟩=x:=by rw [List.getD_eq_getElem?_getD,hx];rfl
  rw [e]
  exact hc j x hx
 intro j d hd
 obtain ⟨x,hx,rfl⟩:=hat j d hd
 have e:xs.getD j ⟨zeroV,Sl.none,Sl.none⟩=x:=by rw [List.getD_eq_getElem?_getD,hx];rfl
 rw [e]
 exact hv x (List.mem_of_getElem? hx)
theorem RVC.row {w:World} {F:Nat→Prop} {d:Val} {sl so:Sl} (h:RVC w F d sl so):∃ xs:List WV,xs.map WV.v=d.l∧sl.c=xs.length∧(sl.a=none→xs.length=0)∧(∀ x∈xs,RV w F x.v x.sl x.so)∧
  (∀ b,sl.a=some b→∀ j u,(flatW xs)[j]? = some u→w.cell? (b.add j)=some u)∧xs.length*88≤140737488355328:=by
 have hcap:=h.cap
 have hrv:=h.rv
 cases hrv with
 | mk bl fl bo fo cl co hl ho hov el rl ek eo ro bk bi bt nl no=>
   rename_i kind b i t l ok ov
   have hcap:sl.c=l.length:=hcap
   have hrd:=rd_wv (w:=w) (xs:=wl l cl) (by rw [wl_len];exact hl) fun j x hx=>by
    obtain ⟨e1,e2,e3⟩:=wl_at hx
    rw [e2,e3]
    exact el j _ e1
   refine ⟨wl l cl,wl_v l cl,by rw [wl_len];exact hcap,fun e=>?_,fun x hx=>?_,fun a ha j u hu=>?_,by rw [wl_len];exact nl⟩
   ·rw [wl_len]
    rcases Nat.eq_zero_or_pos l.length with h0 | h0
    ·exact h0
    have:=(hl.eq h0).1
    rw [e] at this;cases this
   ·obtain ⟨j,hj⟩:=List.getElem?_of_mem hx
    obtain ⟨e1,e2,e3⟩:=wl_at hj
    rw [e2,e3]
    exact rl j _ e1
   obtain ⟨b',o',h1,h2,h3⟩:=hrd
   have hjl:=(List.getElem?_eq_some_iff.1 hu).1
   rw [flatW_len,wl_len] at hjl
   have hpos:0<l.length:=by omega
   rw [wl_len] at h1
   have e1:=(hl.eq hpos).1
   have e2:=(h1.eq hpos).1
   rw [ha] at e2
   injection e2 with e2
   rw [e2,add_at]
   exact h3 j u hu
theorem slice_own {w:World} {base e size n:Nat} {v:Value} {xs:List Value} (h:w.ownsRow base e size v n xs):∃ s:Sl,v=.slice s.a n s.c:=by
 rcases h.2 with ⟨rfl,rfl⟩ | ⟨g,cap,cur,rfl,_⟩
 ·exact ⟨Sl.none,rfl⟩
 exact ⟨⟨some ⟨g,0,none⟩,cap⟩,rfl⟩
theorem Ext.addr {w w':World} (h:Ext w w') {a:Addr} {u:Value} (hc:w.cell? a=some u):w'.cell? a=some u:=
 (World.cell?_of_block (w:=w) (a:=a) ((h.sb (fun _=>False)).block a.block (World.block_lt_of_cell? w _ hc) fun e=>e)).trans hc
theorem cnt_row (l:List Val) (x:Val):cntV (rowV (l++[x]))=7+cntL l+cntV x:=by
 have:∀ l:List Val,cntL (l++[x])=cntL l+cntV x:=fun l=>by
  induction l with
  | nil=>simp [cntL]
  | cons a r ih=>rw [List.cons_append,cntL,cntL,ih];omega
 show cntV (.mk 5 false 0 ByteArray.empty (l++[x]) [] [])=_
 rw [cntV,this,cntM]
 show 7+0+(cntL l+cntV x)+0=_
 omega
theorem cntL_le (v:Val):cntL v.l≤cntV v:=by
 obtain ⟨k,b,i,t,l,ok,ov⟩:=v
 rw [cntV]
 show cntL l≤_
 omega
theorem app_eq (M:List Ent) (k:ByteArray) (v:Val):appM M k v=if (getE M k).isSome=true∧((getE M k).getD zeroV).kind≠5 then (9,M) else rowM M k ((getE M k).getD zeroV).l v:=by
 unfold appM
 cases getE M k with
 | none=>rfl
 | some y=>by_cases h:y.kind=5 <;> simp [h]
theorem RelX.cntL {B:List Ent} {C:Slots} {M:List Ent} (h:RelX B C M) (k:ByteArray):cntL ((getE M k).getD zeroV).l≤7168:=by
 cases hg:getE M k with
 | none=>exact Nat.zero_le _
 | some y=>exact Nat.le_trans (cntL_le y) (h.ok.get hg).2.cnt
theorem behind_any {H:Nat→Prop} {w:World} {O:Nat} {d:OD} {M:List Ent} {k:ByteArray} {v:Val} {sl so:Sl} (h:OvX H w O d M) (hH:∀ b,H b→b<w.heap.size) (hn:d.us.length≤1000000) (hl:(entsT d.T).length≤1000000) (hkm:k.size≤maxLen)
  (hv:RV w (Lt w.heap.size) v sl so) (hc:cntV v≤1092000) (hL:LibQ w) :
  Calls Tryz.prog 80 #[.pointer (some ⟨O,0,none⟩),.string k,aggV v sl so] w fun e w'=>e=.returned (.int .i64 (appM M k v).1)∧∃ d',GoX H w O d (appM M k v).2 1 w' d':=by
 have hx0:=(Ext.refl w).alloc #[.int .i64 v.kind,.bool v.b,.int .i64 v.i,.string v.t,.slice sl.a v.l.length sl.c,.slice so.a v.ok.length so.c] 28
 have hb0:=Blk.new w 28 #[.int .i64 v.kind,.bool v.b,.int .i64 v.i,.string v.t,.slice sl.a v.l.length sl.c,.slice so.a v.ok.length so.c]
 have hget:=getX (h.nw (Nw.of hx0)) hl hkm
 have hsz0:(w.alloc (.cells #[.int .i64 v.kind,.bool v.b,.int .i64 v.i,.string v.t,.slice sl.a v.l.length sl.c,.slice so.a v.ok.length so.c] 28)).heap.size=w.heap.size+1:=World.size_alloc _ _
 have HH:=Lib.hid h
 have HL:=Lib.hid hL
 have HV:=Lib.hid hv
 have HC:=Lib.hid hc
 have HKM:=Lib.hid hkm
 have HNN:=Lib.hid hn
 have HHH:=Lib.hid hH
 have HX0:=Lib.hid hx0
 have HB0:=Lib.hid hb0
 have HSZ:=Lib.hid hsz0
 have HG:=Lib.hid hget
 have happ:=app_eq M k v
 have hcl:=HH.out.rel.cntL k
 obtain ⟨r,hr⟩:∃ r,appM M k v=r:=⟨_,rfl⟩
 rw [hr] at happ ⊢
 obtain ⟨y,hy⟩:∃ y,(getE M k).getD zeroV=y:=⟨_,rfl⟩
 obtain ⟨g,hg⟩:∃ g,(getE M k).isSome=g:=⟨_,rfl⟩
 rw [hy,hg] at happ
 rw [hy] at hcl
 have HY:=Lib.hid hy
 have HGS:=Lib.hid hg
 have HAPP:=Lib.hid happ
 have HCL:=Lib.hid hcl
 obtain ⟨i0,hi,hz0,hz1,hz2⟩:=info_parts Tryz.infoValue
 clear h hL hv hc hkm hn hH hx0 hb0 hsz0 hget hl hy hg happ hcl hr
 go_enter Tryz.func80,Tryz.ntmps80
 go_wp2_with fail
 refine HG.out.mono ?_
 rintro e w1 ⟨s1,s2,rfl,hx1,hr1⟩
 rw [HY.out,HGS.out]
 rw [HY.out] at hr1
 have HR1:=Lib.hid hr1
 have HX1:=Lib.hid (HX0.out.trans hx1)
 have HB1:=Lib.hid (HB0.out.ext hx1)
 clear hx1 hr1
 go_upto_region 2 with fail
 have hx2:=(Ext.refl w1).alloc #[.int .i64 y.kind,.bool y.b,.int .i64 y.i,.string y.t,.slice s1.a y.l.length s1.c,.slice s2.a y.ok.length s2.c] 28
 have hb2:=Blk.new w1 28 #[.int .i64 y.kind,.bool y.b,.int .i64 y.i,.string y.t,.slice s1.a y.l.length s1.c,.slice s2.a y.ok.length s2.c]
 generalize hW2:World.alloc _ _=w2 at hx2 hb2 ⊢
 have HX2:=Lib.hid (HX1.out.trans hx2)
 have HY2:=Lib.hid hx2
 have HB2:=Lib.hid (HB1.out.ext hx2)
 have k0:w2.cell? ⟨w1.heap.size,0,none⟩=some (.int .i64 y.kind):=hb2.cell 0
 have k4:w2.cell? ⟨w1.heap.size,4,none⟩=some (.slice s1.a y.l.length s1.c):=hb2.cell 4
 clear hW2 hx2 hb2
 by_cases hbad:g=true∧y.kind≠5
 ·have g1:=hbad.1
  have g2:(y.kind == 5)=false:=beq_eq_false_iff_ne.2 hbad.2
  have HR:=Lib.hid (HAPP.out.trans (if_pos hbad))
  clear hbad
  subst g1
  go_wp2_with fail
  go_ret
  exact ⟨by rw [HR.out] <;> rfl,d,by rw [HR.out];exact HH.out.stay (Nw.of HX2.out)⟩
 have HR:=Lib.hid (HAPP.out.trans (if_neg hbad))
 go_cut [20] (fun q w'=>q=.bool false∧w'=w2)
 case first=>
  cases g with
  | false=>
    clear hbad
    go_wp2_with fail
    go_meet
    exact ⟨rfl,rfl⟩
  | true=>
    have g2:(y.kind == 5)=true:=by
     by_cases h5:y.kind=5
     ·simp [h5]
     exact absurd ⟨rfl,h5⟩ hbad
    clear hbad
    go_wp2_with fail
    go_meet
    exact ⟨by rw [show (y.kind != 5)=false by rw [bne,g2];rfl],rfl⟩
 obtain ⟨rfl,hw⟩:=hcut
 subst hw
 clear hbad k0
 by_cases h256:256≤y.l.length
 ·have g3:decide ((256:Int)≤(y.l.length:Int))=true:=decide_eq_true (by omega)
  have g4:(256:Int)≤(y.l.length:Int):=by omega
  have HR2:=Lib.hid (HR.out.trans (show rowM M k y.l v=(6,M) by unfold rowM;rw [if_pos h256]))
  clear h256
  go_wp2_with fail
  go_ret
  exact ⟨by rw [HR2.out] <;> rfl,d,by rw [HR2.out];exact HH.out.stay (Nw.of HX2.out)⟩
 have g3:decide ((256:Int)≤(y.l.length:Int))=false:=decide_eq_false (by omega)
 have g4:¬(256:Int)≤(y.l.length:Int):=by omega
 have HR2:=Lib.hid (HR.out.trans (show rowM M k y.l v=setMu M k (rowV (y.l++[v])) by unfold rowM;rw [if_neg h256]))
 have H256:=Lib.hid h256
 clear h256
 obtain ⟨xs,hxs,hcap,hnil,hxv,hxc,hx88⟩:=(HR1.out).row
 have b0:wc.cell? ⟨w.heap.size,0,none⟩=some (.int .i64 v.kind):=HB2.out.cell 0
 have b1:wc.cell? ⟨w.heap.size,1,none⟩=some (.bool v.b):=HB2.out.cell 1
 have b2:wc.cell? ⟨w.heap.size,2,none⟩=some (.int .i64 v.i):=HB2.out.cell 2
 have b3:wc.cell? ⟨w.heap.size,3,none⟩=some (.string v.t):=HB2.out.cell 3
 have b4:wc.cell? ⟨w.heap.size,4,none⟩=some (.slice sl.a v.l.length sl.c):=HB2.out.cell 4
 have b5:wc.cell? ⟨w.heap.size,5,none⟩=some (.slice so.a v.ok.length so.c):=HB2.out.cell 5
 have hlen:y.l.length=xs.length:=by rw [←hxs,List.length_map]
 rw [hlen] at k4
 have HLEN:=Lib.hid hlen
 have HXS:=Lib.hid hxs
 have HXV:=Lib.hid hxv
 have HCAP:=Lib.hid hcap
 have HNIL:=Lib.hid hnil
 have hx3:=(Ext.refl wc).alloc #[.int .i64 v.kind,.bool v.b,.int .i64 v.i,.string v.t,.slice sl.a v.l.length sl.c,.slice so.a v.ok.length so.c] 28
 have HB3:=Lib.hid (Blk.new wc 28 #[.int .i64 v.kind,.bool v.b,.int .i64 v.i,.string v.t,.slice sl.a v.l.length sl.c,.slice so.a v.ok.length so.c])
 have HX3:=Lib.hid hx3
 have HXC:=Lib.hid hxc
 have hn1:xs.length≤255:=by have:=H256.out;omega
 clear hxs hxv hcap hnil hlen hx3 hxc g3 g4
 generalize hA:(Obj.cells #[.int .i64 v.kind,.bool v.b,.int .i64 v.i,.string v.t,.slice sl.a v.l.length sl.c,.slice so.a v.ok.length so.c] 28)=A3 at HX3 HB3
 have Q1:=Lib.hid (show s1.a=none→xs.length=0∧s1.c=0 from fun e=>⟨HNIL.out e,HCAP.out.trans (HNIL.out e)⟩)
 have Q2:=Lib.hid (show ∀ b,s1.a=some b→∀ j u,(flatW xs)[j]? = some u→(wc.alloc A3).cell? (b.add j)=some u from fun b hb j u hu=>HX3.out.addr (HY2.out.addr (HXC.out b hb j u hu)))
 have Q3:=Lib.hid (show ∀ j u,(⟨v,sl,so⟩:WV).cells[j]? = some u→(wc.alloc A3).cell? ((⟨wc.heap.size,0,none⟩:Addr).add j)=some u from fun j u hu=>by rw [add_at,Nat.zero_add,HB3.out.cell];simpa [WV.cells] using hu)
 have Q4:=Lib.hid (show s1.c<xs.length+1 by rw [HCAP.out];exact Nat.lt_succ_self _)
 have Q5:=Lib.hid (show xs.length+1≤maxLen by unfold maxLen;omega)
 have Q6:=Lib.hid (show (xs.length+1)*88≤140737488355328 by omega)
 subst hA
 go_wp2_with (at_builtin;refine wpList_append_grows _ rfl (.tmp 28) (.tmp 30) 25 rfl 28 i0 _ 6 88 Tryz.underlying25 hi hz0 hz1 hz2 rfl (by decide) s1.a xs.length s1.c (flatW xs) rfl Q1.out (flatW_len xs) Q2.out ⟨wc.heap.size,0,none⟩ 1 1 (⟨v,sl,so⟩:WV).cells rfl rfl Q3.out (WV.one _) Q4.out Q5.out Q6.out ?_;intro v4 w4 hown hgr;obtain ⟨s',rfl⟩:=slice_own hown;have HOWN:=Lib.hid hown;have HGR:=Lib.hid (Sb.made (H:=fun _=>False) hgr);clear hown hgr)
 have hn14:Nw w1 _:=(Nw.of (HY2.out.trans HX3.out)).trans HGR.out
 have hn04:Nw w _:=(Nw.of HX1.out).trans hn14
 have hzv:∀ x∈xs++[(⟨v,sl,so⟩:WV)],RV _ (Lt _) x.v x.sl x.so:=fun x hx=>by
  rcases List.mem_append.1 hx with hx | hx
  ·exact ((HXV.out x hx).agree (Nw.agree hn14 fun b hb=>hb.2)).mono fun b hb=>Nat.lt_of_lt_of_le hb.2 hn14.size
  obtain rfl:x=⟨v,sl,so⟩:=by simpa using hx
  exact (HV.out.agree (Nw.agree hn04 fun b hb=>hb)).mono fun b hb=>Nat.lt_of_lt_of_le hb hn04.size
 have hrow:=row_rv (xs:=xs++[(⟨v,sl,so⟩:WV)]) (s:=s') (by rw [List.length_append,flatW_snoc];exact HOWN.out) hzv (by rw [List.length_append];show (xs.length+1)*88≤_;omega)
 have hmap:(xs++[(⟨v,sl,so⟩:WV)]).map WV.v=y.l++[v]:=by rw [List.map_append,HXS.out];rfl
 rw [hmap] at hrow
 have hput:=putX (k:=k) (HH.out.nw hn04) (fun b hb=>Nat.lt_of_lt_of_le (HHH.out b hb) hn04.size) HNN.out HKM.out hrow (by rw [cnt_row];have:=HCL.out;have:=HC.out;omega) (HL.out.nw hn04)
 have hle:xs.length+1=(rowV (y.l++[v])).l.length:=by show _=(y.l++[v]).length;rw [List.length_append,HLEN.out];rfl
 have HPUT:=Lib.hid hput
 have HN04:=Lib.hid hn04
 clear hn14 hn04 hzv hrow hmap hput
 rw [hle]
 clear hle
 refine HPUT.out.mono ?_
 rintro e w5 ⟨rfl,d',hg5⟩
 have HG5:=Lib.hid (hg5.since HN04.out)
 clear hg5
 go_wp2_with fail
 go_ret
 exact ⟨by rw [HR2.out] <;> rfl,d',by rw [HR2.out];exact HG5.out⟩
end Go.Proofs.YtkhdiakpdafcdaaGreatDoor
namespace Go.Proofs.YtkhdiakpdafcdaaGreatDoor
open Go.RowKit Go.Maps Go.Sort Go.Shelf
set_option linter.unusedVariables false
def Tryz.layCutPrefix_ren:Go.Shelf.Ren:=⟨fun | 103=>176 | 210=>214 | 206=>215 | n=>n,fun | 9=>9 | 4=>4 | 24=>207 | 3=>3 | n=>n,fun | n=>n⟩
theorem Tryz.layCutPrefix:Go.Proofs.Lays.n103 Tryz.prog Tryz.layCutPrefix_ren:={
 mixed:=by kernel_rfl
 f103:=Tryz.func176.trans (congrArg some (by kernel_rfl))
 f206:=Tryz.func215.trans (congrArg some (by kernel_rfl))
 f210:=Tryz.func214.trans (congrArg some (by kernel_rfl))
 t3:=Tryz.underlying3
 a3:=Tryz.isAgg3
 z3:=Tryz.sizeOf3
 v3:=Tryz.zeroValue3
 t4:=Tryz.underlying4
 a4:=Tryz.isAgg4
 z4:=Tryz.sizeOf4
 v4:=Tryz.zeroValue4
 t9:=Tryz.underlying9
 a9:=Tryz.isAgg9
 z9:=Tryz.sizeOf9
 v9:=Tryz.zeroValue9
 t24:=Tryz.underlying207
 a24:=Tryz.isAgg207
 z24:=Tryz.sizeOf207
 v24:=Tryz.zeroValue207 }
end Go.Proofs.YtkhdiakpdafcdaaGreatDoor
namespace Go.Proofs.YtkhdiakpdafcdaaGreatDoor
open Go.RowKit Go.Maps Go.Shelf
set_option linter.unusedVariables false
set_option linter.unusedSimpArgs false
theorem trim_eq {k f:ByteArray} (h:beginsO f k=true):(⟨(Lib.trimPrefix k.data.toList f.data.toList).toArray⟩:ByteArray)=k.extract f.size k.size:=by
 have hp:Lib.hasPrefix k.data.toList f.data.toList=true:=by
  have:=h
  unfold beginsO at this
  rw [ByteArray.toList_eq,ByteArray.toList_eq] at this
  exact this
 apply ByteArray.ext
 apply Array.toList_inj.1
 unfold Lib.trimPrefix
 rw [if_pos hp,ByteArray.data_extract,Array.toList_extract]
 show (k.data.toList.drop f.data.toList.length)=_
 rw [List.extract_eq_take_drop]
 have h1:f.data.toList.length=f.size:=Array.length_toList
 have h2:k.data.toList.length=k.size:=Array.length_toList
 rw [h1,List.take_of_length_le]
 rw [List.length_drop,h2]
 exact Nat.le_refl _
theorem turnK_any {w:World} {k f t:ByteArray} (hb:beginsO f k=true) (hsz:k.size+t.size≤4611686018427387904) (hL:Lib0 w) :
  Calls Tryz.prog 125 #[.string k,.string f,.string t] w fun e w'=>(∃ s,e=.returned (.tuple #[.string s,.int .i64 (mayK (turnK f t k))])∧(mayK (turnK f t k)=0→s=turnK f t k))∧Nw w w':=by
 have hc:=fun W=>Any.strings_CutPrefix Tryz.layCutPrefix k f W
 rw [trim_eq hb] at hc
 rw [show Lib.hasPrefix k.data.toList f.data.toList=true by have:=hb;unfold beginsO at this;rw [ByteArray.toList_eq,ByteArray.toList_eq] at this;exact this] at hc
 have HC:=Lib.hid hc
 have hsz2:(turnK f t k).size≤maxLen:=by
  have h1:(k.extract f.size k.size).size≤k.size:=by rw [ByteArray.size_extract];omega
  unfold turnK maxLen
  rw [ByteArray.size_append]
  omega
 obtain ⟨q,hq⟩:∃ q,turnK f t k=q:=⟨_,rfl⟩
 rw [hq] at hsz2 ⊢
 have HQ:=Lib.hid (show t++k.extract f.size k.size=q from hq)
 have HS:=Lib.hid hsz2
 clear hc hsz2 hq
 go_enter Tryz.func125,Tryz.ntmps125
 go_wp2_with fail
 refine (HC.out _).mono ?_
 rintro e w' ⟨rfl,rfl⟩
 go_wp2_with fail
 rw [HQ.out]
 have HK:=Lib.hid (keysMay_any (w:=w') HS.out hL)
 clear hL hb
 refine HK.out.mono ?_
 rintro e w1 ⟨rfl,hn⟩
 have HN:=Lib.hid hn
 clear hn
 by_cases h0:mayK q=0
 ·have HZ:=Lib.hid h0
  have g:(mayK q == 0)=true:=by simp [h0]
  clear h0
  go_wp2_with fail
  go_ret2
  exact ⟨⟨q,by rw [HZ.out] <;> rfl,fun _=>rfl⟩,HN.out⟩
 have HZ:=Lib.hid h0
 have g:(mayK q == 0)=false:=beq_eq_false_iff_ne.2 h0
 clear h0
 go_wp2_with fail
 go_ret2
 exact ⟨⟨_,rfl,fun h=>absurd h HZ.out⟩,HN.out⟩
theorem preX {H:Nat→Prop} {w:World} {O:Nat} {d:OD} {M:List Ent} (h:OvX H w O d M) (hl:(entsT d.T).length≤1000000) (hn:d.us.length≤1000000) {p:ByteArray} (hp:p.size≤maxLen) :
  Calls Tryz.prog 124 #[.pointer (some ⟨O,0,none⟩),.string p] w fun e w'=>∃ s:Sl,e=.returned (.slice s.a (keysE (beginsO p) M).length s.c)∧Nw w w'∧Rd w' (In w.heap.size w'.heap.size) 1 s (keysE (beginsO p) M).length ((keysE (beginsO p) M).map .string):=
 (prefix_ov h.ov hl hn hp).mono fun e w' ⟨s,ks,h1,h2,h3,h4,h5⟩=>by
   obtain rfl:ks=keysE (beginsO p) M:=rise_ext h4 (keysE_rise h.rel.ok.sorted) fun k=>by rw [h5 k,mem_keysE h.rel.ok.sorted,h.now k]
   exact ⟨s,h1,h2,h3⟩
abbrev mvE (f t:ByteArray) (e:Ent):Ent:=(turnK f t e.1,e.2)
theorem goneM_at {M:List Ent} {f:ByteArray} {j:Nat} {e:Ent} (h:(goneM M f)[j]? = some e):e∈M∧beginsO f e.1=true:=by
 have:=List.mem_of_getElem? h
 unfold goneM at this
 exact List.mem_filter.1 this
theorem mayK_size {k:ByteArray} (h:mayK k=0):k.size≤64:=by
 unfold mayK at h
 split at h
 ·cases h
 split at h
 ·cases h
 omega
def NRow (n:Nat) (w:World) (s:Sl) (b:Nat):Prop:=n≤b∧b<w.heap.size∧s.row≠some b
theorem row_on {wr W w9:World} {n:Nat} {s2 s7:Sl} {v:Val} {sl so:Sl} (h:Nw wr W) (hw:Wr W w9 s2.row) (hs:s7.a=s2.a∨s7.a=some ⟨W.heap.size,0,none⟩∧Wr W w9 none) (hv:RV wr (NRow n wr s2) v sl so):RV w9 (NRow n w9 s7) v sl so:=by
 have h1:RV W (NRow n wr s2) v sl so:=hv.agree (Nw.agree h fun b hb=>hb.2.1)
 have h2:RV w9 (NRow n wr s2) v sl so:=h1.agree (hw.agree (fun i hi=>Nat.lt_of_lt_of_le hi.2.1 h.size) fun k hk hF=>hF.2.2 hk)
 refine h2.mono fun i hi=>⟨hi.1,Nat.lt_of_lt_of_le hi.2.1 (Nat.le_trans h.size hw.grown.size),fun e=>?_⟩
 rcases hs with hs | ⟨hs,-⟩
 ·exact hi.2.2 (by unfold Sl.row at e ⊢;rwa [hs] at e)
 unfold Sl.row at e
 rw [hs] at e
 have e:some W.heap.size=some i:=e
 injection e with e
 have:=hi.2.1;have:=h.size;omega
theorem move_any {H:Nat→Prop} {w:World} {O:Nat} {d:OD} {M:List Ent} {f t:ByteArray} (h:OvX H w O d M) (hH:∀ b,H b→b<w.heap.size) (hn:d.us.length+2*M.length≤1000000) (hl:(entsT d.T).length≤1000000) (hf:f.size≤maxLen)
  (ht:t.size≤100000000) (hL:LibQ w) (hG:∀ b,b<6→H b) :
  Calls Tryz.prog 81 #[.pointer (some ⟨O,0,none⟩),.string f,.string t] w fun e w'=>e=.returned (.int .i64 (moveM M f t).1)∧∃ d',GoX H w O d (moveM M f t).2 (2*M.length) w' d':=by
 have hpre:=preX h hl (by omega) hf
 obtain ⟨r,hr⟩:∃ r,moveM M f t=r:=⟨_,rfl⟩
 rw [hr]
 obtain ⟨L,hLL⟩:∃ L,goneM M f=L:=⟨_,rfl⟩
 have hks:keysE (beginsO f) M=L.map Prod.fst:=by rw [gone_keys,hLL]
 have hkl:(keysE (beginsO f) M).length=L.length:=by rw [hks,List.length_map]
 have hlm:L.length≤M.length:=by rw [←hLL];exact List.length_filter_le _ _
 rw [hkl,hks] at hpre
 have HH:=Lib.hid h
 have HHH:=Lib.hid hH
 have HN:=Lib.hid hn
 have HEL:=Lib.hid hl
 have HT:=Lib.hid ht
 have HLQ:=Lib.hid hL
 have HG6:=Lib.hid hG
 have HR:=Lib.hid hr
 have HLL:=Lib.hid hLL
 have HLM:=Lib.hid hlm
 have HP:=Lib.hid hpre
 obtain ⟨i0,hi,hz0,hz1,hz2⟩:=info_parts Tryz.infoEntry
 clear h hH hn hl ht hL hr hLL hlm hpre hks hkl hf hG
 go_enter Tryz.func81,Tryz.ntmps81
 go_wp2_with fail
 refine HP.out.mono ?_
 rintro e w1 ⟨s,rfl,hn1,hrd⟩
 have HN1:=Lib.hid hn1
 have HRD:=Lib.hid hrd
 clear hn1 hrd
 go_wp2_with fail
 go_loopw [8,27] (fun v8 v27 wr=>∃ (j:Nat) (s2:Sl) (ys:List LE),v27=.int .i64 (j:Int)∧v8=.slice s2.a ys.length s2.c∧j≤L.length∧Hid (ys.length=j)∧Hid (ys.map LE.ent=(L.take j).map (mvE f t))∧Hid (Nw w1 wr)∧
  Hid (wr.ownsRow w1.heap.size 71 7 (.slice s2.a ys.length s2.c) ys.length (flatE ys))∧Hid (∀ y∈ys,RV wr (NRow w1.heap.size wr s2) y.v y.sl y.so)∧Hid (moveE M f t (L.take j)=0)) (fun _ v _=>L.length - (intOf v).toNat)
 case atStart=>exact ⟨0,Sl.none,[],rfl,rfl,Nat.zero_le _,Lib.hid rfl,Lib.hid rfl,Lib.hid (Sb.refl _ _),Lib.hid (World.ownsRow_nil _ _ _ _),Lib.hid (fun y hy=>by cases hy),Lib.hid rfl⟩
 obtain ⟨j,s2,ys,rfl,rfl,hj,HYL,HYE,HX,HOWN,HYV,HME⟩:=hrel
 by_cases hlt:j<L.length
 ·have l1:(j:Int)<(L.length:Int):=by omega
  have l1':decide ((j:Int)<(L.length:Int))=true:=decide_eq_true l1
  have l0:(0:Int)≤(j:Int):=by omega
  obtain ⟨x,hx⟩:∃ x,L[j]? = some x:=⟨_,List.getElem?_eq_getElem hlt⟩
  obtain ⟨b0,o0,hsl,-,hcs⟩:=HRD.out
  obtain ⟨hsa,hsc,hscm⟩:=hsl.eq (by omega)
  have hb0:=hsl.fits (by omega)
  have cK:wr.cell? ⟨b0,o0+j,none⟩=some (.string x.1):=by
   rw [HX.out.cell hb0.2 (fun e=>e)]
   exact hcs j _ (by rw [List.getElem?_map,List.getElem?_map,hx];rfl)
  have hg:=goneM_at (M:=M) (f:=f) (j:=j) (e:=x) (by rw [HLL.out];exact hx)
  have hok:=HH.out.rel.ok.ok x hg.1
  have hks:=mayK_size hok.1
  have hturn:=turnK_any (w:=wr) (t:=t) hg.2 (by have:=HT.out;omega) (HLQ.out.nw (HN1.out.trans HX.out)).lib
  have HTU:=Lib.hid hturn
  have HGE:=Lib.hid (show getE M x.1=some x.2 from getE_mem HH.out.rel.ok.sorted hg.1)
  have HAT:=Lib.hid (moveE_at HME.out hx)
  have HTK:=Lib.hid (fun h1 h2=>moveE_take HME.out hx h1 h2)
  have HXJ:=Lib.hid hx
  have HKS:=Lib.hid hks
  rw [hsa]
  clear hcs hsl hb0 hg hok hks hturn hx
  go_wp2_with fail
  refine HTU.out.mono ?_
  rintro e w2 ⟨⟨q',rfl,hq'⟩,hn2⟩
  have HN2:=Lib.hid ((HN1.out.trans HX.out).trans hn2)
  have HX2:=Lib.hid hn2
  have hat:=HAT.out
  by_cases hm:mayK (turnK f t x.1)=0
  rotate_left
  ·have g:(mayK (turnK f t x.1) == 0)=false:=beq_eq_false_iff_ne.2 hm
   rw [if_pos hm] at hat
   have hres:r=(8,M):=by rw [←HR.out];unfold moveM;rw [HLL.out,hat];exact if_pos (by decide)
   have HRES:=Lib.hid hres
   clear hm hat hres hq' hn2 cK
   go_wp2_with fail
   go_ret
   exact ⟨by rw [HRES.out] <;> rfl,d,by rw [HRES.out];exact HH.out.stay HN2.out⟩
  obtain rfl:=hq' hm
  rw [if_neg (fun h=>h hm)] at hat
  have hget:=getX (HH.out.nw HN2.out) HEL.out (k:=turnK f t x.1) (Nat.le_trans (mayK_size hm) (by decide))
  have HG1:=Lib.hid hget
  have HM:=Lib.hid hm
  have HAT2:=Lib.hid hat
  rw [hm]
  clear hm hat hq' hn2 hget cK
  go_wp2_with fail
  refine HG1.out.mono ?_
  rintro e w3 ⟨s3,s4,rfl,hx3,-⟩
  obtain ⟨y3,hy3⟩:∃ y,(getE M (turnK f t x.1)).getD zeroV=y:=⟨_,rfl⟩
  obtain ⟨g3,hg3⟩:∃ g,(getE M (turnK f t x.1)).isSome=g:=⟨_,rfl⟩
  obtain ⟨q,hq⟩:∃ q,turnK f t x.1=q:=⟨_,rfl⟩
  rw [hy3,hg3,hq]
  have HG3:=Lib.hid hg3
  have HQ:=Lib.hid hq
  have HX3:=Lib.hid (HX2.out.trans (Nw.of hx3))
  clear hx3 hy3 hg3 hq HG1
  go_upto_region 10 with fail
  have hx4:=(Ext.refl w3).alloc #[.int .i64 y3.kind,.bool y3.b,.int .i64 y3.i,.string y3.t,.slice s3.a y3.l.length s3.c,.slice s4.a y3.ok.length s4.c] 28
  generalize hW4:World.alloc _ _=w4 at hx4 ⊢
  have HX4:=Lib.hid (HX3.out.trans (Nw.of hx4))
  clear hW4 hx4
  go_cut [52] (fun v w'=>v=.bool (g3 && !beginsO f q)∧w'=w4)
  case first=>
   cases g3 with
   | false=>
     go_wp2_with fail
     go_meet
     exact ⟨rfl,rfl⟩
   | true=>
     go_wp2_with fail
     refine (begins_any _ q f).mono ?_
     rintro e w5 ⟨rfl,rfl⟩
     go_wp2_with fail
     go_meet
     exact ⟨rfl,rfl⟩
  obtain ⟨hv,hw⟩:=hcut
  subst hv
  have HX5:=Lib.hid (show Nw wr wc by rw [hw];exact HX4.out)
  clear hw HX4 HX3
  rcases Bool.eq_false_or_eq_true (g3 && !beginsO f q) with hb | hb
  ·have hat:=HAT2.out
   rw [HG3.out,HQ.out] at hat
   rw [if_pos hb] at hat
   have hres:r=(13,M):=by rw [←HR.out];unfold moveM;rw [HLL.out,hat];exact if_pos (by decide)
   have HRES:=Lib.hid hres
   rw [hb]
   clear hb hat hres
   go_wp2_with fail
   go_ret
   exact ⟨by rw [HRES.out] <;> rfl,d,by rw [HRES.out];exact HH.out.stay (HN1.out.trans (HX.out.trans HX5.out))⟩
  have hme:=HTK.out (by rw [HM.out]) (by rw [HG3.out,HQ.out];exact hb)
  have HME2:=Lib.hid hme
  have hget:=getX (HH.out.nw (HN1.out.trans (HX.out.trans HX5.out))) HEL.out (k:=x.1) (Nat.le_trans HKS.out (by decide))
  rw [HGE.out] at hget
  have HG2:=Lib.hid hget
  rw [hb]
  clear hb hme hget
  go_wp2_with fail
  refine HG2.out.mono ?_
  rintro e w6 ⟨s5,s6,rfl,hx6,hr6⟩
  have HX6:=Lib.hid (HX5.out.trans (Nw.of hx6))
  have HV6:=Lib.hid (show RV w6 (In wc.heap.size w6.heap.size) x.2 s5 s6 from hr6.rv)
  clear hx6 hr6
  rw [show (some x.2:Option Val).getD zeroV=x.2 from rfl]
  go_upto_region 13 with fail
  have hx7:=(Ext.refl w6).alloc #[.int .i64 x.2.kind,.bool x.2.b,.int .i64 x.2.i,.string x.2.t,.slice s5.a x.2.l.length s5.c,.slice s6.a x.2.ok.length s6.c] 28
  have hb7:=Blk.new w6 28 #[.int .i64 x.2.kind,.bool x.2.b,.int .i64 x.2.i,.string x.2.t,.slice s5.a x.2.l.length s5.c,.slice s6.a x.2.ok.length s6.c]
  generalize hW7:World.alloc _ _=w7 at hx7 hb7 ⊢
  have HX7:=Lib.hid (HX6.out.trans (Nw.of hx7))
  have HV7:=Lib.hid (HV6.out.agree (hx7.agree fun b (hb:In wc.heap.size w6.heap.size b)=>hb.2))
  have hsz7:=Nat.le_trans HX5.out.size (Nat.le_refl wc.heap.size)
  have HSZ7:=Lib.hid hsz7
  have HZ7:=Lib.hid hx7.size
  have e0:w7.cell? ⟨w6.heap.size,0,none⟩=some (.int .i64 x.2.kind):=hb7.cell 0
  have e1:w7.cell? ⟨w6.heap.size,1,none⟩=some (.bool x.2.b):=hb7.cell 1
  have e2:w7.cell? ⟨w6.heap.size,2,none⟩=some (.int .i64 x.2.i):=hb7.cell 2
  have e3:w7.cell? ⟨w6.heap.size,3,none⟩=some (.string x.2.t):=hb7.cell 3
  have e4:w7.cell? ⟨w6.heap.size,4,none⟩=some (.slice s5.a x.2.l.length s5.c):=hb7.cell 4
  have e5:w7.cell? ⟨w6.heap.size,5,none⟩=some (.slice s6.a x.2.ok.length s6.c):=hb7.cell 5
  have hx8:=(Ext.refl w7).alloc (⟨q,x.2,s5,s6⟩:LE).cells.toArray 71
  have HBN:=Lib.hid (Blk.new w7 71 (⟨q,x.2,s5,s6⟩:LE).cells.toArray)
  have HX8:=Lib.hid (HX7.out.trans (Nw.of hx8))
  have HY8:=Lib.hid hx8
  have hn18:Nw wr (w7.alloc (.cells (⟨q,x.2,s5,s6⟩:LE).cells.toArray 71)):=HX8.out
  have HOX:=Lib.hid (own_agree (F:=Lt wr.heap.size) HOWN.out (Nw.agree hn18 fun b hb=>hb) fun b hb=>(own_row HOWN.out hb).2)
  have h63:ys.length+1≤maxLen:=by have:=HYL.out;have:=HLM.out;have:=HN.out;unfold maxLen;omega
  have hby:(ys.length+1)*104≤140737488355328:=by have:=HYL.out;have:=HLM.out;have:=HN.out;omega
  have hbase:w1.heap.size≤(w7.alloc (.cells (⟨q,x.2,s5,s6⟩:LE).cells.toArray 71)).heap.size:=(HX.out.trans HX8.out).size
  have H63:=Lib.hid h63
  have HBY:=Lib.hid hby
  have HBA:=Lib.hid hbase
  have HN18:=Lib.hid hn18
  clear hW7 hx7 hb7 hx8 hn18 h63 hby hbase hsz7
  go_wp2_with (at_builtin;refine wpList_append_x _ rfl (.tmp 59) (.tmp 63) 22 rfl w1.heap.size 71 i0 _ 7 104 Tryz.underlying22 hi hz0 hz1 hz2 rfl (by decide) s2 ys.length (flatE ys) rfl HOX.out (fun b=>b=w7.heap.size) ⟨some ⟨w7.heap.size,0,none⟩,1⟩ 1 (⟨q,x.2,s5,s6⟩:LE).cells rfl (Rd.block HBN.out (by decide) rfl) (LE.one _) H63.out HBY.out HBA.out ?_;intro s7 w9 hown9 hwr9 hsA;have HO9:=Lib.hid hown9;have HW9:=Lib.hid hwr9;have HS9:=Lib.hid hsA;clear hown9 hwr9 hsA)
  have hjb:L.length≤1000000:=by have:=HLM.out;have:=HN.out;omega
  have hw1:wrap64 ((j:Int)+1)=((j+1:Nat):Int):=by unfold wrap64;omega
  go_roundw
  case measure=>rw [hw1];simp [intOf];omega
  have hor:=fun b (hb:s2.row=some b)=>own_row HOX.out hb
  have hs9:Sb (fun b=>s2.row=some b) (w7.alloc (.cells (⟨q,x.2,s5,s6⟩:LE).cells.toArray 71)) w9:=by
   have hg:=HW9.out.grown
   exact ⟨hg.os,hg.tape,hg.output,hg.size,fun i hi hn=>hg.block i hi fun e=>hn e.symm⟩
  refine ⟨j+1,s7,ys++[⟨q,x.2,s5,s6⟩],by rw [hw1],by rw [List.length_append];rfl,hlt,Lib.hid (by rw [List.length_append,HYL.out];rfl),Lib.hid ?_,Lib.hid ?_,Lib.hid ?_,Lib.hid ?_,HME2⟩
  ·rw [List.map_append,HYE.out,List.take_add_one,HXJ.out,List.map_append]
   show _++[(q,x.2)]=_++[(turnK f t x.1,x.2)]
   rw [HQ.out]
  ·exact (HX.out.trans HX8.out).comp hs9 fun i hi e=>by have:=(hor i e).1;omega
  ·rw [List.length_append,flatE_app,show flatE [(⟨q,x.2,s5,s6⟩:LE)]=(⟨q,x.2,s5,s6⟩:LE).cells by simp [flatE]]
   exact HO9.out
  intro y hy
  rcases List.mem_append.1 hy with hy | hy
  ·exact row_on HX8.out HW9.out HS9.out (HYV.out y hy)
  obtain rfl:y=⟨q,x.2,s5,s6⟩:=by simpa using hy
  have hsW:(w7.alloc (.cells (⟨q,x.2,s5,s6⟩:LE).cells.toArray 71)).heap.size=w7.heap.size+1:=World.size_alloc _ _
  have hro:=fun b (hb:s2.row=some b)=>(own_row HOWN.out hb).2
  have hW9g:w7.heap.size+1≤w9.heap.size:=by
   have h:=HW9.out.grown.size
   rw [World.size_alloc] at h
   exact h
  have h1:RV w9 (In wc.heap.size w6.heap.size) x.2 s5 s6:=(HV7.out.agree (HY8.out.agree fun b (hb:In wc.heap.size w6.heap.size b)=>Nat.lt_of_lt_of_le hb.2 HZ7.out)).agree (HW9.out.agree (fun b hb=>by rw [World.size_alloc];have:=hb.2;have:=HZ7.out;omega) fun k hk hF=>by have:=hro k hk;have:=hF.1;have:=HSZ7.out;omega)
  refine h1.mono fun b hb=>⟨by have:=hb.1;have:=HSZ7.out;have:=HX.out.size;omega,by have:=hb.2;have:=HZ7.out;omega,fun e=>?_⟩
  rcases HS9.out with hs | ⟨hs,-⟩
  ·have e:s2.row=some b:=by unfold Sl.row at e ⊢;rwa [hs] at e
   have:=hro b e;have:=hb.1;have:=HSZ7.out;omega
  unfold Sl.row at e
  rw [hs] at e
  have e:some (w7.alloc (.cells (⟨q,x.2,s5,s6⟩:LE).cells.toArray 71)).heap.size=some b:=e
  injection e with e
  have:=hb.2;have:=HZ7.out;omega
 obtain rfl:j=L.length:=by omega
 have l1:decide ((L.length:Int)<(L.length:Int))=false:=decide_eq_false (by omega)
 have hme:moveE M f t L=0:=by have:=HME.out;rwa [List.take_length] at this
 have hys:ys.map LE.ent=L.map (mvE f t):=by have:=HYE.out;rwa [List.take_length] at this
 have hres:r=(0,putAll (delKs M (L.map Prod.fst)) (L.map (mvE f t))):=by
  rw [←HR.out]
  unfold moveM
  rw [HLL.out,if_neg (by rw [hme];exact fun h=>h rfl),←delKs_gone HH.out.rel.ok.sorted f,gone_keys,HLL.out]
 have HRES:=Lib.hid hres
 have HYS:=Lib.hid hys
 have HMZ:=Lib.hid hme
 have HOB:=Lib.hid (fun (b:Nat) (hb:OvB O d b)=>HH.out.ov.own_lt hb)
 have HOV:=Lib.hid (HH.out.nw (HN1.out.trans HX.out))
 have HNW:=Lib.hid (HN1.out.trans HX.out)
 clear hme hys hres HME HYE
 rename World=>W0
 have hjb:L.length≤500000:=by have:=HLM.out;have:=HN.out;omega
 go_wp2_with fail
 go_loopw [68] (fun v68 w2=>∃ (i:Nat) (d':OD),v68=.int .i64 (i:Int)∧i≤L.length∧Hid (GoX H W0 O d (delKs M ((L.take i).map Prod.fst)) i w2 d')) (fun v _=>L.length - (intOf v).toNat)
 case atStart=>exact ⟨0,d,rfl,Nat.zero_le _,Lib.hid (HOV.out.stay (Sb.refl _ _))⟩
 obtain ⟨i,d1,rfl,hi',HGX⟩:=hrel
 by_cases hlt2:i<L.length
 ·have m1:(i:Int)<(L.length:Int):=by omega
  have m1':decide ((i:Int)<(L.length:Int))=true:=decide_eq_true m1
  have m0:(0:Int)≤(i:Int):=by omega
  obtain ⟨x,hx⟩:∃ x,L[i]? = some x:=⟨_,List.getElem?_eq_getElem hlt2⟩
  obtain ⟨b0,o0,hsl,-,hcs⟩:=HRD.out
  obtain ⟨hsa,hsc,hscm⟩:=hsl.eq (by omega)
  have hb0:=hsl.fits (by omega)
  have cK:wr.cell? ⟨b0,o0+i,none⟩=some (.string x.1):=by
   rw [HGX.out.go.sb.cell (Nat.lt_of_lt_of_le hb0.2 HX.out.size) (fun e=>by have:=HOB.out b0 e;have:=hb0.1;omega),HX.out.cell hb0.2 (fun e=>e)]
   exact hcs i _ (by rw [List.getElem?_map,List.getElem?_map,hx];rfl)
  have hg:=goneM_at (M:=M) (f:=f) (j:=i) (e:=x) (by rw [HLL.out];exact hx)
  have hks:=mayK_size (HH.out.rel.ok.ok x hg.1).1
  have hdel:=delX HGX.out.at_ (fun b hb=>Nat.lt_of_lt_of_le (HHH.out b hb) (Nat.le_trans HNW.out.size HGX.out.go.sb.size)) (by have:=HGX.out.few;have:=HN.out;have:=HLM.out;omega) (by rw [HGX.out.T];exact HEL.out) (k:=x.1) (Nat.le_trans hks (by decide))
  have HDEL:=Lib.hid hdel
  have HDE:=Lib.hid (show delE (delKs M ((L.take i).map Prod.fst)) x.1=delKs M ((L.take (i+1)).map Prod.fst) by
   rw [List.take_add_one,hx,List.map_append]
   unfold delKs
   rw [List.foldl_append]
   rfl)
  rw [hsa]
  clear hcs hsl hb0 hg hks hdel hx
  go_wp2_with fail
  refine HDEL.out.mono ?_
  rintro e w5 ⟨rfl,d2,hg2⟩
  rw [HDE.out] at hg2
  have HG2:=Lib.hid (HGX.out.trans hg2)
  clear hg2
  have hw1:wrap64 ((i:Int)+1)=((i+1:Nat):Int):=by unfold wrap64;omega
  go_wp2_with fail
  go_roundw
  case measure=>simp [intOf];omega
  exact ⟨i+1,d2,by go_num,hlt2,HG2⟩
 obtain rfl:i=L.length:=by omega
 have hgx:=HGX.out
 rw [List.take_length] at hgx
 have HG1:=Lib.hid hgx
 have m1:decide ((L.length:Int)<(L.length:Int))=false:=decide_eq_false (by omega)
 have HYLL:=Lib.hid (show ys.length=L.length from HYL.out)
 have hyl:ys.length≤500000:=by have:=HYL.out;omega
 rename World=>W1
 clear hgx HGX l1 m1 hi' hj
 have l1:decide ((L.length:Int)<(L.length:Int))=false:=decide_eq_false (by omega)
 go_wp2_with fail
 go_loopw [78] (fun v78 w3=>∃ (i:Nat) (d':OD),v78=.int .i64 (i:Int)∧i≤ys.length∧Hid (GoX H W0 O d (putAll (delKs M (L.map Prod.fst)) ((L.take i).map (mvE f t))) (L.length+i) w3 d')) (fun v _=>ys.length - (intOf v).toNat)
 case atStart=>exact ⟨0,d1,rfl,Nat.zero_le _,HG1⟩
 obtain ⟨i,d2,rfl,hi3,HGY⟩:=hrel
 by_cases hlt3:i<ys.length
 ·have m1:(i:Int)<(ys.length:Int):=by omega
  have m1':decide ((i:Int)<(ys.length:Int))=true:=decide_eq_true m1
  have m0:(0:Int)≤(i:Int):=by omega
  obtain ⟨y,hy⟩:∃ y,ys[i]? = some y:=⟨_,List.getElem?_eq_getElem hlt3⟩
  obtain ⟨x,hx⟩:∃ x,L[i]? = some x:=⟨_,List.getElem?_eq_getElem (by have:=HYLL.out;omega)⟩
  have hyx:y.ent=mvE f t x:=by
   have:=congrArg (fun l=>l[i]?) HYS.out
   simp only [List.getElem?_map,hy,hx,Option.map_some] at this
   injection this
  have hk:y.k=turnK f t x.1:=congrArg Prod.fst hyx
  have hv:y.v=x.2:=congrArg Prod.snd hyx
  have hg:=goneM_at (M:=M) (f:=f) (j:=i) (e:=x) (by rw [HLL.out];exact hx)
  have hok:=HH.out.rel.ok.ok x hg.1
  have hmk:mayK y.k=0:=by rw [hk];exact moveE_none HMZ.out (List.mem_of_getElem? hx)
  have hov:okV y.v:=by rw [hv];exact hok.2
  have hset:∀ M',setMu M' y.k y.v=(0,insE M' y.k y.v):=fun M'=>by
   unfold setMu
   rw [if_neg (fun h=>h hmk),if_neg (fun h=>h hov.2)]
  obtain ⟨b1,o1,hsl,-,hcs⟩:=Rd.of_own HOWN.out
  obtain ⟨hsa,hsc,hscm⟩:=hsl.eq (by omega)
  have hb1:=hsl.fits (by omega)
  have hsa:s2.a=some ⟨b1,o1,none⟩:=hsa
  have hce:∀ c u,c<7→y.cells[c]? = some u→wr.cell? ⟨b1,o1+i*7+c,none⟩=some u:=fun c u hc hu=>by
   rw [HGY.out.go.sb.cell hb1.2 (fun e=>by have:=HOB.out b1 e;have:=hb1.1;have:=HN1.out.size;omega),Nat.add_assoc]
   exact hcs _ _ (by rw [flatE_at hy c hc];exact hu)
  have e0:wr.cell? ⟨b1,o1+i*7,none⟩=some (.string y.k):=hce 0 _ (by decide) rfl
  have e1:wr.cell? ⟨b1,o1+i*7+1,none⟩=some (.int .i64 y.v.kind):=hce 1 _ (by decide) rfl
  have e2:wr.cell? ⟨b1,o1+i*7+2,none⟩=some (.bool y.v.b):=hce 2 _ (by decide) rfl
  have e3:wr.cell? ⟨b1,o1+i*7+3,none⟩=some (.int .i64 y.v.i):=hce 3 _ (by decide) rfl
  have e4:wr.cell? ⟨b1,o1+i*7+4,none⟩=some (.string y.v.t):=hce 4 _ (by decide) rfl
  have e5:wr.cell? ⟨b1,o1+i*7+5,none⟩=some (.slice y.sl.a y.v.l.length y.sl.c):=hce 5 _ (by decide) rfl
  have e6:wr.cell? ⟨b1,o1+i*7+6,none⟩=some (.slice y.so.a y.v.ok.length y.so.c):=hce 6 _ (by decide) rfl
  have hx9:=(Ext.refl wr).alloc y.cells.toArray 71
  have hyv:=HYV.out y (List.mem_of_getElem? hy)
  have hyv2:RV wr (NRow w1.heap.size W0 s2) y.v y.sl y.so:=hyv.agree fun b (hb:NRow w1.heap.size W0 s2 b)=>HGY.out.go.sb.block b hb.2.1 fun e=>by have:=HOB.out b e;have:=hb.1;have:=HN1.out.size;omega
  have hyv3:RV (wr.alloc (.cells y.cells.toArray 71)) (Lt (wr.alloc (.cells y.cells.toArray 71)).heap.size) y.v y.sl y.so:=(hyv2.agree (hx9.agree fun b (hb:NRow w1.heap.size W0 s2 b)=>Nat.lt_of_lt_of_le hb.2.1 HGY.out.go.sb.size)).mono fun b hb=>Nat.lt_of_lt_of_le hb.2.1 (Nat.le_trans HGY.out.go.sb.size hx9.size)
  have hput:=putX (k:=y.k) (HGY.out.at_.nw (Nw.of hx9)) (fun b hb=>Nat.lt_of_lt_of_le (HHH.out b hb) (Nat.le_trans HNW.out.size (Nat.le_trans HGY.out.go.sb.size hx9.size))) (by have:=HGY.out.few;have:=HN.out;have:=HLM.out;have:=HYLL.out;omega) (Nat.le_trans (mayK_size hmk) (by decide)) hyv3 (Nat.le_trans hov.cnt (by decide)) (((HLQ.out.nw HNW.out).sb HGY.out.go.sb (fun b hb e=>HH.out.ov.out b e (HG6.out b hb))).nw (Nw.of hx9))
  rw [hset] at hput
  have HPUT:=Lib.hid hput
  have HX9:=Lib.hid (Nw.of hx9)
  have HPA:=Lib.hid (show insE (putAll (delKs M (L.map Prod.fst)) ((L.take i).map (mvE f t))) y.k y.v=putAll (delKs M (L.map Prod.fst)) ((L.take (i+1)).map (mvE f t)) by
   rw [List.take_add_one,hx,List.map_append]
   show _=putAll _ (_++[mvE f t x])
   rw [putAll_snoc,←hyx]
   rfl)
  rw [hsa]
  clear hk hv hg hok hmk hov hset hcs hsl hb1 hce hx9 hyv hyv2 hyv3 hput hy hx hyx hsc hscm
  go_wp2_with fail
  refine HPUT.out.mono ?_
  rintro e w5 ⟨rfl,d3,hg3⟩
  have hg4:=HGY.out.trans (hg3.since HX9.out)
  rw [HPA.out] at hg4
  have HG4:=Lib.hid hg4
  clear hg3 hg4
  have hw1:wrap64 ((i:Int)+1)=((i+1:Nat):Int):=by unfold wrap64;omega
  go_wp2_with fail
  go_roundw
  case measure=>simp [intOf];omega
  exact ⟨i+1,d3,by go_num,hlt3,HG4⟩
 obtain rfl:i=ys.length:=by omega
 have m1:decide ((ys.length:Int)<(ys.length:Int))=false:=decide_eq_false (by omega)
 have hgy:=HGY.out
 rw [HYLL.out,List.take_length] at hgy
 have HG5:=Lib.hid ((hgy.since HNW.out).more (m:=2*M.length) (by have:=HLM.out;omega))
 clear hgy HGY
 go_wp2_with fail
 go_ret
 exact ⟨by rw [HRES.out] <;> rfl,d2,by rw [HRES.out];exact HG5.out⟩
def HB (H:Nat→Prop) (a b:Nat):Nat→Prop:=fun i=>H i∨(a≤i∧i<b)
theorem OvX.boxes {H:Nat→Prop} {w w0:World} {O:Nat} {d:OD} {M:List Ent} (h:OvX H w O d M) (k:Nw w w0):OvX (HB H w.heap.size w0.heap.size) w0 O d M:=
 OvX.nw ⟨h.ov.more fun b hb e=>e.elim id fun e2=>by have:=e2.1;omega,h.rel⟩ k
theorem GoX.less {H G:Nat→Prop} {w w':World} {O:Nat} {d d':OD} {M:List Ent} {n:Nat} (h:GoX G w O d M n w' d') (hH:∀ b,H b→G b):GoX H w O d M n w' d':=
 ⟨⟨h.go.at_.more fun b _ e=>hH b e,h.go.sb,h.go.new⟩,h.T,h.rel,h.us,h.hs,h.few⟩
theorem heap_set {w w':World} {B:Nat} {v:Value} (h:w'.heap[B]? = w.heap[B]?) {t:TypeId} {u:Value} (hb:Blk w B t #[u]):(w'.setCell ⟨B,0,none⟩ v).heap[B]? = (w.setCell ⟨B,0,none⟩ v).heap[B]?:=by
 have h1:Blk (w.setCell ⟨B,0,none⟩ v) B t #[v]:=hb.set_ 0 v
 have h2:Blk (w'.setCell ⟨B,0,none⟩ v) B t #[v]:=(show Blk w' B t #[u] from h.trans hb).set_ 0 v
 exact Eq.trans h2 (Eq.symm h1)
theorem GoX.code {H:Nat→Prop} {w w':World} {O:Nat} {d d':OD} {M:List Ent} {n:Nat} (h:GoX H w O d M n w' d') {B:Nat} {t:TypeId} {u v:Value} (hB:H B) (hb:Blk w B t #[u]) (ho:¬OvB O d B) :
  GoX H (w.setCell ⟨B,0,none⟩ v) O d M n (w'.setCell ⟨B,0,none⟩ v) d':=by
 have s1:Sb (fun i=>i=B) w (w.setCell ⟨B,0,none⟩ v):=(Sb.refl (fun i=>i=B) w).set (p:=⟨B,0,none⟩) (.inr rfl) v
 have s2:Sb (fun i=>i=B) w' (w'.setCell ⟨B,0,none⟩ v):=(Sb.refl (fun i=>i=B) w').set (p:=⟨B,0,none⟩) (.inr rfl) v
 have z1:(w.setCell ⟨B,0,none⟩ v).heap.size=w.heap.size:=by simp
 have z2:(w'.setCell ⟨B,0,none⟩ v).heap.size=w'.heap.size:=by simp
 have hs:=h.go.sb
 have hl:=hb.lt
 refine ⟨⟨h.go.at_.sb s2 fun b e=>by rw [e];exact hB,⟨?_,?_,?_,by rw [z1,z2];exact hs.size,fun i hi hn=>?_⟩,fun b hb'=>(h.go.new b hb').imp id fun e=>by rw [z1];exact e⟩,h.T,h.rel,h.us,h.hs,h.few⟩
 ·rw [s2.os,hs.os,s1.os]
 ·rw [s2.tape,hs.tape,s1.tape]
 ·rw [s2.output,hs.output,s1.output]
 rw [z1] at hi
 by_cases e:i=B
 ·subst e
  exact heap_set (hs.block i hi hn) hb
 rw [s2.block i (Nat.lt_of_lt_of_le hi hs.size) e,hs.block i hi hn,s1.block i hi e]
theorem do1_any {H:Nat→Prop} {w0 w1:World} {O:Nat} {d d1:OD} {M M1:List Ent} {n B4 B2 B5:Nat} {code:Int} (u:FrameMode) (h:OvX H w0 O d M) (g:GoX H w0 O d M1 n w1 d1) (hn:d1.us.length≤1000000)
  (h4:Blk w1 B4 43 #[.int .i64 code]) (h2:Blk w1 B2 36 #[.pointer (some ⟨O,0,none⟩)]) (h5:Blk w1 B5 3 #[.int .i64 (d.us.length:Int)]) (o4:¬OvB O d B4) (l4:B4<w0.heap.size) :
  CallsD Tryz.prog 77 #[.pointer (some ⟨B4,0,none⟩),.pointer (some ⟨B2,0,none⟩),.pointer (some ⟨B5,0,none⟩)] u w1 fun e u' w'=>u'=u∧(e=.returned (.tuple #[])∧Blk w' B4 43 #[.int .i64 code]∧∃ d2,GoX H w0 O d (if code=0 then M1 else M) n w' d2):=by
 have c4:w1.cell? ⟨B4,0,none⟩=some (.int .i64 code):=h4.cell 0
 have c2:w1.cell? ⟨B2,0,none⟩=some (.pointer (some ⟨O,0,none⟩)):=h2.cell 0
 have c5:w1.cell? ⟨B5,0,none⟩=some (.int .i64 (d.us.length:Int)):=h5.cell 0
 have hback:=backX h g hn
 have HB:=Lib.hid hback
 have HG:=Lib.hid g
 have H4:=Lib.hid h4
 have HO4:=Lib.hid o4
 have HL4:=Lib.hid l4
 clear hback h g hn h4 h2 h5 o4 l4
 by_cases h0:code=0
 ·subst h0
  go_enter_d Tryz.func77,Tryz.ntmps77
  go_wp2_with fail
  go_end0
  exact ⟨rfl,H4.out,d1,HG.out⟩
 have g0:(code == 0)=false:=beq_eq_false_iff_ne.2 h0
 have H0:=Lib.hid h0
 clear h0
 go_enter_d Tryz.func77,Tryz.ntmps77
 go_wp2_with fail
 refine HB.out.mono ?_
 rintro e w2 ⟨rfl,d2,hg,-⟩
 have HG2:=Lib.hid hg
 clear hg
 go_wp2_with fail
 go_end0
 exact ⟨rfl,(HG2.out.go.sb.block B4 HL4.out HO4.out).trans ((HG.out.go.sb.block B4 HL4.out HO4.out).symm.trans H4.out),d2,HG2.out.more (Nat.zero_le _)⟩
theorem do_door {H:Nat→Prop} {w W2 w3:World} {O:Nat} {d d1:OD} {M M1:List Ent} {n B2 B4 B5:Nat} {code:Int} {z:Value} (hw:Nw w W2) (h:OvX (HB H w.heap.size W2.heap.size) W2 O d M) (hown:∀ b,OvB O d b→b<w.heap.size)
  (g:GoX (HB H w.heap.size W2.heap.size) W2 O d M1 n w3 d1) (hn:d1.us.length≤1000000) (h4:Blk W2 B4 43 #[z]) (h2:Blk W2 B2 36 #[.pointer (some ⟨O,0,none⟩)]) (h5:Blk W2 B5 3 #[.int .i64 (d.us.length:Int)])
  (l4:w.heap.size≤B4) (l2:w.heap.size≤B2) (l5:w.heap.size≤B5) (n2:B2≠B4) (n5:B5≠B4) :
  CallsD Tryz.prog 77 #[.pointer (some ⟨B4,0,none⟩),.pointer (some ⟨B2,0,none⟩),.pointer (some ⟨B5,0,none⟩)] .returning (w3.setCell ⟨B4,0,none⟩ (.int .i64 code)) fun e u' w'=>
   u'=.returning∧(e=.returned (.tuple #[])∧Blk w' B4 43 #[.int .i64 code]∧∃ d2,GoX H w O d (if code=0 then M1 else M) n w' d2):=by
 have own:∀ {b},w.heap.size≤b→¬OvB O d b:=fun hb e=>by have:=hown _ e;omega
 have s0:Sb (fun i=>i=B4) W2 (W2.setCell ⟨B4,0,none⟩ (.int .i64 code)):=(Sb.refl (fun i=>i=B4) W2).set (p:=⟨B4,0,none⟩) (.inr rfl) _
 have s3:Sb (fun i=>i=B4) w3 (w3.setCell ⟨B4,0,none⟩ (.int .i64 code)):=(Sb.refl (fun i=>i=B4) w3).set (p:=⟨B4,0,none⟩) (.inr rfl) _
 have hB:HB H w.heap.size W2.heap.size B4:=.inr ⟨l4,h4.lt⟩
 have hgc:=g.code (v:=.int .i64 code) hB h4 (own l4)
 have hx:OvX (HB H w.heap.size W2.heap.size) (W2.setCell ⟨B4,0,none⟩ (.int .i64 code)) O d M:=⟨h.ov.sb s0 fun b e=>by rw [e];exact hB,h.rel⟩
 have z0:(W2.setCell ⟨B4,0,none⟩ (.int .i64 code)).heap.size=W2.heap.size:=by simp
 have hnw:Nw w (W2.setCell ⟨B4,0,none⟩ (.int .i64 code)):=hw.comp s0 fun i hi e=>by omega
 refine (do1_any .returning hx hgc hn ((g.go.sb.blk h4 (own l4)).set_ 0 (.int .i64 code)) (s3.blk (g.go.sb.blk h2 (own l2)) n2) (s3.blk (g.go.sb.blk h5 (own l5)) n5) (own l4) (by rw [z0];exact h4.lt)).mono ?_
 rintro e u' w' ⟨h1,h2',h3,d2,hg⟩
 exact ⟨h1,h2',h3,d2,(hg.less fun b e=>.inl e).since hnw⟩
end Go.Proofs.YtkhdiakpdafcdaaGreatDoor
