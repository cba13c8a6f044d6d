/- What the theorem needs of the texts Del12, Back12: no condition of its own. -/
import Derived.Laws.IdiomStrings
import Derived.WalkArith
import Derived.Test.YtechahocffcbpaaGreatDoorPwa
import Derived.Test.YtechahocffcbpaaGreatDoorPwb
import Derived.Test.YtechahocffcbpaaGreatDoorPwc
import Derived.Test.YtechahocffcbpaaGreatDoorPwd
import Derived.Test.YtechahocffcbpaaGreatDoorPwe
import Derived.Test.YtechahocffcbpaaGreatDoorPwf
import Derived.Test.YtechahocffcbpaaGreatDoorPwg
import Derived.Test.YtechahocffcbpaaGreatDoorPwh
import Derived.Test.YtechahocffcbpaaGreatDoorPwi
import Derived.Test.YtechahocffcbpaaGreatDoorPwj
set_option maxRecDepth 100000
set_option maxHeartbeats 2000000
namespace Go.Proofs.YtechahocffcbpaaGreatDoor
open Go.RowKit Go.Maps Go.Shelf
set_option linter.unusedVariables false
set_option linter.unusedSimpArgs false
def Del12 (H:Nat→Prop) (w:World) (base R M:Nat) (s:Sl) (es:List Ent) (ms:List Nat) (hs:List (List Ent)) (k:ByteArray) (e:Ending) (w':World):Prop:=
 e=.returned (.bool (getE es k).isSome)∧((getE es k=none∧Ext w w')∨(getE es k≠none∧∃ (H':Nat→Prop) (s':Sl) (M':Nat),(∀ b,H b→H' b)∧(∀ b,H' b→H b∨w.heap.size≤b)∧R12 H' w' base R M s' (delE es k) (ms++[M']) (hs++[es])∧St (fun b=>b=R∨b=M∨s.row=some b) w w'∧(∀ b,s'.row=some b→s.row=some b∨w.heap.size≤b)∧w.heap.size≤M'))
theorem del12_any {H:Nat→Prop} {w:World} {base R M:Nat} {s:Sl} {es:List Ent} {ms:List Nat} {hs:List (List Ent)} (h:R12 H w base R M s es ms hs) (hso:Sorted es) (hc:es.length≤1000000) (hn:hs.length≤1000000) (k:ByteArray) :
  Calls Tryz.prog 51 #[.pointer (some ⟨R,0,none⟩),.string k] w (Del12 H w base R M s es ms hs k):=by
 obtain ⟨i0,hi,hz0,hz1,hz2⟩:=info_parts Tryz.infoPMapO
 have c0:w.cell? ⟨R,0,none⟩=some (ptr12 M):=h.blk.cell 0
 have lR:=h.blk.lt
 have hget:=get7 h.cur hso k
 have HGET:=Lib.hid hget
 have HH:=Lib.hid h
 clear hget h
 go_enter Tryz.func51,Tryz.ntmps51
 go_wp2_with fail
 refine HGET.out.mono ?_
 rintro e w1 ⟨sl,so,rfl,hx1,-⟩
 obtain ⟨o,ho⟩:∃ o,getE es k=o:=⟨_,rfl⟩
 rw [ho]
 have HOE:=Lib.hid ho
 clear ho HGET c0 lR
 have HX1:=Lib.hid hx1
 clear hx1
 cases o with
 | none=>
   go_wp2_with fail
   go_ret
   exact ⟨by rw [HOE.out];rfl,.inl ⟨HOE.out,HX1.out.trans ((Ext.refl w1).alloc _ _)⟩⟩
 | some x=>
   rw [Option.isSome_some,Option.getD_some]
   have hx3:Ext w (w1.alloc (.cells (valC x sl so) 34)):=HX1.out.trans ((Ext.refl w1).alloc _ _)
   go_wp2_with fail
   generalize w1.alloc (.cells (valC x sl so) 34)=w3 at *
   have hr3:=HH.out.ext hx3
   have c0:w3.cell? ⟨R,0,none⟩=some (ptr12 M):=hr3.blk.cell 0
   have c1:w3.cell? ⟨R,1,none⟩=some (.slice s.a hs.length s.c):=hr3.blk.cell 1
   have lR:=hr3.blk.lt
   have HR3:=Lib.hid hr3
   have HX3:=Lib.hid hx3
   have hbel:∀ b,H b→b<w3.heap.size:=hr3.below
   have hcopy:=copy7_any (w:=w3.drew) (hr3.cur.ext ((Ext.refl w3).drew)) hbel hc
   have HCOPY:=Lib.hid hcopy
   have hone:∀ M':Nat,∀ u∈[ptr12 M'],u.oneCell'=true:=fun M'=>by simp [Value.oneCell']
   have h63:hs.length+1≤maxLen:=by unfold maxLen;omega
   have hby:(hs.length+1)*8≤140737488355328:=by omega
   have HS0:=Lib.hid (show ∀ W:World,True→True from fun _ h=>h)
   clear hr3 hcopy hx3
   refine wp_region_held_drew (S:=(fun _=>True)) (by kernel_rfl) (trivial) (fun hHeld=>?_)
   refine heldT 0 (some 18) HS0 hHeld ?_
   refine heldT 1 (some 19) HS0 hHeld ?_
   refine heldT 2 (some 20) HS0 hHeld ?_
   refine heldT 3 (some 21) HS0 hHeld ?_
   refine heldT 5 (some 23) HS0 hHeld ?_
   refine heldT 6 (some 24) HS0 hHeld ?_
   refine heldT 7 (some 25) HS0 hHeld ?_
   refine held_two (i:=4) (j:=8) (by kernel_rfl) rfl rfl (by rfl) (by rfl) (fun K hK=>?_) (fun K hK=>?_)
   ·go_simp
    skip
    refine hK.out _ _ (trivial) (fun hHeld=>?_)
    clear hK K
    try simp only [Act.put,List.setIfInBounds_toArray,List.set_cons_zero,List.set_cons_succ]
    refine held_call (i:=8) (by kernel_rfl) rfl (by rfl) (fun K hK=>?_)
    go_simp
    skip
    refine hK.out _ _ (trivial) (fun hHeld=>?_)
    clear hK K
    try simp only [Act.put,List.setIfInBounds_toArray,List.set_cons_zero,List.set_cons_succ]
    refine held_call (i:=9) (by kernel_rfl) rfl (by rfl) (fun K hK=>?_)
    go_simp
    (refine HCOPY.out.mono ?_;rintro e w4 ⟨M',rfl,hM',hx4',hmc⟩;have hx4:Ext w3 w4:=((Ext.refl w3).drew).trans hx4';have hr4:=HR3.out.ext hx4;have c0:w4.cell? ⟨R,0,none⟩=some (ptr12 M):=hr4.blk.cell 0;have c1:w4.cell? ⟨R,1,none⟩=some (.slice s.a hs.length s.c):=hr4.blk.cell 1;have lR4:=hr4.blk.lt;have hxa:Ext w4 (w4.alloc (.cells #[ptr12 M'] 47)):=(Ext.refl w4).alloc _ _;have HRA:=Lib.hid (hr4.ext hxa);have HSRC:=Lib.hid (Rd.block (size:=1) (n:=1) (cs:=[ptr12 M']) (Blk.new w4 47 #[ptr12 M']) (by decide) rfl);have HX4:=Lib.hid hx4;have HXA:=Lib.hid hxa;have HMC:=Lib.hid hmc;have HM':=Lib.hid hM';clear hx4' hx4 hr4 hxa hmc hM')
    refine hK.out _ _ (trivial) (fun hHeld=>?_)
    clear hK K
    try simp only [Act.put,List.setIfInBounds_toArray,List.set_cons_zero,List.set_cons_succ]
    refine held_call (i:=10) (by kernel_rfl) rfl (by rfl) (fun K hK=>?_)
    go_simp
    skip
    refine hK.out _ _ (trivial) (fun hHeld=>?_)
    clear hK K
    try simp only [Act.put,List.setIfInBounds_toArray,List.set_cons_zero,List.set_cons_succ]
    refine held_call (i:=11) (by kernel_rfl) rfl (by rfl) (fun K hK=>?_)
    skip
    refine wp_append_x _ (.tmp 22) (.tmp 28) 53 rfl base 47 i0 _ 1 8 Tryz.underlying53 hi hz0 hz1 hz2 rfl (by decide) s hs.length (ms.map ptr12) (by rfl) HRA.out.own (fun b=>b=w4.heap.size) ⟨some ⟨w4.heap.size,0,none⟩,1⟩ 1 [ptr12 M'] (by rfl) HSRC.out (hone M') h63 hby HRA.out.old ?_;intro s5 w5 hown5 hwr5 hs5;have HO5:=Lib.hid hown5;have HW5:=Lib.hid hwr5;have HS5:=Lib.hid hs5;have hB5:Blk w5 R 55 #[ptr12 M,.slice s.a hs.length s.c]:=HRA.out.blk.agree (hwr5.agree (F:=fun b=>b=R) (fun i hi=>by rw [hi];exact HRA.out.blk.lt) (fun k hk e=>HRA.out.ne_rowR (by rw [hk,e]))) rfl;have c15:w5.cell? ⟨R,1,none⟩=some (.slice s.a hs.length s.c):=hB5.cell 1;have lR5:=hB5.lt;have fR5:w5.frozen? ⟨R,1,none⟩=false:=hB5.frozen 1;have HB5:=Lib.hid hB5;clear hown5 hwr5 hs5 hB5
    refine hK.out _ _ (trivial) (fun hHeld=>?_)
    clear hK K
    try simp only [Act.put,List.setIfInBounds_toArray,List.set_cons_zero,List.set_cons_succ]
    refine heldT 12 (some 30) HS0 hHeld ?_
    refine heldT 13 (some 31) HS0 hHeld ?_
    refine held_call (i:=14) (by kernel_rfl) rfl (by rfl) (fun K hK=>?_)
    go_simp
    skip
    refine hK.out _ _ (trivial) (fun hHeld=>?_)
    clear hK K
    try simp only [Act.put,List.setIfInBounds_toArray,List.set_cons_zero,List.set_cons_succ]
    refine wpAnyH_done (by kernel_rfl) ?_ _
    obtain ⟨H',hHH,hHn,hr5,hst5,hsr5⟩:=R12.step HR3.out HX4.out HM'.out HMC.out HO5.out HW5.out HS5.out HB5.out
    have HHH:=Lib.hid hHH
    have HHN:=Lib.hid hHn
    have HR5:=Lib.hid hr5
    have HSR:=Lib.hid (show (∀ b,s5.row=some b→s.row=some b∨w.heap.size≤b)∧w.heap.size≤M' from ⟨fun b hb=>(hsr5 b hb).imp id (Nat.le_trans HX3.out.size),Nat.le_trans HX3.out.size HM'.out⟩)
    have HST5:=Lib.hid hst5
    clear hsr5 hr5 hst5 hHH hHn HO5 HW5 HS5 HB5 HMC HM' HX4 HXA HRA HSRC c0 c1 c15 fR5 lR5 lR4 lR
    generalize w5.setCell ⟨R,1,none⟩ (.slice s5.a (hs.length+1) s5.c)=W5 at *
    have c5:W5.cell? ⟨R,0,none⟩=some (ptr12 M):=HR5.out.blk.cell 0
    have l5:=HR5.out.blk.lt
    have HDEL:=Lib.hid (del7_any HR5.out.cur HR5.out.below hso hc k)
    go_wp2_with fail
    refine HDEL.out.mono ?_
    rintro e w8 ⟨rfl,hm8,hst8⟩
    have HM8:=Lib.hid hm8
    have HST8:=Lib.hid hst8
    clear hm8 hst8
    go_wp2_with fail
    go_ret
    exact ⟨by rw [HOE.out];rfl,.inr ⟨by rw [HOE.out];simp,H',s5,M',HHH.out,fun b hb=>(HHN.out b hb).imp id (Nat.le_trans HX3.out.size),HR5.out.turned HM8.out HST8.out,(HX3.out.st _).trans ((HST5.out.mono fun i _ hi=>hi.elim .inl fun e=>.inr (.inr e)).trans (HST8.out.mono fun i _ hi=>.inr (.inl hi))),HSR.out⟩⟩
   go_simp
   skip
   refine hK.out _ _ (trivial) (fun hHeld=>?_)
   clear hK K
   try simp only [Act.put,List.setIfInBounds_toArray,List.set_cons_zero,List.set_cons_succ]
   refine held_two (i:=4) (j:=9) (by kernel_rfl) rfl rfl (by rfl) (by rfl) (fun K hK=>?_) (fun K hK=>?_)
   ·go_simp
    skip
    refine hK.out _ _ (trivial) (fun hHeld=>?_)
    clear hK K
    try simp only [Act.put,List.setIfInBounds_toArray,List.set_cons_zero,List.set_cons_succ]
    refine held_call (i:=9) (by kernel_rfl) rfl (by rfl) (fun K hK=>?_)
    go_simp
    (refine HCOPY.out.mono ?_;rintro e w4 ⟨M',rfl,hM',hx4',hmc⟩;have hx4:Ext w3 w4:=((Ext.refl w3).drew).trans hx4';have hr4:=HR3.out.ext hx4;have c0:w4.cell? ⟨R,0,none⟩=some (ptr12 M):=hr4.blk.cell 0;have c1:w4.cell? ⟨R,1,none⟩=some (.slice s.a hs.length s.c):=hr4.blk.cell 1;have lR4:=hr4.blk.lt;have hxa:Ext w4 (w4.alloc (.cells #[ptr12 M'] 47)):=(Ext.refl w4).alloc _ _;have HRA:=Lib.hid (hr4.ext hxa);have HSRC:=Lib.hid (Rd.block (size:=1) (n:=1) (cs:=[ptr12 M']) (Blk.new w4 47 #[ptr12 M']) (by decide) rfl);have HX4:=Lib.hid hx4;have HXA:=Lib.hid hxa;have HMC:=Lib.hid hmc;have HM':=Lib.hid hM';clear hx4' hx4 hr4 hxa hmc hM')
    refine hK.out _ _ (trivial) (fun hHeld=>?_)
    clear hK K
    try simp only [Act.put,List.setIfInBounds_toArray,List.set_cons_zero,List.set_cons_succ]
    refine held_call (i:=10) (by kernel_rfl) rfl (by rfl) (fun K hK=>?_)
    go_simp
    skip
    refine hK.out _ _ (trivial) (fun hHeld=>?_)
    clear hK K
    try simp only [Act.put,List.setIfInBounds_toArray,List.set_cons_zero,List.set_cons_succ]
    refine held_call (i:=11) (by kernel_rfl) rfl (by rfl) (fun K hK=>?_)
    skip
    refine wp_append_x _ (.tmp 22) (.tmp 28) 53 rfl base 47 i0 _ 1 8 Tryz.underlying53 hi hz0 hz1 hz2 rfl (by decide) s hs.length (ms.map ptr12) (by rfl) HRA.out.own (fun b=>b=w4.heap.size) ⟨some ⟨w4.heap.size,0,none⟩,1⟩ 1 [ptr12 M'] (by rfl) HSRC.out (hone M') h63 hby HRA.out.old ?_;intro s5 w5 hown5 hwr5 hs5;have HO5:=Lib.hid hown5;have HW5:=Lib.hid hwr5;have HS5:=Lib.hid hs5;have hB5:Blk w5 R 55 #[ptr12 M,.slice s.a hs.length s.c]:=HRA.out.blk.agree (hwr5.agree (F:=fun b=>b=R) (fun i hi=>by rw [hi];exact HRA.out.blk.lt) (fun k hk e=>HRA.out.ne_rowR (by rw [hk,e]))) rfl;have c15:w5.cell? ⟨R,1,none⟩=some (.slice s.a hs.length s.c):=hB5.cell 1;have lR5:=hB5.lt;have fR5:w5.frozen? ⟨R,1,none⟩=false:=hB5.frozen 1;have HB5:=Lib.hid hB5;clear hown5 hwr5 hs5 hB5
    refine hK.out _ _ (trivial) (fun hHeld=>?_)
    clear hK K
    try simp only [Act.put,List.setIfInBounds_toArray,List.set_cons_zero,List.set_cons_succ]
    refine heldT 12 (some 30) HS0 hHeld ?_
    refine heldT 13 (some 31) HS0 hHeld ?_
    refine held_call (i:=14) (by kernel_rfl) rfl (by rfl) (fun K hK=>?_)
    go_simp
    skip
    refine hK.out _ _ (trivial) (fun hHeld=>?_)
    clear hK K
    try simp only [Act.put,List.setIfInBounds_toArray,List.set_cons_zero,List.set_cons_succ]
    refine wpAnyH_done (by kernel_rfl) ?_ _
    obtain ⟨H',hHH,hHn,hr5,hst5,hsr5⟩:=R12.step HR3.out HX4.out HM'.out HMC.out HO5.out HW5.out HS5.out HB5.out
    have HHH:=Lib.hid hHH
    have HHN:=Lib.hid hHn
    have HR5:=Lib.hid hr5
    have HSR:=Lib.hid (show (∀ b,s5.row=some b→s.row=some b∨w.heap.size≤b)∧w.heap.size≤M' from ⟨fun b hb=>(hsr5 b hb).imp id (Nat.le_trans HX3.out.size),Nat.le_trans HX3.out.size HM'.out⟩)
    have HST5:=Lib.hid hst5
    clear hsr5 hr5 hst5 hHH hHn HO5 HW5 HS5 HB5 HMC HM' HX4 HXA HRA HSRC c0 c1 c15 fR5 lR5 lR4 lR
    generalize w5.setCell ⟨R,1,none⟩ (.slice s5.a (hs.length+1) s5.c)=W5 at *
    have c5:W5.cell? ⟨R,0,none⟩=some (ptr12 M):=HR5.out.blk.cell 0
    have l5:=HR5.out.blk.lt
    have HDEL:=Lib.hid (del7_any HR5.out.cur HR5.out.below hso hc k)
    go_wp2_with fail
    refine HDEL.out.mono ?_
    rintro e w8 ⟨rfl,hm8,hst8⟩
    have HM8:=Lib.hid hm8
    have HST8:=Lib.hid hst8
    clear hm8 hst8
    go_wp2_with fail
    go_ret
    exact ⟨by rw [HOE.out];rfl,.inr ⟨by rw [HOE.out];simp,H',s5,M',HHH.out,fun b hb=>(HHN.out b hb).imp id (Nat.le_trans HX3.out.size),HR5.out.turned HM8.out HST8.out,(HX3.out.st _).trans ((HST5.out.mono fun i _ hi=>hi.elim .inl fun e=>.inr (.inr e)).trans (HST8.out.mono fun i _ hi=>.inr (.inl hi))),HSR.out⟩⟩
   go_simp
   (refine HCOPY.out.mono ?_;rintro e w4 ⟨M',rfl,hM',hx4',hmc⟩;have hx4:Ext w3 w4:=((Ext.refl w3).drew).trans hx4';have hr4:=HR3.out.ext hx4;have c0:w4.cell? ⟨R,0,none⟩=some (ptr12 M):=hr4.blk.cell 0;have c1:w4.cell? ⟨R,1,none⟩=some (.slice s.a hs.length s.c):=hr4.blk.cell 1;have lR4:=hr4.blk.lt;have hxa:Ext w4 (w4.alloc (.cells #[ptr12 M'] 47)):=(Ext.refl w4).alloc _ _;have HRA:=Lib.hid (hr4.ext hxa);have HSRC:=Lib.hid (Rd.block (size:=1) (n:=1) (cs:=[ptr12 M']) (Blk.new w4 47 #[ptr12 M']) (by decide) rfl);have HX4:=Lib.hid hx4;have HXA:=Lib.hid hxa;have HMC:=Lib.hid hmc;have HM':=Lib.hid hM';clear hx4' hx4 hr4 hxa hmc hM')
   refine hK.out _ _ (trivial) (fun hHeld=>?_)
   clear hK K
   try simp only [Act.put,List.setIfInBounds_toArray,List.set_cons_zero,List.set_cons_succ]
   refine held_two (i:=4) (j:=10) (by kernel_rfl) rfl rfl (by rfl) (by rfl) (fun K hK=>?_) (fun K hK=>?_)
   ·go_simp
    skip
    refine hK.out _ _ (trivial) (fun hHeld=>?_)
    clear hK K
    try simp only [Act.put,List.setIfInBounds_toArray,List.set_cons_zero,List.set_cons_succ]
    refine held_call (i:=10) (by kernel_rfl) rfl (by rfl) (fun K hK=>?_)
    go_simp
    skip
    refine hK.out _ _ (trivial) (fun hHeld=>?_)
    clear hK K
    try simp only [Act.put,List.setIfInBounds_toArray,List.set_cons_zero,List.set_cons_succ]
    refine held_call (i:=11) (by kernel_rfl) rfl (by rfl) (fun K hK=>?_)
    skip
    refine wp_append_x _ (.tmp 22) (.tmp 28) 53 rfl base 47 i0 _ 1 8 Tryz.underlying53 hi hz0 hz1 hz2 rfl (by decide) s hs.length (ms.map ptr12) (by rfl) HRA.out.own (fun b=>b=w4.heap.size) ⟨some ⟨w4.heap.size,0,none⟩,1⟩ 1 [ptr12 M'] (by rfl) HSRC.out (hone M') h63 hby HRA.out.old ?_;intro s5 w5 hown5 hwr5 hs5;have HO5:=Lib.hid hown5;have HW5:=Lib.hid hwr5;have HS5:=Lib.hid hs5;have hB5:Blk w5 R 55 #[ptr12 M,.slice s.a hs.length s.c]:=HRA.out.blk.agree (hwr5.agree (F:=fun b=>b=R) (fun i hi=>by rw [hi];exact HRA.out.blk.lt) (fun k hk e=>HRA.out.ne_rowR (by rw [hk,e]))) rfl;have c15:w5.cell? ⟨R,1,none⟩=some (.slice s.a hs.length s.c):=hB5.cell 1;have lR5:=hB5.lt;have fR5:w5.frozen? ⟨R,1,none⟩=false:=hB5.frozen 1;have HB5:=Lib.hid hB5;clear hown5 hwr5 hs5 hB5
    refine hK.out _ _ (trivial) (fun hHeld=>?_)
    clear hK K
    try simp only [Act.put,List.setIfInBounds_toArray,List.set_cons_zero,List.set_cons_succ]
    refine heldT 12 (some 30) HS0 hHeld ?_
    refine heldT 13 (some 31) HS0 hHeld ?_
    refine held_call (i:=14) (by kernel_rfl) rfl (by rfl) (fun K hK=>?_)
    go_simp
    skip
    refine hK.out _ _ (trivial) (fun hHeld=>?_)
    clear hK K
    try simp only [Act.put,List.setIfInBounds_toArray,List.set_cons_zero,List.set_cons_succ]
    refine wpAnyH_done (by kernel_rfl) ?_ _
    obtain ⟨H',hHH,hHn,hr5,hst5,hsr5⟩:=R12.step HR3.out HX4.out HM'.out HMC.out HO5.out HW5.out HS5.out HB5.out
    have HHH:=Lib.hid hHH
    have HHN:=Lib.hid hHn
    have HR5:=Lib.hid hr5
    have HSR:=Lib.hid (show (∀ b,s5.row=some b→s.row=some b∨w.heap.size≤b)∧w.heap.size≤M' from ⟨fun b hb=>(hsr5 b hb).imp id (Nat.le_trans HX3.out.size),Nat.le_trans HX3.out.size HM'.out⟩)
    have HST5:=Lib.hid hst5
    clear hsr5 hr5 hst5 hHH hHn HO5 HW5 HS5 HB5 HMC HM' HX4 HXA HRA HSRC c0 c1 c15 fR5 lR5 lR4 lR
    generalize w5.setCell ⟨R,1,none⟩ (.slice s5.a (hs.length+1) s5.c)=W5 at *
    have c5:W5.cell? ⟨R,0,none⟩=some (ptr12 M):=HR5.out.blk.cell 0
    have l5:=HR5.out.blk.lt
    have HDEL:=Lib.hid (del7_any HR5.out.cur HR5.out.below hso hc k)
    go_wp2_with fail
    refine HDEL.out.mono ?_
    rintro e w8 ⟨rfl,hm8,hst8⟩
    have HM8:=Lib.hid hm8
    have HST8:=Lib.hid hst8
    clear hm8 hst8
    go_wp2_with fail
    go_ret
    exact ⟨by rw [HOE.out];rfl,.inr ⟨by rw [HOE.out];simp,H',s5,M',HHH.out,fun b hb=>(HHN.out b hb).imp id (Nat.le_trans HX3.out.size),HR5.out.turned HM8.out HST8.out,(HX3.out.st _).trans ((HST5.out.mono fun i _ hi=>hi.elim .inl fun e=>.inr (.inr e)).trans (HST8.out.mono fun i _ hi=>.inr (.inl hi))),HSR.out⟩⟩
   go_simp
   skip
   refine hK.out _ _ (trivial) (fun hHeld=>?_)
   clear hK K
   try simp only [Act.put,List.setIfInBounds_toArray,List.set_cons_zero,List.set_cons_succ]
   refine held_call (i:=4) (by kernel_rfl) rfl (by rfl) (fun K hK=>?_)
   go_simp
   skip
   refine hK.out _ _ (trivial) (fun hHeld=>?_)
   clear hK K
   try simp only [Act.put,List.setIfInBounds_toArray,List.set_cons_zero,List.set_cons_succ]
   refine held_call (i:=11) (by kernel_rfl) rfl (by rfl) (fun K hK=>?_)
   skip
   refine wp_append_x _ (.tmp 22) (.tmp 28) 53 rfl base 47 i0 _ 1 8 Tryz.underlying53 hi hz0 hz1 hz2 rfl (by decide) s hs.length (ms.map ptr12) (by rfl) HRA.out.own (fun b=>b=w4.heap.size) ⟨some ⟨w4.heap.size,0,none⟩,1⟩ 1 [ptr12 M'] (by rfl) HSRC.out (hone M') h63 hby HRA.out.old ?_;intro s5 w5 hown5 hwr5 hs5;have HO5:=Lib.hid hown5;have HW5:=Lib.hid hwr5;have HS5:=Lib.hid hs5;have hB5:Blk w5 R 55 #[ptr12 M,.slice s.a hs.length s.c]:=HRA.out.blk.agree (hwr5.agree (F:=fun b=>b=R) (fun i hi=>by rw [hi];exact HRA.out.blk.lt) (fun k hk e=>HRA.out.ne_rowR (by rw [hk,e]))) rfl;have c15:w5.cell? ⟨R,1,none⟩=some (.slice s.a hs.length s.c):=hB5.cell 1;have lR5:=hB5.lt;have fR5:w5.frozen? ⟨R,1,none⟩=false:=hB5.frozen 1;have HB5:=Lib.hid hB5;clear hown5 hwr5 hs5 hB5
   refine hK.out _ _ (trivial) (fun hHeld=>?_)
   clear hK K
   try simp only [Act.put,List.setIfInBounds_toArray,List.set_cons_zero,List.set_cons_succ]
   refine heldT 12 (some 30) HS0 hHeld ?_
   refine heldT 13 (some 31) HS0 hHeld ?_
   refine held_call (i:=14) (by kernel_rfl) rfl (by rfl) (fun K hK=>?_)
   go_simp
   skip
   refine hK.out _ _ (trivial) (fun hHeld=>?_)
   clear hK K
   try simp only [Act.put,List.setIfInBounds_toArray,List.set_cons_zero,List.set_cons_succ]
   refine wpAnyH_done (by kernel_rfl) ?_ _
   obtain ⟨H',hHH,hHn,hr5,hst5,hsr5⟩:=R12.step HR3.out HX4.out HM'.out HMC.out HO5.out HW5.out HS5.out HB5.out
   have HHH:=Lib.hid hHH
   have HHN:=Lib.hid hHn
   have HR5:=Lib.hid hr5
   have HSR:=Lib.hid (show (∀ b,s5.row=some b→s.row=some b∨w.heap.size≤b)∧w.heap.size≤M' from ⟨fun b hb=>(hsr5 b hb).imp id (Nat.le_trans HX3.out.size),Nat.le_trans HX3.out.size HM'.out⟩)
   have HST5:=Lib.hid hst5
   clear hsr5 hr5 hst5 hHH hHn HO5 HW5 HS5 HB5 HMC HM' HX4 HXA HRA HSRC c0 c1 c15 fR5 lR5 lR4 lR
   generalize w5.setCell ⟨R,1,none⟩ (.slice s5.a (hs.length+1) s5.c)=W5 at *
   have c5:W5.cell? ⟨R,0,none⟩=some (ptr12 M):=HR5.out.blk.cell 0
   have l5:=HR5.out.blk.lt
   have HDEL:=Lib.hid (del7_any HR5.out.cur HR5.out.below hso hc k)
   go_wp2_with fail
   refine HDEL.out.mono ?_
   rintro e w8 ⟨rfl,hm8,hst8⟩
   have HM8:=Lib.hid hm8
   have HST8:=Lib.hid hst8
   clear hm8 hst8
   go_wp2_with fail
   go_ret
   exact ⟨by rw [HOE.out];rfl,.inr ⟨by rw [HOE.out];simp,H',s5,M',HHH.out,fun b hb=>(HHN.out b hb).imp id (Nat.le_trans HX3.out.size),HR5.out.turned HM8.out HST8.out,(HX3.out.st _).trans ((HST5.out.mono fun i _ hi=>hi.elim .inl fun e=>.inr (.inr e)).trans (HST8.out.mono fun i _ hi=>.inr (.inl hi))),HSR.out⟩⟩
theorem R12.back {H:Nat→Prop} {w:World} {base R M j m:Nat} {s:Sl} {es es':List Ent} {ms:List Nat} {hs:List (List Ent)} (h:R12 H w base R M s es ms hs) (hj:j<hs.length) (hm:ms[j]? = some m) (he:hs[j]? = some es') :
  R12 H ((w.setCell ⟨R,0,none⟩ (ptr12 m)).setCell ⟨R,1,none⟩ (.slice s.a j s.c)) base R m s es' (ms.take j) (hs.take j)∧St (fun b=>b=R) w ((w.setCell ⟨R,0,none⟩ (ptr12 m)).setCell ⟨R,1,none⟩ (.slice s.a j s.c)):=by
 have k:St (fun b=>b=R) w ((w.setCell ⟨R,0,none⟩ (ptr12 m)).setCell ⟨R,1,none⟩ (.slice s.a j s.c)):=
  St.set (H:=fun b=>b=R) (St.set (H:=fun b=>b=R) (St.refl _ w) (p:=⟨R,0,none⟩) (.inr rfl) _) (p:=⟨R,1,none⟩) (.inr rfl) _
 have hB:Blk ((w.setCell ⟨R,0,none⟩ (ptr12 m)).setCell ⟨R,1,none⟩ (.slice s.a j s.c)) R 55 #[ptr12 m,.slice s.a j s.c]:=(h.blk.set_ 0 (ptr12 m)).set_ 1 (.slice s.a j s.c)
 generalize (w.setCell ⟨R,0,none⟩ (ptr12 m)).setCell ⟨R,1,none⟩ (.slice s.a j s.c)=W at *
 have hjl:(hs.take j).length=j:=by rw [List.length_take];omega
 have hmap:∀ i x e',ms[i]? = some x→hs[i]? = some e'→MapAt H W x e':=fun i x e' hx he'=>by
  have h1:=(h.maps i x e' hx he').1
  obtain ⟨u,hu⟩:=h1.blk0
  exact h1.st k (fun b hb=>hb▸h.hR) fun e=>blk_ne h.blk hu (by decide) e.symm
 refine ⟨⟨fun b hb=>Nat.lt_of_lt_of_le (h.below b hb) k.size,Nat.le_trans h.old k.size,h.hR,h.hrow,by rw [hjl];exact hB,?_,hmap j m es' hm he,by rw [List.length_take,List.length_take,h.len],h.dist.sublist (List.take_sublist _ _),fun i x e' hx he'=>?_⟩,k⟩
 ·rw [hjl,List.map_take]
  exact own_agree (own_cut h.own (Nat.le_of_lt hj)) (F:=fun b=>s.row=some b) (fun b hb=>k.block b (own_row h.own hb).2 fun e=>h.ne_rowR (e▸hb)) fun b hb=>hb
 have hi:i<j:=by
  have:=(List.getElem?_eq_some_iff.1 hx).1
  rw [List.length_take] at this;omega
 rw [List.getElem?_take,if_pos hi] at hx he'
 refine ⟨hmap i x e' hx he',fun e=>?_⟩
 obtain ⟨i1,i2⟩:=List.getElem?_eq_some_iff.1 hx
 obtain ⟨j1,j2⟩:=List.getElem?_eq_some_iff.1 hm
 exact List.pairwise_iff_getElem.1 h.dist i j i1 j1 hi (by rw [i2,j2,e])
def Back12 (H:Nat→Prop) (w:World) (base R M:Nat) (s:Sl) (es:List Ent) (ms:List Nat) (hs:List (List Ent)) (mk:Int) (e:Ending) (w':World):Prop:=
 ((mk<0∨(hs.length:Int)<mk)∧e=.returned (.int .i64 17)∧Ext w w')∨(mk=(hs.length:Int)∧e=.returned (.int .i64 0)∧Ext w w')∨
 (∃ (j m:Nat) (es':List Ent),mk=(j:Int)∧j<hs.length∧ms[j]? = some m∧hs[j]? = some es'∧e=.returned (.int .i64 0)∧R12 H w' base R m s es' (ms.take j) (hs.take j)∧St (fun b=>b=R) w w')
theorem back12_any {H:Nat→Prop} {w:World} {base R M:Nat} {s:Sl} {es:List Ent} {ms:List Nat} {hs:List (List Ent)} (h:R12 H w base R M s es ms hs) (hn:hs.length≤1000000) (mk:Int) :
  Calls Tryz.prog 52 #[.pointer (some ⟨R,0,none⟩),.int .i64 mk] w (Back12 H w base R M s es ms hs mk):=by
 have c0:w.cell? ⟨R,0,none⟩=some (ptr12 M):=h.blk.cell 0
 have c1:w.cell? ⟨R,1,none⟩=some (.slice s.a hs.length s.c):=h.blk.cell 1
 have lR:=h.blk.lt
 have f0:w.frozen? ⟨R,0,none⟩=false:=h.blk.frozen 0
 have f1:w.frozen? ⟨R,1,none⟩=false:=h.blk.frozen 1
 have HH:=Lib.hid h
 clear h
 by_cases hneg:mk<0
 ·have g0:decide (mk<0)=true:=decide_eq_true hneg
  have HN:=Lib.hid hneg
  clear hneg
  go_enter Tryz.func52,Tryz.ntmps52
  go_wp2_with fail
  go_ret
  exact .inl ⟨.inl HN.out,rfl,Ext.refl _⟩
 have g0:decide (mk<0)=false:=decide_eq_false hneg
 by_cases hbig:(hs.length:Int)<mk
 ·have g1:decide ((hs.length:Int)<mk)=true:=decide_eq_true hbig
  have HN:=Lib.hid hbig
  clear hbig
  go_enter Tryz.func52,Tryz.ntmps52
  go_wp2_with fail
  go_ret
  exact .inl ⟨.inr HN.out,rfl,Ext.refl _⟩
 have g1:decide ((hs.length:Int)<mk)=false:=decide_eq_false hbig
 obtain ⟨j,rfl⟩:∃ j:Nat,mk=(j:Int):=⟨mk.toNat,by omega⟩
 by_cases hj:j=hs.length
 ·subst hj
  have g2:decide ((hs.length:Int)<(hs.length:Int))=false:=decide_eq_false (by omega)
  go_enter Tryz.func52,Tryz.ntmps52
  go_wp2_with fail
  go_ret
  exact .inr (.inl ⟨rfl,rfl,Ext.refl _⟩)
 have hjl:j<hs.length:=by omega
 have g2:decide ((j:Int)<(hs.length:Int))=true:=decide_eq_true (by omega)
 have g3:(j:Int)<(hs.length:Int):=by omega
 obtain ⟨m,hm⟩:∃ m,ms[j]? = some m:=⟨_,List.getElem?_eq_getElem (by rw [HH.out.len];exact hjl)⟩
 obtain ⟨es',hes⟩:∃ e,hs[j]? = some e:=⟨_,List.getElem?_eq_getElem hjl⟩
 obtain ⟨g,cap,hs1,hbg,hnc,hcm,hfil⟩:=own_block HH.out.own (show 0<hs.length by omega)
 have cm:w.cell? ⟨g,j,none⟩=some (ptr12 m):=by
  have:=HH.out.own.cells (g:=g) (by rw [hs1];rfl) j (ptr12 m) (by rw [List.getElem?_map,hm];rfl)
  rw [add_at,Nat.zero_add] at this
  exact this
 have lg:g<w.heap.size:=hfil.lt
 subst hs1
 have hgR:¬g=R:=fun e=>HH.out.ne_rowR (by rw [←e];rfl)
 have hRg:¬R=g:=fun e=>hgR e.symm
 have HM:=Lib.hid hm
 have HES:=Lib.hid hes
 clear hm hes hj
 go_enter Tryz.func52,Tryz.ntmps52
 go_wp2_with fail
 go_ret
 obtain ⟨r1,r2⟩:=HH.out.back hjl HM.out HES.out
 exact .inr (.inr ⟨j,m,es',rfl,hjl,HM.out,HES.out,rfl,r1,r2⟩)
end Go.Proofs.YtechahocffcbpaaGreatDoor
