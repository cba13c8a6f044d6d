/- What the theorem needs of the texts Again, After, Result: no condition of its own. -/
import Derived.Laws.IdiomStrings
import Derived.WalkArith
import Derived.Sort.CutIn
import Derived.Test.YtohajcflklejjaaGreatPga
import Derived.Test.YtohajcflklejjaaGreatPgb
import Derived.Test.YtohajcflklejjaaGreatPgc
import Derived.Test.YtohajcflklejjaaGreatPgd
import Derived.Test.YtohajcflklejjaaGreatPge
import Derived.Test.YtohajcflklejjaaGreatPgf
import Derived.Test.YtohajcflklejjaaGreatPgg
import Derived.Test.YtohajcflklejjaaGreatPgh
import Derived.Test.YtohajcflklejjaaGreatPgi
set_option maxRecDepth 100000
set_option maxHeartbeats 8000000
namespace Go.Proofs.YtohajcflklejjaaGreat
open Go.RowKit
set_option linter.unusedVariables false
set_option linter.unusedSimpArgs false
theorem Qc8 (w:World) (t0 t1 t2 t3 t4:TypeId) (c0 c1 c2 c3 c4:Array Value):∀ W,((((w.alloc (.cells c0 t0)).alloc (.cells c1 t1)).alloc (.cells c2 t2)).alloc (.cells c3 t3)).alloc (.cells c4 t4)=W→
  Ext w W∧W.heap.size=w.heap.size+5∧Blk W w.heap.size t0 c0∧Blk W (w.heap.size+1) t1 c1∧Blk W (w.heap.size+2) t2 c2∧Blk W (w.heap.size+3) t3 c3∧Blk W (w.heap.size+4) t4 c4:=by
 intro W hW
 obtain ⟨hx,hz,b0,b1,b2,b3⟩:=Qc9 w t0 t1 t2 t3 c0 c1 c2 c3 _ rfl
 have hx2:Ext ((((w.alloc (.cells c0 t0)).alloc (.cells c1 t1)).alloc (.cells c2 t2)).alloc (.cells c3 t3)) W:=by rw [←hW];exact (Ext.refl _).alloc _ _
 have h4:=Blk.new ((((w.alloc (.cells c0 t0)).alloc (.cells c1 t1)).alloc (.cells c2 t2)).alloc (.cells c3 t3)) t4 c4
 rw [hW,hz] at h4
 exact ⟨hx.trans hx2,by rw [←hW];simp [hz],b0.ext hx2,b1.ext hx2,b2.ext hx2,b3.ext hx2,h4⟩
def Qnh (a b:List Ent) (c:Chg):Prop:=c.had=(QaC a c.k).isSome∧c.was=(QaC a c.k).getD zeroV∧c.has=(QaC b c.k).isSome∧c.is_=(QaC b c.k).getD zeroV
theorem Qkb {a b:List Ent} (ha:Sorted a) (hb:Sorted b) {c:Chg} (hc:c∈chg a b):Qnh a b c:=by
 rw [QeN ha hb] at hc
 obtain ⟨k,-,hk⟩:=List.mem_filterMap.1 hc
 unfold QmM at hk
 split at hk
 ·injection hk with hk
  subst hk
  exact ⟨rfl,rfl,rfl,rfl⟩
 ·cases hk
theorem Qn1 {H:Nat→Prop} {a W:World} {b:Nat} {c0 c1 c2 c3 c4 c5 c6 c7 c8 c9 c10 c11 c12 c13 c14:Value} (h:St H a W) (hb:H b):St H a (((((((((((((((W.setCell ⟨b,0,none⟩ (c0)).setCell ⟨b,1,none⟩ (c1)).setCell ⟨b,2,none⟩ (c2)).setCell ⟨b,3,none⟩ (c3)).setCell ⟨b,4,none⟩ (c4)).setCell ⟨b,5,none⟩ (c5)).setCell ⟨b,6,none⟩ (c6)).setCell ⟨b,7,none⟩ (c7)).setCell ⟨b,8,none⟩ (c8)).setCell ⟨b,9,none⟩ (c9)).setCell ⟨b,10,none⟩ (c10)).setCell ⟨b,11,none⟩ (c11)).setCell ⟨b,12,none⟩ (c12)).setCell ⟨b,13,none⟩ (c13)).setCell ⟨b,14,none⟩ (c14)):=by
 have s:∀ {X:World} (i:Nat) (v:Value),St H a X→St H a (X.setCell ⟨b,i,none⟩ v):=fun i v hx=>hx.set (p:=⟨b,i,none⟩) (.inr hb) v
 exact s 14 _ (s 13 _ (s 12 _ (s 11 _ (s 10 _ (s 9 _ (s 8 _ (s 7 _ (s 6 _ (s 5 _ (s 4 _ (s 3 _ (s 2 _ (s 1 _ (s 0 _ (h)))))))))))))))
theorem Qfg {tm:Array Value} {W:World} {b:Nat} {c0 c1 c2 c3 c4 c5 c6 c7 c8 c9 c10 c11 c12 c13 c14:Value} (h4:tm.getD 6 undef=.pointer (some ⟨b,0,none⟩)) (hb:Blk W b 54 #[c0,c1,c2,c3,c4,c5,c6,c7,c8,c9,c10,c11,c12,c13,c14]) :
  (results Tryz.f49 tm).run Tryz.prog W=.ok (.agg #[c0,c1,c2,c3,c4,c5,c6,c7,c8,c9,c10,c11,c12,c13,c14]) W:=by
 obtain ⟨r0,r1,r2,r3,r4,r5,r6,r7,r8,r9,r10,r11,r12,r13,r14⟩:=hb.c15
 simp only [Array.getD_eq_getD_getElem?] at h4
 simp [results,Tryz.results49,go_sem,h4,r0,r1,r2,r3,r4,r5,r6,r7,r8,r9,r10,r11,r12,r13,r14]
theorem Qj0 {w:World} {F F':Nat→Prop} {T U:RT} (hT:IsT w F T) (hU:IsT w F' U) (hF:∀ b,F b→b<w.heap.size) (hF':∀ b,F' b→b<w.heap.size) (ok:OkR T) (ok':OkR U) (hl:(Qak T).length≤1000000) (hl':(Qak U).length≤1000000)
  {x:CE} (hx:Qnh (Qak T) (Qak U) x.c) (hor:x.c.had=true∨x.c.has=true) (hk:x.c.k.size≤maxLen) :
  Calls Tryz.prog 49 #[x.agg,Qaz T,Qaz U] w fun e w'=>∃ y:CE,e=.returned y.agg∧y.c=x.c∧Ext w w'∧CR w' (In w.heap.size w'.heap.size) y:=by
 obtain ⟨p,hp⟩:=Qar T
 obtain ⟨q,hq⟩:=Qar U
 have hg:=fun (W:World) (hW:Ext w W)=>Qfi (fun b hb=>Nat.lt_of_lt_of_le (hF b hb) hW.size) (hT.agree (hW.agree hF)) ok hl x.c.k
 have hg':=fun (W:World) (hW:Ext w W)=>Qfi (fun b hb=>Nat.lt_of_lt_of_le (hF' b hb) hW.size) (hU.agree (hW.agree hF')) ok' hl' x.c.k
 unfold Qby at hg hg'
 obtain ⟨⟨k,had,was,has,is_⟩,a1,a2,a3,a4⟩:=x
 obtain ⟨h1,h2,h3,h4⟩:=hx
 dsimp only at hg hg' h1 h2 h3 h4 hor hk ⊢
 rw [←h1,←h2] at hg
 rw [←h3,←h4] at hg'
 simp only [Qaz,hp] at hg
 simp only [Qaz,hq] at hg'
 simp only [Qaz,hp,hq]
 have hz1:had=false→was=zeroV:=fun h=>by rw [h2];rw [h1] at h;cases hh:QaC (Qak T) k with | none=>rfl | some v=>rw [hh] at h;cases h
 have hz2:has=false→is_=zeroV:=fun h=>by rw [h4];rw [h3] at h;cases hh:QaC (Qak U) k with | none=>rfl | some v=>rw [hh] at h;cases h
 have HG:=Lib.hid hg
 have HG':=Lib.hid hg'
 have HZ1:=Lib.hid hz1
 have HZ2:=Lib.hid hz2
 clear hT hU hF hF' ok ok' hl hl' hg hg' h1 h2 h3 h4 hz1 hz2 hp hq
 cases had
 ·cases has
  ·rcases hor with h | h <;> cases h
  ·obtain rfl:=HZ1.out rfl
   go_enter Tryz.func49,Tryz.ntmps49
   go_wp2_with fail
   generalize hW0:World.alloc (World.alloc (World.alloc (World.alloc (World.alloc _ _) _) _) _) _=W0
   obtain ⟨hx0,hz0,-,-,hb2,hb3,hb4⟩:=Qc8 w _ _ _ _ _ _ _ _ _ _ W0 hW0
   clear hW0
   have hzl:w.heap.size+5≤W0.heap.size:=by omega
   clear hz0
   have HB4:=Lib.hid (show Blk W0 (w.heap.size+1+1+1+1) 54 #[.string k,.bool false,.int .i64 0,.bool false,.int .i64 0,.string ⟨#[]⟩,.slice none 0 0,.slice none 0 0,.bool true,.int .i64 0,.bool false,.int .i64 0,.string ⟨#[]⟩,.slice none 0 0,.slice none 0 0] from hb4)
   have HB3:=Lib.hid (show Blk W0 (w.heap.size+1+1+1) 54 _ from hb3)
   have HB2:=Lib.hid hb2
   have HX:=Lib.hid hx0
   clear hx0 hb2 hb3 hb4
   refine (HG'.out W0 HX.out).mono ?_
   rintro e w3 ⟨sl',so',rfl,hx3,hrv3⟩
   have hz3:=hx3.size
   have hb43:Blk w3 (w.heap.size+1+1+1+1) 54 #[.string k,.bool false,.int .i64 0,.bool false,.int .i64 0,.string ⟨#[]⟩,.slice none 0 0,.slice none 0 0,.bool true,.int .i64 0,.bool false,.int .i64 0,.string ⟨#[]⟩,.slice none 0 0,.slice none 0 0]:=HB4.out.ext hx3
   have hb33:=HB3.out.ext hx3
   have q0:w3.cell? ⟨w.heap.size+1+1+1+1,0,none⟩=some (.string k):=hb43.cell 0
   have q1:w3.cell? ⟨w.heap.size+1+1+1+1,1,none⟩=some (.bool false):=hb43.cell 1
   have q2:w3.cell? ⟨w.heap.size+1+1+1+1,2,none⟩=some (.int .i64 0):=hb43.cell 2
   have q3:w3.cell? ⟨w.heap.size+1+1+1+1,3,none⟩=some (.bool false):=hb43.cell 3
   have q4:w3.cell? ⟨w.heap.size+1+1+1+1,4,none⟩=some (.int .i64 0):=hb43.cell 4
   have q5:w3.cell? ⟨w.heap.size+1+1+1+1,5,none⟩=some (.string ⟨#[]⟩):=hb43.cell 5
   have q6:w3.cell? ⟨w.heap.size+1+1+1+1,6,none⟩=some (.slice none 0 0):=hb43.cell 6
   have q7:w3.cell? ⟨w.heap.size+1+1+1+1,7,none⟩=some (.slice none 0 0):=hb43.cell 7
   have q8:w3.cell? ⟨w.heap.size+1+1+1+1,8,none⟩=some (.bool true):=hb43.cell 8
   have q9:w3.cell? ⟨w.heap.size+1+1+1+1,9,none⟩=some (.int .i64 0):=hb43.cell 9
   have q10:w3.cell? ⟨w.heap.size+1+1+1+1,10,none⟩=some (.bool false):=hb43.cell 10
   have q11:w3.cell? ⟨w.heap.size+1+1+1+1,11,none⟩=some (.int .i64 0):=hb43.cell 11
   have q12:w3.cell? ⟨w.heap.size+1+1+1+1,12,none⟩=some (.string ⟨#[]⟩):=hb43.cell 12
   have q13:w3.cell? ⟨w.heap.size+1+1+1+1,13,none⟩=some (.slice none 0 0):=hb43.cell 13
   have q14:w3.cell? ⟨w.heap.size+1+1+1+1,14,none⟩=some (.slice none 0 0):=hb43.cell 14
   have f4:=fun i=>hb43.frozen i
   have l4:=hb43.lt
   have f3:∀ i,w3.frozen? ⟨w.heap.size+1+1+1,i,none⟩=false:=fun i=>hb33.frozen i
   have l3:w.heap.size+1+1+1<w3.heap.size:=hb33.lt
   have HX3:=Lib.hid (HX.out.trans hx3)
   have HRV3:=Lib.hid (hrv3.mono (G:=In (w.heap.size+5) w3.heap.size) fun b hb=>⟨by have:=hb.1;omega,hb.2⟩)
   have HB43:=Lib.hid hb43
   have HB33:=Lib.hid hb33
   clear hx3 hrv3 hb43 hb33
   go_upto_region 6 with (fail)
   clear q0 q1 q2 q3 q4 q5 q6 q7 q8 q9 q10 q11 q12 q13 q14 f4 f3 l3 l4
   generalize hW4:((((((w3.setCell ⟨w.heap.size+1+1+1+1,9,none⟩ (.int .i64 is_.kind)).setCell ⟨w.heap.size+1+1+1+1,10,none⟩ (.bool is_.b)).setCell ⟨w.heap.size+1+1+1+1,11,none⟩ (.int .i64 is_.i)).setCell ⟨w.heap.size+1+1+1+1,12,none⟩ (.string is_.t)).setCell ⟨w.heap.size+1+1+1+1,13,none⟩ (.slice sl'.a is_.l.length sl'.c)).setCell ⟨w.heap.size+1+1+1+1,14,none⟩ (.slice so'.a is_.ok.length so'.c))=W4
   have hst4:St (fun b=>b=w.heap.size+1+1+1+1) w3 W4:=by rw [←hW4];exact (((((((St.refl (fun b=>b=w.heap.size+1+1+1+1) w3).set (p:=⟨w.heap.size+1+1+1+1,9,none⟩) (.inr rfl) _).set (p:=⟨w.heap.size+1+1+1+1,10,none⟩) (.inr rfl) _).set (p:=⟨w.heap.size+1+1+1+1,11,none⟩) (.inr rfl) _).set (p:=⟨w.heap.size+1+1+1+1,12,none⟩) (.inr rfl) _).set (p:=⟨w.heap.size+1+1+1+1,13,none⟩) (.inr rfl) _).set (p:=⟨w.heap.size+1+1+1+1,14,none⟩) (.inr rfl) _)
   have hz4:=hst4.size
   have HB44:=Lib.hid (show Blk W4 (w.heap.size+1+1+1+1) 54 #[.string k,.bool false,.int .i64 0,.bool false,.int .i64 0,.string ⟨#[]⟩,.slice none 0 0,.slice none 0 0,.bool true,.int .i64 is_.kind,.bool is_.b,.int .i64 is_.i,.string is_.t,.slice sl'.a is_.l.length sl'.c,.slice so'.a is_.ok.length so'.c] by rw [←hW4];exact ((((((HB43.out.QaQ 9 (.int .i64 is_.kind)).QaQ 10 (.bool is_.b)).QaQ 11 (.int .i64 is_.i)).QaQ 12 (.string is_.t)).QaQ 13 (.slice sl'.a is_.l.length sl'.c)).QaQ 14 (.slice so'.a is_.ok.length so'.c)))
   have HB34:=Lib.hid (hst4.blk HB33.out (show ¬w.heap.size+1+1+1=w.heap.size+1+1+1+1 by omega))
   have HX4:=Lib.hid (HX3.out.step hst4 fun b e=>by omega)
   have HRV34:=Lib.hid ((HRV3.out.agree (hst4.agree.mono fun b hb=>⟨hb.2,fun e=>by have:=hb.1;omega⟩)).mono (G:=In (w.heap.size+5) W4.heap.size) fun b hb=>⟨hb.1,Nat.lt_of_lt_of_le hb.2 hz4⟩)
   have q0:W4.cell? ⟨w.heap.size+1+1+1+1,0,none⟩=some (.string k):=HB44.out.cell 0
   have q1:W4.cell? ⟨w.heap.size+1+1+1+1,1,none⟩=some (.bool false):=HB44.out.cell 1
   have q2:W4.cell? ⟨w.heap.size+1+1+1+1,2,none⟩=some (.int .i64 0):=HB44.out.cell 2
   have q3:W4.cell? ⟨w.heap.size+1+1+1+1,3,none⟩=some (.bool false):=HB44.out.cell 3
   have q4:W4.cell? ⟨w.heap.size+1+1+1+1,4,none⟩=some (.int .i64 0):=HB44.out.cell 4
   have q5:W4.cell? ⟨w.heap.size+1+1+1+1,5,none⟩=some (.string ⟨#[]⟩):=HB44.out.cell 5
   have q6:W4.cell? ⟨w.heap.size+1+1+1+1,6,none⟩=some (.slice none 0 0):=HB44.out.cell 6
   have q7:W4.cell? ⟨w.heap.size+1+1+1+1,7,none⟩=some (.slice none 0 0):=HB44.out.cell 7
   have q8:W4.cell? ⟨w.heap.size+1+1+1+1,8,none⟩=some (.bool true):=HB44.out.cell 8
   have q9:W4.cell? ⟨w.heap.size+1+1+1+1,9,none⟩=some (.int .i64 is_.kind):=HB44.out.cell 9
   have q10:W4.cell? ⟨w.heap.size+1+1+1+1,10,none⟩=some (.bool is_.b):=HB44.out.cell 10
   have q11:W4.cell? ⟨w.heap.size+1+1+1+1,11,none⟩=some (.int .i64 is_.i):=HB44.out.cell 11
   have q12:W4.cell? ⟨w.heap.size+1+1+1+1,12,none⟩=some (.string is_.t):=HB44.out.cell 12
   have q13:W4.cell? ⟨w.heap.size+1+1+1+1,13,none⟩=some (.slice sl'.a is_.l.length sl'.c):=HB44.out.cell 13
   have q14:W4.cell? ⟨w.heap.size+1+1+1+1,14,none⟩=some (.slice so'.a is_.ok.length so'.c):=HB44.out.cell 14
   have f4:=fun i=>HB44.out.frozen i
   have l4:=HB44.out.lt
   have f3:∀ i,W4.frozen? ⟨w.heap.size+1+1+1,i,none⟩=false:=fun i=>HB34.out.frozen i
   have l3:w.heap.size+1+1+1<W4.heap.size:=HB34.out.lt
   have p0:W4.cell? ⟨w.heap.size+1+1+1,0,none⟩=some (.string ⟨#[]⟩):=HB34.out.cell 0
   have p1:W4.cell? ⟨w.heap.size+1+1+1,1,none⟩=some (.bool false):=HB34.out.cell 1
   have p2:W4.cell? ⟨w.heap.size+1+1+1,2,none⟩=some (.int .i64 0):=HB34.out.cell 2
   have p3:W4.cell? ⟨w.heap.size+1+1+1,3,none⟩=some (.bool false):=HB34.out.cell 3
   have p4:W4.cell? ⟨w.heap.size+1+1+1,4,none⟩=some (.int .i64 0):=HB34.out.cell 4
   have p5:W4.cell? ⟨w.heap.size+1+1+1,5,none⟩=some (.string ⟨#[]⟩):=HB34.out.cell 5
   have p6:W4.cell? ⟨w.heap.size+1+1+1,6,none⟩=some (.slice none 0 0):=HB34.out.cell 6
   have p7:W4.cell? ⟨w.heap.size+1+1+1,7,none⟩=some (.slice none 0 0):=HB34.out.cell 7
   have p8:W4.cell? ⟨w.heap.size+1+1+1,8,none⟩=some (.bool false):=HB34.out.cell 8
   have p9:W4.cell? ⟨w.heap.size+1+1+1,9,none⟩=some (.int .i64 0):=HB34.out.cell 9
   have p10:W4.cell? ⟨w.heap.size+1+1+1,10,none⟩=some (.bool false):=HB34.out.cell 10
   have p11:W4.cell? ⟨w.heap.size+1+1+1,11,none⟩=some (.int .i64 0):=HB34.out.cell 11
   have p12:W4.cell? ⟨w.heap.size+1+1+1,12,none⟩=some (.string ⟨#[]⟩):=HB34.out.cell 12
   have p13:W4.cell? ⟨w.heap.size+1+1+1,13,none⟩=some (.slice none 0 0):=HB34.out.cell 13
   have p14:W4.cell? ⟨w.heap.size+1+1+1,14,none⟩=some (.slice none 0 0):=HB34.out.cell 14
   clear hW4 hst4
   go_wp2_with fail
   clear q0 q1 q2 q3 q4 q5 q6 q7 q8 q9 q10 q11 q12 q13 q14 p0 p1 p2 p3 p4 p5 p6 p7 p8 p9 p10 p11 p12 p13 p14 f4 f3 l3 l4
   generalize hW5:(((((((((((((((W4.setCell ⟨w.heap.size+1+1+1,0,none⟩ (.string k)).setCell ⟨w.heap.size+1+1+1,1,none⟩ (.bool false)).setCell ⟨w.heap.size+1+1+1,2,none⟩ (.int .i64 0)).setCell ⟨w.heap.size+1+1+1,3,none⟩ (.bool false)).setCell ⟨w.heap.size+1+1+1,4,none⟩ (.int .i64 0)).setCell ⟨w.heap.size+1+1+1,5,none⟩ (.string ⟨#[]⟩)).setCell ⟨w.heap.size+1+1+1,6,none⟩ (.slice none 0 0)).setCell ⟨w.heap.size+1+1+1,7,none⟩ (.slice none 0 0)).setCell ⟨w.heap.size+1+1+1,8,none⟩ (.bool true)).setCell ⟨w.heap.size+1+1+1,9,none⟩ (.int .i64 is_.kind)).setCell ⟨w.heap.size+1+1+1,10,none⟩ (.bool is_.b)).setCell ⟨w.heap.size+1+1+1,11,none⟩ (.int .i64 is_.i)).setCell ⟨w.heap.size+1+1+1,12,none⟩ (.string is_.t)).setCell ⟨w.heap.size+1+1+1,13,none⟩ (.slice sl'.a is_.l.length sl'.c)).setCell ⟨w.heap.size+1+1+1,14,none⟩ (.slice so'.a is_.ok.length so'.c))=W5
   have hb5:Blk W5 (w.heap.size+1+1+1) 54 #[.string k,.bool false,.int .i64 0,.bool false,.int .i64 0,.string ⟨#[]⟩,.slice none 0 0,.slice none 0 0,.bool true,.int .i64 is_.kind,.bool is_.b,.int .i64 is_.i,.string is_.t,.slice sl'.a is_.l.length sl'.c,.slice so'.a is_.ok.length so'.c]:=by rw [←hW5];exact Qj7 HB34.out
   have hst5:St (fun b=>b=w.heap.size+1+1+1) W4 W5:=by rw [←hW5];exact Qn1 (St.refl _ _) rfl
   have hx5:Ext w W5:=HX4.out.step hst5 fun b e=>by omega
   have hz5:=hst5.size
   clear hW5
   refine bodyPost_ret (Qfg rfl hb5) rfl ?_
   exact ⟨⟨⟨k,false,zeroV,true,is_⟩,Sl.none,Sl.none,sl',so'⟩,rfl,rfl,hx5,QdR _ _,(HRV34.out.agree (hst5.agree.mono fun b hb=>⟨hb.2,fun e=>by have:=hb.1;omega⟩)).mono (G:=In w.heap.size W5.heap.size) fun b hb=>⟨by have:=hb.1;omega,Nat.lt_of_lt_of_le hb.2 hz5⟩,hk⟩
 ·cases has
  ·obtain rfl:=HZ2.out rfl
   go_enter Tryz.func49,Tryz.ntmps49
   go_wp2_with fail
   generalize hW0:World.alloc (World.alloc (World.alloc (World.alloc (World.alloc _ _) _) _) _) _=W0
   obtain ⟨hx0,hz0,-,-,hb2,hb3,hb4⟩:=Qc8 w _ _ _ _ _ _ _ _ _ _ W0 hW0
   clear hW0
   have hzl:w.heap.size+5≤W0.heap.size:=by omega
   clear hz0
   have HB4:=Lib.hid (show Blk W0 (w.heap.size+1+1+1+1) 54 #[.string k,.bool true,.int .i64 0,.bool false,.int .i64 0,.string ⟨#[]⟩,.slice none 0 0,.slice none 0 0,.bool false,.int .i64 0,.bool false,.int .i64 0,.string ⟨#[]⟩,.slice none 0 0,.slice none 0 0] from hb4)
   have HB3:=Lib.hid (show Blk W0 (w.heap.size+1+1+1) 54 _ from hb3)
   have HB2:=Lib.hid hb2
   have HX:=Lib.hid hx0
   clear hx0 hb2 hb3 hb4
   refine (HG.out W0 HX.out).mono ?_
   rintro e w1 ⟨sl,so,rfl,hx1,hrv1⟩
   have hz1:=hx1.size
   have hb41:Blk w1 (w.heap.size+1+1+1+1) 54 #[.string k,.bool true,.int .i64 0,.bool false,.int .i64 0,.string ⟨#[]⟩,.slice none 0 0,.slice none 0 0,.bool false,.int .i64 0,.bool false,.int .i64 0,.string ⟨#[]⟩,.slice none 0 0,.slice none 0 0]:=HB4.out.ext hx1
   have hb31:=HB3.out.ext hx1
   have q0:w1.cell? ⟨w.heap.size+1+1+1+1,0,none⟩=some (.string k):=hb41.cell 0
   have q1:w1.cell? ⟨w.heap.size+1+1+1+1,1,none⟩=some (.bool true):=hb41.cell 1
   have q2:w1.cell? ⟨w.heap.size+1+1+1+1,2,none⟩=some (.int .i64 0):=hb41.cell 2
   have q3:w1.cell? ⟨w.heap.size+1+1+1+1,3,none⟩=some (.bool false):=hb41.cell 3
   have q4:w1.cell? ⟨w.heap.size+1+1+1+1,4,none⟩=some (.int .i64 0):=hb41.cell 4
   have q5:w1.cell? ⟨w.heap.size+1+1+1+1,5,none⟩=some (.string ⟨#[]⟩):=hb41.cell 5
   have q6:w1.cell? ⟨w.heap.size+1+1+1+1,6,none⟩=some (.slice none 0 0):=hb41.cell 6
   have q7:w1.cell? ⟨w.heap.size+1+1+1+1,7,none⟩=some (.slice none 0 0):=hb41.cell 7
   have q8:w1.cell? ⟨w.heap.size+1+1+1+1,8,none⟩=some (.bool false):=hb41.cell 8
   have q9:w1.cell? ⟨w.heap.size+1+1+1+1,9,none⟩=some (.int .i64 0):=hb41.cell 9
   have q10:w1.cell? ⟨w.heap.size+1+1+1+1,10,none⟩=some (.bool false):=hb41.cell 10
   have q11:w1.cell? ⟨w.heap.size+1+1+1+1,11,none⟩=some (.int .i64 0):=hb41.cell 11
   have q12:w1.cell? ⟨w.heap.size+1+1+1+1,12,none⟩=some (.string ⟨#[]⟩):=hb41.cell 12
   have q13:w1.cell? ⟨w.heap.size+1+1+1+1,13,none⟩=some (.slice none 0 0):=hb41.cell 13
   have q14:w1.cell? ⟨w.heap.size+1+1+1+1,14,none⟩=some (.slice none 0 0):=hb41.cell 14
   have HB2b:=Lib.hid (HB2.out.ext hx1)
   have hd1:w1.cell? ⟨w.heap.size+1+1,0,none⟩=some (.pointer q):=(HB2.out.ext hx1).cell 0
   have l2:w.heap.size+1+1<w1.heap.size:=(HB2.out.ext hx1).lt
   have f4:=fun i=>hb41.frozen i
   have l4:=hb41.lt
   have f3:∀ i,w1.frozen? ⟨w.heap.size+1+1+1,i,none⟩=false:=fun i=>hb31.frozen i
   have l3:w.heap.size+1+1+1<w1.heap.size:=hb31.lt
   have HX1:=Lib.hid (HX.out.trans hx1)
   have HRV1:=Lib.hid (hrv1.mono (G:=In (w.heap.size+5) w1.heap.size) fun b hb=>⟨by have:=hb.1;omega,hb.2⟩)
   have HB41:=Lib.hid hb41
   have HB31:=Lib.hid hb31
   clear hx1 hrv1 hb41 hb31
   go_upto_region 4 with (fail)
   clear q0 q1 q2 q3 q4 q5 q6 q7 q8 q9 q10 q11 q12 q13 q14 hd1 l2 f4 f3 l3 l4
   generalize hW2:((((((w1.setCell ⟨w.heap.size+1+1+1+1,2,none⟩ (.int .i64 was.kind)).setCell ⟨w.heap.size+1+1+1+1,3,none⟩ (.bool was.b)).setCell ⟨w.heap.size+1+1+1+1,4,none⟩ (.int .i64 was.i)).setCell ⟨w.heap.size+1+1+1+1,5,none⟩ (.string was.t)).setCell ⟨w.heap.size+1+1+1+1,6,none⟩ (.slice sl.a was.l.length sl.c)).setCell ⟨w.heap.size+1+1+1+1,7,none⟩ (.slice so.a was.ok.length so.c))=W2
   have hst2:St (fun b=>b=w.heap.size+1+1+1+1) w1 W2:=by rw [←hW2];exact (((((((St.refl (fun b=>b=w.heap.size+1+1+1+1) w1).set (p:=⟨w.heap.size+1+1+1+1,2,none⟩) (.inr rfl) _).set (p:=⟨w.heap.size+1+1+1+1,3,none⟩) (.inr rfl) _).set (p:=⟨w.heap.size+1+1+1+1,4,none⟩) (.inr rfl) _).set (p:=⟨w.heap.size+1+1+1+1,5,none⟩) (.inr rfl) _).set (p:=⟨w.heap.size+1+1+1+1,6,none⟩) (.inr rfl) _).set (p:=⟨w.heap.size+1+1+1+1,7,none⟩) (.inr rfl) _)
   have hz2:=hst2.size
   have HB42:=Lib.hid (show Blk W2 (w.heap.size+1+1+1+1) 54 #[.string k,.bool true,.int .i64 was.kind,.bool was.b,.int .i64 was.i,.string was.t,.slice sl.a was.l.length sl.c,.slice so.a was.ok.length so.c,.bool false,.int .i64 0,.bool false,.int .i64 0,.string ⟨#[]⟩,.slice none 0 0,.slice none 0 0] by rw [←hW2];exact ((((((HB41.out.QaQ 2 (.int .i64 was.kind)).QaQ 3 (.bool was.b)).QaQ 4 (.int .i64 was.i)).QaQ 5 (.string was.t)).QaQ 6 (.slice sl.a was.l.length sl.c)).QaQ 7 (.slice so.a was.ok.length so.c)))
   have HB32:=Lib.hid (hst2.blk HB31.out (show ¬w.heap.size+1+1+1=w.heap.size+1+1+1+1 by omega))
   have HX2:=Lib.hid (HX1.out.step hst2 fun b e=>by omega)
   have HRV12:=Lib.hid ((HRV1.out.agree (hst2.agree.mono fun b hb=>⟨hb.2,fun e=>by have:=hb.1;omega⟩)).mono (G:=In (w.heap.size+5) W2.heap.size) fun b hb=>⟨hb.1,Nat.lt_of_lt_of_le hb.2 hz2⟩)
   have hd1:W2.cell? ⟨w.heap.size+1+1,0,none⟩=some (.pointer q):=(hst2.blk HB2b.out (show ¬w.heap.size+1+1=w.heap.size+1+1+1+1 by omega)).cell 0
   have l2:w.heap.size+1+1<W2.heap.size:=(hst2.blk HB2b.out (show ¬w.heap.size+1+1=w.heap.size+1+1+1+1 by omega)).lt
   have q0:W2.cell? ⟨w.heap.size+1+1+1+1,0,none⟩=some (.string k):=HB42.out.cell 0
   have q1:W2.cell? ⟨w.heap.size+1+1+1+1,1,none⟩=some (.bool true):=HB42.out.cell 1
   have q2:W2.cell? ⟨w.heap.size+1+1+1+1,2,none⟩=some (.int .i64 was.kind):=HB42.out.cell 2
   have q3:W2.cell? ⟨w.heap.size+1+1+1+1,3,none⟩=some (.bool was.b):=HB42.out.cell 3
   have q4:W2.cell? ⟨w.heap.size+1+1+1+1,4,none⟩=some (.int .i64 was.i):=HB42.out.cell 4
   have q5:W2.cell? ⟨w.heap.size+1+1+1+1,5,none⟩=some (.string was.t):=HB42.out.cell 5
   have q6:W2.cell? ⟨w.heap.size+1+1+1+1,6,none⟩=some (.slice sl.a was.l.length sl.c):=HB42.out.cell 6
   have q7:W2.cell? ⟨w.heap.size+1+1+1+1,7,none⟩=some (.slice so.a was.ok.length so.c):=HB42.out.cell 7
   have q8:W2.cell? ⟨w.heap.size+1+1+1+1,8,none⟩=some (.bool false):=HB42.out.cell 8
   have q9:W2.cell? ⟨w.heap.size+1+1+1+1,9,none⟩=some (.int .i64 0):=HB42.out.cell 9
   have q10:W2.cell? ⟨w.heap.size+1+1+1+1,10,none⟩=some (.bool false):=HB42.out.cell 10
   have q11:W2.cell? ⟨w.heap.size+1+1+1+1,11,none⟩=some (.int .i64 0):=HB42.out.cell 11
   have q12:W2.cell? ⟨w.heap.size+1+1+1+1,12,none⟩=some (.string ⟨#[]⟩):=HB42.out.cell 12
   have q13:W2.cell? ⟨w.heap.size+1+1+1+1,13,none⟩=some (.slice none 0 0):=HB42.out.cell 13
   have q14:W2.cell? ⟨w.heap.size+1+1+1+1,14,none⟩=some (.slice none 0 0):=HB42.out.cell 14
   have f4:=fun i=>HB42.out.frozen i
   have l4:=HB42.out.lt
   have f3:∀ i,W2.frozen? ⟨w.heap.size+1+1+1,i,none⟩=false:=fun i=>HB32.out.frozen i
   have l3:w.heap.size+1+1+1<W2.heap.size:=HB32.out.lt
   have p0:W2.cell? ⟨w.heap.size+1+1+1,0,none⟩=some (.string ⟨#[]⟩):=HB32.out.cell 0
   have p1:W2.cell? ⟨w.heap.size+1+1+1,1,none⟩=some (.bool false):=HB32.out.cell 1
   have p2:W2.cell? ⟨w.heap.size+1+1+1,2,none⟩=some (.int .i64 0):=HB32.out.cell 2
   have p3:W2.cell? ⟨w.heap.size+1+1+1,3,none⟩=some (.bool false):=HB32.out.cell 3
   have p4:W2.cell? ⟨w.heap.size+1+1+1,4,none⟩=some (.int .i64 0):=HB32.out.cell 4
   have p5:W2.cell? ⟨w.heap.size+1+1+1,5,none⟩=some (.string ⟨#[]⟩):=HB32.out.cell 5
   have p6:W2.cell? ⟨w.heap.size+1+1+1,6,none⟩=some (.slice none 0 0):=HB32.out.cell 6
   have p7:W2.cell? ⟨w.heap.size+1+1+1,7,none⟩=some (.slice none 0 0):=HB32.out.cell 7
   have p8:W2.cell? ⟨w.heap.size+1+1+1,8,none⟩=some (.bool false):=HB32.out.cell 8
   have p9:W2.cell? ⟨w.heap.size+1+1+1,9,none⟩=some (.int .i64 0):=HB32.out.cell 9
   have p10:W2.cell? ⟨w.heap.size+1+1+1,10,none⟩=some (.bool false):=HB32.out.cell 10
   have p11:W2.cell? ⟨w.heap.size+1+1+1,11,none⟩=some (.int .i64 0):=HB32.out.cell 11
   have p12:W2.cell? ⟨w.heap.size+1+1+1,12,none⟩=some (.string ⟨#[]⟩):=HB32.out.cell 12
   have p13:W2.cell? ⟨w.heap.size+1+1+1,13,none⟩=some (.slice none 0 0):=HB32.out.cell 13
   have p14:W2.cell? ⟨w.heap.size+1+1+1,14,none⟩=some (.slice none 0 0):=HB32.out.cell 14
   clear hW2 hst2
   go_wp2_with fail
   clear q0 q1 q2 q3 q4 q5 q6 q7 q8 q9 q10 q11 q12 q13 q14 p0 p1 p2 p3 p4 p5 p6 p7 p8 p9 p10 p11 p12 p13 p14 f4 f3 l3 l4 hd1 l2
   generalize hW5:(((((((((((((((W2.setCell ⟨w.heap.size+1+1+1,0,none⟩ (.string k)).setCell ⟨w.heap.size+1+1+1,1,none⟩ (.bool true)).setCell ⟨w.heap.size+1+1+1,2,none⟩ (.int .i64 was.kind)).setCell ⟨w.heap.size+1+1+1,3,none⟩ (.bool was.b)).setCell ⟨w.heap.size+1+1+1,4,none⟩ (.int .i64 was.i)).setCell ⟨w.heap.size+1+1+1,5,none⟩ (.string was.t)).setCell ⟨w.heap.size+1+1+1,6,none⟩ (.slice sl.a was.l.length sl.c)).setCell ⟨w.heap.size+1+1+1,7,none⟩ (.slice so.a was.ok.length so.c)).setCell ⟨w.heap.size+1+1+1,8,none⟩ (.bool false)).setCell ⟨w.heap.size+1+1+1,9,none⟩ (.int .i64 0)).setCell ⟨w.heap.size+1+1+1,10,none⟩ (.bool false)).setCell ⟨w.heap.size+1+1+1,11,none⟩ (.int .i64 0)).setCell ⟨w.heap.size+1+1+1,12,none⟩ (.string ⟨#[]⟩)).setCell ⟨w.heap.size+1+1+1,13,none⟩ (.slice none 0 0)).setCell ⟨w.heap.size+1+1+1,14,none⟩ (.slice none 0 0))=W5
   have hb5:Blk W5 (w.heap.size+1+1+1) 54 #[.string k,.bool true,.int .i64 was.kind,.bool was.b,.int .i64 was.i,.string was.t,.slice sl.a was.l.length sl.c,.slice so.a was.ok.length so.c,.bool false,.int .i64 0,.bool false,.int .i64 0,.string ⟨#[]⟩,.slice none 0 0,.slice none 0 0]:=by rw [←hW5];exact Qj7 HB32.out
   have hst5:St (fun b=>b=w.heap.size+1+1+1) W2 W5:=by rw [←hW5];exact Qn1 (St.refl _ _) rfl
   have hx5:Ext w W5:=HX2.out.step hst5 fun b e=>by omega
   have hz5:=hst5.size
   clear hW5
   refine bodyPost_ret (Qfg rfl hb5) rfl ?_
   exact ⟨⟨⟨k,true,was,false,zeroV⟩,sl,so,Sl.none,Sl.none⟩,rfl,rfl,hx5,(HRV12.out.agree (hst5.agree.mono fun b hb=>⟨hb.2,fun e=>by have:=hb.1;omega⟩)).mono (G:=In w.heap.size W5.heap.size) fun b hb=>⟨by have:=hb.1;omega,Nat.lt_of_lt_of_le hb.2 hz5⟩,QdR _ _,hk⟩
  ·go_enter Tryz.func49,Tryz.ntmps49
   go_wp2_with fail
   generalize hW0:World.alloc (World.alloc (World.alloc (World.alloc (World.alloc _ _) _) _) _) _=W0
   obtain ⟨hx0,hz0,-,-,hb2,hb3,hb4⟩:=Qc8 w _ _ _ _ _ _ _ _ _ _ W0 hW0
   clear hW0
   have hzl:w.heap.size+5≤W0.heap.size:=by omega
   clear hz0
   have HB4:=Lib.hid (show Blk W0 (w.heap.size+1+1+1+1) 54 #[.string k,.bool true,.int .i64 0,.bool false,.int .i64 0,.string ⟨#[]⟩,.slice none 0 0,.slice none 0 0,.bool true,.int .i64 0,.bool false,.int .i64 0,.string ⟨#[]⟩,.slice none 0 0,.slice none 0 0] from hb4)
   have HB3:=Lib.hid (show Blk W0 (w.heap.size+1+1+1) 54 _ from hb3)
   have HB2:=Lib.hid hb2
   have HX:=Lib.hid hx0
   clear hx0 hb2 hb3 hb4
   refine (HG.out W0 HX.out).mono ?_
   rintro e w1 ⟨sl,so,rfl,hx1,hrv1⟩
   have hz1:=hx1.size
   have hb41:Blk w1 (w.heap.size+1+1+1+1) 54 #[.string k,.bool true,.int .i64 0,.bool false,.int .i64 0,.string ⟨#[]⟩,.slice none 0 0,.slice none 0 0,.bool true,.int .i64 0,.bool false,.int .i64 0,.string ⟨#[]⟩,.slice none 0 0,.slice none 0 0]:=HB4.out.ext hx1
   have hb31:=HB3.out.ext hx1
   have q0:w1.cell? ⟨w.heap.size+1+1+1+1,0,none⟩=some (.string k):=hb41.cell 0
   have q1:w1.cell? ⟨w.heap.size+1+1+1+1,1,none⟩=some (.bool true):=hb41.cell 1
   have q2:w1.cell? ⟨w.heap.size+1+1+1+1,2,none⟩=some (.int .i64 0):=hb41.cell 2
   have q3:w1.cell? ⟨w.heap.size+1+1+1+1,3,none⟩=some (.bool false):=hb41.cell 3
   have q4:w1.cell? ⟨w.heap.size+1+1+1+1,4,none⟩=some (.int .i64 0):=hb41.cell 4
   have q5:w1.cell? ⟨w.heap.size+1+1+1+1,5,none⟩=some (.string ⟨#[]⟩):=hb41.cell 5
   have q6:w1.cell? ⟨w.heap.size+1+1+1+1,6,none⟩=some (.slice none 0 0):=hb41.cell 6
   have q7:w1.cell? ⟨w.heap.size+1+1+1+1,7,none⟩=some (.slice none 0 0):=hb41.cell 7
   have q8:w1.cell? ⟨w.heap.size+1+1+1+1,8,none⟩=some (.bool true):=hb41.cell 8
   have q9:w1.cell? ⟨w.heap.size+1+1+1+1,9,none⟩=some (.int .i64 0):=hb41.cell 9
   have q10:w1.cell? ⟨w.heap.size+1+1+1+1,10,none⟩=some (.bool false):=hb41.cell 10
   have q11:w1.cell? ⟨w.heap.size+1+1+1+1,11,none⟩=some (.int .i64 0):=hb41.cell 11
   have q12:w1.cell? ⟨w.heap.size+1+1+1+1,12,none⟩=some (.string ⟨#[]⟩):=hb41.cell 12
   have q13:w1.cell? ⟨w.heap.size+1+1+1+1,13,none⟩=some (.slice none 0 0):=hb41.cell 13
   have q14:w1.cell? ⟨w.heap.size+1+1+1+1,14,none⟩=some (.slice none 0 0):=hb41.cell 14
   have HB2b:=Lib.hid (HB2.out.ext hx1)
   have hd1:w1.cell? ⟨w.heap.size+1+1,0,none⟩=some (.pointer q):=(HB2.out.ext hx1).cell 0
   have l2:w.heap.size+1+1<w1.heap.size:=(HB2.out.ext hx1).lt
   have f4:=fun i=>hb41.frozen i
   have l4:=hb41.lt
   have f3:∀ i,w1.frozen? ⟨w.heap.size+1+1+1,i,none⟩=false:=fun i=>hb31.frozen i
   have l3:w.heap.size+1+1+1<w1.heap.size:=hb31.lt
   have HX1:=Lib.hid (HX.out.trans hx1)
   have HRV1:=Lib.hid (hrv1.mono (G:=In (w.heap.size+5) w1.heap.size) fun b hb=>⟨by have:=hb.1;omega,hb.2⟩)
   have HB41:=Lib.hid hb41
   have HB31:=Lib.hid hb31
   clear hx1 hrv1 hb41 hb31
   go_upto_region 4 with (fail)
   clear q0 q1 q2 q3 q4 q5 q6 q7 q8 q9 q10 q11 q12 q13 q14 hd1 l2 f4 f3 l3 l4
   generalize hW2:((((((w1.setCell ⟨w.heap.size+1+1+1+1,2,none⟩ (.int .i64 was.kind)).setCell ⟨w.heap.size+1+1+1+1,3,none⟩ (.bool was.b)).setCell ⟨w.heap.size+1+1+1+1,4,none⟩ (.int .i64 was.i)).setCell ⟨w.heap.size+1+1+1+1,5,none⟩ (.string was.t)).setCell ⟨w.heap.size+1+1+1+1,6,none⟩ (.slice sl.a was.l.length sl.c)).setCell ⟨w.heap.size+1+1+1+1,7,none⟩ (.slice so.a was.ok.length so.c))=W2
   have hst2:St (fun b=>b=w.heap.size+1+1+1+1) w1 W2:=by rw [←hW2];exact (((((((St.refl (fun b=>b=w.heap.size+1+1+1+1) w1).set (p:=⟨w.heap.size+1+1+1+1,2,none⟩) (.inr rfl) _).set (p:=⟨w.heap.size+1+1+1+1,3,none⟩) (.inr rfl) _).set (p:=⟨w.heap.size+1+1+1+1,4,none⟩) (.inr rfl) _).set (p:=⟨w.heap.size+1+1+1+1,5,none⟩) (.inr rfl) _).set (p:=⟨w.heap.size+1+1+1+1,6,none⟩) (.inr rfl) _).set (p:=⟨w.heap.size+1+1+1+1,7,none⟩) (.inr rfl) _)
   have hz2:=hst2.size
   have HB42:=Lib.hid (show Blk W2 (w.heap.size+1+1+1+1) 54 #[.string k,.bool true,.int .i64 was.kind,.bool was.b,.int .i64 was.i,.string was.t,.slice sl.a was.l.length sl.c,.slice so.a was.ok.length so.c,.bool true,.int .i64 0,.bool false,.int .i64 0,.string ⟨#[]⟩,.slice none 0 0,.slice none 0 0] by rw [←hW2];exact ((((((HB41.out.QaQ 2 (.int .i64 was.kind)).QaQ 3 (.bool was.b)).QaQ 4 (.int .i64 was.i)).QaQ 5 (.string was.t)).QaQ 6 (.slice sl.a was.l.length sl.c)).QaQ 7 (.slice so.a was.ok.length so.c)))
   have HB32:=Lib.hid (hst2.blk HB31.out (show ¬w.heap.size+1+1+1=w.heap.size+1+1+1+1 by omega))
   have HX2:=Lib.hid (HX1.out.step hst2 fun b e=>by omega)
   have HRV12:=Lib.hid ((HRV1.out.agree (hst2.agree.mono fun b hb=>⟨hb.2,fun e=>by have:=hb.1;omega⟩)).mono (G:=In (w.heap.size+5) W2.heap.size) fun b hb=>⟨hb.1,Nat.lt_of_lt_of_le hb.2 hz2⟩)
   have hd1:W2.cell? ⟨w.heap.size+1+1,0,none⟩=some (.pointer q):=(hst2.blk HB2b.out (show ¬w.heap.size+1+1=w.heap.size+1+1+1+1 by omega)).cell 0
   have l2:w.heap.size+1+1<W2.heap.size:=(hst2.blk HB2b.out (show ¬w.heap.size+1+1=w.heap.size+1+1+1+1 by omega)).lt
   have q0:W2.cell? ⟨w.heap.size+1+1+1+1,0,none⟩=some (.string k):=HB42.out.cell 0
   have q1:W2.cell? ⟨w.heap.size+1+1+1+1,1,none⟩=some (.bool true):=HB42.out.cell 1
   have q2:W2.cell? ⟨w.heap.size+1+1+1+1,2,none⟩=some (.int .i64 was.kind):=HB42.out.cell 2
   have q3:W2.cell? ⟨w.heap.size+1+1+1+1,3,none⟩=some (.bool was.b):=HB42.out.cell 3
   have q4:W2.cell? ⟨w.heap.size+1+1+1+1,4,none⟩=some (.int .i64 was.i):=HB42.out.cell 4
   have q5:W2.cell? ⟨w.heap.size+1+1+1+1,5,none⟩=some (.string was.t):=HB42.out.cell 5
   have q6:W2.cell? ⟨w.heap.size+1+1+1+1,6,none⟩=some (.slice sl.a was.l.length sl.c):=HB42.out.cell 6
   have q7:W2.cell? ⟨w.heap.size+1+1+1+1,7,none⟩=some (.slice so.a was.ok.length so.c):=HB42.out.cell 7
   have q8:W2.cell? ⟨w.heap.size+1+1+1+1,8,none⟩=some (.bool true):=HB42.out.cell 8
   have q9:W2.cell? ⟨w.heap.size+1+1+1+1,9,none⟩=some (.int .i64 0):=HB42.out.cell 9
   have q10:W2.cell? ⟨w.heap.size+1+1+1+1,10,none⟩=some (.bool false):=HB42.out.cell 10
   have q11:W2.cell? ⟨w.heap.size+1+1+1+1,11,none⟩=some (.int .i64 0):=HB42.out.cell 11
   have q12:W2.cell? ⟨w.heap.size+1+1+1+1,12,none⟩=some (.string ⟨#[]⟩):=HB42.out.cell 12
   have q13:W2.cell? ⟨w.heap.size+1+1+1+1,13,none⟩=some (.slice none 0 0):=HB42.out.cell 13
   have q14:W2.cell? ⟨w.heap.size+1+1+1+1,14,none⟩=some (.slice none 0 0):=HB42.out.cell 14
   have f4:=fun i=>HB42.out.frozen i
   have l4:=HB42.out.lt
   have f3:∀ i,W2.frozen? ⟨w.heap.size+1+1+1,i,none⟩=false:=fun i=>HB32.out.frozen i
   have l3:w.heap.size+1+1+1<W2.heap.size:=HB32.out.lt
   have p0:W2.cell? ⟨w.heap.size+1+1+1,0,none⟩=some (.string ⟨#[]⟩):=HB32.out.cell 0
   have p1:W2.cell? ⟨w.heap.size+1+1+1,1,none⟩=some (.bool false):=HB32.out.cell 1
   have p2:W2.cell? ⟨w.heap.size+1+1+1,2,none⟩=some (.int .i64 0):=HB32.out.cell 2
   have p3:W2.cell? ⟨w.heap.size+1+1+1,3,none⟩=some (.bool false):=HB32.out.cell 3
   have p4:W2.cell? ⟨w.heap.size+1+1+1,4,none⟩=some (.int .i64 0):=HB32.out.cell 4
   have p5:W2.cell? ⟨w.heap.size+1+1+1,5,none⟩=some (.string ⟨#[]⟩):=HB32.out.cell 5
   have p6:W2.cell? ⟨w.heap.size+1+1+1,6,none⟩=some (.slice none 0 0):=HB32.out.cell 6
   have p7:W2.cell? ⟨w.heap.size+1+1+1,7,none⟩=some (.slice none 0 0):=HB32.out.cell 7
   have p8:W2.cell? ⟨w.heap.size+1+1+1,8,none⟩=some (.bool false):=HB32.out.cell 8
   have p9:W2.cell? ⟨w.heap.size+1+1+1,9,none⟩=some (.int .i64 0):=HB32.out.cell 9
   have p10:W2.cell? ⟨w.heap.size+1+1+1,10,none⟩=some (.bool false):=HB32.out.cell 10
   have p11:W2.cell? ⟨w.heap.size+1+1+1,11,none⟩=some (.int .i64 0):=HB32.out.cell 11
   have p12:W2.cell? ⟨w.heap.size+1+1+1,12,none⟩=some (.string ⟨#[]⟩):=HB32.out.cell 12
   have p13:W2.cell? ⟨w.heap.size+1+1+1,13,none⟩=some (.slice none 0 0):=HB32.out.cell 13
   have p14:W2.cell? ⟨w.heap.size+1+1+1,14,none⟩=some (.slice none 0 0):=HB32.out.cell 14
   clear hW2 hst2
   go_wp2_with fail
   clear q0 q1 q2 q3 q4 q5 q6 q7 q8 q9 q10 q11 q12 q13 q14 p0 p1 p2 p3 p4 p5 p6 p7 p8 p9 p10 p11 p12 p13 p14 f4 f3 l3 l4 hd1 l2
   refine (HG'.out W2 HX2.out).mono ?_
   rintro e w3 ⟨sl',so',rfl,hx3,hrv3⟩
   have hz3:=hx3.size
   have hb43:Blk w3 (w.heap.size+1+1+1+1) 54 #[.string k,.bool true,.int .i64 was.kind,.bool was.b,.int .i64 was.i,.string was.t,.slice sl.a was.l.length sl.c,.slice so.a was.ok.length so.c,.bool true,.int .i64 0,.bool false,.int .i64 0,.string ⟨#[]⟩,.slice none 0 0,.slice none 0 0]:=HB42.out.ext hx3
   have hb33:=HB32.out.ext hx3
   have q0:w3.cell? ⟨w.heap.size+1+1+1+1,0,none⟩=some (.string k):=hb43.cell 0
   have q1:w3.cell? ⟨w.heap.size+1+1+1+1,1,none⟩=some (.bool true):=hb43.cell 1
   have q2:w3.cell? ⟨w.heap.size+1+1+1+1,2,none⟩=some (.int .i64 was.kind):=hb43.cell 2
   have q3:w3.cell? ⟨w.heap.size+1+1+1+1,3,none⟩=some (.bool was.b):=hb43.cell 3
   have q4:w3.cell? ⟨w.heap.size+1+1+1+1,4,none⟩=some (.int .i64 was.i):=hb43.cell 4
   have q5:w3.cell? ⟨w.heap.size+1+1+1+1,5,none⟩=some (.string was.t):=hb43.cell 5
   have q6:w3.cell? ⟨w.heap.size+1+1+1+1,6,none⟩=some (.slice sl.a was.l.length sl.c):=hb43.cell 6
   have q7:w3.cell? ⟨w.heap.size+1+1+1+1,7,none⟩=some (.slice so.a was.ok.length so.c):=hb43.cell 7
   have q8:w3.cell? ⟨w.heap.size+1+1+1+1,8,none⟩=some (.bool true):=hb43.cell 8
   have q9:w3.cell? ⟨w.heap.size+1+1+1+1,9,none⟩=some (.int .i64 0):=hb43.cell 9
   have q10:w3.cell? ⟨w.heap.size+1+1+1+1,10,none⟩=some (.bool false):=hb43.cell 10
   have q11:w3.cell? ⟨w.heap.size+1+1+1+1,11,none⟩=some (.int .i64 0):=hb43.cell 11
   have q12:w3.cell? ⟨w.heap.size+1+1+1+1,12,none⟩=some (.string ⟨#[]⟩):=hb43.cell 12
   have q13:w3.cell? ⟨w.heap.size+1+1+1+1,13,none⟩=some (.slice none 0 0):=hb43.cell 13
   have q14:w3.cell? ⟨w.heap.size+1+1+1+1,14,none⟩=some (.slice none 0 0):=hb43.cell 14
   have f4:=fun i=>hb43.frozen i
   have l4:=hb43.lt
   have f3:∀ i,w3.frozen? ⟨w.heap.size+1+1+1,i,none⟩=false:=fun i=>hb33.frozen i
   have l3:w.heap.size+1+1+1<w3.heap.size:=hb33.lt
   have HX3:=Lib.hid (HX2.out.trans hx3)
   have HRV3:=Lib.hid (hrv3.mono (G:=In (w.heap.size+5) w3.heap.size) fun b hb=>⟨by have:=hb.1;omega,hb.2⟩)
   have HB43:=Lib.hid hb43
   have HB33:=Lib.hid hb33
   have HRV123:=Lib.hid ((HRV12.out.agree (hx3.agree fun b hb=>hb.2)).mono (G:=In (w.heap.size+5) w3.heap.size) fun b hb=>⟨hb.1,Nat.lt_of_lt_of_le hb.2 hz3⟩)
   clear hx3 hrv3 hb43 hb33
   go_upto_region 6 with (fail)
   clear q0 q1 q2 q3 q4 q5 q6 q7 q8 q9 q10 q11 q12 q13 q14 f4 f3 l3 l4
   generalize hW4:((((((w3.setCell ⟨w.heap.size+1+1+1+1,9,none⟩ (.int .i64 is_.kind)).setCell ⟨w.heap.size+1+1+1+1,10,none⟩ (.bool is_.b)).setCell ⟨w.heap.size+1+1+1+1,11,none⟩ (.int .i64 is_.i)).setCell ⟨w.heap.size+1+1+1+1,12,none⟩ (.string is_.t)).setCell ⟨w.heap.size+1+1+1+1,13,none⟩ (.slice sl'.a is_.l.length sl'.c)).setCell ⟨w.heap.size+1+1+1+1,14,none⟩ (.slice so'.a is_.ok.length so'.c))=W4
   have hst4:St (fun b=>b=w.heap.size+1+1+1+1) w3 W4:=by rw [←hW4];exact (((((((St.refl (fun b=>b=w.heap.size+1+1+1+1) w3).set (p:=⟨w.heap.size+1+1+1+1,9,none⟩) (.inr rfl) _).set (p:=⟨w.heap.size+1+1+1+1,10,none⟩) (.inr rfl) _).set (p:=⟨w.heap.size+1+1+1+1,11,none⟩) (.inr rfl) _).set (p:=⟨w.heap.size+1+1+1+1,12,none⟩) (.inr rfl) _).set (p:=⟨w.heap.size+1+1+1+1,13,none⟩) (.inr rfl) _).set (p:=⟨w.heap.size+1+1+1+1,14,none⟩) (.inr rfl) _)
   have hz4:=hst4.size
   have HB44:=Lib.hid (show Blk W4 (w.heap.size+1+1+1+1) 54 #[.string k,.bool true,.int .i64 was.kind,.bool was.b,.int .i64 was.i,.string was.t,.slice sl.a was.l.length sl.c,.slice so.a was.ok.length so.c,.bool true,.int .i64 is_.kind,.bool is_.b,.int .i64 is_.i,.string is_.t,.slice sl'.a is_.l.length sl'.c,.slice so'.a is_.ok.length so'.c] by rw [←hW4];exact ((((((HB43.out.QaQ 9 (.int .i64 is_.kind)).QaQ 10 (.bool is_.b)).QaQ 11 (.int .i64 is_.i)).QaQ 12 (.string is_.t)).QaQ 13 (.slice sl'.a is_.l.length sl'.c)).QaQ 14 (.slice so'.a is_.ok.length so'.c)))
   have HB34:=Lib.hid (hst4.blk HB33.out (show ¬w.heap.size+1+1+1=w.heap.size+1+1+1+1 by omega))
   have HX4:=Lib.hid (HX3.out.step hst4 fun b e=>by omega)
   have HRV1234:=Lib.hid ((HRV123.out.agree (hst4.agree.mono fun b hb=>⟨hb.2,fun e=>by have:=hb.1;omega⟩)).mono (G:=In (w.heap.size+5) W4.heap.size) fun b hb=>⟨hb.1,Nat.lt_of_lt_of_le hb.2 hz4⟩)
   have HRV34:=Lib.hid ((HRV3.out.agree (hst4.agree.mono fun b hb=>⟨hb.2,fun e=>by have:=hb.1;omega⟩)).mono (G:=In (w.heap.size+5) W4.heap.size) fun b hb=>⟨hb.1,Nat.lt_of_lt_of_le hb.2 hz4⟩)
   have q0:W4.cell? ⟨w.heap.size+1+1+1+1,0,none⟩=some (.string k):=HB44.out.cell 0
   have q1:W4.cell? ⟨w.heap.size+1+1+1+1,1,none⟩=some (.bool true):=HB44.out.cell 1
   have q2:W4.cell? ⟨w.heap.size+1+1+1+1,2,none⟩=some (.int .i64 was.kind):=HB44.out.cell 2
   have q3:W4.cell? ⟨w.heap.size+1+1+1+1,3,none⟩=some (.bool was.b):=HB44.out.cell 3
   have q4:W4.cell? ⟨w.heap.size+1+1+1+1,4,none⟩=some (.int .i64 was.i):=HB44.out.cell 4
   have q5:W4.cell? ⟨w.heap.size+1+1+1+1,5,none⟩=some (.string was.t):=HB44.out.cell 5
   have q6:W4.cell? ⟨w.heap.size+1+1+1+1,6,none⟩=some (.slice sl.a was.l.length sl.c):=HB44.out.cell 6
   have q7:W4.cell? ⟨w.heap.size+1+1+1+1,7,none⟩=some (.slice so.a was.ok.length so.c):=HB44.out.cell 7
   have q8:W4.cell? ⟨w.heap.size+1+1+1+1,8,none⟩=some (.bool true):=HB44.out.cell 8
   have q9:W4.cell? ⟨w.heap.size+1+1+1+1,9,none⟩=some (.int .i64 is_.kind):=HB44.out.cell 9
   have q10:W4.cell? ⟨w.heap.size+1+1+1+1,10,none⟩=some (.bool is_.b):=HB44.out.cell 10
   have q11:W4.cell? ⟨w.heap.size+1+1+1+1,11,none⟩=some (.int .i64 is_.i):=HB44.out.cell 11
   have q12:W4.cell? ⟨w.heap.size+1+1+1+1,12,none⟩=some (.string is_.t):=HB44.out.cell 12
   have q13:W4.cell? ⟨w.heap.size+1+1+1+1,13,none⟩=some (.slice sl'.a is_.l.length sl'.c):=HB44.out.cell 13
   have q14:W4.cell? ⟨w.heap.size+1+1+1+1,14,none⟩=some (.slice so'.a is_.ok.length so'.c):=HB44.out.cell 14
   have f4:=fun i=>HB44.out.frozen i
   have l4:=HB44.out.lt
   have f3:∀ i,W4.frozen? ⟨w.heap.size+1+1+1,i,none⟩=false:=fun i=>HB34.out.frozen i
   have l3:w.heap.size+1+1+1<W4.heap.size:=HB34.out.lt
   have p0:W4.cell? ⟨w.heap.size+1+1+1,0,none⟩=some (.string ⟨#[]⟩):=HB34.out.cell 0
   have p1:W4.cell? ⟨w.heap.size+1+1+1,1,none⟩=some (.bool false):=HB34.out.cell 1
   have p2:W4.cell? ⟨w.heap.size+1+1+1,2,none⟩=some (.int .i64 0):=HB34.out.cell 2
   have p3:W4.cell? ⟨w.heap.size+1+1+1,3,none⟩=some (.bool false):=HB34.out.cell 3
   have p4:W4.cell? ⟨w.heap.size+1+1+1,4,none⟩=some (.int .i64 0):=HB34.out.cell 4
   have p5:W4.cell? ⟨w.heap.size+1+1+1,5,none⟩=some (.string ⟨#[]⟩):=HB34.out.cell 5
   have p6:W4.cell? ⟨w.heap.size+1+1+1,6,none⟩=some (.slice none 0 0):=HB34.out.cell 6
   have p7:W4.cell? ⟨w.heap.size+1+1+1,7,none⟩=some (.slice none 0 0):=HB34.out.cell 7
   have p8:W4.cell? ⟨w.heap.size+1+1+1,8,none⟩=some (.bool false):=HB34.out.cell 8
   have p9:W4.cell? ⟨w.heap.size+1+1+1,9,none⟩=some (.int .i64 0):=HB34.out.cell 9
   have p10:W4.cell? ⟨w.heap.size+1+1+1,10,none⟩=some (.bool false):=HB34.out.cell 10
   have p11:W4.cell? ⟨w.heap.size+1+1+1,11,none⟩=some (.int .i64 0):=HB34.out.cell 11
   have p12:W4.cell? ⟨w.heap.size+1+1+1,12,none⟩=some (.string ⟨#[]⟩):=HB34.out.cell 12
   have p13:W4.cell? ⟨w.heap.size+1+1+1,13,none⟩=some (.slice none 0 0):=HB34.out.cell 13
   have p14:W4.cell? ⟨w.heap.size+1+1+1,14,none⟩=some (.slice none 0 0):=HB34.out.cell 14
   clear hW4 hst4
   go_wp2_with fail
   clear q0 q1 q2 q3 q4 q5 q6 q7 q8 q9 q10 q11 q12 q13 q14 p0 p1 p2 p3 p4 p5 p6 p7 p8 p9 p10 p11 p12 p13 p14 f4 f3 l3 l4
   generalize hW5:(((((((((((((((W4.setCell ⟨w.heap.size+1+1+1,0,none⟩ (.string k)).setCell ⟨w.heap.size+1+1+1,1,none⟩ (.bool true)).setCell ⟨w.heap.size+1+1+1,2,none⟩ (.int .i64 was.kind)).setCell ⟨w.heap.size+1+1+1,3,none⟩ (.bool was.b)).setCell ⟨w.heap.size+1+1+1,4,none⟩ (.int .i64 was.i)).setCell ⟨w.heap.size+1+1+1,5,none⟩ (.string was.t)).setCell ⟨w.heap.size+1+1+1,6,none⟩ (.slice sl.a was.l.length sl.c)).setCell ⟨w.heap.size+1+1+1,7,none⟩ (.slice so.a was.ok.length so.c)).setCell ⟨w.heap.size+1+1+1,8,none⟩ (.bool true)).setCell ⟨w.heap.size+1+1+1,9,none⟩ (.int .i64 is_.kind)).setCell ⟨w.heap.size+1+1+1,10,none⟩ (.bool is_.b)).setCell ⟨w.heap.size+1+1+1,11,none⟩ (.int .i64 is_.i)).setCell ⟨w.heap.size+1+1+1,12,none⟩ (.string is_.t)).setCell ⟨w.heap.size+1+1+1,13,none⟩ (.slice sl'.a is_.l.length sl'.c)).setCell ⟨w.heap.size+1+1+1,14,none⟩ (.slice so'.a is_.ok.length so'.c))=W5
   have hb5:Blk W5 (w.heap.size+1+1+1) 54 #[.string k,.bool true,.int .i64 was.kind,.bool was.b,.int .i64 was.i,.string was.t,.slice sl.a was.l.length sl.c,.slice so.a was.ok.length so.c,.bool true,.int .i64 is_.kind,.bool is_.b,.int .i64 is_.i,.string is_.t,.slice sl'.a is_.l.length sl'.c,.slice so'.a is_.ok.length so'.c]:=by rw [←hW5];exact Qj7 HB34.out
   have hst5:St (fun b=>b=w.heap.size+1+1+1) W4 W5:=by rw [←hW5];exact Qn1 (St.refl _ _) rfl
   have hx5:Ext w W5:=HX4.out.step hst5 fun b e=>by omega
   have hz5:=hst5.size
   clear hW5
   refine bodyPost_ret (Qfg rfl hb5) rfl ?_
   exact ⟨⟨⟨k,true,was,true,is_⟩,sl,so,sl',so'⟩,rfl,rfl,hx5,(HRV1234.out.agree (hst5.agree.mono fun b hb=>⟨hb.2,fun e=>by have:=hb.1;omega⟩)).mono (G:=In w.heap.size W5.heap.size) fun b hb=>⟨by have:=hb.1;omega,Nat.lt_of_lt_of_le hb.2 hz5⟩,(HRV34.out.agree (hst5.agree.mono fun b hb=>⟨hb.2,fun e=>by have:=hb.1;omega⟩)).mono (G:=In w.heap.size W5.heap.size) fun b hb=>⟨by have:=hb.1;omega,Nat.lt_of_lt_of_le hb.2 hz5⟩,hk⟩
end Go.Proofs.YtohajcflklejjaaGreat
namespace Go.Proofs.YtohajcflklejjaaGreat
open Go.RowKit Go.Shelf Go.Maps
set_option linter.unusedVariables false
set_option linter.unusedSimpArgs false
attribute [local go_sem] Oper.semAt_some
theorem QmC (w:World):(zeroValue 107).run Tryz.prog w=.ok (.agg #[.string ByteArray.empty,.string ByteArray.empty,.bool false]) w:=by kernel_rfl
theorem Qm4 {W:World} {b g i:Nat} {L:Qbx} {p:Nat × Iv} (hown:W.ownsMap Tryz.prog 34 ivR b g (mapD L)) (hp:L.find? (fun p=>p.1 == i)=some p) (hi:i≤18446744073709551615) :
  (Instr.lookup 35 (.map (some b)) (.int .u64 (i:Int)) false).run Tryz.prog W=.ok p.2.v W:=by
 obtain ⟨v,ps,hrun,hv⟩:=hown.lookup Qhw Tryz.underlying35 (QmC W) (QkG ⟨ByteArray.empty,ByteArray.empty,false⟩) (QnX i hi)
 rw [Qj2 hp] at hv
 rw [hrun,QkF hv]
theorem Qm3 {w:World} {mb:Option Nat} {g:Nat} {L:Qbx} (h:Qc7 w mb g L):(Builtin.len_ #[35] 3 #[.map mb]).run Tryz.prog w=.ok (.int .i64 L.length) w:=by
 cases mb with
 | none=>
   have:L=[]:=h
   subst this
   simp [Builtin.len_,run_underlying Tryz.underlying35,goInt,Result.andThen]
 | some b=>rw [World.ownsMap.len h Tryz.underlying35,Qle]
theorem QmW {L:Qbx} {k:Nat} {p:Nat × Iv} (hr:L.Pairwise (fun p q=>p.1<q.1)) (hp:L[k]? = some p):L.find? (fun q=>q.1 == p.1)=some p:=by
 obtain ⟨h1,h2⟩:=List.getElem?_eq_some_iff.1 hp
 rw [List.find?_eq_some_iff_getElem]
 refine ⟨by simp,k,h1,h2,fun j hj=>?_⟩
 have:=List.pairwise_iff_getElem.1 hr j k (by omega) h1 hj
 rw [h2] at this
 simp;omega
def Qgb (L:Qbx) (w:World) (e:Ending) (w':World):Prop:=∃ s:Sl,e=.returned (.slice s.a L.length s.c)∧w'.ownsRow w.heap.size 34 1 (.slice s.a L.length s.c) L.length (L.map fun p=>Qc4 p.1)∧Ext w w'
def QjO (R:Nat) (U:RT) (g:Nat) (mb:Option Nat) (L:Qbx) (l:List Chg) (w:World) (e:Ending) (w':World):Prop:=
 ∃ (s:Sl) (evs:List EV),e=.returned (.slice s.a evs.length s.c)∧evs.map EV.p=evL L l∧Qbf w' R U g mb L∧St (fun b=>b=R) w w'∧EVS w' (In w.heap.size w'.heap.size) s evs
theorem Qbf.head {w:World} {R:Nat} {T:RT} {g:Nat} {mb:Option Nat} {L:Qbx} (h:Qbf w R T g mb L) (U:RT):Qbf (w.setCell ⟨R,0,none⟩ (QaE U)) R U g mb L:=
 ⟨h.blk.QaQ 0 _,h.map.heap fun b hb=>Below.heap_setCell _ _ _ _ (fun e=>h.ne (by rw [hb];exact congrArg some (by first | exact e | exact e.symm))),h.ne,h.up,h.rise,h.short,h.small⟩
theorem QfT {F:Fence} {n:Nat} {P:Program} {fn:Func} {tmps:Array Value} {Rr:Ending→World→Prop}:∀ (ds:List Nat) (W:World),ds.Nodup→(∀ d∈ds,W.heap[d]? = some (.deferred (some [])))→
  (∀ W',St (fun b=>b∈ds) W W'→LeavesInM F n P fn tmps Rr [] .returning W')→LeavesInM F n P fn tmps Rr (ds.map fun d=>{ target:=.collected d,args:=#[] }) .returning W
 | [],W,_,_,h=>h W (St.refl _ W)
 | d :: ds,W,hn,hd,h=>by
   have hn':=List.nodup_cons.1 hn
   have hd0:=hd d (List.mem_cons_self ..)
   have hk:St (fun b=>b=d) W (W.putObj d (.deferred none)):=St.put hd0 rfl rfl
   refine ⟨by simp,.inl ⟨d,_,rfl,run_takeDeferred hd0,QfT ds _ hn'.2 (fun d' h'=>?_) fun W' hW'=>h W' ?_⟩⟩
   ·exact (World.putObj_heap_other (fun e=>hn'.1 (by first | exact e▸h' | exact e.symm▸h'))).trans (hd d' (List.mem_cons_of_mem _ h'))
   ·exact (hk.mono fun b _ e=>by rw [e];exact List.mem_cons_self ..).trans (hW'.mono fun b _ e=>List.mem_cons_of_mem _ e)
structure Qn7 (lo B:Nat) (w5:World) (L:Qbx) (l:List Chg) (k:Nat) (ds:List Nat) (W:World):Prop where
 co:∃ N C evs,Qc5 lo B w5 N evs C W∧evs.map EV.p=evL (L.take k) l∧(∀ d∈ds,N d∧W.heap[d]? = some (.deferred (some [])))
 nd:ds.Nodup
 kl:k≤L.length
theorem Qce {w:World} {R:Nat} {T U:RT} {g:Nat} {mb:Option Nat} {L:Qbx} {F F':Nat→Prop} (h:Qbf w R T g mb L) (hT:IsT w F T) (hU:IsT w F' U) (hF:∀ b,F b→b<w.heap.size∧¬QfE R mb b) (hF':∀ b,F' b→b<w.heap.size∧¬QfE R mb b) (ok:OkR T) (ok':OkR U)
  (hl:(Qak T).length≤500000) (hl':(Qak U).length≤500000) (hn:L.length≤100) (hlv:∀ W,Qbf W R U g mb L→0<L.length→Calls Tryz.prog 23 #[.pointer (some ⟨R,0,none⟩)] W (Qgb L W)) :
  Calls Tryz.prog 18 #[.pointer (some ⟨R,0,none⟩),Qaz U] w (QjO R U g mb L (chg (Qak T) (Qak U)) w):=by
 obtain ⟨i0,hi,hz0,hz1,hz2⟩:=info_parts Tryz.QkA
 obtain ⟨p,hp⟩:=Qar T
 obtain ⟨q,hq⟩:=Qar U
 have hlR:=h.blk.lt
 have r0:w.cell? ⟨R,0,none⟩=some (.pointer p):=by rw [←hp];exact h.blk.cell 0
 have f0:=h.blk.frozen 0
 have HREG:=Lib.hid h
 have HT:=Lib.hid hT
 have HU:=Lib.hid hU
 have HF:=Lib.hid hF
 have HF':=Lib.hid hF'
 have HOK:=Lib.hid ok
 have HOK':=Lib.hid ok'
 have HLV:=Lib.hid hlv
 have HP:=Lib.hid hp
 have HQ:=Lib.hid hq
 rw [Qaz,hq]
 clear h hT hU hF hF' ok ok' hlv hp hq
 refine (callsIn_wide (n:=6)).1 ?_
 refine callsIn_of_wp_marks Tryz.func18 rfl trivial ?_ rfl
 simp only [Tryz.ntmps18,List.size_toArray,List.length_cons,List.length_nil,Nat.reduceAdd,Nat.reduceSub,Array.replicate_succ,Array.replicate_zero,List.push_toArray,List.append_toArray,List.nil_append,List.cons_append]
 gi_upto_region 5 with (fail)
 generalize hW0:World.alloc (World.alloc _ _) _=W0
 have hst0:St (fun b=>b=R) w W0:=by rw [←hW0];exact ((((St.refl (fun b=>b=R) w).set (p:=⟨R,0,none⟩) (.inr rfl) _).ext ((Ext.refl _).alloc _ _)).ext ((Ext.refl _).alloc _ _))
 have hreg0:Qbf W0 R U g mb L:=by rw [←hW0,←HQ.out];exact ((HREG.out.head U).ext ((Ext.refl _).alloc _ _)).ext ((Ext.refl _).alloc _ _)
 have hz0:W0.heap.size=w.heap.size+2:=by rw [←hW0];simp
 have hbh:Blk W0 w.heap.size 33 #[.pointer q]:=by
  rw [←hW0]
  have:=Blk.new (w.setCell ⟨R,0,none⟩ (.pointer q)) 33 #[.pointer q]
  rw [World.size_setCell] at this
  exact this.ext ((Ext.refl _).alloc _ _)
 have hbw:Blk W0 (w.heap.size+1) 33 #[.pointer p]:=by
  rw [←hW0]
  have:=Blk.new ((w.setCell ⟨R,0,none⟩ (.pointer q)).alloc (.cells #[.pointer q] 33)) 33 #[.pointer p]
  rw [World.size_alloc,World.size_setCell] at this
  exact this
 clear hW0 r0 f0
 have hT0:IsT W0 F T:=HT.out.agree (hst0.agree.mono fun b hb=>⟨(HF.out b hb).1,fun e=>(HF.out b hb).2 (.inl e)⟩)
 have hU0:IsT W0 F' U:=HU.out.agree (hst0.agree.mono fun b hb=>⟨(HF'.out b hb).1,fun e=>(HF'.out b hb).2 (.inl e)⟩)
 have hch:=QhI hT0 hU0 (fun b hb=>by have:=(HF.out b hb).1;omega) (fun b hb=>by have:=(HF'.out b hb).1;omega) HOK.out HOK'.out hl hl'
 rw [Qaz,Qaz,HP.out,HQ.out] at hch
 have r2:W0.cell? ⟨R,2,none⟩=some (.map mb):=hreg0.blk.cell 2
 have t3:W0.cell? ⟨w.heap.size,0,none⟩=some (.pointer q):=hbh.cell 0
 have t5:W0.cell? ⟨w.heap.size+1,0,none⟩=some (.pointer p):=hbw.cell 0
 have l3:=hbh.lt
 have l5:=hbw.lt
 have lR:=hreg0.blk.lt
 have hlen:=Qm3 hreg0.map
 obtain ⟨ch,hche⟩:∃ ch,chg (Qak T) (Qak U)=ch:=⟨_,rfl⟩
 have hcl:ch.length≤1000000:=by rw [←hche];have:=QeO (Qak T) (Qak U);omega
 rw [hche] at hch ⊢
 have HCE:=Lib.hid hche
 have HCH:=Lib.hid hch
 have HREG0:=Lib.hid hreg0
 have HST0:=Lib.hid hst0
 have HT0:=Lib.hid hT0
 have HU0:=Lib.hid hU0
 have HBH:=Lib.hid hbh
 have HBW:=Lib.hid hbw
 have HZ0:=Lib.hid hz0
 clear hche hch hreg0 hst0 hT0 hU0 hbh hbw hz0 HT HU HREG
 by_cases hL0:L.length=0
 ·have g1:((L.length:Int) == 0)=true:=by simp [hL0]
  have HNIL:=Lib.hid (List.eq_nil_of_length_eq_zero hL0)
  clear hL0
  gi_wp2_with fail
  refine ⟨.slice none 0 0,by simp [results,Tryz.f18,go_sem],⟨Sl.none,[],rfl,by rw [HNIL.out];rfl,HREG0.out,HST0.out,EVS.nil _ _⟩⟩
 ·have g1:((L.length:Int) == 0)=false:=beq_eq_false_iff_ne.2 (by omega)
  gi_wp2_with fail
  refine ⟨trivial,?_⟩
  refine (callsIn_wide.2 HCH.out).mono ?_
  rintro e w1 ⟨s,xs,rfl,hxs,hx1,hcs⟩
  have HX1:=Lib.hid hx1
  have HXS:=Lib.hid hxs
  have HCS:=Lib.hid hcs
  have hs1:=hx1.size
  by_cases hx0:xs.length=0
  ·have g2:((xs.length:Int) == 0)=true:=by simp [hx0]
   have HNIL:=Lib.hid (List.eq_nil_of_length_eq_zero hx0)
   clear hx0 hx1 hxs hcs r2 t3 t5 hlen
   gi_wp2_with fail
   have HE:=Lib.hid (show ([]:List EV).map EV.p=evL L ch by rw [←HXS.out,HNIL.out];exact (QmU L).symm)
   refine ⟨.slice none 0 0,by simp [results,Tryz.f18,go_sem],⟨Sl.none,[],rfl,by rw [HCE.out];exact HE.out,HREG0.out.ext HX1.out,HST0.out.ext HX1.out,EVS.nil _ _⟩⟩
  ·have g2:((xs.length:Int) == 0)=false:=beq_eq_false_iff_ne.2 (by omega)
   clear hx1 hxs hcs r2 t3 t5 hlen
   gi_wp2_with fail
   have hxa:Ext w1 (w1.alloc (.cells #[.slice none 0 0] 48)):=(Ext.refl _).alloc _ _
   have hba:=Blk.new w1 48 #[.slice none 0 0]
   have hza:(w1.alloc (.cells #[.slice none 0 0] 48)).heap.size=w1.heap.size+1:=by simp
   generalize w1.alloc (.cells #[.slice none 0 0] 48)=wa at *
   refine ⟨trivial,?_⟩
   refine (callsIn_wide.2 (HLV.out _ (HREG0.out.ext (HX1.out.trans hxa)) (by omega))).mono ?_
   rintro e w5 ⟨s5,rfl,hrow5,hx5⟩
   have HX5:=Lib.hid (HX1.out.trans (hxa.trans hx5))
   have HB5:=Lib.hid (hba.ext hx5)
   have HROW5:=Lib.hid hrow5
   have hz15:w1.heap.size<w5.heap.size:=by have:=hx5.size;omega
   have HREG5:=Lib.hid (HREG0.out.ext HX5.out)
   have hxa':=hxa
   clear hxa hba hrow5
   gi_wp2_with fail
   -- the loop over the subscriptions
   have hmapL:(L.map fun p=>Qc4 p.1)=(L.map (·.1)).map Qc4:=by rw [List.map_map];rfl
   obtain ⟨gI,hsa5,hgI,hcI,hrowI⟩:=Qde (s:=s5) (xs:=L.map (·.1)) (by rw [List.length_map,←hmapL];exact HROW5.out) (by rw [List.length_map];omega)
   obtain ⟨s5a,s5c⟩:=s5
   dsimp only at hsa5 hcI hrowI
   subst hsa5
   have hRB:∀ b,QfE R mb b→b<w1.heap.size:=fun b hb=>by
    rcases hb with rfl | rfl
    ·omega
    ·exact Nat.lt_of_lt_of_le HREG0.out.map.lt hs1
   have hgl:=hrowI.lt
   have hle5:L.length≤s5c:=by have:=hrowI.le;simpa using this
   have HRI:=Lib.hid hrowI
   have HRB:=Lib.hid hRB
   have hz5':=hx5.size
   have HX15:=Lib.hid (hxa'.trans hx5)
   clear hrowI hRB hx5 hmapL
   refine wpIn_loop_ghost_k (fun n a W=>∃ (k:Nat) (ds:List Nat) (v9 v37 v38 v39 v40 v41 v42 v43 v44 v45 v46 v47 v58:Value),n=L.length - k∧Hid (Qn7 w5.heap.size w1.heap.size w5 L ch k ds W)∧k≤L.length∧a=Act.mk #[Value.pointer (some ⟨R,0,none⟩),Value.agg #[Value.pointer q],undef,
     Value.pointer (some ⟨w.heap.size,0,none⟩),Value.slice none 0 0,Value.pointer (some ⟨w.heap.size+1,0,none⟩),Value.slice s.a xs.length s.c,Value.pointer (some ⟨w1.heap.size,0,none⟩),undef,v9,undef,
     Value.pointer (some ⟨R,0,none⟩),Value.bool false,Value.pointer (some ⟨R,0,none⟩),Value.pointer (some ⟨R,0,none⟩),Value.pointer (some ⟨R,0,none⟩),Value.agg #[Value.pointer p],
     Value.pointer (some ⟨R,0,none⟩),Value.agg #[Value.pointer q],Value.pointer (some ⟨R,0,none⟩),Value.pointer (some ⟨R,0,none⟩),Value.pointer (some ⟨R,0,none⟩),Value.pointer (some ⟨R,0,none⟩),
     Value.pointer (some ⟨R,2,none⟩),Value.map mb,Value.int IntKind.i64 L.length,Value.bool false,Value.agg #[Value.pointer p],Value.agg #[Value.pointer q],Value.slice s.a xs.length s.c,
     Value.slice s.a xs.length s.c,Value.int IntKind.i64 xs.length,Value.bool false,Value.pointer (some ⟨R,0,none⟩),Value.slice (some ⟨gI,0,none⟩) L.length s5c,Value.int IntKind.i64 L.length,Value.int IntKind.i64 k,
     v37,v38,v39,v40,v41,v42,v43,v44,v45,v46,v47,undef,undef,undef,undef,undef,undef,undef,undef,undef,undef,v58,undef] (ds.map fun d=>({ target:=.collected d,args:=#[] }:Deferred))) L.length
    ⟨0,[],_,_,_,_,_,_,_,_,_,_,_,_,_,rfl,Lib.hid ⟨⟨_,_,[],Qc5.start HB5.out (Nat.le_refl _),rfl,fun d hd=>(by cases hd)⟩,List.nodup_nil,Nat.zero_le _⟩,Nat.zero_le _,rfl⟩ ?_
   intro gn ga wr hinv J K hJ hK
   obtain ⟨k,ds,v9,v37,v38,v39,v40,v41,v42,v43,v44,v45,v46,v47,v58,rfl,HO,hkl,rfl⟩:=hinv
   by_cases hk:k<L.length
   ·obtain ⟨⟨id,iv⟩,hpk⟩:∃ pk,L[k]? = some pk:=⟨_,List.getElem?_eq_getElem hk⟩
    obtain ⟨⟨N,C0,evs,hco,hmap,hds⟩,hnd,-⟩:=HO.out
    have hst5:St (fun b=>b=w1.heap.size) w5 wr:=hco.st
    have hszr:=hst5.size
    have hBgI:¬gI=w1.heap.size:=by omega
    have cI:wr.cell? ⟨gI,k,none⟩=some (.int .u64 (id:Int)):=by
     have:=HRI.out.cell (j:=k) (by simpa using hk)
     rw [(hst5.cell hgl hBgI),this]
     have hk':(L.map (·.1))[k]? = some id:=by rw [List.getElem?_map,hpk];rfl
     simp only [List.getElem!_toArray]
     rw [List.getElem!_eq_getElem?_getD,hk'];rfl
    have hregr:Qbf wr R U g mb L:=HREG5.out.sb hst5.sb fun b hb e=>by have:=HRB.out b hb;omega
    have lgI:gI<wr.heap.size:=by omega
    have r2:wr.cell? ⟨R,2,none⟩=some (.map mb):=hregr.blk.cell 2
    have lRr:=hregr.blk.lt
    have hid:id≤4611686018427387904:=Nat.le_trans (hregr.up (id,iv) (List.mem_of_getElem? hpk)).2 hregr.small
    obtain ⟨bm,rfl⟩:∃ b,mb=some b:=by
     cases mb with
     | none=>have:L=[]:=hregr.map;subst this;simp at hk
     | some b=>exact ⟨b,rfl⟩
    have hown:wr.ownsMap Tryz.prog 34 ivR bm g (mapD L):=hregr.map
    have hfind:=QmW hregr.rise hpk
    dsimp only at hfind
    have hx6:Ext wr (wr.alloc (.cells #[.int .u64 (id:Int)] 34)):=(Ext.refl _).alloc _ _
    have hb6:=Blk.new wr 34 #[.int .u64 (id:Int)]
    have hz6:(wr.alloc (.cells #[.int .u64 (id:Int)] 34)).heap.size=wr.heap.size+1:=by simp
    have hk0:(0:Int)≤(k:Int):=by omega
    have hkL:(k:Int)<(L.length:Int):=by omega
    have HCO:=Lib.hid hco
    have HMAP:=Lib.hid hmap
    have HDS:=Lib.hid hds
    have HND:=Lib.hid hnd
    have HST5:=Lib.hid hst5
    have HPK:=Lib.hid hpk
    clear hco hmap hds hnd hst5 hpk HO
    gi_wp2_with fail
    generalize wr.alloc (.cells #[.int .u64 (id:Int)] 34)=W6 at *
    have HSS:=Lib.hid (show ∀ W,Ext W6 W→W.cell? ⟨R,2,none⟩=some (.map (some bm))∧W.cell? ⟨wr.heap.size,0,none⟩=some (.int .u64 (id:Int))∧(Instr.lookup 35 (.map (some bm)) (.int .u64 (id:Int)) false).run Tryz.prog W=.ok iv.v W from
     fun W hW=>⟨((hx6.trans hW).cell lRr).trans r2,(hb6.ext hW).cell 0,Qm4 (p:=(id,iv)) (QaO hown ((hx6.trans hW).heap hown.lt)) hfind (by omega)⟩)
    have HX6:=Lib.hid hx6
    have HB6:=Lib.hid hb6
    have lb6:=hb6.lt
    clear cI r2 hown hfind hx6 hb6 hregr
    refine Qf8 (wpIn_wide.2 ?_)
    refine wp_region_held_drew (S:=(fun w'=>Ext W6 w')) (by kernel_rfl) (((Ext.refl W6).drew)) (fun hHeld=>?_)
    refine Qad 0 (some 40) ?_ HSS hHeld ?_ ?_
    rotate_left
    focus (intro w hSc;go_simp;first | done | with_reducible rfl)
    refine Qad 1 (some 41) ?_ HSS hHeld ?_ ?_
    rotate_left
    focus (intro w hSc;go_simp;first | done | with_reducible rfl)
    refine Qad 2 (some 42) ?_ HSS hHeld ?_ ?_
    rotate_left
    focus (intro w hSc;go_simp;first | done | with_reducible rfl)
    refine Qad 3 (some 43) ?_ HSS hHeld ?_ ?_
    rotate_left
    focus (intro w hSc;go_simp;first | done | with_reducible rfl)
    refine Qad 4 (some 44) ?_ HSS hHeld ?_ ?_
    rotate_left
    focus (intro w hSc;go_simp;first | done | with_reducible rfl)
    refine Qad 5 (some 45) ?_ HSS hHeld ?_ ?_
    rotate_left
    focus (intro w hSc;go_simp;first | done | with_reducible rfl)
    refine Qad 6 (some 46) ?_ HSS hHeld ?_ ?_
    rotate_left
    focus (intro w hSc;go_simp;first | done | with_reducible rfl)
    refine Qaa (i:=7) (by kernel_rfl) rfl (by rfl) (fun K hK=>?_)
    go_simp
    (refine (Qmm _ s.a xs.length s.c iv).mono ?_;rintro e w2 ⟨rfl,hx2,hbs1,hbs2⟩)
    refine hK.out _ _ (hHeld.trans hx2) (fun hHeld=>?_)
    clear hK K
    try simp only [Act.put,List.setIfInBounds_toArray,List.set_cons_zero,List.set_cons_succ]
    refine wpAnyH_done (by kernel_rfl) ?_ _
    refine QiC ?_
    have hx26:=HX6.out.trans hHeld
    have hB6:Blk w2 wr.heap.size 34 #[.int .u64 (id:Int)]:=HB6.out.ext hHeld
    have hz26:=hHeld.size
    have hA12:∀ b,b<w1.heap.size→w2.heap[b]? = w1.heap[b]?:=fun b hb=>(hx26.heap (by omega)).trans ((HST5.out.block b (by omega) (by omega)).trans (HX15.out.heap hb))
    have hcs2:CS w2 (In W0.heap.size w1.heap.size) s xs:=HCS.out.Qnm fun b hb=>hA12 b hb.2
    have hrx:QmJ xs:=by
     have:=Qif HOK.out.sorted HOK'.out.sorted
     rw [HCE.out,←HXS.out] at this
     exact List.pairwise_map.1 this
    have hxl:xs.length≤1000000:=by
     have:=congrArg List.length HXS.out
     rw [List.length_map] at this
     omega
    have HSQ:=Lib.hid (Qmn (w0:=w2) hbs1 hbs2 hcs2 (fun b hb=>by have:=hb.2;omega) hxl (by omega) hrx)
    have hlb2:=hbs2.lt
    have hlb1:=hbs1.lt
    obtain ⟨s0,hC0,hblk0,hown0⟩:=HCO.out.ex
    have hC0l:∀ b,C0 b→b=w1.heap.size∨(w5.heap.size≤b∧b<wr.heap.size):=fun b hb=>by
     rw [hC0] at hb
     exact hb.imp (fun h=>h) fun h=>Qab hown0 h
    have HC0L:=Lib.hid hC0l
    have HCO2:=Lib.hid (HCO.out.more hx26 (fun b h=>.inl h) HCO.out.lt)
    have hev:evs.length≤100*1000000:=by
     have h1:=congrArg List.length HMAP.out
     have h2:=QhM ch (L.take k)
     rw [List.length_map] at h1
     rw [List.length_take] at h2
     have h3:min k L.length*ch.length≤100*1000000:=Nat.mul_le_mul (by omega) hcl
     omega
    have HX26:=Lib.hid hx26
    have HB62:=Lib.hid hB6
    have HA12:=Lib.hid hA12
    have hz6r:=hx26.size
    have hwz:W6.drew.heap.size=W6.heap.size:=rfl
    clear hHeld hbs1 hbs2 hcs2 hrx hx26 hB6 hA12 hC0l hC0 hblk0 hown0
    gi_wp2_with fail
    refine Qdf (gf:=69) (lb:=#[.pointer (some ⟨W6.heap.size,0,none⟩),.pointer (some ⟨W6.heap.size+1,0,none⟩)]) rfl (enters_of Tryz.func69 (by kernel_rfl) rfl) HSQ.out (Agree.refl _) (Nat.le_refl _)
     (fun b hb=>hb.elim (fun h=>by have:=h.2;omega) (fun h=>h.elim (fun h=>by omega) (fun h=>by omega))) (fun _=>rfl)
     (fun pre C W=>∃ ys:List EV,Qc5 w5.heap.size w1.heap.size w5 (fun b=>N b∨b=w2.heap.size∨b=w2.heap.size+1) ys C W∧ys.map EV.p=evs.map EV.p++pre.map (fun x=>(id,x.c))∧St C0 w2 W∧∀ b,C b→C0 b∨w2.heap.size+2≤b) (fun _ _ _=>False) C0
     (fun b hb=>by
       have h1:=HC0L.out b hb
       exact ⟨by omega,fun h=>by rcases h with h | h | h
                                 ·have:=h.2;omega
                                 ·omega
                                 ·omega⟩)
     (fun h k=>by obtain ⟨ys,h1,h2,h3,h4⟩:=h;exact ⟨ys,h1.turn k (fun b e=>.inr (.inr e)) (Nat.le_refl _),h2,h3.then k (fun i hi e=>by omega),h4⟩) (fun h k=>h)
     (fun W hW hz=>⟨evs,HCO2.out.more hW (fun b h=>h.elim .inl fun h=>.inr (by omega)) HCO2.out.lt,by simp,hW.st _,fun b hb=>.inl hb⟩) ?round ?done ?stop
    case stop=>
     rintro D c pre W hD hSp hX
     exact hX.elim
    case round=>
     rintro pre C x W0' W1' ⟨ys,hco,hmapy,hsty,hsub⟩ hlt hsz hnL hx01 hG
     have hco':=hco
     obtain ⟨⟨s9,rfl,hblk,hown⟩,-⟩:=hco'
     have hyl:ys.length=evs.length+pre.length:=by have:=congrArg List.length hmapy;simpa using this
     have hpl':pre.length<xs.length:=by
      have h1:=(List.getElem?_eq_some_iff.1 hG.at_).1
      have h2:=List.length_filter_le (fun x:CE=>Qca x.c.k iv.lo iv.hi iv.op) xs
      exact Nat.lt_of_lt_of_le h1 h2
     have hb3:=Blk.new W1' 54 x.cells
     have hx3:Ext W1' (W1'.alloc (.cells x.cells 54)):=(Ext.refl W1').alloc _ _
     have HB3:=Lib.hid hb3
     have HX3:=Lib.hid hx3
     have HI:=Lib.hid hco
     have HMAPY:=Lib.hid hmapy
     have HBLK:=Lib.hid hblk
     have HOWN:=Lib.hid hown
     have HX01:=Lib.hid hx01
     have HSTY:=Lib.hid hsty
     have HSUB:=Lib.hid hsub
     have HXM:=Lib.hid hG.mem
     have heyl:ys.length<101*1000000:=by omega
     clear hyl hb3 hx3 hblk hown hco hmapy hx01 hG hlt hsty hsub
     dsimp only [Qil]
     gi_wp2_with fail
     refine ⟨HX3.out,fun W3 k3=>?_⟩
     have hs1W:=HX01.out.size
     have h13:St (fun b=>b=w2.heap.size+1) W1' W3:=(HX3.out.st _).trans k3
     have h03:St (fun b=>b=w2.heap.size+1) W0' W3:=(HX01.out.st _).trans h13
     have hbv:=k3.blk HB3.out (by omega)
     have hrow0:∀ b,s9.row=some b→w5.heap.size≤b∧b<W0'.heap.size:=fun b hb=>Qab HOWN.out hb
     have hL3:=h03.blk HBLK.out (by omega)
     have cL:W3.cell? ⟨w1.heap.size,0,none⟩=some (.slice s9.a ys.length s9.c):=hL3.cell 0
     have fL:=hL3.frozen 0
     have lL:=hL3.lt
     have hs03:=h03.size
     have hs13:=h13.size
     have hst3:St (fun b=>C0 b∨b=w2.heap.size+1) w2 W3:=(HSTY.out.mono fun i _ hi=>.inl hi).trans (h03.mono fun i _ hi=>.inr hi)
     have hn3:∀ b,b<w1.heap.size→¬(C0 b∨b=w2.heap.size+1):=fun b hb e=>by
      rcases e with e | e
      ·have:=HC0L.out b e;omega
      ·omega
     have hA13:∀ b,b<w1.heap.size→W3.heap[b]? = w1.heap[b]?:=fun b hb=>(hst3.block b (by omega) (hn3 b hb)).trans (HA12.out b hb)
     have hbi:Blk W3 wr.heap.size 34 #[.int .u64 (id:Int)]:=hst3.blk HB62.out fun e=>by
      rcases e with e | e
      ·have:=HC0L.out _ e;omega
      ·omega
     have hbh:Blk W3 w.heap.size 33 #[.pointer q]:=(hA13 _ (by omega)).trans (HBH.out.ext HX1.out)
     have hbw:Blk W3 (w.heap.size+1) 33 #[.pointer p]:=(hA13 _ (by omega)).trans (HBW.out.ext HX1.out)
     have hAT:∀ W,Ext W3 W→∀ b,b<W0.heap.size→W.heap[b]? = W0.heap[b]?:=fun W hW b hb=>(hW.heap (by omega)).trans ((hA13 b (by omega)).trans (HX1.out.heap hb))
     have hmc:x.c∈chg (Qak T) (Qak U):=by rw [HCE.out,←HXS.out];exact List.mem_map_of_mem HXM.out
     have hag:∀ W,Ext W3 W→Calls Tryz.prog 49 #[x.agg,.agg #[.pointer p],.agg #[.pointer q]] W fun e w'=>∃ y:CE,e=.returned y.agg∧y.c=x.c∧Ext W w'∧CR w' (In W.heap.size w'.heap.size) y:=fun W hW=>by
      have hz:=hW.size
      have:=Qj0 (w:=W) (T:=T) (U:=U) (HT0.out.agree fun b hb=>hAT W hW b (by have:=(HF.out b hb).1;omega)) (HU0.out.agree fun b hb=>hAT W hW b (by have:=(HF'.out b hb).1;omega)) (fun b hb=>by have:=(HF.out b hb).1;omega) (fun b hb=>by have:=(HF'.out b hb).1;omega) HOK.out HOK'.out (by omega) (by omega)
       (Qkb HOK.out.sorted HOK'.out.sorted hmc) (Qnp HOK.out.sorted HOK'.out.sorted hmc) (HCS.out.vals x HXM.out).key
      rw [Qaz,Qaz,HP.out,HQ.out] at this
      exact this
     have HAG:=Lib.hid hag
     have HSA:=Lib.hid (show ∀ W,Ext W3 W→Qbh [W1'.heap.size,wr.heap.size,w.heap.size+1,w.heap.size] W3 W from fun W hW=>Qbh.QnD hW fun b hb=>by
      have h0:=hbv.lt
      have h1:=hbi.lt
      have h2:=hbw.lt
      have h3:=hbh.lt
      simp only [List.mem_cons,List.not_mem_nil,or_false] at hb
      rcases hb with rfl | rfl | rfl | rfl <;> assumption)
     have HSS:=Lib.hid (fun (w':World) (h:Qbh [W1'.heap.size,wr.heap.size,w.heap.size+1,w.heap.size] W3 w')=>(show _∧_ from QnH hbv hbi hbw hbh h))
     have H03:=Lib.hid h03
     have HOWN3:=Lib.hid (Qac HOWN.out h03.agree fun b hb=>⟨(hrow0 b hb).2,fun e=>by
      exact HI.out.dis b (.inr hb) (.inr (.inr e))⟩)
     have HL3:=Lib.hid hL3
     have hneL:s9.row≠some w1.heap.size:=fun e=>by have:=(hrow0 _ e).1;omega
     have hneS:∀ b∈[W1'.heap.size,wr.heap.size,w.heap.size+1,w.heap.size],s9.row≠some b:=fun b hb e=>by
      have h1:=hrow0 b e
      simp only [List.mem_cons,List.not_mem_nil,or_false] at hb
      rcases hb with rfl | rfl | rfl | rfl
      ·omega
      ·have h2:=HSUB.out _ (.inr e)
       rcases h2 with h2 | h2
       ·have:=HC0L.out _ h2;omega
       ·omega
      ·omega
      ·omega
     have hneB:∀ b∈[W1'.heap.size,wr.heap.size,w.heap.size+1,w.heap.size],¬b=w1.heap.size:=fun b hb=>by
      simp only [List.mem_cons,List.not_mem_nil,or_false] at hb
      rcases hb with rfl | rfl | rfl | rfl <;> omega
     have hltS:∀ W,Ext W3 W→∀ b∈[W1'.heap.size,wr.heap.size,w.heap.size+1,w.heap.size],b<W.heap.size:=fun W hW b hb=>by
      have hz:=hW.size
      have h0:=hbv.lt
      simp only [List.mem_cons,List.not_mem_nil,or_false] at hb
      rcases hb with rfl | rfl | rfl | rfl <;> omega
     have HNES:=Lib.hid hneS
     have HNEB:=Lib.hid hneB
     have HLTS:=Lib.hid hltS
     have h63:ys.length+1≤maxLen:=by unfold maxLen;omega
     have hby:(ys.length+1)*216≤140737488355328:=by omega
     clear k3 h03 h13 hbv hL3 hst3 hn3 hA13 hbi hbh hbw hAT hmc hag hneS hneB hltS
     gi_wp2_with fail
     refine QdH (f:=49) (enters_of Tryz.func49 (by kernel_rfl) rfl) (S:=(fun w'=>Qbh [W1'.heap.size,wr.heap.size,w.heap.size+1,w.heap.size] W3 w')) (by kernel_rfl) (by rintro ⟨a,w,h⟩;exact h) (by kernel_rfl) ((HSA.out _ ((Ext.refl W3).drew))) (fun hHeld=>?_)
     refine Qad 1 (some 50) ?_ HSS hHeld ?_ ?_
     rotate_left
     focus (intro w hSc;go_simp;first | done | with_reducible rfl)
     refine Qad 2 (some 51) ?_ HSS hHeld ?_ ?_
     rotate_left
     focus (intro w hSc;go_simp;first | done | with_reducible rfl)
     refine Qad 3 (some 52) ?_ HSS hHeld ?_ ?_
     rotate_left
     focus (intro w hSc;go_simp;first | done | with_reducible rfl)
     refine Qad 4 (some 53) ?_ HSS hHeld ?_ ?_
     rotate_left
     focus (intro w hSc;go_simp;first | done | with_reducible rfl)
     refine QaI (i:=0) (j:=5) (by kernel_rfl) rfl rfl (by rfl) (by rfl) (fun K hK=>?_) (fun K hK=>?_)
     ·go_simp
      skip
      refine hK.out _ _ (hHeld) (fun hHeld=>?_)
      clear hK K
      try simp only [Act.put,List.setIfInBounds_toArray,List.set_cons_zero,List.set_cons_succ]
      refine Qaa (i:=5) (by kernel_rfl) rfl (by rfl) (fun K hK=>?_)
      go_simp
      (refine (HAG.out _ ((Ext.refl W3).drew)).mono ?_;rintro e w8 ⟨y,rfl,hyc,hx8,hcr8⟩;have H8:=Lib.hid (((Ext.refl W3).drew).trans hx8);have HCR8:=Lib.hid hcr8;have HYC:=Lib.hid hyc;have cL8:w8.cell? ⟨w1.heap.size,0,none⟩=some (.slice s9.a ys.length s9.c):=(HL3.out.ext H8.out).cell 0;have lL8:w1.heap.size<w8.heap.size:=(HL3.out.ext H8.out).lt;have hs8:=H8.out.size;clear hx8 hcr8 hyc)
      refine hK.out _ _ (HSA.out _ H8.out) (fun hHeld=>?_)
      clear hK K
      try simp only [Act.put,List.setIfInBounds_toArray,List.set_cons_zero,List.set_cons_succ]
      refine Qad 6 (some 55) ?_ HSS hHeld ?_ ?_
      rotate_left
      focus (intro w hSc;go_simp;first | done | with_reducible rfl)
      refine Qaa (i:=7) (by kernel_rfl) rfl (by rfl) (fun K hK=>?_)
      go_simp
      skip
      refine hK.out _ _ (HSA.out _ (H8.out.alloc _ _)) (fun hHeld=>?_)
      clear hK K
      try simp only [Act.put,List.setIfInBounds_toArray,List.set_cons_zero,List.set_cons_succ]
      refine Qaa (i:=8) (by kernel_rfl) rfl (by rfl) (fun K hK=>?_)
      skip
      refine Qay _ (.tmp 49) (.tmp 56) 48 rfl w5.heap.size 56 i0 _ 16 216 Tryz.underlying48 hi hz0 hz1 hz2 rfl (by decide) s9 ys.length (QbU ys) (by rfl) (Qac (Qac HOWN3.out (H8.out.agree fun b (hb:b<W3.heap.size)=>hb) (fun b hb=>(Qab HOWN3.out hb).2)) (((Ext.refl w8).alloc (EV.cells ⟨id,y⟩) 56).agree fun b (hb:b<w8.heap.size)=>hb) (fun b hb=>(by have:=(hrow0 b hb).2;omega))) (fun b=>b=w8.heap.size) ⟨some ⟨w8.heap.size,0,none⟩,1⟩ 1 (EV.cells ⟨id,y⟩).toList (by rfl) (Rd.block (Blk.new w8 56 (EV.cells ⟨id,y⟩)) (by decide) rfl) (Qkn ⟨id,y⟩) h63 hby (by rw [World.size_alloc];omega) ?_;intro s3 w9 hown9 hwr9 hs9;have h9:=hwr9.cell0 (o:=0) ((Ext.refl w8).alloc (EV.cells ⟨id,y⟩) 56) hneL lL8;have cL9:w9.cell? ⟨w1.heap.size,0,none⟩=some (.slice s9.a ys.length s9.c):=h9.1.trans cL8;have lL9:=h9.2;have fL9:w9.frozen? ⟨w1.heap.size,0,none⟩=false:=(hwr9.fz _ _).trans ((((Ext.refl w8).alloc (EV.cells ⟨id,y⟩) 56).frozen (o:=0) lL8).trans ((H8.out.frozen (o:=0) lL).trans fL));have hS9:Qbh [W1'.heap.size,wr.heap.size,w.heap.size+1,w.heap.size] W3 w9:=(HSA.out _ H8.out).wr hwr9 ((Ext.refl w8).alloc (EV.cells ⟨id,y⟩) 56) HNES.out (HLTS.out _ H8.out);have HO9:=Lib.hid hown9;have HW9:=Lib.hid hwr9;have HS9:=Lib.hid hs9;clear hown9 hwr9 hs9 h9
      refine hK.out _ _ (hS9) (fun hHeld=>?_)
      clear hK K
      try simp only [Act.put,List.setIfInBounds_toArray,List.set_cons_zero,List.set_cons_succ]
      refine Qaa (i:=9) (by kernel_rfl) rfl (by rfl) (fun K hK=>?_)
      go_simp
      skip
      refine hK.out _ _ (hS9.set HNEB.out) (fun hHeld=>?_)
      clear hK K
      try simp only [Act.put,List.setIfInBounds_toArray,List.set_cons_zero,List.set_cons_succ]
      refine wpAnyH_done (by kernel_rfl) ?_ _
      gi_wp2_with fail
      have hdz:W3.drew.heap.size=W3.heap.size:=rfl
      obtain ⟨e1,e2,e3,e4⟩:=QeS (w:=w5) (W3:=w8) (x:=⟨id,y⟩) (M:=fun b=>b=w2.heap.size+1) (Nat.le_refl _) hz15 HI.out HBLK.out HOWN.out (H03.out.trans (H8.out.st _)) (fun b e=>.inr (.inr e)) (HCR8.out.mono fun b hb=>⟨by have:=hb.1;omega,hb.2,fun e=>(by have h1:=hb.1;exact e.elim (fun e=>by omega) (fun e=>by have:=(hrow0 b e).2;omega)),fun e=>by have:=HI.out.nlt b e;have:=hb.1;omega⟩) ((Ext.refl w8).alloc (EV.cells ⟨id,y⟩) 56) HO9.out HW9.out HS9.out
      refine ⟨_,⟨ys++[⟨id,y⟩],e1,by rw [List.map_append,List.map_append,HMAPY.out,List.append_assoc];show _++(_++[(id,y.c)])=_++(_++[(id,x.c)]);rw [HYC.out],(HSTY.out.then ((H03.out.trans (H8.out.st _))) (fun i hi e=>by omega)).then e2 (fun i hi e=>(HSUB.out i e).elim (fun e=>e) (fun e=>by omega)),fun b hb=>(e3 b hb).elim (HSUB.out b) fun h=>.inr (by omega)⟩,?_,?_,e4⟩
      ·exact (H8.out.st _).trans e2
      ·exact fun b hb=>(e3 b hb).imp (fun h=>h) fun h=>by omega
     ·go_simp
      (refine (HAG.out _ ((Ext.refl W3).drew)).mono ?_;rintro e w8 ⟨y,rfl,hyc,hx8,hcr8⟩;have H8:=Lib.hid (((Ext.refl W3).drew).trans hx8);have HCR8:=Lib.hid hcr8;have HYC:=Lib.hid hyc;have cL8:w8.cell? ⟨w1.heap.size,0,none⟩=some (.slice s9.a ys.length s9.c):=(HL3.out.ext H8.out).cell 0;have lL8:w1.heap.size<w8.heap.size:=(HL3.out.ext H8.out).lt;have hs8:=H8.out.size;clear hx8 hcr8 hyc)
      refine hK.out _ _ (HSA.out _ H8.out) (fun hHeld=>?_)
      clear hK K
      try simp only [Act.put,List.setIfInBounds_toArray,List.set_cons_zero,List.set_cons_succ]
      refine Qad 6 (some 55) ?_ HSS hHeld ?_ ?_
      rotate_left
      focus (intro w hSc;go_simp;first | done | with_reducible rfl)
      refine QaI (i:=0) (j:=7) (by kernel_rfl) rfl rfl (by rfl) (by rfl) (fun K hK=>?_) (fun K hK=>?_)
      ·go_simp
       skip
       refine hK.out _ _ (hHeld) (fun hHeld=>?_)
       clear hK K
       try simp only [Act.put,List.setIfInBounds_toArray,List.set_cons_zero,List.set_cons_succ]
       refine Qaa (i:=7) (by kernel_rfl) rfl (by rfl) (fun K hK=>?_)
       go_simp
       skip
       refine hK.out _ _ (HSA.out _ (H8.out.alloc _ _)) (fun hHeld=>?_)
       clear hK K
       try simp only [Act.put,List.setIfInBounds_toArray,List.set_cons_zero,List.set_cons_succ]
       refine Qaa (i:=8) (by kernel_rfl) rfl (by rfl) (fun K hK=>?_)
       skip
       refine Qay _ (.tmp 49) (.tmp 56) 48 rfl w5.heap.size 56 i0 _ 16 216 Tryz.underlying48 hi hz0 hz1 hz2 rfl (by decide) s9 ys.length (QbU ys) (by rfl) (Qac (Qac HOWN3.out (H8.out.agree fun b (hb:b<W3.heap.size)=>hb) (fun b hb=>(Qab HOWN3.out hb).2)) (((Ext.refl w8).alloc (EV.cells ⟨id,y⟩) 56).agree fun b (hb:b<w8.heap.size)=>hb) (fun b hb=>(by have:=(hrow0 b hb).2;omega))) (fun b=>b=w8.heap.size) ⟨some ⟨w8.heap.size,0,none⟩,1⟩ 1 (EV.cells ⟨id,y⟩).toList (by rfl) (Rd.block (Blk.new w8 56 (EV.cells ⟨id,y⟩)) (by decide) rfl) (Qkn ⟨id,y⟩) h63 hby (by rw [World.size_alloc];omega) ?_;intro s3 w9 hown9 hwr9 hs9;have h9:=hwr9.cell0 (o:=0) ((Ext.refl w8).alloc (EV.cells ⟨id,y⟩) 56) hneL lL8;have cL9:w9.cell? ⟨w1.heap.size,0,none⟩=some (.slice s9.a ys.length s9.c):=h9.1.trans cL8;have lL9:=h9.2;have fL9:w9.frozen? ⟨w1.heap.size,0,none⟩=false:=(hwr9.fz _ _).trans ((((Ext.refl w8).alloc (EV.cells ⟨id,y⟩) 56).frozen (o:=0) lL8).trans ((H8.out.frozen (o:=0) lL).trans fL));have hS9:Qbh [W1'.heap.size,wr.heap.size,w.heap.size+1,w.heap.size] W3 w9:=(HSA.out _ H8.out).wr hwr9 ((Ext.refl w8).alloc (EV.cells ⟨id,y⟩) 56) HNES.out (HLTS.out _ H8.out);have HO9:=Lib.hid hown9;have HW9:=Lib.hid hwr9;have HS9:=Lib.hid hs9;clear hown9 hwr9 hs9 h9
       refine hK.out _ _ (hS9) (fun hHeld=>?_)
       clear hK K
       try simp only [Act.put,List.setIfInBounds_toArray,List.set_cons_zero,List.set_cons_succ]
       refine Qaa (i:=9) (by kernel_rfl) rfl (by rfl) (fun K hK=>?_)
       go_simp
       skip
       refine hK.out _ _ (hS9.set HNEB.out) (fun hHeld=>?_)
       clear hK K
       try simp only [Act.put,List.setIfInBounds_toArray,List.set_cons_zero,List.set_cons_succ]
       refine wpAnyH_done (by kernel_rfl) ?_ _
       gi_wp2_with fail
       have hdz:W3.drew.heap.size=W3.heap.size:=rfl
       obtain ⟨e1,e2,e3,e4⟩:=QeS (w:=w5) (W3:=w8) (x:=⟨id,y⟩) (M:=fun b=>b=w2.heap.size+1) (Nat.le_refl _) hz15 HI.out HBLK.out HOWN.out (H03.out.trans (H8.out.st _)) (fun b e=>.inr (.inr e)) (HCR8.out.mono fun b hb=>⟨by have:=hb.1;omega,hb.2,fun e=>(by have h1:=hb.1;exact e.elim (fun e=>by omega) (fun e=>by have:=(hrow0 b e).2;omega)),fun e=>by have:=HI.out.nlt b e;have:=hb.1;omega⟩) ((Ext.refl w8).alloc (EV.cells ⟨id,y⟩) 56) HO9.out HW9.out HS9.out
       refine ⟨_,⟨ys++[⟨id,y⟩],e1,by rw [List.map_append,List.map_append,HMAPY.out,List.append_assoc];show _++(_++[(id,y.c)])=_++(_++[(id,x.c)]);rw [HYC.out],(HSTY.out.then ((H03.out.trans (H8.out.st _))) (fun i hi e=>by omega)).then e2 (fun i hi e=>(HSUB.out i e).elim (fun e=>e) (fun e=>by omega)),fun b hb=>(e3 b hb).elim (HSUB.out b) fun h=>.inr (by omega)⟩,?_,?_,e4⟩
       ·exact (H8.out.st _).trans e2
       ·exact fun b hb=>(e3 b hb).imp (fun h=>h) fun h=>by omega
      ·go_simp
       skip
       refine hK.out _ _ (HSA.out _ (H8.out.alloc _ _)) (fun hHeld=>?_)
       clear hK K
       try simp only [Act.put,List.setIfInBounds_toArray,List.set_cons_zero,List.set_cons_succ]
       refine Qaa (i:=0) (by kernel_rfl) rfl (by rfl) (fun K hK=>?_)
       go_simp
       skip
       refine hK.out _ _ (hHeld) (fun hHeld=>?_)
       clear hK K
       try simp only [Act.put,List.setIfInBounds_toArray,List.set_cons_zero,List.set_cons_succ]
       refine Qaa (i:=8) (by kernel_rfl) rfl (by rfl) (fun K hK=>?_)
       skip
       refine Qay _ (.tmp 49) (.tmp 56) 48 rfl w5.heap.size 56 i0 _ 16 216 Tryz.underlying48 hi hz0 hz1 hz2 rfl (by decide) s9 ys.length (QbU ys) (by rfl) (Qac (Qac HOWN3.out (H8.out.agree fun b (hb:b<W3.heap.size)=>hb) (fun b hb=>(Qab HOWN3.out hb).2)) (((Ext.refl w8).alloc (EV.cells ⟨id,y⟩) 56).agree fun b (hb:b<w8.heap.size)=>hb) (fun b hb=>(by have:=(hrow0 b hb).2;omega))) (fun b=>b=w8.heap.size) ⟨some ⟨w8.heap.size,0,none⟩,1⟩ 1 (EV.cells ⟨id,y⟩).toList (by rfl) (Rd.block (Blk.new w8 56 (EV.cells ⟨id,y⟩)) (by decide) rfl) (Qkn ⟨id,y⟩) h63 hby (by rw [World.size_alloc];omega) ?_;intro s3 w9 hown9 hwr9 hs9;have h9:=hwr9.cell0 (o:=0) ((Ext.refl w8).alloc (EV.cells ⟨id,y⟩) 56) hneL lL8;have cL9:w9.cell? ⟨w1.heap.size,0,none⟩=some (.slice s9.a ys.length s9.c):=h9.1.trans cL8;have lL9:=h9.2;have fL9:w9.frozen? ⟨w1.heap.size,0,none⟩=false:=(hwr9.fz _ _).trans ((((Ext.refl w8).alloc (EV.cells ⟨id,y⟩) 56).frozen (o:=0) lL8).trans ((H8.out.frozen (o:=0) lL).trans fL));have hS9:Qbh [W1'.heap.size,wr.heap.size,w.heap.size+1,w.heap.size] W3 w9:=(HSA.out _ H8.out).wr hwr9 ((Ext.refl w8).alloc (EV.cells ⟨id,y⟩) 56) HNES.out (HLTS.out _ H8.out);have HO9:=Lib.hid hown9;have HW9:=Lib.hid hwr9;have HS9:=Lib.hid hs9;clear hown9 hwr9 hs9 h9
       refine hK.out _ _ (hS9) (fun hHeld=>?_)
       clear hK K
       try simp only [Act.put,List.setIfInBounds_toArray,List.set_cons_zero,List.set_cons_succ]
       refine Qaa (i:=9) (by kernel_rfl) rfl (by rfl) (fun K hK=>?_)
       go_simp
       skip
       refine hK.out _ _ (hS9.set HNEB.out) (fun hHeld=>?_)
       clear hK K
       try simp only [Act.put,List.setIfInBounds_toArray,List.set_cons_zero,List.set_cons_succ]
       refine wpAnyH_done (by kernel_rfl) ?_ _
       gi_wp2_with fail
       have hdz:W3.drew.heap.size=W3.heap.size:=rfl
       obtain ⟨e1,e2,e3,e4⟩:=QeS (w:=w5) (W3:=w8) (x:=⟨id,y⟩) (M:=fun b=>b=w2.heap.size+1) (Nat.le_refl _) hz15 HI.out HBLK.out HOWN.out (H03.out.trans (H8.out.st _)) (fun b e=>.inr (.inr e)) (HCR8.out.mono fun b hb=>⟨by have:=hb.1;omega,hb.2,fun e=>(by have h1:=hb.1;exact e.elim (fun e=>by omega) (fun e=>by have:=(hrow0 b e).2;omega)),fun e=>by have:=HI.out.nlt b e;have:=hb.1;omega⟩) ((Ext.refl w8).alloc (EV.cells ⟨id,y⟩) 56) HO9.out HW9.out HS9.out
       refine ⟨_,⟨ys++[⟨id,y⟩],e1,by rw [List.map_append,List.map_append,HMAPY.out,List.append_assoc];show _++(_++[(id,y.c)])=_++(_++[(id,x.c)]);rw [HYC.out],(HSTY.out.then ((H03.out.trans (H8.out.st _))) (fun i hi e=>by omega)).then e2 (fun i hi e=>(HSUB.out i e).elim (fun e=>e) (fun e=>by omega)),fun b hb=>(e3 b hb).elim (HSUB.out b) fun h=>.inr (by omega)⟩,?_,?_,e4⟩
       ·exact (H8.out.st _).trans e2
       ·exact fun b hb=>(e3 b hb).imp (fun h=>h) fun h=>by omega
    case done=>
     rintro D zs C W5 hD hS ⟨ys,hco,hmapy,hsty,hsub⟩ hDk
     have hmapn:ys.map EV.p=evL (L.take (k+1)) ch:=by
      rw [hmapy,HMAP.out,QlM HPK.out]
      congr 1
      have hz:zs=Qcm iv xs:=hS
      have:=Qld iv xs
      rw [HXS.out] at this
      rw [hz,←this,List.map_map];rfl
     have hnew:Qn7 w5.heap.size w1.heap.size w5 L ch (k+1) (D :: ds) W5:=by
      refine ⟨⟨_,C,ys,hco,hmapn,fun d hd=>?_⟩,List.nodup_cons.2 ⟨fun hd=>?_,HND.out⟩,hk⟩
      ·rcases List.mem_cons.1 hd with rfl | hd
       ·exact ⟨.inr (.inl hD),hDk⟩
       ·obtain ⟨h1,h2⟩:=HDS.out d hd
        have h3:=HCO.out.nlt d h1
        exact ⟨.inl h1,(hsty.block d (by omega) (fun e=>HCO.out.dis d e h1)).trans ((HX26.out.heap h3).trans h2)⟩
      ·have:=HCO.out.nlt D (HDS.out D hd).1;omega
     have HNEW:=Lib.hid hnew
     clear hco hmapy hsty hsub hDk hmapn hnew hS
     gi_wp2_with fail
     refine Handed.intro (L.length - (k+1)) (by omega) (hJ _ _ _ ?_)
     refine ⟨k+1,D :: ds,?_⟩
     iterate 13 apply Exists.intro
     refine ⟨rfl,HNEW,hk,?_⟩
     rw [show ((k+1:Nat):Int)=(k:Int)+1 from by omega]
     rfl
   ·obtain rfl:k=L.length:=by omega
    obtain ⟨⟨N,C0,evs,hco,hmap,hds⟩,hnd,-⟩:=HO.out
    have hkk:¬(L.length:Int)<(L.length:Int):=by omega
    obtain ⟨s9,rfl,hblk,hown⟩:=hco.ex
    have cL:wr.cell? ⟨w1.heap.size,0,none⟩=some (.slice s9.a evs.length s9.c):=hblk.cell 0
    have lL:=hblk.lt
    have HCO:=Lib.hid hco
    have HMAP:=Lib.hid hmap
    have HDS:=Lib.hid hds
    have HND:=Lib.hid hnd
    have HOWN:=Lib.hid hown
    clear hco hmap hds hnd hblk hown HO
    gi_wp2_with fail
    refine QfT ds wr HND.out (fun d hd=>(HDS.out d hd).2) (fun W' hW'=>?_)
    have hdl:∀ d,d∈ds→w5.heap.size≤d:=fun d hd=>HCO.out.nlo d (HDS.out d hd).1
    have hstw:St (fun b=>b=R) w wr:=(HST0.out.ext HX5.out).then HCO.out.st fun i hi e=>by omega
    have hzw:=hstw.size
    have hz5r:=HCO.out.st.size
    have hrowE:∀ b,s9.row=some b→w5.heap.size≤b∧b<wr.heap.size:=fun b hb=>Qab HOWN.out hb
    refine ⟨.slice s9.a evs.length s9.c,by simp [results,Tryz.f18,go_sem],s9,evs,rfl,?_,?_,?_,?_⟩
    ·rw [HCE.out,HMAP.out,List.take_of_length_le (Nat.le_refl _)]
    ·refine (HREG5.out.sb HCO.out.st.sb fun b hb e=>?_).sb hW'.sb fun b hb hd=>?_
     ·have:=HRB.out b hb;omega
     ·have:=HRB.out b hb;have:=hdl b hd;omega
    ·exact hstw.then hW' fun i hi hd=>by have:=hdl i hd;omega
    ·have hag:Agree (fun b=>b<wr.heap.size∧¬N b) wr W':=fun b hb=>hW'.block b hb.1 fun hd=>hb.2 (HDS.out b hd).1
     have hzW:=hW'.size
     refine ⟨?_,fun x hx=>?_,?_⟩
     ·have ho:=Qac HOWN.out hag fun b hb=>⟨(hrowE b hb).2,fun hN=>HCO.out.dis b (.inr hb) hN⟩
      exact (Rd.QaA ho).mono fun b hb=>⟨by have:=hb.1;omega,hb.2⟩
     ·exact ((HCO.out.vals x hx).agree (hag.mono fun b hb=>⟨hb.2.1,hb.2.2.2⟩)).mono fun b hb=>⟨by have:=hb.1;omega,by have:=hb.2.1;omega⟩
     ·have h1:=congrArg List.length HMAP.out
      have h2:=QhM ch (L.take L.length)
      rw [List.length_map] at h1
      rw [List.length_take] at h2
      have h3:min L.length L.length*ch.length≤100*1000000:=Nat.mul_le_mul (by omega) hcl
      omega
end Go.Proofs.YtohajcflklejjaaGreat
namespace Go.Proofs.YtohajcflklejjaaGreat
open Go.RowKit Go.Shelf Go.Maps
set_option linter.unusedVariables false
set_option linter.unusedSimpArgs false
attribute [local go_sem] Oper.semAt_some
theorem QkP {W:World} {b g i:Nat} {L:Qbx} {p:Nat × Iv} (hown:W.ownsMap Tryz.prog 34 ivR b g (mapD L)) (hp:L.find? (fun p=>p.1 == i)=some p) (hi:i≤18446744073709551615) :
  (Instr.lookup 35 (.map (some b)) (.int .u64 (i:Int)) true).run Tryz.prog W=.ok (.tuple #[p.2.v,.bool true]) W:=by
 obtain ⟨v,ps,hrun,hv⟩:=hown.look_ok Qhw Tryz.underlying35 (QmC W) (QkG ⟨ByteArray.empty,ByteArray.empty,false⟩) (QnX i hi)
 rw [Qj2 hp] at hv
 have hh:Maps.has (mapD L) (QdI i)=true:=by
  rw [Qgp,List.any_eq_true]
  exact ⟨p,List.mem_of_find?_eq_some hp,List.find?_some (p:=fun p:Nat × Iv=>p.1 == i) hp⟩
 rw [hrun,QkF hv,hh]
def QfF (l:List Ent) (w:World) (e:Ending) (w':World):Prop:=
 ∃ (s:Sl) (ys:List LE),e=.returned (.tuple #[.slice s.a ys.length s.c,.int .i64 0])∧ys.map LE.ent=l∧Ext w w'∧ES w' (In w.heap.size w'.heap.size) s ys
theorem Qhm {w:World} {R:Nat} {T:RT} {g:Nat} {mb:Option Nat} {L:Qbx} {F:Nat→Prop} (h:Qbf w R T g mb L) (hT:IsT w F T) (hF:∀ b,F b→b<w.heap.size) (ok:OkR T) (hl:(Qak T).length≤500000)
  {i:Nat} {iv:Iv} (hp:L.find? (fun p=>p.1 == i)=some (i,iv)) (hi64:i≤18446744073709551615) :
  Calls Tryz.prog 19 #[.pointer (some ⟨R,0,none⟩),.int .u64 (i:Int)] w (QfF (Qau iv.lo iv.hi iv.op (Qak T)) w):=by
 obtain ⟨i0,hi,hz0,hz1',hz2⟩:=info_parts Tryz.QaS
 obtain ⟨p,hpT⟩:=Qar T
 obtain ⟨b,rfl⟩:∃ b,mb=some b:=by
  cases mb with
  | none=>have:L=[]:=h.map;subst this;cases hp
  | some b=>exact ⟨b,rfl⟩
 have hlk:=QkP (show w.ownsMap Tryz.prog 34 ivR b g (mapD L) from h.map) hp hi64
 dsimp only at hlk
 have r2:w.cell? ⟨R,2,none⟩=some (.map (some b)):=h.blk.cell 2
 have r0:w.cell? ⟨R,0,none⟩=some (.pointer p):=by rw [←hpT];exact h.blk.cell 0
 have lR:=h.blk.lt
 have hra:=fun W=>Qk9 W T iv.lo iv.hi iv.op
 rw [Qaz,hpT] at hra
 have HRA:=Lib.hid hra
 have HT:=Lib.hid hT
 have HF:=Lib.hid hF
 have HOK:=Lib.hid ok
 have HL:=Lib.hid hl
 clear h hT hF ok hp hra hl
 obtain ⟨lo,hi',op⟩:=iv
 dsimp only at *
 refine (callsIn_wide (n:=6)).1 ?_
 refine callsIn_of_wp_marks Tryz.func19 rfl trivial ?_ rfl
 simp only [Tryz.ntmps19,List.size_toArray,List.length_cons,List.length_nil,Nat.reduceAdd,Nat.reduceSub,Array.replicate_succ,Array.replicate_zero,List.push_toArray,List.append_toArray,List.nil_append,List.cons_append]
 gi_wp2_with fail
 generalize hW0:World.alloc (World.alloc _ _) _=W0
 obtain ⟨hx0,hz0',hb0,hb1⟩:=Qax w _ _ _ _ W0 hW0
 clear hW0
 have HX0:=Lib.hid hx0
 have HB1:=Lib.hid hb1
 have HSS:=Lib.hid (show ∀ W,Ext W0 W→W.cell? ⟨R,0,none⟩=some (.pointer p)∧W.cell? ⟨w.heap.size,0,none⟩=some (.string lo)∧W.cell? ⟨w.heap.size,1,none⟩=some (.string hi')∧W.cell? ⟨w.heap.size,2,none⟩=some (.bool op) from
  fun W hW=>⟨((hx0.trans hW).cell lR).trans r0,(hb0.ext hW).cell 0,(hb0.ext hW).cell 1,(hb0.ext hW).cell 2⟩)
 have hzl:w.heap.size+2≤W0.heap.size:=by omega
 clear hx0 hb0 hb1 hz0' hlk r2 r0
 refine Qf8 (wpIn_wide.2 ?_)
 refine wp_region_held_drew (S:=(fun w'=>Ext W0 w')) (by kernel_rfl) (((Ext.refl W0).drew)) (fun hHeld=>?_)
 refine Qad 0 (some 24) ?_ HSS hHeld ?_ ?_
 rotate_left
 focus (intro w hSc;go_simp;first | done | with_reducible rfl)
 refine Qad 1 (some 25) ?_ HSS hHeld ?_ ?_
 rotate_left
 focus (intro w hSc;go_simp;first | done | with_reducible rfl)
 refine Qad 2 (some 26) ?_ HSS hHeld ?_ ?_
 rotate_left
 focus (intro w hSc;go_simp;first | done | with_reducible rfl)
 refine Qad 3 (some 27) ?_ HSS hHeld ?_ ?_
 rotate_left
 focus (intro w hSc;go_simp;first | done | with_reducible rfl)
 refine Qad 4 (some 28) ?_ HSS hHeld ?_ ?_
 rotate_left
 focus (intro w hSc;go_simp;first | done | with_reducible rfl)
 refine Qad 5 (some 29) ?_ HSS hHeld ?_ ?_
 rotate_left
 focus (intro w hSc;go_simp;first | done | with_reducible rfl)
 refine Qad 6 (some 30) ?_ HSS hHeld ?_ ?_
 rotate_left
 focus (intro w hSc;go_simp;first | done | with_reducible rfl)
 refine Qad 7 (some 31) ?_ HSS hHeld ?_ ?_
 rotate_left
 focus (intro w hSc;go_simp;first | done | with_reducible rfl)
 refine Qad 8 (some 32) ?_ HSS hHeld ?_ ?_
 rotate_left
 focus (intro w hSc;go_simp;first | done | with_reducible rfl)
 refine Qad 9 (some 33) ?_ HSS hHeld ?_ ?_
 rotate_left
 focus (intro w hSc;go_simp;first | done | with_reducible rfl)
 refine Qaa (i:=10) (by kernel_rfl) rfl (by rfl) (fun K hK=>?_)
 go_simp
 (refine (HRA.out _).mono ?_;rintro e w4 ⟨B,rfl,hx4,hrb4,hB⟩)
 refine hK.out _ _ (hHeld.trans hx4) (fun hHeld=>?_)
 clear hK K
 try simp only [Act.put,List.setIfInBounds_toArray,List.set_cons_zero,List.set_cons_succ]
 refine wpAnyH_done (by kernel_rfl) ?_ _
 refine QiC ?_
 have hx04:=hHeld
 have hx:=HX0.out.trans hx04
 have hz04:=hx04.size
 have hsq:=Qla (F:=F) (T:=T) ⟨HT.out.agree (hx.agree HF.out),fun b hb=>Nat.lt_of_lt_of_le (HF.out b hb) hx.size⟩ HOK.out (by have:=HL.out;omega) hrb4
 have HSQ:=Lib.hid hsq
 have HBG:=Lib.hid (HB1.out.ext hx04)
 have HX:=Lib.hid hx
 have hBl:=hrb4.lt
 have hl1:w.heap.size+1<w4.heap.size:=HBG.out.lt
 have hB':W0.heap.size≤B:=hB
 have hrl:(Qau lo hi' op (Qak T)).length≤500000:=Nat.le_trans (List.length_filter_le ..) HL.out
 have HRL:=Lib.hid hrl
 clear hHeld hx04 hx hrb4 hsq hrl hB
 gi_wp2_with fail
 refine Qdf (gf:=72) (lb:=Qk8 B) rfl (enters_of Tryz.func72 (by kernel_rfl) rfl) HSQ.out (Agree.refl _) (Nat.le_refl _)
  (fun b hb=>hb.elim (fun h=>by have:=HF.out b h;omega) (fun h=>by omega)) (fun _=>rfl)
  (fun pre C W=>Coll w4 (w.heap.size+1) (pre.map LE.ent) C W) (fun _ _ _=>False) (fun b=>b=w.heap.size+1)
  (fun b hb=>⟨by omega,fun h=>h.elim (fun h=>by have:=HF.out b h;omega) (fun h=>by omega)⟩)
  (fun h k=>h.turn hl1 k) (fun h k=>h) (fun W hW hz=>Coll.start HBG.out hW hz) ?round ?done ?stop
 case stop=>
  rintro D c pre W hD hSp hX
  exact hX.elim
 case round=>
  rintro pre C x W0' W1 hII hlt hsz hnL hx01 hG
  have HCO:=Lib.hid hII
  obtain ⟨⟨s,ys,rfl,hblk,ho,hes⟩,hst,hsz'⟩:=hII
  obtain ⟨es',hes'⟩:∃ es',pre.map LE.ent=es':=⟨_,rfl⟩
  have hyl:ys.length<1000000:=by
   have h1:=(List.getElem?_eq_some_iff.1 hG.at_).1
   have h2:ys.length=pre.length:=by have:=congrArg List.length hes;simpa using this
   have:=HRL.out
   omega
  have hsn:(pre++[x]).map LE.ent=es'++[x.ent]:=by rw [List.map_append,hes'];rfl
  rw [hes'] at hes
  have hb3:=Blk.new W1 44 (Qmw x)
  have hx3:Ext W1 (W1.alloc (.cells (Qmw x) 44)):=(Ext.refl W1).alloc _ _
  have HB3:=Lib.hid hb3
  have HX3:=Lib.hid hx3
  have HBLK:=Lib.hid hblk
  have HO:=Lib.hid ho
  have HES:=Lib.hid hes
  have HST:=Lib.hid hst
  have HX01:=Lib.hid hx01
  have HG:=Lib.hid hG
  have HSN:=Lib.hid hsn
  clear hb3 hx3 hblk ho hes hst hx01 hG hnL hlt hes' hsn
  gi_wp2_with fail
  refine ⟨HX3.out,fun W3 k3=>?_⟩
  have h03:=((HX01.out.trans HX3.out).st _).trans k3
  have hs03:=h03.size
  have hs01:=HX01.out.size
  have hbv:=k3.blk HB3.out (by omega)
  obtain ⟨c0,c1,c2,c3,c4,c5⟩:=hbv.c6
  have lv:=hbv.lt
  have hgb:=h03.blk HBLK.out (by omega)
  have cg:W3.cell? ⟨w.heap.size+1,0,none⟩=some (.slice s.a ys.length s.c):=hgb.cell 0
  have fg:=Lib.hid (hgb.frozen 0)
  have lg:=hgb.lt
  have hrow0:∀ b,s.row=some b→w4.heap.size+2≤b∧b<W0'.heap.size:=fun b hb=>Qab HO.out.own hb
  have hx34:Ext W3 (W3.drew.alloc (.cells Qnc 47)):=((Ext.refl W3).drew).alloc _ _
  have ho3:OE W3 (w4.heap.size+2) s ys:=HO.out.agree' (h03.agree.mono fun i hi=>⟨hi.2,by have:=hi.1;omega⟩) h03.size
  have HOWN4:=Lib.hid (ho3.ext hx34).own
  have HZB:=Lib.hid (Rd.block (size:=7) (n:=1) (cs:=Qev) (Blk.new W3.drew 47 Qnc) (by decide) rfl)
  have hrv:RV W3 (In W0'.heap.size W3.heap.size) x.v x.sl x.so:=((HG.out.val.agree (HX3.out.agree fun b hb=>hb.2)).agree (k3.agree.mono fun i hi=>⟨Nat.lt_of_lt_of_le hi.2 HX3.out.size,by have:=hi.1;omega⟩)).mono fun i hi=>⟨hi.1,Nat.lt_of_lt_of_le hi.2 (Nat.le_trans HX3.out.size k3.size)⟩
  have h63:ys.length+1≤maxLen:=by unfold maxLen;omega
  have hby:(ys.length+1)*104≤140737488355328:=by omega
  have hbase:w4.heap.size+2≤(W3.drew.alloc (.cells Qnc 47)).heap.size:=by rw [World.size_alloc,World.size_drew];omega
  have hz1:∀ u∈Qev,u.oneCell'=true:=by intro u hu;simp only [Qev,List.mem_cons,List.not_mem_nil,or_false] at hu;rcases hu with rfl | rfl | rfl | rfl | rfl | rfl | rfl <;> rfl
  have H03:=Lib.hid h03
  have HRV:=Lib.hid hrv
  have HX34:=Lib.hid hx34
  have HGB:=Lib.hid hgb
  have hne1:¬w.heap.size+1=W1.heap.size:=by omega
  have hix:(ys.length:Int)<(ys.length:Int)+1:=by omega
  have hsW1:W0'.heap.size≤W1.heap.size:=hs01
  clear k3 h03 hbv hgb hx34 ho3 hrv
  gi_wp2_with fail
  refine Qd0 (S:=(fun _=>True)) (by kernel_rfl) (by rintro ⟨a,w,h⟩;exact h) (by kernel_rfl) (trivial) (fun hHeld=>?_)
  refine Qaj 1 (some 38) ?_ hHeld ?_ ?_
  rotate_left
  focus (intro w hSw;(try dsimp only at hSw);go_simp;first | done | with_reducible rfl)
  refine Qi6 (i:=0) (j:=2) (k:=5) (by kernel_rfl) rfl rfl rfl (by rfl) (by rfl) (by rfl) (fun K hK=>?_) (fun K hK=>?_) (fun K hK=>?_)
  ·go_simp
   skip
   refine hK.out _ _ (trivial) (fun hHeld=>?_)
   clear hK K
   try simp only [Act.put,List.setIfInBounds_toArray,List.set_cons_zero,List.set_cons_succ]
   refine Qaj 4 (some 41) ?_ hHeld ?_ ?_
   rotate_left
   focus (intro w hSw;(try dsimp only at hSw);go_simp;first | done | with_reducible rfl)
   refine QaI (i:=2) (j:=5) (by kernel_rfl) rfl rfl (by rfl) (by rfl) (fun K hK=>?_) (fun K hK=>?_)
   ·go_simp
    skip
    refine hK.out _ _ (trivial) (fun hHeld=>?_)
    clear hK K
    try simp only [Act.put,List.setIfInBounds_toArray,List.set_cons_zero,List.set_cons_succ]
    refine Qaj 3 (some 40) ?_ hHeld ?_ ?_
    rotate_left
    focus (intro w hSw;(try dsimp only at hSw);go_simp;first | done | with_reducible rfl)
    refine Qaa (i:=5) (by kernel_rfl) rfl (by rfl) (fun K hK=>?_)
    go_simp
    skip
    refine hK.out _ _ (trivial) (fun hHeld=>?_)
    clear hK K
    try simp only [Act.put,List.setIfInBounds_toArray,List.set_cons_zero,List.set_cons_succ]
    refine Qaa (i:=6) (by kernel_rfl) rfl (by rfl) (fun K hK=>?_)
    skip
    refine Qay _ (.tmp 37) (.tmp 42) 50 rfl (w4.heap.size+2) 47 i0 _ 7 104 Tryz.underlying50 hi hz0 hz1' hz2 rfl (by decide) s ys.length (Qae ys) (by rfl) HOWN4.out (fun b=>b=W3.heap.size) ⟨some ⟨W3.heap.size,0,none⟩,1⟩ 1 Qev (by rfl) HZB.out hz1 h63 hby hbase ?_;intro s3 w5 hown5 hwr5 hs5;obtain ⟨g,cap,rfl,hbg,hnc,hcm,lg5,fg5,z0,z1,z2,z3,z4,z5,z6⟩:=row_zero hown5 (QaM ys);have h5:=hwr5.cell0 (o:=0) HX34.out (fun e=>by have:=(hrow0 _ e).1;omega) lg;have cB5:=h5.1.trans cg;have lB5:=h5.2;have fB5:=(hwr5.fz (w.heap.size+1) 0).trans ((HX34.out.frozen (o:=0) lg).trans fg.out);have hgB:¬g=w.heap.size+1:=(by omega);have hBg:¬w.heap.size+1=g:=(by omega);have HOW:=Lib.hid hown5;have HWR:=Lib.hid hwr5;have HS5:=Lib.hid hs5;clear hown5 hwr5 hs5 h5
    refine hK.out _ _ (trivial) (fun hHeld=>?_)
    clear hK K
    try simp only [Act.put,List.setIfInBounds_toArray,List.set_cons_zero,List.set_cons_succ]
    refine Qaj 7 (some 44) ?_ hHeld ?_ ?_
    rotate_left
    focus (intro w hSw;(try dsimp only at hSw);go_simp;first | done | with_reducible rfl)
    refine QaI (i:=8) (j:=9) (by kernel_rfl) rfl rfl (by rfl) (by rfl) (fun K hK=>?_) (fun K hK=>?_)
    ·go_simp
     skip
     refine hK.out _ _ (trivial) (fun hHeld=>?_)
     clear hK K
     try simp only [Act.put,List.setIfInBounds_toArray,List.set_cons_zero,List.set_cons_succ]
     refine Qaa (i:=9) (by kernel_rfl) rfl (by rfl) (fun K hK=>?_)
     go_simp
     skip
     refine hK.out _ _ (trivial) (fun hHeld=>?_)
     clear hK K
     try simp only [Act.put,List.setIfInBounds_toArray,List.set_cons_zero,List.set_cons_succ]
     refine wpAnyH_done (by kernel_rfl) ?_ _
     gi_wp2_with fail
     have hL:=(QaH hl1 HBLK.out HO.out HES.out HST.out hsz' H03.out HRV.out HG.out.key HX34.out HWR.out HS5.out hby HOW.out).1
     rw [←HSN.out] at hL
     exact hL
    ·go_simp
     skip
     refine hK.out _ _ (trivial) (fun hHeld=>?_)
     clear hK K
     try simp only [Act.put,List.setIfInBounds_toArray,List.set_cons_zero,List.set_cons_succ]
     refine Qaa (i:=8) (by kernel_rfl) rfl (by rfl) (fun K hK=>?_)
     go_simp
     skip
     refine hK.out _ _ (trivial) (fun hHeld=>?_)
     clear hK K
     try simp only [Act.put,List.setIfInBounds_toArray,List.set_cons_zero,List.set_cons_succ]
     refine wpAnyH_done (by kernel_rfl) ?_ _
     gi_wp2_with fail
     have hL:=(QaH hl1 HBLK.out HO.out HES.out HST.out hsz' H03.out HRV.out HG.out.key HX34.out HWR.out HS5.out hby HOW.out).2
     rw [←HSN.out] at hL
     exact hL
   ·go_simp
    skip
    refine hK.out _ _ (trivial) (fun hHeld=>?_)
    clear hK K
    try simp only [Act.put,List.setIfInBounds_toArray,List.set_cons_zero,List.set_cons_succ]
    refine Qaa (i:=2) (by kernel_rfl) rfl (by rfl) (fun K hK=>?_)
    go_simp
    skip
    refine hK.out _ _ (trivial) (fun hHeld=>?_)
    clear hK K
    try simp only [Act.put,List.setIfInBounds_toArray,List.set_cons_zero,List.set_cons_succ]
    refine Qaj 3 (some 40) ?_ hHeld ?_ ?_
    rotate_left
    focus (intro w hSw;(try dsimp only at hSw);go_simp;first | done | with_reducible rfl)
    refine Qaa (i:=6) (by kernel_rfl) rfl (by rfl) (fun K hK=>?_)
    skip
    refine Qay _ (.tmp 37) (.tmp 42) 50 rfl (w4.heap.size+2) 47 i0 _ 7 104 Tryz.underlying50 hi hz0 hz1' hz2 rfl (by decide) s ys.length (Qae ys) (by rfl) HOWN4.out (fun b=>b=W3.heap.size) ⟨some ⟨W3.heap.size,0,none⟩,1⟩ 1 Qev (by rfl) HZB.out hz1 h63 hby hbase ?_;intro s3 w5 hown5 hwr5 hs5;obtain ⟨g,cap,rfl,hbg,hnc,hcm,lg5,fg5,z0,z1,z2,z3,z4,z5,z6⟩:=row_zero hown5 (QaM ys);have h5:=hwr5.cell0 (o:=0) HX34.out (fun e=>by have:=(hrow0 _ e).1;omega) lg;have cB5:=h5.1.trans cg;have lB5:=h5.2;have fB5:=(hwr5.fz (w.heap.size+1) 0).trans ((HX34.out.frozen (o:=0) lg).trans fg.out);have hgB:¬g=w.heap.size+1:=(by omega);have hBg:¬w.heap.size+1=g:=(by omega);have HOW:=Lib.hid hown5;have HWR:=Lib.hid hwr5;have HS5:=Lib.hid hs5;clear hown5 hwr5 hs5 h5
    refine hK.out _ _ (trivial) (fun hHeld=>?_)
    clear hK K
    try simp only [Act.put,List.setIfInBounds_toArray,List.set_cons_zero,List.set_cons_succ]
    refine Qaj 7 (some 44) ?_ hHeld ?_ ?_
    rotate_left
    focus (intro w hSw;(try dsimp only at hSw);go_simp;first | done | with_reducible rfl)
    refine QaI (i:=8) (j:=9) (by kernel_rfl) rfl rfl (by rfl) (by rfl) (fun K hK=>?_) (fun K hK=>?_)
    ·go_simp
     skip
     refine hK.out _ _ (trivial) (fun hHeld=>?_)
     clear hK K
     try simp only [Act.put,List.setIfInBounds_toArray,List.set_cons_zero,List.set_cons_succ]
     refine Qaa (i:=9) (by kernel_rfl) rfl (by rfl) (fun K hK=>?_)
     go_simp
     skip
     refine hK.out _ _ (trivial) (fun hHeld=>?_)
     clear hK K
     try simp only [Act.put,List.setIfInBounds_toArray,List.set_cons_zero,List.set_cons_succ]
     refine wpAnyH_done (by kernel_rfl) ?_ _
     gi_wp2_with fail
     have hL:=(QaH hl1 HBLK.out HO.out HES.out HST.out hsz' H03.out HRV.out HG.out.key HX34.out HWR.out HS5.out hby HOW.out).1
     rw [←HSN.out] at hL
     exact hL
    ·go_simp
     skip
     refine hK.out _ _ (trivial) (fun hHeld=>?_)
     clear hK K
     try simp only [Act.put,List.setIfInBounds_toArray,List.set_cons_zero,List.set_cons_succ]
     refine Qaa (i:=8) (by kernel_rfl) rfl (by rfl) (fun K hK=>?_)
     go_simp
     skip
     refine hK.out _ _ (trivial) (fun hHeld=>?_)
     clear hK K
     try simp only [Act.put,List.setIfInBounds_toArray,List.set_cons_zero,List.set_cons_succ]
     refine wpAnyH_done (by kernel_rfl) ?_ _
     gi_wp2_with fail
     have hL:=(QaH hl1 HBLK.out HO.out HES.out HST.out hsz' H03.out HRV.out HG.out.key HX34.out HWR.out HS5.out hby HOW.out).2
     rw [←HSN.out] at hL
     exact hL
  ·go_simp
   skip
   refine hK.out _ _ (trivial) (fun hHeld=>?_)
   clear hK K
   try simp only [Act.put,List.setIfInBounds_toArray,List.set_cons_zero,List.set_cons_succ]
   refine Qaj 3 (some 40) ?_ hHeld ?_ ?_
   rotate_left
   focus (intro w hSw;(try dsimp only at hSw);go_simp;first | done | with_reducible rfl)
   refine QaI (i:=0) (j:=5) (by kernel_rfl) rfl rfl (by rfl) (by rfl) (fun K hK=>?_) (fun K hK=>?_)
   ·go_simp
    skip
    refine hK.out _ _ (trivial) (fun hHeld=>?_)
    clear hK K
    try simp only [Act.put,List.setIfInBounds_toArray,List.set_cons_zero,List.set_cons_succ]
    refine Qaj 4 (some 41) ?_ hHeld ?_ ?_
    rotate_left
    focus (intro w hSw;(try dsimp only at hSw);go_simp;first | done | with_reducible rfl)
    refine Qaa (i:=5) (by kernel_rfl) rfl (by rfl) (fun K hK=>?_)
    go_simp
    skip
    refine hK.out _ _ (trivial) (fun hHeld=>?_)
    clear hK K
    try simp only [Act.put,List.setIfInBounds_toArray,List.set_cons_zero,List.set_cons_succ]
    refine Qaa (i:=6) (by kernel_rfl) rfl (by rfl) (fun K hK=>?_)
    skip
    refine Qay _ (.tmp 37) (.tmp 42) 50 rfl (w4.heap.size+2) 47 i0 _ 7 104 Tryz.underlying50 hi hz0 hz1' hz2 rfl (by decide) s ys.length (Qae ys) (by rfl) HOWN4.out (fun b=>b=W3.heap.size) ⟨some ⟨W3.heap.size,0,none⟩,1⟩ 1 Qev (by rfl) HZB.out hz1 h63 hby hbase ?_;intro s3 w5 hown5 hwr5 hs5;obtain ⟨g,cap,rfl,hbg,hnc,hcm,lg5,fg5,z0,z1,z2,z3,z4,z5,z6⟩:=row_zero hown5 (QaM ys);have h5:=hwr5.cell0 (o:=0) HX34.out (fun e=>by have:=(hrow0 _ e).1;omega) lg;have cB5:=h5.1.trans cg;have lB5:=h5.2;have fB5:=(hwr5.fz (w.heap.size+1) 0).trans ((HX34.out.frozen (o:=0) lg).trans fg.out);have hgB:¬g=w.heap.size+1:=(by omega);have hBg:¬w.heap.size+1=g:=(by omega);have HOW:=Lib.hid hown5;have HWR:=Lib.hid hwr5;have HS5:=Lib.hid hs5;clear hown5 hwr5 hs5 h5
    refine hK.out _ _ (trivial) (fun hHeld=>?_)
    clear hK K
    try simp only [Act.put,List.setIfInBounds_toArray,List.set_cons_zero,List.set_cons_succ]
    refine Qaj 7 (some 44) ?_ hHeld ?_ ?_
    rotate_left
    focus (intro w hSw;(try dsimp only at hSw);go_simp;first | done | with_reducible rfl)
    refine QaI (i:=8) (j:=9) (by kernel_rfl) rfl rfl (by rfl) (by rfl) (fun K hK=>?_) (fun K hK=>?_)
    ·go_simp
     skip
     refine hK.out _ _ (trivial) (fun hHeld=>?_)
     clear hK K
     try simp only [Act.put,List.setIfInBounds_toArray,List.set_cons_zero,List.set_cons_succ]
     refine Qaa (i:=9) (by kernel_rfl) rfl (by rfl) (fun K hK=>?_)
     go_simp
     skip
     refine hK.out _ _ (trivial) (fun hHeld=>?_)
     clear hK K
     try simp only [Act.put,List.setIfInBounds_toArray,List.set_cons_zero,List.set_cons_succ]
     refine wpAnyH_done (by kernel_rfl) ?_ _
     gi_wp2_with fail
     have hL:=(QaH hl1 HBLK.out HO.out HES.out HST.out hsz' H03.out HRV.out HG.out.key HX34.out HWR.out HS5.out hby HOW.out).1
     rw [←HSN.out] at hL
     exact hL
    ·go_simp
     skip
     refine hK.out _ _ (trivial) (fun hHeld=>?_)
     clear hK K
     try simp only [Act.put,List.setIfInBounds_toArray,List.set_cons_zero,List.set_cons_succ]
     refine Qaa (i:=8) (by kernel_rfl) rfl (by rfl) (fun K hK=>?_)
     go_simp
     skip
     refine hK.out _ _ (trivial) (fun hHeld=>?_)
     clear hK K
     try simp only [Act.put,List.setIfInBounds_toArray,List.set_cons_zero,List.set_cons_succ]
     refine wpAnyH_done (by kernel_rfl) ?_ _
     gi_wp2_with fail
     have hL:=(QaH hl1 HBLK.out HO.out HES.out HST.out hsz' H03.out HRV.out HG.out.key HX34.out HWR.out HS5.out hby HOW.out).2
     rw [←HSN.out] at hL
     exact hL
   ·go_simp
    skip
    refine hK.out _ _ (trivial) (fun hHeld=>?_)
    clear hK K
    try simp only [Act.put,List.setIfInBounds_toArray,List.set_cons_zero,List.set_cons_succ]
    refine Qaa (i:=0) (by kernel_rfl) rfl (by rfl) (fun K hK=>?_)
    go_simp
    skip
    refine hK.out _ _ (trivial) (fun hHeld=>?_)
    clear hK K
    try simp only [Act.put,List.setIfInBounds_toArray,List.set_cons_zero,List.set_cons_succ]
    refine Qaj 4 (some 41) ?_ hHeld ?_ ?_
    rotate_left
    focus (intro w hSw;(try dsimp only at hSw);go_simp;first | done | with_reducible rfl)
    refine Qaa (i:=6) (by kernel_rfl) rfl (by rfl) (fun K hK=>?_)
    skip
    refine Qay _ (.tmp 37) (.tmp 42) 50 rfl (w4.heap.size+2) 47 i0 _ 7 104 Tryz.underlying50 hi hz0 hz1' hz2 rfl (by decide) s ys.length (Qae ys) (by rfl) HOWN4.out (fun b=>b=W3.heap.size) ⟨some ⟨W3.heap.size,0,none⟩,1⟩ 1 Qev (by rfl) HZB.out hz1 h63 hby hbase ?_;intro s3 w5 hown5 hwr5 hs5;obtain ⟨g,cap,rfl,hbg,hnc,hcm,lg5,fg5,z0,z1,z2,z3,z4,z5,z6⟩:=row_zero hown5 (QaM ys);have h5:=hwr5.cell0 (o:=0) HX34.out (fun e=>by have:=(hrow0 _ e).1;omega) lg;have cB5:=h5.1.trans cg;have lB5:=h5.2;have fB5:=(hwr5.fz (w.heap.size+1) 0).trans ((HX34.out.frozen (o:=0) lg).trans fg.out);have hgB:¬g=w.heap.size+1:=(by omega);have hBg:¬w.heap.size+1=g:=(by omega);have HOW:=Lib.hid hown5;have HWR:=Lib.hid hwr5;have HS5:=Lib.hid hs5;clear hown5 hwr5 hs5 h5
    refine hK.out _ _ (trivial) (fun hHeld=>?_)
    clear hK K
    try simp only [Act.put,List.setIfInBounds_toArray,List.set_cons_zero,List.set_cons_succ]
    refine Qaj 7 (some 44) ?_ hHeld ?_ ?_
    rotate_left
    focus (intro w hSw;(try dsimp only at hSw);go_simp;first | done | with_reducible rfl)
    refine QaI (i:=8) (j:=9) (by kernel_rfl) rfl rfl (by rfl) (by rfl) (fun K hK=>?_) (fun K hK=>?_)
    ·go_simp
     skip
     refine hK.out _ _ (trivial) (fun hHeld=>?_)
     clear hK K
     try simp only [Act.put,List.setIfInBounds_toArray,List.set_cons_zero,List.set_cons_succ]
     refine Qaa (i:=9) (by kernel_rfl) rfl (by rfl) (fun K hK=>?_)
     go_simp
     skip
     refine hK.out _ _ (trivial) (fun hHeld=>?_)
     clear hK K
     try simp only [Act.put,List.setIfInBounds_toArray,List.set_cons_zero,List.set_cons_succ]
     refine wpAnyH_done (by kernel_rfl) ?_ _
     gi_wp2_with fail
     have hL:=(QaH hl1 HBLK.out HO.out HES.out HST.out hsz' H03.out HRV.out HG.out.key HX34.out HWR.out HS5.out hby HOW.out).1
     rw [←HSN.out] at hL
     exact hL
    ·go_simp
     skip
     refine hK.out _ _ (trivial) (fun hHeld=>?_)
     clear hK K
     try simp only [Act.put,List.setIfInBounds_toArray,List.set_cons_zero,List.set_cons_succ]
     refine Qaa (i:=8) (by kernel_rfl) rfl (by rfl) (fun K hK=>?_)
     go_simp
     skip
     refine hK.out _ _ (trivial) (fun hHeld=>?_)
     clear hK K
     try simp only [Act.put,List.setIfInBounds_toArray,List.set_cons_zero,List.set_cons_succ]
     refine wpAnyH_done (by kernel_rfl) ?_ _
     gi_wp2_with fail
     have hL:=(QaH hl1 HBLK.out HO.out HES.out HST.out hsz' H03.out HRV.out HG.out.key HX34.out HWR.out HS5.out hby HOW.out).2
     rw [←HSN.out] at hL
     exact hL
  ·go_simp
   skip
   refine hK.out _ _ (trivial) (fun hHeld=>?_)
   clear hK K
   try simp only [Act.put,List.setIfInBounds_toArray,List.set_cons_zero,List.set_cons_succ]
   refine QaI (i:=0) (j:=2) (by kernel_rfl) rfl rfl (by rfl) (by rfl) (fun K hK=>?_) (fun K hK=>?_)
   ·go_simp
    skip
    refine hK.out _ _ (trivial) (fun hHeld=>?_)
    clear hK K
    try simp only [Act.put,List.setIfInBounds_toArray,List.set_cons_zero,List.set_cons_succ]
    refine Qaj 4 (some 41) ?_ hHeld ?_ ?_
    rotate_left
    focus (intro w hSw;(try dsimp only at hSw);go_simp;first | done | with_reducible rfl)
    refine Qaa (i:=2) (by kernel_rfl) rfl (by rfl) (fun K hK=>?_)
    go_simp
    skip
    refine hK.out _ _ (trivial) (fun hHeld=>?_)
    clear hK K
    try simp only [Act.put,List.setIfInBounds_toArray,List.set_cons_zero,List.set_cons_succ]
    refine Qaj 3 (some 40) ?_ hHeld ?_ ?_
    rotate_left
    focus (intro w hSw;(try dsimp only at hSw);go_simp;first | done | with_reducible rfl)
    refine Qaa (i:=6) (by kernel_rfl) rfl (by rfl) (fun K hK=>?_)
    skip
    refine Qay _ (.tmp 37) (.tmp 42) 50 rfl (w4.heap.size+2) 47 i0 _ 7 104 Tryz.underlying50 hi hz0 hz1' hz2 rfl (by decide) s ys.length (Qae ys) (by rfl) HOWN4.out (fun b=>b=W3.heap.size) ⟨some ⟨W3.heap.size,0,none⟩,1⟩ 1 Qev (by rfl) HZB.out hz1 h63 hby hbase ?_;intro s3 w5 hown5 hwr5 hs5;obtain ⟨g,cap,rfl,hbg,hnc,hcm,lg5,fg5,z0,z1,z2,z3,z4,z5,z6⟩:=row_zero hown5 (QaM ys);have h5:=hwr5.cell0 (o:=0) HX34.out (fun e=>by have:=(hrow0 _ e).1;omega) lg;have cB5:=h5.1.trans cg;have lB5:=h5.2;have fB5:=(hwr5.fz (w.heap.size+1) 0).trans ((HX34.out.frozen (o:=0) lg).trans fg.out);have hgB:¬g=w.heap.size+1:=(by omega);have hBg:¬w.heap.size+1=g:=(by omega);have HOW:=Lib.hid hown5;have HWR:=Lib.hid hwr5;have HS5:=Lib.hid hs5;clear hown5 hwr5 hs5 h5
    refine hK.out _ _ (trivial) (fun hHeld=>?_)
    clear hK K
    try simp only [Act.put,List.setIfInBounds_toArray,List.set_cons_zero,List.set_cons_succ]
    refine Qaj 7 (some 44) ?_ hHeld ?_ ?_
    rotate_left
    focus (intro w hSw;(try dsimp only at hSw);go_simp;first | done | with_reducible rfl)
    refine QaI (i:=8) (j:=9) (by kernel_rfl) rfl rfl (by rfl) (by rfl) (fun K hK=>?_) (fun K hK=>?_)
    ·go_simp
     skip
     refine hK.out _ _ (trivial) (fun hHeld=>?_)
     clear hK K
     try simp only [Act.put,List.setIfInBounds_toArray,List.set_cons_zero,List.set_cons_succ]
     refine Qaa (i:=9) (by kernel_rfl) rfl (by rfl) (fun K hK=>?_)
     go_simp
     skip
     refine hK.out _ _ (trivial) (fun hHeld=>?_)
     clear hK K
     try simp only [Act.put,List.setIfInBounds_toArray,List.set_cons_zero,List.set_cons_succ]
     refine wpAnyH_done (by kernel_rfl) ?_ _
     gi_wp2_with fail
     have hL:=(QaH hl1 HBLK.out HO.out HES.out HST.out hsz' H03.out HRV.out HG.out.key HX34.out HWR.out HS5.out hby HOW.out).1
     rw [←HSN.out] at hL
     exact hL
    ·go_simp
     skip
     refine hK.out _ _ (trivial) (fun hHeld=>?_)
     clear hK K
     try simp only [Act.put,List.setIfInBounds_toArray,List.set_cons_zero,List.set_cons_succ]
     refine Qaa (i:=8) (by kernel_rfl) rfl (by rfl) (fun K hK=>?_)
     go_simp
     skip
     refine hK.out _ _ (trivial) (fun hHeld=>?_)
     clear hK K
     try simp only [Act.put,List.setIfInBounds_toArray,List.set_cons_zero,List.set_cons_succ]
     refine wpAnyH_done (by kernel_rfl) ?_ _
     gi_wp2_with fail
     have hL:=(QaH hl1 HBLK.out HO.out HES.out HST.out hsz' H03.out HRV.out HG.out.key HX34.out HWR.out HS5.out hby HOW.out).2
     rw [←HSN.out] at hL
     exact hL
   ·go_simp
    skip
    refine hK.out _ _ (trivial) (fun hHeld=>?_)
    clear hK K
    try simp only [Act.put,List.setIfInBounds_toArray,List.set_cons_zero,List.set_cons_succ]
    refine Qaj 3 (some 40) ?_ hHeld ?_ ?_
    rotate_left
    focus (intro w hSw;(try dsimp only at hSw);go_simp;first | done | with_reducible rfl)
    refine Qaa (i:=0) (by kernel_rfl) rfl (by rfl) (fun K hK=>?_)
    go_simp
    skip
    refine hK.out _ _ (trivial) (fun hHeld=>?_)
    clear hK K
    try simp only [Act.put,List.setIfInBounds_toArray,List.set_cons_zero,List.set_cons_succ]
    refine Qaj 4 (some 41) ?_ hHeld ?_ ?_
    rotate_left
    focus (intro w hSw;(try dsimp only at hSw);go_simp;first | done | with_reducible rfl)
    refine Qaa (i:=6) (by kernel_rfl) rfl (by rfl) (fun K hK=>?_)
    skip
    refine Qay _ (.tmp 37) (.tmp 42) 50 rfl (w4.heap.size+2) 47 i0 _ 7 104 Tryz.underlying50 hi hz0 hz1' hz2 rfl (by decide) s ys.length (Qae ys) (by rfl) HOWN4.out (fun b=>b=W3.heap.size) ⟨some ⟨W3.heap.size,0,none⟩,1⟩ 1 Qev (by rfl) HZB.out hz1 h63 hby hbase ?_;intro s3 w5 hown5 hwr5 hs5;obtain ⟨g,cap,rfl,hbg,hnc,hcm,lg5,fg5,z0,z1,z2,z3,z4,z5,z6⟩:=row_zero hown5 (QaM ys);have h5:=hwr5.cell0 (o:=0) HX34.out (fun e=>by have:=(hrow0 _ e).1;omega) lg;have cB5:=h5.1.trans cg;have lB5:=h5.2;have fB5:=(hwr5.fz (w.heap.size+1) 0).trans ((HX34.out.frozen (o:=0) lg).trans fg.out);have hgB:¬g=w.heap.size+1:=(by omega);have hBg:¬w.heap.size+1=g:=(by omega);have HOW:=Lib.hid hown5;have HWR:=Lib.hid hwr5;have HS5:=Lib.hid hs5;clear hown5 hwr5 hs5 h5
    refine hK.out _ _ (trivial) (fun hHeld=>?_)
    clear hK K
    try simp only [Act.put,List.setIfInBounds_toArray,List.set_cons_zero,List.set_cons_succ]
    refine Qaj 7 (some 44) ?_ hHeld ?_ ?_
    rotate_left
    focus (intro w hSw;(try dsimp only at hSw);go_simp;first | done | with_reducible rfl)
    refine QaI (i:=8) (j:=9) (by kernel_rfl) rfl rfl (by rfl) (by rfl) (fun K hK=>?_) (fun K hK=>?_)
    ·go_simp
     skip
     refine hK.out _ _ (trivial) (fun hHeld=>?_)
     clear hK K
     try simp only [Act.put,List.setIfInBounds_toArray,List.set_cons_zero,List.set_cons_succ]
     refine Qaa (i:=9) (by kernel_rfl) rfl (by rfl) (fun K hK=>?_)
     go_simp
     skip
     refine hK.out _ _ (trivial) (fun hHeld=>?_)
     clear hK K
     try simp only [Act.put,List.setIfInBounds_toArray,List.set_cons_zero,List.set_cons_succ]
     refine wpAnyH_done (by kernel_rfl) ?_ _
     gi_wp2_with fail
     have hL:=(QaH hl1 HBLK.out HO.out HES.out HST.out hsz' H03.out HRV.out HG.out.key HX34.out HWR.out HS5.out hby HOW.out).1
     rw [←HSN.out] at hL
     exact hL
    ·go_simp
     skip
     refine hK.out _ _ (trivial) (fun hHeld=>?_)
     clear hK K
     try simp only [Act.put,List.setIfInBounds_toArray,List.set_cons_zero,List.set_cons_succ]
     refine Qaa (i:=8) (by kernel_rfl) rfl (by rfl) (fun K hK=>?_)
     go_simp
     skip
     refine hK.out _ _ (trivial) (fun hHeld=>?_)
     clear hK K
     try simp only [Act.put,List.setIfInBounds_toArray,List.set_cons_zero,List.set_cons_succ]
     refine wpAnyH_done (by kernel_rfl) ?_ _
     gi_wp2_with fail
     have hL:=(QaH hl1 HBLK.out HO.out HES.out HST.out hsz' H03.out HRV.out HG.out.key HX34.out HWR.out HS5.out hby HOW.out).2
     rw [←HSN.out] at hL
     exact hL
 case done=>
  rintro D xs C W hD hS ⟨⟨s',ys,rfl,hblk,ho,hes⟩,hst,hsz⟩ hDk
  have cL:W.cell? ⟨w.heap.size+1,0,none⟩=some (.slice s'.a ys.length s'.c):=hblk.cell 0
  have lL:=hblk.lt
  have hk':St (fun b=>b=D) W (W.putObj D (.deferred none)):=St.put hDk rfl rfl
  have hrow0:∀ b,s'.row=some b→w4.heap.size+2≤b∧b<W.heap.size:=fun b hb=>Qab ho.own hb
  have hzx:=HX.out.size
  have hzk:=hk'.size
  have hfin:QfF (Qau lo hi' op (Qak T)) w (.returned (.tuple #[.slice s'.a ys.length s'.c,.int .i64 0])) (W.putObj D (.deferred none)):=by
   refine ⟨s',ys,rfl,by rw [hes];exact hS,?_,?_⟩
   ·refine (HX.out.step hst (fun b hb=>by omega)).step hk' fun b hb=>?_
    omega
   ·exact ((ho.agree' (hk'.agree.mono fun i hi=>⟨hi.2,by have:=hi.1;omega⟩) hk'.size).es).mono fun b hb=>⟨by have:=hb.1;omega,hb.2⟩
  have HFIN:=Lib.hid hfin
  have HDK:=Lib.hid hDk
  clear hblk ho hes hst hsz hDk hk' hfin hS
  gi_wp2_with fail
  refine ⟨by simp,.inl ⟨_,_,rfl,run_takeDeferred HDK.out,?_⟩⟩
  refine ⟨.tuple #[.slice s'.a ys.length s'.c,.int .i64 0],?_,HFIN.out⟩
  simp [results,Tryz.f19,go_sem]
end Go.Proofs.YtohajcflklejjaaGreat
