/- What the theorem needs of the texts RoundD, Curs2, Curs3, RangeC3, DiffM: no condition of its own. -/
import Derived.OrdersIn
import Derived.Shelf.Abstract
import Derived.Shelf.RegionOpen
import Derived.TacticsInMore
import Derived.LoopNIn
import Derived.LoopIn
import Derived.Laws.IdiomStrings
import Derived.WalkArith
import Derived.Test.YtohajcflklejjaaGreatPha
import Derived.Test.YtohajcflklejjaaGreatPhb
import Derived.Test.YtohajcflklejjaaGreatPhc
import Derived.Test.YtohajcflklejjaaGreatPhd
import Derived.Test.YtohajcflklejjaaGreatPhe
import Derived.Test.YtohajcflklejjaaGreatPhf
set_option maxRecDepth 100000
set_option maxHeartbeats 4000000
namespace Go.Proofs.YtohajcflklejjaaGreat
open Go.RowKit
set_option linter.unusedVariables false
def Qa7:Op→Bool
 | .call c=>match c.callee with
   | .builtin .append | .builtin .len | .builtin .cap | .builtin .copy | .builtin .max | .builtin .min=>true
   | _=>false
 | .go _ | .defer _ | .send _ _ | .recv _ _ _ | .select _ _ | .panic _=>false
 | _=>true
theorem Qpc {P:Program} {w w':World} (s:Sem Value) (row:String) (args:Array Value):(do pure (Next.value (←s)):Sem Next).run P w≠.ok (.row row args) w':=by
 intro h
 rw [Sem.run_bind] at h
 cases hs:s.run P w with
 | ok v w1=>rw [hs] at h;simp [Result.andThen] at h
 | halt x w1=>rw [hs] at h;simp [Result.andThen] at h
theorem Qpb {P:Program} {w w':World} (s:Sem Unit) (row:String) (args:Array Value):(do s;pure Next.skip:Sem Next).run P w≠.ok (.row row args) w':=by
 intro h
 rw [Sem.run_bind] at h
 cases hs:s.run P w with
 | ok v w1=>rw [hs] at h;simp [Result.andThen] at h
 | halt x w1=>rw [hs] at h;simp [Result.andThen] at h
theorem Qo3 {w':World} (r:Result Value) (row:String) (args:Array Value):(r.andThen fun a w=>Result.ok (Next.value a) w)≠.ok (.row row args) w':=by cases r <;> simp [Result.andThen]
theorem Qfc {P:Program} {w w':World} {α:Type} {s:Sem α} {f:α→Sem Next} {row:String} {args:Array Value} (h:(s >>= f).run P w=.ok (.row row args) w'):∃ a w1,(f a).run P w1=.ok (.row row args) w':=by
 rw [Sem.run_bind] at h
 cases hs:s.run P w with
 | ok a w1=>rw [hs] at h;exact ⟨a,w1,by simpa [Result.andThen] using h⟩
 | halt x w1=>rw [hs] at h;simp [Result.andThen] at h
theorem Qc5 {P:Program} {w w':World} {row:String} {args:Array Value}:(runtimePanic .nilDeref:Sem Next).run P w≠.ok (.row row args) w':=by
 intro h
 simp [runtimePanic,go_sem] at h
theorem Qgt {P:Program} {ρ:Operand→Value} {o:Oper} {w w':World} (h:Qa7 o.op=true) (row:String) (args:Array Value):(execOp ρ o).run P w≠.ok (.row row args) w':=by
 unfold execOp
 cases ho:o.op with
 | call c=>
   rw [ho] at h
   cases hc:c.callee with
   | builtin b=>
     simp only [Qa7,hc] at h
     cases b <;> first | exact absurd h (by decide) | (simp only [resolve,hc,Sem.run_bind,Sem.run_pure,Result.andThen_ok,invoke,builtin];exact Qo3 _ _ _)
   | _=>simp [Qa7,hc] at h
 | nilCheck x=>
   intro h'
   simp only at h'
   split at h'
   ·exact Qc5 h'
   ·exact Qc5 h'
   ·exact Qc5 h'
   ·split at h'
    ·exact Qc5 h'
    ·obtain ⟨a1,w1,h1⟩:=Qfc h'
     obtain ⟨a2,w2,h2⟩:=Qfc h1
     split at h2
     ·obtain ⟨a3,w3,h3⟩:=Qfc h2
      simp at h3
     simp at h2
    simp at h'
   simp at h'
 | pick c x y=>
   intro h'
   simp only at h'
   rw [Sem.run_bind] at h'
   cases hs:(asBool (ρ c)).run P w with
   | ok v w1=>rw [hs] at h';simp [Result.andThen] at h'
   | halt x w1=>rw [hs] at h';simp [Result.andThen] at h'
 | _=>
   simp only
   first
   | exact Qpc _ _ _
   | exact Qpb _ _ _
   | (intro h;simp at h;done)
   | (rw [ho] at h;simp [Qa7] at h)
theorem QfD {o:Oper} (h:Qa7 o.op=true):∀ c,o.op≠.defer c:=fun c e=>by rw [e] at h;simp [Qa7] at h
theorem QeU {P:Program} {ops:Array Oper} {Q:Exit→Act→World→Prop} {l n:Nat} (hp:∀ (i:Nat) (o:Oper),ops[i]? = some o→Qa7 o.op=true) (hQ:¬LetsOut Q) {i:Nat} {K K':Act→World→Prop} {a:Act} {w:World}
  (hK:∀ a w,K a w→K' a w) (h:wpOp P ops Q i K a w):wpOpIn (Fence.wide.inRound l) n P ops Q i K' a w:=by
 unfold wpOp at h
 unfold wpOpIn
 cases ho:ops[i]? with
 | none=>simp only [ho] at h ⊢;exact hK _ _ h
 | some o=>
   simp only [ho] at h ⊢
   split at h
   ·rename_i hw
    rw [if_pos hw]
    rcases h with h | ⟨-,h⟩
    ·unfold Oper.wpIn
     refine ⟨fun _ _=>trivial,?_⟩
     rw [show (Fence.wide.inRound l).round=some l from rfl,Oper.semAt_some l _ o (QfD (hp i o ho))]
     unfold Oper.wp at h
     have hr:=fun row args w'=>Qgt (P:=P) (ρ:=a.eval) (w:=w) (w':=w') (hp i o ho) row args
     generalize (execOp a.eval o).run P w=r at *
     cases r with
     | ok x w'=>
       cases x <;> simp only [Oper.upon,Oper.uponIn] at h ⊢
       case value v=>exact hK _ _ h
       case skip=>exact hK _ _ h
       case defer d=>exact hK _ _ h
       case enter f args=>
        refine ⟨(fun hd=>by simp [Fence.wide] at hd),(CallsIn.inRound l (callsIn_wide.2 h)).mono fun e w'' he=>?_⟩
        cases e with
        | returned v=>exact hK _ _ he
        | panicked c=>exact he
        | outgrown=>exact he
       case row row args=>exact absurd rfl (hr row args w')
     | halt x w'=>cases x <;> simp only [Oper.upon,Oper.uponIn] at h ⊢ <;> exact h
    exact absurd h hQ
   rename_i hw
   rw [if_neg hw]
   exact ⟨fun _ _=>trivial,hK _ _ h⟩
theorem Qef {P:Program} {md:Region.Mode} {ops:Array Oper} {Q:Exit→Act→World→Prop} {S:World→Prop} {l n:Nat} (hp:∀ (i:Nat) (o:Oper),ops[i]? = some o→Qa7 o.op=true) (hQ:¬LetsOut Q) :
  ∀ fuel listed a w,wpAnyH P md ops Q S fuel listed a w→wpAnyIn (Fence.wide.inRound l) n P md ops Q fuel listed a w:=by
 intro fuel
 induction fuel with
 | zero=>exact fun _ _ _ h=>h
 | succ fuel ih=>
   intro listed a w h
   exact ⟨h.1,fun i hi=>QeU hp hQ (fun a' w' h'=>ih _ a' w' h'.2) (h.2 i hi)⟩
theorem QdV {P:Program} {id l n:Nat} {ops:Array Oper} {Q:Exit→Act→World→Prop} {S:World→Prop} {a:Act} {w:World} (hp:(ops.all fun o=>Qa7 o.op)=true) (hQ:¬LetsOut Q) (hm:P.follows .mixedOrders=true) (hS:S w.drew)
  (h:S w.drew→wpAnyH P .any ops Q S ops.size (Array.replicate ops.size false) a w.drew):(Code.region id ops true).wpIn (Fence.wide.inRound l) n P Q a w:=
 wpIn_region_any hm (Qef (fun i o ho=>by
  have:=Array.all_eq_true.1 hp i (Array.getElem?_eq_some_iff.1 ho).1
  rwa [(Array.getElem?_eq_some_iff.1 ho).2] at this) hQ _ _ _ _ (h hS))
end Go.Proofs.YtohajcflklejjaaGreat
namespace Go.Proofs.YtohajcflklejjaaGreat
open Go.RowKit Go.Shelf
set_option linter.unusedVariables false
set_option linter.unusedSimpArgs false
attribute [local go_sem] Oper.semAt_some
def Qk7 (e f:Ent) (sl so sl' so':Sl):CE:=⟨⟨e.1,true,e.2,true,f.2⟩,sl,so,sl',so'⟩
def QnM:CE:=⟨⟨ByteArray.empty,false,zeroV,false,zeroV⟩,Sl.none,Sl.none,Sl.none,Sl.none⟩
theorem Qla {W:World} {b:Nat} {t:TypeId} {a0 a1 a2 a3 a4 a5 a6 a7 a8 a9 a10 a11 a12 a13 a14 c0 c1 c2 c3 c4 c5 c6 c7 c8 c9 c10 c11 c12 c13 c14:Value} (h:Blk W b t #[a0,a1,a2,a3,a4,a5,a6,a7,a8,a9,a10,a11,a12,a13,a14]) :
  Blk (((((((((((((((W.setCell ⟨b,0,none⟩ c0).setCell ⟨b,1,none⟩ c1).setCell ⟨b,2,none⟩ c2).setCell ⟨b,3,none⟩ c3).setCell ⟨b,4,none⟩ c4).setCell ⟨b,5,none⟩ c5).setCell ⟨b,6,none⟩ c6).setCell ⟨b,7,none⟩ c7).setCell ⟨b,8,none⟩ c8).setCell ⟨b,9,none⟩ c9).setCell ⟨b,10,none⟩ c10).setCell ⟨b,11,none⟩ c11).setCell ⟨b,12,none⟩ c12).setCell ⟨b,13,none⟩ c13).setCell ⟨b,14,none⟩ c14) b t #[c0,c1,c2,c3,c4,c5,c6,c7,c8,c9,c10,c11,c12,c13,c14]:=by
 have h0:Blk _ b t #[c0,a1,a2,a3,a4,a5,a6,a7,a8,a9,a10,a11,a12,a13,a14]:=h.QaN 0 c0
 have h1:Blk _ b t #[c0,c1,a2,a3,a4,a5,a6,a7,a8,a9,a10,a11,a12,a13,a14]:=h0.QaN 1 c1
 have h2:Blk _ b t #[c0,c1,c2,a3,a4,a5,a6,a7,a8,a9,a10,a11,a12,a13,a14]:=h1.QaN 2 c2
 have h3:Blk _ b t #[c0,c1,c2,c3,a4,a5,a6,a7,a8,a9,a10,a11,a12,a13,a14]:=h2.QaN 3 c3
 have h4:Blk _ b t #[c0,c1,c2,c3,c4,a5,a6,a7,a8,a9,a10,a11,a12,a13,a14]:=h3.QaN 4 c4
 have h5:Blk _ b t #[c0,c1,c2,c3,c4,c5,a6,a7,a8,a9,a10,a11,a12,a13,a14]:=h4.QaN 5 c5
 have h6:Blk _ b t #[c0,c1,c2,c3,c4,c5,c6,a7,a8,a9,a10,a11,a12,a13,a14]:=h5.QaN 6 c6
 have h7:Blk _ b t #[c0,c1,c2,c3,c4,c5,c6,c7,a8,a9,a10,a11,a12,a13,a14]:=h6.QaN 7 c7
 have h8:Blk _ b t #[c0,c1,c2,c3,c4,c5,c6,c7,c8,a9,a10,a11,a12,a13,a14]:=h7.QaN 8 c8
 have h9:Blk _ b t #[c0,c1,c2,c3,c4,c5,c6,c7,c8,c9,a10,a11,a12,a13,a14]:=h8.QaN 9 c9
 have h10:Blk _ b t #[c0,c1,c2,c3,c4,c5,c6,c7,c8,c9,c10,a11,a12,a13,a14]:=h9.QaN 10 c10
 have h11:Blk _ b t #[c0,c1,c2,c3,c4,c5,c6,c7,c8,c9,c10,c11,a12,a13,a14]:=h10.QaN 11 c11
 have h12:Blk _ b t #[c0,c1,c2,c3,c4,c5,c6,c7,c8,c9,c10,c11,c12,a13,a14]:=h11.QaN 12 c12
 have h13:Blk _ b t #[c0,c1,c2,c3,c4,c5,c6,c7,c8,c9,c10,c11,c12,c13,a14]:=h12.QaN 13 c13
 have h14:Blk _ b t #[c0,c1,c2,c3,c4,c5,c6,c7,c8,c9,c10,c11,c12,c13,c14]:=h13.QaN 14 c14
 exact h14
theorem QoC {w W:World} {b:Nat} {c0 c1 c2 c3 c4 c5 c6 c7 c8 c9 c10 c11 c12 c13 c14:Value} (h:Ext w W) (hb:w.heap.size≤b):Ext w (((((((((((((((W.setCell ⟨b,0,none⟩ c0).setCell ⟨b,1,none⟩ c1).setCell ⟨b,2,none⟩ c2).setCell ⟨b,3,none⟩ c3).setCell ⟨b,4,none⟩ c4).setCell ⟨b,5,none⟩ c5).setCell ⟨b,6,none⟩ c6).setCell ⟨b,7,none⟩ c7).setCell ⟨b,8,none⟩ c8).setCell ⟨b,9,none⟩ c9).setCell ⟨b,10,none⟩ c10).setCell ⟨b,11,none⟩ c11).setCell ⟨b,12,none⟩ c12).setCell ⟨b,13,none⟩ c13).setCell ⟨b,14,none⟩ c14):=by
 have s:∀ {X:World} (i:Nat) (v:Value),Ext w X→Ext w (X.setCell ⟨b,i,none⟩ v):=fun i v hx=>hx.setCell (p:=⟨b,i,none⟩) hb v
 exact s 14 _ (s 13 _ (s 12 _ (s 11 _ (s 10 _ (s 9 _ (s 8 _ (s 7 _ (s 6 _ (s 5 _ (s 4 _ (s 3 _ (s 2 _ (s 1 _ (s 0 _ (h)))))))))))))))
theorem Qgw {tm:Array Value} {W:World} {b:Nat} {bb:Bool} {c0 c1 c2 c3 c4 c5 c6 c7 c8 c9 c10 c11 c12 c13 c14:Value} (h4:tm.getD 4 undef=.pointer (some ⟨b,0,none⟩)) (h5:tm.getD 5 undef=.bool bb) (hb:Blk W b 54 #[c0,c1,c2,c3,c4,c5,c6,c7,c8,c9,c10,c11,c12,c13,c14]) :
  (results Tryz.f129 tm).run Tryz.prog W=.ok (.tuple #[.agg #[c0,c1,c2,c3,c4,c5,c6,c7,c8,c9,c10,c11,c12,c13,c14],.bool bb]) W:=by
 have r0:W.cell? ⟨b,0,none⟩=some c0:=hb.cell 0
 have r1:W.cell? ⟨b,1,none⟩=some c1:=hb.cell 1
 have r2:W.cell? ⟨b,2,none⟩=some c2:=hb.cell 2
 have r3:W.cell? ⟨b,3,none⟩=some c3:=hb.cell 3
 have r4:W.cell? ⟨b,4,none⟩=some c4:=hb.cell 4
 have r5:W.cell? ⟨b,5,none⟩=some c5:=hb.cell 5
 have r6:W.cell? ⟨b,6,none⟩=some c6:=hb.cell 6
 have r7:W.cell? ⟨b,7,none⟩=some c7:=hb.cell 7
 have r8:W.cell? ⟨b,8,none⟩=some c8:=hb.cell 8
 have r9:W.cell? ⟨b,9,none⟩=some c9:=hb.cell 9
 have r10:W.cell? ⟨b,10,none⟩=some c10:=hb.cell 10
 have r11:W.cell? ⟨b,11,none⟩=some c11:=hb.cell 11
 have r12:W.cell? ⟨b,12,none⟩=some c12:=hb.cell 12
 have r13:W.cell? ⟨b,13,none⟩=some c13:=hb.cell 13
 have r14:W.cell? ⟨b,14,none⟩=some c14:=hb.cell 14
 simp only [Array.getD_eq_getD_getElem?] at h4 h5
 simp [results,Tryz.results129,go_sem,h4,h5,r0,r1,r2,r3,r4,r5,r6,r7,r8,r9,r10,r11,r12,r13,r14]
theorem Qj0 {w:World} {e f:Ent} {sl so sl' so':Sl} (h:RV w (Lt w.heap.size) e.2 sl so) (h':RV w (Lt w.heap.size) f.2 sl' so') :
  Calls Tryz.prog 129 #[Qem e.1 e.2 sl so,Qem f.1 f.2 sl' so'] w fun e' w'=>e'=.returned (.tuple #[(if Qbq e.2 f.2=0 then QnM else Qk7 e f sl so sl' so').agg,.bool (decide (Qbq e.2 f.2≠0))])∧Ext w w':=by
 have hs:∀ W,Ext w W→Calls Tryz.prog 150 #[Qb5 e.2 sl so,Qb5 f.2 sl' so'] W fun e' w'=>e'=.returned (.bool (decide (Qbq e.2 f.2=0)))∧Ext W w':=fun W hW=>
  Qhf ((h.agree (hW.agree fun _ h=>h)).mono fun i hi=>Nat.lt_of_lt_of_le hi hW.size) ((h'.agree (hW.agree fun _ h=>h)).mono fun i hi=>Nat.lt_of_lt_of_le hi hW.size)
 clear h h'
 obtain ⟨k,v⟩:=e
 obtain ⟨k',v'⟩:=f
 dsimp only at hs ⊢
 by_cases hc:Qbq v v'=0
 ·rw [if_pos hc,decide_eq_false (by simp [hc])]
  rw [decide_eq_true hc] at hs
  have HS:=Lib.hid hs
  clear hs hc
  go_enter Tryz.func129,Tryz.ntmps129
  go_wp2_with fail
  generalize hW0:World.alloc (World.alloc (World.alloc _ _) _) _=W0
  obtain ⟨hx0,hz0,hb0,hb1,hb2⟩:=QaS w _ _ _ _ _ _ W0 hW0
  clear hW0
  refine (HS.out _ hx0).mono ?_
  rintro e w1 ⟨rfl,hx1⟩
  have hb3:=hb2.ext hx1
  have HB3:=Lib.hid hb3
  have HX:=Lib.hid (hx0.trans hx1)
  have l3:=hb3.lt
  have f3:=fun i=>hb3.frozen i
  have q0:w1.cell? ⟨w.heap.size+1+1,0,none⟩=some (.string ByteArray.empty):=hb3.cell 0
  have q1:w1.cell? ⟨w.heap.size+1+1,1,none⟩=some (.bool false):=hb3.cell 1
  have q2:w1.cell? ⟨w.heap.size+1+1,2,none⟩=some (.int .i64 0):=hb3.cell 2
  have q3:w1.cell? ⟨w.heap.size+1+1,3,none⟩=some (.bool false):=hb3.cell 3
  have q4:w1.cell? ⟨w.heap.size+1+1,4,none⟩=some (.int .i64 0):=hb3.cell 4
  have q5:w1.cell? ⟨w.heap.size+1+1,5,none⟩=some (.string ByteArray.empty):=hb3.cell 5
  have q6:w1.cell? ⟨w.heap.size+1+1,6,none⟩=some (.slice none 0 0):=hb3.cell 6
  have q7:w1.cell? ⟨w.heap.size+1+1,7,none⟩=some (.slice none 0 0):=hb3.cell 7
  have q8:w1.cell? ⟨w.heap.size+1+1,8,none⟩=some (.bool false):=hb3.cell 8
  have q9:w1.cell? ⟨w.heap.size+1+1,9,none⟩=some (.int .i64 0):=hb3.cell 9
  have q10:w1.cell? ⟨w.heap.size+1+1,10,none⟩=some (.bool false):=hb3.cell 10
  have q11:w1.cell? ⟨w.heap.size+1+1,11,none⟩=some (.int .i64 0):=hb3.cell 11
  have q12:w1.cell? ⟨w.heap.size+1+1,12,none⟩=some (.string ByteArray.empty):=hb3.cell 12
  have q13:w1.cell? ⟨w.heap.size+1+1,13,none⟩=some (.slice none 0 0):=hb3.cell 13
  have q14:w1.cell? ⟨w.heap.size+1+1,14,none⟩=some (.slice none 0 0):=hb3.cell 14
  clear hx0 hx1 hb0 hb1 hb2 hb3
  go_wp2_with fail
  generalize hW9:(((((((((((((((w1.setCell ⟨w.heap.size+1+1,0,none⟩ (.string ⟨#[]⟩)).setCell ⟨w.heap.size+1+1,1,none⟩ (.bool false)).setCell ⟨w.heap.size+1+1,2,none⟩ (.int .i64 0)).setCell ⟨w.heap.size+1+1,3,none⟩ (.bool false)).setCell ⟨w.heap.size+1+1,4,none⟩ (.int .i64 0)).setCell ⟨w.heap.size+1+1,5,none⟩ (.string ⟨#[]⟩)).setCell ⟨w.heap.size+1+1,6,none⟩ (.slice none 0 0)).setCell ⟨w.heap.size+1+1,7,none⟩ (.slice none 0 0)).setCell ⟨w.heap.size+1+1,8,none⟩ (.bool false)).setCell ⟨w.heap.size+1+1,9,none⟩ (.int .i64 0)).setCell ⟨w.heap.size+1+1,10,none⟩ (.bool false)).setCell ⟨w.heap.size+1+1,11,none⟩ (.int .i64 0)).setCell ⟨w.heap.size+1+1,12,none⟩ (.string ⟨#[]⟩)).setCell ⟨w.heap.size+1+1,13,none⟩ (.slice none 0 0)).setCell ⟨w.heap.size+1+1,14,none⟩ (.slice none 0 0))=W9
  have hb9:Blk W9 (w.heap.size+1+1) 54 #[.string ⟨#[]⟩,.bool false,.int .i64 0,.bool false,.int .i64 0,.string ⟨#[]⟩,.slice none 0 0,.slice none 0 0,.bool false,.int .i64 0,.bool false,.int .i64 0,.string ⟨#[]⟩,.slice none 0 0,.slice none 0 0]:=by rw [←hW9];exact Qla HB3.out
  have hx9:Ext w W9:=by rw [←hW9];exact QoC HX.out (by omega)
  clear hW9 q0 q1 q2 q3 q4 q5 q6 q7 q8 q9 q10 q11 q12 q13 q14 f3
  refine bodyPost_ret (Qgw rfl rfl hb9) rfl ?_
  exact ⟨rfl,hx9⟩
 rw [if_neg hc,decide_eq_true hc]
 rw [decide_eq_false hc] at hs
 have HS:=Lib.hid hs
 clear hs hc
 go_enter Tryz.func129,Tryz.ntmps129
 go_wp2_with fail
 generalize hW0:World.alloc (World.alloc (World.alloc _ _) _) _=W0
 obtain ⟨hx0,hz0,hb0,hb1,hb2⟩:=QaS w _ _ _ _ _ _ W0 hW0
 clear hW0
 refine (HS.out _ hx0).mono ?_
 rintro e w1 ⟨rfl,hx1⟩
 have hb3:=hb2.ext hx1
 have HB3:=Lib.hid hb3
 have HX:=Lib.hid (hx0.trans hx1)
 have l3:=hb3.lt
 have f3:=fun i=>hb3.frozen i
 have q0:w1.cell? ⟨w.heap.size+1+1,0,none⟩=some (.string ByteArray.empty):=hb3.cell 0
 have q1:w1.cell? ⟨w.heap.size+1+1,1,none⟩=some (.bool false):=hb3.cell 1
 have q2:w1.cell? ⟨w.heap.size+1+1,2,none⟩=some (.int .i64 0):=hb3.cell 2
 have q3:w1.cell? ⟨w.heap.size+1+1,3,none⟩=some (.bool false):=hb3.cell 3
 have q4:w1.cell? ⟨w.heap.size+1+1,4,none⟩=some (.int .i64 0):=hb3.cell 4
 have q5:w1.cell? ⟨w.heap.size+1+1,5,none⟩=some (.string ByteArray.empty):=hb3.cell 5
 have q6:w1.cell? ⟨w.heap.size+1+1,6,none⟩=some (.slice none 0 0):=hb3.cell 6
 have q7:w1.cell? ⟨w.heap.size+1+1,7,none⟩=some (.slice none 0 0):=hb3.cell 7
 have q8:w1.cell? ⟨w.heap.size+1+1,8,none⟩=some (.bool false):=hb3.cell 8
 have q9:w1.cell? ⟨w.heap.size+1+1,9,none⟩=some (.int .i64 0):=hb3.cell 9
 have q10:w1.cell? ⟨w.heap.size+1+1,10,none⟩=some (.bool false):=hb3.cell 10
 have q11:w1.cell? ⟨w.heap.size+1+1,11,none⟩=some (.int .i64 0):=hb3.cell 11
 have q12:w1.cell? ⟨w.heap.size+1+1,12,none⟩=some (.string ByteArray.empty):=hb3.cell 12
 have q13:w1.cell? ⟨w.heap.size+1+1,13,none⟩=some (.slice none 0 0):=hb3.cell 13
 have q14:w1.cell? ⟨w.heap.size+1+1,14,none⟩=some (.slice none 0 0):=hb3.cell 14
 obtain ⟨e0,e1,e2,e3,e4,e5,e6⟩:=(hb0.ext hx1).c7
 obtain ⟨d0,d1,d2,d3,d4,d5,d6⟩:=(hb1.ext hx1).c7
 have le:=(hb0.ext hx1).lt
 have ld:=(hb1.ext hx1).lt
 clear hx0 hx1 hb0 hb1 hb2 hb3
 go_wp2_with fail
 clear e0 e1 e2 e3 e4 e5 e6 d0 d1 d2 d3 d4 d5 d6 le ld
 generalize hW9:(((((((((((((((w1.setCell ⟨w.heap.size+1+1,0,none⟩ (.string k)).setCell ⟨w.heap.size+1+1,1,none⟩ (.bool true)).setCell ⟨w.heap.size+1+1,2,none⟩ (.int .i64 v.kind)).setCell ⟨w.heap.size+1+1,3,none⟩ (.bool v.b)).setCell ⟨w.heap.size+1+1,4,none⟩ (.int .i64 v.i)).setCell ⟨w.heap.size+1+1,5,none⟩ (.string v.t)).setCell ⟨w.heap.size+1+1,6,none⟩ (.slice sl.a v.l.length sl.c)).setCell ⟨w.heap.size+1+1,7,none⟩ (.slice so.a v.ok.length so.c)).setCell ⟨w.heap.size+1+1,8,none⟩ (.bool true)).setCell ⟨w.heap.size+1+1,9,none⟩ (.int .i64 v'.kind)).setCell ⟨w.heap.size+1+1,10,none⟩ (.bool v'.b)).setCell ⟨w.heap.size+1+1,11,none⟩ (.int .i64 v'.i)).setCell ⟨w.heap.size+1+1,12,none⟩ (.string v'.t)).setCell ⟨w.heap.size+1+1,13,none⟩ (.slice sl'.a v'.l.length sl'.c)).setCell ⟨w.heap.size+1+1,14,none⟩ (.slice so'.a v'.ok.length so'.c))=W9
 have hb9:Blk W9 (w.heap.size+1+1) 54 #[.string k,.bool true,.int .i64 v.kind,.bool v.b,.int .i64 v.i,.string v.t,.slice sl.a v.l.length sl.c,.slice so.a v.ok.length so.c,.bool true,.int .i64 v'.kind,.bool v'.b,.int .i64 v'.i,.string v'.t,.slice sl'.a v'.l.length sl'.c,.slice so'.a v'.ok.length so'.c]:=by rw [←hW9];exact Qla HB3.out
 have hx9:Ext w W9:=by rw [←hW9];exact QoC HX.out (by omega)
 clear hW9 q0 q1 q2 q3 q4 q5 q6 q7 q8 q9 q10 q11 q12 q13 q14 f3
 refine bodyPost_ret (Qgw rfl rfl hb9) rfl ?_
 exact ⟨rfl,hx9⟩
abbrev Qpl (x:Nat × Value):Array Value:=#[.int .i64 x.1,x.2]
structure QnN (vs:List Value) (pre:List (Nat × Value)) (x:Nat × Value) (W0 W1:World):Prop where
 at_:x.1+pre.length+1=vs.length
 val:vs[x.1]? = some x.2
 pre_:pre.map Prod.snd=vs.reverse.take pre.length
theorem Qk5 {vs:List Value} {pre:List (Nat × Value)} {x:Nat × Value} {W0 W1:World} (h:QnN vs pre x W0 W1):(pre++[x]).map Prod.snd=vs.reverse.take (pre++[x]).length:=by
 have h1:=h.at_
 have h2:vs.reverse[pre.length]? = some x.2:=by
  rw [List.getElem?_reverse (by omega),show vs.length - 1 - pre.length=x.1 from by omega]
  exact h.val
 rw [List.map_append,h.pre_,List.length_append,List.length_singleton,List.take_add_one,h2]
 rfl
structure Qot (n:Nat) (vs:List Value) (J:List (Nat × Value)→(Nat→Prop)→World→Prop) (C:Nat→Prop) (W:World) (m:Nat) (pre:List (Nat × Value)) (C':Nat→Prop) (Wj wr:World):Prop where
 j:J pre C' Wj
 ext:Ext Wj wr
 len:m+pre.length=n
 pre_:pre.map Prod.snd=vs.reverse.take pre.length
 st:St C W wr
 sub:∀ b,C' b→C b∨W.heap.size≤b
theorem QmE {w0:World} {B g cap:Nat} {vs:List Value} (hb:Blk w0 B 141 #[.slice (some ⟨g,0,none⟩) vs.length cap]) (hv:∀ j v,vs[j]? = some v→w0.cell? ⟨g,j,none⟩=some v) (hg:g<w0.heap.size) (hc:vs.length≤cap) (hm:cap≤maxLen) (hl:vs.length≤1000) :
  QoW Tryz.prog 160 #[.pointer (some ⟨B,0,none⟩)] Qpl (fun b=>b=B∨b=g) (QnN vs) (fun xs=>xs.map Prod.snd=vs.reverse) (fun _=>True) w0:=by
 intro l J Jx C W hTk hA hsz hCK hJ
 have hCl:=hTk.lt [] C W hJ
 have hlB:=hb.lt
 have hss:∀ W1,St C W W1→W1.cell? ⟨B,0,none⟩=some (.slice (some ⟨g,0,none⟩) vs.length cap)∧∀ j v,vs[j]? = some v→W1.cell? ⟨g,j,none⟩=some v:=fun W1 hW=>
  ⟨(hW.cell (by omega) fun h=>hCK _ h (.inl rfl)).trans ((World.cell?_of_block (w:=w0) (a:=⟨B,0,none⟩) (hA B (.inl rfl))).trans (hb.cell 0)),
    fun j v h=>(hW.cell (by omega) fun h=>hCK _ h (.inr rfl)).trans ((World.cell?_of_block (w:=w0) (a:=⟨g,j,none⟩) (hA g (.inr rfl))).trans (hv j v h))⟩
 have HTK:=Lib.hid hTk
 have HSS:=Lib.hid hss
 have HCL:=Lib.hid hCl
 have HJ:=Lib.hid hJ
 have c0:=(hss W (St.refl _ W)).1
 have lB:B<W.heap.size:=by omega
 have lg:g<W.heap.size:=by omega
 have hl1:(0:Int)≤(vs.length:Int):=by omega
 clear hTk hA hCK hJ hb hv hss hCl
 show Calls _ _ #[.func (.yield l) #[] #[],.pointer (some ⟨B,0,none⟩)] W _
 refine (callsIn_wide (n:=5)).1 ?_
 refine callsIn_of_wp Tryz.func160 rfl trivial ?_ rfl
 simp only [Tryz.ntmps160,List.size_toArray,List.length_cons,List.length_nil,Nat.reduceAdd,Nat.reduceSub,Array.replicate_succ,Array.replicate_zero,List.push_toArray,List.append_toArray,List.nil_append,List.cons_append]
 gi_wp2_with fail
 clear c0
 gi_loopw [3] (fun v wr=>∃ (m:Nat) (pre:List (Nat × Value)) (C':Nat→Prop) (Wj:World),v=.int .i64 ((m:Int) - 1)∧Qot vs.length vs J C W m pre C' Wj wr) (fun v _=>(intOf v+1).toNat)
 case atStart=>exact ⟨vs.length,[],C,W,rfl,⟨HJ.out,Ext.refl _,by simp,by simp,St.refl _ _,fun b hb=>.inl hb⟩⟩
 obtain ⟨m,pre,C',Wj,rfl,hS⟩:=hrel
 have HS:=Lib.hid hS
 cases m with
 | zero=>
   have hlen:pre.length=vs.length:=by have:=hS.len;omega
   have hall:pre.map Prod.snd=vs.reverse:=by rw [hS.pre_,hlen,List.take_of_length_le (by simp)]
   have HALL:=Lib.hid hall
   clear hS hlen hall
   gi_wp2_with fail
   go_end0
   exact ⟨⟨_,rfl⟩,.inl ⟨pre,C',Wj,HALL.out,HS.out.j,HS.out.ext⟩⟩
 | succ k=>
   have e1:(((k+1:Nat):Int) - 1)=(k:Int):=by omega
   rw [e1]
   clear e1
   have hlen:=hS.len
   obtain ⟨v,hvk⟩:∃ v,vs[k]? = some v:=⟨_,List.getElem?_eq_getElem (by omega)⟩
   obtain ⟨c0,hcv⟩:=HSS.out wr hS.st
   have ck:=hcv k v hvk
   have hsw:=hS.st.size
   have g0:(0:Int)≤(k:Int):=by omega
   have g1:(k:Int)<(vs.length:Int):=by omega
   have hG:QnN vs pre (k,v) Wj wr:=⟨by show k+pre.length+1=_;omega,hvk,hS.pre_⟩
   have hy:=HTK.out.take pre C' (k,v) Wj wr hS.j hS.ext hG
   obtain ⟨fn,tmps,assign,body,hy,hR⟩:=hy
   have HR:=Lib.hid hR
   have HN:=Lib.hid (Qk5 hG)
   clear hS hG hR hcv hvk
   dsimp only [Qpl] at hy
   gi_wp2_with fail
   refine HR.out.mono ?_
   rintro e w6 (⟨rfl,C6,hj6,hst6,hsub6⟩ | ⟨rfl,hjx,hst6⟩)
   ·have HS6:=Lib.hid (show Qot vs.length vs J C W k (pre++[(k,v)]) C6 w6 w6 from ⟨hj6,Ext.refl _,by simp;omega,HN.out,HS.out.st.then hst6 (fun b hb h=>by
     rcases HS.out.sub b h with h | h
     ·exact h
     ·omega),fun b hb=>by
     rcases hsub6 b hb with h | h
     ·exact HS.out.sub b h
     exact .inr (by omega)⟩)
    clear hj6 hst6 hsub6 hy c0 ck
    gi_wp2_with fail
    go_roundw
    case rel=>exact ⟨k,_,C6,w6,by go_num,HS6.out⟩
    simp [intOf]
   gi_wp2_with fail
   refine bodyPost_ret (v:=.tuple #[]) (by simp [results,Tryz.results160,go_sem]) rfl ?_
   exact ⟨⟨_,rfl⟩,.inr ⟨_,w6,trivial,hjx,Ext.refl _⟩⟩
end Go.Proofs.YtohajcflklejjaaGreat
namespace Go.Proofs.YtohajcflklejjaaGreat
open Go.RowKit Go.Shelf
set_option linter.unusedVariables false
set_option linter.unusedSimpArgs false
attribute [local go_sem] Oper.semAt_some
section
variable {F E : Nat → Prop} {lo X : Nat} {row : Option Nat} {x : Qam} {W W' : World}
theorem Cur.Qpo (h:Cur F E lo X row x W) {W1:World} (k:St (fun b=>b=X) W W1) {E':Nat→Prop} {y:Qam} {es nd:Sl} {xs:List LE} (h1:xs.map LE.ent=y.es) (h2:Blk W1 X 202 #[.slice es.a xs.length es.c,.slice nd.a y.ns.length nd.c,.int .i64 y.o]) (h3:ES W1 E' es xs) (h4:W.ownsRow lo 31 1 (.slice nd.a y.ns.length nd.c) y.ns.length (y.ns.map AN.p)) (h5:nd.row=row)
  (hn:∀ a∈y.ns,a∈x.ns) (ht:y.tot≤1000000) (hE:∀ b,E' b→lo≤b∧b<W1.heap.size∧b≠X∧row≠some b):Cur F E' lo X row y W1:=by
 refine ⟨⟨es,nd,xs,h1,h2,h3,Qad h4 k.agree (fun b hb=>⟨(Qac h4 hb).2,fun e=>h.ne (by rw [←h5,hb,e])⟩),h5⟩,fun a ha=>(h.nodes a (hn a ha)).agree (k.agree.mono fun b hb=>⟨Nat.lt_of_lt_of_le (h.FX b hb) h.low,by have:=h.FX b hb;have:=h.lX;omega⟩),h.lX,h.ne,ht,h.FX,hE⟩
theorem Cur.bump (h:Cur F E lo X row x W) (h1:x.tot+1≤1000000):Cur F E lo X row ⟨x.es,x.ns,x.o+1⟩ (W.setCell ⟨X,2,none⟩ (.int .i64 ((x.o:Int)+1))):=by
 obtain ⟨es,nd,xs,g1,g2,g3,g4,g5⟩:=h.ex
 have k:St (fun b=>b=X) W (W.setCell ⟨X,2,none⟩ (.int .i64 ((x.o:Int)+1))):=(St.refl (fun b=>b=X) W).set (p:=⟨X,2,none⟩) (.inr rfl) _
 exact h.Qpo k g1 (g2.QaN 2 _) (g3.agree (k.agree.mono fun b hb=>⟨(h.EX b hb).2.1,(h.EX b hb).2.2.1⟩)) g4 g5 (fun a ha=>ha) (by simp only [Qam.tot] at *;omega) (fun b hb=>⟨(h.EX b hb).1,by rw [World.size_setCell];exact (h.EX b hb).2.1,(h.EX b hb).2.2⟩)
theorem Cur.fill (h:Cur F E lo X row x W) {E':Nat→Prop} {s:Sl} {ys:List LE} (hy:ES W E' s ys) (hE:∀ b,E' b→lo≤b∧b<W.heap.size∧b≠X∧row≠some b):Cur F E' lo X row ⟨ys.map LE.ent,x.ns,x.o⟩ (W.setCell ⟨X,0,none⟩ (.slice s.a ys.length s.c)):=by
 obtain ⟨es,nd,xs,g1,g2,g3,g4,g5⟩:=h.ex
 have k:St (fun b=>b=X) W (W.setCell ⟨X,0,none⟩ (.slice s.a ys.length s.c)):=(St.refl (fun b=>b=X) W).set (p:=⟨X,0,none⟩) (.inr rfl) _
 exact h.Qpo k (es:=s) rfl (g2.QaN 0 _) (hy.agree (k.agree.mono fun b hb=>⟨(hE b hb).2.1,(hE b hb).2.2.1⟩)) g4 g5 (fun a ha=>ha) h.few (fun b hb=>⟨(hE b hb).1,by rw [World.size_setCell];exact (hE b hb).2.1,(hE b hb).2.2⟩)
theorem Cur.push (h:Cur F E lo X row x W) {W4 w5:World} {nd s3:Sl} {a:AN} {xs:List LE} {es:Sl} (hxs:xs.map LE.ent=x.es) (hb:Blk W X 202 #[.slice es.a xs.length es.c,.slice nd.a x.ns.length nd.c,.int .i64 x.o]) (hes:ES W E es xs) (hnd:nd.row=row)
  (hx4:Ext W W4) (hown:w5.ownsRow lo 31 1 (.slice s3.a (x.ns.length+1) s3.c) (x.ns.length+1) (x.ns.map AN.p++[a.p])) (hwr:Wr W4 w5 nd.row) (hs3:s3.a=nd.a∨s3.a=some ⟨W4.heap.size,0,none⟩∧Wr W4 w5 none)
  (ha:IsN W F a.1 a.2) (ht:x.tot+Qbu a.1 a.2≤1000000) :
  Cur F E lo X s3.row ⟨x.es,x.ns++[a],x.o⟩ (w5.setCell ⟨X,1,none⟩ (.slice s3.a (x.ns.length+1) s3.c))∧St (fun b=>b=X∨row=some b) W (w5.setCell ⟨X,1,none⟩ (.slice s3.a (x.ns.length+1) s3.c))∧(∀ b,s3.row=some b→(row=some b∨W.heap.size≤b)∧b<w5.heap.size):=by
 have hX:=h.lt
 have hs4:=hx4.size
 have hs5:=hwr.grown.size
 have hrow:∀ b,s3.row=some b→row=some b∨W4.heap.size≤b:=fun b hb=>by
  rcases hs3 with e | ⟨e,-⟩
  ·exact .inl (by rw [←hnd,←hb];simp [Sl.row,e])
  right;rw [Sl.row,e] at hb;simp at hb;omega
 have st4:St (fun b=>row=some b) W4 w5:=hwr.st fun i hi=>by rw [←hnd];exact hi
 have st5:St (fun b=>b=X∨row=some b) W w5:=(hx4.st _).trans (st4.mono fun i _ hi=>.inr hi)
 have set:St (fun b=>b=X) w5 (w5.setCell ⟨X,1,none⟩ (.slice s3.a (x.ns.length+1) s3.c)):=(St.refl (fun b=>b=X) w5).set (p:=⟨X,1,none⟩) (.inr rfl) _
 have hst:=st5.trans (set.mono fun i _ hi=>.inl hi)
 have hag:∀ b,b<W.heap.size→b≠X→row≠some b→(w5.setCell ⟨X,1,none⟩ (.slice s3.a (x.ns.length+1) s3.c)).heap[b]? = W.heap[b]?:=fun b h1 h2 h3=>hst.block b h1 (fun hh=>hh.elim h2 h3)
 have hne3:s3.row≠some X:=fun e=>by
  rcases hrow X e with e' | e'
  ·exact h.ne e'
  omega
 have hbX:Blk w5 X 202 #[.slice es.a xs.length es.c,.slice nd.a x.ns.length nd.c,.int .i64 x.o]:=st4.blk (hb.ext hx4) h.ne
 have hlow:=h.low
 refine ⟨⟨⟨es,s3,xs,hxs,by rw [List.length_append,List.length_singleton];exact hbX.QaN 1 _,hes.agree fun b hb=>hag b (h.EX b hb).2.1 (h.EX b hb).2.2.1 (h.EX b hb).2.2.2,?_,rfl⟩,fun a' ha'=>?_,h.lX,hne3,?_,h.FX,fun b hb=>⟨(h.EX b hb).1,Nat.lt_of_lt_of_le (h.EX b hb).2.1 hst.size,(h.EX b hb).2.2.1,fun e=>?_⟩⟩,hst,fun b hb=>⟨(hrow b hb).imp id (fun h=>by omega),(Qac hown hb).2⟩⟩
 ·rw [List.length_append,List.length_singleton,List.map_append]
  exact Qad hown set.agree fun b hb=>⟨(Qac hown hb).2,fun e=>hne3 (by rw [hb,e])⟩
 ·have hF:∀ b,F b→(w5.setCell ⟨X,1,none⟩ (.slice s3.a (x.ns.length+1) s3.c)).heap[b]? = W.heap[b]?:=fun b hb=>hag b (Nat.lt_of_lt_of_le (h.FX b hb) hlow) (by have:=h.FX b hb;have:=h.lX;omega) (fun e=>by have:=(h.rlt b e).1;have:=h.FX b hb;omega)
  rcases List.mem_append.1 ha' with ha' | ha'
  ·exact (h.nodes a' ha').agree hF
  obtain rfl:=List.mem_singleton.1 ha'
  exact ha.agree hF
 ·simp only [Qam.tot,Qdl] at *;omega
 rcases hrow b e with e' | e'
 ·exact (h.EX b hb).2.2.2 e'
 have:=(h.EX b hb).2.1;omega
def Qdu (F E:Nat→Prop) (lo X:Nat) (row:Option Nat) (x:Qam) (W:World) (e:Ending) (w':World):Prop:=
 e=.returned (.tuple #[])∧∃ (E':Nat→Prop) (row':Option Nat),Cur F E' lo X row' x.open_ w'∧St (fun b=>b=X∨row=some b) W w'∧(∀ b,E' b→E b∨W.heap.size≤b)∧(∀ b,row'=some b→row=some b∨W.heap.size≤b)
theorem Ql2 (h:Cur F E lo X row x W) {t:PT 0} (hx:x.node=some ⟨0,t⟩):Calls Tryz.prog 125 #[Qe0 X] W (Qdu F E lo X row x W):=by
 obtain ⟨hes,hns,hgl⟩:=x.Qaj hx
 have htot:=(x.Qe8 hx).2
 have hop:x.open_=⟨t.2,x.ns.dropLast,x.o+1⟩:=by unfold Qam.open_;rw [hgl]
 obtain ⟨es,xs,g,cap,h1,h2,-,h4,hrow,hlg,hgl',hnc,hcm,hca,hna,hnl⟩:=h.top hns
 have hsk:=fun W' (hW:Ext W W')=>Qe7 (h.ext hW) hx
 have c1:W.cell? ⟨X,1,none⟩=some (.slice (some ⟨g,0,none⟩) (x.ns.dropLast.length+1) cap):=h2.cell 1
 have lX:=h2.lt
 have hlow:=h.low
 have hFX:∀ b,F b→b<W.heap.size∧b≠X:=fun b hb=>⟨Nat.lt_of_lt_of_le (h.FX b hb) hlow,by have:=h.FX b hb;have:=h.lX;omega⟩
 have hnF:∀ W',St (fun b=>b=X) W W'→IsN W' F 0 t:=fun W' hW=>hna.agree (hW.agree.mono fun b hb=>hFX b hb)
 have HSK:=Lib.hid hsk
 have HNF:=Lib.hid hnF
 have HFX:=Lib.hid hFX
 have HH:=Lib.hid h
 have HOP:=Lib.hid hop
 have HROW:=Lib.hid hrow
 have hob:(x.o:Int)≤1000000:=by have:=h.few;unfold Qam.tot at this;omega
 have hot:x.skip.tot+1≤1000000:=by have:=h.few;omega
 have hxo:x.skip.o=x.o:=rfl
 have hxe:x.skip.es=[]:=hes
 have HHE:=Lib.hid hes
 have hn0:((0:Nat):Int)=0:=rfl
 obtain ⟨m,hm⟩:∃ m,x.ns.dropLast.length=m:=⟨_,rfl⟩
 rw [hm] at c1 hnc hca hnl
 have g0:(0:Int)≤(m:Int):=by omega
 have g1:(m:Int)<(m:Int)+1:=by omega
 dsimp only [AN.p,ptr] at hca
 generalize hA:addr 0 t=A at hca
 have HHA:=Lib.hid hA
 clear h hx hns hgl htot hop h1 h2 h4 hrow hsk hna hFX hnF hm hes hA
 go_enter Tryz.func125,Tryz.ntmps125
 go_wp2_with fail
 go_region
 go_wp2_with fail
 have hx1:Ext W (W.alloc (.cells #[Qe0 X] 174)).drew:=((Ext.refl W).alloc _ _).drew
 have hbx:=(Blk.new W 174 #[Qe0 X]).ext ((Ext.refl _).drew)
 refine (HSK.out _ hx1).mono ?_
 rintro e w1 ⟨rfl,hC1,hst1⟩
 have hbx1:=hst1.blk hbx (show ¬W.heap.size=X by omega)
 have hX1:St (fun b=>b=X) W w1:=(hx1.st _).trans hst1
 obtain ⟨es1,nd1,xs1,-,hb1,-⟩:=hC1.ex
 have c2:w1.cell? ⟨X,2,none⟩=some (.int .i64 x.o):=hb1.cell 2
 have f2:=hb1.frozen 2
 have l2:=hb1.lt
 have cb1:w1.cell? ⟨W.heap.size,0,none⟩=some (Qe0 X):=hbx1.cell 0
 have lb1:=hbx1.lt
 have HC1:=Lib.hid hC1
 have HBX1:=Lib.hid hbx1
 have HX1:=Lib.hid hX1
 clear hC1 hst1 hbx hbx1 hX1 hb1 c1 hca
 have hneW:¬W.heap.size=X:=by omega
 have hneW':¬X=W.heap.size:=by omega
 go_wp2_with fail
 have hC2:Cur F E lo X row ⟨x.skip.es,x.skip.ns,x.o+1⟩ (w1.setCell ⟨X,2,none⟩ (.int .i64 ((x.o:Int)+1))):=HC1.out.bump hot
 have hst2:St (fun b=>b=X) w1 (w1.setCell ⟨X,2,none⟩ (.int .i64 ((x.o:Int)+1))):=(St.refl (fun b=>b=X) w1).set (p:=⟨X,2,none⟩) (.inr rfl) _
 have hX2:=HX1.out.trans hst2
 have hbx2:=hst2.blk HBX1.out hneW
 clear c2 f2 l2 cb1 lb1 hst2
 generalize w1.setCell ⟨X,2,none⟩ (.int .i64 ((x.o:Int)+1))=w2 at *
 have hnh:=HNF.out _ hX2
 have hht:=Qas hnh
 have hen:∀ W',St (fun b=>b=X) w2 W'→Calls Tryz.prog 89 #[ptr 0 t] W' (Qbr (ents 0 t) W'):=fun W' hW=>QaY ((HNF.out W' (hX2.trans hW)).mono fun b hb=>Nat.lt_of_lt_of_le (HFX.out b hb).1 (Nat.le_trans hX2.size hW.size))
 dsimp only [ptr] at hht hen
 rw [HHA.out] at hht hen
 have HEN:=Lib.hid hen
 have HC2:=Lib.hid hC2
 have HX2:=Lib.hid hX2
 have HSS:=Lib.hid (show ∀ W',St (fun b=>b=X) w2 W'→W'.cell? ⟨W.heap.size,0,none⟩=some (Qe0 X) from fun W' hW=>(hW.blk hbx2 hneW).cell 0)
 have lb2:=hbx2.lt
 have hs2:=hX2.size
 clear hen hC2 hX2 hbx2 hnh
 refine hht.mono ?_
 rintro e w3 ⟨rfl,rfl⟩
 go_wp2_with fail
 refine wp_region_held_drew (S:=(fun w'=>St (fun b=>b=X) w2 w')) (by kernel_rfl) (((St.refl _ w2).drew)) (fun hHeld=>?_)
 refine Qab 0 (some 29) HSS hHeld ?_
 refine Qab 1 (some 30) HSS hHeld ?_
 refine Qaa (i:=2) (by kernel_rfl) rfl (by rfl) (fun K hK=>?_)
 go_simp
 (refine (HEN.out _ hHeld).mono ?_;rintro e w3 ⟨s,ys,rfl,hye,hoe,hx3⟩;have hC3:=HC2.out.ext (((Ext.refl w2).drew).trans hx3);obtain ⟨es3,nd3,xs3,he3,hb3,-⟩:=hC3.ex;have he3':xs3=[]:=List.map_eq_nil_iff.1 (he3.trans hxe);have hb3':=hb3;rw [he3'] at hb3';have c3:w3.cell? ⟨X,0,none⟩=some (.slice es3.a 0 es3.c):=hb3'.cell 0;have f3:=hb3'.frozen 0;have l3:=hb3'.lt;have HYE:=Lib.hid hye;have HOE:=Lib.hid hoe;have HC3:=Lib.hid hC3;clear hye hoe hC3 hb3 hb3' he3 he3')
 refine hK.out _ _ (hHeld.ext hx3) (fun hHeld=>?_)
 clear hK K
 try simp only [Act.put,List.setIfInBounds_toArray,List.set_cons_zero,List.set_cons_succ]
 refine Qab 3 (some 32) HSS hHeld ?_
 refine Qab 4 (some 33) HSS hHeld ?_
 refine Qaa (i:=5) (by kernel_rfl) rfl (by rfl) (fun K hK=>?_)
 go_simp
 skip
 refine hK.out _ _ (hHeld.set (p:=⟨X,0,none⟩) (.inr rfl) _) (fun hHeld=>?_)
 clear hK K
 try simp only [Act.put,List.setIfInBounds_toArray,List.set_cons_zero,List.set_cons_succ]
 refine wpAnyH_done (by kernel_rfl) ?_ _
 have hSt:=HX2.out.trans hHeld
 have hE:∀ b,In w2.heap.size w3.heap.size b→lo≤b∧b<w3.heap.size∧b≠X∧row≠some b:=fun b hb=>⟨by have:=hb.1;omega,hb.2,by have:=hb.1;omega,by rw [HROW.out];simp only [ne_eq,Option.some.injEq];have:=hb.1;omega⟩
 have hC4:=HC3.out.fill (s:=s) (ys:=ys) (HOE.out.es.mono (G:=In w2.heap.size w3.heap.size) fun i hi=>hi) hE
 have hfin:Qdu F E lo X row x W (.returned (.tuple #[])) (w3.setCell ⟨X,0,none⟩ (.slice s.a ys.length s.c)):=by
  refine ⟨rfl,In w2.heap.size w3.heap.size,row,?_,hSt.mono fun i _ hi=>.inl hi,fun b hb=>.inr (by have:=hb.1;omega),fun b hb=>.inl hb⟩
  rw [HOP.out]
  rw [HYE.out] at hC4
  exact hC4
 have HFIN:=Lib.hid hfin
 clear hSt hE hC4 hfin hHeld c3 f3 l3
 go_wp2_with fail
 refine bodyPost_ret (v:=.tuple #[]) (by simp [results,Tryz.results125,go_sem]) rfl ?_
 exact HFIN.out
end
theorem QmD (w:World) (s:Sl) (n:Nat):Calls Tryz.prog 149 #[.slice s.a n s.c] w fun e w'=>e=.returned (.func (.func 160) #[] #[.pointer (some ⟨w.heap.size,0,none⟩)])∧Ext w w'∧Blk w' w.heap.size 141 #[.slice s.a n s.c]:=by
 go_enter Tryz.func149,Tryz.ntmps149
 go_wp2_with fail
 go_ret
 exact ⟨rfl,(Ext.refl w).alloc _ _,Blk.new w _ _⟩
def Qoh (R:Act→World→Prop):Exit→Act→World→Prop
 | .normal,a,w=>R a w
 | _,_,_=>False
theorem QdI {R:Act→World→Prop} {a:Act} {w:World} (h:R a w):Qoh R .normal a w:=h
theorem QkQ {F:Fence} {n:Nat} {P:Program} {c:Code} {Q:Exit→Act→World→Prop} {a:Act} {w:World} (h:c.wpIn F n P (Qoh (Q .normal)) a w):c.wpIn F n P Q a w:=
 wpIn_mono h fun e a w h=>by cases e <;> first | exact h | exact h.elim
theorem Qd5 (l m:List AN):QaW (l++m)=QaW l+QaW m:=by simp [QaW]
theorem QiP (l:List AN) (j:Nat):QaW (l.take j)≤QaW l:=by
 conv=>rhs;rw [←List.take_append_drop j l]
 rw [Qd5];omega
structure Qo2 (F E:Nat→Prop) (lo X:Nat) (row:Option Nat) (ns:List AN) (o:Nat) (w4:World) (B0:Nat) (j:Nat) (C:Nat→Prop) (W:World):Prop where
 ex:∃ r:Option Nat,(C=fun b=>b=X∨r=some b)∧Cur F E lo X r ⟨[],ns,o⟩ W∧∀ b,r=some b→row=some b∨w4.heap.size+2≤b
 st:St (fun b=>b=X∨row=some b) w4 W
 box:Blk W B0 174 #[Qe0 X]
section
variable {F E : Nat → Prop} {lo X : Nat} {row : Option Nat} {x : Qam} {W W' : World}
theorem Qks (h:Cur F E lo X row x W) {n:Nat} {t:PT (n+1)} (hx:x.node=some ⟨n+1,t⟩) (ok:OkT (n+1) t):Calls Tryz.prog 125 #[Qe0 X] W (Qdu F E lo X row x W):=by
 obtain ⟨i0,hi,hz0,hz1,hz2⟩:=info_parts Tryz.QaZ
 obtain ⟨hes,hns,hgl⟩:=x.Qaj hx
 have htot:=(x.Qe8 hx).2
 have htot2:=(x.Qe8 hx).1
 have hop:x.open_=⟨x.es,x.ns.dropLast++(QbZ n t).reverse,x.o+1⟩:=by unfold Qam.open_;rw [hgl]
 obtain ⟨es,xs,g,cap,h1,h2,-,h4,hrow,hlg,hgl',hnc,hcm,hca,hna,hnl⟩:=h.top hns
 have hsk:=fun W' (hW:Ext W W')=>Qe7 (h.ext hW) hx
 have c1:W.cell? ⟨X,1,none⟩=some (.slice (some ⟨g,0,none⟩) (x.ns.dropLast.length+1) cap):=h2.cell 1
 have lX:=h2.lt
 have hlow:=h.low
 have hlX:=h.lX
 have hFX:∀ b,F b→b<lo:=h.FX
 have hnF:∀ W',(∀ b,F b→W'.heap[b]? = W.heap[b]?)→IsN W' F (n+1) t:=fun W' hW=>hna.agree hW
 have hall:x.o+1+QaW (x.ns.dropLast++(QbZ n t).reverse)≤1000000:=by
  have h1:=h.few
  rw [←htot2,hop] at h1
  exact h1
 have HSK:=Lib.hid hsk
 have HNF:=Lib.hid hnF
 have HFX:=Lib.hid hFX
 have HOP:=Lib.hid hop
 have HROW:=Lib.hid hrow
 have hob:(x.o:Int)≤1000000:=by omega
 have hot:x.skip.tot+1≤1000000:=by have:=h.few;omega
 have hxo:x.skip.o=x.o:=rfl
 have hxe:x.skip.es=[]:=hes
 have HHE:=Lib.hid hes
 have HALL:=Lib.hid hall
 have HOK:=Lib.hid ok
 obtain ⟨m,hm⟩:∃ m,x.ns.dropLast.length=m:=⟨_,rfl⟩
 rw [hm] at c1 hnc hca hnl
 have g0:(0:Int)≤(m:Int):=by omega
 have g1:(m:Int)<(m:Int)+1:=by omega
 have hn1:(((n:Int)+1) == 0)=false:=beq_eq_false_iff_ne.2 (by omega)
 dsimp only [AN.p,ptr] at hca
 generalize hA:addr (n+1) t=A at hca
 have HHA:=Lib.hid hA
 clear h hx hns hgl htot htot2 hop h1 h2 h4 hrow hsk hna hFX hnF hm hes hA hall ok
 refine (callsIn_wide (n:=6)).1 ?_
 refine callsIn_of_wp_marks Tryz.func125 rfl trivial ?_ rfl
 simp only [Tryz.ntmps125,List.size_toArray,List.length_cons,List.length_nil,Nat.reduceAdd,Nat.reduceSub,Array.replicate_succ,Array.replicate_zero,List.push_toArray,List.append_toArray,List.nil_append,List.cons_append]
 gi_wp2_with fail
 refine QkQ (wpIn_wide.2 ?_)
 go_quiet (fail)
 refine QdI ?_
 gi_wp2_with fail
 have hx1:Ext W ((W.alloc (.cells #[Qe0 X] 174)).drewN nq):=((Ext.refl W).alloc _ _).drewN nq
 have hbx:=(Blk.new W 174 #[Qe0 X]).ext ((Ext.refl _).drewN nq)
 have hneW:¬W.heap.size=X:=by omega
 have hneW':¬X=W.heap.size:=by omega
 refine ⟨trivial,?_⟩
 refine (callsIn_wide.2 (HSK.out _ hx1)).mono ?_
 rintro e w1 ⟨rfl,hC1,hst1⟩
 have hbx1:=hst1.blk hbx hneW
 have hX1:St (fun b=>b=X) W w1:=(hx1.st _).trans hst1
 obtain ⟨es1,nd1,xs1,-,hb1,-⟩:=hC1.ex
 have c2:w1.cell? ⟨X,2,none⟩=some (.int .i64 x.o):=hb1.cell 2
 have f2:=hb1.frozen 2
 have l2:=hb1.lt
 have cb1:w1.cell? ⟨W.heap.size,0,none⟩=some (Qe0 X):=hbx1.cell 0
 have lb1:=hbx1.lt
 have HC1:=Lib.hid hC1
 have HBX1:=Lib.hid hbx1
 have HX1:=Lib.hid hX1
 clear hC1 hst1 hbx hbx1 hX1 hb1 c1 hca hx1
 gi_wp2_with fail
 have hC2:Cur F E lo X row ⟨x.skip.es,x.skip.ns,x.o+1⟩ (w1.setCell ⟨X,2,none⟩ (.int .i64 ((x.o:Int)+1))):=HC1.out.bump hot
 have hst2:St (fun b=>b=X) w1 (w1.setCell ⟨X,2,none⟩ (.int .i64 ((x.o:Int)+1))):=(St.refl (fun b=>b=X) w1).set (p:=⟨X,2,none⟩) (.inr rfl) _
 have hX2:=HX1.out.trans hst2
 have hbx2:=hst2.blk HBX1.out hneW
 clear c2 f2 l2 cb1 lb1 hst2
 generalize w1.setCell ⟨X,2,none⟩ (.int .i64 ((x.o:Int)+1))=w2 at *
 have hF2:∀ W',Ext w2 W'→∀ b,F b→W'.heap[b]? = W.heap[b]?:=fun W' hW b hb=>by
  have:=HFX.out b hb
  exact (hW.heap (by have:=hX2.size;omega)).trans (hX2.block b (by omega) (by omega))
 have hnh:=HNF.out _ (hF2 w2 (Ext.refl _))
 have hht:=Qas hnh
 have hk:=Qcu hnh (by have:=HOK.out.2.1;omega)
 dsimp only [ptr] at hht hk
 rw [HHA.out] at hht hk
 have HK:=Lib.hid hk
 have HC2:=Lib.hid hC2
 have HX2:=Lib.hid hX2
 have HBX2:=Lib.hid hbx2
 have hs2:=hX2.size
 clear hC2 hX2 hbx2 hnh hk hF2
 refine ⟨trivial,?_⟩
 refine (callsIn_wide.2 hht).mono ?_
 rintro e w3 ⟨rfl,rfl⟩
 gi_wp2_with fail
 refine ⟨trivial,?_⟩
 refine (callsIn_wide.2 HK.out).mono ?_
 rintro e w3 ⟨sk,rfl,hown,hx3⟩
 have hkl:2≤t.2.length:=HOK.out.1
 have hkl8:t.2.length≤8:=HOK.out.2.1
 have hpl:(ptrs n t.2).length=t.2.length:=by simp [ptrs]
 obtain ⟨gk,ck,rfl,hgk,hck,hckm,hfk⟩:=Qat hown (by omega)
 have hcl:=hown.cells (g:=gk) rfl
 have HCL:=Lib.hid hcl
 have HX3:=Lib.hid hx3
 have hgl3:=hfk.lt
 have hs3:=hx3.size
 clear hown hcl hx3 hfk
 gi_wp2_with fail
 refine ⟨trivial,?_⟩
 refine (callsIn_wide.2 (QmD w3 ⟨some ⟨gk,0,none⟩,ck⟩ t.2.length)).mono ?_
 rintro e w4 ⟨rfl,hx4,hbb⟩
 dsimp only at hbb
 rw [←hpl] at hbb
 have hseq:=QmE hbb (fun j v hv=>by
  have:=HCL.out j v hv
  rw [Qbb,Nat.zero_add] at this
  exact (hx4.cell hgl3).trans this) (Nat.lt_of_lt_of_le hgl3 hx4.size) (by omega) hckm (by omega)
 have HSQ:=Lib.hid hseq
 have hx24:=HX3.out.trans hx4
 have HC4:=Lib.hid (HC2.out.ext hx24)
 have HB4:=Lib.hid (HBX2.out.ext hx24)
 have HX24:=Lib.hid hx24
 have hs4:=hx4.size
 have hbl4:=hbb.lt
 have hlb4:=HB4.out.lt
 clear hseq hx24 hbb hx4
 gi_wp2_with fail
 have hE4:∀ b,E b→b<w4.heap.size:=fun b hb=>(HC4.out.EX b hb).2.1
 have hr4:∀ b,row=some b→b<w4.heap.size:=fun b hb=>(HC4.out.rlt b hb).2
 have HE4:=Lib.hid hE4
 have HR4:=Lib.hid hr4
 clear hE4 hr4
 refine Qdo (gf:=160) (lb:=#[.pointer (some ⟨w3.heap.size,0,none⟩)]) rfl (enters_of Tryz.func160 (by kernel_rfl) rfl) HSQ.out (Agree.refl _) (Nat.le_refl _)
  (fun b hb=>by omega) (fun _=>rfl)
  (fun pre C W'=>Qo2 F E lo X row (x.ns.dropLast++(QbZ n t).reverse.take pre.length) (x.o+1) w4 W.heap.size pre.length C W') (fun _ _ _=>False) (fun b=>b=X∨row=some b)
  (fun b hb=>⟨hb.elim (fun e=>by omega) (HR4.out b),fun h=>by
    rcases hb with rfl | hb
    ·omega
    rw [HROW.out] at hb
    simp only [Option.some.injEq] at hb
    omega⟩)
  (fun {s C W1 W2} h k=>?turn) (fun h k=>h) (fun W' hW hz=>?start) ?round ?done ?stop
 case turn=>
  obtain ⟨⟨r,rfl,hc,hr⟩,hst,hbx⟩:=h
  refine ⟨⟨r,rfl,hc.st k ?_,hr⟩,hst.then k (fun b hb e=>by omega),k.blk hbx (by omega)⟩
  rintro b (hb | hb | rfl | hb) e
  ·have:=HFX.out b hb;omega
  ·have:=HE4.out b hb;omega
  ·omega
  rcases hr b hb with h | h
  ·have:=HR4.out b h;omega
  omega
 case start=>
  refine ⟨⟨row,rfl,?_,fun b hb=>.inl hb⟩,hW.st _,HB4.out.ext hW⟩
  have h0:=HC4.out.ext hW
  rw [hxe] at h0
  have h1:Cur F E lo X row ⟨[],x.ns.dropLast,x.o+1⟩ W':=h0
  simpa using h1
 case stop=>
  rintro D c pre W' hD hSp hX hDk
  exact hX.elim
 case round=>
  rintro pre C q W0' W1 ⟨⟨r,rfl,hc,hr⟩,hst,hbx⟩ hlt hsz hnL hx01 hG
  obtain ⟨qi,qv⟩:=q
  have hat:qi+pre.length+1=t.2.length:=by have:=hG.at_;rw [hpl] at this;exact this
  have hqi:qi<t.2.length:=by omega
  obtain ⟨kd,hkd⟩:∃ kd,t.2[qi]? = some kd:=⟨_,List.getElem?_eq_getElem hqi⟩
  obtain rfl:ptr n kd=qv:=by
   have h1:(ptrs n t.2)[qi]? = some qv:=hG.val
   rw [ptrs,List.getElem?_map,hkd] at h1
   simpa using h1
  have hrev:(QbZ n t).reverse[pre.length]? = some ⟨n,kd⟩:=by
   have hl:(QbZ n t).length=t.2.length:=by simp [QbZ]
   rw [List.getElem?_reverse (by omega),show (QbZ n t).length - 1 - pre.length=qi from by omega,QbZ,List.getElem?_map,hkd]
   rfl
  obtain ⟨ns,hns⟩:∃ ns,x.ns.dropLast++(QbZ n t).reverse.take pre.length=ns:=⟨_,rfl⟩
  have hns':x.ns.dropLast++(QbZ n t).reverse.take (pre++[((qi,ptr n kd):Nat × Value)]).length=ns++[⟨n,kd⟩]:=by
   rw [List.length_append,List.length_singleton,List.take_add_one,hrev,←hns]
   simp
  have htt:(Qam.mk [] ns (x.o+1)).tot+Qbu n kd≤1000000:=by
   have h1:=QiP (QbZ n t).reverse (pre.length+1)
   have h2:=HALL.out
   rw [Qd5] at h2
   have h3:QaW (x.ns.dropLast++(QbZ n t).reverse.take (pre.length+1))=QaW ns+Qbu n kd:=by
    rw [List.length_append,List.length_singleton] at hns'
    rw [hns',Qdl]
   rw [Qd5] at h3
   show x.o+1+QaW ns+Qbu n kd≤1000000
   omega
  rw [hns] at hc
  have HNS:=Lib.hid hns'
  have HTT:=Lib.hid htt
  have HC:=Lib.hid hc
  have HST:=Lib.hid hst
  have HBX:=Lib.hid hbx
  have HX01:=Lib.hid hx01
  have HR:=Lib.hid hr
  have HKD:=Lib.hid hkd
  clear hG hrev hns hns' htt hc hst hbx hx01 hr hkd hat hlt
  gi_wp2_with fail
  refine ⟨Ext.refl _,fun W3 k3=>?_⟩
  have h03:=(HX01.out.st _).trans k3
  have hnK:∀ b,Qhi F E X r b→¬b=w4.heap.size+1:=by
   rintro b (hb | hb | rfl | hb) e
   ·have:=HFX.out b hb;omega
   ·have:=HE4.out b hb;omega
   ·omega
   rcases HR.out b hb with h | h
   ·have:=HR4.out b h;omega
   omega
  have hc3:=HC.out.st h03 hnK
  have hbx3:=h03.blk HBX.out (by omega)
  obtain ⟨es3,nd3,xs3,e1,b1,s1,o1,r1⟩:=hc3.ex
  have hnl3:ns.length≤1000000:=hc3.len
  have cX:W3.cell? ⟨X,1,none⟩=some (.slice nd3.a ns.length nd3.c):=b1.cell 1
  have fX:=b1.frozen 1
  have lX3:=b1.lt
  have cB:W3.cell? ⟨W.heap.size,0,none⟩=some (Qe0 X):=hbx3.cell 0
  have lB:=hbx3.lt
  have hx34:Ext W3 (W3.drew.alloc (.cells #[ptr n kd] 31)):=((Ext.refl W3).drew).alloc _ _
  have hneX:nd3.row≠some X:=by rw [r1];exact hc3.ne
  have hneB:nd3.row≠some W.heap.size:=by
   rw [r1];intro e
   rcases HR.out _ e with h | h
   ·rw [HROW.out] at h;simp only [Option.some.injEq] at h;omega
   omega
  have HOWN4:=Lib.hid (Qad o1 (hx34.agree fun b (hb:b<W3.heap.size)=>hb) (fun b hb=>(Qac o1 hb).2))
  have HZB:=Lib.hid (Rd.block (size:=1) (n:=1) (cs:=[ptr n kd]) (Blk.new W3.drew 31 #[ptr n kd]) (by decide) rfl)
  have HSB:=Lib.hid (show ∀ W',Ext W3 W'→W'.cell? ⟨W.heap.size,0,none⟩=some (Qe0 X) from fun W' hW=>(hbx3.ext hW).cell 0)
  have h63:ns.length+1≤maxLen:=by unfold maxLen;omega
  have hby:(ns.length+1)*8≤140737488355328:=by omega
  have hbase:lo≤(W3.drew.alloc (.cells #[ptr n kd] 31)).heap.size:=by rw [World.size_alloc,World.size_drew];omega
  have hoX:∀ u∈[ptr n kd],u.oneCell'=true:=by intro u hu;rw [List.mem_singleton.1 hu];rfl
  have HC3:=Lib.hid hc3
  have HE1:=Lib.hid e1
  have HB1:=Lib.hid b1
  have HS1:=Lib.hid s1
  have HR1:=Lib.hid r1
  have H03:=Lib.hid h03
  have HX34:=Lib.hid hx34
  have HBX3:=Lib.hid hbx3
  clear k3 h03 hnK hc3 hbx3 e1 b1 s1 o1 r1 hx34
  dsimp only [ptr] at HX34 HOWN4 HZB hbase hoX ⊢
  gi_wp2_with fail
  refine QdV (S:=(fun w'=>w'.cell? ⟨W.heap.size,0,none⟩=some (Qe0 X))) (by kernel_rfl) (by rintro ⟨a,w,h⟩;exact h) (by kernel_rfl) ((HSB.out _ ((Ext.refl W3).drew))) (fun hHeld=>?_)
  refine Qah 0 (some 39) hHeld ?_
  refine Qah 1 (some 40) hHeld ?_
  refine Qah 2 (some 41) hHeld ?_
  refine Qah 3 (some 42) hHeld ?_
  refine Qah 5 (some 44) hHeld ?_
  refine QaL (i:=4) (j:=6) (by kernel_rfl) rfl rfl (by rfl) (by rfl) (fun K hK=>?_) (fun K hK=>?_)
  ·go_simp
   skip
   refine hK.out _ _ (hHeld) (fun hHeld=>?_)
   clear hK K
   try simp only [Act.put,List.setIfInBounds_toArray,List.set_cons_zero,List.set_cons_succ]
   refine Qaa (i:=6) (by kernel_rfl) rfl (by rfl) (fun K hK=>?_)
   go_simp
   skip
   refine hK.out _ _ (HSB.out _ (((Ext.refl W3).drew).alloc _ _)) (fun hHeld=>?_)
   clear hK K
   try simp only [Act.put,List.setIfInBounds_toArray,List.set_cons_zero,List.set_cons_succ]
   refine Qaa (i:=7) (by kernel_rfl) rfl (by rfl) (fun K hK=>?_)
   skip
   refine QaA _ (.tmp 43) (.tmp 45) 141 rfl lo 31 i0 _ 1 8 Tryz.underlying141 hi hz0 hz1 hz2 rfl (by decide) nd3 ns.length (ns.map AN.p) (by rfl) HOWN4.out (fun b=>b=W3.drew.heap.size) ⟨some ⟨W3.drew.heap.size,0,none⟩,1⟩ 1 [.pointer (some ⟨addr n kd,0,none⟩)] (by rfl) HZB.out hoX h63 hby hbase ?_;intro s3 w5 hown5 hwr5 hs5;have h5:=hwr5.cell0 (o:=1) HX34.out hneX lX3;have cX5:=h5.1.trans cX;have lX5:=h5.2;have fX5:=(hwr5.fz X 1).trans ((HX34.out.frozen (o:=1) lX3).trans fX);have hB5:=(hwr5.cell0 (o:=0) HX34.out hneB lB).1.trans cB;have HOW:=Lib.hid hown5;have HWR:=Lib.hid hwr5;have HS5:=Lib.hid hs5;clear hown5 hwr5 hs5 h5
   refine hK.out _ _ (hB5) (fun hHeld=>?_)
   clear hK K
   try simp only [Act.put,List.setIfInBounds_toArray,List.set_cons_zero,List.set_cons_succ]
   refine Qah 8 (some 47) hHeld ?_
   refine Qah 9 (some 48) hHeld ?_
   refine Qaa (i:=10) (by kernel_rfl) rfl (by rfl) (fun K hK=>?_)
   go_simp
   skip
   refine hK.out _ _ (((World.cell?_setCell_far _ _ _ _ hneW').trans hB5)) (fun hHeld=>?_)
   clear hK K
   try simp only [Act.put,List.setIfInBounds_toArray,List.set_cons_zero,List.set_cons_succ]
   refine wpAnyH_done (by kernel_rfl) ?_ _
   gi_wp2_with fail
   have hF3:∀ b,F b→W3.heap[b]? = W.heap[b]?:=fun b hb=>by
    have:=HFX.out b hb
    have k2:=HX2.out.size
    have k4:=HX24.out.size
    have k5:=HST.out.size
    refine (H03.out.block b (by omega) (by omega)).trans ((HST.out.block b (by omega) ?_).trans ((HX24.out.heap (by omega)).trans (HX2.out.block b (by omega) (by omega))))
    rintro (e | e)
    ·omega
    rw [HROW.out] at e;simp only [Option.some.injEq] at e;omega
   obtain ⟨-,sq,-,-,hkids⟩:=HNF.out W3 hF3
   have hp:=HC3.out.push (W4:=W3.drew.alloc (.cells #[.pointer (some ⟨addr n kd,0,none⟩)] 31)) (a:=⟨n,kd⟩) HE1.out HB1.out HS1.out HR1.out HX34.out HOW.out HWR.out HS5.out (hkids kd (List.mem_of_getElem? HKD.out)) HTT.out
   have hs03:=H03.out.size
   refine ⟨fun b=>b=X∨s3.row=some b,⟨⟨s3.row,rfl,?_,fun b hb=>?_⟩,?_,?_⟩,hp.2.1,fun b hb=>?_,fun b hb=>?_⟩
   ·rw [HNS.out];exact hp.1
   ·rcases (hp.2.2 b hb).1 with e | e
    ·exact HR.out b e
    exact .inr (by omega)
   ·refine (HST.out.then H03.out (fun b hb e=>by omega)).then hp.2.1 fun b hb e=>?_
    rcases e with e | e
    ·exact .inl e
    rcases HR.out b e with e | e
    ·exact .inr e
    omega
   ·refine hp.2.1.blk HBX3.out ?_
    rintro (e | e)
    ·omega
    exact hneB (by rw [HR1.out];exact e)
   ·rcases hb with e | e
    ·exact .inl (.inl e)
    exact (hp.2.2 b e).1.elim (fun e=>.inl (.inr e)) .inr
   rw [World.size_setCell]
   rcases hb with e | e
   ·omega
   exact (hp.2.2 b e).2
  go_simp
  skip
  refine hK.out _ _ (HSB.out _ (((Ext.refl W3).drew).alloc _ _)) (fun hHeld=>?_)
  clear hK K
  try simp only [Act.put,List.setIfInBounds_toArray,List.set_cons_zero,List.set_cons_succ]
  refine Qaa (i:=4) (by kernel_rfl) rfl (by rfl) (fun K hK=>?_)
  go_simp
  skip
  refine hK.out _ _ (hHeld) (fun hHeld=>?_)
  clear hK K
  try simp only [Act.put,List.setIfInBounds_toArray,List.set_cons_zero,List.set_cons_succ]
  refine Qaa (i:=7) (by kernel_rfl) rfl (by rfl) (fun K hK=>?_)
  skip
  refine QaA _ (.tmp 43) (.tmp 45) 141 rfl lo 31 i0 _ 1 8 Tryz.underlying141 hi hz0 hz1 hz2 rfl (by decide) nd3 ns.length (ns.map AN.p) (by rfl) HOWN4.out (fun b=>b=W3.drew.heap.size) ⟨some ⟨W3.drew.heap.size,0,none⟩,1⟩ 1 [.pointer (some ⟨addr n kd,0,none⟩)] (by rfl) HZB.out hoX h63 hby hbase ?_;intro s3 w5 hown5 hwr5 hs5;have h5:=hwr5.cell0 (o:=1) HX34.out hneX lX3;have cX5:=h5.1.trans cX;have lX5:=h5.2;have fX5:=(hwr5.fz X 1).trans ((HX34.out.frozen (o:=1) lX3).trans fX);have hB5:=(hwr5.cell0 (o:=0) HX34.out hneB lB).1.trans cB;have HOW:=Lib.hid hown5;have HWR:=Lib.hid hwr5;have HS5:=Lib.hid hs5;clear hown5 hwr5 hs5 h5
  refine hK.out _ _ (hB5) (fun hHeld=>?_)
  clear hK K
  try simp only [Act.put,List.setIfInBounds_toArray,List.set_cons_zero,List.set_cons_succ]
  refine Qah 8 (some 47) hHeld ?_
  refine Qah 9 (some 48) hHeld ?_
  refine Qaa (i:=10) (by kernel_rfl) rfl (by rfl) (fun K hK=>?_)
  go_simp
  skip
  refine hK.out _ _ (((World.cell?_setCell_far _ _ _ _ hneW').trans hB5)) (fun hHeld=>?_)
  clear hK K
  try simp only [Act.put,List.setIfInBounds_toArray,List.set_cons_zero,List.set_cons_succ]
  refine wpAnyH_done (by kernel_rfl) ?_ _
  gi_wp2_with fail
  have hF3:∀ b,F b→W3.heap[b]? = W.heap[b]?:=fun b hb=>by
   have:=HFX.out b hb
   have k2:=HX2.out.size
   have k4:=HX24.out.size
   have k5:=HST.out.size
   refine (H03.out.block b (by omega) (by omega)).trans ((HST.out.block b (by omega) ?_).trans ((HX24.out.heap (by omega)).trans (HX2.out.block b (by omega) (by omega))))
   rintro (e | e)
   ·omega
   rw [HROW.out] at e;simp only [Option.some.injEq] at e;omega
  obtain ⟨-,sq,-,-,hkids⟩:=HNF.out W3 hF3
  have hp:=HC3.out.push (W4:=W3.drew.alloc (.cells #[.pointer (some ⟨addr n kd,0,none⟩)] 31)) (a:=⟨n,kd⟩) HE1.out HB1.out HS1.out HR1.out HX34.out HOW.out HWR.out HS5.out (hkids kd (List.mem_of_getElem? HKD.out)) HTT.out
  have hs03:=H03.out.size
  refine ⟨fun b=>b=X∨s3.row=some b,⟨⟨s3.row,rfl,?_,fun b hb=>?_⟩,?_,?_⟩,hp.2.1,fun b hb=>?_,fun b hb=>?_⟩
  ·rw [HNS.out];exact hp.1
  ·rcases (hp.2.2 b hb).1 with e | e
   ·exact HR.out b e
   exact .inr (by omega)
  ·refine (HST.out.then H03.out (fun b hb e=>by omega)).then hp.2.1 fun b hb e=>?_
   rcases e with e | e
   ·exact .inl e
   rcases HR.out b e with e | e
   ·exact .inr e
   omega
  ·refine hp.2.1.blk HBX3.out ?_
   rintro (e | e)
   ·omega
   exact hneB (by rw [HR1.out];exact e)
  ·rcases hb with e | e
   ·exact .inl (.inl e)
   exact (hp.2.2 b e).1.elim (fun e=>.inl (.inr e)) .inr
  rw [World.size_setCell]
  rcases hb with e | e
  ·omega
  exact (hp.2.2 b e).2
 rintro D qs C W5 hD hS ⟨⟨r,rfl,hc,hr⟩,hst,hbx⟩ hDk
 have hql:qs.length=t.2.length:=by
  have:=congrArg List.length hS
  simp only [List.length_map,List.length_reverse] at this
  rw [this];exact hpl
 have htk:(QbZ n t).reverse.take qs.length=(QbZ n t).reverse:=List.take_of_length_le (by simp [QbZ,hql])
 rw [htk] at hc
 have hDl:=(Array.getElem?_eq_some_iff.1 hDk).1
 have hk':St (fun b=>b=D) W5 (W5.putObj D (.deferred none)):=St.put hDk rfl rfl
 have hfin:Qdu F E lo X row x W (.returned (.tuple #[])) (W5.putObj D (.deferred none)):=by
  refine ⟨rfl,E,r,?_,?_,fun b hb=>.inl hb,fun b hb=>?_⟩
  ·rw [HOP.out,HHE.out]
   refine hc.st hk' ?_
   rintro b (hb | hb | rfl | hb) e
   ·have:=HFX.out b hb;omega
   ·have:=HE4.out b hb;omega
   ·omega
   rcases hr b hb with h | h
   ·have:=HR4.out b h;omega
   omega
  ·have h1:=((HX2.out.mono (G:=fun b=>b=X∨row=some b) fun i _ hi=>.inl hi).trans (HX24.out.st _)).trans hst
   exact h1.then hk' fun b hb e=>by have:=HX24.out.size;omega
  rcases hr b hb with h | h
  ·exact .inl h
  exact .inr (by have:=HX24.out.size;omega)
 have HFIN:=Lib.hid hfin
 have HDK:=Lib.hid hDk
 clear hc hr hst hbx hDk hS hk' hfin htk hql
 gi_wp2_with fail
 refine ⟨by simp,.inl ⟨_,_,rfl,run_takeDeferred HDK.out,?_⟩⟩
 exact ⟨.tuple #[],by simp [results,Tryz.results125,go_sem],HFIN.out⟩
theorem Qbl (h:Cur F E lo X row x W) {a:AN} (hx:x.node=some a) (ok:a.ok):Calls Tryz.prog 125 #[Qe0 X] W (Qdu F E lo X row x W):=by
 obtain ⟨n,t⟩:=a
 cases n with
 | zero=>exact Ql2 h hx
 | succ n=>exact Qks h hx ok.1
end
end Go.Proofs.YtohajcflklejjaaGreat
namespace Go.Proofs.YtohajcflklejjaaGreat
open Go.RowKit
set_option linter.unusedVariables false
structure QkZ {α:Type} (P:Program) (l:Nat) (encs:α→Array Value) (lo:Nat) (G:Nat→List α→α→(Nat→Prop)→World→Prop) (J:List α→(Nat→Prop)→(Nat→Prop)→World→Prop) (Jx:List α→(Nat→Prop)→World→Prop):Prop where
 lt:∀ pre C D W,J pre C D W→∀ b,C b→b<W.heap.size
 take:∀ pre C D D1 x W0 W1,J pre C D W0→St D W0 W1→(∀ b,D1 b→D b∨W0.heap.size≤b)→(∀ b,D1 b→lo≤b∧b<W1.heap.size)→(∀ b,C b→¬D1 b)→G lo pre x (fun b=>D1 b∨C b) W1→YieldAt Fence.wide 4 P l (encs x) W1 fun e W'=>
  (e=.returned (.bool true)∧∃ C',J (pre++[x]) C' D1 W'∧St C W1 W'∧∀ b,C' b→C b∨W1.heap.size≤b)∨(e=.returned (.bool false)∧Jx (pre++[x]) D1 W'∧St C W1 W')
def Qhm {α:Type} (P:Program) (g:Nat) (lb:Array Value) (encs:α→Array Value) (K:Nat→Prop) (G:Nat→List α→α→(Nat→Prop)→World→Prop) (S Sp:List α→Prop) (w0:World):Prop:=
 ∀ (l:Nat) (J:List α→(Nat→Prop)→(Nat→Prop)→World→Prop) (Jx:List α→(Nat→Prop)→World→Prop) (C:Nat→Prop) (W:World),QkZ P l encs W.heap.size G J Jx→Agree K w0 W→w0.heap.size≤W.heap.size→(∀ b,C b→¬K b)→J [] C (fun _=>False) W→
  Calls P g (#[.func (.yield l) #[] #[]]++lb) W fun e W'=>(∃ v,e=.returned v)∧((∃ xs C' D W0,S xs∧J xs C' D W0∧St D W0 W'∧(∀ b,D b→W.heap.size≤b))∨(∃ pre D W0,Sp pre∧Jx pre D W0∧St D W0 W'∧(∀ b,D b→W.heap.size≤b)))
def Ql3 {α:Type} (C:Nat→Prop) (D1:Nat→Prop) (I:List α→(Nat→Prop)→(Nat→Prop)→World→Prop) (Ix:Code→List α→(Nat→Prop)→World→Prop) (xs:List α) (W:World):Exit→Act→World→Prop
 | .normal,_,W'=>∃ C',I xs C' D1 W'∧St C W W'∧(∀ b,C' b→C b∨W.heap.size≤b)∧(∀ b,C' b→b<W'.heap.size)
 | .ret,_,W'=>St C W W'∧Ix .ret xs D1 W'
 | .exit id,_,W'=>St C W W'∧Ix (.exit id) xs D1 W'
 | .goto t,_,W'=>St C W W'∧Ix (.goto t) xs D1 W'
 | .panic _,_,_=>False
 | .outgrown,_,_=>False
theorem QeH {α:Type} {n:Nat} {P:Program} {g:Operand} {ps:Array Tmp} {assign body:Code} {Q:Exit→Act→World→Prop} {a:Act} {w:World}
  {gf:Nat} {lb:Array Value} (hg:a.eval g=.func (.func gf) #[] lb) (eg:∀ args w,(callFunc gf args).run P w=.ok (.enter gf args) w)
  {encs:α→Array Value} {K:Nat→Prop} {G:Nat→List α→α→(Nat→Prop)→World→Prop} {S Sp:List α→Prop} {w0:World} (hseq:Qhm P gf lb encs K G S Sp w0)
  (hA:Agree K w0 w) (hsz:w0.heap.size≤w.heap.size) (hK:∀ b,K b→b<w.heap.size) (hps:∀ x,(encs x).size=ps.size)
  (I:List α→(Nat→Prop)→(Nat→Prop)→World→Prop) (Ix:Code→List α→(Nat→Prop)→World→Prop) (C₀:Nat→Prop) (hC:∀ b,C₀ b→b<w.heap.size∧¬K b)
  (hI:∀ {s C D W W'},I s C D W→St (fun b=>b=w.heap.size+1) W W'→I s C D W') (hIx:∀ {c s D W W'},Ix c s D W→St (fun b=>b=w.heap.size+1) W W'→Ix c s D W')
  (h0:∀ W,Ext w W→w.heap.size+2≤W.heap.size→I [] C₀ (fun _=>False) W)
  (hround:∀ (pre:List α) (C D D1:Nat→Prop) (x:α) (W0 W1:World),I pre C D W0→(∀ b,C b→b<W0.heap.size)→w.heap.size+2≤W0.heap.size→¬C (w.heap.size+1)→St D W0 W1→(∀ b,D1 b→D b∨W0.heap.size≤b)→(∀ b,D1 b→w.heap.size+2≤b∧b<W1.heap.size)→(∀ b,C b→¬D1 b)→G (w.heap.size+2) pre x (fun b=>D1 b∨(C b∨b=w.heap.size+1)) W1→
    assign.wpIn (Fence.wide.inRound (w.heap.size+1)) 4 P (Exit.then (fun a1 W2=>Ext W1 W2∧∀ W3,St (fun b=>b=w.heap.size+1) W2 W3→body.wpIn (Fence.wide.inRound (w.heap.size+1)) 4 P (Ql3 C D1 I Ix (pre++[x]) W3) a1 W3) (fun _ _ _=>False))
     { tmps:=(ps.zip (encs x)).foldl (fun t (p,v)=>t.setIfInBounds p v) a.tmps,defers:=[] } W1)
  (hdone:∀ (D:Nat) (xs:List α) (C Di:Nat→Prop) (W0 W:World),D=w.heap.size→S xs→I xs C Di W0→St (fun b=>Di b∨b=w.heap.size+1) W0 W→(∀ b,Di b→w.heap.size+2≤b)→W.heap[D]? = some (.deferred (some []))→Q .normal { a with defers:={ target:=.collected D,args:=#[] } :: a.defers } W)
  (hstop:∀ (D:Nat) (c:Code) (pre:List α) (Di:Nat→Prop) (W0 W:World),D=w.heap.size→Sp pre→Ix c pre Di W0→St (fun b=>Di b∨b=w.heap.size+1) W0 W→(∀ b,Di b→w.heap.size+2≤b)→W.heap[D]? = some (.deferred (some []))→c.wpIn Fence.wide n P Q { a with defers:={ target:=.collected D,args:=#[] } :: a.defers } W) :
  (Code.rangeFunc g ps assign body).wpIn Fence.wide n P Q a w:=by
 refine wpIn_rangeFunc fun fn hfn=>?_
 rw [show Fence.wide.round=none from rfl]
 -- the loop's record at each of its states;where it lies,and the block of the rounds' deferred calls
 let rec_:LoopState→Option Code→Obj:=fun st pe=>.loop { state:=st,pending:=pe,fn,tmps:=a.tmps,params:=ps,assign,body,defers:=w.heap.size }
 let BK:LoopState→Option Code→World→Prop:=fun st pe W=>W.heap[w.heap.size+1]? = some (rec_ st pe)∧W.heap[w.heap.size]? = some (.deferred (some []))
 have bkL:∀ {st pe W},BK st pe W→w.heap.size+1<W.heap.size:=fun h=>(Array.getElem?_eq_some_iff.1 h.1).1
 have bkE:∀ {st pe W W'},BK st pe W→Ext W W'→BK st pe W':=fun h he=>⟨(he.heap (Array.getElem?_eq_some_iff.1 h.1).1).trans h.1,(he.heap (Array.getElem?_eq_some_iff.1 h.2).1).trans h.2⟩
 have bkS:∀ {st pe W W'} {C:Nat→Prop},BK st pe W→St C W W'→¬C (w.heap.size+1)→¬C w.heap.size→BK st pe W':=fun h hk h1 h2=>⟨(hk.block _ (bkL h) h1).trans h.1,(hk.block _ (by have:=bkL h;omega) h2).trans h.2⟩
 have bkP:∀ {st pe W} (st':LoopState) (pe':Option Code),BK st pe W→BK st' pe' (W.putObj (w.heap.size+1) (rec_ st' pe'))∧St (fun b=>b=w.heap.size+1) W (W.putObj (w.heap.size+1) (rec_ st' pe')):=fun st' pe' h=>
  ⟨⟨World.putObj_heap_same (Array.getElem?_eq_some_iff.1 h.1).1,(World.putObj_heap_other (by omega)).trans h.2⟩,St.put h.1 rfl rfl⟩
 have e1:Ext w (w.alloc (.deferred (some []))):=QgZ w _ fun W i j h=>by simp [World.frozen?,h]
 have e2:Ext (w.alloc (.deferred (some []))) ((w.alloc (.deferred (some []))).alloc (rec_ .ready none)):=QgZ _ _ fun W i j h=>by simp [World.frozen?,h,rec_]
 have hrun:=run_enterLoop_outer (P:=P) (w:=w) fn a.tmps ps assign body
 have bk1:BK .ready none ((w.alloc (.deferred (some []))).alloc (rec_ .ready none)):=
  ⟨by have:=World.alloc_heap_new (w.alloc (.deferred (some []))) (rec_ .ready none);rwa [World.size_alloc] at this,(Below.heap_alloc _ _ _ (by simp)).trans (World.alloc_heap_new w _)⟩
 have eW:=e1.trans e2
 have hs1:((w.alloc (.deferred (some []))).alloc (rec_ .ready none)).heap.size=w.heap.size+2:=by simp
 change _=Result.ok _ ((w.alloc (.deferred (some []))).alloc (rec_ .ready none)) at hrun
 generalize (w.alloc (.deferred (some []))).alloc (rec_ .ready none)=W1 at *
 refine ⟨w.heap.size+1,_,W1,{ target:=.fn (.func gf) lb,args:=#[.func (.yield (w.heap.size+1)) #[] #[]] },W1,gf,#[.func (.yield (w.heap.size+1)) #[] #[]]++lb,W1,hrun,?_,?_,?_,fun h=>by simp [Fence.wide] at h,?_⟩
 ·simp only [resolve,hg]
  simp [go_sem]
 ·intro f' hf';trivial
 ·simp [invoke,go_sem,eg]
 refine callsIn_wide.2 ((hseq (w.heap.size+1) (fun pre C D W=>∃ C0:Nat→Prop,C=(fun b=>C0 b∨b=w.heap.size+1)∧I pre C0 D W∧(∀ b,C0 b→b<W.heap.size)∧¬C0 (w.heap.size+1)∧¬C0 w.heap.size∧BK .ready none W∧(∀ b,D b→w.heap.size+2≤b)∧w.heap.size+2≤W.heap.size) (fun pre D W=>∃ c,Ix c pre D W∧BK .done (some c) W∧(∀ b,D b→w.heap.size+2≤b)) (fun b=>C₀ b∨b=w.heap.size+1) W1 ⟨?_,?_⟩ (hA.trans (eW.agree hK)) (Nat.le_trans hsz eW.size) ?_
  ⟨C₀,rfl,h0 W1 eW (by omega),fun b hb=>by have:=(hC b hb).1;omega,fun h=>by have:=(hC _ h).1;omega,fun h=>by have:=(hC _ h).1;omega,bk1,fun _ h=>h.elim,by omega⟩).mono ?_)
 ·rintro pre C D W ⟨C0,rfl,-,hlt,-,-,hbk,-⟩ b (hb | rfl)
  ·exact hlt b hb
  exact bkL hbk
 ·rintro pre C D D1 x W0 Wy ⟨C0,rfl,hi,hlt,nL,nD,hbk,hDl,hz0⟩ hx hD1 hD1l hCD hgd
  have hbk1:=bkS hbk hx (fun h=>by have:=hDl _ h;omega) (fun h=>by have:=hDl _ h;omega)
  have hD2:∀ b,D1 b→w.heap.size+2≤b∧b<Wy.heap.size:=fun b hb=>by have:=hD1l b hb;omega
  have hl0:=bkL hbk
  refine ⟨fn,_,assign,body,run_yield (args:=encs x) hbk1.1 (hps x),roundIn_of_wpIn hfn (wpIn_mono (hround pre C0 D D1 x W0 Wy hi hlt (by omega) nL hx hD1 hD2 (fun b hb=>hCD b (.inl hb)) (by rw [hs1] at hgd;exact hgd)) ?_)⟩
  rintro e a3 W2 hp
  cases e with
  | normal=>
    obtain ⟨hx2,hb⟩:=hp
    have hbk2:=bkE hbk1 hx2
    obtain ⟨hbk3,ht3⟩:=bkP .busy none hbk2
    refine ⟨_,run_beginRound hbk2.1 rfl,wpIn_mono (hb _ ht3) ?_⟩
    have hl3:=bkL hbk3
    generalize W2.putObj (w.heap.size+1) (rec_ .busy none)=W3 at *
    rintro e a4 W4 hq
    cases e with
    | normal=>
      obtain ⟨C',hi4,hst,hsub,hlt4⟩:=hq
      have hbk4:=bkS hbk3 hst nL nD
      obtain ⟨hbk5,ht5⟩:=bkP .ready none hbk4
      refine ⟨_,_,run_endRound none hbk4.1,.inl ⟨rfl,_,⟨C',rfl,hI hi4 ht5,fun b hb=>Nat.lt_of_lt_of_le (hlt4 b hb) ht5.size,fun h=>?_,fun h=>?_,hbk5,fun b hb=>(hD2 b hb).1,Nat.le_trans (show w.heap.size+2≤W4.heap.size by have:=hx.size;have:=hx2.size;have:=ht3.size;have:=hst.size;omega) ht5.size⟩,?_,?_⟩⟩
      ·rcases hsub _ h with h | h
       ·exact nL h
       omega
      ·rcases hsub _ h with h | h
       ·exact nD h
       omega
      ·exact (((hx2.st _).trans (ht3.mono fun i _ hi=>.inr hi)).trans (hst.mono fun i _ hi=>.inl hi)).trans (ht5.mono fun i _ hi=>.inr hi)
      rintro b (hb | rfl)
      ·rcases hsub b hb with h | h
       ·exact .inl (.inl h)
       exact .inr (by have:=hx2.size;have:=ht3.size;omega)
      exact .inl (.inr rfl)
    | ret=>
      have hbk4:=bkS hbk3 hq.1 nL nD
      obtain ⟨hbk5,ht5⟩:=bkP .done (some .ret) hbk4
      exact ⟨_,_,run_endRound (some .ret) hbk4.1,.inr ⟨rfl,⟨.ret,hIx hq.2 ht5,hbk5,fun b hb=>(hD2 b hb).1⟩,(((hx2.st _).trans (ht3.mono fun i _ hi=>.inr hi)).trans (hq.1.mono fun i _ hi=>.inl hi)).trans (ht5.mono fun i _ hi=>.inr hi)⟩⟩
    | exit id=>
      have hbk4:=bkS hbk3 hq.1 nL nD
      obtain ⟨hbk5,ht5⟩:=bkP .done (some (.exit id)) hbk4
      exact ⟨_,_,run_endRound (some (.exit id)) hbk4.1,.inr ⟨rfl,⟨.exit id,hIx hq.2 ht5,hbk5,fun b hb=>(hD2 b hb).1⟩,(((hx2.st _).trans (ht3.mono fun i _ hi=>.inr hi)).trans (hq.1.mono fun i _ hi=>.inl hi)).trans (ht5.mono fun i _ hi=>.inr hi)⟩⟩
    | goto t=>
      have hbk4:=bkS hbk3 hq.1 nL nD
      obtain ⟨hbk5,ht5⟩:=bkP .done (some (.goto t)) hbk4
      exact ⟨_,_,run_endRound (some (.goto t)) hbk4.1,.inr ⟨rfl,⟨.goto t,hIx hq.2 ht5,hbk5,fun b hb=>(hD2 b hb).1⟩,(((hx2.st _).trans (ht3.mono fun i _ hi=>.inr hi)).trans (hq.1.mono fun i _ hi=>.inl hi)).trans (ht5.mono fun i _ hi=>.inr hi)⟩⟩
    | panic ch=>exact hq.elim
    | outgrown=>exact hq.elim
  | ret=>exact hp.elim
  | exit id=>exact hp.elim
  | goto t=>exact hp.elim
  | panic ch=>exact hp.elim
  | outgrown=>exact hp.elim
 ·rintro b (hb | rfl) hk
  ·exact (hC b hb).2 hk
  have:=hK _ hk;omega
 rintro e W2 ⟨⟨v,rfl⟩,(⟨xs,C,D,W0,hS,⟨C0,rfl,hi,-,-,-,hbk,hDl,-⟩,hx,-⟩ | ⟨pre,D,W0,hSp,⟨c,hi,hbk,hDl⟩,hx,-⟩)⟩
 ·have hbk2:=bkS hbk hx (fun h=>by have:=hDl _ h;omega) (fun h=>by have:=hDl _ h;omega)
  obtain ⟨hbk5,ht5⟩:=bkP .exhausted none hbk2
  exact ⟨none,_,run_endLoop hbk2.1 (by simp),hdone _ xs C0 D W0 _ rfl hS hi ((hx.mono fun i _ hi=>.inl hi).trans (ht5.mono fun i _ hi=>.inr hi)) hDl hbk5.2⟩
 have hbk2:=bkS hbk hx (fun h=>by have:=hDl _ h;omega) (fun h=>by have:=hDl _ h;omega)
 obtain ⟨hbk5,ht5⟩:=bkP .exhausted (some c) hbk2
 exact ⟨some c,_,run_endLoop hbk2.1 (by simp),hstop _ c pre D W0 _ rfl hSp hi ((hx.mono fun i _ hi=>.inl hi).trans (ht5.mono fun i _ hi=>.inr hi)) hDl hbk5.2⟩
end Go.Proofs.YtohajcflklejjaaGreat
namespace Go.Proofs.YtohajcflklejjaaGreat
open Go.RowKit Go.Shelf
set_option linter.unusedVariables false
set_option linter.unusedSimpArgs false
theorem Qi7 {n:Nat} {P:Program} {c:Code} {Q:Exit→Act→World→Prop} {a:Act} {w:World} (h:c.wpIn Fence.wide n P (Exit.noGoto Q) a w):(Code.scope c).wpIn Fence.wide n P Q a w:=wpIn_wide.2 (wp_scope_straight (wpIn_wide.1 h))
abbrev Qjk (x:CE):Array Value:=#[x.agg]
structure QnO (all:List Chg) (lo:Nat) (pre:List CE) (x:CE) (D1:Nat→Prop) (W1:World):Prop where
 at_:all[pre.length]? = some x.c
 pre_:pre.map CE.c=all.take pre.length
 val:CR W1 (fun b=>lo≤b∧b<W1.heap.size∧¬D1 b) x
def Own (X Y:Nat) (rx ry:Option Nat) (b:Nat):Prop:=b=X∨b=Y∨rx=some b∨ry=some b
structure WalkM (F F':Nat→Prop) (lo X Y:Nat) (C:Nat→Prop) (J:List CE→(Nat→Prop)→(Nat→Prop)→World→Prop) (W00:World) (x y:Qam) (rx ry:Option Nat) (Ex Ey:Nat→Prop) (pre:List CE) (C' D:Nat→Prop) (Wj wr:World):Prop where
 j:J pre C' D Wj
 jst:St D Wj wr
 cx:Cur F Ex lo X rx x wr
 cy:Cur F' Ey lo Y ry y wr
 own:∀ b,Own X Y rx ry b→D b∨Wj.heap.size≤b
 low:∀ b,D b→lo≤b
 apart:∀ b,(b=X∨rx=some b)→¬Qhi F' Ey Y ry b
 apart':∀ b,(b=Y∨ry=some b)→¬Qhi F Ex X rx b
 disC:∀ b,C' b→¬Qhi F Ex X rx b∧¬Qhi F' Ey Y ry b
 clt:∀ b,C' b→b<Wj.heap.size
 st:St C W00 wr
 sub:∀ b,C' b→C b∨lo≤b
 base:W00.heap.size=lo
section
variable {F F' : Nat → Prop} {lo X Y : Nat} {C : Nat → Prop} {J : List CE → (Nat → Prop) → (Nat → Prop) → World → Prop} {W00 : World} {x y : Qam} {rx ry : Option Nat} {Ex Ey : Nat → Prop} {pre : List CE} {C' D : Nat → Prop} {Wj wr w' : World}
theorem WalkM.ext (h:WalkM F F' lo X Y C J W00 x y rx ry Ex Ey pre C' D Wj wr) (k:Ext wr w'):WalkM F F' lo X Y C J W00 x y rx ry Ex Ey pre C' D Wj w':=
 ⟨h.j,h.jst.ext k,h.cx.ext k,h.cy.ext k,h.own,h.low,h.apart,h.apart',h.disC,h.clt,h.st.ext k,h.sub,h.base⟩
theorem WalkM.Qmu (h:WalkM F F' lo X Y C J W00 x y rx ry Ex Ey pre C' D Wj wr) {x':Qam} {rx':Option Nat} {Ex':Nat→Prop} (k:St (fun b=>b=X∨rx=some b) wr w') (hc:Cur F Ex' lo X rx' x' w') (hE:∀ b,Ex' b→Ex b∨wr.heap.size≤b) (hr:∀ b,rx'=some b→rx=some b∨wr.heap.size≤b) :
  WalkM F F' lo X Y C J W00 x' y rx' ry Ex' Ey pre C' D Wj w':=by
 have hs:=h.jst.size
 have hky:∀ b,Qhi F' Ey Y ry b→b<wr.heap.size:=h.cy.kl h.cy.low
 have hkx:∀ b,Qhi F Ex' X rx' b→Qhi F Ex X rx b∨wr.heap.size≤b:=by
  rintro b (hb | hb | hb | hb)
  ·exact .inl (.inl hb)
  ·exact (hE b hb).imp (fun h=>.inr (.inl h)) id
  ·exact .inl (.inr (.inr (.inl hb)))
  exact (hr b hb).imp (fun h=>.inr (.inr (.inr h))) id
 refine ⟨h.j,h.jst.then k fun i hi hk=>?_,hc,h.cy.st k fun b hb e=>h.apart b e hb,fun b hb=>?_,h.low,fun b hb hh=>?_,fun b hb hh=>?_,fun b hb=>⟨fun hh=>?_,(h.disC b hb).2⟩,h.clt,h.st.then k fun i hi hk=>?_,h.sub,h.base⟩
 ·rcases h.own i (hk.elim (fun e=>.inl e) (fun e=>.inr (.inr (.inl e)))) with e | e
  ·exact e
  omega
 ·rcases hb with hb | hb | hb | hb
  ·exact h.own b (.inl hb)
  ·exact h.own b (.inr (.inl hb))
  ·rcases hr b hb with e | e
   ·exact h.own b (.inr (.inr (.inl e)))
   exact .inr (by omega)
  exact h.own b (.inr (.inr (.inr hb)))
 ·rcases hb with hb | hb
  ·exact h.apart b (.inl hb) hh
  rcases hr b hb with e | e
  ·exact h.apart b (.inr e) hh
  have:=hky b hh;omega
 ·have hl:b<wr.heap.size:=hky b (hb.elim (fun e=>.inr (.inr (.inl e))) (fun e=>.inr (.inr (.inr e))))
  rcases hkx b hh with e | e
  ·exact h.apart' b hb e
  omega
 ·have:=h.clt b hb
  rcases hkx b hh with e | e
  ·exact (h.disC b hb).1 e
  omega
 have hb:=h.base
 rcases hk with e | e
 ·have:=h.cx.lX;omega
 have:=(h.cx.rlt i e).1;omega
theorem WalkM.QlV (h:WalkM F F' lo X Y C J W00 x y rx ry Ex Ey pre C' D Wj wr) {y':Qam} {ry':Option Nat} {Ey':Nat→Prop} (k:St (fun b=>b=Y∨ry=some b) wr w') (hc:Cur F' Ey' lo Y ry' y' w') (hE:∀ b,Ey' b→Ey b∨wr.heap.size≤b) (hr:∀ b,ry'=some b→ry=some b∨wr.heap.size≤b) :
  WalkM F F' lo X Y C J W00 x y' rx ry' Ex Ey' pre C' D Wj w':=by
 have hs:=h.jst.size
 have hkx:∀ b,Qhi F Ex X rx b→b<wr.heap.size:=h.cx.kl h.cx.low
 have hky:∀ b,Qhi F' Ey' Y ry' b→Qhi F' Ey Y ry b∨wr.heap.size≤b:=by
  rintro b (hb | hb | hb | hb)
  ·exact .inl (.inl hb)
  ·exact (hE b hb).imp (fun h=>.inr (.inl h)) id
  ·exact .inl (.inr (.inr (.inl hb)))
  exact (hr b hb).imp (fun h=>.inr (.inr (.inr h))) id
 refine ⟨h.j,h.jst.then k fun i hi hk=>?_,h.cx.st k fun b hb e=>h.apart' b e hb,hc,fun b hb=>?_,h.low,fun b hb hh=>?_,fun b hb hh=>?_,fun b hb=>⟨(h.disC b hb).1,fun hh=>?_⟩,h.clt,h.st.then k fun i hi hk=>?_,h.sub,h.base⟩
 ·rcases h.own i (hk.elim (fun e=>.inr (.inl e)) (fun e=>.inr (.inr (.inr e)))) with e | e
  ·exact e
  omega
 ·rcases hb with hb | hb | hb | hb
  ·exact h.own b (.inl hb)
  ·exact h.own b (.inr (.inl hb))
  ·exact h.own b (.inr (.inr (.inl hb)))
  rcases hr b hb with e | e
  ·exact h.own b (.inr (.inr (.inr e)))
  exact .inr (by omega)
 ·have hl:b<wr.heap.size:=hkx b (hb.elim (fun e=>.inr (.inr (.inl e))) (fun e=>.inr (.inr (.inr e))))
  rcases hky b hh with e | e
  ·exact h.apart b hb e
  omega
 ·rcases hb with hb | hb
  ·exact h.apart' b (.inl hb) hh
  rcases hr b hb with e | e
  ·exact h.apart' b (.inr e) hh
  have:=hkx b hh;omega
 ·have:=h.clt b hb
  rcases hky b hh with e | e
  ·exact (h.disC b hb).2 e
  omega
 have hb:=h.base
 rcases hk with e | e
 ·have:=h.cy.lX;omega
 have:=(h.cy.rlt i e).1;omega
theorem WalkM.Qpy (h:WalkM F F' lo X Y C J W00 x y rx ry Ex Ey pre C' D Wj wr) {b:Nat} (hb:Own X Y rx ry b):Qhi F Ex X rx b∨Qhi F' Ey Y ry b:=by
 rcases hb with hb | hb | hb | hb
 ·exact .inl (.inr (.inr (.inl hb)))
 ·exact .inr (.inr (.inr (.inl hb)))
 ·exact .inl (.inr (.inr (.inr hb)))
 exact .inr (.inr (.inr (.inr hb)))
theorem WalkM.Qna (h:WalkM F F' lo X Y C J W00 x y rx ry Ex Ey pre C' D Wj wr) {b:Nat} (hb:Own X Y rx ry b):lo≤b∧b<wr.heap.size:=by
 rcases hb with rfl | rfl | hb | hb
 ·exact ⟨h.cx.lX,h.cx.lt⟩
 ·exact ⟨h.cy.lX,h.cy.lt⟩
 ·exact h.cx.rlt b hb
 exact h.cy.rlt b hb
theorem WalkM.Qmc (h:WalkM F F' lo X Y C J W00 x y rx ry Ex Ey pre C' D Wj wr):∀ b,Ex b→lo≤b∧b<wr.heap.size∧¬(Own X Y rx ry b∨C' b):=fun b hb=>by
 obtain ⟨e1,e2,e3,e4⟩:=h.cx.EX b hb
 refine ⟨e1,e2,?_⟩
 rintro ((e | e | e | e) | e)
 ·exact e3 e
 ·exact h.apart' b (.inl e) (.inr (.inl hb))
 ·exact e4 e
 ·exact h.apart' b (.inr e) (.inr (.inl hb))
 exact (h.disC b e).1 (.inr (.inl hb))
theorem WalkM.Qno (h:WalkM F F' lo X Y C J W00 x y rx ry Ex Ey pre C' D Wj wr):∀ b,Ey b→lo≤b∧b<wr.heap.size∧¬(Own X Y rx ry b∨C' b):=fun b hb=>by
 obtain ⟨e1,e2,e3,e4⟩:=h.cy.EX b hb
 refine ⟨e1,e2,?_⟩
 rintro ((e | e | e | e) | e)
 ·exact h.apart b (.inl e) (.inr (.inl hb))
 ·exact e3 e
 ·exact h.apart b (.inr e) (.inr (.inl hb))
 ·exact e4 e
 exact (h.disC b e).2 (.inr (.inl hb))
theorem WalkM.told (h:WalkM F F' lo X Y C J W00 x y rx ry Ex Ey pre C' D Wj wr) {c:CE} {C6:Nat→Prop} (hj:J (pre++[c]) C6 (Own X Y rx ry) w') (hlt:∀ b,C6 b→b<w'.heap.size) (hst:St C' wr w') (hsub:∀ b,C6 b→C' b∨wr.heap.size≤b) :
  WalkM F F' lo X Y C J W00 x y rx ry Ex Ey (pre++[c]) C6 (Own X Y rx ry) w' w':=by
 have hkx:∀ b,Qhi F Ex X rx b→b<wr.heap.size:=h.cx.kl h.cx.low
 have hky:∀ b,Qhi F' Ey Y ry b→b<wr.heap.size:=h.cy.kl h.cy.low
 have hlow:=h.cx.low
 refine ⟨hj,St.refl _ _,h.cx.st hst fun b hb e=>(h.disC b e).1 hb,h.cy.st hst fun b hb e=>(h.disC b e).2 hb,fun b hb=>.inl hb,fun b hb=>(h.Qna hb).1,h.apart,h.apart',fun b hb=>⟨fun hh=>?_,fun hh=>?_⟩,hlt,h.st.then hst fun i hi hk=>?_,fun b hb=>?_,h.base⟩
 ·rcases hsub b hb with e | e
  ·exact (h.disC b e).1 hh
  have:=hkx b hh;omega
 ·rcases hsub b hb with e | e
  ·exact (h.disC b e).2 hh
  have:=hky b hh;omega
 ·have hb:=h.base
  rcases h.sub i hk with e | e
  ·exact e
  omega
 rcases hsub b hb with e | e
 ·exact h.sub b e
 exact .inr (by omega)
theorem WalkM.yields {l:Nat} {all:List Chg} {Jx:List CE→(Nat→Prop)→World→Prop} (h:WalkM F F' lo X Y C J W00 x y rx ry Ex Ey pre C' D Wj wr) (hT:QkZ Tryz.prog l Qjk lo (fun lo=>QnO all lo) J Jx) {c:CE} {rest:List Chg} (hall:all=pre.map CE.c++(c.c :: rest)) (hc:CR wr (fun b=>lo≤b∧b<wr.heap.size∧¬(Own X Y rx ry b∨C' b)) c) :
  YieldAt Fence.wide 4 Tryz.prog l (Qjk c) wr fun e W'=>(e=.returned (.bool true)∧∃ C6,J (pre++[c]) C6 (Own X Y rx ry) W'∧St C' wr W'∧∀ b,C6 b→C' b∨wr.heap.size≤b)∨(e=.returned (.bool false)∧Jx (pre++[c]) (Own X Y rx ry) W'∧St C' wr W'):=by
 refine hT.take pre C' D (Own X Y rx ry) c Wj wr h.j h.jst h.own (fun b hb=>h.Qna hb) (fun b hb ho=>?_) ⟨?_,?_,hc⟩
 ·rcases h.Qpy ho with e | e
  ·exact (h.disC b hb).1 e
  exact (h.disC b hb).2 e
 ·rw [hall,List.getElem?_append_right (by simp)];simp
 rw [hall,List.take_left' (by simp)]
end
end Go.Proofs.YtohajcflklejjaaGreat
