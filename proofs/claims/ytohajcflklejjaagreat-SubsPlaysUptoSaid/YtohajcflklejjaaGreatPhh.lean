/- What the theorem needs of the texts DiffW, DiffQ, DiffC, DiffD, Same9, Get9: no condition of its own. -/
import Derived.Sort.LoopGhostIn
import Derived.Laws.IdiomStrings
import Derived.WalkArith
import Derived.RangeFuncNested
import Derived.RangeFuncBound
import Derived.RangeFuncCalls
import Derived.RangeFuncLeaves
import Derived.OwnWalkIn
import Derived.Test.YtohajcflklejjaaGreatPha
import Derived.Test.YtohajcflklejjaaGreatPhb
import Derived.Test.YtohajcflklejjaaGreatPhc
import Derived.Test.YtohajcflklejjaaGreatPhd
import Derived.Test.YtohajcflklejjaaGreatPhe
import Derived.Test.YtohajcflklejjaaGreatPhf
import Derived.Test.YtohajcflklejjaaGreatPhg
set_option maxRecDepth 100000
set_option maxHeartbeats 40000000
namespace Go.Proofs.YtohajcflklejjaaGreat
open Go.RowKit Go.Shelf
set_option linter.unusedVariables false
set_option linter.unusedSimpArgs false
attribute [local go_sem] Oper.semAt_some
theorem Qbg (w:World) (p q:Option Addr) (hp:QnR w p) (hq:QnR w q):(binOp .eql 31 (.pointer p) (.pointer q)).run Tryz.prog w=.ok (.bool (decide (p=q))) w:=by
 obtain ⟨j,hj,hz⟩:=QlI
 cases p with
 | none=>
   cases q with
   | none=>
     have h:∀ d:Nat,(Op.equalIn (d+1) 31 (.pointer none) (.pointer none)).run Tryz.prog w=.ok true w:=fun d=>by
      simp [Op.equalIn,run_underlying Tryz.underlying31]
     simp only [binOp]
     simp [Op.equal,Op.maxDepth,h 9999]
   | some b=>rw [QhF w b Tryz.underlying31];simp
 | some a=>
   cases q with
   | none=>
     have h:∀ d:Nat,(Op.equalIn (d+1) 31 (.pointer (some a)) (.pointer none)).run Tryz.prog w=.ok false w:=fun d=>by
      simp [Op.equalIn,run_underlying Tryz.underlying31]
     simp only [binOp]
     simp [Op.equal,Op.maxDepth,h 9999]
   | some b=>
     by_cases hab:a=b
     ·subst hab
      rw [run_eql_ptr_same (P:=Tryz.prog) w a Tryz.underlying31 hj];simp
     obtain ⟨ca,ta,ha⟩:=hp a rfl
     obtain ⟨cb,tb,hb⟩:=hq b rfl
     rw [run_eql_ptr_other (P:=Tryz.prog) _ Tryz.underlying31 hj hz hab ha hb];simp [hab]
def Qo0 (x:Qam) (px:Option Addr) (hz:Int) (fx lx:ByteArray) (b:Bool):Prop:=
 (x.gone∧b=false∧px=none)∨(∃ e es,x.es=e :: es∧b=true∧px=none∧hz = -1∧fx=e.1∧lx=e.1∧x.first=e.1∧x.last=e.1)∨
 (∃ (a:AN) (A:Addr),x.node=some a∧b=true∧px=some A∧A=⟨a.at_,0,none⟩∧hz=a.1∧fx=x.first∧lx=x.last)
theorem Qjv {F E:Nat→Prop} {lo X:Nat} {row:Option Nat} {x:Qam} {W:World} (h:Cur F E lo X row x W):∃ (px:Option Addr) (hz:Int) (fx lx:ByteArray) (b:Bool),
  (∀ W',Ext W W'→Calls Tryz.prog 123 #[Qe0 X] W' fun e w'=>e=.returned (.tuple #[.agg #[.pointer px,.int .i64 hz,.string fx,.string lx],.bool b])∧Ext W' w')∧Qo0 x px hz fx lx b:=by
 by_cases hg:x.gone
 ·refine ⟨none,x.height,x.first,x.last,false,fun W' hW=>?_,.inl ⟨hg,rfl,rfl⟩⟩
  have:=QlB (h.ext hW) hg
  have hp:x.Qf2=.pointer none:=by
   obtain ⟨es,ns,o⟩:=x
   obtain ⟨rfl,rfl⟩:es=[]∧ns=[]:=hg
   rfl
  unfold QbE at this
  rwa [hp] at this
 cases hn:x.node with
 | none=>
   obtain ⟨e,es,he⟩:=Qam.QlX hn hg
   obtain ⟨-,h1,h2,-⟩:=x.QbK he
   refine ⟨none,x.height,x.first,x.last,true,fun W' hW=>?_,.inr (.inl ⟨e,es,he,rfl,rfl,x.QbU he,h1,h2,h1,h2⟩)⟩
   have:=Qkb (h.ext hW) he
   have hp:x.Qf2=.pointer none:=by unfold Qam.Qf2;rw [hn]
   unfold QbE at this
   rwa [hp] at this
 | some a=>
   refine ⟨some ⟨a.at_,0,none⟩,x.height,x.first,x.last,true,fun W' hW=>?_,.inr (.inr ⟨a,_,hn,rfl,rfl,rfl,x.QbP hn,rfl,rfl⟩)⟩
   have:=QlA (h.ext hW) hn
   have hp:x.Qf2=.pointer (some ⟨a.at_,0,none⟩):=by unfold Qam.Qf2;rw [hn];rfl
   unfold QbE at this
   rwa [hp] at this
theorem IsN.QcG {w:World} {F:Nat→Prop} {h:Nat} {t:PT h} (hn:IsN w F h t) {p:Option Addr} (hp:p=some ⟨addr h t,0,none⟩):QnR w p:=by
 intro a ha
 rw [hp] at ha
 obtain rfl:(⟨addr h t,0,none⟩:Addr)=a:=by simpa using ha
 obtain ⟨-,_,_,_,_,-,hb⟩:=hn.cells
 exact ⟨_,_,hb⟩
theorem QlY {w:World} {F F':Nat→Prop} {a b:AN} (ha:IsN w F a.1 a.2) (hb:IsN w F' b.1 b.2) (e:a.at_=b.at_):a=b:=by
 obtain ⟨h,t⟩:=a
 obtain ⟨h',t'⟩:=b
 have hh:=ha.heights hb e
 dsimp only at hh
 subst hh
 have:=ha.det hb e
 dsimp only at this
 rw [this]
def QeK (F F':Nat→Prop) (lo X Y:Nat) (x0 y0:Qam) (all:List Chg) (C:Nat→Prop) (J:List CE→(Nat→Prop)→(Nat→Prop)→World→Prop) (Jx:List CE→(Nat→Prop)→World→Prop) (W00:World) (e:Ending) (w':World):Prop:=
 e=.returned (.tuple #[])∧((∃ x y rx ry Ex Ey pre C' D Wj,WalkM F F' lo X Y C J W00 x y rx ry Ex Ey pre C' D Wj w'∧Run x0 y0 x y (pre.map CE.c)∧x.gone∧y.gone)∨
  (∃ pre D,Jx pre D w'∧(∀ b,D b→lo≤b)∧pre.map CE.c <+: all∧St C W00 w'))
theorem Qbo {x0 y0 x y x' y':Qam} {l m:List Chg} {c:Chg} (h:Run x0 y0 x y l) (okx:x0.ok) (oky:y0.ok) (hs:Step x y x' y' [c]):chg x0.cont y0.cont=l++(c :: chg x'.cont y'.cont):=by
 rw [h.chg okx oky,hs.chg (h.ok okx oky).1 (h.ok okx oky).2];rfl
theorem QcD {l:List Chg} {c:Chg} {rest:List Chg}:l++[c] <+: l++(c :: rest):=⟨rest,by simp⟩
theorem QhB {F F':Nat→Prop} {lo X Y l:Nat} {C:Nat→Prop} {J:List CE→(Nat→Prop)→(Nat→Prop)→World→Prop} {Jx:List CE→(Nat→Prop)→World→Prop} {W00:World} {x0 y0:Qam} {rx0 ry0:Option Nat} {Ex0 Ey0:Nat→Prop} {C0 D0:Nat→Prop} {Wj0 W:World} {all:List Chg}
  (hT:QkZ Tryz.prog l Qjk lo (fun lo=>QnO all lo) J Jx) (hS:WalkM F F' lo X Y C J W00 x0 y0 rx0 ry0 Ex0 Ey0 [] C0 D0 Wj0 W) (okx:x0.ok) (oky:y0.ok) (hall:all=chg x0.cont y0.cont) :
  Calls Tryz.prog 99 #[Qe0 X,Qe0 Y,.func (.yield l) #[] #[]] W (QeK F F' lo X Y x0 y0 all C J Jx W00):=by
 have HT:=Lib.hid hT
 have HS0:=Lib.hid hS
 have HOKX:=Lib.hid okx
 have HOKY:=Lib.hid oky
 have HALL:=Lib.hid hall
 clear hT hS okx oky hall
 refine (callsIn_wide (n:=5)).1 ?_
 refine callsIn_of_wp Tryz.func99 rfl trivial ?_ rfl
 simp only [Tryz.ntmps99,List.size_toArray,List.length_cons,List.length_nil,Nat.reduceAdd,Nat.reduceSub,Array.replicate_succ,Array.replicate_zero,List.push_toArray,List.append_toArray,List.nil_append,List.cons_append]
 gi_wp2_with fail
 refine Qi7 ?_
 gi_wp2_with fail
 refine wpIn_label ?_
 gi_wp2_with fail
 gi_loopg [] (x0.wt+y0.wt) (fun k wr=>∃ (x y:Qam) (rx ry:Option Nat) (Ex Ey:Nat→Prop) (pre:List CE) (C' D:Nat→Prop) (Wj:World),x.wt+y.wt=k∧WalkM F F' lo X Y C J W00 x y rx ry Ex Ey pre C' D Wj wr∧Run x0 y0 x y (pre.map CE.c))
 case atStart=>exact ⟨x0,y0,_,_,_,_,[],_,_,_,rfl,HS0.out,Run.start⟩
 obtain ⟨x,y,rx,ry,Ex,Ey,pre,C',D,Wj,rfl,hS,hrun⟩:=hrel
 obtain ⟨px,hzx,fx,lx,bx,hhx,hfx⟩:=Qjv hS.cx
 obtain ⟨py,hzy,fy,ly,by_,hhy,hfy⟩:=Qjv hS.cy
 obtain ⟨okx,oky⟩:=hrun.ok HOKX.out HOKY.out
 have HS:=Lib.hid hS
 have HRUN:=Lib.hid hrun
 have HHX:=Lib.hid hhx
 have HHY:=Lib.hid hhy
 have HOX:=Lib.hid okx
 have HOY:=Lib.hid oky
 clear hS hrun hhx hhy okx oky
 rcases hfx with ⟨hgx,rfl,rfl⟩ | ⟨e,es1,hex,rfl,rfl,rfl,hf1,hl1,hf2,hl2⟩ | ⟨a,A,hnx,rfl,rfl,hA,hz1,hf1,hl1⟩
 ·skip
  have hnnx:x.node=none:=by unfold Qam.node;rw [if_pos hgx.1,hgx.2];rfl
  rcases hfy with ⟨hgy,rfl,rfl⟩ | ⟨f,es2,hey,rfl,rfl,rfl,hf1,hl1,hf2,hl2⟩ | ⟨b,B,hny,rfl,rfl,hB,hz1,hf1,hl1⟩
  ·skip
   have hnny:y.node=none:=by unfold Qam.node;rw [if_pos hgy.1,hgy.2];rfl
   gi_wp2_with fail
   refine ⟨trivial,?_⟩
   refine (callsIn_wide.2 (HHX.out wr (Ext.refl wr))).mono ?_
   rintro e w1 ⟨rfl,hx1⟩
   have hx1':=hx1.alloc #[.pointer none,.int .i64 hzx,.string fx,.string lx] 194
   have hbp:=Blk.new w1 194 #[.pointer none,.int .i64 hzx,.string fx,.string lx]
   have HX1:=Lib.hid hx1'
   have HBP:=Lib.hid hbp
   clear hx1 hx1' hbp
   gi_wp2_with fail
   refine ⟨trivial,?_⟩
   refine (callsIn_wide.2 (HHY.out _ HX1.out)).mono ?_
   rintro e w2 ⟨rfl,hx2⟩
   have hbp2:=HBP.out.ext hx2
   have p0:w2.cell? ⟨w1.heap.size,0,none⟩=some (.pointer none):=hbp2.cell 0
   have p1:w2.cell? ⟨w1.heap.size,1,none⟩=some (.int .i64 hzx):=hbp2.cell 1
   have p2:w2.cell? ⟨w1.heap.size,2,none⟩=some (.string fx):=hbp2.cell 2
   have p3:w2.cell? ⟨w1.heap.size,3,none⟩=some (.string lx):=hbp2.cell 3
   have lp:=hbp2.lt
   have hx3:=(HX1.out.trans hx2).alloc #[.pointer none,.int .i64 hzy,.string fy,.string ly] 194
   have HS3:=Lib.hid (HS.out.ext hx3)
   have HW3:=Lib.hid hx3
   clear hx2 hx3 hbp2
   gi_wp2_with fail
   have HFIN:=Lib.hid (show QeK F F' lo X Y x0 y0 all C J Jx W00 (.returned (.tuple #[])) _ from ⟨rfl,.inl ⟨x,y,_,_,_,_,pre,_,_,_,HS3.out,HRUN.out,hgx,hgy⟩⟩)
   go_end0
   exact HFIN.out
  ·skip
   have hnny:y.node=none:=by unfold Qam.node;rw [if_neg (by rw [hey];simp)]
   have hngy:¬y.gone:=fun h=>by rw [h.1] at hey;cases hey
   have HFY:=Lib.hid (hf1.trans hf2.symm)
   have HLY:=Lib.hid (hl1.trans hl2.symm)
   have HFF:=Lib.hid hf1
   have HLF:=Lib.hid hl1
   clear hf1 hl1 hf2 hl2
   gi_wp2_with fail
   refine ⟨trivial,?_⟩
   refine (callsIn_wide.2 (HHX.out wr (Ext.refl wr))).mono ?_
   rintro e w1 ⟨rfl,hx1⟩
   have hx1':=hx1.alloc #[.pointer none,.int .i64 hzx,.string fx,.string lx] 194
   have hbp:=Blk.new w1 194 #[.pointer none,.int .i64 hzx,.string fx,.string lx]
   have HX1:=Lib.hid hx1'
   have HBP:=Lib.hid hbp
   clear hx1 hx1' hbp
   gi_wp2_with fail
   refine ⟨trivial,?_⟩
   refine (callsIn_wide.2 (HHY.out _ HX1.out)).mono ?_
   rintro e w2 ⟨rfl,hx2⟩
   have hbp2:=HBP.out.ext hx2
   have p0:w2.cell? ⟨w1.heap.size,0,none⟩=some (.pointer none):=hbp2.cell 0
   have p1:w2.cell? ⟨w1.heap.size,1,none⟩=some (.int .i64 hzx):=hbp2.cell 1
   have p2:w2.cell? ⟨w1.heap.size,2,none⟩=some (.string fx):=hbp2.cell 2
   have p3:w2.cell? ⟨w1.heap.size,3,none⟩=some (.string lx):=hbp2.cell 3
   have lp:=hbp2.lt
   have hx3:=(HX1.out.trans hx2).alloc #[.pointer none,.int .i64 (-1),.string fy,.string ly] 194
   have HS3:=Lib.hid (HS.out.ext hx3)
   have HW3:=Lib.hid hx3
   clear hx2 hx3 hbp2
   gi_wp2_with fail
   refine ⟨trivial,?_⟩
   refine (callsIn_wide.2 (QbY HS3.out.cy hey)).mono ?_
   rintro e' w4 ⟨sl,so,rfl,hc4,hst4,hr4,hk4⟩
   have HS4:=Lib.hid (HS3.out.QlV (hst4.mono fun i _ hi=>.inl hi) hc4 (fun b hb=>.inl hb) (fun b hb=>.inl hb))
   have HCR4:=Lib.hid (QiB hr4 hk4)
   have HST:=Lib.hid (show Step x y x y.take [Qfk f] from .come hey (.inl hgx))
   clear hc4 hst4 hr4 hk4 p0 p1 p2 p3 lp
   gi_wp2_with fail
   refine ⟨trivial,?_⟩
   refine (callsIn_wide.2 (QgW w4 f sl so)).mono ?_
   rintro e' w5 ⟨rfl,hx5⟩
   have HS5:=Lib.hid (HS4.out.ext hx5)
   have HCR:=Lib.hid ((HCR4.out.agree (hx5.agree fun b hb=>(HS4.out.Qno b hb).2.1)).mono (HS5.out.Qno))
   clear hx5
   obtain ⟨fn,tmps,assign,body,hy,hR⟩:=HS5.out.yields HT.out (HALL.out.trans (Qbo (m:=[]) HRUN.out HOKX.out HOKY.out HST.out)) HCR.out
   have HR:=Lib.hid hR
   clear hR
   dsimp only [Qjk] at hy
   gi_wp2_with fail
   refine HR.out.mono ?_
   rintro e w6 (⟨rfl,C6,hj6,hst6,hsub6⟩ | ⟨rfl,hjx,hst6⟩)
   ·have HS9:=Lib.hid (HS5.out.told hj6 (HT.out.lt _ _ _ _ hj6) hst6 hsub6)
    have HRN:=Lib.hid (show Run x0 y0 x y.take ((pre++[Qfl f sl so]).map CE.c) by rw [List.map_append];exact HRUN.out.step HST.out)
    clear hj6 hst6 hsub6 hy
    gi_wp2_with fail
    gi_roundg (x.wt+y.take.wt)
    case rel=>exact ⟨x,y.take,_,_,_,_,_,_,_,_,rfl,HS9.out,HRN.out⟩
    exact HST.out.wt
   have HFIN:=Lib.hid (show QeK F F' lo X Y x0 y0 all C J Jx W00 (.returned (.tuple #[])) w6 from ⟨rfl,.inr ⟨_,_,hjx,fun b hb=>(HS5.out.Qna hb).1,by rw [HALL.out,Qbo (m:=[]) HRUN.out HOKX.out HOKY.out HST.out,List.map_append];exact QcD,HS5.out.st.then hst6 fun i hi hk=>(HS5.out.sub i hk).elim id fun h=>by have:=HS5.out.base;omega⟩⟩)
   clear hjx hst6 hy
   gi_wp2_with fail
   go_end0
   exact HFIN.out
  skip
  have hngy:¬y.gone:=fun h=>by have:=(y.Qaj hny).2.2;rw [h.2] at this;cases this
  have HFY:=Lib.hid hf1
  have HLY:=Lib.hid hl1
  have HB:=Lib.hid hB
  have HZY:=Lib.hid hz1
  have hz0y:(-1:Int)<hzy:=by omega
  have hz0y':¬hzy<(-1:Int):=by omega
  clear hf1 hl1 hB hz1
  have hne:¬Qi0 x y:=fun ⟨a',b',h1,h2,h3⟩=>by rw [hnnx] at h1;cases h1
  gi_wp2_with fail
  refine ⟨trivial,?_⟩
  refine (callsIn_wide.2 (HHX.out wr (Ext.refl wr))).mono ?_
  rintro e w1 ⟨rfl,hx1⟩
  have hx1':=hx1.alloc #[.pointer none,.int .i64 hzx,.string fx,.string lx] 194
  have hbp:=Blk.new w1 194 #[.pointer none,.int .i64 hzx,.string fx,.string lx]
  have HX1:=Lib.hid hx1'
  have HBP:=Lib.hid hbp
  clear hx1 hx1' hbp
  gi_wp2_with fail
  refine ⟨trivial,?_⟩
  refine (callsIn_wide.2 (HHY.out _ HX1.out)).mono ?_
  rintro e w2 ⟨rfl,hx2⟩
  have hbp2:=HBP.out.ext hx2
  have p0:w2.cell? ⟨w1.heap.size,0,none⟩=some (.pointer none):=hbp2.cell 0
  have p1:w2.cell? ⟨w1.heap.size,1,none⟩=some (.int .i64 hzx):=hbp2.cell 1
  have p2:w2.cell? ⟨w1.heap.size,2,none⟩=some (.string fx):=hbp2.cell 2
  have p3:w2.cell? ⟨w1.heap.size,3,none⟩=some (.string lx):=hbp2.cell 3
  have lp:=hbp2.lt
  have hx3:=(HX1.out.trans hx2).alloc #[.pointer (some B),.int .i64 hzy,.string fy,.string ly] 194
  have HS3:=Lib.hid (HS.out.ext hx3)
  have HW3:=Lib.hid hx3
  clear hx2 hx3 hbp2
  gi_wp2_with fail
  refine ⟨trivial,?_⟩
  refine (callsIn_wide.2 (Qbl HS3.out.cy hny (HOY.out b (List.mem_of_getLast? (y.Qaj hny).2.2)))).mono ?_
  rintro e w4 ⟨rfl,E4,r4,hc4,hst4,hE4,hr4⟩
  have HS9:=Lib.hid (HS3.out.QlV hst4 hc4 hE4 hr4)
  have HST:=Lib.hid (show Step x y x y.open_ [] from .openY hny hne (.inl hgx))
  have HRN:=Lib.hid (show Run x0 y0 x y.open_ (pre.map CE.c) by have:=HRUN.out.step HST.out;rwa [List.append_nil] at this)
  clear hc4 hst4 hE4 hr4
  clear p0 p1 p2 p3 lp
  gi_wp2_with fail
  gi_roundg (x.wt+y.open_.wt)
  case rel=>exact ⟨x,y.open_,_,_,_,_,_,_,_,_,rfl,HS9.out,HRN.out⟩
  exact HST.out.wt
 ·skip
  have hnnx:x.node=none:=by unfold Qam.node;rw [if_neg (by rw [hex];simp)]
  have hngx:¬x.gone:=fun h=>by rw [h.1] at hex;cases hex
  have HFX:=Lib.hid (hf1.trans hf2.symm)
  have HLX:=Lib.hid (hl1.trans hl2.symm)
  have HFE:=Lib.hid hf1
  have HLE:=Lib.hid hl1
  clear hf1 hl1 hf2 hl2
  rcases hfy with ⟨hgy,rfl,rfl⟩ | ⟨f,es2,hey,rfl,rfl,rfl,hf1,hl1,hf2,hl2⟩ | ⟨b,B,hny,rfl,rfl,hB,hz1,hf1,hl1⟩
  ·skip
   have hnny:y.node=none:=by unfold Qam.node;rw [if_pos hgy.1,hgy.2];rfl
   gi_wp2_with fail
   refine ⟨trivial,?_⟩
   refine (callsIn_wide.2 (HHX.out wr (Ext.refl wr))).mono ?_
   rintro e w1 ⟨rfl,hx1⟩
   have hx1':=hx1.alloc #[.pointer none,.int .i64 (-1),.string fx,.string lx] 194
   have hbp:=Blk.new w1 194 #[.pointer none,.int .i64 (-1),.string fx,.string lx]
   have HX1:=Lib.hid hx1'
   have HBP:=Lib.hid hbp
   clear hx1 hx1' hbp
   gi_wp2_with fail
   refine ⟨trivial,?_⟩
   refine (callsIn_wide.2 (HHY.out _ HX1.out)).mono ?_
   rintro e w2 ⟨rfl,hx2⟩
   have hbp2:=HBP.out.ext hx2
   have p0:w2.cell? ⟨w1.heap.size,0,none⟩=some (.pointer none):=hbp2.cell 0
   have p1:w2.cell? ⟨w1.heap.size,1,none⟩=some (.int .i64 (-1)):=hbp2.cell 1
   have p2:w2.cell? ⟨w1.heap.size,2,none⟩=some (.string fx):=hbp2.cell 2
   have p3:w2.cell? ⟨w1.heap.size,3,none⟩=some (.string lx):=hbp2.cell 3
   have lp:=hbp2.lt
   have hx3:=(HX1.out.trans hx2).alloc #[.pointer none,.int .i64 hzy,.string fy,.string ly] 194
   have HS3:=Lib.hid (HS.out.ext hx3)
   have HW3:=Lib.hid hx3
   clear hx2 hx3 hbp2
   gi_wp2_with fail
   refine ⟨trivial,?_⟩
   refine (callsIn_wide.2 (QbY HS3.out.cx hex)).mono ?_
   rintro e' w4 ⟨sl,so,rfl,hc4,hst4,hr4,hk4⟩
   have HS4:=Lib.hid (HS3.out.Qmu (hst4.mono fun i _ hi=>.inl hi) hc4 (fun b hb=>.inl hb) (fun b hb=>.inl hb))
   have HCR4:=Lib.hid (QiI hr4 hk4)
   have HST:=Lib.hid (show Step x y x.take y [QeM e] from .gone hex (.inl hgy))
   clear hc4 hst4 hr4 hk4 p0 p1 p2 p3 lp
   gi_wp2_with fail
   refine ⟨trivial,?_⟩
   refine (callsIn_wide.2 (Qg0 w4 e sl so)).mono ?_
   rintro e' w5 ⟨rfl,hx5⟩
   have HS5:=Lib.hid (HS4.out.ext hx5)
   have HCR:=Lib.hid ((HCR4.out.agree (hx5.agree fun b hb=>(HS4.out.Qmc b hb).2.1)).mono (HS5.out.Qmc))
   clear hx5
   obtain ⟨fn,tmps,assign,body,hy,hR⟩:=HS5.out.yields HT.out (HALL.out.trans (Qbo (m:=[]) HRUN.out HOKX.out HOKY.out HST.out)) HCR.out
   have HR:=Lib.hid hR
   clear hR
   dsimp only [Qjk] at hy
   gi_wp2_with fail
   refine HR.out.mono ?_
   rintro e w6 (⟨rfl,C6,hj6,hst6,hsub6⟩ | ⟨rfl,hjx,hst6⟩)
   ·have HS9:=Lib.hid (HS5.out.told hj6 (HT.out.lt _ _ _ _ hj6) hst6 hsub6)
    have HRN:=Lib.hid (show Run x0 y0 x.take y ((pre++[Qft e sl so]).map CE.c) by rw [List.map_append];exact HRUN.out.step HST.out)
    clear hj6 hst6 hsub6 hy
    gi_wp2_with fail
    gi_roundg (x.take.wt+y.wt)
    case rel=>exact ⟨x.take,y,_,_,_,_,_,_,_,_,rfl,HS9.out,HRN.out⟩
    exact HST.out.wt
   have HFIN:=Lib.hid (show QeK F F' lo X Y x0 y0 all C J Jx W00 (.returned (.tuple #[])) w6 from ⟨rfl,.inr ⟨_,_,hjx,fun b hb=>(HS5.out.Qna hb).1,by rw [HALL.out,Qbo (m:=[]) HRUN.out HOKX.out HOKY.out HST.out,List.map_append];exact QcD,HS5.out.st.then hst6 fun i hi hk=>(HS5.out.sub i hk).elim id fun h=>by have:=HS5.out.base;omega⟩⟩)
   clear hjx hst6 hy
   gi_wp2_with fail
   go_end0
   exact HFIN.out
  ·skip
   have hnny:y.node=none:=by unfold Qam.node;rw [if_neg (by rw [hey];simp)]
   have hngy:¬y.gone:=fun h=>by rw [h.1] at hey;cases hey
   have HFY:=Lib.hid (hf1.trans hf2.symm)
   have HLY:=Lib.hid (hl1.trans hl2.symm)
   have HFF:=Lib.hid hf1
   have HLF:=Lib.hid hl1
   clear hf1 hl1 hf2 hl2
   cases hlt:klt lx fy with
   | true=>
     have hlt':Op.bytesLess lx.toList fy.toList=true:=hlt
     have HLT:=Lib.hid hlt
     gi_wp2_with fail
     refine ⟨trivial,?_⟩
     refine (callsIn_wide.2 (HHX.out wr (Ext.refl wr))).mono ?_
     rintro e w1 ⟨rfl,hx1⟩
     have hx1':=hx1.alloc #[.pointer none,.int .i64 (-1),.string fx,.string lx] 194
     have hbp:=Blk.new w1 194 #[.pointer none,.int .i64 (-1),.string fx,.string lx]
     have HX1:=Lib.hid hx1'
     have HBP:=Lib.hid hbp
     clear hx1 hx1' hbp
     gi_wp2_with fail
     refine ⟨trivial,?_⟩
     refine (callsIn_wide.2 (HHY.out _ HX1.out)).mono ?_
     rintro e w2 ⟨rfl,hx2⟩
     have hbp2:=HBP.out.ext hx2
     have p0:w2.cell? ⟨w1.heap.size,0,none⟩=some (.pointer none):=hbp2.cell 0
     have p1:w2.cell? ⟨w1.heap.size,1,none⟩=some (.int .i64 (-1)):=hbp2.cell 1
     have p2:w2.cell? ⟨w1.heap.size,2,none⟩=some (.string fx):=hbp2.cell 2
     have p3:w2.cell? ⟨w1.heap.size,3,none⟩=some (.string lx):=hbp2.cell 3
     have lp:=hbp2.lt
     have hx3:=(HX1.out.trans hx2).alloc #[.pointer none,.int .i64 (-1),.string fy,.string ly] 194
     have HS3:=Lib.hid (HS.out.ext hx3)
     have HW3:=Lib.hid hx3
     clear hx2 hx3 hbp2
     gi_wp2_with fail
     refine ⟨trivial,?_⟩
     refine (callsIn_wide.2 (QbY HS3.out.cx hex)).mono ?_
     rintro e' w4 ⟨sl,so,rfl,hc4,hst4,hr4,hk4⟩
     have HS4:=Lib.hid (HS3.out.Qmu (hst4.mono fun i _ hi=>.inl hi) hc4 (fun b hb=>.inl hb) (fun b hb=>.inl hb))
     have HCR4:=Lib.hid (QiI hr4 hk4)
     have HST:=Lib.hid (show Step x y x.take y [QeM e] from .gone hex (.inr ⟨hngy,by rw [←HLE.out,←HFY.out];exact HLT.out⟩))
     clear hc4 hst4 hr4 hk4 p0 p1 p2 p3 lp
     gi_wp2_with fail
     refine ⟨trivial,?_⟩
     refine (callsIn_wide.2 (Qg0 w4 e sl so)).mono ?_
     rintro e' w5 ⟨rfl,hx5⟩
     have HS5:=Lib.hid (HS4.out.ext hx5)
     have HCR:=Lib.hid ((HCR4.out.agree (hx5.agree fun b hb=>(HS4.out.Qmc b hb).2.1)).mono (HS5.out.Qmc))
     clear hx5
     obtain ⟨fn,tmps,assign,body,hy,hR⟩:=HS5.out.yields HT.out (HALL.out.trans (Qbo (m:=[]) HRUN.out HOKX.out HOKY.out HST.out)) HCR.out
     have HR:=Lib.hid hR
     clear hR
     dsimp only [Qjk] at hy
     gi_wp2_with fail
     refine HR.out.mono ?_
     rintro e w6 (⟨rfl,C6,hj6,hst6,hsub6⟩ | ⟨rfl,hjx,hst6⟩)
     ·have HS9:=Lib.hid (HS5.out.told hj6 (HT.out.lt _ _ _ _ hj6) hst6 hsub6)
      have HRN:=Lib.hid (show Run x0 y0 x.take y ((pre++[Qft e sl so]).map CE.c) by rw [List.map_append];exact HRUN.out.step HST.out)
      clear hj6 hst6 hsub6 hy
      gi_wp2_with fail
      gi_roundg (x.take.wt+y.wt)
      case rel=>exact ⟨x.take,y,_,_,_,_,_,_,_,_,rfl,HS9.out,HRN.out⟩
      exact HST.out.wt
     have HFIN:=Lib.hid (show QeK F F' lo X Y x0 y0 all C J Jx W00 (.returned (.tuple #[])) w6 from ⟨rfl,.inr ⟨_,_,hjx,fun b hb=>(HS5.out.Qna hb).1,by rw [HALL.out,Qbo (m:=[]) HRUN.out HOKX.out HOKY.out HST.out,List.map_append];exact QcD,HS5.out.st.then hst6 fun i hi hk=>(HS5.out.sub i hk).elim id fun h=>by have:=HS5.out.base;omega⟩⟩)
     clear hjx hst6 hy
     gi_wp2_with fail
     go_end0
     exact HFIN.out
   | false=>
     have hlt':Op.bytesLess lx.toList fy.toList=false:=hlt
     have HLT:=Lib.hid hlt
     cases hgt:klt ly fx with
     | true=>
       have hgt':Op.bytesLess ly.toList fx.toList=true:=hgt
       have HGT:=Lib.hid hgt
       gi_wp2_with fail
       refine ⟨trivial,?_⟩
       refine (callsIn_wide.2 (HHX.out wr (Ext.refl wr))).mono ?_
       rintro e w1 ⟨rfl,hx1⟩
       have hx1':=hx1.alloc #[.pointer none,.int .i64 (-1),.string fx,.string lx] 194
       have hbp:=Blk.new w1 194 #[.pointer none,.int .i64 (-1),.string fx,.string lx]
       have HX1:=Lib.hid hx1'
       have HBP:=Lib.hid hbp
       clear hx1 hx1' hbp
       gi_wp2_with fail
       refine ⟨trivial,?_⟩
       refine (callsIn_wide.2 (HHY.out _ HX1.out)).mono ?_
       rintro e w2 ⟨rfl,hx2⟩
       have hbp2:=HBP.out.ext hx2
       have p0:w2.cell? ⟨w1.heap.size,0,none⟩=some (.pointer none):=hbp2.cell 0
       have p1:w2.cell? ⟨w1.heap.size,1,none⟩=some (.int .i64 (-1)):=hbp2.cell 1
       have p2:w2.cell? ⟨w1.heap.size,2,none⟩=some (.string fx):=hbp2.cell 2
       have p3:w2.cell? ⟨w1.heap.size,3,none⟩=some (.string lx):=hbp2.cell 3
       have lp:=hbp2.lt
       have hx3:=(HX1.out.trans hx2).alloc #[.pointer none,.int .i64 (-1),.string fy,.string ly] 194
       have HS3:=Lib.hid (HS.out.ext hx3)
       have HW3:=Lib.hid hx3
       clear hx2 hx3 hbp2
       gi_wp2_with fail
       refine ⟨trivial,?_⟩
       refine (callsIn_wide.2 (QbY HS3.out.cy hey)).mono ?_
       rintro e' w4 ⟨sl,so,rfl,hc4,hst4,hr4,hk4⟩
       have HS4:=Lib.hid (HS3.out.QlV (hst4.mono fun i _ hi=>.inl hi) hc4 (fun b hb=>.inl hb) (fun b hb=>.inl hb))
       have HCR4:=Lib.hid (QiB hr4 hk4)
       have HST:=Lib.hid (show Step x y x y.take [Qfk f] from .come hey (.inr ⟨hngx,by rw [←HLF.out,←HFX.out];exact HGT.out⟩))
       clear hc4 hst4 hr4 hk4 p0 p1 p2 p3 lp
       gi_wp2_with fail
       refine ⟨trivial,?_⟩
       refine (callsIn_wide.2 (QgW w4 f sl so)).mono ?_
       rintro e' w5 ⟨rfl,hx5⟩
       have HS5:=Lib.hid (HS4.out.ext hx5)
       have HCR:=Lib.hid ((HCR4.out.agree (hx5.agree fun b hb=>(HS4.out.Qno b hb).2.1)).mono (HS5.out.Qno))
       clear hx5
       obtain ⟨fn,tmps,assign,body,hy,hR⟩:=HS5.out.yields HT.out (HALL.out.trans (Qbo (m:=[]) HRUN.out HOKX.out HOKY.out HST.out)) HCR.out
       have HR:=Lib.hid hR
       clear hR
       dsimp only [Qjk] at hy
       gi_wp2_with fail
       refine HR.out.mono ?_
       rintro e w6 (⟨rfl,C6,hj6,hst6,hsub6⟩ | ⟨rfl,hjx,hst6⟩)
       ·have HS9:=Lib.hid (HS5.out.told hj6 (HT.out.lt _ _ _ _ hj6) hst6 hsub6)
        have HRN:=Lib.hid (show Run x0 y0 x y.take ((pre++[Qfl f sl so]).map CE.c) by rw [List.map_append];exact HRUN.out.step HST.out)
        clear hj6 hst6 hsub6 hy
        gi_wp2_with fail
        gi_roundg (x.wt+y.take.wt)
        case rel=>exact ⟨x,y.take,_,_,_,_,_,_,_,_,rfl,HS9.out,HRN.out⟩
        exact HST.out.wt
       have HFIN:=Lib.hid (show QeK F F' lo X Y x0 y0 all C J Jx W00 (.returned (.tuple #[])) w6 from ⟨rfl,.inr ⟨_,_,hjx,fun b hb=>(HS5.out.Qna hb).1,by rw [HALL.out,Qbo (m:=[]) HRUN.out HOKX.out HOKY.out HST.out,List.map_append];exact QcD,HS5.out.st.then hst6 fun i hi hk=>(HS5.out.sub i hk).elim id fun h=>by have:=HS5.out.base;omega⟩⟩)
       clear hjx hst6 hy
       gi_wp2_with fail
       go_end0
       exact HFIN.out
     | false=>
       have hgt':Op.bytesLess ly.toList fx.toList=false:=hgt
       have HGT:=Lib.hid hgt
       gi_wp2_with fail
       refine ⟨trivial,?_⟩
       refine (callsIn_wide.2 (HHX.out wr (Ext.refl wr))).mono ?_
       rintro e w1 ⟨rfl,hx1⟩
       have hx1':=hx1.alloc #[.pointer none,.int .i64 (-1),.string fx,.string lx] 194
       have hbp:=Blk.new w1 194 #[.pointer none,.int .i64 (-1),.string fx,.string lx]
       have HX1:=Lib.hid hx1'
       have HBP:=Lib.hid hbp
       clear hx1 hx1' hbp
       gi_wp2_with fail
       refine ⟨trivial,?_⟩
       refine (callsIn_wide.2 (HHY.out _ HX1.out)).mono ?_
       rintro e w2 ⟨rfl,hx2⟩
       have hbp2:=HBP.out.ext hx2
       have p0:w2.cell? ⟨w1.heap.size,0,none⟩=some (.pointer none):=hbp2.cell 0
       have p1:w2.cell? ⟨w1.heap.size,1,none⟩=some (.int .i64 (-1)):=hbp2.cell 1
       have p2:w2.cell? ⟨w1.heap.size,2,none⟩=some (.string fx):=hbp2.cell 2
       have p3:w2.cell? ⟨w1.heap.size,3,none⟩=some (.string lx):=hbp2.cell 3
       have lp:=hbp2.lt
       have hx3:=(HX1.out.trans hx2).alloc #[.pointer none,.int .i64 (-1),.string fy,.string ly] 194
       have HS3:=Lib.hid (HS.out.ext hx3)
       have HW3:=Lib.hid hx3
       clear hx2 hx3 hbp2
       gi_wp2_with fail
       have hkk:e.1=f.1:=QcO (by rw [←HLE.out,←HFF.out];exact HLT.out) (by rw [←HLF.out,←HFE.out];exact HGT.out)
       have HKK:=Lib.hid hkk
       clear hkk
       refine ⟨trivial,?_⟩
       refine (callsIn_wide.2 (QbY HS3.out.cx hex)).mono ?_
       rintro e' w4 ⟨sl,so,rfl,hc4,hst4,hr4,hk4⟩
       have HS4:=Lib.hid (HS3.out.Qmu (hst4.mono fun i _ hi=>.inl hi) hc4 (fun b hb=>.inl hb) (fun b hb=>.inl hb))
       have HRV4:=Lib.hid hr4
       have HKM4:=Lib.hid hk4
       clear hc4 hst4 hr4 hk4 p0 p1 p2 p3 lp
       gi_wp2_with fail
       refine ⟨trivial,?_⟩
       refine (callsIn_wide.2 (QbY HS4.out.cy hey)).mono ?_
       rintro e' w5 ⟨sl',so',rfl,hc5,hst5,hr5,hk5⟩
       have hrv5:=HRV4.out.agree (hst5.agree.mono fun b hb=>⟨(HS4.out.Qmc b hb).2.1,fun e=>(HS4.out.Qmc b hb).2.2 (.inl (.inr (.inl e)))⟩)
       have HS5':=Lib.hid (HS4.out.QlV (hst5.mono fun i _ hi=>.inl hi) hc5 (fun b hb=>.inl hb) (fun b hb=>.inl hb))
       have HRV5:=Lib.hid hrv5
       have HRV5':=Lib.hid hr5
       have HST:=Lib.hid (show Step x y x.take y.take (Qk6 e f) from .both hex hey HKK.out)
       clear hc5 hst5 hr5 hk5 hrv5
       gi_wp2_with fail
       refine ⟨trivial,?_⟩
       refine (callsIn_wide.2 (Qj0 (e:=e) (f:=f) (HRV5.out.mono fun b hb=>(HS5'.out.Qmc b hb).2.1) (HRV5'.out.mono fun b hb=>(HS5'.out.Qno b hb).2.1))).mono ?_
       rintro e' w7 ⟨rfl,hx7⟩
       by_cases hc:Qbq e.2 f.2=0
       ·rw [if_pos hc,decide_eq_false (by simp [hc])]
        have hx8:=hx7.alloc #[.string ByteArray.empty,.bool false,.int .i64 0,.bool false,.int .i64 0,.string ByteArray.empty,.slice none 0 0,.slice none 0 0,.bool false,.int .i64 0,.bool false,.int .i64 0,.string ByteArray.empty,.slice none 0 0,.slice none 0 0] 54
        have HS9:=Lib.hid (HS5'.out.ext hx8)
        have HRN:=Lib.hid (show Run x0 y0 x.take y.take (pre.map CE.c) by have:=HRUN.out.step HST.out;rwa [Qk6,if_pos hc,List.append_nil] at this)
        rw [show QnM.agg=.agg #[.string ByteArray.empty,.bool false,.int .i64 0,.bool false,.int .i64 0,.string ByteArray.empty,.slice none 0 0,.slice none 0 0,.bool false,.int .i64 0,.bool false,.int .i64 0,.string ByteArray.empty,.slice none 0 0,.slice none 0 0] from rfl]
        clear hx7 hx8 hc
        gi_wp2_with fail
        refine ⟨fun _ h=>absurd h (by simp),?_⟩
        gi_wp2_with fail
        gi_roundg (x.take.wt+y.take.wt)
        case rel=>exact ⟨x.take,y.take,_,_,_,_,_,_,_,_,rfl,HS9.out,HRN.out⟩
        exact HST.out.wt
       rw [if_neg hc,decide_eq_true hc]
       have hx8:=hx7.alloc #[.string e.1,.bool true,.int .i64 e.2.kind,.bool e.2.b,.int .i64 e.2.i,.string e.2.t,.slice sl.a e.2.l.length sl.c,.slice so.a e.2.ok.length so.c,.bool true,.int .i64 f.2.kind,.bool f.2.b,.int .i64 f.2.i,.string f.2.t,.slice sl'.a f.2.l.length sl'.c,.slice so'.a f.2.ok.length so'.c] 54
       have HS5:=Lib.hid (HS5'.out.ext hx8)
       have HST':=Lib.hid (show Step x y x.take y.take [⟨e.1,true,e.2,true,f.2⟩] by have:=HST.out;rwa [Qk6,if_neg hc] at this)
       have HCR:=Lib.hid (show CR _ (fun b=>lo≤b∧b<_∧¬(Own X Y rx ry b∨C' b)) (Qk7 e f sl so sl' so') from ⟨(HRV5.out.agree (hx8.agree fun b hb=>(HS5'.out.Qmc b hb).2.1)).mono HS5.out.Qmc,(HRV5'.out.agree (hx8.agree fun b hb=>(HS5'.out.Qno b hb).2.1)).mono HS5.out.Qno,HKM4.out⟩)
       clear HST
       have HST:=HST'
       rw [show (Qk7 e f sl so sl' so').agg=.agg #[.string e.1,.bool true,.int .i64 e.2.kind,.bool e.2.b,.int .i64 e.2.i,.string e.2.t,.slice sl.a e.2.l.length sl.c,.slice so.a e.2.ok.length so.c,.bool true,.int .i64 f.2.kind,.bool f.2.b,.int .i64 f.2.i,.string f.2.t,.slice sl'.a f.2.l.length sl'.c,.slice so'.a f.2.ok.length so'.c] from rfl]
       clear hx7 hx8 hc HST'
       obtain ⟨fn,tmps,assign,body,hy,hR⟩:=HS5.out.yields HT.out (HALL.out.trans (Qbo (m:=[]) HRUN.out HOKX.out HOKY.out HST.out)) HCR.out
       have HR:=Lib.hid hR
       clear hR
       dsimp only [Qjk,Qk7,CE.agg,CE.cells] at hy
       gi_wp2_with fail
       refine HR.out.mono ?_
       rintro e w6 (⟨rfl,C6,hj6,hst6,hsub6⟩ | ⟨rfl,hjx,hst6⟩)
       ·have HS9:=Lib.hid (HS5.out.told hj6 (HT.out.lt _ _ _ _ hj6) hst6 hsub6)
        have HRN:=Lib.hid (show Run x0 y0 x.take y.take ((pre++[Qk7 e f sl so sl' so']).map CE.c) by rw [List.map_append];exact HRUN.out.step HST.out)
        clear hj6 hst6 hsub6 hy
        gi_wp2_with fail
        gi_roundg (x.take.wt+y.take.wt)
        case rel=>exact ⟨x.take,y.take,_,_,_,_,_,_,_,_,rfl,HS9.out,HRN.out⟩
        exact HST.out.wt
       have HFIN:=Lib.hid (show QeK F F' lo X Y x0 y0 all C J Jx W00 (.returned (.tuple #[])) w6 from ⟨rfl,.inr ⟨_,_,hjx,fun b hb=>(HS5.out.Qna hb).1,by rw [HALL.out,Qbo (m:=[]) HRUN.out HOKX.out HOKY.out HST.out,List.map_append];exact QcD,HS5.out.st.then hst6 fun i hi hk=>(HS5.out.sub i hk).elim id fun h=>by have:=HS5.out.base;omega⟩⟩)
       clear hjx hst6 hy
       gi_wp2_with fail
       go_end0
       exact HFIN.out
  skip
  have hngy:¬y.gone:=fun h=>by have:=(y.Qaj hny).2.2;rw [h.2] at this;cases this
  have HFY:=Lib.hid hf1
  have HLY:=Lib.hid hl1
  have HB:=Lib.hid hB
  have HZY:=Lib.hid hz1
  have hz0y:(-1:Int)<hzy:=by omega
  have hz0y':¬hzy<(-1:Int):=by omega
  clear hf1 hl1 hB hz1
  have hne:¬Qi0 x y:=fun ⟨a',b',h1,h2,h3⟩=>by rw [hnnx] at h1;cases h1
  cases hlt:klt lx fy with
  | true=>
    have hlt':Op.bytesLess lx.toList fy.toList=true:=hlt
    have HLT:=Lib.hid hlt
    gi_wp2_with fail
    refine ⟨trivial,?_⟩
    refine (callsIn_wide.2 (HHX.out wr (Ext.refl wr))).mono ?_
    rintro e w1 ⟨rfl,hx1⟩
    have hx1':=hx1.alloc #[.pointer none,.int .i64 (-1),.string fx,.string lx] 194
    have hbp:=Blk.new w1 194 #[.pointer none,.int .i64 (-1),.string fx,.string lx]
    have HX1:=Lib.hid hx1'
    have HBP:=Lib.hid hbp
    clear hx1 hx1' hbp
    gi_wp2_with fail
    refine ⟨trivial,?_⟩
    refine (callsIn_wide.2 (HHY.out _ HX1.out)).mono ?_
    rintro e w2 ⟨rfl,hx2⟩
    have hbp2:=HBP.out.ext hx2
    have p0:w2.cell? ⟨w1.heap.size,0,none⟩=some (.pointer none):=hbp2.cell 0
    have p1:w2.cell? ⟨w1.heap.size,1,none⟩=some (.int .i64 (-1)):=hbp2.cell 1
    have p2:w2.cell? ⟨w1.heap.size,2,none⟩=some (.string fx):=hbp2.cell 2
    have p3:w2.cell? ⟨w1.heap.size,3,none⟩=some (.string lx):=hbp2.cell 3
    have lp:=hbp2.lt
    have hx3:=(HX1.out.trans hx2).alloc #[.pointer (some B),.int .i64 hzy,.string fy,.string ly] 194
    have HS3:=Lib.hid (HS.out.ext hx3)
    have HW3:=Lib.hid hx3
    clear hx2 hx3 hbp2
    gi_wp2_with fail
    refine ⟨trivial,?_⟩
    refine (callsIn_wide.2 (QbY HS3.out.cx hex)).mono ?_
    rintro e' w4 ⟨sl,so,rfl,hc4,hst4,hr4,hk4⟩
    have HS4:=Lib.hid (HS3.out.Qmu (hst4.mono fun i _ hi=>.inl hi) hc4 (fun b hb=>.inl hb) (fun b hb=>.inl hb))
    have HCR4:=Lib.hid (QiI hr4 hk4)
    have HST:=Lib.hid (show Step x y x.take y [QeM e] from .gone hex (.inr ⟨hngy,by rw [←HLE.out,←HFY.out];exact HLT.out⟩))
    clear hc4 hst4 hr4 hk4 p0 p1 p2 p3 lp
    gi_wp2_with fail
    refine ⟨trivial,?_⟩
    refine (callsIn_wide.2 (Qg0 w4 e sl so)).mono ?_
    rintro e' w5 ⟨rfl,hx5⟩
    have HS5:=Lib.hid (HS4.out.ext hx5)
    have HCR:=Lib.hid ((HCR4.out.agree (hx5.agree fun b hb=>(HS4.out.Qmc b hb).2.1)).mono (HS5.out.Qmc))
    clear hx5
    obtain ⟨fn,tmps,assign,body,hy,hR⟩:=HS5.out.yields HT.out (HALL.out.trans (Qbo (m:=[]) HRUN.out HOKX.out HOKY.out HST.out)) HCR.out
    have HR:=Lib.hid hR
    clear hR
    dsimp only [Qjk] at hy
    gi_wp2_with fail
    refine HR.out.mono ?_
    rintro e w6 (⟨rfl,C6,hj6,hst6,hsub6⟩ | ⟨rfl,hjx,hst6⟩)
    ·have HS9:=Lib.hid (HS5.out.told hj6 (HT.out.lt _ _ _ _ hj6) hst6 hsub6)
     have HRN:=Lib.hid (show Run x0 y0 x.take y ((pre++[Qft e sl so]).map CE.c) by rw [List.map_append];exact HRUN.out.step HST.out)
     clear hj6 hst6 hsub6 hy
     gi_wp2_with fail
     gi_roundg (x.take.wt+y.wt)
     case rel=>exact ⟨x.take,y,_,_,_,_,_,_,_,_,rfl,HS9.out,HRN.out⟩
     exact HST.out.wt
    have HFIN:=Lib.hid (show QeK F F' lo X Y x0 y0 all C J Jx W00 (.returned (.tuple #[])) w6 from ⟨rfl,.inr ⟨_,_,hjx,fun b hb=>(HS5.out.Qna hb).1,by rw [HALL.out,Qbo (m:=[]) HRUN.out HOKX.out HOKY.out HST.out,List.map_append];exact QcD,HS5.out.st.then hst6 fun i hi hk=>(HS5.out.sub i hk).elim id fun h=>by have:=HS5.out.base;omega⟩⟩)
    clear hjx hst6 hy
    gi_wp2_with fail
    go_end0
    exact HFIN.out
  | false=>
    have hlt':Op.bytesLess lx.toList fy.toList=false:=hlt
    have HLT:=Lib.hid hlt
    cases hgt:klt ly fx with
    | true=>
      have hgt':Op.bytesLess ly.toList fx.toList=true:=hgt
      have HGT:=Lib.hid hgt
      gi_wp2_with fail
      refine ⟨trivial,?_⟩
      refine (callsIn_wide.2 (HHX.out wr (Ext.refl wr))).mono ?_
      rintro e w1 ⟨rfl,hx1⟩
      have hx1':=hx1.alloc #[.pointer none,.int .i64 (-1),.string fx,.string lx] 194
      have hbp:=Blk.new w1 194 #[.pointer none,.int .i64 (-1),.string fx,.string lx]
      have HX1:=Lib.hid hx1'
      have HBP:=Lib.hid hbp
      clear hx1 hx1' hbp
      gi_wp2_with fail
      refine ⟨trivial,?_⟩
      refine (callsIn_wide.2 (HHY.out _ HX1.out)).mono ?_
      rintro e w2 ⟨rfl,hx2⟩
      have hbp2:=HBP.out.ext hx2
      have p0:w2.cell? ⟨w1.heap.size,0,none⟩=some (.pointer none):=hbp2.cell 0
      have p1:w2.cell? ⟨w1.heap.size,1,none⟩=some (.int .i64 (-1)):=hbp2.cell 1
      have p2:w2.cell? ⟨w1.heap.size,2,none⟩=some (.string fx):=hbp2.cell 2
      have p3:w2.cell? ⟨w1.heap.size,3,none⟩=some (.string lx):=hbp2.cell 3
      have lp:=hbp2.lt
      have hx3:=(HX1.out.trans hx2).alloc #[.pointer (some B),.int .i64 hzy,.string fy,.string ly] 194
      have HS3:=Lib.hid (HS.out.ext hx3)
      have HW3:=Lib.hid hx3
      clear hx2 hx3 hbp2
      gi_wp2_with fail
      refine ⟨trivial,?_⟩
      refine (callsIn_wide.2 (Qbl HS3.out.cy hny (HOY.out b (List.mem_of_getLast? (y.Qaj hny).2.2)))).mono ?_
      rintro e w4 ⟨rfl,E4,r4,hc4,hst4,hE4,hr4⟩
      have HS9:=Lib.hid (HS3.out.QlV hst4 hc4 hE4 hr4)
      have HST:=Lib.hid (show Step x y x y.open_ [] from .openY hny hne (.inr (.inl (by rw [←HLY.out,←HFX.out];exact HGT.out))))
      have HRN:=Lib.hid (show Run x0 y0 x y.open_ (pre.map CE.c) by have:=HRUN.out.step HST.out;rwa [List.append_nil] at this)
      clear hc4 hst4 hE4 hr4
      clear p0 p1 p2 p3 lp
      gi_wp2_with fail
      gi_roundg (x.wt+y.open_.wt)
      case rel=>exact ⟨x,y.open_,_,_,_,_,_,_,_,_,rfl,HS9.out,HRN.out⟩
      exact HST.out.wt
    | false=>
      have hgt':Op.bytesLess ly.toList fx.toList=false:=hgt
      have HGT:=Lib.hid hgt
      gi_wp2_with fail
      refine ⟨trivial,?_⟩
      refine (callsIn_wide.2 (HHX.out wr (Ext.refl wr))).mono ?_
      rintro e w1 ⟨rfl,hx1⟩
      have hx1':=hx1.alloc #[.pointer none,.int .i64 (-1),.string fx,.string lx] 194
      have hbp:=Blk.new w1 194 #[.pointer none,.int .i64 (-1),.string fx,.string lx]
      have HX1:=Lib.hid hx1'
      have HBP:=Lib.hid hbp
      clear hx1 hx1' hbp
      gi_wp2_with fail
      refine ⟨trivial,?_⟩
      refine (callsIn_wide.2 (HHY.out _ HX1.out)).mono ?_
      rintro e w2 ⟨rfl,hx2⟩
      have hbp2:=HBP.out.ext hx2
      have p0:w2.cell? ⟨w1.heap.size,0,none⟩=some (.pointer none):=hbp2.cell 0
      have p1:w2.cell? ⟨w1.heap.size,1,none⟩=some (.int .i64 (-1)):=hbp2.cell 1
      have p2:w2.cell? ⟨w1.heap.size,2,none⟩=some (.string fx):=hbp2.cell 2
      have p3:w2.cell? ⟨w1.heap.size,3,none⟩=some (.string lx):=hbp2.cell 3
      have lp:=hbp2.lt
      have hx3:=(HX1.out.trans hx2).alloc #[.pointer (some B),.int .i64 hzy,.string fy,.string ly] 194
      have HS3:=Lib.hid (HS.out.ext hx3)
      have HW3:=Lib.hid hx3
      clear hx2 hx3 hbp2
      gi_wp2_with fail
      refine ⟨trivial,?_⟩
      refine (callsIn_wide.2 (Qbl HS3.out.cy hny (HOY.out b (List.mem_of_getLast? (y.Qaj hny).2.2)))).mono ?_
      rintro e w4 ⟨rfl,E4,r4,hc4,hst4,hE4,hr4⟩
      have HS9:=Lib.hid (HS3.out.QlV hst4 hc4 hE4 hr4)
      have HST:=Lib.hid (show Step x y x y.open_ [] from .openY hny hne (.inr (.inr ⟨by rw [←HLX.out,←HFY.out];exact HLT.out,by rw [←HLY.out,←HFX.out];exact HGT.out,hngx,by rw [x.QbU hex];omega⟩)))
      have HRN:=Lib.hid (show Run x0 y0 x y.open_ (pre.map CE.c) by have:=HRUN.out.step HST.out;rwa [List.append_nil] at this)
      clear hc4 hst4 hE4 hr4
      clear p0 p1 p2 p3 lp
      gi_wp2_with fail
      gi_roundg (x.wt+y.open_.wt)
      case rel=>exact ⟨x,y.open_,_,_,_,_,_,_,_,_,rfl,HS9.out,HRN.out⟩
      exact HST.out.wt
 skip
 have hngx:¬x.gone:=fun h=>by have:=(x.Qaj hnx).2.2;rw [h.2] at this;cases this
 have HFX:=Lib.hid hf1
 have HLX:=Lib.hid hl1
 have HA:=Lib.hid hA
 have HZX:=Lib.hid hz1
 have hz0x:(-1:Int)<hzx:=by omega
 have hz0x':¬hzx<(-1:Int):=by omega
 clear hf1 hl1 hA hz1
 rcases hfy with ⟨hgy,rfl,rfl⟩ | ⟨f,es2,hey,rfl,rfl,rfl,hf1,hl1,hf2,hl2⟩ | ⟨b,B,hny,rfl,rfl,hB,hz1,hf1,hl1⟩
 ·skip
  have hnny:y.node=none:=by unfold Qam.node;rw [if_pos hgy.1,hgy.2];rfl
  have hne:¬Qi0 x y:=fun ⟨a',b',h1,h2,h3⟩=>by rw [hnny] at h2;cases h2
  gi_wp2_with fail
  refine ⟨trivial,?_⟩
  refine (callsIn_wide.2 (HHX.out wr (Ext.refl wr))).mono ?_
  rintro e w1 ⟨rfl,hx1⟩
  have hx1':=hx1.alloc #[.pointer (some A),.int .i64 hzx,.string fx,.string lx] 194
  have hbp:=Blk.new w1 194 #[.pointer (some A),.int .i64 hzx,.string fx,.string lx]
  have HX1:=Lib.hid hx1'
  have HBP:=Lib.hid hbp
  clear hx1 hx1' hbp
  gi_wp2_with fail
  refine ⟨trivial,?_⟩
  refine (callsIn_wide.2 (HHY.out _ HX1.out)).mono ?_
  rintro e w2 ⟨rfl,hx2⟩
  have hbp2:=HBP.out.ext hx2
  have p0:w2.cell? ⟨w1.heap.size,0,none⟩=some (.pointer (some A)):=hbp2.cell 0
  have p1:w2.cell? ⟨w1.heap.size,1,none⟩=some (.int .i64 hzx):=hbp2.cell 1
  have p2:w2.cell? ⟨w1.heap.size,2,none⟩=some (.string fx):=hbp2.cell 2
  have p3:w2.cell? ⟨w1.heap.size,3,none⟩=some (.string lx):=hbp2.cell 3
  have lp:=hbp2.lt
  have hx3:=(HX1.out.trans hx2).alloc #[.pointer none,.int .i64 hzy,.string fy,.string ly] 194
  have HS3:=Lib.hid (HS.out.ext hx3)
  have HW3:=Lib.hid hx3
  clear hx2 hx3 hbp2
  gi_wp2_with fail
  refine ⟨trivial,?_⟩
  refine (callsIn_wide.2 (Qbl HS3.out.cx hnx (HOX.out a (List.mem_of_getLast? (x.Qaj hnx).2.2)))).mono ?_
  rintro e w4 ⟨rfl,E4,r4,hc4,hst4,hE4,hr4⟩
  have HS9:=Lib.hid (HS3.out.Qmu hst4 hc4 hE4 hr4)
  have HST:=Lib.hid (show Step x y x.open_ y [] from .openX hnx hne (.inl hgy))
  have HRN:=Lib.hid (show Run x0 y0 x.open_ y (pre.map CE.c) by have:=HRUN.out.step HST.out;rwa [List.append_nil] at this)
  clear hc4 hst4 hE4 hr4
  clear p0 p1 p2 p3 lp
  gi_wp2_with fail
  gi_roundg (x.open_.wt+y.wt)
  case rel=>exact ⟨x.open_,y,_,_,_,_,_,_,_,_,rfl,HS9.out,HRN.out⟩
  exact HST.out.wt
 ·skip
  have hnny:y.node=none:=by unfold Qam.node;rw [if_neg (by rw [hey];simp)]
  have hngy:¬y.gone:=fun h=>by rw [h.1] at hey;cases hey
  have HFY:=Lib.hid (hf1.trans hf2.symm)
  have HLY:=Lib.hid (hl1.trans hl2.symm)
  have HFF:=Lib.hid hf1
  have HLF:=Lib.hid hl1
  clear hf1 hl1 hf2 hl2
  have hne:¬Qi0 x y:=fun ⟨a',b',h1,h2,h3⟩=>by rw [hnny] at h2;cases h2
  cases hlt:klt lx fy with
  | true=>
    have hlt':Op.bytesLess lx.toList fy.toList=true:=hlt
    have HLT:=Lib.hid hlt
    gi_wp2_with fail
    refine ⟨trivial,?_⟩
    refine (callsIn_wide.2 (HHX.out wr (Ext.refl wr))).mono ?_
    rintro e w1 ⟨rfl,hx1⟩
    have hx1':=hx1.alloc #[.pointer (some A),.int .i64 hzx,.string fx,.string lx] 194
    have hbp:=Blk.new w1 194 #[.pointer (some A),.int .i64 hzx,.string fx,.string lx]
    have HX1:=Lib.hid hx1'
    have HBP:=Lib.hid hbp
    clear hx1 hx1' hbp
    gi_wp2_with fail
    refine ⟨trivial,?_⟩
    refine (callsIn_wide.2 (HHY.out _ HX1.out)).mono ?_
    rintro e w2 ⟨rfl,hx2⟩
    have hbp2:=HBP.out.ext hx2
    have p0:w2.cell? ⟨w1.heap.size,0,none⟩=some (.pointer (some A)):=hbp2.cell 0
    have p1:w2.cell? ⟨w1.heap.size,1,none⟩=some (.int .i64 hzx):=hbp2.cell 1
    have p2:w2.cell? ⟨w1.heap.size,2,none⟩=some (.string fx):=hbp2.cell 2
    have p3:w2.cell? ⟨w1.heap.size,3,none⟩=some (.string lx):=hbp2.cell 3
    have lp:=hbp2.lt
    have hx3:=(HX1.out.trans hx2).alloc #[.pointer none,.int .i64 (-1),.string fy,.string ly] 194
    have HS3:=Lib.hid (HS.out.ext hx3)
    have HW3:=Lib.hid hx3
    clear hx2 hx3 hbp2
    gi_wp2_with fail
    refine ⟨trivial,?_⟩
    refine (callsIn_wide.2 (Qbl HS3.out.cx hnx (HOX.out a (List.mem_of_getLast? (x.Qaj hnx).2.2)))).mono ?_
    rintro e w4 ⟨rfl,E4,r4,hc4,hst4,hE4,hr4⟩
    have HS9:=Lib.hid (HS3.out.Qmu hst4 hc4 hE4 hr4)
    have HST:=Lib.hid (show Step x y x.open_ y [] from .openX hnx hne (.inr (.inl (by rw [←HLX.out,←HFY.out];exact HLT.out))))
    have HRN:=Lib.hid (show Run x0 y0 x.open_ y (pre.map CE.c) by have:=HRUN.out.step HST.out;rwa [List.append_nil] at this)
    clear hc4 hst4 hE4 hr4
    clear p0 p1 p2 p3 lp
    gi_wp2_with fail
    gi_roundg (x.open_.wt+y.wt)
    case rel=>exact ⟨x.open_,y,_,_,_,_,_,_,_,_,rfl,HS9.out,HRN.out⟩
    exact HST.out.wt
  | false=>
    have hlt':Op.bytesLess lx.toList fy.toList=false:=hlt
    have HLT:=Lib.hid hlt
    cases hgt:klt ly fx with
    | true=>
      have hgt':Op.bytesLess ly.toList fx.toList=true:=hgt
      have HGT:=Lib.hid hgt
      gi_wp2_with fail
      refine ⟨trivial,?_⟩
      refine (callsIn_wide.2 (HHX.out wr (Ext.refl wr))).mono ?_
      rintro e w1 ⟨rfl,hx1⟩
      have hx1':=hx1.alloc #[.pointer (some A),.int .i64 hzx,.string fx,.string lx] 194
      have hbp:=Blk.new w1 194 #[.pointer (some A),.int .i64 hzx,.string fx,.string lx]
      have HX1:=Lib.hid hx1'
      have HBP:=Lib.hid hbp
      clear hx1 hx1' hbp
      gi_wp2_with fail
      refine ⟨trivial,?_⟩
      refine (callsIn_wide.2 (HHY.out _ HX1.out)).mono ?_
      rintro e w2 ⟨rfl,hx2⟩
      have hbp2:=HBP.out.ext hx2
      have p0:w2.cell? ⟨w1.heap.size,0,none⟩=some (.pointer (some A)):=hbp2.cell 0
      have p1:w2.cell? ⟨w1.heap.size,1,none⟩=some (.int .i64 hzx):=hbp2.cell 1
      have p2:w2.cell? ⟨w1.heap.size,2,none⟩=some (.string fx):=hbp2.cell 2
      have p3:w2.cell? ⟨w1.heap.size,3,none⟩=some (.string lx):=hbp2.cell 3
      have lp:=hbp2.lt
      have hx3:=(HX1.out.trans hx2).alloc #[.pointer none,.int .i64 (-1),.string fy,.string ly] 194
      have HS3:=Lib.hid (HS.out.ext hx3)
      have HW3:=Lib.hid hx3
      clear hx2 hx3 hbp2
      gi_wp2_with fail
      refine ⟨trivial,?_⟩
      refine (callsIn_wide.2 (QbY HS3.out.cy hey)).mono ?_
      rintro e' w4 ⟨sl,so,rfl,hc4,hst4,hr4,hk4⟩
      have HS4:=Lib.hid (HS3.out.QlV (hst4.mono fun i _ hi=>.inl hi) hc4 (fun b hb=>.inl hb) (fun b hb=>.inl hb))
      have HCR4:=Lib.hid (QiB hr4 hk4)
      have HST:=Lib.hid (show Step x y x y.take [Qfk f] from .come hey (.inr ⟨hngx,by rw [←HLF.out,←HFX.out];exact HGT.out⟩))
      clear hc4 hst4 hr4 hk4 p0 p1 p2 p3 lp
      gi_wp2_with fail
      refine ⟨trivial,?_⟩
      refine (callsIn_wide.2 (QgW w4 f sl so)).mono ?_
      rintro e' w5 ⟨rfl,hx5⟩
      have HS5:=Lib.hid (HS4.out.ext hx5)
      have HCR:=Lib.hid ((HCR4.out.agree (hx5.agree fun b hb=>(HS4.out.Qno b hb).2.1)).mono (HS5.out.Qno))
      clear hx5
      obtain ⟨fn,tmps,assign,body,hy,hR⟩:=HS5.out.yields HT.out (HALL.out.trans (Qbo (m:=[]) HRUN.out HOKX.out HOKY.out HST.out)) HCR.out
      have HR:=Lib.hid hR
      clear hR
      dsimp only [Qjk] at hy
      gi_wp2_with fail
      refine HR.out.mono ?_
      rintro e w6 (⟨rfl,C6,hj6,hst6,hsub6⟩ | ⟨rfl,hjx,hst6⟩)
      ·have HS9:=Lib.hid (HS5.out.told hj6 (HT.out.lt _ _ _ _ hj6) hst6 hsub6)
       have HRN:=Lib.hid (show Run x0 y0 x y.take ((pre++[Qfl f sl so]).map CE.c) by rw [List.map_append];exact HRUN.out.step HST.out)
       clear hj6 hst6 hsub6 hy
       gi_wp2_with fail
       gi_roundg (x.wt+y.take.wt)
       case rel=>exact ⟨x,y.take,_,_,_,_,_,_,_,_,rfl,HS9.out,HRN.out⟩
       exact HST.out.wt
      have HFIN:=Lib.hid (show QeK F F' lo X Y x0 y0 all C J Jx W00 (.returned (.tuple #[])) w6 from ⟨rfl,.inr ⟨_,_,hjx,fun b hb=>(HS5.out.Qna hb).1,by rw [HALL.out,Qbo (m:=[]) HRUN.out HOKX.out HOKY.out HST.out,List.map_append];exact QcD,HS5.out.st.then hst6 fun i hi hk=>(HS5.out.sub i hk).elim id fun h=>by have:=HS5.out.base;omega⟩⟩)
      clear hjx hst6 hy
      gi_wp2_with fail
      go_end0
      exact HFIN.out
    | false=>
      have hgt':Op.bytesLess ly.toList fx.toList=false:=hgt
      have HGT:=Lib.hid hgt
      gi_wp2_with fail
      refine ⟨trivial,?_⟩
      refine (callsIn_wide.2 (HHX.out wr (Ext.refl wr))).mono ?_
      rintro e w1 ⟨rfl,hx1⟩
      have hx1':=hx1.alloc #[.pointer (some A),.int .i64 hzx,.string fx,.string lx] 194
      have hbp:=Blk.new w1 194 #[.pointer (some A),.int .i64 hzx,.string fx,.string lx]
      have HX1:=Lib.hid hx1'
      have HBP:=Lib.hid hbp
      clear hx1 hx1' hbp
      gi_wp2_with fail
      refine ⟨trivial,?_⟩
      refine (callsIn_wide.2 (HHY.out _ HX1.out)).mono ?_
      rintro e w2 ⟨rfl,hx2⟩
      have hbp2:=HBP.out.ext hx2
      have p0:w2.cell? ⟨w1.heap.size,0,none⟩=some (.pointer (some A)):=hbp2.cell 0
      have p1:w2.cell? ⟨w1.heap.size,1,none⟩=some (.int .i64 hzx):=hbp2.cell 1
      have p2:w2.cell? ⟨w1.heap.size,2,none⟩=some (.string fx):=hbp2.cell 2
      have p3:w2.cell? ⟨w1.heap.size,3,none⟩=some (.string lx):=hbp2.cell 3
      have lp:=hbp2.lt
      have hx3:=(HX1.out.trans hx2).alloc #[.pointer none,.int .i64 (-1),.string fy,.string ly] 194
      have HS3:=Lib.hid (HS.out.ext hx3)
      have HW3:=Lib.hid hx3
      clear hx2 hx3 hbp2
      gi_wp2_with fail
      refine ⟨trivial,?_⟩
      refine (callsIn_wide.2 (Qbl HS3.out.cx hnx (HOX.out a (List.mem_of_getLast? (x.Qaj hnx).2.2)))).mono ?_
      rintro e w4 ⟨rfl,E4,r4,hc4,hst4,hE4,hr4⟩
      have HS9:=Lib.hid (HS3.out.Qmu hst4 hc4 hE4 hr4)
      have HST:=Lib.hid (show Step x y x.open_ y [] from .openX hnx hne (.inr (.inr ⟨by rw [←HLX.out,←HFY.out];exact HLT.out,by rw [←HLY.out,←HFX.out];exact HGT.out,hngy,by rw [y.QbU hey];omega⟩)))
      have HRN:=Lib.hid (show Run x0 y0 x.open_ y (pre.map CE.c) by have:=HRUN.out.step HST.out;rwa [List.append_nil] at this)
      clear hc4 hst4 hE4 hr4
      clear p0 p1 p2 p3 lp
      gi_wp2_with fail
      gi_roundg (x.open_.wt+y.wt)
      case rel=>exact ⟨x.open_,y,_,_,_,_,_,_,_,_,rfl,HS9.out,HRN.out⟩
      exact HST.out.wt
 skip
 have hngy:¬y.gone:=fun h=>by have:=(y.Qaj hny).2.2;rw [h.2] at this;cases this
 have HFY:=Lib.hid hf1
 have HLY:=Lib.hid hl1
 have HB:=Lib.hid hB
 have HZY:=Lib.hid hz1
 have hz0y:(-1:Int)<hzy:=by omega
 have hz0y':¬hzy<(-1:Int):=by omega
 clear hf1 hl1 hB hz1
 have hA':=HA.out
 have hB':=HB.out
 by_cases hab:a.at_=b.at_
 ·skip
  have hAB:(decide (some A=some B))=true:=by rw [hA'.trans (congrArg (fun z=>(⟨z,0,none⟩:Addr)) hab),hB'];simp
  have HAB:=Lib.hid hAB
  have HNY:=Lib.hid (show y.node=some a by rw [hny,QlY (HS.out.cx.nodes a (List.mem_of_getLast? (x.Qaj hnx).2.2)) (HS.out.cy.nodes b (List.mem_of_getLast? (y.Qaj hny).2.2)) hab])
  clear hA' hB' hab hAB
  gi_wp2_with fail
  refine ⟨trivial,?_⟩
  refine (callsIn_wide.2 (HHX.out wr (Ext.refl wr))).mono ?_
  rintro e w1 ⟨rfl,hx1⟩
  have hx1':=hx1.alloc #[.pointer (some A),.int .i64 hzx,.string fx,.string lx] 194
  have hbp:=Blk.new w1 194 #[.pointer (some A),.int .i64 hzx,.string fx,.string lx]
  have HX1:=Lib.hid hx1'
  have HBP:=Lib.hid hbp
  clear hx1 hx1' hbp
  gi_wp2_with fail
  refine ⟨trivial,?_⟩
  refine (callsIn_wide.2 (HHY.out _ HX1.out)).mono ?_
  rintro e w2 ⟨rfl,hx2⟩
  have hbp2:=HBP.out.ext hx2
  have p0:w2.cell? ⟨w1.heap.size,0,none⟩=some (.pointer (some A)):=hbp2.cell 0
  have p1:w2.cell? ⟨w1.heap.size,1,none⟩=some (.int .i64 hzx):=hbp2.cell 1
  have p2:w2.cell? ⟨w1.heap.size,2,none⟩=some (.string fx):=hbp2.cell 2
  have p3:w2.cell? ⟨w1.heap.size,3,none⟩=some (.string lx):=hbp2.cell 3
  have lp:=hbp2.lt
  have hx3:=(HX1.out.trans hx2).alloc #[.pointer (some B),.int .i64 hzy,.string fy,.string ly] 194
  have HS3:=Lib.hid (HS.out.ext hx3)
  have HW3:=Lib.hid hx3
  clear hx2 hx3 hbp2
  have heq:(binOp .eql 31 (.pointer (some A)) (.pointer (some B))).run Tryz.prog (w2.alloc (.cells #[.pointer (some B),.int .i64 hzy,.string fy,.string ly] 194))=.ok (.bool true) (w2.alloc (.cells #[.pointer (some B),.int .i64 hzy,.string fy,.string ly] 194)):=by
   have:=Qbg (w2.alloc (.cells #[.pointer (some B),.int .i64 hzy,.string fy,.string ly] 194)) (some A) (some B) ((HS3.out.cx.nodes a (List.mem_of_getLast? (x.Qaj hnx).2.2)).QcG (by rw [HA.out];rfl)) ((HS3.out.cy.nodes b (List.mem_of_getLast? (y.Qaj hny).2.2)).QcG (by rw [HB.out];rfl))
   rw [this,HAB.out]
  gi_wp2_with fail
  refine ⟨trivial,?_⟩
  refine (callsIn_wide.2 (Qe7 HS3.out.cx hnx)).mono ?_
  rintro e w4 ⟨rfl,hc4,hst4⟩
  have hS4:=HS3.out.Qmu (hst4.mono fun i _ hi=>.inl hi) hc4 (fun b hb=>.inl hb) (fun b hb=>.inl hb)
  have HS4:=Lib.hid hS4
  clear hc4 hst4 hS4 p0 p1 p2 p3 lp
  gi_wp2_with fail
  refine ⟨trivial,?_⟩
  refine (callsIn_wide.2 (Qe7 HS4.out.cy HNY.out)).mono ?_
  rintro e w5 ⟨rfl,hc5,hst5⟩
  have HS9:=Lib.hid (HS4.out.QlV (hst5.mono fun i _ hi=>.inl hi) hc5 (fun b hb=>.inl hb) (fun b hb=>.inl hb))
  have HST:=Lib.hid (show Step x y x.skip y.skip [] from .skip hnx HNY.out)
  have HRN:=Lib.hid (show Run x0 y0 x.skip y.skip (pre.map CE.c) by have:=HRUN.out.step HST.out;rwa [List.append_nil] at this)
  clear hc5 hst5
  gi_wp2_with fail
  gi_roundg (x.skip.wt+y.skip.wt)
  case rel=>exact ⟨x.skip,y.skip,_,_,_,_,_,_,_,_,rfl,HS9.out,HRN.out⟩
  exact HST.out.wt
 skip
 have hAB:(decide (some A=some B))=false:=decide_eq_false fun h=>by
  simp only [Option.some.injEq] at h
  rw [hA',hB',Addr.mk.injEq] at h
  exact hab h.1
 have HAB:=Lib.hid hAB
 have hne:¬Qi0 x y:=fun ⟨a',b',h1,h2,h3⟩=>by
  rw [hnx] at h1;rw [hny] at h2
  obtain rfl:a=a':=by simpa using h1
  obtain rfl:b=b':=by simpa using h2
  exact hab h3
 clear hA' hB' hab hAB
 cases hlt:klt lx fy with
 | true=>
   have hlt':Op.bytesLess lx.toList fy.toList=true:=hlt
   have HLT:=Lib.hid hlt
   gi_wp2_with fail
   refine ⟨trivial,?_⟩
   refine (callsIn_wide.2 (HHX.out wr (Ext.refl wr))).mono ?_
   rintro e w1 ⟨rfl,hx1⟩
   have hx1':=hx1.alloc #[.pointer (some A),.int .i64 hzx,.string fx,.string lx] 194
   have hbp:=Blk.new w1 194 #[.pointer (some A),.int .i64 hzx,.string fx,.string lx]
   have HX1:=Lib.hid hx1'
   have HBP:=Lib.hid hbp
   clear hx1 hx1' hbp
   gi_wp2_with fail
   refine ⟨trivial,?_⟩
   refine (callsIn_wide.2 (HHY.out _ HX1.out)).mono ?_
   rintro e w2 ⟨rfl,hx2⟩
   have hbp2:=HBP.out.ext hx2
   have p0:w2.cell? ⟨w1.heap.size,0,none⟩=some (.pointer (some A)):=hbp2.cell 0
   have p1:w2.cell? ⟨w1.heap.size,1,none⟩=some (.int .i64 hzx):=hbp2.cell 1
   have p2:w2.cell? ⟨w1.heap.size,2,none⟩=some (.string fx):=hbp2.cell 2
   have p3:w2.cell? ⟨w1.heap.size,3,none⟩=some (.string lx):=hbp2.cell 3
   have lp:=hbp2.lt
   have hx3:=(HX1.out.trans hx2).alloc #[.pointer (some B),.int .i64 hzy,.string fy,.string ly] 194
   have HS3:=Lib.hid (HS.out.ext hx3)
   have HW3:=Lib.hid hx3
   clear hx2 hx3 hbp2
   have heq:(binOp .eql 31 (.pointer (some A)) (.pointer (some B))).run Tryz.prog (w2.alloc (.cells #[.pointer (some B),.int .i64 hzy,.string fy,.string ly] 194))=.ok (.bool false) (w2.alloc (.cells #[.pointer (some B),.int .i64 hzy,.string fy,.string ly] 194)):=by
    have:=Qbg (w2.alloc (.cells #[.pointer (some B),.int .i64 hzy,.string fy,.string ly] 194)) (some A) (some B) ((HS3.out.cx.nodes a (List.mem_of_getLast? (x.Qaj hnx).2.2)).QcG (by rw [HA.out];rfl)) ((HS3.out.cy.nodes b (List.mem_of_getLast? (y.Qaj hny).2.2)).QcG (by rw [HB.out];rfl))
    rw [this,HAB.out]
   gi_wp2_with fail
   refine ⟨trivial,?_⟩
   refine (callsIn_wide.2 (Qbl HS3.out.cx hnx (HOX.out a (List.mem_of_getLast? (x.Qaj hnx).2.2)))).mono ?_
   rintro e w4 ⟨rfl,E4,r4,hc4,hst4,hE4,hr4⟩
   have HS9:=Lib.hid (HS3.out.Qmu hst4 hc4 hE4 hr4)
   have HST:=Lib.hid (show Step x y x.open_ y [] from .openX hnx hne (.inr (.inl (by rw [←HLX.out,←HFY.out];exact HLT.out))))
   have HRN:=Lib.hid (show Run x0 y0 x.open_ y (pre.map CE.c) by have:=HRUN.out.step HST.out;rwa [List.append_nil] at this)
   clear hc4 hst4 hE4 hr4
   clear p0 p1 p2 p3 lp
   gi_wp2_with fail
   gi_roundg (x.open_.wt+y.wt)
   case rel=>exact ⟨x.open_,y,_,_,_,_,_,_,_,_,rfl,HS9.out,HRN.out⟩
   exact HST.out.wt
 | false=>
   have hlt':Op.bytesLess lx.toList fy.toList=false:=hlt
   have HLT:=Lib.hid hlt
   cases hgt:klt ly fx with
   | true=>
     have hgt':Op.bytesLess ly.toList fx.toList=true:=hgt
     have HGT:=Lib.hid hgt
     gi_wp2_with fail
     refine ⟨trivial,?_⟩
     refine (callsIn_wide.2 (HHX.out wr (Ext.refl wr))).mono ?_
     rintro e w1 ⟨rfl,hx1⟩
     have hx1':=hx1.alloc #[.pointer (some A),.int .i64 hzx,.string fx,.string lx] 194
     have hbp:=Blk.new w1 194 #[.pointer (some A),.int .i64 hzx,.string fx,.string lx]
     have HX1:=Lib.hid hx1'
     have HBP:=Lib.hid hbp
     clear hx1 hx1' hbp
     gi_wp2_with fail
     refine ⟨trivial,?_⟩
     refine (callsIn_wide.2 (HHY.out _ HX1.out)).mono ?_
     rintro e w2 ⟨rfl,hx2⟩
     have hbp2:=HBP.out.ext hx2
     have p0:w2.cell? ⟨w1.heap.size,0,none⟩=some (.pointer (some A)):=hbp2.cell 0
     have p1:w2.cell? ⟨w1.heap.size,1,none⟩=some (.int .i64 hzx):=hbp2.cell 1
     have p2:w2.cell? ⟨w1.heap.size,2,none⟩=some (.string fx):=hbp2.cell 2
     have p3:w2.cell? ⟨w1.heap.size,3,none⟩=some (.string lx):=hbp2.cell 3
     have lp:=hbp2.lt
     have hx3:=(HX1.out.trans hx2).alloc #[.pointer (some B),.int .i64 hzy,.string fy,.string ly] 194
     have HS3:=Lib.hid (HS.out.ext hx3)
     have HW3:=Lib.hid hx3
     clear hx2 hx3 hbp2
     have heq:(binOp .eql 31 (.pointer (some A)) (.pointer (some B))).run Tryz.prog (w2.alloc (.cells #[.pointer (some B),.int .i64 hzy,.string fy,.string ly] 194))=.ok (.bool false) (w2.alloc (.cells #[.pointer (some B),.int .i64 hzy,.string fy,.string ly] 194)):=by
      have:=Qbg (w2.alloc (.cells #[.pointer (some B),.int .i64 hzy,.string fy,.string ly] 194)) (some A) (some B) ((HS3.out.cx.nodes a (List.mem_of_getLast? (x.Qaj hnx).2.2)).QcG (by rw [HA.out];rfl)) ((HS3.out.cy.nodes b (List.mem_of_getLast? (y.Qaj hny).2.2)).QcG (by rw [HB.out];rfl))
      rw [this,HAB.out]
     gi_wp2_with fail
     refine ⟨trivial,?_⟩
     refine (callsIn_wide.2 (Qbl HS3.out.cy hny (HOY.out b (List.mem_of_getLast? (y.Qaj hny).2.2)))).mono ?_
     rintro e w4 ⟨rfl,E4,r4,hc4,hst4,hE4,hr4⟩
     have HS9:=Lib.hid (HS3.out.QlV hst4 hc4 hE4 hr4)
     have HST:=Lib.hid (show Step x y x y.open_ [] from .openY hny hne (.inr (.inl (by rw [←HLY.out,←HFX.out];exact HGT.out))))
     have HRN:=Lib.hid (show Run x0 y0 x y.open_ (pre.map CE.c) by have:=HRUN.out.step HST.out;rwa [List.append_nil] at this)
     clear hc4 hst4 hE4 hr4
     clear p0 p1 p2 p3 lp
     gi_wp2_with fail
     gi_roundg (x.wt+y.open_.wt)
     case rel=>exact ⟨x,y.open_,_,_,_,_,_,_,_,_,rfl,HS9.out,HRN.out⟩
     exact HST.out.wt
   | false=>
     have hgt':Op.bytesLess ly.toList fx.toList=false:=hgt
     have HGT:=Lib.hid hgt
     by_cases hg:hzy<hzx
     ·have HG:=Lib.hid hg
      gi_wp2_with fail
      refine ⟨trivial,?_⟩
      refine (callsIn_wide.2 (HHX.out wr (Ext.refl wr))).mono ?_
      rintro e w1 ⟨rfl,hx1⟩
      have hx1':=hx1.alloc #[.pointer (some A),.int .i64 hzx,.string fx,.string lx] 194
      have hbp:=Blk.new w1 194 #[.pointer (some A),.int .i64 hzx,.string fx,.string lx]
      have HX1:=Lib.hid hx1'
      have HBP:=Lib.hid hbp
      clear hx1 hx1' hbp
      gi_wp2_with fail
      refine ⟨trivial,?_⟩
      refine (callsIn_wide.2 (HHY.out _ HX1.out)).mono ?_
      rintro e w2 ⟨rfl,hx2⟩
      have hbp2:=HBP.out.ext hx2
      have p0:w2.cell? ⟨w1.heap.size,0,none⟩=some (.pointer (some A)):=hbp2.cell 0
      have p1:w2.cell? ⟨w1.heap.size,1,none⟩=some (.int .i64 hzx):=hbp2.cell 1
      have p2:w2.cell? ⟨w1.heap.size,2,none⟩=some (.string fx):=hbp2.cell 2
      have p3:w2.cell? ⟨w1.heap.size,3,none⟩=some (.string lx):=hbp2.cell 3
      have lp:=hbp2.lt
      have hx3:=(HX1.out.trans hx2).alloc #[.pointer (some B),.int .i64 hzy,.string fy,.string ly] 194
      have HS3:=Lib.hid (HS.out.ext hx3)
      have HW3:=Lib.hid hx3
      clear hx2 hx3 hbp2
      have heq:(binOp .eql 31 (.pointer (some A)) (.pointer (some B))).run Tryz.prog (w2.alloc (.cells #[.pointer (some B),.int .i64 hzy,.string fy,.string ly] 194))=.ok (.bool false) (w2.alloc (.cells #[.pointer (some B),.int .i64 hzy,.string fy,.string ly] 194)):=by
       have:=Qbg (w2.alloc (.cells #[.pointer (some B),.int .i64 hzy,.string fy,.string ly] 194)) (some A) (some B) ((HS3.out.cx.nodes a (List.mem_of_getLast? (x.Qaj hnx).2.2)).QcG (by rw [HA.out];rfl)) ((HS3.out.cy.nodes b (List.mem_of_getLast? (y.Qaj hny).2.2)).QcG (by rw [HB.out];rfl))
       rw [this,HAB.out]
      gi_wp2_with fail
      refine ⟨trivial,?_⟩
      refine (callsIn_wide.2 (Qbl HS3.out.cx hnx (HOX.out a (List.mem_of_getLast? (x.Qaj hnx).2.2)))).mono ?_
      rintro e w4 ⟨rfl,E4,r4,hc4,hst4,hE4,hr4⟩
      have HS9:=Lib.hid (HS3.out.Qmu hst4 hc4 hE4 hr4)
      have HST:=Lib.hid (show Step x y x.open_ y [] from .openX hnx hne (.inr (.inr ⟨by rw [←HLX.out,←HFY.out];exact HLT.out,by rw [←HLY.out,←HFX.out];exact HGT.out,hngy,by rw [y.QbP hny,←HZX.out,←HZY.out];exact HG.out⟩)))
      have HRN:=Lib.hid (show Run x0 y0 x.open_ y (pre.map CE.c) by have:=HRUN.out.step HST.out;rwa [List.append_nil] at this)
      clear hc4 hst4 hE4 hr4
      clear p0 p1 p2 p3 lp
      gi_wp2_with fail
      gi_roundg (x.open_.wt+y.wt)
      case rel=>exact ⟨x.open_,y,_,_,_,_,_,_,_,_,rfl,HS9.out,HRN.out⟩
      exact HST.out.wt
     have HG:=Lib.hid hg
     by_cases hg2:hzx<hzy
     ·skip
      gi_wp2_with fail
      refine ⟨trivial,?_⟩
      refine (callsIn_wide.2 (HHX.out wr (Ext.refl wr))).mono ?_
      rintro e w1 ⟨rfl,hx1⟩
      have hx1':=hx1.alloc #[.pointer (some A),.int .i64 hzx,.string fx,.string lx] 194
      have hbp:=Blk.new w1 194 #[.pointer (some A),.int .i64 hzx,.string fx,.string lx]
      have HX1:=Lib.hid hx1'
      have HBP:=Lib.hid hbp
      clear hx1 hx1' hbp
      gi_wp2_with fail
      refine ⟨trivial,?_⟩
      refine (callsIn_wide.2 (HHY.out _ HX1.out)).mono ?_
      rintro e w2 ⟨rfl,hx2⟩
      have hbp2:=HBP.out.ext hx2
      have p0:w2.cell? ⟨w1.heap.size,0,none⟩=some (.pointer (some A)):=hbp2.cell 0
      have p1:w2.cell? ⟨w1.heap.size,1,none⟩=some (.int .i64 hzx):=hbp2.cell 1
      have p2:w2.cell? ⟨w1.heap.size,2,none⟩=some (.string fx):=hbp2.cell 2
      have p3:w2.cell? ⟨w1.heap.size,3,none⟩=some (.string lx):=hbp2.cell 3
      have lp:=hbp2.lt
      have hx3:=(HX1.out.trans hx2).alloc #[.pointer (some B),.int .i64 hzy,.string fy,.string ly] 194
      have HS3:=Lib.hid (HS.out.ext hx3)
      have HW3:=Lib.hid hx3
      clear hx2 hx3 hbp2
      have heq:(binOp .eql 31 (.pointer (some A)) (.pointer (some B))).run Tryz.prog (w2.alloc (.cells #[.pointer (some B),.int .i64 hzy,.string fy,.string ly] 194))=.ok (.bool false) (w2.alloc (.cells #[.pointer (some B),.int .i64 hzy,.string fy,.string ly] 194)):=by
       have:=Qbg (w2.alloc (.cells #[.pointer (some B),.int .i64 hzy,.string fy,.string ly] 194)) (some A) (some B) ((HS3.out.cx.nodes a (List.mem_of_getLast? (x.Qaj hnx).2.2)).QcG (by rw [HA.out];rfl)) ((HS3.out.cy.nodes b (List.mem_of_getLast? (y.Qaj hny).2.2)).QcG (by rw [HB.out];rfl))
       rw [this,HAB.out]
      gi_wp2_with fail
      refine ⟨trivial,?_⟩
      refine (callsIn_wide.2 (Qbl HS3.out.cy hny (HOY.out b (List.mem_of_getLast? (y.Qaj hny).2.2)))).mono ?_
      rintro e w4 ⟨rfl,E4,r4,hc4,hst4,hE4,hr4⟩
      have HS9:=Lib.hid (HS3.out.QlV hst4 hc4 hE4 hr4)
      have HST:=Lib.hid (show Step x y x y.open_ [] from .openY hny hne (.inr (.inr ⟨by rw [←HLX.out,←HFY.out];exact HLT.out,by rw [←HLY.out,←HFX.out];exact HGT.out,hngx,by rw [x.QbP hnx,←HZX.out,←HZY.out];exact HG.out⟩)))
      have HRN:=Lib.hid (show Run x0 y0 x y.open_ (pre.map CE.c) by have:=HRUN.out.step HST.out;rwa [List.append_nil] at this)
      clear hc4 hst4 hE4 hr4
      clear p0 p1 p2 p3 lp
      gi_wp2_with fail
      gi_roundg (x.wt+y.open_.wt)
      case rel=>exact ⟨x,y.open_,_,_,_,_,_,_,_,_,rfl,HS9.out,HRN.out⟩
      exact HST.out.wt
     skip
     gi_wp2_with fail
     refine ⟨trivial,?_⟩
     refine (callsIn_wide.2 (HHX.out wr (Ext.refl wr))).mono ?_
     rintro e w1 ⟨rfl,hx1⟩
     have hx1':=hx1.alloc #[.pointer (some A),.int .i64 hzx,.string fx,.string lx] 194
     have hbp:=Blk.new w1 194 #[.pointer (some A),.int .i64 hzx,.string fx,.string lx]
     have HX1:=Lib.hid hx1'
     have HBP:=Lib.hid hbp
     clear hx1 hx1' hbp
     gi_wp2_with fail
     refine ⟨trivial,?_⟩
     refine (callsIn_wide.2 (HHY.out _ HX1.out)).mono ?_
     rintro e w2 ⟨rfl,hx2⟩
     have hbp2:=HBP.out.ext hx2
     have p0:w2.cell? ⟨w1.heap.size,0,none⟩=some (.pointer (some A)):=hbp2.cell 0
     have p1:w2.cell? ⟨w1.heap.size,1,none⟩=some (.int .i64 hzx):=hbp2.cell 1
     have p2:w2.cell? ⟨w1.heap.size,2,none⟩=some (.string fx):=hbp2.cell 2
     have p3:w2.cell? ⟨w1.heap.size,3,none⟩=some (.string lx):=hbp2.cell 3
     have lp:=hbp2.lt
     have hx3:=(HX1.out.trans hx2).alloc #[.pointer (some B),.int .i64 hzy,.string fy,.string ly] 194
     have HS3:=Lib.hid (HS.out.ext hx3)
     have HW3:=Lib.hid hx3
     clear hx2 hx3 hbp2
     have heq:(binOp .eql 31 (.pointer (some A)) (.pointer (some B))).run Tryz.prog (w2.alloc (.cells #[.pointer (some B),.int .i64 hzy,.string fy,.string ly] 194))=.ok (.bool false) (w2.alloc (.cells #[.pointer (some B),.int .i64 hzy,.string fy,.string ly] 194)):=by
      have:=Qbg (w2.alloc (.cells #[.pointer (some B),.int .i64 hzy,.string fy,.string ly] 194)) (some A) (some B) ((HS3.out.cx.nodes a (List.mem_of_getLast? (x.Qaj hnx).2.2)).QcG (by rw [HA.out];rfl)) ((HS3.out.cy.nodes b (List.mem_of_getLast? (y.Qaj hny).2.2)).QcG (by rw [HB.out];rfl))
      rw [this,HAB.out]
     gi_wp2_with fail
     refine ⟨trivial,?_⟩
     refine (callsIn_wide.2 (Qbl HS3.out.cy hny (HOY.out b (List.mem_of_getLast? (y.Qaj hny).2.2)))).mono ?_
     rintro e w4 ⟨rfl,E4,r4,hc4,hst4,hE4,hr4⟩
     have HS9:=Lib.hid (HS3.out.QlV hst4 hc4 hE4 hr4)
     have HST:=Lib.hid (show Step x y x y.open_ [] from .openY hny hne (.inr (.inr ⟨by rw [←HLX.out,←HFY.out];exact HLT.out,by rw [←HLY.out,←HFX.out];exact HGT.out,hngx,by rw [x.QbP hnx,←HZX.out,←HZY.out];exact HG.out⟩)))
     have HRN:=Lib.hid (show Run x0 y0 x y.open_ (pre.map CE.c) by have:=HRUN.out.step HST.out;rwa [List.append_nil] at this)
     clear hc4 hst4 hE4 hr4
     clear p0 p1 p2 p3 lp
     gi_wp2_with fail
     gi_roundg (x.wt+y.open_.wt)
     case rel=>exact ⟨x,y.open_,_,_,_,_,_,_,_,_,rfl,HS9.out,HRN.out⟩
     exact HST.out.wt
end Go.Proofs.YtohajcflklejjaaGreat
namespace Go.Proofs.YtohajcflklejjaaGreat
open Go.RowKit Go.Shelf
set_option linter.unusedVariables false
set_option linter.unusedSimpArgs false
theorem Qh0 {h:Nat}:∀ l:List (PT h),(∀ k∈l,Qbu h k+1≤2*(ents h k).length)→(l.map (Qbu h)).sum+l.length≤2*(l.flatMap (ents h)).length
 | [],_=>by simp
 | k :: l,hk=>by
   have h1:=hk k List.mem_cons_self
   have h2:=Qh0 l fun x hx=>hk x (List.mem_cons_of_mem _ hx)
   simp only [List.map_cons,List.sum_cons,List.length_cons,List.flatMap_cons,List.length_append]
   omega
theorem QjE:∀ (h:Nat) (t:PT h),OkT h t→1≤size h t→Qbu h t+1≤2*(ents h t).length
 | 0,t,ok,hs=>by
   have h1:1≤t.2.length:=hs
   have e:Qbu 0 t=1:=rfl
   show Qbu 0 t+1≤2*t.2.length
   omega
 | h+1,t,ok,hs=>by
   have h1:=Qh0 t.2 fun k hk=>QjE h k (ok.2.2 k hk).1 (Nat.le_trans (by decide) (ok.2.2 k hk).2)
   have h2:=ok.1
   have e:Qbu (h+1) t=1+(t.2.map (Qbu h)).sum:=rfl
   show Qbu (h+1) t+1≤2*(t.2.flatMap (ents h)).length
   omega
theorem Qh1 {T:RT} (ok:OkR T):QlZ T≤2*(Qak T).length:=by
 cases T with
 | none=>exact Nat.zero_le _
 | some a=>
   have:=QjE a.1 a.2 ok.1 ok.2.1
   show QaW [a]≤2*(ents a.1 a.2).length
   simp only [QaW,List.map_cons,List.map_nil,List.sum_cons,List.sum_nil]
   omega
theorem Qg6 {P:Program} (w:World) {t:TypeId} {ps rs:Array TypeId} {b:Bool} (f:Fn) (ta lb:Array Value) (hp:P.underlying t=some (.func ps rs b)) :
  (binOp .neq t (.func f ta lb) .nilFunc).run P w=.ok (.bool true) w:=by
 have h:∀ d:Nat,(Op.equalIn (d+1) t (.func f ta lb) .nilFunc).run P w=.ok false w:=fun d=>by
  simp [Op.equalIn,run_underlying hp]
 simp only [binOp]
 simp [Op.equal,Op.maxDepth,h 9999]
theorem QeK.st {F F':Nat→Prop} {lo X Y:Nat} {x0 y0:Qam} {all:List Chg} {C:Nat→Prop} {J:List CE→(Nat→Prop)→(Nat→Prop)→World→Prop} {Jx:List CE→(Nat→Prop)→World→Prop} {W00:World} {e:Ending} {w':World} (h:QeK F F' lo X Y x0 y0 all C J Jx W00 e w'):St C W00 w':=by
 rcases h.2 with ⟨_,_,_,_,_,_,_,_,_,_,hm,-⟩ | ⟨_,_,-,-,-,hm⟩
 ·exact hm.st
 exact hm
def QoZ (F F':Nat→Prop) (B:Nat) (b:Nat):Prop:=F b∨F' b∨b=B∨b=B+1
theorem QmP {w0:World} {F F':Nat→Prop} {T U:RT} {B:Nat} (hT:IsT w0 F T) (hU:IsT w0 F' U) (hF:∀ b,F b→b<w0.heap.size) (hF':∀ b,F' b→b<w0.heap.size) (ok:OkR T) (ok':OkR U) (hl:(Qak T).length≤500000) (hl':(Qak U).length≤500000)
  (hb:Blk w0 B 33 #[QaQ T]) (hb':Blk w0 (B+1) 33 #[QaQ U]) :
  Qhm Tryz.prog 98 #[.pointer (some ⟨B,0,none⟩),.pointer (some ⟨B+1,0,none⟩)] Qjk (QoZ F F' B) (fun lo=>QnO (chg (Qak T) (Qak U)) lo) (fun xs=>xs.map CE.c=chg (Qak T) (Qak U)) (fun pre=>pre.map CE.c <+: chg (Qak T) (Qak U)) w0:=by
 intro l J Jx C W hTk hA hsz hCK hJ
 have hlB:=hb.lt
 have hlB':=hb'.lt
 have hbW:Blk W B 33 #[QaQ T]:=hb.agree hA (.inr (.inr (.inl rfl)))
 have hbW':Blk W (B+1) 33 #[QaQ U]:=hb'.agree hA (.inr (.inr (.inr rfl)))
 have hTW:IsT W F T:=hT.agree (hA.mono fun b hb=>.inl hb)
 have hUW:IsT W F' U:=hU.agree (hA.mono fun b hb=>.inr (.inl hb))
 have hFW:∀ b,F b→b<W.heap.size:=fun b hb=>Nat.lt_of_lt_of_le (hF b hb) hsz
 have hFW':∀ b,F' b→b<W.heap.size:=fun b hb=>Nat.lt_of_lt_of_le (hF' b hb) hsz
 have hst1:∀ W',Ext W W'→Calls Tryz.prog 100 #[QaC T] W' (Qdw F W.heap.size T W'):=fun W' hW=>Qih (hTW.agree (hW.agree hFW)) hFW hW.size (Nat.le_trans (Qh1 ok) (by omega))
 have hst2:∀ W',Ext W W'→Calls Tryz.prog 100 #[QaC U] W' (Qdw F' W.heap.size U W'):=fun W' hW=>Qih (hUW.agree (hW.agree hFW')) hFW' hW.size (Nat.le_trans (Qh1 ok') (by omega))
 obtain ⟨p,hp⟩:=Qar T
 obtain ⟨q,hq⟩:=Qar U
 rw [hp] at hbW
 rw [hq] at hbW'
 rw [QaC,hp] at hst1
 rw [QaC,hq] at hst2
 have hCl:=hTk.lt [] C _ W hJ
 have hin:∀ (w1 w2:World) (X Y:Nat) (rx ry:Option Nat),Ext W w1→Ext w1 w2→Cur F (fun _=>False) W.heap.size X rx (Qdd T) w1→W.heap.size≤X→(∀ b,rx=some b→W.heap.size≤b)→Cur F' (fun _=>False) W.heap.size Y ry (Qdd U) w2→w1.heap.size≤Y→(∀ b,ry=some b→w1.heap.size≤b)→
   WalkM F F' W.heap.size X Y C J W (Qdd T) (Qdd U) rx ry (fun _=>False) (fun _=>False) [] C (fun _=>False) W w2:=fun w1 w2 X Y rx ry h1 h2 hx hX hrx hy hY hry=>by
  have hsw:=h1.size
  have hx1:=hx.lt
  have hxr:=hx.rlt
  have hy1:∀ b,(b=Y∨ry=some b)→w1.heap.size≤b:=fun b hb=>hb.elim (fun e=>by omega) (hry b)
  refine ⟨hJ,(h1.trans h2).st _,hx.ext h2,hy,fun b hb=>?_,fun b hb=>hb.elim,fun b hb hh=>?_,fun b hb hh=>?_,fun b hb=>⟨fun hh=>?_,fun hh=>?_⟩,hCl,(h1.trans h2).st _,fun b hb=>.inl hb,rfl⟩
  ·rcases hb with rfl | rfl | hb | hb
   ·exact .inr hX
   ·exact .inr (by omega)
   ·exact .inr (hrx b hb)
   exact .inr (Nat.le_trans hsw (hry b hb))
  ·have hlo:W.heap.size≤b:=hb.elim (fun e=>by omega) (hrx b)
   have hup:b<w1.heap.size:=hb.elim (fun e=>by omega) (fun e=>(hxr b e).2)
   rcases hh with h | h | h | h
   ·have:=hFW' b h;omega
   ·exact h
   ·omega
   have:=hry b h;omega
  ·have hlo:=hy1 b hb
   rcases hh with h | h | h | h
   ·have:=hFW b h;omega
   ·exact h
   ·omega
   have:=(hxr b h).2;omega
  ·have hl:=hCl b hb
   rcases hh with h | h | h | h
   ·exact hCK b hb (.inl h)
   ·exact h
   ·omega
   have:=hrx b h;omega
  have hl:=hCl b hb
  rcases hh with h | h | h | h
  ·exact hCK b hb (.inr (.inl h))
  ·exact h
  ·omega
  have:=hry b h;omega
 have hwk:=fun (w1 w2:World) (X Y:Nat) (rx ry:Option Nat) a b c d e f g h=>QhB (all:=chg (Qak T) (Qak U)) hTk (hin w1 w2 X Y rx ry a b c d e f g h) (QdO ok) (QdO ok') (by rw [QcC,QcC])
 have HSS:=Lib.hid (show ∀ W1,St C W W1→W1.cell? ⟨B,0,none⟩=some (.pointer p)∧W1.cell? ⟨B+1,0,none⟩=some (.pointer q) from fun W1 hW=>
  ⟨(hW.blk hbW fun h=>hCK _ h (.inr (.inr (.inl rfl)))).cell 0,(hW.blk hbW' fun h=>hCK _ h (.inr (.inr (.inr rfl)))).cell 0⟩)
 have HWK:=Lib.hid hwk
 have HS1:=Lib.hid hst1
 have HS2:=Lib.hid hst2
 have HOK:=Lib.hid (QdO ok)
 have HOK':=Lib.hid (QdO ok')
 have hneq:=Qg6 (P:=Tryz.prog) W (t:=143) (.yield l) #[] #[] Tryz.underlying143
 clear hTk hA hsz hCK hJ hT hU hF hF' ok ok' hl hl' hb hb' hlB hlB' hbW hbW' hTW hUW hFW hFW' hst1 hst2 hp hq hCl hin hwk
 show Calls _ _ #[.func (.yield l) #[] #[],.pointer (some ⟨B,0,none⟩),.pointer (some ⟨B+1,0,none⟩)] W _
 go_enter Tryz.func98,Tryz.ntmps98
 go_wp2_with fail
 refine wp_region_held_drew (S:=(fun w'=>St C W w')) (by kernel_rfl) (((St.refl C W).drew)) (fun hHeld=>?_)
 refine Qab 0 (some 6) HSS hHeld ?_
 refine Qab 2 (some 8) HSS hHeld ?_
 refine Qab 4 (some 10) HSS hHeld ?_
 refine Qaa (i:=1) (by kernel_rfl) rfl (by rfl) (fun K hK=>?_)
 go_simp
 (refine (HS1.out _ ((Ext.refl W).drew)).mono ?_;rintro e w1 ⟨X,rx,rfl,hx1,hcx,hX,hrx⟩;have HX1:=Lib.hid (((Ext.refl W).drew).trans hx1);have HCX:=Lib.hid hcx;have HRX:=Lib.hid hrx;clear hcx hx1 hrx)
 refine hK.out _ _ (HX1.out.st C) (fun hHeld=>?_)
 clear hK K
 try simp only [Act.put,List.setIfInBounds_toArray,List.set_cons_zero,List.set_cons_succ]
 refine Qaa (i:=3) (by kernel_rfl) rfl (by rfl) (fun K hK=>?_)
 go_simp
 (refine (HS2.out _ HX1.out).mono ?_;rintro e w2 ⟨Y,ry,rfl,hx2,hcy,hY,hry⟩;have HX2:=Lib.hid hx2;have HCY:=Lib.hid hcy;have HRY:=Lib.hid hry;clear hcy hx2 hry)
 refine hK.out _ _ ((HX1.out.trans HX2.out).st C) (fun hHeld=>?_)
 clear hK K
 try simp only [Act.put,List.setIfInBounds_toArray,List.set_cons_zero,List.set_cons_succ]
 refine Qaa (i:=5) (by kernel_rfl) rfl (by rfl) (fun K hK=>?_)
 go_simp
 (refine (HWK.out w1 w2 X Y rx ry HX1.out HX2.out HCX.out (by have:=((Ext.refl W).drew).size;omega) (fun b hb=>by have:=HRX.out b hb;have:=((Ext.refl W).drew).size;omega) HCY.out hY HRY.out).mono ?_;rintro e w3 ⟨rfl,hp3⟩;have HP3:=Lib.hid hp3;have hst3:St C W w3:=(QeK.st ⟨rfl,hp3⟩);clear hp3)
 refine hK.out _ _ (hst3) (fun hHeld=>?_)
 clear hK K
 try simp only [Act.put,List.setIfInBounds_toArray,List.set_cons_zero,List.set_cons_succ]
 refine wpAnyH_done (by kernel_rfl) ?_ _
 go_wp2_with fail
 go_end0
 refine ⟨⟨_,rfl⟩,?_⟩
 rcases HP3.out with ⟨x,y,rx',ry',Ex,Ey,pre,C',D,Wj,hm,hrun,gx,gy⟩ | ⟨pre,D,hj,hD,hpre,-⟩
 ·refine .inl ⟨pre,C',D,Wj,?_,hm.j,hm.jst,hm.low⟩
  have:=hrun.done HOK.out HOK'.out gx gy
  rw [QcC,QcC] at this
  exact this.symm
 exact .inr ⟨pre,D,_,hpre,hj,St.refl _ _,hD⟩
def QgI (T U:RT) (w:World) (e:Ending) (w':World):Prop:=
 e=.returned (.func (.func 98) #[] #[.pointer (some ⟨w.heap.size,0,none⟩),.pointer (some ⟨w.heap.size+1,0,none⟩)])∧Ext w w'∧Blk w' w.heap.size 33 #[QaQ T]∧Blk w' (w.heap.size+1) 33 #[QaQ U]
theorem QmO (w:World) (T U:RT):Calls Tryz.prog 68 #[QaC T,QaC U] w (QgI T U w):=by
 obtain ⟨p,hp⟩:=Qar T
 obtain ⟨q,hq⟩:=Qar U
 unfold QgI
 rw [QaC,QaC,hp,hq]
 go_enter Tryz.func68,Tryz.ntmps68
 go_wp2_with fail
 generalize hW0:World.alloc (World.alloc _ _) _=W0
 obtain ⟨hx0,hz0,hb0,hb1⟩:=Qaz w _ _ _ _ W0 hW0
 go_ret
 exact ⟨rfl,hx0,hb0,hb1⟩
attribute [local go_sem] Oper.semAt_some
theorem Tryz.Qgm:(Tryz.prog.info? 54).map (fun i=>(i.zero,i.size,i.bytes))=some (some (.agg #[.string ByteArray.empty,.bool false,.int .i64 0,.bool false,.int .i64 0,.string ByteArray.empty,.slice none 0 0,.slice none 0 0,.bool false,.int .i64 0,.bool false,.int .i64 0,.string ByteArray.empty,.slice none 0 0,.slice none 0 0]),15,208):=by kernel_rfl
def QbF (xs:List CE):List Value:=xs.flatMap fun x=>x.cells.toList
theorem Qlv (xs:List CE):(QbF xs).length=xs.length*15:=by
 induction xs with
 | nil=>rfl
 | cons x xs ih=>simp only [QbF,List.flatMap_cons,List.length_append,List.length_cons] at *;rw [ih];simp;omega
theorem Qd2 (xs:List CE) (x:CE):QbF (xs++[x])=QbF xs++x.cells.toList:=by simp [QbF]
theorem Qle (x:CE):∀ u∈x.cells.toList,u.oneCell'=true:=by
 intro u hu
 simp only [List.mem_cons,List.not_mem_nil,or_false] at hu
 rcases hu with rfl | rfl | rfl | rfl | rfl | rfl | rfl | rfl | rfl | rfl | rfl | rfl | rfl | rfl | rfl <;> rfl
structure CS (w:World) (F:Nat→Prop) (s:Sl) (xs:List CE):Prop where
 rd:Rd w F 15 s xs.length (QbF xs)
 vals:∀ x∈xs,CR w F x
 few:xs.length*208≤140737488355328
structure QfV (w:World) (L:Nat) (xs:List CE) (C D:Nat→Prop) (W:World):Prop where
 ex:∃ s:Sl,(C=fun b=>b=L∨s.row=some b)∧Blk W L 78 #[.slice s.a xs.length s.c]∧W.ownsRow (w.heap.size+2) 54 15 (.slice s.a xs.length s.c) xs.length (QbF xs)
 vals:∀ x∈xs,CR W (fun b=>w.heap.size+2≤b∧b<W.heap.size∧¬D b∧¬C b) x
 st:St (fun b=>b=L) w W
 sz:w.heap.size+2≤W.heap.size
 dis:∀ b,C b→¬D b
 dlo:∀ b,D b→w.heap.size+2≤b
theorem QfV.start {w W:World} {L:Nat} (hb:Blk w L 78 #[.slice none 0 0]) (hx:Ext w W) (hz:w.heap.size+2≤W.heap.size):QfV w L [] (fun b=>b=L) (fun _=>False) W:=
 ⟨⟨Sl.none,by funext b;simp [Sl.row],hb.ext hx,World.ownsRow_nil _ _ _ _⟩,fun x hx=>(by cases hx),hx.st _,hz,fun _ _ h=>h,fun _ h=>h.elim⟩
theorem QfV.turn {w W W':World} {L:Nat} {xs:List CE} {C D:Nat→Prop} (h:QfV w L xs C D W) (hL:L<w.heap.size) (k:St (fun b=>b=w.heap.size+1) W W'):QfV w L xs C D W':=by
 obtain ⟨⟨s,h1,h2,h3⟩,hv,h5,h6,h7,h8⟩:=h
 exact ⟨⟨s,h1,k.blk h2 (by omega),Qad h3 k.agree fun b hb=>⟨(Qac h3 hb).2,by have:=(Qac h3 hb).1;omega⟩⟩,fun x hx=>((hv x hx).agree (k.agree.mono fun b hb=>⟨hb.2.1,by have:=hb.1;omega⟩)).mono fun b hb=>⟨hb.1,Nat.lt_of_lt_of_le hb.2.1 k.size,hb.2.2⟩,h5.then k (fun i hi e=>by omega),Nat.le_trans h6 k.size,h7,h8⟩
theorem Qlk {w W0 W3 W4 w5:World} {L:Nat} {s s3:Sl} {xs:List CE} {x:CE} {D D1:Nat→Prop} (hL:L<w.heap.size) (h0:QfV w L xs (fun b=>b=L∨s.row=some b) D W0) (hblk:Blk W0 L 78 #[.slice s.a xs.length s.c]) (ho:W0.ownsRow (w.heap.size+2) 54 15 (.slice s.a xs.length s.c) xs.length (QbF xs))
  (h03:St (fun b=>D b∨b=w.heap.size+1) W0 W3) (hD1:∀ b,D1 b→D b∨W0.heap.size≤b) (hD1l:∀ b,D1 b→w.heap.size+2≤b∧b<W3.heap.size) (hCD:∀ b,(b=L∨s.row=some b)→¬D1 b)
  (hx:CR W3 (fun b=>w.heap.size+2≤b∧b<W3.heap.size∧¬(D1 b∨((b=L∨s.row=some b)∨b=w.heap.size+1))) x)
  (h34:Ext W3 W4) (hown:w5.ownsRow (w.heap.size+2) 54 15 (.slice s3.a (xs.length+1) s3.c) (xs.length+1) (QbF xs++x.cells.toList)) (hwr:Wr W4 w5 s.row) (hs3:s3.a=s.a∨s3.a=some ⟨W4.heap.size,0,none⟩∧Wr W4 w5 none) :
  QfV w L (xs++[x]) (fun b=>b=L∨s3.row=some b) D1 (w5.setCell ⟨L,0,none⟩ (.slice s3.a (xs.length+1) s3.c))∧St (fun b=>b=L∨s.row=some b) W3 (w5.setCell ⟨L,0,none⟩ (.slice s3.a (xs.length+1) s3.c))∧
   (∀ b,(b=L∨s3.row=some b)→(b=L∨s.row=some b)∨W3.heap.size≤b)∧(∀ b,(b=L∨s3.row=some b)→b<(w5.setCell ⟨L,0,none⟩ (.slice s3.a (xs.length+1) s3.c)).heap.size):=by
 have hrow0:∀ b,s.row=some b→w.heap.size+2≤b∧b<W0.heap.size:=fun b hb=>Qac ho hb
 have hs03:=h03.size
 have hs34:=h34.size
 have hs45:=hwr.grown.size
 have hsz:=h0.sz
 have hs2:∀ b,s3.row=some b→s.row=some b∨W4.heap.size≤b:=by
  intro b hb
  rcases hs3 with h | ⟨h,-⟩
  ·exact .inl (by rw [←hb];simp [Sl.row,h])
  right;rw [Sl.row,h] at hb;simp at hb;omega
 have hset:St (fun b=>b=L) w5 (w5.setCell ⟨L,0,none⟩ (.slice s3.a (xs.length+1) s3.c)):=(St.refl (fun b=>b=L) w5).set (p:=⟨L,0,none⟩) (.inr rfl) _
 have hst45:St (fun b=>s.row=some b) W4 w5:=hwr.st fun i hi=>hi
 have hst36:St (fun b=>b=L∨s.row=some b) W3 (w5.setCell ⟨L,0,none⟩ (.slice s3.a (xs.length+1) s3.c)):=((h34.st _).trans (hst45.mono fun i _ hi=>.inr hi)).trans (hset.mono fun i _ hi=>.inl hi)
 have hL0:¬(D L∨L=w.heap.size+1):=fun h=>h.elim (h0.dis L (.inl rfl)) (by omega)
 have hB5:Blk w5 L 78 #[.slice s.a xs.length s.c]:=hst45.blk ((h03.blk hblk hL0).ext h34) (fun e=>by have:=(hrow0 L e).1;omega)
 have hrow5:∀ b,s3.row=some b→b<w5.heap.size:=fun b hb=>(Qac hown hb).2
 refine ⟨⟨⟨s3,rfl,by rw [List.length_append,List.length_singleton];exact hB5.QaN 0 _,?_⟩,fun y hy=>?_,?_,?_,fun b hb hD=>?_,fun b hb=>(hD1l b hb).1⟩,hst36,fun b hb=>?_,fun b hb=>?_⟩
 ·rw [List.length_append,List.length_singleton,Qd2]
  exact Qad hown hset.agree fun b hb=>⟨hrow5 b hb,fun e=>by
   rcases hs2 b hb with h | h
   ·have:=(hrow0 b h).1;omega
   omega⟩
 ·have hup:∀ (F:Nat→Prop) (y:CE),CR W3 F y→(∀ b,F b→w.heap.size+2≤b∧b<W3.heap.size∧¬D1 b∧¬(b=L∨s.row=some b))→CR (w5.setCell ⟨L,0,none⟩ (.slice s3.a (xs.length+1) s3.c)) (fun b=>w.heap.size+2≤b∧b<(w5.setCell ⟨L,0,none⟩ (.slice s3.a (xs.length+1) s3.c)).heap.size∧¬D1 b∧¬(b=L∨s3.row=some b)) y:=fun F y hy hF=>
   (hy.agree (hst36.agree.mono fun b hb=>⟨(hF b hb).2.1,(hF b hb).2.2.2⟩)).mono fun b hb=>⟨(hF b hb).1,Nat.lt_of_lt_of_le (hF b hb).2.1 hst36.size,(hF b hb).2.2.1,fun e=>by
     rcases e with e | e
     ·exact (hF b hb).2.2.2 (.inl e)
     rcases hs2 b e with e | e
     ·exact (hF b hb).2.2.2 (.inr e)
     have:=(hF b hb).2.1;omega⟩
  rcases List.mem_append.1 hy with hy | hy
  ·refine hup (fun b=>w.heap.size+2≤b∧b<W0.heap.size∧¬D b∧¬(b=L∨s.row=some b)) y ((h0.vals y hy).agree (h03.agree.mono fun b hb=>⟨hb.2.1,fun e=>e.elim hb.2.2.1 (by have:=hb.1;omega)⟩)) fun b hb=>⟨hb.1,by omega,fun e=>?_,hb.2.2.2⟩
   rcases hD1 b e with e | e
   ·exact hb.2.2.1 e
   have:=hb.2.1;omega
  obtain rfl:=List.mem_singleton.1 hy
  exact hup _ y hx fun b hb=>⟨hb.1,hb.2.1,fun e=>hb.2.2 (.inl e),fun e=>hb.2.2 (.inr (.inl e))⟩
 ·refine (h0.st.then h03 (fun i hi e=>?_)).then hst36 fun i hi e=>?_
  ·rcases e with e | e
   ·have:=h0.dlo i e;omega
   omega
  rcases e with e | e
  ·exact e
  have:=(hrow0 i e).1;omega
 ·rw [World.size_setCell];omega
 ·have:=(hD1l b hD).2
  rcases hb with e | e
  ·exact hCD b (.inl e) hD
  rcases hs2 b e with e | e
  ·exact hCD b (.inr e) hD
  omega
 ·rcases hb with e | e
  ·exact .inl (.inl e)
  exact (hs2 b e).imp .inr (fun h=>by omega)
 rw [World.size_setCell]
 rcases hb with e | e
 ·omega
 exact hrow5 b e
theorem Blk.c15 {w:World} {g:Nat} {t:TypeId} {v0 v1 v2 v3 v4 v5 v6 v7 v8 v9 v10 v11 v12 v13 v14:Value} (h:Blk w g t #[v0,v1,v2,v3,v4,v5,v6,v7,v8,v9,v10,v11,v12,v13,v14]) :
  w.cell? ⟨g,0,none⟩=some v0∧w.cell? ⟨g,1,none⟩=some v1∧w.cell? ⟨g,2,none⟩=some v2∧w.cell? ⟨g,3,none⟩=some v3∧w.cell? ⟨g,4,none⟩=some v4∧w.cell? ⟨g,5,none⟩=some v5∧w.cell? ⟨g,6,none⟩=some v6∧w.cell? ⟨g,7,none⟩=some v7∧w.cell? ⟨g,8,none⟩=some v8∧w.cell? ⟨g,9,none⟩=some v9∧w.cell? ⟨g,10,none⟩=some v10∧w.cell? ⟨g,11,none⟩=some v11∧w.cell? ⟨g,12,none⟩=some v12∧w.cell? ⟨g,13,none⟩=some v13∧w.cell? ⟨g,14,none⟩=some v14:=
 ⟨h.cell 0,h.cell 1,h.cell 2,h.cell 3,h.cell 4,h.cell 5,h.cell 6,h.cell 7,h.cell 8,h.cell 9,h.cell 10,h.cell 11,h.cell 12,h.cell 13,h.cell 14⟩
end Go.Proofs.YtohajcflklejjaaGreat
namespace Go.Proofs.YtohajcflklejjaaGreat
open Go.RowKit Go.Shelf
set_option linter.unusedVariables false
set_option linter.unusedSimpArgs false
attribute [local go_sem] Oper.semAt_some
def Qfa (l:List Chg) (w:World) (e:Ending) (w':World):Prop:=
 ∃ (s:Sl) (xs:List CE),e=.returned (.slice s.a xs.length s.c)∧xs.map CE.c=l∧Ext w w'∧CS w' (In w.heap.size w'.heap.size) s xs
theorem QdY:∀ (a b:List Ent),(chg a b).length≤a.length+b.length
 | [],b=>by rw [Qfy];simp
 | e :: a,[]=>by rw [Qff];simp
 | e :: a,f :: b=>by
   rw [chg]
   split
   ·have:=QdY a (f :: b);simp only [List.length_cons] at *;omega
   split
   ·have:=QdY (e :: a) b;simp only [List.length_cons] at *;omega
   have:=QdY a b
   rw [List.length_append]
   have h1:(Qk6 e f).length≤1:=by unfold Qk6;split <;> simp
   simp only [List.length_cons];omega
termination_by a b=>a.length+b.length
theorem Qiy {w:World} {F F':Nat→Prop} {T U:RT} (hT:IsT w F T) (hU:IsT w F' U) (hF:∀ b,F b→b<w.heap.size) (hF':∀ b,F' b→b<w.heap.size) (ok:OkR T) (ok':OkR U) (hl:(Qak T).length≤500000) (hl':(Qak U).length≤500000) :
  Calls Tryz.prog 47 #[QaC T,QaC U] w (Qfa (chg (Qak T) (Qak U)) w):=by
 obtain ⟨i0,hi,hz0,hz1,hz2⟩:=info_parts Tryz.Qgm
 obtain ⟨p,hp⟩:=Qar T
 obtain ⟨q,hq⟩:=Qar U
 have hdf:=fun W=>QmO W T U
 have hse:=fun (W:World) (hW:Ext w W) B (hb:Blk W B 33 #[QaQ T]) (hb':Blk W (B+1) 33 #[QaQ U])=>QmP (hT.agree (hW.agree hF)) (hU.agree (hW.agree hF')) (fun b hb=>Nat.lt_of_lt_of_le (hF b hb) hW.size) (fun b hb=>Nat.lt_of_lt_of_le (hF' b hb) hW.size) ok ok' hl hl' hb hb'
 obtain ⟨al,hal⟩:∃ al,chg (Qak T) (Qak U)=al:=⟨_,rfl⟩
 have hall:al.length≤1000000:=by rw [←hal];have:=QdY (Qak T) (Qak U);omega
 rw [hal] at hse ⊢
 unfold QgI at hdf
 rw [QaC,QaC,hp,hq] at hdf
 rw [QaC,QaC,hp,hq]
 rw [hp,hq] at hse
 have HDF:=Lib.hid hdf
 have HSE:=Lib.hid hse
 have HF:=Lib.hid hF
 have HF':=Lib.hid hF'
 clear hT hU hF hF' ok ok' hl hl' hdf hse hp hq hal
 refine (callsIn_wide (n:=6)).1 ?_
 refine callsIn_of_wp_marks Tryz.func47 rfl trivial ?_ rfl
 simp only [Tryz.ntmps47,List.size_toArray,List.length_cons,List.length_nil,Nat.reduceAdd,Nat.reduceSub,Array.replicate_succ,Array.replicate_zero,List.push_toArray,List.append_toArray,List.nil_append,List.cons_append]
 gi_wp2_with fail
 generalize hW0:World.alloc (World.alloc (World.alloc _ _) _) _=W0
 obtain ⟨hx0,hz0',hb0,hb1,hb2⟩:=QaS w _ _ _ _ _ _ W0 hW0
 have HX0:=Lib.hid hx0
 have HB2:=Lib.hid hb2
 have hz0l:w.heap.size+3≤W0.heap.size:=by omega
 clear hW0 hx0 hb0 hb1 hb2 hz0'
 refine ⟨trivial,?_⟩
 refine (callsIn_wide.2 (HDF.out W0)).mono ?_
 rintro e w1 ⟨rfl,hx1,hbt,hbu⟩
 have HX1:=Lib.hid (HX0.out.trans hx1)
 have HL:=Lib.hid (HB2.out.ext hx1)
 have HSQ:=Lib.hid (HSE.out w1 (HX0.out.trans hx1) W0.heap.size hbt hbu)
 have hs1:=hx1.size
 have hl1:=hbu.lt
 have hL1:w.heap.size+1+1<w1.heap.size:=HL.out.lt
 clear hx1 hbt hbu HDF HSE
 gi_wp2_with fail
 refine QeH (gf:=98) (lb:=#[.pointer (some ⟨W0.heap.size,0,none⟩),.pointer (some ⟨W0.heap.size+1,0,none⟩)]) rfl (enters_of Tryz.func98 (by kernel_rfl) rfl) HSQ.out (Agree.refl _) (Nat.le_refl _)
  (fun b hb=>hb.elim (fun h=>by have:=HF.out b h;omega) (fun h=>h.elim (fun h=>by have:=HF'.out b h;omega) (fun h=>by omega))) (fun _=>rfl)
  (fun pre C D W=>QfV w1 (w.heap.size+1+1) pre C D W∧pre.length≤1000000) (fun _ _ _ _=>False) (fun b=>b=w.heap.size+1+1)
  (fun b hb=>⟨by omega,fun h=>h.elim (fun h=>by have:=HF.out b h;omega) (fun h=>h.elim (fun h=>by have:=HF'.out b h;omega) (fun h=>by omega))⟩)
  (fun h k=>⟨h.1.turn hL1 k,h.2⟩) (fun h k=>h) (fun W hW hz=>⟨QfV.start HL.out hW hz,by simp⟩) ?round ?done ?stop
 case stop=>
  rintro D c pre Di W0' W hD hSp hX
  exact hX.elim
 case round=>
  rintro pre C D D1 x W0' W1 ⟨⟨⟨s,rfl,hblk,hown⟩,hv,hst,hsz',hdis,hdlo⟩,hpl⟩ hlt hsz hnL hx01 hD1 hD1l hCD hG
  have hpl':pre.length<1000000:=by
   have:=(List.getElem?_eq_some_iff.1 hG.at_).1
   omega
  have hb3:=Blk.new W1 54 x.cells
  have hx3:Ext W1 (W1.alloc (.cells x.cells 54)):=(Ext.refl W1).alloc _ _
  have HB3:=Lib.hid hb3
  have HX3:=Lib.hid hx3
  have HI:=Lib.hid (show QfV w1 (w.heap.size+1+1) pre (fun b=>b=w.heap.size+1+1∨s.row=some b) D W0' from ⟨⟨s,rfl,hblk,hown⟩,hv,hst,hsz',hdis,hdlo⟩)
  have HBLK:=Lib.hid hblk
  have HOWN:=Lib.hid hown
  have HX01:=Lib.hid hx01
  have HD1:=Lib.hid hD1
  have HD1L:=Lib.hid hD1l
  have HCD:=Lib.hid hCD
  have HV:=Lib.hid hG.val
  clear hb3 hx3 hblk hown hv hst hdis hdlo hx01 hD1 hD1l hCD hG hnL hlt
  gi_wp2_with fail
  refine ⟨HX3.out,fun W3 k3=>?_⟩
  have hs1W:=HX01.out.size
  have h13:St (fun b=>b=w1.heap.size+1) W1 W3:=(HX3.out.st _).trans k3
  have h03:St (fun b=>D b∨b=w1.heap.size+1) W0' W3:=(HX01.out.mono fun i _ hi=>.inl hi).trans (h13.mono fun i _ hi=>.inr hi)
  have hbv:=k3.blk HB3.out (by omega)
  obtain ⟨c0,c1,c2,c3,c4,c5,c6,c7,c8,c9,c10,c11,c12,c13,c14⟩:=hbv.c15
  have lv:=hbv.lt
  have hrow0:∀ b,s.row=some b→w1.heap.size+2≤b∧b<W0'.heap.size:=fun b hb=>Qac HOWN.out hb
  have hnd:∀ b,(b=w.heap.size+1+1∨s.row=some b)→¬(D b∨b=w1.heap.size+1):=fun b hb e=>e.elim (HI.out.dis b hb) (fun e=>by
   rcases hb with h | h
   ·omega
   have:=(hrow0 b h).1;omega)
  have hL3:=h03.blk HBLK.out (hnd _ (.inl rfl))
  have cL:W3.cell? ⟨w.heap.size+1+1,0,none⟩=some (.slice s.a pre.length s.c):=hL3.cell 0
  have fL:=hL3.frozen 0
  have lL:=hL3.lt
  have hx34:Ext W3 (W3.alloc (.cells x.cells 54)):=(Ext.refl W3).alloc _ _
  have hown4:=Qad (Qad HOWN.out h03.agree fun b hb=>⟨(hrow0 b hb).2,hnd b (.inr hb)⟩) (hx34.agree fun b (hb:b<W3.heap.size)=>hb) (fun b hb=>by have:=(hrow0 b hb).2;have:=h03.size;omega)
  have h63:pre.length+1≤maxLen:=by unfold maxLen;omega
  have hby:(pre.length+1)*208≤140737488355328:=by omega
  have hs03:=h03.size
  have hbase:w1.heap.size+2≤(W3.alloc (.cells x.cells 54)).heap.size:=by rw [World.size_alloc];omega
  have HV3:=Lib.hid ((HV.out.agree (h13.agree.mono fun b hb=>⟨hb.2.1,fun e=>hb.2.2 (.inr (.inr e))⟩)).mono (G:=fun b=>w1.heap.size+2≤b∧b<W3.heap.size∧¬(D1 b∨((b=w.heap.size+1+1∨s.row=some b)∨b=w1.heap.size+1))) fun b hb=>⟨hb.1,Nat.lt_of_lt_of_le hb.2.1 h13.size,hb.2.2⟩)
  have hs13:=h13.size
  have H03:=Lib.hid h03
  have HX34:=Lib.hid hx34
  have HOWN4:=Lib.hid hown4
  have HBN:=Lib.hid (Blk.new W3 54 x.cells)
  have hneL:s.row≠some (w.heap.size+1+1):=fun e=>by have:=(hrow0 _ e).1;omega
  have fLX:=Lib.hid ((hx34.frozen (o:=0) lL).trans fL)
  have HD13:=Lib.hid (show ∀ b,D1 b→w1.heap.size+2≤b∧b<W3.heap.size from fun b hb=>⟨(HD1L.out b hb).1,Nat.lt_of_lt_of_le (HD1L.out b hb).2 hs13⟩)
  have hneW:¬w.heap.size+1+1=W3.heap.size:=by omega
  clear k3 h03 h13 hbv hL3 hx34 hown4 hnd fL
  gi_wp2_with (gi_at_builtin;refine Qck _ rfl (.tmp 11) (.tmp 13) 78 rfl (w1.heap.size+2) 54 i0 _ 15 208 Tryz.underlying78 hi hz0 hz1 hz2 rfl (by decide) s pre.length (QbF pre) rfl HOWN4.out (fun b=>b=W3.heap.size) ⟨some ⟨W3.heap.size,0,none⟩,1⟩ 1 x.cells.toList rfl (Rd.block HBN.out (by decide) rfl) (Qle x) h63 hby hbase ?_;intro s3 w5 hown5 hwr5 hs5;have h5:=hwr5.cell0 (o:=0) HX34.out hneL lL;have cL5:w5.cell? ⟨w.heap.size+1+1,0,none⟩=some (.slice s.a pre.length s.c):=h5.1.trans cL;have lL5:=h5.2;have fL5:w5.frozen? ⟨w.heap.size+1+1,0,none⟩=false:=(hwr5.fz _ _).trans (fLX.out);have HO5:=Lib.hid hown5;have HW5:=Lib.hid hwr5;have HS5:=Lib.hid hs5;clear hown5 hwr5 hs5 h5)
  obtain ⟨e1,e2,e3,e4⟩:=Qlk hL1 HI.out HBLK.out HOWN.out H03.out HD1.out HD13.out HCD.out HV3.out HX34.out HO5.out HW5.out HS5.out
  exact ⟨_,⟨e1,by rw [List.length_append,List.length_singleton];omega⟩,e2,e3,e4⟩
 rintro D xs C Di W5 W hD hS ⟨⟨⟨s,rfl,hblk,hown⟩,hv,hst,hsz',hdis,hdlo⟩,hpl⟩ hx5 hDi hDk
 have hrow0:∀ b,s.row=some b→w1.heap.size+2≤b∧b<W5.heap.size:=fun b hb=>Qac hown hb
 have hnl:¬(Di (w.heap.size+1+1)∨w.heap.size+1+1=w1.heap.size+1):=fun e=>e.elim (hdis _ (.inl rfl)) (by omega)
 have hL5:=hx5.blk hblk hnl
 have cL:W.cell? ⟨w.heap.size+1+1,0,none⟩=some (.slice s.a xs.length s.c):=hL5.cell 0
 have lL:=hL5.lt
 have hDl:=(Array.getElem?_eq_some_iff.1 hDk).1
 have hk':St (fun b=>b=D) W (W.putObj D (.deferred none)):=St.put hDk rfl rfl
 have hs5:=hx5.size
 have hsk:=hk'.size
 have hall':St (fun b=>Di b∨b=w1.heap.size+1∨b=D) W5 (W.putObj D (.deferred none)):=(hx5.mono (G:=fun b=>Di b∨b=w1.heap.size+1∨b=D) fun i _ hi=>hi.elim .inl fun h=>.inr (.inl h)).trans (hk'.mono fun i _ hi=>.inr (.inr hi))
 have hfin:Qfa al w (.returned (.slice s.a xs.length s.c)) (W.putObj D (.deferred none)):=by
  refine ⟨s,xs,rfl,hS,?_,?_,fun x hx=>?_,by omega⟩
  ·refine (HX1.out.step hst (fun b hb=>by omega)).step hall' fun b hb=>?_
   have:=HX1.out.size
   rcases hb with h | h | h
   ·have:=hDi b h;omega
   ·omega
   omega
  ·have ho:=Qad hown hall'.agree fun b hb=>⟨(hrow0 b hb).2,fun e=>by
    rcases e with e | e | e
    ·exact hdis b (.inr hb) e
    ·have:=(hrow0 b hb).1;omega
    have:=(hrow0 b hb).1;omega⟩
   exact (Rd.Qav ho).mono fun b hb=>⟨by have:=hb.1;have:=HX1.out.size;omega,hb.2⟩
  exact ((hv x hx).agree (hall'.agree.mono fun b hb=>⟨hb.2.1,fun e=>by
   rcases e with e | e | e
   ·exact hb.2.2.1 e
   ·have:=hb.1;omega
   have:=hb.1;omega⟩)).mono fun b hb=>⟨by have:=hb.1;have:=HX1.out.size;omega,Nat.lt_of_lt_of_le hb.2.1 (Nat.le_trans hs5 hsk)⟩
 have HFIN:=Lib.hid hfin
 have HDK:=Lib.hid hDk
 clear hblk hown hv hst hdis hdlo hx5 hDi hDk hk' hall' hfin hL5 hS
 gi_wp2_with fail
 refine ⟨by simp,.inl ⟨_,_,rfl,run_takeDeferred HDK.out,?_⟩⟩
 refine ⟨.slice s.a xs.length s.c,?_,HFIN.out⟩
 simp [results,Tryz.f47,go_sem]
end Go.Proofs.YtohajcflklejjaaGreat
namespace Go.Proofs.YtohajcflklejjaaGreat
open Go.RowKit Go.Shelf
set_option linter.unusedVariables false
set_option linter.unusedSimpArgs false
def Qnj (tm:Array Value):List (Nat × Value)→Array Value
 | []=>tm
 | (i,v) :: l=>Qnj (tm.setIfInBounds i v) l
theorem QjS {P:Program} {c:Code} {Q:Exit→Act→World→Prop} {a:Act} {w:World} (Rw:World→Nat→Nat→Prop) (ds:List Nat) (i6 i7:Nat)
  (h1:c.wp P (Qoh fun a' w'=>∃ b6 b7,Rw w' b6 b7∧a'.defers=a.defers∧a'.tmps=Qnj a.tmps ((ds.map fun d=>(d,a'.tmps.getD d undef))++[(i6,.pointer (some ⟨b6,0,none⟩)),(i7,.pointer (some ⟨b7,0,none⟩))])) a w)
  (h2:∀ (w':World) (b6 b7:Nat) (vs:Nat→Value),Rw w' b6 b7→Q .normal { tmps:=Qnj a.tmps ((ds.map fun d=>(d,vs d))++[(i6,.pointer (some ⟨b6,0,none⟩)),(i7,.pointer (some ⟨b7,0,none⟩))]),defers:=a.defers } w'):c.wp P Q a w:=
 wp_mono h1 fun e a' w' h=>by
  cases e with
  | normal=>
    obtain ⟨b6,b7,hr,hd,ht⟩:=h
    have:=h2 w' b6 b7 (fun d=>a'.tmps.getD d undef) hr
    rw [←ht,←hd] at this
    exact this
  | _=>exact h.elim
theorem QgN (w:World) (t0 t1:TypeId) (c0 c1:Array Value):Blk ((w.alloc (.cells c0 t0)).alloc (.cells c1 t1)) (w.heap.size+1) t1 c1:=by
 have:=Blk.new (w.alloc (.cells c0 t0)) t1 c1
 rwa [World.size_alloc] at this
theorem CS.at {w:World} {F:Nat→Prop} {s:Sl} {xs:List CE} (h:CS w F s xs) {i:Nat} {x:CE} (hx:xs[i]? = some x) :
  ∃ b o,s.a=some ⟨b,o,none⟩∧F b∧xs.length≤s.c∧s.c≤maxLen∧CR w F x∧∀ c u,x.cells.toList[c]? = some u→w.cell? ⟨b,o+i*15+c,none⟩=some u:=by
 obtain ⟨b,o,h1,h2,h3⟩:=h.rd
 have hi:i<xs.length:=(List.getElem?_eq_some_iff.1 hx).1
 obtain ⟨e1,e2,e3⟩:=h1.eq (by omega)
 refine ⟨b,o,e1,h1.fits (by omega),e2,e3,h.vals x (List.mem_of_getElem? hx),fun c u hu=>?_⟩
 rw [Nat.add_assoc]
 refine h3 _ u ?_
 have hc:c<15:=(List.getElem?_eq_some_iff.1 hu).1
 have hsp:QbF xs=QbF (xs.take i)++(x.cells.toList++QbF (xs.drop (i+1))):=by
  have e:xs=xs.take i++x :: xs.drop (i+1):=by
   obtain ⟨h1,h2⟩:=List.getElem?_eq_some_iff.1 hx
   conv=>lhs;rw [←List.take_append_drop i xs,List.drop_eq_getElem_cons h1,h2]
  conv=>lhs;rw [e]
  simp [QbF]
 have hl:(QbF (xs.take i)).length=i*15:=by rw [Qlv,List.length_take,Nat.min_eq_left (Nat.le_of_lt hi)]
 rw [hsp,List.getElem?_append_right (by omega),hl,Nat.add_sub_cancel_left,List.getElem?_append_left (by simpa using hc)]
 exact hu
theorem QkB {w:World} {s s':Sl} {xs ys:List CE} (hs:CS w (Lt w.heap.size) s xs) (hs':CS w (Lt w.heap.size) s' ys) (he:xs.map CE.c=ys.map CE.c) :
  Calls Tryz.prog 61 #[.slice s.a xs.length s.c,.slice s'.a ys.length s'.c] w fun e w'=>e=.returned (.bool true)∧Ext w w':=by
 have hf:=hs.few
 have hnl:xs.length≤140737488355328:=by omega
 have hlen:xs.length=ys.length:=by have:=congrArg List.length he;simpa using this
 have HS:=Lib.hid hs
 have HS':=Lib.hid hs'
 have HE:=Lib.hid he
 have HLEN:=Lib.hid hlen
 rw [←hlen]
 clear hs hs' he hlen hf
 go_enter Tryz.func61,Tryz.ntmps61
 go_wp2_with fail
 go_loopw [5] (fun q wr=>∃ j:Nat,q=.int .i64 j∧j≤xs.length∧Ext w wr) (fun q _=>xs.length - (intOf q).toNat)
 case atStart=>exact ⟨0,rfl,Nat.zero_le _,Ext.refl w⟩
 obtain ⟨j,rfl,hjl,hx⟩:=hrel
 have HXS:=Lib.hid hx
 by_cases h1:j<xs.length
 ·have g1:(j:Int)<(xs.length:Int):=by omega
  obtain ⟨x,hxx⟩:∃ x,xs[j]? = some x:=⟨_,List.getElem?_eq_getElem h1⟩
  obtain ⟨y,hyy⟩:∃ y,ys[j]? = some y:=⟨_,List.getElem?_eq_getElem (by rw [←HLEN.out];exact h1)⟩
  have hxy:x.c=y.c:=by
   have h1:(xs.map CE.c)[j]? = some x.c:=by rw [List.getElem?_map,hxx];rfl
   have h2:(ys.map CE.c)[j]? = some y.c:=by rw [List.getElem?_map,hyy];rfl
   rw [HE.out,h2] at h1
   exact (Option.some.inj h1).symm
  obtain ⟨b,o,hg,lb,hc,hcm,hcr,hcl⟩:=HS.out.at hxx
  obtain ⟨b',o',hg',lb',hc',hcm',hcr',hcl'⟩:=HS'.out.at hyy
  rw [←HLEN.out] at hc'
  obtain ⟨⟨k,had,was,has,is_⟩,slw,sow,sli,soi⟩:=x
  obtain ⟨yc,yslw,ysow,ysli,ysoi⟩:=y
  dsimp only at hxy
  subst hxy
  obtain ⟨sa,sc⟩:=s
  obtain ⟨sa',sc'⟩:=s'
  dsimp only at hg hg' hc hc' hcm hcm'
  subst hg hg'
  have lb:b<wr.heap.size:=Nat.lt_of_lt_of_le lb hx.size
  have lb':b'<wr.heap.size:=Nat.lt_of_lt_of_le lb' hx.size
  have hag:Agree (Lt w.heap.size) w wr:=hx.agree fun _ h=>h
  have hW0:∀ W,Ext wr W→Agree (Lt w.heap.size) w W:=fun W hW=>hag.trans (hW.agree fun b hb=>Nat.lt_of_lt_of_le hb hx.size)
  have hcw:∀ W,Ext wr W→Calls Tryz.prog 60 #[Qb5 was slw sow,Qb5 was yslw ysow] W (Qbe 0 W):=fun W hW=>by
   have:=Qdz _ was was (Nat.le_refl _) W _ _ _ _ ((hcr.was.agree (hW0 W hW)).mono fun i hi=>Nat.lt_of_lt_of_le hi (Nat.le_trans hx.size hW.size)) ((hcr'.was.agree (hW0 W hW)).mono fun i hi=>Nat.lt_of_lt_of_le hi (Nat.le_trans hx.size hW.size))
   rwa [Qb6] at this
  have hci:∀ W,Ext wr W→Calls Tryz.prog 60 #[Qb5 is_ sli soi,Qb5 is_ ysli ysoi] W (Qbe 0 W):=fun W hW=>by
   have:=Qdz _ is_ is_ (Nat.le_refl _) W _ _ _ _ ((hcr.is_.agree (hW0 W hW)).mono fun i hi=>Nat.lt_of_lt_of_le hi (Nat.le_trans hx.size hW.size)) ((hcr'.is_.agree (hW0 W hW)).mono fun i hi=>Nat.lt_of_lt_of_le hi (Nat.le_trans hx.size hW.size))
   rwa [Qb6] at this
  have hsx:∀ c u,(CE.cells ⟨⟨k,had,was,has,is_⟩,slw,sow,sli,soi⟩).toList[c]? = some u→wr.cell? ⟨b,o+j*15+c,none⟩=some u:=fun c u hu=>(hx.cell (by assumption)).trans (hcl c u hu)
  have hsy:∀ c u,(CE.cells ⟨⟨k,had,was,has,is_⟩,yslw,ysow,ysli,ysoi⟩).toList[c]? = some u→wr.cell? ⟨b',o'+j*15+c,none⟩=some u:=fun c u hu=>(hx.cell (by assumption)).trans (hcl' c u hu)
  have v0:wr.cell? ⟨b,o+j*15,none⟩=some (.string k):=hsx 0 _ rfl
  have v1:wr.cell? ⟨b,o+j*15+1,none⟩=some (.bool had):=hsx 1 _ rfl
  have v2:wr.cell? ⟨b,o+j*15+2,none⟩=some (.int .i64 was.kind):=hsx 2 _ rfl
  have v3:wr.cell? ⟨b,o+j*15+3,none⟩=some (.bool was.b):=hsx 3 _ rfl
  have v4:wr.cell? ⟨b,o+j*15+4,none⟩=some (.int .i64 was.i):=hsx 4 _ rfl
  have v5:wr.cell? ⟨b,o+j*15+5,none⟩=some (.string was.t):=hsx 5 _ rfl
  have v6:wr.cell? ⟨b,o+j*15+6,none⟩=some (.slice slw.a was.l.length slw.c):=hsx 6 _ rfl
  have v7:wr.cell? ⟨b,o+j*15+7,none⟩=some (.slice sow.a was.ok.length sow.c):=hsx 7 _ rfl
  have v8:wr.cell? ⟨b,o+j*15+8,none⟩=some (.bool has):=hsx 8 _ rfl
  have v9:wr.cell? ⟨b,o+j*15+9,none⟩=some (.int .i64 is_.kind):=hsx 9 _ rfl
  have v10:wr.cell? ⟨b,o+j*15+10,none⟩=some (.bool is_.b):=hsx 10 _ rfl
  have v11:wr.cell? ⟨b,o+j*15+11,none⟩=some (.int .i64 is_.i):=hsx 11 _ rfl
  have v12:wr.cell? ⟨b,o+j*15+12,none⟩=some (.string is_.t):=hsx 12 _ rfl
  have v13:wr.cell? ⟨b,o+j*15+13,none⟩=some (.slice sli.a is_.l.length sli.c):=hsx 13 _ rfl
  have v14:wr.cell? ⟨b,o+j*15+14,none⟩=some (.slice soi.a is_.ok.length soi.c):=hsx 14 _ rfl
  have u0:wr.cell? ⟨b',o'+j*15,none⟩=some (.string k):=hsy 0 _ rfl
  have u1:wr.cell? ⟨b',o'+j*15+1,none⟩=some (.bool had):=hsy 1 _ rfl
  have u2:wr.cell? ⟨b',o'+j*15+2,none⟩=some (.int .i64 was.kind):=hsy 2 _ rfl
  have u3:wr.cell? ⟨b',o'+j*15+3,none⟩=some (.bool was.b):=hsy 3 _ rfl
  have u4:wr.cell? ⟨b',o'+j*15+4,none⟩=some (.int .i64 was.i):=hsy 4 _ rfl
  have u5:wr.cell? ⟨b',o'+j*15+5,none⟩=some (.string was.t):=hsy 5 _ rfl
  have u6:wr.cell? ⟨b',o'+j*15+6,none⟩=some (.slice yslw.a was.l.length yslw.c):=hsy 6 _ rfl
  have u7:wr.cell? ⟨b',o'+j*15+7,none⟩=some (.slice ysow.a was.ok.length ysow.c):=hsy 7 _ rfl
  have u8:wr.cell? ⟨b',o'+j*15+8,none⟩=some (.bool has):=hsy 8 _ rfl
  have u9:wr.cell? ⟨b',o'+j*15+9,none⟩=some (.int .i64 is_.kind):=hsy 9 _ rfl
  have u10:wr.cell? ⟨b',o'+j*15+10,none⟩=some (.bool is_.b):=hsy 10 _ rfl
  have u11:wr.cell? ⟨b',o'+j*15+11,none⟩=some (.int .i64 is_.i):=hsy 11 _ rfl
  have u12:wr.cell? ⟨b',o'+j*15+12,none⟩=some (.string is_.t):=hsy 12 _ rfl
  have u13:wr.cell? ⟨b',o'+j*15+13,none⟩=some (.slice ysli.a is_.l.length ysli.c):=hsy 13 _ rfl
  have u14:wr.cell? ⟨b',o'+j*15+14,none⟩=some (.slice ysoi.a is_.ok.length ysoi.c):=hsy 14 _ rfl
  have HSV:=Lib.hid (show ∀ W,Ext wr W→W.cell? ⟨b,o+j*15,none⟩=some (.string k)∧W.cell? ⟨b,o+j*15+1,none⟩=some (.bool had)∧W.cell? ⟨b,o+j*15+2,none⟩=some (.int .i64 was.kind)∧W.cell? ⟨b,o+j*15+3,none⟩=some (.bool was.b)∧W.cell? ⟨b,o+j*15+4,none⟩=some (.int .i64 was.i)∧W.cell? ⟨b,o+j*15+5,none⟩=some (.string was.t)∧W.cell? ⟨b,o+j*15+6,none⟩=some (.slice slw.a was.l.length slw.c)∧W.cell? ⟨b,o+j*15+7,none⟩=some (.slice sow.a was.ok.length sow.c)∧W.cell? ⟨b,o+j*15+8,none⟩=some (.bool has)∧W.cell? ⟨b,o+j*15+9,none⟩=some (.int .i64 is_.kind)∧W.cell? ⟨b,o+j*15+10,none⟩=some (.bool is_.b)∧W.cell? ⟨b,o+j*15+11,none⟩=some (.int .i64 is_.i)∧W.cell? ⟨b,o+j*15+12,none⟩=some (.string is_.t)∧W.cell? ⟨b,o+j*15+13,none⟩=some (.slice sli.a is_.l.length sli.c)∧W.cell? ⟨b,o+j*15+14,none⟩=some (.slice soi.a is_.ok.length soi.c) from fun W hW=>⟨(hW.cell lb).trans v0,(hW.cell lb).trans v1,(hW.cell lb).trans v2,(hW.cell lb).trans v3,(hW.cell lb).trans v4,(hW.cell lb).trans v5,(hW.cell lb).trans v6,(hW.cell lb).trans v7,(hW.cell lb).trans v8,(hW.cell lb).trans v9,(hW.cell lb).trans v10,(hW.cell lb).trans v11,(hW.cell lb).trans v12,(hW.cell lb).trans v13,(hW.cell lb).trans v14⟩)
  have HSU:=Lib.hid (show ∀ W,Ext wr W→W.cell? ⟨b',o'+j*15,none⟩=some (.string k)∧W.cell? ⟨b',o'+j*15+1,none⟩=some (.bool had)∧W.cell? ⟨b',o'+j*15+2,none⟩=some (.int .i64 was.kind)∧W.cell? ⟨b',o'+j*15+3,none⟩=some (.bool was.b)∧W.cell? ⟨b',o'+j*15+4,none⟩=some (.int .i64 was.i)∧W.cell? ⟨b',o'+j*15+5,none⟩=some (.string was.t)∧W.cell? ⟨b',o'+j*15+6,none⟩=some (.slice yslw.a was.l.length yslw.c)∧W.cell? ⟨b',o'+j*15+7,none⟩=some (.slice ysow.a was.ok.length ysow.c)∧W.cell? ⟨b',o'+j*15+8,none⟩=some (.bool has)∧W.cell? ⟨b',o'+j*15+9,none⟩=some (.int .i64 is_.kind)∧W.cell? ⟨b',o'+j*15+10,none⟩=some (.bool is_.b)∧W.cell? ⟨b',o'+j*15+11,none⟩=some (.int .i64 is_.i)∧W.cell? ⟨b',o'+j*15+12,none⟩=some (.string is_.t)∧W.cell? ⟨b',o'+j*15+13,none⟩=some (.slice ysli.a is_.l.length ysli.c)∧W.cell? ⟨b',o'+j*15+14,none⟩=some (.slice ysoi.a is_.ok.length ysoi.c) from fun W hW=>⟨(hW.cell lb').trans u0,(hW.cell lb').trans u1,(hW.cell lb').trans u2,(hW.cell lb').trans u3,(hW.cell lb').trans u4,(hW.cell lb').trans u5,(hW.cell lb').trans u6,(hW.cell lb').trans u7,(hW.cell lb').trans u8,(hW.cell lb').trans u9,(hW.cell lb').trans u10,(hW.cell lb').trans u11,(hW.cell lb').trans u12,(hW.cell lb').trans u13,(hW.cell lb').trans u14⟩)
  have HCW:=Lib.hid hcw
  have HCI:=Lib.hid hci
  have hkk:(k.toList != k.toList)=false:=by simp
  clear hx hxx hyy hcr hcr' hcl hcl' hag hW0 hcw hci hsx hsy v0 v1 v2 v3 v4 v5 v6 v7 v8 v9 v10 v11 v12 v13 v14 u0 u1 u2 u3 u4 u5 u6 u7 u8 u9 u10 u11 u12 u13 u14
  go_wp2_with fail
  refine QjS (fun w' b6 b7=>Ext wr w'∧Blk w' b6 54 #[.string k,.bool had,.int .i64 was.kind,.bool was.b,.int .i64 was.i,.string was.t,.slice slw.a was.l.length slw.c,.slice sow.a was.ok.length sow.c,.bool has,.int .i64 is_.kind,.bool is_.b,.int .i64 is_.i,.string is_.t,.slice sli.a is_.l.length sli.c,.slice soi.a is_.ok.length soi.c]∧Blk w' b7 54 #[.string k,.bool had,.int .i64 was.kind,.bool was.b,.int .i64 was.i,.string was.t,.slice yslw.a was.l.length yslw.c,.slice ysow.a was.ok.length ysow.c,.bool has,.int .i64 is_.kind,.bool is_.b,.int .i64 is_.i,.string is_.t,.slice ysli.a is_.l.length ysli.c,.slice ysoi.a is_.ok.length ysoi.c]) [19,20,21,22,23,24,25,26] 6 7 ?_ ?_
  ·skip
   refine wp_region_held_drew (S:=(fun w'=>Ext wr w')) (by kernel_rfl) (((Ext.refl wr).drew)) (fun hHeld=>?_)
   refine Qah 0 (some 19) hHeld ?_
   refine Qah 1 (some 20) hHeld ?_
   refine Qah 2 (some 21) hHeld ?_
   refine Qab 3 (some 22) HSV hHeld ?_
   refine Qah 4 (some 23) hHeld ?_
   refine Qah 5 (some 24) hHeld ?_
   refine Qah 6 (some 25) hHeld ?_
   refine Qab 7 (some 26) HSU hHeld ?_
   refine QaL (i:=8) (j:=9) (by kernel_rfl) rfl rfl (by rfl) (by rfl) (fun K hK=>?_) (fun K hK=>?_)
   ·go_simp
    skip
    refine hK.out _ _ ((by first|exact (((Ext.refl _).drew).alloc _ _).alloc _ _|exact ((Ext.refl _).drew).alloc _ _)) (fun hHeld=>?_)
    clear hK K
    try simp only [Act.put,List.setIfInBounds_toArray,List.set_cons_zero,List.set_cons_succ]
    refine Qaa (i:=9) (by kernel_rfl) rfl (by rfl) (fun K hK=>?_)
    go_simp
    skip
    refine hK.out _ _ ((by first|exact (((Ext.refl _).drew).alloc _ _).alloc _ _|exact ((Ext.refl _).drew).alloc _ _)) (fun hHeld=>?_)
    clear hK K
    try simp only [Act.put,List.setIfInBounds_toArray,List.set_cons_zero,List.set_cons_succ]
    refine Qaa (i:=10) (by kernel_rfl) rfl (by rfl) (fun K hK=>?_)
    go_simp
    skip
    refine hK.out _ _ ((by first|exact (((Ext.refl _).drew).alloc _ _).alloc _ _|exact ((Ext.refl _).drew).alloc _ _)) (fun hHeld=>?_)
    clear hK K
    try simp only [Act.put,List.setIfInBounds_toArray,List.set_cons_zero,List.set_cons_succ]
    refine Qaa (i:=11) (by kernel_rfl) rfl (by rfl) (fun K hK=>?_)
    go_simp
    skip
    refine hK.out _ _ ((by first|exact (((Ext.refl _).drew).alloc _ _).alloc _ _|exact ((Ext.refl _).drew).alloc _ _)) (fun hHeld=>?_)
    clear hK K
    try simp only [Act.put,List.setIfInBounds_toArray,List.set_cons_zero,List.set_cons_succ]
    refine wpAnyH_done (by kernel_rfl) ?_ _
    refine QdI ⟨wr.heap.size,wr.heap.size+1,⟨by first|exact (((Ext.refl _).drew).alloc _ _).alloc _ _|exact ((Ext.refl _).drew).alloc _ _,(Blk.new wr.drew _ _).ext ((Ext.refl _).alloc _ _),QgN wr.drew _ _ _ _⟩,by kernel_rfl,?_⟩
    simp only [Qnj,List.map_cons,List.map_nil,List.cons_append,List.nil_append,List.setIfInBounds_toArray,List.set_cons_zero,List.set_cons_succ]
    kernel_rfl
   go_simp
   skip
   refine hK.out _ _ ((by first|exact (((Ext.refl _).drew).alloc _ _).alloc _ _|exact ((Ext.refl _).drew).alloc _ _)) (fun hHeld=>?_)
   clear hK K
   try simp only [Act.put,List.setIfInBounds_toArray,List.set_cons_zero,List.set_cons_succ]
   refine Qaa (i:=8) (by kernel_rfl) rfl (by rfl) (fun K hK=>?_)
   go_simp
   skip
   refine hK.out _ _ ((by first|exact (((Ext.refl _).drew).alloc _ _).alloc _ _|exact ((Ext.refl _).drew).alloc _ _)) (fun hHeld=>?_)
   clear hK K
   try simp only [Act.put,List.setIfInBounds_toArray,List.set_cons_zero,List.set_cons_succ]
   refine Qaa (i:=10) (by kernel_rfl) rfl (by rfl) (fun K hK=>?_)
   go_simp
   skip
   refine hK.out _ _ ((by first|exact (((Ext.refl _).drew).alloc _ _).alloc _ _|exact ((Ext.refl _).drew).alloc _ _)) (fun hHeld=>?_)
   clear hK K
   try simp only [Act.put,List.setIfInBounds_toArray,List.set_cons_zero,List.set_cons_succ]
   refine Qaa (i:=11) (by kernel_rfl) rfl (by rfl) (fun K hK=>?_)
   go_simp
   skip
   refine hK.out _ _ ((by first|exact (((Ext.refl _).drew).alloc _ _).alloc _ _|exact ((Ext.refl _).drew).alloc _ _)) (fun hHeld=>?_)
   clear hK K
   try simp only [Act.put,List.setIfInBounds_toArray,List.set_cons_zero,List.set_cons_succ]
   refine wpAnyH_done (by kernel_rfl) ?_ _
   refine QdI ⟨wr.heap.size+1,wr.heap.size,⟨by first|exact (((Ext.refl _).drew).alloc _ _).alloc _ _|exact ((Ext.refl _).drew).alloc _ _,QgN wr.drew _ _ _ _,(Blk.new wr.drew _ _).ext ((Ext.refl _).alloc _ _)⟩,by kernel_rfl,?_⟩
   simp only [Qnj,List.map_cons,List.map_nil,List.cons_append,List.nil_append,List.setIfInBounds_toArray,List.set_cons_zero,List.set_cons_succ]
   kernel_rfl
  rintro w6 b6 b7 uu ⟨hx6,hb6,hb7⟩
  simp only [Qnj,List.map_cons,List.map_nil,List.cons_append,List.nil_append,List.setIfInBounds_toArray,List.set_cons_zero,List.set_cons_succ]
  obtain ⟨r0,r1,r2,r3,r4,r5,r6,r7,r8,r9,r10,r11,r12,r13,r14⟩:=hb6.c15
  obtain ⟨q0,q1,q2,q3,q4,q5,q6,q7,q8,q9,q10,q11,q12,q13,q14⟩:=hb7.c15
  have l6:=hb6.lt
  have l7:=hb7.lt
  have HX6:=Lib.hid hx6
  have HB6:=Lib.hid hb6
  have HB7:=Lib.hid hb7
  have HCW:=Lib.hid (fun W (hW:Ext w6 W)=>HCW.out W (hx6.trans hW))
  have HCI:=Lib.hid (fun W (hW:Ext w6 W)=>HCI.out W (hx6.trans hW))
  clear hx6 hb6 hb7 HSV HSU
  cases had
  ·skip
   cases has
   ·skip
    go_wp2_with fail
    go_roundw
    case rel=>exact ⟨j+1,by go_num,h1,HXS.out.trans HX6.out⟩
    simp [intOf];omega
   skip
   go_wp2_with fail
   refine (HCI.out _ (Ext.refl _)).mono ?_
   rintro e w8 ⟨rfl,hx8⟩
   have HX8:=Lib.hid hx8
   clear hx8
   go_wp2_with fail
   go_roundw
   case rel=>exact ⟨j+1,by go_num,h1,(HXS.out.trans HX6.out).trans HX8.out⟩
   simp [intOf];omega
  skip
  cases has
  ·skip
   go_wp2_with fail
   refine (HCW.out _ (Ext.refl _)).mono ?_
   rintro e w7 ⟨rfl,hx7⟩
   have HX7:=Lib.hid hx7
   obtain ⟨d0,d1,d2,d3,d4,d5,d6,d7,d8,d9,d10,d11,d12,d13,d14⟩:=(HB6.out.ext hx7).c15
   obtain ⟨f0,f1,f2,f3,f4,f5,f6,f7,f8,f9,f10,f11,f12,f13,f14⟩:=(HB7.out.ext hx7).c15
   clear hx7 r0 r1 r2 r3 r4 r5 r6 r7 r8 r9 r10 r11 r12 r13 r14 q0 q1 q2 q3 q4 q5 q6 q7 q8 q9 q10 q11 q12 q13 q14
   go_wp2_with fail
   go_roundw
   case rel=>exact ⟨j+1,by go_num,h1,(HXS.out.trans HX6.out).trans HX7.out⟩
   simp [intOf];omega
  skip
  go_wp2_with fail
  refine (HCW.out _ (Ext.refl _)).mono ?_
  rintro e w7 ⟨rfl,hx7⟩
  have HX7:=Lib.hid hx7
  obtain ⟨d0,d1,d2,d3,d4,d5,d6,d7,d8,d9,d10,d11,d12,d13,d14⟩:=(HB6.out.ext hx7).c15
  obtain ⟨f0,f1,f2,f3,f4,f5,f6,f7,f8,f9,f10,f11,f12,f13,f14⟩:=(HB7.out.ext hx7).c15
  clear hx7 r0 r1 r2 r3 r4 r5 r6 r7 r8 r9 r10 r11 r12 r13 r14 q0 q1 q2 q3 q4 q5 q6 q7 q8 q9 q10 q11 q12 q13 q14
  go_wp2_with fail
  refine (HCI.out _ (HX7.out)).mono ?_
  rintro e w8 ⟨rfl,hx8⟩
  have HX8:=Lib.hid hx8
  clear hx8
  go_wp2_with fail
  go_roundw
  case rel=>exact ⟨j+1,by go_num,h1,((HXS.out.trans HX6.out).trans HX7.out).trans HX8.out⟩
  simp [intOf];omega
 obtain rfl:j=xs.length:=by omega
 clear hx
 go_wp2_with fail
 go_ret
 exact ⟨rfl,HXS.out⟩
end Go.Proofs.YtohajcflklejjaaGreat
namespace Go.Proofs.YtohajcflklejjaaGreat
open Go.RowKit
set_option linter.unusedVariables false
set_option linter.unusedSimpArgs false
def Qmz (F:Nat→Prop) (o:Option Val) (w:World) (e:Ending) (w':World):Prop:=
 ∃ sl so,e=.returned (.tuple #[Qb5 (o.getD zeroV) sl so,.bool o.isSome])∧Ext w w'∧RV w' F (o.getD zeroV) sl so
theorem Qpj {W:World} {b:Nat} {t:TypeId} {a0 a1 a2 a3 a4 a5 c0 c1 c2 c3 c4 c5:Value} (h:Blk W b t #[a0,a1,a2,a3,a4,a5]):Blk ((((((W.setCell ⟨b,0,none⟩ c0).setCell ⟨b,1,none⟩ c1).setCell ⟨b,2,none⟩ c2).setCell ⟨b,3,none⟩ c3).setCell ⟨b,4,none⟩ c4).setCell ⟨b,5,none⟩ c5) b t #[c0,c1,c2,c3,c4,c5]:=by
 have h0:Blk _ b t #[c0,a1,a2,a3,a4,a5]:=h.QaN 0 c0
 have h1:Blk _ b t #[c0,c1,a2,a3,a4,a5]:=h0.QaN 1 c1
 have h2:Blk _ b t #[c0,c1,c2,a3,a4,a5]:=h1.QaN 2 c2
 have h3:Blk _ b t #[c0,c1,c2,c3,a4,a5]:=h2.QaN 3 c3
 have h4:Blk _ b t #[c0,c1,c2,c3,c4,a5]:=h3.QaN 4 c4
 have h5:Blk _ b t #[c0,c1,c2,c3,c4,c5]:=h4.QaN 5 c5
 exact h5
theorem Qpm {w W:World} {b:Nat} {c0 c1 c2 c3 c4 c5:Value} (h:Ext w W) (hb:w.heap.size≤b):Ext w ((((((W.setCell ⟨b,0,none⟩ c0).setCell ⟨b,1,none⟩ c1).setCell ⟨b,2,none⟩ c2).setCell ⟨b,3,none⟩ c3).setCell ⟨b,4,none⟩ c4).setCell ⟨b,5,none⟩ c5):=by
 have s:∀ {X:World} (i:Nat) (v:Value),Ext w X→Ext w (X.setCell ⟨b,i,none⟩ v):=fun i v hx=>hx.setCell (p:=⟨b,i,none⟩) hb v
 exact s 5 _ (s 4 _ (s 3 _ (s 2 _ (s 1 _ (s 0 _ (h))))))
theorem QjL {tm:Array Value} {W:World} {b:Nat} {bb:Bool} {c0 c1 c2 c3 c4 c5:Value} (h4:tm.getD 4 undef=.pointer (some ⟨b,0,none⟩)) (h5:tm.getD 5 undef=.bool bb) (hb:Blk W b 44 #[c0,c1,c2,c3,c4,c5]) :
  (results Tryz.f88 tm).run Tryz.prog W=.ok (.tuple #[.agg #[c0,c1,c2,c3,c4,c5],.bool bb]) W:=by
 obtain ⟨r0,r1,r2,r3,r4,r5⟩:=hb.c6
 simp only [Array.getD_eq_getD_getElem?] at h4 h5
 simp [results,Tryz.results88,go_sem,h4,h5,r0,r1,r2,r3,r4,r5]
theorem Qjs {w:World} {F:Nat→Prop} {s:Sl} {xs:List LE} (hs:ES w F s xs) (hF:∀ b,F b→b<w.heap.size) (k:ByteArray) :
  Calls Tryz.prog 88 #[.slice s.a xs.length s.c,.string k] w (Qmz F (QaD (xs.map LE.ent) k) w):=by
 have hf:=hs.few
 have hnl:xs.length≤140737488355328:=by omega
 have HS:=Lib.hid hs
 have HF:=Lib.hid hF
 clear hs hF hf
 go_enter Tryz.func88,Tryz.ntmps88
 go_wp2_with fail
 have hx0:Ext w (w.alloc (.cells #[.int .i64 0,.bool false,.int .i64 0,.string ByteArray.empty,.slice none 0 0,.slice none 0 0] 44)):=(Ext.refl w).alloc _ _
 have HX0:=Lib.hid hx0
 have HB0:=Lib.hid (Blk.new w 44 #[.int .i64 0,.bool false,.int .i64 0,.string ByteArray.empty,.slice none 0 0,.slice none 0 0])
 clear hx0
 go_loopw [6] (fun q wr=>∃ j:Nat,q=.int .i64 j∧j≤xs.length∧QaD (xs.map LE.ent) k=QaD ((xs.map LE.ent).drop j) k∧wr=w.alloc (.cells #[.int .i64 0,.bool false,.int .i64 0,.string ByteArray.empty,.slice none 0 0,.slice none 0 0] 44)) (fun q _=>xs.length - (intOf q).toNat)
 case atStart=>exact ⟨0,rfl,Nat.zero_le _,rfl,rfl⟩
 obtain ⟨j,rfl,hjl,hp,hw⟩:=hrel
 have hb:=HB0.out
 have hx:=HX0.out
 rw [←hw] at hb hx
 have HX:=Lib.hid hx
 have HB:=Lib.hid hb
 have HP:=Lib.hid hp
 have HW:=Lib.hid hw
 obtain ⟨z0,z1,z2,z3,z4,z5⟩:=hb.c6
 have lz:=hb.lt
 have fz:=fun i=>hb.frozen i
 clear hp hw hb hx
 by_cases h1:j<xs.length
 ·have g1:(j:Int)<(xs.length:Int):=by omega
  obtain ⟨x,hxx⟩:∃ x,xs[j]? = some x:=⟨_,List.getElem?_eq_getElem h1⟩
  have hd:(xs.map LE.ent).drop j=x.ent :: (xs.map LE.ent).drop (j+1):=by
   have h2:(xs.map LE.ent)[j]? = some x.ent:=by rw [List.getElem?_map,hxx];rfl
   obtain ⟨h3,h4⟩:=List.getElem?_eq_some_iff.1 h2
   rw [List.drop_eq_getElem_cons h3,h4]
  have hag:Agree F w wr:=HX.out.agree HF.out
  obtain ⟨g,o,hg,lg,hc,hcm,kx,⟨v0,v1,v2,v3,v4,v5⟩,rx,hkm⟩:=(HS.out.agree hag).at hxx
  obtain ⟨sa,sc⟩:=s
  dsimp only at hg hc hcm
  subst hg
  have lgw:=HF.out g lg
  have HD:=Lib.hid hd
  have HR:=Lib.hid rx
  have hne:¬g=w.heap.size:=by omega
  have hne':¬w.heap.size=g:=by omega
  clear hxx hd hag rx
  by_cases hk:x.k=k
  ·have hkb:(x.k.toList == k.toList)=true:=by rw [hk];simp
   have HK:=Lib.hid hk
   clear hk
   go_wp2_with fail
   refine bodyPost_ret (QjL rfl rfl (Qpj HB.out)) rfl ?_
   have hx9:=Qpm (c0:=.int .i64 x.v.kind) (c1:=.bool x.v.b) (c2:=.int .i64 x.v.i) (c3:=.string x.v.t) (c4:=.slice x.sl.a x.v.l.length x.sl.c) (c5:=.slice x.so.a x.v.ok.length x.so.c) HX.out (Nat.le_refl _)
   have he:QaD (xs.map LE.ent) k=some x.v:=by rw [HP.out,HD.out,QaD,if_pos (show x.ent.1=k from HK.out)];rfl
   rw [he]
   refine ⟨x.sl,x.so,rfl,hx9,HR.out.agree ?_⟩
   have hst:St (fun b=>b=w.heap.size) wr _:=(((((((St.refl (fun b=>b=w.heap.size) wr).set (p:=⟨w.heap.size,0,none⟩) (.inr rfl) (.int .i64 x.v.kind)).set (p:=⟨w.heap.size,1,none⟩) (.inr rfl) (.bool x.v.b)).set (p:=⟨w.heap.size,2,none⟩) (.inr rfl) (.int .i64 x.v.i)).set (p:=⟨w.heap.size,3,none⟩) (.inr rfl) (.string x.v.t)).set (p:=⟨w.heap.size,4,none⟩) (.inr rfl) (.slice x.sl.a x.v.l.length x.sl.c)).set (p:=⟨w.heap.size,5,none⟩) (.inr rfl) (.slice x.so.a x.v.ok.length x.so.c))
   exact hst.agree.mono fun i hi=>⟨Nat.lt_of_lt_of_le (HF.out i hi) HX.out.size,fun e=>by have:=HF.out i hi;omega⟩
  have hkb:(x.k.toList == k.toList)=false:=by rw [beq_toList];exact decide_eq_false hk
  have HK:=Lib.hid hk
  clear hk
  go_wp2_with fail
  go_roundw
  case rel=>exact ⟨j+1,by go_num,h1,by rw [HP.out,HD.out,QaD,if_neg (show ¬x.ent.1=k from HK.out)],HW.out⟩
  simp [intOf];omega
 obtain rfl:j=xs.length:=by omega
 go_wp2_with fail
 refine bodyPost_ret (QjL rfl rfl (Qpj HB.out)) rfl ?_
 have hx9:=Qpm (c0:=.int .i64 0) (c1:=.bool false) (c2:=.int .i64 0) (c3:=.string ⟨#[]⟩) (c4:=.slice none 0 0) (c5:=.slice none 0 0) HX.out (Nat.le_refl _)
 have he:QaD (xs.map LE.ent) k=none:=by rw [HP.out,List.drop_eq_nil_of_le (by simp)];rfl
 rw [he]
 exact ⟨Sl.none,Sl.none,rfl,hx9,RV.flat _ _ _ _ _ _ (by decide) (by decide) (by decide)⟩
end Go.Proofs.YtohajcflklejjaaGreat
