/- What the theorem needs of the texts ScanK, ScanQ, KeysEnd, ScanF, ScanS, Known08, DiffP, Curs, CmpW, CmpI, CmpA, LogP, Det, VSame: no condition of its own. -/
import Derived.RangeFuncNested
import Derived.RangeFuncBound
import Derived.RangeFuncCalls
import Derived.RangeFuncLeaves
import Derived.Shelf.Abstract
import Derived.Shelf.RegionOpen
import Derived.OwnWalkIn
import Derived.TacticsInMore
import Derived.LoopNIn
import Derived.LoopIn
import Derived.Laws.IdiomStrings
import Derived.WalkArith
import Derived.WalkMore
import Derived.Lib.Bytealg
import Derived.Test.YtohajcflklejjaaGreatPha
import Derived.Test.YtohajcflklejjaaGreatPhb
import Derived.Test.YtohajcflklejjaaGreatPhc
import Derived.Test.YtohajcflklejjaaGreatPhd
import Derived.Test.YtohajcflklejjaaGreatPhe
set_option maxRecDepth 100000
set_option maxHeartbeats 4000000
namespace Go.Proofs.YtohajcflklejjaaGreat
open Go.RowKit Go.Shelf
set_option linter.unusedVariables false
set_option linter.unusedSimpArgs false
attribute [local go_sem] Oper.semAt_some
abbrev Qn3 (x:LE):Array Value:=#[.string x.k,Qb5 x.v x.sl x.so]
structure QjV (all:List Ent) (pre:List LE) (x:LE) (W0 W1:World):Prop where
 at_:all[pre.length]? = some x.ent
 pre_:pre.map LE.ent=all.take pre.length
 val:RV W1 (In W0.heap.size W1.heap.size) x.v x.sl x.so
 key:x.k.size≤maxLen
def Qa3 (lo hi:ByteArray) (op:Bool) (es all:List Ent) (pre:List LE) (J:List LE→(Nat→Prop)→World→Prop) (Jx:List LE→World→Prop) (C:Nat→Prop) (W:World) (e:Ending) (W':World):Prop:=
 (∃ (new:List LE) (C':Nat→Prop) (W0:World),(e=.returned (.bool true)∨(e=.returned (.bool false)∧∃ x∈es,QhC hi op x.1=true))∧J (pre++new) C' W0∧Ext W0 W'∧new.map LE.ent=QaB lo hi op es∧St C W W'∧∀ b,C' b→C b∨W.heap.size≤b)∨
 (e=.returned (.bool false)∧St C W W'∧∃ pre' W0,Jx pre' W0∧Ext W0 W'∧pre'.map LE.ent <+: all)
theorem QkD {all rest:List Ent} {pre new:List LE} {A:List Ent} {lo hi:ByteArray} {op:Bool} {x:LE} {B:List Ent} (hall:all=pre.map LE.ent++(QaB lo hi op (A++x.ent :: B)++rest)) (hn:new.map LE.ent=QaB lo hi op A) (h1:klt x.k lo=false) (h2:QhC hi op x.k=false) :
  all[(pre++new).length]? = some x.ent∧(pre++new).map LE.ent=all.take (pre++new).length∧(new++[x]).map LE.ent=QaB lo hi op (A++[x.ent]):=by
 have e1:QaB lo hi op (A++x.ent :: B)=QaB lo hi op A++(x.ent :: QaB lo hi op B):=by
  rw [show A++x.ent :: B=A++([x.ent]++B) from rfl,QaF,QaF,Qgv (e:=x.ent) h1 h2];rfl
 rw [e1,←hn] at hall
 have e2:all=(pre++new).map LE.ent++(x.ent :: (QaB lo hi op B++rest)):=by rw [hall];simp
 have hl:(pre++new).length=((pre++new).map LE.ent).length:=by simp
 refine ⟨?_,?_,?_⟩
 ·rw [e2,hl,List.getElem?_append_right (Nat.le_refl _),Nat.sub_self];rfl
 ·rw [e2,hl,List.take_left]
 rw [List.map_append,hn,QaF,List.map_cons,List.map_nil,Qgv (e:=x.ent) h1 h2]
theorem QiX {lo hi:ByteArray} {op:Bool} {es:List Ent} (hs:Sorted es) {i:Nat} {x:Ent} (hx:es[i]? = some x) (he:QhC hi op x.1=true):QaB lo hi op (es.take i)=QaB lo hi op es:=by
 have hd:es.drop i=x :: es.drop (i+1):=by
  obtain ⟨h1,rfl⟩:=List.getElem?_eq_some_iff.1 hx
  exact List.drop_eq_getElem_cons h1
 conv=>rhs;rw [←List.take_append_drop i es]
 rw [QaF,QcS (es:=es.drop i),List.append_nil]
 intro e hem
 have hsd:Sorted (es.drop i):=List.Pairwise.sublist (List.drop_sublist _ _) hs
 rw [hd] at hem hsd
 rcases List.mem_cons.1 hem with rfl | hem
 ·exact he
 exact Qlp he ((List.pairwise_cons.1 hsd).1 e hem)
theorem QeP {α:Type} {l:List α} {n:Nat} {x:α} (h:l[n]? = some x):l.take n++[x] <+: l:=by
 have e:l.take (n+1)=l.take n++[x]:=by rw [List.take_add_one,h];rfl
 rw [←e];exact List.take_prefix _ _
structure Qov (lo hi:ByteArray) (op:Bool) (es:List Ent) (At:World→Prop) (pre:List LE) (J:List LE→(Nat→Prop)→World→Prop) (C:Nat→Prop) (W:World) (i:Nat) (new:List LE) (C':Nat→Prop) (Wj wr:World):Prop where
 j:J (pre++new) C' Wj
 ext:Ext Wj wr
 new_:new.map LE.ent=QaB lo hi op (es.take i)
 st:St C W wr
 sub:∀ b,C' b→C b∨W.heap.size<b
 box:Blk wr W.heap.size 150 #[.string lo,.string hi,.bool op]
 at_:At wr
theorem Qip {At:World→Prop} {F:Nat→Prop} {nv:Value} {es:List Ent} (hc:QkX At nv es) (hagr:∀ W W',At W→Agree F W W'→W.heap.size≤W'.heap.size→At W') (hsm:∀ e∈es,e.1.size≤maxLen) {lo hi:ByteArray} {op:Bool} {all rest:List Ent} {pre:List LE}
  {l:Nat} {J:List LE→(Nat→Prop)→World→Prop} {Jx:List LE→World→Prop} (hT:Takes Tryz.prog l Qn3 (QjV all) J Jx) {C:Nat→Prop} {W0 W:World} (hJ:J pre C W0) (hx:Ext W0 W) (hw:At W) (hF:∀ b,F b→b<W.heap.size∧¬C b) (hall:all=pre.map LE.ent++(QaB lo hi op es++rest)) :
  Calls Tryz.prog 101 #[nv,inV lo hi op,.func (.yield l) #[] #[]] W (Qa3 lo hi op es all pre J Jx C W):=by
 obtain ⟨pp,rfl⟩:=hc.ptr
 have hl:=hc.few
 have hCl:=hT.lt pre C W0 hJ
 have hx1:Ext W (W.alloc (.cells #[.string lo,.string hi,.bool op] 150)):=(Ext.refl W).alloc _ _
 have hb1:=Blk.new W 150 #[.string lo,.string hi,.bool op]
 have hbe:=Qk9 hc (hc.ext hw hx1) lo
 obtain ⟨hp1,hp2⟩:=QfG es lo hc.sorted
 obtain ⟨p,hp⟩:∃ p,Qby es lo=p:=⟨_,rfl⟩
 rw [hp] at hbe hp1 hp2
 have hple:p≤es.length:=by rw [←hp];exact QiW _ _
 have q0:(W.alloc (.cells #[.string lo,.string hi,.bool op] 150)).cell? ⟨W.heap.size,0,none⟩=some (.string lo):=hb1.cell 0
 have HC:=Lib.hid hc
 have HAG:=Lib.hid hagr
 have HSM:=Lib.hid hsm
 have HT:=Lib.hid hT
 have HJ:=Lib.hid hJ
 have HX:=Lib.hid hx
 have HW:=Lib.hid hw
 have HF:=Lib.hid hF
 have HALL:=Lib.hid hall
 have HB1:=Lib.hid hb1
 have HBE:=Lib.hid hbe
 have HP1:=Lib.hid hp1
 have HP2:=Lib.hid hp2
 have HX1:=Lib.hid hx1
 have HCL:=Lib.hid hCl
 clear hc hagr hsm hT hJ hx hw hF hall hbe hp1 hp2 hp hb1 hx1 hCl
 refine (callsIn_wide (n:=5)).1 ?_
 refine callsIn_of_wp Tryz.func101 rfl trivial ?_ rfl
 simp only [Tryz.ntmps101,List.size_toArray,List.length_cons,List.length_nil,Nat.reduceAdd,Nat.reduceSub,Array.replicate_succ,Array.replicate_zero,List.push_toArray,List.append_toArray,List.nil_append,List.cons_append]
 gi_wp2_with fail
 refine ⟨trivial,?_⟩
 refine (callsIn_wide.2 HBE.out).mono ?_
 rintro e w1 ⟨rfl,hx2⟩
 have HX2:=Lib.hid (HX1.out.trans hx2)
 have HB2:=Lib.hid (HB1.out.ext hx2)
 clear hx2 q0 HBE
 gi_wp2_with fail
 gi_loopw [7] (fun v wr=>∃ (i:Nat) (new:List LE) (C':Nat→Prop) (Wj:World),v=.int .i64 i∧p≤i∧i≤es.length∧Qov lo hi op es At pre J C W i new C' Wj wr) (fun v _=>es.length - (intOf v).toNat)
 case atStart=>exact ⟨p,[],C,W0,rfl,Nat.le_refl _,hple,⟨by rw [List.append_nil];exact HJ.out,HX.out.trans HX2.out,by rw [Qew HP1.out];rfl,HX2.out.st _,fun b hb=>.inl hb,HB2.out,HC.out.ext HW.out HX2.out⟩⟩
 obtain ⟨i,new,C',Wj,rfl,hpi,hil,hS⟩:=hrel
 have HS:=Lib.hid hS
 have hsz:=HC.out.size wr hS.at_
 have HSZ:=Lib.hid hsz
 clear hS hsz
 gi_wp2_with fail
 refine ⟨trivial,?_⟩
 refine (callsIn_wide.2 HSZ.out).mono ?_
 rintro e w2 ⟨rfl,q,rfl⟩
 have hxq:Ext wr (wr.drewN q):=(Ext.refl wr).drewN q
 by_cases hlt:i<es.length
 ·have g1:(i:Int)<(es.length:Int):=by omega
  have g1':decide ((i:Int)<(es.length:Int))=true:=decide_eq_true g1
  obtain ⟨x,hxi⟩:∃ x,es[i]? = some x:=⟨_,List.getElem?_eq_getElem hlt⟩
  have hen:=HC.out.entry (wr.drewN q) (HC.out.ext HS.out.at_ hxq) i x hxi
  have HEN:=Lib.hid hen
  have HXI:=Lib.hid hxi
  clear hen hxi
  gi_wp2_with fail
  refine ⟨trivial,?_⟩
  refine (callsIn_wide.2 HEN.out).mono ?_
  rintro e w3 ⟨sl,so,rfl,hx3,hrv⟩
  have hx4:Ext w3 (w3.alloc (.cells #[.string x.1,.int .i64 x.2.kind,.bool x.2.b,.int .i64 x.2.i,.string x.2.t,.slice sl.a x.2.l.length sl.c,.slice so.a x.2.ok.length so.c] 47)):=(Ext.refl w3).alloc _ _
  have hb4:=Blk.new w3 47 #[.string x.1,.int .i64 x.2.kind,.bool x.2.b,.int .i64 x.2.i,.string x.2.t,.slice sl.a x.2.l.length sl.c,.slice so.a x.2.ok.length so.c]
  have HX4:=Lib.hid ((hxq.trans hx3).trans hx4)
  have HX34:=Lib.hid hx4
  have HB4:=Lib.hid hb4
  have HRV:=Lib.hid hrv
  have hbx:=HS.out.box.ext (hxq.trans hx3)
  have qb0:w3.cell? ⟨W.heap.size,0,none⟩=some (.string lo):=hbx.cell 0
  have qb1:w3.cell? ⟨W.heap.size,1,none⟩=some (.string hi):=hbx.cell 1
  have qb2:w3.cell? ⟨W.heap.size,2,none⟩=some (.bool op):=hbx.cell 2
  have lb:=hbx.lt
  clear hx3 hx4 hb4 hrv hbx
  gi_wp2_with fail
  refine ⟨trivial,?_⟩
  refine (callsIn_wide.2 (QgY _ lo hi op x.1)).mono ?_
  rintro e w5 ⟨rfl,hx5⟩
  have hX5:=HX4.out.trans hx5
  have hb5:=HB4.out.ext hx5
  obtain ⟨c0,c1,c2,c3,c4,c5,c6⟩:=hb5.c7
  have hat5:=HC.out.ext HS.out.at_ hX5
  have hbx5:=HS.out.box.ext hX5
  have hs4:=HX34.out.size
  have hs5:=hx5.size
  have hsj:=HS.out.ext.size
  have hrv5:RV w5 (In wr.heap.size w5.heap.size) x.2 sl so:=((HRV.out.agree (HX34.out.agree fun b hb=>hb.2)).agree (hx5.agree fun b hb=>by have:=hb.2;omega)).mono fun b hb=>⟨hb.1,by have:=hb.2;omega⟩
  have HX5:=Lib.hid hX5
  have HAT:=Lib.hid hat5
  have HBX:=Lib.hid hbx5
  have HRV5:=Lib.hid hrv5
  clear hx5 hX5 hb5 hat5 hbx5 hrv5 HRV HX4 HX34 HB4 qb0 qb1 qb2
  cases hend:QhC hi op x.1 with
  | true=>
    gi_wp2_with fail
    refine ⟨fun _ h=>absurd h (by simp),?_⟩
    gi_wp2_with fail
    go_ret
    refine .inl ⟨new,C',Wj,.inr ⟨rfl,x,List.mem_of_getElem? HXI.out,hend⟩,HS.out.j,HS.out.ext.trans HX5.out,?_,HS.out.st.ext HX5.out,fun b hb=>(HS.out.sub b hb).imp_right Nat.le_of_lt⟩
    rw [HS.out.new_,QiX HC.out.sorted HXI.out hend]
  | false=>
    have hge:klt x.1 lo=false:=HP2.out x (by
     obtain ⟨h1,rfl⟩:=List.getElem?_eq_some_iff.1 HXI.out
     rw [List.mem_iff_getElem?]
     exact ⟨i - p,by rw [List.getElem?_drop,Nat.add_sub_cancel' hpi];exact HXI.out⟩)
    have hes:es=es.take i++x :: es.drop (i+1):=by
     obtain ⟨h1,h2⟩:=List.getElem?_eq_some_iff.1 HXI.out
     conv=>lhs;rw [←List.take_append_drop i es,List.drop_eq_getElem_cons h1,h2]
    obtain ⟨n1,n2,n3⟩:=QkD (x:=⟨x.1,x.2,sl,so⟩) (A:=es.take i) (B:=es.drop (i+1)) (all:=all) (rest:=rest) (pre:=pre) (by show all=pre.map LE.ent++(QaB lo hi op (es.take i++x :: es.drop (i+1))++rest);rw [←hes];exact HALL.out) HS.out.new_ hge hend
    have hy:=HT.out.take (pre++new) C' ⟨x.1,x.2,sl,so⟩ Wj w5 HS.out.j (HS.out.ext.trans HX5.out) ⟨n1,n2,HRV5.out.mono fun b hb=>⟨by have:=hb.1;omega,hb.2⟩,HSM.out x (List.mem_of_getElem? HXI.out)⟩
    obtain ⟨fn,tmps,assign,body,hy,hR⟩:=hy
    have HR:=Lib.hid hR
    have HN1:=Lib.hid n1
    have HN2:=Lib.hid n2
    have HN3:=Lib.hid n3
    have HES:=Lib.hid hes
    clear hR n1 n2 n3 hes
    dsimp only [Qn3] at hy
    gi_wp2_with fail
    refine HR.out.mono ?_
    rintro e w6 (⟨rfl,C6,hj6,hst6,hsub6⟩ | ⟨rfl,hjx,hst6⟩)
    ·have hj6':J (pre++(new++[⟨x.1,x.2,sl,so⟩])) C6 w6:=by rw [←List.append_assoc];exact hj6
     have hWC:∀ b,b≤W.heap.size→C' b→C b:=fun b hb h=>by
      rcases HS.out.sub b h with h | h
      ·exact h
      omega
     have hWC0:¬C' W.heap.size:=fun h=>by
      have h1:=HCL.out _ (hWC _ (Nat.le_refl _) h)
      have:=HX.out.size;omega
     have HS6:=Lib.hid (show Qov lo hi op es At pre J C W (i+1) (new++[⟨x.1,x.2,sl,so⟩]) C6 w6 w6 from
      ⟨hj6',Ext.refl _,by rw [HN3.out,List.take_add_one,HXI.out];rfl,(HS.out.st.ext HX5.out).then hst6 (fun b hb h=>hWC b (Nat.le_of_lt hb) h),fun b hb=>by
        rcases hsub6 b hb with h | h
        ·exact HS.out.sub b h
        exact .inr (by omega),hst6.blk HBX.out hWC0,HAG.out w5 w6 HAT.out (hst6.agree.mono fun b hb=>⟨by have:=(HF.out b hb).1;omega,fun h=>(HF.out b hb).2 (hWC b (Nat.le_of_lt (HF.out b hb).1) h)⟩) hst6.size⟩)
     clear hj6 hst6 hsub6 hj6' hWC hWC0 hy
     gi_wp2_with fail
     go_roundw
     case rel=>exact ⟨i+1,_,C6,w6,by go_num,by omega,hlt,HS6.out⟩
     simp [intOf];omega
    gi_wp2_with fail
    go_ret
    have hst:St C W w6:=(HS.out.st.ext HX5.out).then hst6 fun b hb h=>by
     rcases HS.out.sub b h with h | h
     ·exact h
     omega
    exact .inr ⟨rfl,hst,_,w6,hjx,Ext.refl _,by
     rw [List.map_append,HN2.out]
     exact QeP HN1.out⟩
 obtain rfl:i=es.length:=by omega
 gi_wp2_with fail
 go_ret
 refine .inl ⟨new,C',Wj,.inl rfl,HS.out.j,HS.out.ext.trans hxq,?_,HS.out.st.ext hxq,fun b hb=>(HS.out.sub b hb).imp_right Nat.le_of_lt⟩
 rw [HS.out.new_,List.take_length]
theorem Qgo {w:World} {F:Nat→Prop}:∀ {h:Nat} {t:PT h},IsN w F h t→∀ e∈ents h t,e.1.size≤maxLen
 | 0,t,⟨_,s,xs,_,h3,h4⟩,e,he=>by
   have he:e∈t.2:=he
   rw [←h4] at he
   obtain ⟨x,hx,rfl⟩:=List.mem_map.1 he
   exact (h3.vals x hx).2
 | h+1,t,⟨_,s,_,_,h4⟩,e,he=>by
   have he:e∈t.2.flatMap (ents h):=he
   obtain ⟨k,hk,he⟩:=List.mem_flatMap.1 he
   exact Qgo (h4 k hk) e he
theorem Qa3.from {lo hi:ByteArray} {op:Bool} {es all:List Ent} {pre:List LE} {J:List LE→(Nat→Prop)→World→Prop} {Jx:List LE→World→Prop} {C:Nat→Prop} {W W1:World} {e:Ending} {W':World} (h:Qa3 lo hi op es all pre J Jx C W1 e W') (hx:Ext W W1):Qa3 lo hi op es all pre J Jx C W e W':=by
 rcases h with ⟨new,C',W0,h1,h2,h3,h4,h5,h6⟩ | h
 ·exact .inl ⟨new,C',W0,h1,h2,h3,h4,(hx.st C).trans h5,fun b hb=>(h6 b hb).imp_right fun h=>Nat.le_trans hx.size h⟩
 exact .inr ⟨h.1,(hx.st C).trans h.2.1,h.2.2⟩
theorem Qa3.bool {lo hi:ByteArray} {op:Bool} {es all:List Ent} {pre:List LE} {J:List LE→(Nat→Prop)→World→Prop} {Jx:List LE→World→Prop} {C:Nat→Prop} {W:World} {e:Ending} {W':World} (h:Qa3 lo hi op es all pre J Jx C W e W'):∃ b,e=.returned (.bool b):=by
 rcases h with ⟨new,C',W0,h1 | h1,_⟩ | h
 ·exact ⟨_,h1⟩
 ·exact ⟨_,h1.1⟩
 exact ⟨_,h.1⟩
theorem Qiq {At:World→Prop} {F:Nat→Prop} {nv:Value} {es:List Ent} (hc:QkX At nv es) (hagr:∀ W W',At W→Agree F W W'→W.heap.size≤W'.heap.size→At W') (hsm:∀ e∈es,e.1.size≤maxLen) {lo hi:ByteArray} {op:Bool} {all rest:List Ent} {pre:List LE}
  {l:Nat} {J:List LE→(Nat→Prop)→World→Prop} {Jx:List LE→World→Prop} (hT:Takes Tryz.prog l Qn3 (QjV all) J Jx) {C:Nat→Prop} {W0 W:World} (hJ:J pre C W0) (hx:Ext W0 W) (hw:At W) (hF:∀ b,F b→b<W.heap.size∧¬C b) (hall:all=pre.map LE.ent++(QaB lo hi op es++rest)) :
  Calls Tryz.prog 73 #[nv,inV lo hi op,.func (.yield l) #[] #[]] W (Qa3 lo hi op es all pre J Jx C W):=by
 have hx1:Ext W (W.alloc (.cells #[.string lo,.string hi,.bool op] 150)):=(Ext.refl W).alloc _ _
 have hh:=hc.height _ (hc.ext hw hx1)
 have hwl:=Qip hc hagr hsm hT hJ (hx.trans hx1) (hc.ext hw hx1) (fun b hb=>⟨Nat.lt_of_lt_of_le (hF b hb).1 hx1.size,(hF b hb).2⟩) hall
 obtain ⟨pp,rfl⟩:=hc.ptr
 have HWL:=Lib.hid hwl
 have HX1:=Lib.hid hx1
 clear hc hagr hsm hT hJ hx hw hF hall hwl hx1
 go_enter Tryz.func73,Tryz.ntmps73
 go_wp2_with fail
 refine hh.mono ?_
 rintro e w1 ⟨rfl,rfl⟩
 go_wp2_with fail
 refine HWL.out.mono ?_
 rintro e w2 hp
 obtain ⟨b,rfl⟩:=hp.bool
 have HP:=Lib.hid (hp.from HX1.out)
 clear hp
 go_wp2_with fail
 go_ret
 exact HP.out
structure QnS (lo hi:ByteArray) (op:Bool) (F:Nat→Prop) (h:Nat) (t:PT (h+1)) (pre:List LE) (J:List LE→(Nat→Prop)→World→Prop) (C:Nat→Prop) (W w3:World) (g:Nat) (j:Nat) (new:List LE) (C':Nat→Prop) (Wj wr:World):Prop where
 j_:J (pre++new) C' Wj
 ext:Ext Wj wr
 new_:new.map LE.ent=QaB lo hi op ((t.2.take j).flatMap (ents h))
 st:St C W wr
 sub:∀ b,C' b→C b∨w3.heap.size≤b
 big:w3.heap.size≤wr.heap.size
 box:Blk wr W.heap.size 150 #[.string lo,.string hi,.bool op]
 rows:∀ o,wr.cell? ⟨g,o,none⟩=w3.cell? ⟨g,o,none⟩
 at_:QcF F (h+1) t wr
theorem Qmp {F:Nat→Prop} {lo hi:ByteArray} {op:Bool} {all:List Ent} {l:Nat} {J:List LE→(Nat→Prop)→World→Prop} {Jx:List LE→World→Prop} (hT:Takes Tryz.prog l Qn3 (QjV all) J Jx) {h:Nat}
  (ih:∀ (t:PT h) (pre:List LE) (rest:List Ent) (C:Nat→Prop) (W0 W:World),J pre C W0→Ext W0 W→QcF F h t W→(∀ b,F b→¬C b)→OkT h t→Sorted (ents h t)→(ents h t).length≤1000000→all=pre.map LE.ent++(QaB lo hi op (ents h t)++rest)→
    Calls Tryz.prog 73 #[ptr h t,inV lo hi op,.func (.yield l) #[] #[]] W (Qa3 lo hi op (ents h t) all pre J Jx C W))
  {t:PT (h+1)} {pre:List LE} {rest:List Ent} {C:Nat→Prop} {W0 W:World} (hJ:J pre C W0) (hx:Ext W0 W) (hn:QcF F (h+1) t W) (hF:∀ b,F b→¬C b) (ok:OkT (h+1) t) (hs:Sorted (ents (h+1) t)) (hl:(ents (h+1) t).length≤1000000) (hall:all=pre.map LE.ent++(QaB lo hi op (ents (h+1) t)++rest)) :
  Calls Tryz.prog 73 #[ptr (h+1) t,inV lo hi op,.func (.yield l) #[] #[]] W (Qa3 lo hi op (ents (h+1) t) all pre J Jx C W):=by
 have hlen8:=ok.2.1
 have hlen2:=ok.1
 have hCl:=hT.lt pre C W0 hJ
 have hx1:Ext W (W.alloc (.cells #[.string lo,.string hi,.bool op] 150)):=(Ext.refl W).alloc _ _
 have hb1:=Blk.new W 150 #[.string lo,.string hi,.bool op]
 have hh:=Qas (hn.ext hx1).1
 have hkc:=Qcu (hn.ext hx1).1 (by omega)
 have hhm:h+1<1000000:=Nat.lt_of_lt_of_le (Qcb (h+1) t ok (by show 1≤t.2.length;omega)) hl
 have hne:(((h+1:Nat):Int) == 0)=false:=beq_eq_false_iff_ne.2 (by omega)
 have hne':((h:Int)+1 == 0)=false:=beq_eq_false_iff_ne.2 (by omega)
 have HT:=Lib.hid hT
 have HIH:=Lib.hid ih
 have HJ:=Lib.hid hJ
 have HX:=Lib.hid hx
 have HN:=Lib.hid hn
 have HF:=Lib.hid hF
 have HOK:=Lib.hid ok
 have HS:=Lib.hid hs
 have HL:=Lib.hid hl
 have HALL:=Lib.hid hall
 have HX1:=Lib.hid hx1
 have HB1:=Lib.hid hb1
 have HCL:=Lib.hid hCl
 clear hT ih hJ hx hn hF ok hs hl hall hx1 hb1 hCl
 refine (callsIn_wide (n:=5)).1 ?_
 refine callsIn_of_wp Tryz.func73 rfl trivial ?_ rfl
 simp only [Tryz.ntmps73,List.size_toArray,List.length_cons,List.length_nil,Nat.reduceAdd,Nat.reduceSub,Array.replicate_succ,Array.replicate_zero,List.push_toArray,List.append_toArray,List.nil_append,List.cons_append]
 gi_wp2_with fail
 refine ⟨trivial,?_⟩
 refine (callsIn_wide.2 hh).mono ?_
 rintro e w1 ⟨rfl,rfl⟩
 gi_wp2_with fail
 refine ⟨trivial,?_⟩
 refine (callsIn_wide.2 hkc).mono ?_
 rintro e w3 ⟨sk,rfl,hown,hx3⟩
 have hrd:Rd w3 (Lt w3.heap.size) 1 sk t.2.length (ptrs h t.2):=(Rd.Qav hown).mono fun i hi=>hi.2
 obtain ⟨g,cap,rfl,hbg,hnc,hcm,hfil⟩:=Qat hown (by omega)
 have hgl:=hfil.lt
 have hWg:W.heap.size<g:=by simp at hbg;omega
 have HRD:=Lib.hid hrd
 have HX3:=Lib.hid (HX1.out.trans hx3)
 have HB3:=Lib.hid (HB1.out.ext hx3)
 have hs3:=HX3.out.size
 have hs0:=HX.out.size
 clear hown hrd hx3 hfil hkc hh HB1 HX1
 gi_wp2_with fail
 gi_loopw [19] (fun v wr=>∃ (j:Nat) (new:List LE) (C':Nat→Prop) (Wj:World),v=.int .i64 j∧j≤t.2.length∧QnS lo hi op F h t pre J C W w3 g j new C' Wj wr) (fun v _=>t.2.length - (intOf v).toNat)
 case atStart=>exact ⟨0,[],C,W0,rfl,Nat.zero_le _,⟨by rw [List.append_nil];exact HJ.out,HX.out.trans HX3.out,rfl,HX3.out.st _,fun b hb=>.inl hb,Nat.le_refl _,HB3.out,fun _=>rfl,HN.out.ext HX3.out⟩⟩
 obtain ⟨j,new,C',Wj,rfl,hj,hS⟩:=hrel
 have HSN:=Lib.hid hS
 clear hS
 by_cases hlt:j<t.2.length
 ·obtain ⟨kid,hkid⟩:∃ kid,t.2[j]? = some kid:=⟨_,List.getElem?_eq_getElem hlt⟩
  obtain ⟨b,o',hba,-,-,-,hbc⟩:=HRD.out.QcH hkid
  obtain ⟨rfl,rfl⟩:g=b∧0=o':=by simpa using hba
  have kc:wr.cell? ⟨g,j,none⟩=some (ptr h kid):=by rw [HSN.out.rows];simpa using hbc
  have hjl:(j:Int)<(t.2.length:Int):=by omega
  have hkm:=List.mem_of_getElem? hkid
  have hkn:QcF F h kid wr:=⟨HSN.out.at_.1.2.choose_spec.2.2 kid hkm,HSN.out.at_.2⟩
  have hks:Sorted (ents h kid):=Qax HS.out kid hkm
  have hmid:=Qbz hkid
  have hent:ents (h+1) t=(t.2.take j).flatMap (ents h)++(ents h kid++(t.2.drop (j+1)).flatMap (ents h)):=by
   show t.2.flatMap (ents h)=_
   conv=>lhs;rw [hmid]
   simp only [List.flatMap_append,List.flatMap_cons]
  have hlk:(ents h kid).length≤1000000:=by have:=HL.out;rw [hent] at this;simp only [List.length_append] at this;omega
  have hsnoc:(t.2.take (j+1)).flatMap (ents h)=(t.2.take j).flatMap (ents h)++ents h kid:=by rw [List.take_add_one,hkid];simp
  have HLAST:=Lib.hid (fun W1 (hW:Ext wr W1)=>QjD (hkn.ext hW).1)
  have HFIRST:=Lib.hid (fun W1 (hW:Ext wr W1)=>Qfq (hkn.ext hW).1)
  have hbox:=HSN.out.box
  have HSS:=Lib.hid (show ∀ W1,Ext wr W1→W1.cell? ⟨W.heap.size,0,none⟩=some (.string lo)∧W1.cell? ⟨W.heap.size,1,none⟩=some (.string hi)∧W1.cell? ⟨W.heap.size,2,none⟩=some (.bool op) from fun W1 hW=>⟨(hbox.ext hW).cell 0,(hbox.ext hW).cell 1,(hbox.ext hW).cell 2⟩)
  have HKN:=Lib.hid hkn
  have HKS:=Lib.hid hks
  have HENT:=Lib.hid hent
  have HSNOC:=Lib.hid hsnoc
  clear hkid hba hbc hkn hks hmid hent hsnoc hbox
  cases hlb:klt (Qa5 (ents h kid)) lo with
  | true=>
    have hb1:Op.bytesLess (Qa5 (ents h kid)).toList lo.toList=true:=hlb
    gi_wp2_with fail
    refine wpIn_wide.2 ?_
    refine wp_region_held_drew (S:=(fun w'=>Ext wr w')) (by kernel_rfl) (((Ext.refl wr).drew)) (fun hHeld=>?_)
    refine Qab 0 (some 24) HSS hHeld ?_
    refine Qab 2 (some 26) HSS hHeld ?_
    refine Qab 3 (some 27) HSS hHeld ?_
    refine Qaa (i:=1) (by kernel_rfl) rfl (by rfl) (fun K hK=>?_)
    go_simp
    (refine (HLAST.out _ hHeld).mono ?_;rintro e w5 ⟨rfl,rfl⟩)
    refine hK.out _ _ (hHeld) (fun hHeld=>?_)
    clear hK K
    try simp only [Act.put,List.setIfInBounds_toArray,List.set_cons_zero,List.set_cons_succ]
    refine Qab 4 (some 28) HSS hHeld ?_
    refine Qab 5 (some 23) HSS hHeld ?_
    refine wpAnyH_done (by kernel_rfl) ?_ _
    have HX5:=Lib.hid hHeld
    clear hHeld
    have HS6:=Lib.hid (show QnS lo hi op F h t pre J C W w3 g (j+1) new C' Wj wr.drew from
     ⟨HSN.out.j_,HSN.out.ext.trans HX5.out,by rw [HSN.out.new_,HSNOC.out,QaF,Qew (Qkl HKS.out hlb),List.append_nil],HSN.out.st.ext HX5.out,HSN.out.sub,by have:=HX5.out.size;have:=HSN.out.big;omega,HSN.out.box.ext HX5.out,fun o=>(HX5.out.cell (by have:=HSN.out.big;omega)).trans (HSN.out.rows o),HSN.out.at_.ext HX5.out⟩)
    generalize wr.drew=w6 at *
    gi_wp2_with fail
    go_roundw
    case rel=>exact ⟨j+1,new,C',Wj,by go_num,hlt,HS6.out⟩
    simp [intOf];omega
  | false=>
    have hb1:Op.bytesLess (Qa5 (ents h kid)).toList lo.toList=false:=hlb
    gi_wp2_with fail
    refine wpIn_wide.2 ?_
    refine wp_region_held_drew (S:=(fun w'=>Ext wr w')) (by kernel_rfl) (((Ext.refl wr).drew)) (fun hHeld=>?_)
    refine Qab 0 (some 24) HSS hHeld ?_
    refine Qab 2 (some 26) HSS hHeld ?_
    refine Qab 3 (some 27) HSS hHeld ?_
    refine Qaa (i:=1) (by kernel_rfl) rfl (by rfl) (fun K hK=>?_)
    go_simp
    (refine (HLAST.out _ hHeld).mono ?_;rintro e w5 ⟨rfl,rfl⟩)
    refine hK.out _ _ (hHeld) (fun hHeld=>?_)
    clear hK K
    try simp only [Act.put,List.setIfInBounds_toArray,List.set_cons_zero,List.set_cons_succ]
    refine Qab 4 (some 28) HSS hHeld ?_
    refine Qab 5 (some 23) HSS hHeld ?_
    refine wpAnyH_done (by kernel_rfl) ?_ _
    cases hend:QhC hi op (Qan (ents h kid)) with
    | true=>
      have HEND:=Lib.hid (show ∀ W1,Calls Tryz.prog 103 #[inV lo hi op,.string (Qan (ents h kid))] W1 fun e w'=>e=.returned (.bool true)∧Ext W1 w' from fun W1=>by have:=QgY W1 lo hi op (Qan (ents h kid));rwa [hend] at this)
      gi_wp2_with fail
      refine wpIn_wide.2 ?_
      refine wp_region_held_drew (S:=(fun w'=>Ext wr w')) (by kernel_rfl) ((hHeld.drew)) (fun hHeld=>?_)
      refine Qab 0 (some 30) HSS hHeld ?_
      refine Qab 1 (some 31) HSS hHeld ?_
      refine Qaa (i:=2) (by kernel_rfl) rfl (by rfl) (fun K hK=>?_)
      go_simp
      (refine (HFIRST.out _ hHeld).mono ?_;rintro e w6 ⟨rfl,rfl⟩)
      refine hK.out _ _ (hHeld) (fun hHeld=>?_)
      clear hK K
      try simp only [Act.put,List.setIfInBounds_toArray,List.set_cons_zero,List.set_cons_succ]
      refine Qaa (i:=3) (by kernel_rfl) rfl (by rfl) (fun K hK=>?_)
      go_simp
      (refine (HEND.out _).mono ?_;rintro e w7 ⟨rfl,hx7⟩)
      refine hK.out _ _ (hHeld.trans hx7) (fun hHeld=>?_)
      clear hK K
      try simp only [Act.put,List.setIfInBounds_toArray,List.set_cons_zero,List.set_cons_succ]
      refine Qab 4 (some 29) HSS hHeld ?_
      refine wpAnyH_done (by kernel_rfl) ?_ _
      have HX7:=Lib.hid hHeld
      clear hHeld hx7
      gi_wp2_with fail
      go_ret
      have hne0:=QoJ HOK.out hkm
      obtain ⟨x,hxm⟩:=List.exists_mem_of_ne_nil _ hne0
      have hxe:=Qer HKS.out hend x hxm
      refine .inl ⟨new,C',Wj,.inr ⟨rfl,x,by rw [HENT.out];simp [hxm],hxe⟩,HSN.out.j_,HSN.out.ext.trans HX7.out,?_,HSN.out.st.ext HX7.out,fun b hb=>(HSN.out.sub b hb).imp_right fun h=>by omega⟩
      have hsd:=HS.out
      rw [HENT.out] at hsd
      rw [HSN.out.new_,HENT.out,QaF,QaF,QcS (Qer HKS.out hend),QdK (A:=ents h kid) (QbL hsd).2.1 ⟨x,hxm,hxe⟩,List.append_nil,List.append_nil]
    | false=>
      have HEND:=Lib.hid (show ∀ W1,Calls Tryz.prog 103 #[inV lo hi op,.string (Qan (ents h kid))] W1 fun e w'=>e=.returned (.bool false)∧Ext W1 w' from fun W1=>by have:=QgY W1 lo hi op (Qan (ents h kid));rwa [hend] at this)
      gi_wp2_with fail
      refine wpIn_wide.2 ?_
      refine wp_region_held_drew (S:=(fun w'=>Ext wr w')) (by kernel_rfl) ((hHeld.drew)) (fun hHeld=>?_)
      refine Qab 0 (some 30) HSS hHeld ?_
      refine Qab 1 (some 31) HSS hHeld ?_
      refine Qaa (i:=2) (by kernel_rfl) rfl (by rfl) (fun K hK=>?_)
      go_simp
      (refine (HFIRST.out _ hHeld).mono ?_;rintro e w6 ⟨rfl,rfl⟩)
      refine hK.out _ _ (hHeld) (fun hHeld=>?_)
      clear hK K
      try simp only [Act.put,List.setIfInBounds_toArray,List.set_cons_zero,List.set_cons_succ]
      refine Qaa (i:=3) (by kernel_rfl) rfl (by rfl) (fun K hK=>?_)
      go_simp
      (refine (HEND.out _).mono ?_;rintro e w7 ⟨rfl,hx7⟩)
      refine hK.out _ _ (hHeld.trans hx7) (fun hHeld=>?_)
      clear hK K
      try simp only [Act.put,List.setIfInBounds_toArray,List.set_cons_zero,List.set_cons_succ]
      refine Qab 4 (some 29) HSS hHeld ?_
      refine wpAnyH_done (by kernel_rfl) ?_ _
      have HX7:=Lib.hid hHeld
      obtain ⟨q0,q1,q2⟩:=HSS.out w7 hHeld
      have hFC:∀ b,F b→¬C' b:=fun b hb h=>by
       rcases HSN.out.sub b h with h | h
       ·exact HF.out b hb h
       have:=(HN.out.2 b hb);omega
      have hic:=HIH.out kid (pre++new) (QaB lo hi op ((t.2.drop (j+1)).flatMap (ents h))++rest) C' Wj w7 HSN.out.j_ (HSN.out.ext.trans HX7.out) (HKN.out.ext HX7.out) hFC (HOK.out.2.2 kid hkm).1 HKS.out hlk (by
       rw [HALL.out,HENT.out,List.map_append,HSN.out.new_,QaF,QaF]
       simp only [List.append_assoc])
      have HIC:=Lib.hid hic
      have hs7:=HX7.out.size
      clear hHeld hx7 hFC hic
      gi_wp2_with fail
      refine ⟨trivial,?_⟩
      refine (callsIn_wide.2 HIC.out).mono ?_
      rintro e w8 (⟨new',C8,W8,hb8,hj8,hx8,hn8,hst8,hsub8⟩ | ⟨rfl,hst8,pre',W8,hj8,hx8,hp8⟩)
      ·have hst:St C W w8:=(HSN.out.st.ext HX7.out).then hst8 fun b hb h=>by
        rcases HSN.out.sub b h with h | h
        ·exact h
        omega
       have hsub:∀ b,C8 b→C b∨w3.heap.size≤b:=fun b hb=>by
        rcases hsub8 b hb with h | h
        ·exact HSN.out.sub b h
        exact .inr (by have:=HSN.out.big;omega)
       have hj8':J (pre++(new++new')) C8 W8:=by rw [←List.append_assoc];exact hj8
       have hn8':(new++new').map LE.ent=QaB lo hi op ((t.2.take (j+1)).flatMap (ents h)):=by rw [List.map_append,HSN.out.new_,hn8,HSNOC.out,QaF]
       rcases hb8 with rfl | ⟨rfl,x,hxm,hxe⟩
       ·have hnC:∀ b,b<w3.heap.size→W.heap.size≤b→¬C' b:=fun b h1 h2 h=>by
         rcases HSN.out.sub b h with h | h
         ·have:=HCL.out b h;omega
         omega
        have HS8:=Lib.hid (show QnS lo hi op F h t pre J C W w3 g (j+1) (new++new') C8 W8 w8 from
         ⟨hj8',hx8,hn8',hst,hsub,by have:=hst8.size;have:=HSN.out.big;omega,hst8.blk (HSN.out.box.ext HX7.out) (hnC _ (by omega) (Nat.le_refl _)),
           fun o=>(hst8.cell (by have:=HSN.out.big;omega) (hnC _ hgl (by omega))).trans ((HX7.out.cell (by have:=HSN.out.big;omega)).trans (HSN.out.rows o)),
           ⟨(HSN.out.at_.ext HX7.out).1.agree (hst8.agree.mono fun b hb=>⟨by have:=(HSN.out.at_.ext HX7.out).2 b hb;omega,fun h=>by
             rcases HSN.out.sub b h with h | h
             ·exact HF.out b hb h
             have:=(HN.out.2 b hb);omega⟩),fun b hb=>by have:=hst8.size;have:=HN.out.2 b hb;have:=HSN.out.big;omega⟩⟩)
        clear hst hsub hj8' hn8' hj8 hx8 hn8 hst8 hsub8 hnC
        gi_wp2_with fail
        go_roundw
        case rel=>exact ⟨j+1,_,C8,W8,by go_num,hlt,HS8.out⟩
        simp [intOf];omega
       clear hst8 hsub8 hn8 hj8
       gi_wp2_with fail
       go_ret
       refine .inl ⟨new++new',C8,W8,.inr ⟨rfl,x,by rw [HENT.out];simp [hxm],hxe⟩,hj8',hx8,?_,hst,fun b hb=>(hsub b hb).imp_right fun h=>by omega⟩
       have hsd:=HS.out
       rw [HENT.out] at hsd
       rw [hn8',HSNOC.out,HENT.out,QaF,QaF,QaF,QdK (A:=ents h kid) (QbL hsd).2.1 ⟨x,hxm,hxe⟩,List.append_nil]
      gi_wp2_with fail
      go_ret
      exact .inr ⟨rfl,(HSN.out.st.ext HX7.out).then hst8 (fun b hb h=>by
       rcases HSN.out.sub b h with h | h
       ·exact h
       omega),pre',W8,hj8,hx8,hp8⟩
 obtain rfl:j=t.2.length:=by omega
 gi_wp2_with fail
 go_ret
 refine .inl ⟨new,C',Wj,.inl rfl,HSN.out.j_,HSN.out.ext,?_,HSN.out.st,fun b hb=>(HSN.out.sub b hb).imp_right fun h=>by omega⟩
 rw [HSN.out.new_,List.take_length];rfl
theorem QjP {F:Nat→Prop} {lo hi:ByteArray} {op:Bool} {all:List Ent} {l:Nat} {J:List LE→(Nat→Prop)→World→Prop} {Jx:List LE→World→Prop} (hT:Takes Tryz.prog l Qn3 (QjV all) J Jx) :
  ∀ (h:Nat) (t:PT h) (pre:List LE) (rest:List Ent) (C:Nat→Prop) (W0 W:World),J pre C W0→Ext W0 W→QcF F h t W→(∀ b,F b→¬C b)→OkT h t→Sorted (ents h t)→(ents h t).length≤1000000→all=pre.map LE.ent++(QaB lo hi op (ents h t)++rest)→
   Calls Tryz.prog 73 #[ptr h t,inV lo hi op,.func (.yield l) #[] #[]] W (Qa3 lo hi op (ents h t) all pre J Jx C W)
 | 0,t,pre,rest,C,W0,W,hJ,hx,hn,hF,ok,hs,_,hall=>
   Qiq (F:=F) (Qki ok hs) (fun W W' a ha hz=>⟨a.1.agree ha,fun b hb=>Nat.lt_of_lt_of_le (a.2 b hb) hz⟩) (Qgo hn.1) hT hJ hx hn (fun b hb=>⟨hn.2 b hb,hF b hb⟩) hall
 | h+1,t,pre,rest,C,W0,W,hJ,hx,hn,hF,ok,hs,hl,hall=>
   Qmp hT (fun t pre rest C W0 W a b c d e f g i=>QjP hT h t pre rest C W0 W a b c d e f g i) hJ hx hn hF ok hs hl hall
theorem Qmo {F:Nat→Prop} {lo hi:ByteArray} {op:Bool} {l:Nat} {J:List LE→(Nat→Prop)→World→Prop} {Jx:List LE→World→Prop} {T:RT} (hT:Takes Tryz.prog l Qn3 (QjV (QaB lo hi op (Qak T))) J Jx)
  {C:Nat→Prop} {W0 W:World} (hJ:J [] C W0) (hx:Ext W0 W) (hn:Qf9 F T W) (hF:∀ b,F b→¬C b) (ok:OkR T) (hl:(Qak T).length≤1000000) :
  Calls Tryz.prog 73 #[QaQ T,inV lo hi op,.func (.yield l) #[] #[]] W (Qa3 lo hi op (Qak T) (QaB lo hi op (Qak T)) [] J Jx C W):=by
 match T,hn,ok,hl with
 | none,_,_,_=>exact Qiq (F:=fun _=>False) (rest:=[]) QlR (fun _ _ _ _ _=>trivial) (fun e he=>by cases he) hT hJ hx trivial (fun b hb=>hb.elim) (by simp [Qak])
 | some ⟨h,t⟩,hn,ok,hl=>exact QjP hT h t [] [] C W0 W hJ hx hn hF ok.1 ok.2.2 hl (by simp [Qak])
end Go.Proofs.YtohajcflklejjaaGreat
namespace Go.Proofs.YtohajcflklejjaaGreat
open Go.RowKit Go.Shelf
set_option linter.unusedVariables false
set_option linter.unusedSimpArgs false
structure Qel (w:World) (B:Nat) (T:RT) (lo hi:ByteArray) (op:Bool):Prop where
 bt:Blk w B 33 #[QaQ T]
 bl:Blk w (B+1) 9 #[.string lo]
 bh:Blk w (B+2) 9 #[.string hi]
 bo:Blk w (B+3) 4 #[.bool op]
def Qow (F:Nat→Prop) (B:Nat) (b:Nat):Prop:=F b∨(B≤b∧b<B+4)
abbrev Ql8 (B:Nat):Array Value:=#[.pointer (some ⟨B,0,none⟩),.pointer (some ⟨B+1,0,none⟩),.pointer (some ⟨B+2,0,none⟩),.pointer (some ⟨B+3,0,none⟩)]
theorem Qel.agree {w w':World} {B:Nat} {T:RT} {lo hi:ByteArray} {op:Bool} (h:Qel w B T lo hi op) {F:Nat→Prop} (ha:Agree F w w') (hF:∀ b,B≤b→b<B+4→F b):Qel w' B T lo hi op:=
 ⟨h.bt.agree ha (hF _ (by omega) (by omega)),h.bl.agree ha (hF _ (by omega) (by omega)),h.bh.agree ha (hF _ (by omega) (by omega)),h.bo.agree ha (hF _ (by omega) (by omega))⟩
theorem Qel.lt {w:World} {B:Nat} {T:RT} {lo hi:ByteArray} {op:Bool} (h:Qel w B T lo hi op):B+3<w.heap.size:=h.bo.lt
theorem Qa3.st {lo hi:ByteArray} {op:Bool} {es all:List Ent} {pre:List LE} {J:List LE→(Nat→Prop)→World→Prop} {Jx:List LE→World→Prop} {C:Nat→Prop} {W:World} {e:Ending} {W':World} (h:Qa3 lo hi op es all pre J Jx C W e W'):St C W W':=by
 rcases h with ⟨_,_,_,_,_,_,_,h5,_⟩ | ⟨_,h5,_⟩ <;> exact h5
theorem Qma {w0:World} {F:Nat→Prop} {T:RT} {B:Nat} {lo hi:ByteArray} {op:Bool} (hT:Qf9 F T w0) (ok:OkR T) (hl:(Qak T).length≤1000000) (hB:Qel w0 B T lo hi op) :
  QoW Tryz.prog 72 (Ql8 B) Qn3 (Qow F B) (QjV (QaB lo hi op (Qak T))) (fun xs=>xs.map LE.ent=QaB lo hi op (Qak T)) (fun pre=>pre.map LE.ent <+: QaB lo hi op (Qak T)) w0:=by
 intro l J Jx C W hTk hA hsz hCK hJ
 have hBW:Qel W B T lo hi op:=hB.agree hA fun b h1 h2=>.inr ⟨h1,h2⟩
 have hTW:Qf9 F T W:=⟨hT.1.agree (hA.mono fun b hb=>.inl hb),fun b hb=>Nat.lt_of_lt_of_le (hT.2 b hb) hsz⟩
 have hwk:=fun W1 (hW:Ext W W1)=>Qmo hTk hJ hW (hTW.ext hW) (fun b hb h=>hCK b h (.inl hb)) ok hl
 have hCl:=hTk.lt [] C W hJ
 obtain ⟨p,hp⟩:=Qar T
 rw [hp] at hwk
 have hbt:=hBW.bt
 rw [hp] at hbt
 have HSS:=Lib.hid (show ∀ W1,St C W W1→W1.cell? ⟨B,0,none⟩=some (.pointer p)∧W1.cell? ⟨B+1,0,none⟩=some (.string lo)∧W1.cell? ⟨B+2,0,none⟩=some (.string hi)∧W1.cell? ⟨B+3,0,none⟩=some (.bool op) from fun W1 hW=>
  ⟨(hW.blk hbt fun h=>hCK _ h (.inr ⟨by omega,by omega⟩)).cell 0,(hW.blk hBW.bl fun h=>hCK _ h (.inr ⟨by omega,by omega⟩)).cell 0,(hW.blk hBW.bh fun h=>hCK _ h (.inr ⟨by omega,by omega⟩)).cell 0,(hW.blk hBW.bo fun h=>hCK _ h (.inr ⟨by omega,by omega⟩)).cell 0⟩)
 have HWK:=Lib.hid hwk
 clear hTk hA hsz hCK hJ hBW hTW hwk hp hT ok hl hB hbt hCl
 show Calls _ _ #[.func (.yield l) #[] #[],.pointer (some ⟨B,0,none⟩),.pointer (some ⟨B+1,0,none⟩),.pointer (some ⟨B+2,0,none⟩),.pointer (some ⟨B+3,0,none⟩)] W _
 go_enter Tryz.func72,Tryz.ntmps72
 go_wp2_with fail
 refine wp_region_held_drew (S:=(fun w'=>St C W w')) (by kernel_rfl) (((St.refl C W).drew)) (fun hHeld=>?_)
 refine Qab 0 (some 6) HSS hHeld ?_
 refine Qab 2 (some 8) HSS hHeld ?_
 refine Qab 3 (some 9) HSS hHeld ?_
 refine Qab 4 (some 10) HSS hHeld ?_
 refine Qab 5 (some 11) HSS hHeld ?_
 refine Qab 6 (some 12) HSS hHeld ?_
 refine Qaa (i:=1) (by kernel_rfl) rfl (by rfl) (fun K hK=>?_)
 go_simp
 (refine (QcX _ _).mono ?_;rintro e w1 ⟨rfl,hx1⟩;replace hx1:=((Ext.refl W).drew).trans hx1;have HX1:=Lib.hid hx1)
 refine hK.out _ _ (hx1.st C) (fun hHeld=>?_)
 clear hK K
 try simp only [Act.put,List.setIfInBounds_toArray,List.set_cons_zero,List.set_cons_succ]
 refine Qaa (i:=7) (by kernel_rfl) rfl (by rfl) (fun K hK=>?_)
 go_simp
 (refine (HWK.out _ HX1.out).mono ?_;intro e w2 hp2;obtain ⟨b2,rfl⟩:=hp2.bool;have HP2:=Lib.hid (hp2.from HX1.out);clear hp2)
 refine hK.out _ _ (HP2.out.st) (fun hHeld=>?_)
 clear hK K
 try simp only [Act.put,List.setIfInBounds_toArray,List.set_cons_zero,List.set_cons_succ]
 refine wpAnyH_done (by kernel_rfl) ?_ _
 go_wp2_with fail
 go_end0
 refine ⟨⟨_,rfl⟩,?_⟩
 rcases HP2.out with ⟨new,C',W0,-,h2,h3,h4,-,-⟩ | ⟨-,-,pre',W0,h2,h3,h4⟩
 ·exact .inl ⟨new,C',W0,h4,h2,h3⟩
 exact .inr ⟨pre',W0,h4,h2,h3⟩
def QkY (T:RT) (lo hi:ByteArray) (op:Bool) (w:World) (e:Ending) (w':World):Prop:=
 ∃ B,e=.returned (.func (.func 72) #[] (Ql8 B))∧Ext w w'∧Qel w' B T lo hi op∧w.heap.size≤B
theorem Ql9 (w:World) (T:RT) (lo hi:ByteArray) (op:Bool):Calls Tryz.prog 50 #[QaC T,.string lo,.string hi,.bool op] w (QkY T lo hi op w):=by
 obtain ⟨p,hp⟩:=Qar T
 rw [QaC,hp]
 go_enter Tryz.func50,Tryz.ntmps50
 go_wp2_with fail
 go_ret
 obtain ⟨hx,-,b0,b1,b2,b3⟩:=Qdj w 33 9 9 4 #[.pointer p] #[.string lo] #[.string hi] #[.bool op] _ rfl
 exact ⟨w.heap.size,rfl,hx,⟨by rw [hp];exact b0,b1,b2,b3⟩,Nat.le_refl _⟩
end Go.Proofs.YtohajcflklejjaaGreat
namespace Go.Proofs.YtohajcflklejjaaGreat
open Go.RowKit
set_option linter.unusedVariables false
set_option linter.unusedSimpArgs false
theorem Bw.trans {a b c:World} (h:Below a.heap.size a b) (k:Below b.heap.size b c):Below a.heap.size a c:=h.trans (k.mono h.size)
theorem Bw.ext {a b c:World} (h:Below a.heap.size a b) (k:Ext b c):Below a.heap.size a c:=Bw.trans h k.below
theorem QbN (p:ByteArray):p.toList=p.data.toList:=ByteArray.toList_eq p
theorem Qay (p:ByteArray):p.toList.length=p.size:=by rw [QbN,Array.length_toList];rfl
theorem QcL {p:ByteArray} {i:Nat} (h:i<p.size):p.toList[i]? = some p[i]:=by
 rw [QbN,Array.getElem?_toList]
 exact Array.getElem?_eq_getElem h
def QnP (p:ByteArray) (w:World) (e:Ending) (w':World):Prop:=
 Below w.heap.size w w'∧∃ (end_:ByteArray) (ok:Bool),e=.returned (.tuple #[.string end_,.bool ok])∧(match QfY p.toList with | none=>ok=false∧end_=ByteArray.empty | some q=>ok=true∧end_.toList=q)
theorem QlU (l:List UInt8):(ByteArray.mk l.toArray).toList=l:=by rw [QbN]
theorem QkL {p:ByteArray} {i n:Nat} (h:i<p.size) (hr:p.toList.drop (i+1)=List.replicate n 255):p.toList=p.toList.take i++p[i] :: List.replicate n 255:=by
 have h1:=QcL h
 obtain ⟨h2,h3⟩:=List.getElem?_eq_some_iff.1 h1
 conv=>lhs;rw [←List.take_append_drop i p.toList,List.drop_eq_getElem_cons h2,h3,hr]
theorem extract_toList (p:ByteArray) (k:Nat):(p.extract 0 k).toList=p.toList.take k:=by
 rw [QbN,QbN,ByteArray.data_extract]
 simp
theorem bytesRow_at {s:ByteArray} {cap i:Nat} {b:UInt8} (h:s.toList[i]? = some b):(bytesRow s cap)[i]? = some (.int .u8 (b.toNat:Int)):=by
 rw [QbN,Array.getElem?_toList] at h
 have hi:=(Array.getElem?_eq_some_iff.1 h).1
 unfold bytesRow
 rw [Array.getElem?_append_left (by simpa using hi),Array.getElem?_map,h];rfl
theorem QgQ (s:ByteArray) (cap:Nat):s.size≤(bytesRow s cap).size:=by
 unfold bytesRow
 rw [Array.size_append,Array.size_map]
 exact Nat.le_add_right _ _
theorem Qj2 (w:World) (s:ByteArray) (cap:Nat) (t:TypeId) {i:Nat} {b c:UInt8} (hb:s.toList[i]? = some b) (W:World) (hW:W=(w.alloc (.cells (bytesRow s cap) t ((bytesRow s cap).size,(bytesRow s cap).size+1))).drew) :
  W.cell? ⟨w.heap.size,i,none⟩=some (.int .u8 (b.toNat:Int))∧W.frozen? ⟨w.heap.size,i,none⟩=false∧w.heap.size<W.heap.size∧Below w.heap.size w W∧
   ∀ j (x:UInt8),(s.toList.set i c)[j]? = some x→(W.setCell ⟨w.heap.size,i,none⟩ (.int .u8 (c.toNat:Int))).cell? ⟨w.heap.size,j,none⟩=some (.int .u8 (x.toNat:Int)):=by
 have hr:∀ j,W.cell? ⟨w.heap.size,j,none⟩=(bytesRow s cap)[j]?:=fun j=>by
  rw [hW];exact World.cell?_alloc_mark w _ _ _ j
 have hi:i<s.size:=by
  have:=(List.getElem?_eq_some_iff.1 hb).1
  rwa [Qay] at this
 have hh:W.heap[w.heap.size]? = some (.cells (bytesRow s cap) t ((bytesRow s cap).size,(bytesRow s cap).size+1)):=by
  rw [hW];exact heap_alloc_new w _
 refine ⟨by rw [hr];exact bytesRow_at hb,?_,by rw [hW];show w.heap.size<(w.alloc _).heap.size;rw [World.size_alloc];exact Nat.lt_succ_self _,by rw [hW];exact ((Below.refl _ w).alloc (Nat.le_refl _) _).drew,fun j x hx=>?_⟩
 ·unfold World.frozen?
  rw [hh]
  have:=QgQ s cap
  simp;omega
 by_cases hj:j=i
 ·subst hj
  rw [List.getElem?_set_self (List.getElem?_eq_some_iff.1 hb).1] at hx
  cases hx
  exact World.cell?_setCell_same W _ _ ((hr j).trans (bytesRow_at hb))
 rw [List.getElem?_set_ne (fun e=>hj e.symm)] at hx
 rw [Qai _ _ _ _ _ (fun e=>hj e.symm),hr]
 exact bytesRow_at hx
theorem QiM (w:World) (p:ByteArray) (hp:p.size≤maxLen):Calls Tryz.prog 31 #[.string p] w (QnP p w):=by
 unfold maxLen at hp
 have hcv:∀ (s:ByteArray) (W:World),(convert 9 132 (.string s)).run Tryz.prog W=.ok (.slice (some ⟨W.heap.size,0,none⟩) s.size (grownCap W s.size 0 5)) (W.drew.alloc (.cells (bytesRow s (grownCap W s.size 0 5)) 5 ((bytesRow s (grownCap W s.size 0 5)).size,(bytesRow s (grownCap W s.size 0 5)).size+1))):=
  fun s W=>run_bytes_of_string W 9 132 5 s Tryz.underlying9 Tryz.underlying132 Tryz.underlying5
 have hw0:wrap64 ((p.size:Int) - 1)=(p.size:Int) - 1:=by unfold wrap64;omega
 go_enter Tryz.func31,Tryz.ntmps31
 go_wp2_with fail
 go_step3
 go_wp2_with fail
 go_step3
 go_wp2_with fail
 go_loopw [4] (fun v wr=>wr=w∧((v=.int .i64 (-1)∧QfY p.toList=none)∨∃ i,i<p.size∧v=.int .i64 (i:Int)∧p.toList.drop (i+1)=List.replicate (p.size - (i+1)) 255)) (fun v _=>(intOf v+1).toNat)
 case atStart=>
  refine ⟨rfl,?_⟩
  by_cases h0:p.size=0
  ·refine .inl ⟨by rw [h0];rfl,?_⟩
   have:p.toList=[]:=List.eq_nil_of_length_eq_zero (by rw [Qay];exact h0)
   rw [this];rfl
  refine .inr ⟨p.size - 1,by omega,by congr 1;omega,?_⟩
  rw [List.drop_eq_nil_of_le (by rw [Qay];omega),show p.size - (p.size - 1+1)=0 from by omega];rfl
 obtain ⟨rfl,⟨rfl,hn⟩ | ⟨i,hi,rfl,hr⟩⟩:=hrel
 ·have HN:=Lib.hid hn
  clear hn
  go_wp2_with fail
  rw [Exit.noGoto_ret]
  refine bodyPost_ret (v:=.tuple #[.string ByteArray.empty,.bool false]) (by simp [results,Tryz.results31,go_sem];rfl) rfl ?_
  exact ⟨Below.refl _ _,ByteArray.empty,false,rfl,by rw [HN.out];exact ⟨rfl,rfl⟩⟩
 have hi':(i:Int)<(p.size:Int):=by omega
 have hi0:(0:Int)≤(i:Int):=by omega
 have hsp:=QkL hi hr
 have HSP:=Lib.hid hsp
 have HR:=Lib.hid hr
 have hw1:wrap64 ((i:Int) - 1)=(i:Int) - 1:=by unfold wrap64;omega
 clear hsp hr
 by_cases hff:p[i]=255
 ·have hb1:(((p[i].toNat:Nat):Int) != 255)=false:=by rw [hff];rfl
  go_wp2_with fail
  go_roundw
  case rel=>
   refine ⟨trivial,?_⟩
   cases i with
   | zero=>
     refine .inl ⟨rfl,?_⟩
     rw [HSP.out,hff,List.take_zero,List.nil_append,←List.replicate_succ]
     exact QiD _
   | succ i=>
     refine .inr ⟨i,by omega,by simp,?_⟩
     have h2:p.toList.drop (i+1)=p[i+1] :: p.toList.drop (i+1+1):=by
      have h1:=QcL hi
      obtain ⟨h2,h3⟩:=List.getElem?_eq_some_iff.1 h1
      rw [List.drop_eq_getElem_cons h2,h3]
     rw [h2,HR.out,hff,←List.replicate_succ]
     congr 1;omega
  simp [intOf]
 have hb1:(((p[i].toNat:Nat):Int) != 255)=true:=bne_iff_ne.2 fun e=>hff (UInt8.toNat_inj.1 (by show p[i].toNat=255;omega))
 have hmin:min (i+1) p.size=i+1:=by omega
 have hexs:(p.extract 0 (i+1)).size=i+1:=by rw [←Qay,extract_toList,List.length_take,Qay];omega
 have hlt256:p[i].toNat<256:=p[i].toNat_lt
 have hw8:IntKind.u8.wrap ((p[i].toNat:Int)+1)=(p[i].toNat:Int)+1:=by
  have:p[i].toNat≠255:=fun e=>hff (UInt8.toNat_inj.1 e)
  rw [IntKind.wrap_u8];omega
 obtain ⟨q,hq⟩:∃ q,q=(p.extract 0 (i+1)).toList.set i (p[i]+1):=⟨_,rfl⟩
 have hext:(p.extract 0 (i+1)).toList=p.toList.take i++[p[i]]:=by
  rw [extract_toList,List.take_add_one,QcL hi];rfl
 have htl:(p.toList.take i).length=i:=by rw [List.length_take,Qay];omega
 have hqe:q=p.toList.take i++[p[i]+1]:=by
  rw [hq,hext,List.set_append_right _ _ (by omega),htl,Nat.sub_self];rfl
 have hql:q.length=i+1:=by rw [hqe,List.length_append,htl];rfl
 have hend:QfY p.toList=some q:=by rw [HSP.out,Qlq hff,hqe]
 have hib:(p.extract 0 (i+1)).toList[i]? = some p[i]:=by rw [hext,List.getElem?_append_right (by omega),htl,Nat.sub_self];rfl
 have hbn:((p[i]+1).toNat:Int)=(p[i].toNat:Int)+1:=by
  have h1:(p[i]+1).toNat=p[i].toNat+1:=by
   rw [UInt8.toNat_add]
   have:p[i].toNat≠255:=fun e=>hff (UInt8.toNat_inj.1 e)
   show (p[i].toNat+1) % 256=_
   omega
  omega
 have hcb:∀ W:World,(∀ j (hj:j<q.length),W.cell? ((⟨wr.heap.size,0,none⟩:Addr).add j)=some (.int .u8 (q[j].toNat:Int)))→∀ cap,(convert 132 9 (.slice (some ⟨wr.heap.size,0,none⟩) (i+1) cap)).run Tryz.prog W=.ok (.string ⟨q.toArray⟩) W:=fun W h cap=>by
  have:=run_convert_bytes_back (P:=Tryz.prog) W 132 9 5 ⟨wr.heap.size,0,none⟩ cap q Tryz.underlying132 Tryz.underlying5 Tryz.underlying9 h
  rwa [hql] at this
 have HCB:=Lib.hid hcb
 have HEND:=Lib.hid hend
 have HQ:=Lib.hid hq
 have HIB:=Lib.hid hib
 have HBN:=Lib.hid hbn
 clear hq hext htl hqe hql hend hib hbn hcb
 go_upto_region 8 with (fail)
 generalize hW2:World.drew _=W2
 obtain ⟨c2,f2,l2,hbl2,hset⟩:=Qj2 wr (p.extract 0 (i+1)) _ _ (c:=p[i]+1) HIB.out W2 hW2.symm
 rw [HBN.out,←HQ.out] at hset
 have HS2:=Lib.hid hset
 have HBL:=Lib.hid hbl2
 clear hW2 hset hbl2 hcv
 go_upto_region 9 with (fail)
 have hcb:=HCB.out (W2.setCell ⟨wr.heap.size,i,none⟩ (.int .u8 ((p[i].toNat:Int)+1))) (fun j hj=>by
  rw [Qbb,Nat.zero_add]
  exact HS2.out j _ (List.getElem?_eq_getElem hj))
 go_wp2_with fail
 rw [Exit.noGoto_ret]
 refine bodyPost_ret (v:=.tuple #[.string ⟨q.toArray⟩,.bool true]) (by simp [results,Tryz.results31,go_sem]) rfl ?_
 exact ⟨HBL.out.setCell (p:=⟨wr.heap.size,i,none⟩) (Nat.le_refl _) _,_,_,rfl,by rw [HEND.out];exact ⟨rfl,QlU q⟩⟩
end Go.Proofs.YtohajcflklejjaaGreat
namespace Go.Proofs.YtohajcflklejjaaGreat
open Go.RowKit Go.Shelf
set_option linter.unusedVariables false
set_option linter.unusedSimpArgs false
attribute [local go_sem] Oper.semAt_some
abbrev QnF (x:LE):Array Value:=#[.int .i64 x.v.kind,.bool x.v.b,.int .i64 x.v.i,.string x.v.t,.slice x.sl.a x.v.l.length x.sl.c,.slice x.so.a x.v.ok.length x.so.c]
end Go.Proofs.YtohajcflklejjaaGreat
namespace Go.Proofs.YtohajcflklejjaaGreat
open Go.RowKit Go.Shelf
set_option linter.unusedVariables false
set_option linter.unusedSimpArgs false
attribute [local go_sem] Oper.semAt_some
theorem Qgs {w w':World} {base e size n:Nat} {s:Sl} {xs:List Value} (h:w.ownsRow base e size (.slice s.a n s.c) n xs) (ha:Agree (In base w.heap.size) w w'):w'.ownsRow base e size (.slice s.a n s.c) n xs:=
 Qad h ha fun b hb=>⟨(Qac h hb).1,(Qac h hb).2⟩
end Go.Proofs.YtohajcflklejjaaGreat
namespace Go.Proofs.YtohajcflklejjaaGreat
open Go.RowKit
set_option linter.unusedVariables false
set_option linter.unusedSimpArgs false
def QoM (n:Int):Val:=.mk 3 false n ByteArray.empty [] [] []
def e5:List Ent:=[(⟨#[97]⟩,QoM 1),(⟨#[98]⟩,QoM 3),(⟨#[98,47,49]⟩,QoM 4),(⟨#[98,47,50]⟩,QoM 0),(⟨#[99]⟩,QoM 2)]
structure Chg where
 k:ByteArray
 had:Bool
 was:Val
 has:Bool
 is_:Val
def QeM (e:Ent):Chg:=⟨e.1,true,e.2,false,zeroV⟩
def Qfk (e:Ent):Chg:=⟨e.1,false,zeroV,true,e.2⟩
def Qk6 (e f:Ent):List Chg:=if Qbq e.2 f.2=0 then [] else [⟨e.1,true,e.2,true,f.2⟩]
def chg:List Ent→List Ent→List Chg
 | [],b=>b.map Qfk
 | e :: a,[]=>QeM e :: a.map QeM
 | e :: a,f :: b=>if klt e.1 f.1 then QeM e :: chg a (f :: b) else if klt f.1 e.1 then Qfk f :: chg (e :: a) b else Qk6 e f++chg a b
termination_by a b=>a.length+b.length
theorem Qff (a:List Ent):chg a []=a.map QeM:=by cases a <;> simp [chg]
theorem Qfy (b:List Ent):chg [] b=b.map Qfk:=by simp [chg]
theorem Qje {e:Ent} {a b:List Ent} (h:∀ f∈b.head?,klt e.1 f.1=true):chg (e :: a) b=QeM e :: chg a b:=by
 cases b with
 | nil=>rw [Qff,Qff];rfl
 | cons f b=>rw [chg,if_pos (h f rfl)]
theorem Qjd {f:Ent} {a b:List Ent} (h:∀ e∈a.head?,klt f.1 e.1=true):chg a (f :: b)=Qfk f :: chg a b:=by
 cases a with
 | nil=>rw [Qfy,Qfy];rfl
 | cons e a=>rw [chg,if_neg (by rw [Qbk (h e rfl)];simp),if_pos (h e rfl)]
theorem QeZ {e f:Ent} {a b:List Ent} (h:e.1=f.1):chg (e :: a) (f :: b)=Qk6 e f++chg a b:=by
 rw [chg,h,if_neg (by rw [Qap];simp),if_neg (by rw [Qap];simp)]
theorem QgS (a b:List Ent):∀ c:List Ent,chg (c++a) (c++b)=chg a b
 | []=>rfl
 | e :: c=>by rw [List.cons_append,List.cons_append,QeZ rfl,Qk6,if_pos (Qb6 _),List.nil_append,QgS a b c]
theorem QmJ (a:List Ent):chg a a=[]:=by
 have:=QgS [] [] a
 rw [List.append_nil,Qff] at this
 exact this
def Qb8 (a b:List Ent) (k:ByteArray):Option Chg:=
 if (QaD a k).isSome≠(QaD b k).isSome∨Qbq ((QaD a k).getD zeroV) ((QaD b k).getD zeroV)≠0 then some ⟨k,(QaD a k).isSome,(QaD a k).getD zeroV,(QaD b k).isSome,(QaD b k).getD zeroV⟩ else none
def QaV (l:List Ent):List Ent:=l.map fun e=>(e.1,zeroV)
def QoT (a b:List Ent):List Chg:=((Qau (Qau [] (QaV a)) (QaV b)).map Prod.fst).filterMap (Qb8 a b)
theorem Qd3 {a:List Ent} {k:ByteArray} {K:List ByteArray} (hs:Sorted a) (hK:∀ y∈K,klt k y=true) (h:∀ e∈a,e.1=k∨e.1∈K) :
  (∃ v a',a=(k,v) :: a'∧Sorted a'∧∀ e∈a',e.1∈K)∨∀ e∈a,e.1∈K:=by
 cases a with
 | nil=>exact .inr fun e he=>by cases he
 | cons e a=>
   obtain ⟨h1,h2⟩:=List.pairwise_cons.1 hs
   rcases h e (List.mem_cons_self) with hk | hk
   ·refine .inl ⟨e.2,a,by rw [←hk],h2,fun x hx=>?_⟩
    rcases h x (List.mem_cons_of_mem _ hx) with hx' | hx'
    ·have:=h1 x hx
     rw [hx',hk,Qap] at this;cases this
    exact hx'
   refine .inr fun x hx=>?_
   rcases List.mem_cons.1 hx with rfl | hx
   ·exact hk
   rcases h x (List.mem_cons_of_mem _ hx) with hx' | hx'
   ·have:=QaG (hK _ hk) (h1 x hx)
    rw [hx',Qap] at this;cases this
   exact hx'
theorem Qcs {a:List Ent} {k:ByteArray} {K:List ByteArray} (hK:∀ y∈K,klt k y=true) (h:∀ e∈a,e.1∈K):QaD a k=none:=
 Qfs fun e he hk=>by have:=hK _ (h e he);rw [hk,Qap] at this;cases this
theorem Qgl {a:List Ent} {k:ByteArray} {K:List ByteArray} (hK:∀ y∈K,klt k y=true) (h:∀ e∈a,e.1∈K):∀ e∈a.head?,klt k e.1=true:=fun e he=>hK _ (h e (List.mem_of_mem_head? he))
theorem QaU {α β:Type} {f g:α→Option β}:∀ {l:List α},(∀ x∈l,f x=g x)→l.filterMap f=l.filterMap g
 | [],_=>rfl
 | x :: l,h=>by rw [List.filterMap_cons,List.filterMap_cons,h x List.mem_cons_self,QaU fun y hy=>h y (List.mem_cons_of_mem _ hy)]
theorem Qdy:∀ {K:List ByteArray} {a b:List Ent},K.Pairwise (fun x y=>klt x y=true)→Sorted a→Sorted b→(∀ e∈a,e.1∈K)→(∀ e∈b,e.1∈K)→chg a b=K.filterMap (Qb8 a b)
 | [],a,b,_,_,_,ha,hb=>by
   have e1:a=[]:=List.eq_nil_iff_forall_not_mem.2 fun x hx=>by cases ha x hx
   have e2:b=[]:=List.eq_nil_iff_forall_not_mem.2 fun x hx=>by cases hb x hx
   subst e1 e2;rw [Qff];rfl
 | k :: K,a,b,hK,sa,sb,ha,hb=>by
   obtain ⟨hk,hK'⟩:=List.pairwise_cons.1 hK
   have hne:∀ x∈K,k≠x:=fun x hx e=>by have:=hk x hx;rw [e,Qap] at this;cases this
   have hg:∀ (v:Val) (l:List Ent) x,x∈K→QaD ((k,v) :: l) x=QaD l x:=fun v l x hx=>by simp [QaD,hne x hx]
   have hg0:∀ (v:Val) (l:List Ent),QaD ((k,v) :: l) k=some v:=fun v l=>by simp [QaD]
   rcases Qd3 sa hk (fun e he=>List.mem_cons.1 (ha e he)) with ⟨v,a',rfl,sa',ha'⟩ | ha'
   ·rcases Qd3 sb hk (fun e he=>List.mem_cons.1 (hb e he)) with ⟨u,b',rfl,sb',hb'⟩ | hb'
    ·rw [QeZ (e:=(k,v)) (f:=(k,u)) rfl,Qdy hK' sa' sb' ha' hb',List.filterMap_cons,show K.filterMap (Qb8 ((k,v) :: a') ((k,u) :: b'))=K.filterMap (Qb8 a' b') from QaU fun x hx=>by simp [Qb8,hg _ _ x hx]]
     unfold Qk6
     simp only [Qb8,hg0,Option.isSome_some,ne_eq,not_true,false_or,Option.getD_some]
     by_cases hc:Qbq v u=0
     ·simp [hc]
     simp [hc]
    rw [Qje (Qgl hk hb'),Qdy hK' sa' sb ha' hb',List.filterMap_cons,show K.filterMap (Qb8 ((k,v) :: a') b)=K.filterMap (Qb8 a' b) from QaU fun x hx=>by simp [Qb8,hg _ _ x hx]]
    simp [Qb8,hg0,Qcs hk hb',QeM]
   rcases Qd3 sb hk (fun e he=>List.mem_cons.1 (hb e he)) with ⟨u,b',rfl,sb',hb'⟩ | hb'
   ·rw [Qjd (Qgl hk ha'),Qdy hK' sa sb' ha' hb',List.filterMap_cons,show K.filterMap (Qb8 a ((k,u) :: b'))=K.filterMap (Qb8 a b') from QaU fun x hx=>by simp [Qb8,hg _ _ x hx]]
    simp [Qb8,hg0,Qcs hk ha',Qfk]
   rw [Qdy hK' sa sb ha' hb',List.filterMap_cons]
   simp [Qb8,Qcs hk ha',Qcs hk hb',Qb6]
theorem QhR {es:List Ent} {k:ByteArray} {v:Val} {x:ByteArray} (h:x=k∨x∈es.map Prod.fst):x∈(QbH es k v).map Prod.fst:=by
 induction es with
 | nil=>simpa [QbH] using h
 | cons e es ih=>
   unfold QbH
   split
   ·rcases h with h | h
    ·exact List.mem_cons_of_mem _ (ih (.inl h))
    rcases List.mem_cons.1 h with h | h
    ·rw [h];exact List.mem_cons_self
    exact List.mem_cons_of_mem _ (ih (.inr h))
   split
   ·rename_i h2
    rcases h with h | h
    ·rw [h];exact List.mem_cons_self
    rcases List.mem_cons.1 h with h | h
    ·rw [h,h2];exact List.mem_cons_self
    exact List.mem_cons_of_mem _ h
   rcases h with h | h
   ·rw [h];exact List.mem_cons_self
   exact List.mem_cons_of_mem _ h
theorem Qct {x:ByteArray}:∀ {l es:List Ent},(x∈es.map Prod.fst∨x∈l.map Prod.fst)→x∈(Qau es l).map Prod.fst
 | [],es,h=>by
   rcases h with h | h
   ·exact h
   cases h
 | e :: l,es,h=>by
   refine Qct (l:=l) (es:=QbH es e.1 e.2) ?_
   rcases h with h | h
   ·exact .inl (QhR (.inr h))
   rcases List.mem_cons.1 h with h | h
   ·exact .inl (QhR (.inl h))
   exact .inr h
theorem QaE:∀ {l es:List Ent},Sorted es→Sorted (Qau es l)
 | [],_,h=>h
 | e :: l,_,h=>QaE (l:=l) (Qbt h _ _)
theorem Qiz {a b:List Ent} (ha:Sorted a) (hb:Sorted b):chg a b=QoT a b:=by
 have hs:Sorted (Qau (Qau [] (QaV a)) (QaV b)):=QaE (QaE List.Pairwise.nil)
 have hz:∀ (l:List Ent) e,e∈l→e.1∈(QaV l).map Prod.fst:=fun l e he=>by
  rw [QaV,List.map_map]
  exact List.mem_map.2 ⟨e,he,rfl⟩
 exact Qdy (List.pairwise_map.2 hs) ha hb (fun e he=>Qct (.inl (Qct (.inr (hz a e he))))) (fun e he=>Qct (.inr (hz b e he)))
abbrev AN:=(h:Nat) × PT h
def AN.es (a:AN):List Ent:=ents a.1 a.2
def AN.at_ (a:AN):Nat:=addr a.1 a.2
def AN.ok (a:AN):Prop:=OkT a.1 a.2∧1≤size a.1 a.2
def Qd0 (ns:List AN):List Ent:=ns.reverse.flatMap AN.es
def QbZ (h:Nat) (t:PT (h+1)):List AN:=t.2.map (Sigma.mk h)
theorem Qgd (ns:List AN) (a:AN):Qd0 (ns++[a])=a.es++Qd0 ns:=by simp [Qd0]
theorem Qj5 (ns:List AN) (h:Nat) (t:PT (h+1)):Qd0 (ns++(QbZ h t).reverse)=ents (h+1) t++Qd0 ns:=by
 simp only [Qd0,List.reverse_append,List.reverse_reverse,List.flatMap_append,QbZ,List.flatMap_map]
 rfl
def Qbu:(h:Nat)→PT h→Nat
 | 0,_=>1
 | h+1,t=>1+(t.2.map (Qbu h)).sum
theorem Qfz:∀ (h:Nat) (t:PT h),1≤Qbu h t
 | 0,_=>Nat.le_refl _
 | h+1,t=>by simp [Qbu]
def wtA (a:AN):Nat:=Qbu a.1 a.2+a.es.length
structure Qam where
 es:List Ent
 ns:List AN
 o:Nat
def Qam.cont (x:Qam):List Ent:=x.es++Qd0 x.ns
def Qam.wt (x:Qam):Nat:=x.es.length+(x.ns.map wtA).sum
def Qam.ok (x:Qam):Prop:=∀ a∈x.ns,a.ok
def Qam.node (x:Qam):Option AN:=if x.es=[] then x.ns.getLast? else none
def Qam.gone (x:Qam):Prop:=x.es=[]∧x.ns=[]
def Qam.height (x:Qam):Int:=if x.es=[] then (match x.ns.getLast? with | some a=>(a.1:Int) | none=>0) else -1
def Qam.first (x:Qam):ByteArray:=match x.es with | e :: _=>e.1 | []=>(match x.ns.getLast? with | some a=>Qan a.es | none=>ByteArray.empty)
def Qam.last (x:Qam):ByteArray:=match x.es with | e :: _=>e.1 | []=>(match x.ns.getLast? with | some a=>Qa5 a.es | none=>ByteArray.empty)
def Qam.skip (x:Qam):Qam:=⟨x.es,x.ns.dropLast,x.o⟩
def Qam.take (x:Qam):Qam:=⟨x.es.tail,x.ns,x.o⟩
def Qam.open_ (x:Qam):Qam:=match x.ns.getLast? with
 | none=>x
 | some ⟨0,t⟩=>⟨t.2,x.ns.dropLast,x.o+1⟩
 | some ⟨h+1,t⟩=>⟨x.es,x.ns.dropLast++(QbZ h t).reverse,x.o+1⟩
def Qam.head (x:Qam):Ent:=x.es.headD (ByteArray.empty,zeroV)
theorem QdE {α:Type} {l:List α} {a:α} (h:l.getLast? = some a):l=l.dropLast++[a]:=by
 obtain ⟨ys,rfl⟩:=List.getLast?_eq_some_iff.1 h
 simp
theorem Qam.Qaj {x:Qam} {a:AN} (h:x.node=some a):x.es=[]∧x.ns=x.ns.dropLast++[a]∧x.ns.getLast? = some a:=by
 unfold Qam.node at h
 split at h
 ·exact ⟨‹_›,QdE h,h⟩
 cases h
theorem Qam.QlX {x:Qam} (h:x.node=none) (hn:¬x.gone):∃ e es,x.es=e :: es:=by
 unfold Qam.node at h
 split at h
 ·exact absurd ⟨‹_›,List.getLast?_eq_none_iff.1 h⟩ hn
 exact List.exists_cons_of_ne_nil ‹_›
theorem Qam.QbP {x:Qam} {a:AN} (h:x.node=some a):x.height=a.1:=by
 obtain ⟨h1,-,h2⟩:=x.Qaj h
 simp [Qam.height,h1,h2]
theorem Qam.QbU {x:Qam} {e:Ent} {es:List Ent} (h:x.es=e :: es):x.height = -1:=by simp [Qam.height,h]
theorem QmT {es:List Ent} (h:es≠[]):∃ e l,es=e :: l∧Qan es=e.1:=by
 obtain ⟨e,l,rfl⟩:=List.exists_cons_of_ne_nil h
 exact ⟨e,l,rfl,rfl⟩
theorem AN.ne {a:AN} (h:a.ok):a.es≠[]:=fun e=>by
 have:=Qa4 a.1 a.2 h.1 h.2
 have e:ents a.1 a.2=[]:=e
 rw [e] at this;cases this
theorem Qam.Qgi {x:Qam} (ok:x.ok) (hn:¬x.gone):∃ e l,x.cont=e :: l∧x.first=e.1:=by
 obtain ⟨es,ns,o⟩:=x
 cases es with
 | cons e l=>exact ⟨e,l++Qd0 ns,rfl,rfl⟩
 | nil=>
   cases hg:ns.getLast? with
   | none=>exact absurd ⟨rfl,List.getLast?_eq_none_iff.1 hg⟩ hn
   | some a=>
     have e1:=QdE hg
     obtain ⟨e,l,e2,e3⟩:=QmT (AN.ne (ok a (List.mem_of_getLast? hg)))
     refine ⟨e,l++Qd0 ns.dropLast,?_,?_⟩
     ·show []++Qd0 ns=_
      rw [List.nil_append,e1,Qgd,e2];simp
     simp [Qam.first,hg,e3]
theorem Qam.QbK {x:Qam} {e:Ent} {es:List Ent} (h:x.es=e :: es):x.cont=e :: x.take.cont∧x.first=e.1∧x.last=e.1∧x.head=e:=by
 obtain ⟨l,ns,o⟩:=x
 dsimp only at h
 subst h
 exact ⟨rfl,rfl,rfl,rfl⟩
theorem Qam.QdA {x:Qam} (h:x.gone):x.cont=[]:=by
 obtain ⟨es,ns,o⟩:=x
 obtain ⟨rfl,rfl⟩:es=[]∧ns=[]:=h
 rfl
theorem Qam.QdB {x:Qam} {a:AN} (h:x.node=some a):x.open_.cont=x.cont∧x.cont=a.es++x.skip.cont:=by
 obtain ⟨h1,h2,h3⟩:=x.Qaj h
 obtain ⟨es,ns,o⟩:=x
 dsimp only at h1 h2 h3
 subst h1
 have hc:(Qam.mk [] ns o).cont=a.es++(Qam.mk [] ns o).skip.cont:=by
  show []++Qd0 ns=a.es++([]++Qd0 ns.dropLast)
  rw [List.nil_append,List.nil_append]
  conv=>lhs;rw [h2]
  exact Qgd _ _
 refine ⟨?_,hc⟩
 rw [hc]
 obtain ⟨n,t⟩:=a
 cases n with
 | zero=>simp only [Qam.open_,h3];rfl
 | succ n=>
   simp only [Qam.open_,h3]
   show []++Qd0 _=_
   rw [List.nil_append,Qj5]
   rfl
theorem Qii {ns:List AN} {a:AN} (h:ns=ns.dropLast++[a]):(ns.map wtA).sum=(ns.dropLast.map wtA).sum+wtA a:=by
 conv=>lhs;rw [h]
 simp
theorem Qoe {h:Nat} (l:List (PT h)):((l.map (Sigma.mk h)).map wtA).sum=(l.map (Qbu h)).sum+(l.flatMap (ents h)).length:=by
 induction l with
 | nil=>rfl
 | cons t l ih=>
   simp only [List.map_cons,List.sum_cons,List.flatMap_cons,List.length_append,ih]
   show Qbu h t+(ents h t).length+_=_
   omega
theorem Qam.Qhg {x:Qam} {a:AN} (h:x.node=some a):x.open_.wt<x.wt∧x.skip.wt<x.wt:=by
 obtain ⟨h1,h2,h3⟩:=x.Qaj h
 obtain ⟨es,ns,o⟩:=x
 dsimp only at h1 h2 h3
 subst h1
 have hs:=Qii h2
 have hp:1≤wtA a:=by have:=Qfz a.1 a.2;unfold wtA;omega
 refine ⟨?_,?_⟩
 ·obtain ⟨n,t⟩:=a
  cases n with
  | zero=>
    simp only [Qam.open_,h3]
    have:wtA ⟨0,t⟩=1+t.2.length:=rfl
    simp only [Qam.wt,List.length_nil]
    omega
  | succ n=>
    simp only [Qam.open_,h3]
    have e1:wtA ⟨n+1,t⟩=1+(t.2.map (Qbu n)).sum+(t.2.flatMap (ents n)).length:=rfl
    have e2:((QbZ n t).reverse.map wtA).sum=(t.2.map (Qbu n)).sum+(t.2.flatMap (ents n)).length:=by
     rw [List.map_reverse,List.sum_reverse];exact Qoe t.2
    simp only [Qam.wt,List.length_nil,List.map_append,List.sum_append,e2]
    omega
 simp only [Qam.wt,Qam.skip,List.length_nil];omega
theorem Qam.Qhh {x:Qam} {e:Ent} {es:List Ent} (h:x.es=e :: es):x.take.wt<x.wt:=by
 simp [Qam.wt,Qam.take,h]
theorem Qam.Ql1 {x:Qam} (ok:x.ok):x.skip.ok:=fun a ha=>ok a (List.dropLast_subset _ ha)
theorem Qam.Qg7 {x:Qam} (ok:x.ok):x.take.ok:=ok
theorem Qam.Ql0 {x:Qam} (ok:x.ok):x.open_.ok:=by
 unfold Qam.open_
 split
 ·exact ok
 ·exact fun a ha=>ok a (List.dropLast_subset _ ha)
 rename_i h t hg
 intro a ha
 rcases List.mem_append.1 ha with ha | ha
 ·exact ok a (List.dropLast_subset _ ha)
 obtain ⟨k,hk,rfl⟩:=List.mem_map.1 (List.mem_reverse.1 ha)
 have h1:=(ok _ (List.mem_of_getLast? hg)).1.2.2 k hk
 exact ⟨h1.1,Nat.le_trans (by decide) h1.2⟩
def Qi0 (x y:Qam):Prop:=∃ a b,x.node=some a∧y.node=some b∧a.at_=b.at_
inductive Step:Qam→Qam→Qam→Qam→List Chg→Prop
 | skip {x y:Qam} {a:AN} (hx:x.node=some a) (hy:y.node=some a):Step x y x.skip y.skip []
 | openX {x y:Qam} {a:AN} (hx:x.node=some a) (hne:¬Qi0 x y) (hc:y.gone∨klt x.last y.first=true∨(klt x.last y.first=false∧klt y.last x.first=false∧¬y.gone∧y.height<a.1)):Step x y x.open_ y []
 | openY {x y:Qam} {b:AN} (hy:y.node=some b) (hne:¬Qi0 x y) (hc:x.gone∨klt y.last x.first=true∨(klt x.last y.first=false∧klt y.last x.first=false∧¬x.gone∧x.height≤b.1)):Step x y x y.open_ []
 | gone {x y:Qam} {e:Ent} {es:List Ent} (hx:x.es=e :: es) (hc:y.gone∨(¬y.gone∧klt e.1 y.first=true)):Step x y x.take y [QeM e]
 | come {x y:Qam} {f:Ent} {fs:List Ent} (hy:y.es=f :: fs) (hc:x.gone∨(¬x.gone∧klt f.1 x.first=true)):Step x y x y.take [Qfk f]
 | both {x y:Qam} {e f:Ent} {es fs:List Ent} (hx:x.es=e :: es) (hy:y.es=f :: fs) (hk:e.1=f.1):Step x y x.take y.take (Qk6 e f)
theorem Step.wt {x y x' y':Qam} {l:List Chg} (h:Step x y x' y' l):x'.wt+y'.wt<x.wt+y.wt:=by
 cases h with
 | skip hx hy=>have:=(x.Qhg hx).2;have:=(y.Qhg hy).2;omega
 | openX hx=>have:=(x.Qhg hx).1;omega
 | openY hy=>have:=(y.Qhg hy).1;omega
 | gone hx=>have:=x.Qhh hx;omega
 | come hy=>have:=y.Qhh hy;omega
 | both hx hy=>have:=x.Qhh hx;have:=y.Qhh hy;omega
theorem Step.ok {x y x' y':Qam} {l:List Chg} (h:Step x y x' y' l) (hx:x.ok) (hy:y.ok):x'.ok∧y'.ok:=by
 cases h with
 | skip=>exact ⟨Qam.Ql1 hx,Qam.Ql1 hy⟩
 | openX=>exact ⟨Qam.Ql0 hx,hy⟩
 | openY=>exact ⟨hx,Qam.Ql0 hy⟩
 | gone=>exact ⟨Qam.Qg7 hx,hy⟩
 | come=>exact ⟨hx,Qam.Qg7 hy⟩
 | both=>exact ⟨Qam.Qg7 hx,Qam.Qg7 hy⟩
theorem Step.chg {x y x' y':Qam} {l:List Chg} (h:Step x y x' y' l) (hx:x.ok) (hy:y.ok):Proofs.YtohajcflklejjaaGreat.chg x.cont y.cont=l++Proofs.YtohajcflklejjaaGreat.chg x'.cont y'.cont:=by
 cases h with
 | skip h1 h2=>rw [(x.QdB h1).2,(y.QdB h2).2,QgS,List.nil_append]
 | openX h1=>rw [(x.QdB h1).1,List.nil_append]
 | openY h1=>rw [(y.QdB h1).1,List.nil_append]
 | gone h1 hc=>
   obtain ⟨e1,e2,-,-⟩:=x.QbK h1
   rw [e1,List.singleton_append]
   refine Qje fun f hf=>?_
   rcases hc with hc | ⟨hc,hk⟩
   ·rw [y.QdA hc] at hf;cases hf
   obtain ⟨g,l,e3,e4⟩:=y.Qgi hy hc
   rw [e3] at hf
   obtain rfl:g=f:=by simpa using hf
   rw [←e4];exact hk
 | come h1 hc=>
   obtain ⟨e1,e2,-,-⟩:=y.QbK h1
   rw [e1,List.singleton_append]
   refine Qjd fun f hf=>?_
   rcases hc with hc | ⟨hc,hk⟩
   ·rw [x.QdA hc] at hf;cases hf
   obtain ⟨g,l,e3,e4⟩:=x.Qgi hx hc
   rw [e3] at hf
   obtain rfl:g=f:=by simpa using hf
   rw [←e4];exact hk
 | both h1 h2 hk=>rw [(x.QbK h1).1,(y.QbK h2).1,QeZ hk]
inductive Run (x0 y0:Qam):Qam→Qam→List Chg→Prop
 | start:Run x0 y0 x0 y0 []
 | step {x y x' y':Qam} {l m:List Chg} (h:Run x0 y0 x y l) (hs:Step x y x' y' m):Run x0 y0 x' y' (l++m)
theorem Run.ok {x0 y0 x y:Qam} {l:List Chg} (h:Run x0 y0 x y l) (hx:x0.ok) (hy:y0.ok):x.ok∧y.ok:=by
 induction h with
 | start=>exact ⟨hx,hy⟩
 | step _ hs ih=>exact hs.ok ih.1 ih.2
theorem Run.chg {x0 y0 x y:Qam} {l:List Chg} (h:Run x0 y0 x y l) (hx:x0.ok) (hy:y0.ok):Proofs.YtohajcflklejjaaGreat.chg x0.cont y0.cont=l++Proofs.YtohajcflklejjaaGreat.chg x.cont y.cont:=by
 induction h with
 | start=>rfl
 | step hr hs ih=>rw [ih,hs.chg (hr.ok hx hy).1 (hr.ok hx hy).2,List.append_assoc]
theorem Run.done {x0 y0 x y:Qam} {l:List Chg} (h:Run x0 y0 x y l) (hx:x0.ok) (hy:y0.ok) (gx:x.gone) (gy:y.gone):Proofs.YtohajcflklejjaaGreat.chg x0.cont y0.cont=l:=by
 rw [h.chg hx hy,x.QdA gx,y.QdA gy,QmJ,List.append_nil]
def QaW (ns:List AN):Nat:=(ns.map fun a=>Qbu a.1 a.2).sum
def Qam.tot (x:Qam):Nat:=x.o+QaW x.ns
theorem Qdl (ns:List AN) (a:AN):QaW (ns++[a])=QaW ns+Qbu a.1 a.2:=by simp [QaW]
theorem QiO (ns:List AN) (h:Nat) (t:PT (h+1)):QaW (ns++(QbZ h t).reverse)=QaW ns+(t.2.map (Qbu h)).sum:=by
 simp only [QaW,List.map_append,List.sum_append,List.map_reverse,List.sum_reverse,QbZ,List.map_map]
 rfl
theorem Qkr (ns:List AN):ns.length≤QaW ns:=by
 induction ns with
 | nil=>exact Nat.le_refl _
 | cons a ns ih=>
   have:=Qfz a.1 a.2
   simp only [QaW,List.map_cons,List.sum_cons,List.length_cons] at *
   omega
theorem Qam.Qe8 {x:Qam} {a:AN} (h:x.node=some a):x.open_.tot=x.tot∧x.skip.tot+1≤x.tot:=by
 obtain ⟨h1,h2,h3⟩:=x.Qaj h
 have e:QaW x.ns=QaW x.ns.dropLast+Qbu a.1 a.2:=by
  conv=>lhs;rw [h2]
  exact Qdl _ _
 have:=Qfz a.1 a.2
 refine ⟨?_,by simp only [Qam.tot,Qam.skip];omega⟩
 obtain ⟨n,t⟩:=a
 cases n with
 | zero=>
   simp only [Qam.open_,h3,Qam.tot]
   have e0:Qbu 0 t=1:=rfl
   dsimp only at e
   omega
 | succ n=>
   simp only [Qam.open_,h3,Qam.tot,QiO]
   have e0:Qbu (n+1) t=1+(t.2.map (Qbu n)).sum:=rfl
   dsimp only at e
   omega
end Go.Proofs.YtohajcflklejjaaGreat
namespace Go.Proofs.YtohajcflklejjaaGreat
open Go.RowKit Go.Shelf
set_option linter.unusedVariables false
set_option linter.unusedSimpArgs false
abbrev AN.p (a:AN):Value:=ptr a.1 a.2
abbrev Qe0 (X:Nat):Value:=.pointer (some ⟨X,0,none⟩)
structure Cur (F E:Nat→Prop) (lo X:Nat) (row:Option Nat) (x:Qam) (W:World):Prop where
 ex:∃ (es nd:Sl) (xs:List LE),xs.map LE.ent=x.es∧Blk W X 202 #[.slice es.a xs.length es.c,.slice nd.a x.ns.length nd.c,.int .i64 x.o]∧ES W E es xs∧W.ownsRow lo 31 1 (.slice nd.a x.ns.length nd.c) x.ns.length (x.ns.map AN.p)∧nd.row=row
 nodes:∀ a∈x.ns,IsN W F a.1 a.2
 lX:lo≤X
 ne:row≠some X
 few:x.tot≤1000000
 FX:∀ b,F b→b<lo
 EX:∀ b,E b→lo≤b∧b<W.heap.size∧b≠X∧row≠some b
section
variable {F E : Nat → Prop} {lo X : Nat} {row : Option Nat} {x : Qam} {W W' : World}
theorem Cur.lt (h:Cur F E lo X row x W):X<W.heap.size:=by
 obtain ⟨es,nd,xs,-,hb,-⟩:=h.ex
 exact hb.lt
theorem Cur.rlt (h:Cur F E lo X row x W):∀ b,row=some b→lo≤b∧b<W.heap.size:=by
 obtain ⟨es,nd,xs,-,-,-,ho,hr⟩:=h.ex
 intro b hb
 exact Qac ho (hr.trans hb)
def Qhi (F E:Nat→Prop) (X:Nat) (row:Option Nat) (b:Nat):Prop:=F b∨E b∨b=X∨row=some b
theorem Cur.agree (h:Cur F E lo X row x W) (k:Agree (Qhi F E X row) W W') (hs:W.heap.size≤W'.heap.size):Cur F E lo X row x W':=by
 obtain ⟨es,nd,xs,h1,h2,h3,h4,h5⟩:=h.ex
 exact ⟨⟨es,nd,xs,h1,h2.agree k (.inr (.inr (.inl rfl))),h3.agree (k.mono fun b hb=>.inr (.inl hb)),Qad h4 k (fun b hb=>.inr (.inr (.inr (by rw [←h5];exact hb)))),h5⟩,fun a ha=>(h.nodes a ha).agree (k.mono fun b hb=>.inl hb),h.lX,h.ne,h.few,h.FX,fun b hb=>⟨(h.EX b hb).1,Nat.lt_of_lt_of_le (h.EX b hb).2.1 hs,(h.EX b hb).2.2⟩⟩
theorem Cur.kl (h:Cur F E lo X row x W) (hl:lo≤W.heap.size):∀ b,Qhi F E X row b→b<W.heap.size:=by
 rintro b (hb | hb | rfl | hb)
 ·exact Nat.lt_of_lt_of_le (h.FX b hb) hl
 ·exact (h.EX b hb).2.1
 ·exact h.lt
 exact (h.rlt b hb).2
theorem Cur.low (h:Cur F E lo X row x W):lo≤W.heap.size:=Nat.le_trans h.lX (Nat.le_of_lt h.lt)
theorem Cur.ext (h:Cur F E lo X row x W) (k:Ext W W'):Cur F E lo X row x W':=h.agree (k.agree (h.kl h.low)) k.size
theorem Cur.st {H:Nat→Prop} (h:Cur F E lo X row x W) (k:St H W W') (hn:∀ b,Qhi F E X row b→¬H b):Cur F E lo X row x W':=h.agree (k.agree.mono fun b hb=>⟨h.kl h.low b hb,hn b hb⟩) k.size
theorem Cur.len (h:Cur F E lo X row x W):x.ns.length≤1000000:=by
 have:=Qkr x.ns
 have:=h.few
 unfold Qam.tot at this
 omega
def Qam.Qf2 (x:Qam):Value:=match x.node with | some a=>a.p | none=>.pointer none
def QbE (x:Qam) (is:Bool) (W:World) (e:Ending) (w':World):Prop:=
 e=.returned (.tuple #[.agg #[x.Qf2,.int .i64 x.height,.string x.first,.string x.last],.bool is])∧Ext W w'
theorem Qkb (h:Cur F E lo X row x W) {e:Ent} {es:List Ent} (hx:x.es=e :: es):Calls Tryz.prog 123 #[Qe0 X] W (QbE x true W):=by
 have hp:x.Qf2=.pointer none:=by simp [Qam.Qf2,Qam.node,hx]
 have hh:=x.QbU hx
 obtain ⟨-,hf,hl,-⟩:=x.QbK hx
 obtain ⟨se,nd,xs,h1,h2,h3,-,-⟩:=h.ex
 have hlen:xs.length=x.es.length:=by rw [←h1,List.length_map]
 have hpos:0<xs.length:=by rw [hlen,hx];exact Nat.succ_pos _
 obtain ⟨y,hy⟩:∃ y,xs[0]? = some y:=⟨_,List.getElem?_eq_getElem hpos⟩
 have hyk:y.k=e.1:=by
  have:(xs.map LE.ent)[0]? = some y.ent:=by rw [List.getElem?_map,hy];rfl
  rw [h1,hx] at this
  simp only [List.getElem?_cons_zero,Option.some.injEq] at this
  rw [this];rfl
 obtain ⟨b,o,hsa,hEb,hlc,hcm,ck,-⟩:=h3.at hy
 rw [hyk,Nat.zero_mul,Nat.add_zero] at ck
 have c0:W.cell? ⟨X,0,none⟩=some (.slice se.a xs.length se.c):=h2.cell 0
 have lX:=h2.lt
 have lb:b<W.heap.size:=(h.EX b hEb).2.1
 have g1:(0:Int)<(xs.length:Int):=by omega
 unfold QbE
 rw [hp,hh,hf,hl]
 obtain ⟨sa,sc⟩:=se
 dsimp only at hsa hlc hcm c0
 subst hsa
 have hfew:=h3.few
 have hnl:xs.length≤140737488355328:=by omega
 clear h hp hh hf hl h1 h2 h3 hlen hy hyk hx hfew
 go_enter Tryz.func123,Tryz.ntmps123
 go_wp2_with fail
 refine bodyPost_ret (v:=.tuple #[.agg #[.pointer none,.int .i64 (-1),.string e.1,.string e.1],.bool true]) (by simp [results,Tryz.results123,go_sem]) rfl ?_
 exact ⟨rfl,(Ext.refl W).alloc _ _⟩
theorem QlB (h:Cur F E lo X row x W) (hx:x.gone):Calls Tryz.prog 123 #[Qe0 X] W (QbE x false W):=by
 obtain ⟨es,ns,o⟩:=x
 obtain ⟨rfl,rfl⟩:es=[]∧ns=[]:=hx
 obtain ⟨se,nd,xs,h1,h2,-,-,-⟩:=h.ex
 have hxs:xs=[]:=List.map_eq_nil_iff.1 h1
 subst hxs
 have c0:W.cell? ⟨X,0,none⟩=some (.slice se.a 0 se.c):=h2.cell 0
 have c1:W.cell? ⟨X,1,none⟩=some (.slice nd.a 0 nd.c):=h2.cell 1
 have lX:=h2.lt
 unfold QbE
 show Calls _ _ _ _ fun e w'=>e=.returned (.tuple #[.agg #[.pointer none,.int .i64 0,.string ByteArray.empty,.string ByteArray.empty],.bool false])∧Ext W w'
 clear h h1 h2
 go_enter Tryz.func123,Tryz.ntmps123
 go_wp2_with fail
 refine bodyPost_ret (v:=.tuple #[.agg #[.pointer none,.int .i64 0,.string ByteArray.empty,.string ByteArray.empty],.bool false]) (by simp [results,Tryz.results123,go_sem];rfl) rfl ?_
 exact ⟨rfl,(Ext.refl W).alloc _ _⟩
theorem Qnc {W:World} {base e g cap n:Nat} {xs:List Value} {v:Value} (h:W.ownsRow base e 1 (.slice (some ⟨g,0,none⟩) (n+1) cap) (n+1) (xs++[v])):W.ownsRow base e 1 (.slice (some ⟨g,0,none⟩) n cap) n xs:=by
 have h1:xs.length=n:=by have:=h.1;simpa using this
 rcases h.2 with ⟨hv,h0⟩ | ⟨g',cap',cur,hv,hbg,hg,hnc,hcm,hcs,ht⟩
 ·omega
 simp only [Value.slice.injEq,Option.some.injEq,Addr.mk.injEq,true_and,and_true] at hv
 obtain ⟨rfl,rfl⟩:=hv
 refine ⟨by omega,.inr ⟨g,cap,cur,rfl,hbg,hg,by omega,hcm,hcs,?_⟩⟩
 have:=congrArg (List.take n) ht
 rw [List.take_take,List.take_left' h1] at this
 rw [←this]
 congr 1
 omega
theorem Cur.top (h:Cur F E lo X row x W) {ns:List AN} {a:AN} (hn:x.ns=ns++[a]) :
  ∃ (es:Sl) (xs:List LE) (g cap:Nat),xs.map LE.ent=x.es∧Blk W X 202 #[.slice es.a xs.length es.c,.slice (some ⟨g,0,none⟩) (ns.length+1) cap,.int .i64 x.o]∧ES W E es xs∧W.ownsRow lo 31 1 (.slice (some ⟨g,0,none⟩) (ns.length+1) cap) (ns.length+1) (ns.map AN.p++[a.p])∧row=some g∧
   lo≤g∧g<W.heap.size∧ns.length+1≤cap∧cap≤maxLen∧W.cell? ⟨g,ns.length,none⟩=some a.p∧IsN W F a.1 a.2∧ns.length≤1000000:=by
 obtain ⟨es,nd,xs,h1,h2,h3,h4,h5⟩:=h.ex
 have hl:=h.len
 have hm:x.ns.length=ns.length+1:=by rw [hn];simp
 have hmp:x.ns.map AN.p=ns.map AN.p++[a.p]:=by rw [hn];simp
 rw [hm] at h2 h4
 rw [hmp] at h4
 obtain ⟨g,cap,rfl,hg,hnc,hcm,hf⟩:=Qat h4 (Nat.succ_pos _)
 have hc:=h4.cells (g:=g) rfl
 refine ⟨es,xs,g,cap,h1,h2,h3,h4,h5.symm,hg,hf.lt,hnc,hcm,?_,h.nodes a (by rw [hn];simp),by omega⟩
 have:=hc ns.length a.p (by rw [List.getElem?_append_right (by simp)];simp)
 rwa [Qbb,Nat.zero_add] at this
theorem QlA (h:Cur F E lo X row x W) {a:AN} (hx:x.node=some a):Calls Tryz.prog 123 #[Qe0 X] W (QbE x true W):=by
 obtain ⟨hes,hns,hgl⟩:=x.Qaj hx
 have hp:x.Qf2=a.p:=by simp [Qam.Qf2,hx]
 have hh:=x.QbP hx
 have hf:x.first=Qan a.es:=by simp [Qam.first,hes,hgl]
 have hl:x.last=Qa5 a.es:=by simp [Qam.last,hes,hgl]
 obtain ⟨es,xs,g,cap,h1,h2,-,-,-,-,hgl',hnc,hcm,hca,hna,hnl⟩:=h.top hns
 rw [hes] at h1
 have hxs:xs=[]:=List.map_eq_nil_iff.1 h1
 subst hxs
 unfold QbE
 rw [hp,hh,hf,hl]
 have c0:W.cell? ⟨X,0,none⟩=some (.slice es.a 0 es.c):=h2.cell 0
 have c1:W.cell? ⟨X,1,none⟩=some (.slice (some ⟨g,0,none⟩) (x.ns.dropLast.length+1) cap):=h2.cell 1
 have lX:=h2.lt
 have hha:∀ W',Ext W W'→Calls Tryz.prog 75 #[a.p] W' fun e w'=>e=.returned (.int .i64 a.1)∧W'=w':=fun W' hW=>Qas (F:=F) (hna.agree (hW.agree fun b hb=>Nat.lt_of_lt_of_le (h.FX b hb) h.low))
 have hfa:∀ W',Ext W W'→Calls Tryz.prog 104 #[a.p] W' fun e w'=>e=.returned (.string (Qan a.es))∧W'=w':=fun W' hW=>Qfq (F:=F) (hna.agree (hW.agree fun b hb=>Nat.lt_of_lt_of_le (h.FX b hb) h.low))
 have hla:∀ W',Ext W W'→Calls Tryz.prog 102 #[a.p] W' fun e w'=>e=.returned (.string (Qa5 a.es))∧W'=w':=fun W' hW=>QjD (F:=F) (hna.agree (hW.agree fun b hb=>Nat.lt_of_lt_of_le (h.FX b hb) h.low))
 have HHA:=Lib.hid hha
 have HFA:=Lib.hid hfa
 have HLA:=Lib.hid hla
 generalize x.ns.dropLast.length=m at *
 obtain ⟨ah,at_⟩:=a
 obtain ⟨fk,hfk⟩:∃ k,Qan (AN.es ⟨ah,at_⟩)=k:=⟨_,rfl⟩
 obtain ⟨lk,hlk⟩:∃ k,Qa5 (AN.es ⟨ah,at_⟩)=k:=⟨_,rfl⟩
 rw [hfk] at HFA ⊢
 rw [hlk] at HLA ⊢
 dsimp only [AN.p,ptr] at HHA HFA HLA hca ⊢
 generalize addr ah at_=A at *
 have g0:(0:Int)<(m:Int)+1:=by omega
 have g1:(m:Int)<(m:Int)+1:=by omega
 have g2:(0:Int)≤(m:Int):=by omega
 clear h hx hes hns hgl hp hh hf hl h1 h2 hna hha hfa hla hfk hlk
 go_enter Tryz.func123,Tryz.ntmps123
 go_wp2_with fail
 go_region
 go_wp2_with fail
 have hx0:Ext W (W.alloc (.cells #[.pointer none,.int .i64 0,.string ByteArray.empty,.string ByteArray.empty] 194)).drew:=((Ext.refl W).alloc _ _).drew
 refine (HHA.out _ hx0).mono ?_
 rintro e w1 ⟨rfl,rfl⟩
 go_wp2_with fail
 refine (HFA.out _ hx0).mono ?_
 rintro e w1 ⟨rfl,rfl⟩
 go_wp2_with fail
 refine (HLA.out _ hx0).mono ?_
 rintro e w1 ⟨rfl,rfl⟩
 go_wp2_with fail
 refine bodyPost_ret (v:=.tuple #[.agg #[.pointer (some ⟨A,0,none⟩),.int .i64 ah,.string fk,.string lk],.bool true]) (by simp [results,Tryz.results123,go_sem]) rfl ?_
 exact ⟨rfl,((Ext.refl W).alloc _ _).drew⟩
theorem Qe7 (h:Cur F E lo X row x W) {a:AN} (hx:x.node=some a):Calls Tryz.prog 124 #[Qe0 X] W fun e w'=>e=.returned (.tuple #[])∧Cur F E lo X row x.skip w'∧St (fun b=>b=X) W w':=by
 obtain ⟨hes,hns,hgl⟩:=x.Qaj hx
 have htot:=(x.Qe8 hx).2
 obtain ⟨es,xs,g,cap,h1,h2,h3,h4,hrow,hlg,hgl',hnc,hcm,hca,hna,hnl⟩:=h.top hns
 have c1:W.cell? ⟨X,1,none⟩=some (.slice (some ⟨g,0,none⟩) (x.ns.dropLast.length+1) cap):=h2.cell 1
 have f1:=h2.frozen 1
 have lX:=h2.lt
 have hne:=h.ne
 have hfin:∀ W',St (fun b=>b=X) W W'→Blk W' X 202 #[.slice es.a xs.length es.c,.slice (some ⟨g,0,none⟩) x.ns.dropLast.length cap,.int .i64 x.o]→Cur F E lo X row x.skip W':=fun W' hst hb=>by
  have hag:∀ b,b<W.heap.size→b≠X→W'.heap[b]? = W.heap[b]?:=fun b hb hn=>hst.block b hb hn
  refine ⟨⟨es,⟨some ⟨g,0,none⟩,cap⟩,xs,h1,hb,h3.agree fun b hb=>hag b (h.EX b hb).2.1 (h.EX b hb).2.2.1,?_,by rw [hrow];rfl⟩,fun a' ha=>(h.nodes a' (List.dropLast_subset _ ha)).agree fun b hb=>hag b (Nat.lt_of_lt_of_le (h.FX b hb) h.low) (by have:=h.FX b hb;have:=h.lX;omega),h.lX,h.ne,by have:=h.few;omega,h.FX,fun b hb=>⟨(h.EX b hb).1,Nat.lt_of_lt_of_le (h.EX b hb).2.1 hst.size,(h.EX b hb).2.2⟩⟩
  exact Qad (s:=⟨some ⟨g,0,none⟩,cap⟩) (Qnc h4) (fun b (hb:b<W.heap.size∧b≠X)=>hag b hb.1 hb.2) (fun b hb=>by
   obtain rfl:g=b:=by simpa [Sl.row] using hb
   exact ⟨hgl',fun e=>hne (by rw [hrow,e])⟩)
 have H2:=Lib.hid h2
 have HFIN:=Lib.hid hfin
 generalize x.ns.dropLast.length=m at *
 have g0:(0:Int)≤(m:Int):=by omega
 have g1:(m:Int)≤(cap:Int):=by omega
 clear h hx hes hns hgl htot h1 h2 h3 h4 hrow hca hna hfin hne
 go_enter Tryz.func124,Tryz.ntmps124
 go_wp2_with fail
 go_region
 go_wp2_with fail
 go_end0
 have hset:St (fun b=>b=X) W (W.setCell ⟨X,1,none⟩ (.slice (some ⟨g,0,none⟩) m cap)):=(St.refl (fun b=>b=X) W).set (p:=⟨X,1,none⟩) (.inr rfl) _
 have hb:=H2.out.QaN 1 (.slice (some ⟨g,0,none⟩) m cap)
 exact ⟨rfl,HFIN.out _ hset.drew (hb.ext ((Ext.refl _).drew)),hset.drew⟩
theorem ES.tail {w:World} {F:Nat→Prop} {b o c:Nat} {x:LE} {xs:List LE} (h:ES w F ⟨some ⟨b,o,none⟩,c⟩ (x :: xs)):ES w F ⟨some ⟨b,o+7,none⟩,c - 1⟩ xs∧(xs=[]→∀ a,ES w F ⟨some a,0⟩ xs):=by
 obtain ⟨⟨b',o',h1,h2,h3⟩,hv,hf⟩:=h
 obtain ⟨e1,e2,e3⟩:=h1.eq (by simp)
 have hF:=h1.fits (by simp)
 obtain ⟨rfl,rfl⟩:b=b'∧o=o':=by simpa using e1
 simp only [List.length_cons] at e2 hf
 dsimp only at e3
 refine ⟨⟨⟨b,o+7,.some _ _ _ _ (by omega) (by omega) hF,by rw [QaK],fun j u hj=>?_⟩,fun y hy=>hv y (List.mem_cons_of_mem _ hy),by omega⟩,?_⟩
 ·rw [Nat.add_assoc]
  refine h3 _ u ?_
  have e:Qaf (x :: xs)=x.cells++Qaf xs:=by simp [Qaf]
  rw [e,List.getElem?_append_right (by simp [LE.cells]),show 7+j - x.cells.length=j from by simp [LE.cells]]
  exact hj
 rintro rfl a
 exact ⟨⟨b,o,.zero _ _ _,by simp [Qaf],fun j u hj=>by simp [Qaf] at hj⟩,fun y hy=>by simp at hy,by simp⟩
theorem QbY (h:Cur F E lo X row x W) {e:Ent} {es:List Ent} (hx:x.es=e :: es):Calls Tryz.prog 127 #[Qe0 X] W fun e' w'=>∃ sl so,e'=.returned (Qem e.1 e.2 sl so)∧Cur F E lo X row x.take w'∧St (fun b=>b=X) W w'∧RV w' E e.2 sl so∧e.1.size≤maxLen:=by
 obtain ⟨se,nd,xs,h1,h2,h3,h4,h5⟩:=h.ex
 obtain ⟨y,ys,rfl⟩:∃ y ys,xs=y :: ys:=by
  cases xs with
  | nil=>rw [hx] at h1;simp at h1
  | cons y ys=>exact ⟨y,ys,rfl⟩
 have hye:y.ent=e∧ys.map LE.ent=es:=by
  rw [hx] at h1;simpa using h1
 obtain ⟨b,o,hsa,hEb,hlc,hcm,ck,⟨v0,v1,v2,v3,v4,v5⟩,hrv,hkm⟩:=h3.at (i:=0) (x:=y) rfl
 have htot:x.take.tot=x.tot:=rfl
 obtain ⟨sa,sc⟩:=se
 dsimp only at hsa hlc hcm
 subst hsa
 obtain ⟨yk,yv,sl,so⟩:=y
 obtain ⟨hye,hys⟩:=hye
 obtain rfl:(yk,yv)=e:=hye
 dsimp only at ck v0 v1 v2 v3 v4 v5 hrv hkm
 rw [Nat.zero_mul,Nat.add_zero] at ck v0 v1 v2 v3 v4 v5
 have hne:=h.ne
 have hEX:=h.EX
 have hfin:∀ (W':World) (s':Sl),St (fun b=>b=X) W W'→Blk W' X 202 #[.slice s'.a ys.length s'.c,.slice nd.a x.ns.length nd.c,.int .i64 x.o]→(s'=⟨some ⟨b,o+7,none⟩,sc - 1⟩∨(ys=[]∧∃ a,s'=⟨some a,0⟩))→Cur F E lo X row x.take W'∧RV W' E yv sl so:=fun W' s' hst hb hs=>by
  have hag:∀ b,b<W.heap.size→b≠X→W'.heap[b]? = W.heap[b]?:=fun b hb hn=>hst.block b hb hn
  have hagE:Agree E W W':=fun b hb=>hag b (hEX b hb).2.1 (hEX b hb).2.2.1
  obtain ⟨ht1,ht2⟩:=h3.tail
  have hes:ES W E s' ys:=by
   rcases hs with rfl | ⟨h0,a,rfl⟩
   ·exact ht1
   exact ht2 h0 a
  refine ⟨⟨⟨s',nd,ys,by rw [hys];simp [Qam.take,hx],hb,hes.agree hagE,Qad h4 (fun b (hb:b<W.heap.size∧b≠X)=>hag b hb.1 hb.2) (fun b hb=>?_),h5⟩,fun a' ha=>(h.nodes a' ha).agree fun b hb=>hag b (Nat.lt_of_lt_of_le (h.FX b hb) h.low) (by have:=h.FX b hb;have:=h.lX;omega),h.lX,h.ne,by rw [htot];exact h.few,h.FX,fun b hb=>⟨(h.EX b hb).1,Nat.lt_of_lt_of_le (h.EX b hb).2.1 hst.size,(h.EX b hb).2.2⟩⟩,hrv.agree hagE⟩
  exact ⟨(Qac h4 hb).2,fun e=>hne (by rw [←h5,hb,e])⟩
 have HFIN:=Lib.hid hfin
 have H2:=Lib.hid h2
 have c0:W.cell? ⟨X,0,none⟩=some (.slice (some ⟨b,o,none⟩) (ys.length+1) sc):=h2.cell 0
 have f0:=h2.frozen 0
 have lX:=h2.lt
 have lb:b<W.heap.size:=(hEX b hEb).2.1
 have hsc:ys.length+1≤sc:=hlc
 have hys1:ys.length+1=1→ys=[]:=fun h=>List.eq_nil_of_length_eq_zero (by omega)
 have HYS:=Lib.hid hys1
 have HKM:=Lib.hid hkm
 have hfew:=h3.few
 have hnl:ys.length≤140737488355328:=by simp only [List.length_cons] at hfew;omega
 have g0:(0:Int)<(ys.length:Int)+1:=by omega
 have g1:(1:Int)≤(ys.length:Int)+1:=by omega
 have g2:(ys.length:Int)+1≤(sc:Int):=by omega
 have g3:(1:Int)≤(sc:Int):=by omega
 have hneX:¬W.heap.size=X:=by omega
 have hneX':¬W.heap.size+1=X:=by omega
 have hneb:¬W.heap.size=b:=by omega
 have hneb':¬W.heap.size+1=b:=by omega
 dsimp only
 clear h hx hys h1 h2 h3 h4 h5 hne hEX hEb hrv hfin htot hlc hys1 hfew hkm
 by_cases hc1:sc=1
 ·obtain rfl:=hc1
  have hl0:ys.length=0:=by omega
  go_enter Tryz.func127,Tryz.ntmps127
  go_wp2_with fail
  refine bodyPost_ret (v:=Qem yk yv sl so) (by simp [results,Tryz.results127,go_sem]) rfl ?_
  have hset:St (fun b=>b=X) W (W.setCell ⟨X,0,none⟩ (.slice (some ⟨b,o,none⟩) 0 0)):=(St.refl (fun b=>b=X) W).set (p:=⟨X,0,none⟩) (.inr rfl) _
  have hb:=H2.out.QaN 0 (.slice (some ⟨b,o,none⟩) 0 0)
  generalize hW1:W.setCell ⟨X,0,none⟩ (.slice (some ⟨b,o,none⟩) 0 0)=W1 at *
  have hx:Ext W1 ((W1.alloc (.cells #[.string yk,.int .i64 yv.kind,.bool yv.b,.int .i64 yv.i,.string yv.t,.slice sl.a yv.l.length sl.c,.slice so.a yv.ok.length so.c] 47)).alloc (.cells #[.string yk,.int .i64 yv.kind,.bool yv.b,.int .i64 yv.i,.string yv.t,.slice sl.a yv.l.length sl.c,.slice so.a yv.ok.length so.c] 47)):=((Ext.refl W1).alloc _ _).alloc _ _
  have hr0:ys=[]:=HYS.out (by omega)
  have hb':Blk W1 X 202 #[.slice (some ⟨b,o,none⟩) ys.length 0,.slice nd.a x.ns.length nd.c,.int .i64 x.o]:=by rw [hl0];exact hb
  have hr:=HFIN.out _ ⟨some ⟨b,o,none⟩,0⟩ (hset.ext hx) (hb'.ext hx) (.inr ⟨hr0,_,rfl⟩)
  exact ⟨sl,so,rfl,hr.1,hset.ext hx,hr.2,HKM.out⟩
 have hc1':¬(1:Nat)=sc:=fun e=>hc1 e.symm
 go_enter Tryz.func127,Tryz.ntmps127
 go_wp2_with fail
 refine bodyPost_ret (v:=Qem yk yv sl so) (by simp [results,Tryz.results127,go_sem]) rfl ?_
 have hset:St (fun b=>b=X) W (W.setCell ⟨X,0,none⟩ (.slice (some ⟨b,o+7,none⟩) ys.length (sc - 1))):=(St.refl (fun b=>b=X) W).set (p:=⟨X,0,none⟩) (.inr rfl) _
 have hb:=H2.out.QaN 0 (.slice (some ⟨b,o+7,none⟩) ys.length (sc - 1))
 generalize hW1:W.setCell ⟨X,0,none⟩ (.slice (some ⟨b,o+7,none⟩) ys.length (sc - 1))=W1 at *
 have hx:Ext W1 ((W1.alloc (.cells #[.string yk,.int .i64 yv.kind,.bool yv.b,.int .i64 yv.i,.string yv.t,.slice sl.a yv.l.length sl.c,.slice so.a yv.ok.length so.c] 47)).alloc (.cells #[.string yk,.int .i64 yv.kind,.bool yv.b,.int .i64 yv.i,.string yv.t,.slice sl.a yv.l.length sl.c,.slice so.a yv.ok.length so.c] 47)):=((Ext.refl W1).alloc _ _).alloc _ _
 have hr:=HFIN.out _ ⟨some ⟨b,o+7,none⟩,sc - 1⟩ (hset.ext hx) (hb.ext hx) (.inl rfl)
 exact ⟨sl,so,rfl,hr.1,hset.ext hx,hr.2,HKM.out⟩
end
def Qdd (T:RT):Qam:=⟨[],T.toList,0⟩
theorem QcC (T:RT):(Qdd T).cont=Qak T:=by
 cases T with
 | none=>rfl
 | some a=>show []++([a].reverse).flatMap AN.es=_;simp;rfl
theorem QdO {T:RT} (ok:OkR T):(Qdd T).ok:=by
 intro a ha
 cases T with
 | none=>cases ha
 | some b=>
   obtain rfl:a=b:=by simpa [Qdd] using ha
   exact ⟨ok.1,ok.2.1⟩
def QlZ (T:RT):Nat:=QaW T.toList
theorem QgB (T:RT):(Qdd T).tot=QlZ T:=by show 0+_=_;rw [Nat.zero_add];rfl
def Qdw (F:Nat→Prop) (lo:Nat) (T:RT) (w:World) (e:Ending) (w':World):Prop:=
 ∃ X row,e=.returned (Qe0 X)∧Ext w w'∧Cur F (fun _=>False) lo X row (Qdd T) w'∧w.heap.size≤X∧∀ b,row=some b→w.heap.size≤b
theorem Qih {w:World} {F:Nat→Prop} {T:RT} {lo:Nat} (hT:IsT w F T) (hF:∀ b,F b→b<lo) (hlo:lo≤w.heap.size) (hn:QlZ T≤1000000):Calls Tryz.prog 100 #[QaC T] w (Qdw F lo T w):=by
 obtain ⟨i0,hi,hz0,hz1,hz2⟩:=info_parts Tryz.QaZ
 cases T with
 | none=>
   show Calls _ _ #[.agg #[.pointer none]] _ _
   go_enter Tryz.func100,Tryz.ntmps100
   go_wp2_with fail
   generalize hW0:World.alloc (World.alloc _ _) _=W0
   obtain ⟨hx0,hz0',hb0,hb1⟩:=Qaz w _ _ _ _ W0 hW0
   clear hW0
   refine (QcX _ _).mono ?_
   rintro e w1 ⟨rfl,hx1⟩
   go_wp2_with fail
   go_ret
   refine ⟨w.heap.size+1,none,rfl,hx0.trans hx1,⟨⟨Sl.none,Sl.none,[],rfl,hb1.ext hx1,ES.nil _ _,World.ownsRow_nil _ _ _ _,rfl⟩,fun a ha=>(by cases ha),by omega,by simp,by rw [QgB];exact hn,hF,fun b hb=>hb.elim⟩,by omega,fun b hb=>(by cases hb)⟩
 | some a=>
   obtain ⟨h,t⟩:=a
   have hT:IsN w F h t:=hT
   have HT:=Lib.hid hT
   have HF:=Lib.hid hF
   have HN:=Lib.hid hn
   clear hT hF hn
   show Calls _ _ #[.agg #[ptr h t]] _ _
   have hfin:∀ (w':World) (g cap:Nat),Ext w w'→Blk w' (w.heap.size+1) 202 #[.slice none 0 0,.slice (some ⟨g,0,none⟩) 1 cap,.int .i64 0]→w'.ownsRow w.heap.size 31 1 (.slice (some ⟨g,0,none⟩) 1 cap) 1 [ptr h t]→g≠w.heap.size+1→Qdw F lo (some ⟨h,t⟩) w (.returned (Qe0 (w.heap.size+1))) w':=fun w' g cap hx hb ho hg=>by
    have hgl:=Qac (s:=⟨some ⟨g,0,none⟩,cap⟩) ho rfl
    refine ⟨w.heap.size+1,some g,rfl,hx,⟨⟨Sl.none,⟨some ⟨g,0,none⟩,cap⟩,[],rfl,hb,ES.nil _ _,⟨ho.1,?_⟩,rfl⟩,fun a ha=>?_,by omega,by simpa using hg,by rw [QgB];exact HN.out,HF.out,fun b hb=>hb.elim⟩,by omega,fun b hb=>?_⟩
    ·rcases ho.2 with h | ⟨g',cap',cur,h1,h2,h3⟩
     ·exact .inl h
     exact .inr ⟨g',cap',cur,h1,Nat.le_trans hlo h2,h3⟩
    ·obtain rfl:a=⟨h,t⟩:=by simpa [Qdd] using ha
     exact HT.out.agree (hx.agree fun b hb=>Nat.lt_of_lt_of_le (HF.out b hb) hlo)
    obtain rfl:g=b:=by simpa using hb
    exact hgl.1
   have HFIN:=Lib.hid hfin
   clear hfin
   dsimp only [ptr] at HFIN ⊢
   generalize addr h t=A at *
   have h63:0+1≤maxLen:=by decide
   go_enter Tryz.func100,Tryz.ntmps100
   go_wp2_with fail
   generalize hW0:World.alloc (World.alloc _ _) _=W0
   obtain ⟨hx0,hz0',hb0,hb1⟩:=Qaz w _ _ _ _ W0 hW0
   clear hW0
   refine (QcX _ _).mono ?_
   rintro e w1 ⟨rfl,hx1⟩
   have hb2:=hb1.ext hx1
   have c1:w1.cell? ⟨w.heap.size+1,1,none⟩=some (.slice none 0 0):=hb2.cell 1
   have f1:=hb2.frozen 1
   have l1:=hb2.lt
   have HX1:=Lib.hid (hx0.trans hx1)
   have HB2:=Lib.hid hb2
   have hs1:=HX1.out.size
   clear hx0 hx1 hb0 hb1 hb2
   go_wp2_with (at_builtin;refine Qae _ rfl _ _ 141 rfl w.heap.size 31 i0 (.pointer none) 1 8 Tryz.underlying141 hi hz0 hz1 hz2 rfl (by decide) Sl.none 0 [] rfl (World.ownsRow_nil _ _ _ _) (fun _=>True) ⟨some ⟨w1.heap.size,0,none⟩,1⟩ 1 [.pointer (some ⟨A,0,none⟩)] rfl (Rd.one _ _ _) (by simp [Value.oneCell']) h63 (by omega) (by simp;omega) ?_;intro s2 w2 hown2 hwr2 hsk;have hx2:=((Ext.refl w1).alloc #[.pointer (some ⟨A,0,none⟩)] 31).wr hwr2 (fun i hi=>by simp [Sl.row] at hi);have hb3:=HB2.out.ext hx2;have c2:w2.cell? ⟨w.heap.size+1,1,none⟩=some (.slice none 0 0):=hb3.cell 1;have f2:=hb3.frozen 1;have l2:=hb3.lt;have HX2:=Lib.hid hx2;have HB3:=Lib.hid hb3;have HOWN:=Lib.hid hown2;have HSK:=Lib.hid hsk;clear hown2 hwr2 hsk hx2 hb3)
   obtain ⟨g,cap,rfl,hg,hnc,hcm,hfl⟩:=Qat HOWN.out (by omega)
   have hgne:g≠w.heap.size+1:=by
    rcases HSK.out with hs | ⟨hs,-⟩
    ·simp at hs
    simp only [Option.some.injEq,Addr.mk.injEq,and_true,World.size_alloc] at hs
    omega
   have hE:=(HX1.out.trans HX2.out).setCell (p:=⟨w.heap.size+1,1,none⟩) (Nat.le_succ _) (.slice (some ⟨g,0,none⟩) 1 cap)
   have hst:St (fun b=>b=w.heap.size+1) w2 (w2.setCell ⟨w.heap.size+1,1,none⟩ (.slice (some ⟨g,0,none⟩) 1 cap)):=(St.refl (fun b=>b=w.heap.size+1) w2).set (p:=⟨w.heap.size+1,1,none⟩) (.inr rfl) _
   go_ret
   exact HFIN.out _ g cap hE (HB3.out.QaN 1 _) (Qad (s:=⟨some ⟨g,0,none⟩,cap⟩) HOWN.out hst.agree (fun b hb=>by
    obtain rfl:g=b:=by simpa [Sl.row] using hb
    exact ⟨hfl.lt,hgne⟩)) hgne
structure CE where
 c:Chg
 slw:Sl
 sow:Sl
 sli:Sl
 soi:Sl
abbrev CE.cells (x:CE):Array Value:=#[.string x.c.k,.bool x.c.had,.int .i64 x.c.was.kind,.bool x.c.was.b,.int .i64 x.c.was.i,.string x.c.was.t,.slice x.slw.a x.c.was.l.length x.slw.c,.slice x.sow.a x.c.was.ok.length x.sow.c,
 .bool x.c.has,.int .i64 x.c.is_.kind,.bool x.c.is_.b,.int .i64 x.c.is_.i,.string x.c.is_.t,.slice x.sli.a x.c.is_.l.length x.sli.c,.slice x.soi.a x.c.is_.ok.length x.soi.c]
abbrev CE.agg (x:CE):Value:=.agg x.cells
structure CR (w:World) (F:Nat→Prop) (x:CE):Prop where
 was:RV w F x.c.was x.slw x.sow
 is_:RV w F x.c.is_ x.sli x.soi
 key:x.c.k.size≤maxLen
theorem CR.agree {w w':World} {F:Nat→Prop} {x:CE} (h:CR w F x) (ha:Agree F w w'):CR w' F x:=⟨h.was.agree ha,h.is_.agree ha,h.key⟩
theorem CR.mono {w:World} {F G:Nat→Prop} {x:CE} (h:CR w F x) (hG:∀ i,F i→G i):CR w G x:=⟨h.was.mono hG,h.is_.mono hG,h.key⟩
theorem Qd7 (w:World) (F:Nat→Prop):RV w F zeroV Sl.none Sl.none:=RV.flat _ _ _ _ _ _ (by decide) (by decide) (by decide)
def Qft (e:Ent) (sl so:Sl):CE:=⟨QeM e,sl,so,Sl.none,Sl.none⟩
def Qfl (e:Ent) (sl so:Sl):CE:=⟨Qfk e,Sl.none,Sl.none,sl,so⟩
theorem QiI {w:World} {F:Nat→Prop} {e:Ent} {sl so:Sl} (h:RV w F e.2 sl so) (hk:e.1.size≤maxLen):CR w F (Qft e sl so):=⟨h,Qd7 _ _,hk⟩
theorem QiB {w:World} {F:Nat→Prop} {e:Ent} {sl so:Sl} (h:RV w F e.2 sl so) (hk:e.1.size≤maxLen):CR w F (Qfl e sl so):=⟨Qd7 _ _,h,hk⟩
theorem Qg0 (w:World) (e:Ent) (sl so:Sl):Calls Tryz.prog 126 #[Qem e.1 e.2 sl so] w fun e' w'=>e'=.returned (Qft e sl so).agg∧Ext w w':=by
 obtain ⟨k,v⟩:=e
 go_enter Tryz.func126,Tryz.ntmps126
 go_wp2_with fail
 refine bodyPost_ret (v:=(Qft (k,v) sl so).agg) (by simp [results,Tryz.results126,go_sem];simp [Qft,QeM,zeroV,Val.kind,Val.b,Val.i,Val.t,Val.l,Val.ok,Sl.none];rfl) rfl ?_
 exact ⟨rfl,((Ext.refl w).alloc _ _).alloc _ _⟩
theorem QgW (w:World) (e:Ent) (sl so:Sl):Calls Tryz.prog 128 #[Qem e.1 e.2 sl so] w fun e' w'=>e'=.returned (Qfl e sl so).agg∧Ext w w':=by
 obtain ⟨k,v⟩:=e
 go_enter Tryz.func128,Tryz.ntmps128
 go_wp2_with fail
 refine bodyPost_ret (v:=(Qfl (k,v) sl so).agg) (by simp [results,Tryz.results128,go_sem];simp [Qfl,Qfk,zeroV,Val.kind,Val.b,Val.i,Val.t,Val.l,Val.ok,Sl.none];rfl) rfl ?_
 exact ⟨rfl,((Ext.refl w).alloc _ _).alloc _ _⟩
end Go.Proofs.YtohajcflklejjaaGreat
namespace Go.Proofs.YtohajcflklejjaaGreat
open Go.RowKit
set_option linter.unusedVariables false
set_option linter.unusedSimpArgs false
theorem Qb7:∀ (a b:List UInt8),Lib.compareBytes a b=if Op.bytesLess a b then -1 else if Op.bytesLess b a then 1 else 0
 | [],[]=>rfl
 | [],b :: v=>by simp [Lib.compareBytes,Op.bytesLess]
 | a :: u,[]=>by simp [Lib.compareBytes,Op.bytesLess]
 | a :: u,b :: v=>by
   simp only [Lib.compareBytes,Op.bytesLess]
   by_cases h1:a<b
   ·simp [h1]
   by_cases h2:b<a
   ·have h3:¬a=b:=fun e=>by subst e;exact h1 h2
    have h4:¬b=a:=fun e=>h3 e.symm
    simp [h1,h2,h3,h4]
   have h3:a=b:=UInt8.le_antisymm (UInt8.not_lt.1 h2) (UInt8.not_lt.1 h1)
   subst h3
   simp [h1,Qb7 u v]
theorem QdZ (a b:ByteArray):Lib.compareBytes a.data.toList b.data.toList=Qbp a b:=by
 rw [Qb7]
 unfold Qbp klt
 rw [ByteArray.toList_eq,ByteArray.toList_eq]
theorem QgV (w:World) (a b:ByteArray):Calls Tryz.prog 172 #[.string a,.string b] w fun e w'=>e=.returned (.int .i64 (Qbp a b))∧w=w':=by
 rw [←QdZ]
 go_enter Tryz.func172,Tryz.ntmps172
 go_wp2_with fail
 rw [run_callFunc_extern Tryz.func174 (by kernel_rfl) (by kernel_rfl) (by kernel_rfl) (e:=Extern.BytealgCompare.compare) (by kernel_rfl),Lib.run_compareString]
 simp only [Result.andThen]
 rw [Oper.upon_value]
 go_wp2_with fail
 go_ret
 exact ⟨rfl,rfl⟩
theorem QbX (w:World) (a b:ByteArray):Calls Tryz.prog 166 #[.string a,.string b] w fun e w'=>e=.returned (.int .i64 (Qbp a b))∧w=w':=by
 have h:=QgV w a b
 go_enter Tryz.func166,Tryz.ntmps166
 go_wp2_with fail
 refine h.mono ?_
 rintro e w1 ⟨rfl,rfl⟩
 go_wp2_with fail
 go_ret
 exact ⟨rfl,rfl⟩
theorem Qnl (w:World) (b:Bool):Calls Tryz.prog 164 #[.bool b] w fun e w'=>e=.returned (.int .i64 (if b then 1 else 0))∧w=w':=by
 cases b
 all_goals
  go_enter Tryz.func164,Tryz.ntmps164
  go_wp2_with fail
  go_ret
  exact ⟨rfl,rfl⟩
theorem QdG (w:World) (a:Int):Calls Tryz.prog 170 #[.int .i64 a] w fun e w'=>e=.returned (.bool false)∧w=w':=by
 go_enter Tryz.func170,Tryz.ntmps170
 go_wp2_with fail
 go_ret
 exact ⟨by simp,rfl⟩
theorem Qfm (w:World) (a b:Int):Calls Tryz.prog 163 #[.int .i64 a,.int .i64 b] w fun e w'=>e=.returned (.int .i64 (QbR a b))∧w=w':=by
 have hna:=QdG w a
 have hnb:=QdG w b
 have hcase:(QbR a b = -1∧a<b)∨(QbR a b=1∧¬a<b∧b<a)∨(QbR a b=0∧¬a<b∧¬b<a):=by
  unfold QbR;split
  ·exact .inl ⟨rfl,by assumption⟩
  split
  ·exact .inr (.inl ⟨rfl,by assumption,by assumption⟩)
  exact .inr (.inr ⟨rfl,by assumption,by assumption⟩)
 rcases hcase with ⟨hn,h1⟩ | ⟨hn,h1,h2⟩ | ⟨hn,h1,h2⟩
 all_goals
  rw [hn]
  clear hn
  go_enter Tryz.func163,Tryz.ntmps163
  go_wp2_with fail
  refine hna.mono ?_
  rintro e w1 ⟨rfl,rfl⟩
  go_wp2_with fail
  refine hnb.mono ?_
  rintro e w1 ⟨rfl,rfl⟩
  go_wp2_with fail
  go_ret
  exact ⟨rfl,rfl⟩
theorem Qdc (w:World) (a:Int):Calls Tryz.prog 171 #[.int .i64 a] w fun e w'=>e=.returned (.bool false)∧w=w':=by
 go_enter Tryz.func171,Tryz.ntmps171
 go_wp2_with fail
 go_ret
 exact ⟨by simp,rfl⟩
theorem QeL (w:World) (a b:Int):Calls Tryz.prog 165 #[.int .i64 a,.int .i64 b] w fun e w'=>e=.returned (.int .i64 (QbR a b))∧w=w':=by
 have hna:=Qdc w a
 have hnb:=Qdc w b
 have hcase:(QbR a b = -1∧a<b)∨(QbR a b=1∧¬a<b∧b<a)∨(QbR a b=0∧¬a<b∧¬b<a):=by
  unfold QbR;split
  ·exact .inl ⟨rfl,by assumption⟩
  split
  ·exact .inr (.inl ⟨rfl,by assumption,by assumption⟩)
  exact .inr (.inr ⟨rfl,by assumption,by assumption⟩)
 rcases hcase with ⟨hn,h1⟩ | ⟨hn,h1,h2⟩ | ⟨hn,h1,h2⟩
 all_goals
  rw [hn]
  clear hn
  go_enter Tryz.func165,Tryz.ntmps165
  go_wp2_with fail
  refine hna.mono ?_
  rintro e w1 ⟨rfl,rfl⟩
  go_wp2_with fail
  refine hnb.mono ?_
  rintro e w1 ⟨rfl,rfl⟩
  go_wp2_with fail
  go_ret
  exact ⟨rfl,rfl⟩
theorem Qes (w:World) (a:Int):Calls Tryz.prog 175 #[.int .i64 a] w fun e w'=>e=.returned (.bool false)∧w=w':=by
 go_enter Tryz.func175,Tryz.ntmps175
 go_wp2_with fail
 go_ret
 exact ⟨by simp,rfl⟩
theorem Qdb (w:World) (a b:Int):Calls Tryz.prog 173 #[.int .i64 a,.int .i64 b] w fun e w'=>e=.returned (.int .i64 (QbR a b))∧w=w':=by
 have hna:=Qes w a
 have hnb:=Qes w b
 have hcase:(QbR a b = -1∧a<b)∨(QbR a b=1∧¬a<b∧b<a)∨(QbR a b=0∧¬a<b∧¬b<a):=by
  unfold QbR;split
  ·exact .inl ⟨rfl,by assumption⟩
  split
  ·exact .inr (.inl ⟨rfl,by assumption,by assumption⟩)
  exact .inr (.inr ⟨rfl,by assumption,by assumption⟩)
 rcases hcase with ⟨hn,h1⟩ | ⟨hn,h1,h2⟩ | ⟨hn,h1,h2⟩
 all_goals
  rw [hn]
  clear hn
  go_enter Tryz.func173,Tryz.ntmps173
  go_wp2_with fail
  refine hna.mono ?_
  rintro e w1 ⟨rfl,rfl⟩
  go_wp2_with fail
  refine hnb.mono ?_
  rintro e w1 ⟨rfl,rfl⟩
  go_wp2_with fail
  go_ret
  exact ⟨rfl,rfl⟩
def Qmv (m:Nat):Prop:=∀ (x y:Val),SizeOf.sizeOf x≤m→∀ (w:World) (sl so sl' so':Sl),RV w (Lt w.heap.size) x sl so→RV w (Lt w.heap.size) y sl' so'→Calls Tryz.prog 161 #[Qb5 x sl so,Qb5 y sl' so'] w (Qbe (Qbq x y) w)
theorem QhZ (a b:Nat):∃ c:Nat,(if a<b then (a:Int) else (b:Int))=(c:Int)∧(if b<a then (b:Int) else (a:Int))=(c:Int)∧c≤a∧c≤b∧(c=a∨c=b):=by
 by_cases h:a<b
 ·exact ⟨a,by rw [if_pos h],by rw [if_neg (by omega)],by omega,by omega,.inl rfl⟩
 by_cases h':b<a
 ·exact ⟨b,by rw [if_neg h],by rw [if_pos h'],by omega,by omega,.inr rfl⟩
 exact ⟨a,by rw [if_neg h];omega,by rw [if_neg h'],by omega,by omega,.inl rfl⟩
theorem Qm1 {m:Nat} (hih:Qmv m) {x y:Val} (hd:SizeOf.sizeOf x≤m+1) {w:World} {sl so sl' so':Sl} (h:RV w (Lt w.heap.size) x sl so) (h':RV w (Lt w.heap.size) y sl' so') :
  Calls Tryz.prog 167 #[.slice sl.a x.l.length sl.c,.slice sl'.a y.l.length sl'.c,.func (.func 161) #[] #[]] w (Qbe (cmpL x.l y.l) w):=by
 have HI:=Lib.hid hih
 clear hih
 obtain ⟨k,b,i,t,l,ok,ov⟩:=x
 obtain ⟨k',b',i',t',l',ok',ov'⟩:=y
 show Calls _ _ #[.slice sl.a l.length sl.c,.slice sl'.a l'.length sl'.c,_] _ (Qbe (cmpL l l') w)
 cases h with
 | mk bl fl bo fo cl co hl ho hov el rl ek eo ro bk bi bt nl no=>
 cases h' with
 | mk bl' fl' bo' fo' cl' co' hl' ho' hov' el' rl' ek' eo' ro' bk' bi' bt' nl' no'=>
 have hsl:∀ (j:Nat) (d:Val),l[j]? = some d→SizeOf.sizeOf d≤m:=fun j d hj=>Nat.le_of_lt_succ (Nat.lt_of_lt_of_le (Val.QoX hj) hd)
 have HSL:=Lib.hid hsl
 have HEL:=Lib.hid el
 have HRL:=Lib.hid rl
 have HEL':=Lib.hid el'
 have HRL':=Lib.hid rl'
 clear hsl el rl ek eo ro hov hd el' rl' ek' eo' ro' hov'
 have hnl:l.length≤140737488355328:=by omega
 have hnl':l'.length≤140737488355328:=by omega
 obtain ⟨mn,hm1,hm2,hmn1,hmn2,hmn3⟩:=QhZ l.length l'.length
 go_enter Tryz.func167,Tryz.ntmps167
 go_wp2_with fail
 clear hm1 hm2
 go_loopw [14] (fun q wr=>∃ j:Nat,q=.int .i64 j∧j≤mn∧cmpL l l'=cmpL (l.drop j) (l'.drop j)∧Ext w wr) (fun q _=>mn - (intOf q).toNat)
 case atStart=>exact ⟨0,rfl,Nat.zero_le _,rfl,Ext.refl w⟩
 obtain ⟨j,rfl,hj,hp,hx⟩:=hrel
 have HP:=Lib.hid hp
 have HX:=Lib.hid hx
 by_cases h1:j<mn
 ·have g1:(j:Int)<(mn:Int):=by omega
  have g2:(j:Int)<(l.length:Int):=by omega
  have g3:(j:Int)<(l'.length:Int):=by omega
  obtain ⟨d,hd⟩:∃ d,l[j]? = some d:=⟨_,List.getElem?_eq_getElem (by omega)⟩
  obtain ⟨d',hd'⟩:∃ d,l'[j]? = some d:=⟨_,List.getElem?_eq_getElem (by omega)⟩
  have HD:=Lib.hid (Qhx hd hd')
  have hag:Agree (Lt w.heap.size) w wr:=hx.agree fun _ h=>h
  obtain ⟨sa,sc⟩:=sl
  obtain ⟨sa',sc'⟩:=sl'
  obtain ⟨rfl,hlc,hcm⟩:=hl.eq (by omega)
  obtain ⟨rfl,hlc',hcm'⟩:=hl'.eq (by omega)
  have hbl:=hl.fits (by omega)
  have hbl':=hl'.fits (by omega)
  obtain ⟨v0,v1,v2,v3,v4,v5⟩:=(HEL.out j d hd).agree hag hbl
  obtain ⟨v0',v1',v2',v3',v4',v5'⟩:=(HEL'.out j d' hd').agree hag hbl'
  have HIC:=Lib.hid (fun (W:World) (hW:Ext wr W)=>
   HI.out d d' (HSL.out j d hd) W _ _ _ _ (((HRL.out j d hd).agree (hag.trans (hW.agree fun _ h=>Nat.lt_of_lt_of_le h hx.size))).mono fun i hi=>Nat.lt_of_lt_of_le hi (Nat.le_trans hx.size hW.size))
    (((HRL'.out j d' hd').agree (hag.trans (hW.agree fun _ h=>Nat.lt_of_lt_of_le h hx.size))).mono fun i hi=>Nat.lt_of_lt_of_le hi (Nat.le_trans hx.size hW.size)))
  have lb:bl<wr.heap.size:=Nat.lt_of_lt_of_le hbl hx.size
  have lb':bl'<wr.heap.size:=Nat.lt_of_lt_of_le hbl' hx.size
  have HSS:=Lib.hid (show ∀ W,Ext wr W→W.cell? ⟨bl,fl+j*6,none⟩=some (.int .i64 d.kind)∧W.cell? ⟨bl,fl+j*6+1,none⟩=some (.bool d.b)∧W.cell? ⟨bl,fl+j*6+2,none⟩=some (.int .i64 d.i)∧W.cell? ⟨bl,fl+j*6+3,none⟩=some (.string d.t)∧W.cell? ⟨bl,fl+j*6+4,none⟩=some (.slice (cl j).1.a d.l.length (cl j).1.c)∧W.cell? ⟨bl,fl+j*6+5,none⟩=some (.slice (cl j).2.a d.ok.length (cl j).2.c)∧W.cell? ⟨bl',fl'+j*6,none⟩=some (.int .i64 d'.kind)∧W.cell? ⟨bl',fl'+j*6+1,none⟩=some (.bool d'.b)∧W.cell? ⟨bl',fl'+j*6+2,none⟩=some (.int .i64 d'.i)∧W.cell? ⟨bl',fl'+j*6+3,none⟩=some (.string d'.t)∧W.cell? ⟨bl',fl'+j*6+4,none⟩=some (.slice (cl' j).1.a d'.l.length (cl' j).1.c)∧W.cell? ⟨bl',fl'+j*6+5,none⟩=some (.slice (cl' j).2.a d'.ok.length (cl' j).2.c) from
   fun W hW=>⟨(hW.cell lb).trans v0,(hW.cell lb).trans v1,(hW.cell lb).trans v2,(hW.cell lb).trans v3,(hW.cell lb).trans v4,(hW.cell lb).trans v5,(hW.cell lb').trans v0',(hW.cell lb').trans v1',(hW.cell lb').trans v2',(hW.cell lb').trans v3',(hW.cell lb').trans v4',(hW.cell lb').trans v5'⟩)
  clear hp hx hd hd' hag hbl hbl' v0 v1 v2 v3 v4 v5 v0' v1' v2' v3' v4' v5'
  go_wp2_with fail
  refine wp_region_held_drew (S:=(fun w'=>Ext wr w')) (by kernel_rfl) (((Ext.refl wr).drew)) (fun hHeld=>?_)
  refine Qab 0 (some 17) HSS hHeld ?_
  refine Qab 1 (some 18) HSS hHeld ?_
  refine Qab 2 (some 19) HSS hHeld ?_
  refine Qab 3 (some 20) HSS hHeld ?_
  refine Qab 4 (some 21) HSS hHeld ?_
  refine Qab 5 (some 22) HSS hHeld ?_
  refine Qab 6 (some 23) HSS hHeld ?_
  refine Qab 7 (some 24) HSS hHeld ?_
  refine Qab 8 (some 25) HSS hHeld ?_
  refine Qaa (i:=9) (by kernel_rfl) rfl (by rfl) (fun K hK=>?_)
  go_simp
  (refine (HIC.out _ hHeld).mono ?_;rintro e w2 ⟨rfl,hx2⟩)
  refine hK.out _ _ (hHeld.trans hx2) (fun hHeld=>?_)
  clear hK K
  try simp only [Act.put,List.setIfInBounds_toArray,List.set_cons_zero,List.set_cons_succ]
  refine Qab 10 (some 8) HSS hHeld ?_
  refine wpAnyH_done (by kernel_rfl) ?_ _
  have HX2:=Lib.hid (HX.out.trans hHeld)
  clear hHeld hx2
  by_cases hc:Qbq d d'=0
  ·have hcb:(Qbq d d' != 0)=false:=by simp [hc]
   have HC:=Lib.hid hc
   clear hc
   go_wp2_with fail
   go_roundw
   case rel=>exact ⟨j+1,by go_num,h1,by rw [HP.out,HD.out,if_neg (by simp [HC.out])],HX2.out⟩
   simp [intOf];omega
  have hcb:(Qbq d d' != 0)=true:=bne_iff_ne.2 hc
  have HC:=Lib.hid hc
  clear hc
  go_wp2_with fail
  go_ret
  rw [HP.out,HD.out,if_pos HC.out]
  exact ⟨rfl,HX2.out⟩
 have g1:¬(j:Int)<(mn:Int):=by omega
 have HE:=Lib.hid (QgT (l:=l) (l':=l') (j:=j) (by omega) (by omega) (by omega))
 have hcm:=Qdb wr (l.length:Int) (l'.length:Int)
 clear hp hx
 go_wp2_with fail
 refine hcm.mono ?_
 rintro e w2 ⟨rfl,rfl⟩
 go_wp2_with fail
 go_ret
 rw [HP.out,HE.out]
 exact ⟨rfl,HX.out⟩
def Qm6 (x y:ByteArray) (d d':Val):Int:=if Qbp x y≠0 then Qbp x y else Qbq d d'
theorem Qj4 {l l':List Val} {k k':List ByteArray} {j:Nat} {a b:Val} {x y:ByteArray} (ha:l[j]? = some a) (hb:l'[j]? = some b) (hx:k[j]? = some x) (hy:k'[j]? = some y) :
  QfU (l.drop j) (k.drop j) (k'.drop j) (l'.drop j)=if Qm6 x y a b≠0 then Qm6 x y a b else QfU (l.drop (j+1)) (k.drop (j+1)) (k'.drop (j+1)) (l'.drop (j+1)):=by
 rw [Qhy ha hb hx hy]
 unfold Qm6
 by_cases h:Qbp x y=0 <;> simp [h]
abbrev Qph (k:ByteArray) (d:Val) (sl so:Sl):Value:=.agg #[.string k,.int .i64 d.kind,.bool d.b,.int .i64 d.i,.string d.t,.slice sl.a d.l.length sl.c,.slice so.a d.ok.length so.c]
theorem QiN {m:Nat} (hih:Qmv m) {d d':Val} (hd:SizeOf.sizeOf d≤m) {x y:ByteArray} {w:World} {sl so sl' so':Sl} (h:RV w (Lt w.heap.size) d sl so) (h':RV w (Lt w.heap.size) d' sl' so') :
  Calls Tryz.prog 169 #[Qph x d sl so,Qph y d' sl' so'] w (Qbe (Qm6 x y d d') w):=by
 have HIC:=Lib.hid (fun (W:World) (hW:Ext w W)=>hih d d' hd W _ _ _ _ ((h.agree (hW.agree fun _ h=>h)).mono fun i hi=>Nat.lt_of_lt_of_le hi hW.size) ((h'.agree (hW.agree fun _ h=>h)).mono fun i hi=>Nat.lt_of_lt_of_le hi hW.size))
 have HT:=Lib.hid (fun W=>QbX W x y)
 clear hih h h' hd
 by_cases ht:Qbp x y=0
 ·have hm:Qm6 x y d d'=Qbq d d':=by simp [Qm6,ht]
  have htb:(Qbp x y != 0)=false:=by simp [ht]
  rw [hm]
  clear hm ht
  go_enter Tryz.func169,Tryz.ntmps169
  go_wp2_with fail
  refine (HT.out _).mono ?_
  rintro e w1 ⟨rfl,rfl⟩
  go_wp2_with fail
  refine (HIC.out _ (((Ext.refl w).alloc _ _).alloc _ _)).mono ?_
  rintro e w1 ⟨rfl,hx⟩
  have HX:=Lib.hid ((((Ext.refl w).alloc _ _).alloc _ _).trans hx)
  clear hx
  go_wp2_with fail
  go_ret
  exact ⟨rfl,HX.out⟩
 have hm:Qm6 x y d d'=Qbp x y:=by simp [Qm6,ht]
 have htb:(Qbp x y != 0)=true:=bne_iff_ne.2 ht
 rw [hm]
 clear hm ht
 go_enter Tryz.func169,Tryz.ntmps169
 go_wp2_with fail
 refine (HT.out _).mono ?_
 rintro e w1 ⟨rfl,rfl⟩
 go_wp2_with fail
 go_ret
 exact ⟨rfl,((Ext.refl w).alloc _ _).alloc _ _⟩
theorem Qm0 {m:Nat} (hih:Qmv m) {x y:Val} (hd:SizeOf.sizeOf x≤m+1) {w:World} {sl so sl' so':Sl} (h:RV w (Lt w.heap.size) x sl so) (h':RV w (Lt w.heap.size) y sl' so') :
  Calls Tryz.prog 168 #[.slice so.a x.ok.length so.c,.slice so'.a y.ok.length so'.c,.func (.func 169) #[] #[]] w (Qbe (QfU x.ov x.ok y.ok y.ov) w):=by
 have HI:=Lib.hid hih
 clear hih
 obtain ⟨k,b,i,t,l,ok,ov⟩:=x
 obtain ⟨k',b',i',t',l',ok',ov'⟩:=y
 show Calls _ _ #[.slice so.a ok.length so.c,.slice so'.a ok'.length so'.c,_] _ (Qbe (QfU ov ok ok' ov') w)
 cases h with
 | mk bl fl bo fo cl co hl ho hov el rl ek eo ro bk bi bt nl no=>
 cases h' with
 | mk bo' fo' bo' fo' cl' co' hl' ho' hov' el' rl' ek' eo' ro' bk' bi' bt' nl' no'=>
 have hso:∀ (j:Nat) (d:Val),ov[j]? = some d→SizeOf.sizeOf d≤m:=fun j d hj=>Nat.le_of_lt_succ (Nat.lt_of_lt_of_le (Val.QoY hj) hd)
 have HSO:=Lib.hid hso
 have HEO:=Lib.hid eo
 have HRO:=Lib.hid ro
 have HEO':=Lib.hid eo'
 have HRO':=Lib.hid ro'
 have HEK:=Lib.hid ek
 have HEK':=Lib.hid ek'
 have HOV:=Lib.hid hov
 have HOV':=Lib.hid hov'
 clear hso el rl ek eo ro hov hd el' rl' ek' eo' ro' hov'
 have hnl:ok.length≤140737488355328:=by omega
 have hnl':ok'.length≤140737488355328:=by omega
 obtain ⟨mn,hm1,hm2,hmn1,hmn2,hmn3⟩:=QhZ ok.length ok'.length
 go_enter Tryz.func168,Tryz.ntmps168
 go_wp2_with fail
 clear hm1 hm2
 go_loopw [14] (fun q wr=>∃ j:Nat,q=.int .i64 j∧j≤mn∧QfU ov ok ok' ov'=QfU (ov.drop j) (ok.drop j) (ok'.drop j) (ov'.drop j)∧Ext w wr) (fun q _=>mn - (intOf q).toNat)
 case atStart=>exact ⟨0,rfl,Nat.zero_le _,rfl,Ext.refl w⟩
 obtain ⟨j,rfl,hj,hp,hx⟩:=hrel
 have HP:=Lib.hid hp
 have HX:=Lib.hid hx
 by_cases h1:j<mn
 ·have g1:(j:Int)<(mn:Int):=by omega
  have g2:(j:Int)<(ok.length:Int):=by omega
  have g3:(j:Int)<(ok'.length:Int):=by omega
  obtain ⟨d,hd⟩:∃ d,ov[j]? = some d:=⟨_,List.getElem?_eq_getElem (by rw [HOV.out];omega)⟩
  obtain ⟨x,hxx⟩:∃ d,ok[j]? = some d:=⟨_,List.getElem?_eq_getElem (by omega)⟩
  obtain ⟨x',hxx'⟩:∃ d,ok'[j]? = some d:=⟨_,List.getElem?_eq_getElem (by omega)⟩
  obtain ⟨d',hd'⟩:∃ d,ov'[j]? = some d:=⟨_,List.getElem?_eq_getElem (by rw [HOV'.out];omega)⟩
  have HD:=Lib.hid (Qj4 hd hd' hxx hxx')
  have hag:Agree (Lt w.heap.size) w wr:=hx.agree fun _ h=>h
  obtain ⟨sa,sc⟩:=so
  obtain ⟨sa',sc'⟩:=so'
  obtain ⟨rfl,hlc,hcm⟩:=ho.eq (by omega)
  obtain ⟨rfl,hlc',hcm'⟩:=ho'.eq (by omega)
  have hbl:=ho.fits (by omega)
  have hbl':=ho'.fits (by omega)
  obtain ⟨v0,v1,v2,v3,v4,v5⟩:=(HEO.out j d hd).agree hag hbl
  obtain ⟨v0',v1',v2',v3',v4',v5'⟩:=(HEO'.out j d' hd').agree hag hbl'
  have kx:=(hag.cell hbl).trans (HEK.out j x hxx).1
  have kx':=(hag.cell hbl').trans (HEK'.out j x' hxx').1
  obtain ⟨c,hcc⟩:∃ c,Qm6 x x' d d'=c:=⟨_,rfl⟩
  have HIC:=Lib.hid (fun (W:World) (hW:Ext wr W)=>
   QiN HI.out (HSO.out j d hd) (x:=x) (y:=x') (((HRO.out j d hd).agree (hag.trans (hW.agree fun _ h=>Nat.lt_of_lt_of_le h hx.size))).mono fun i hi=>Nat.lt_of_lt_of_le hi (Nat.le_trans hx.size hW.size))
    (((HRO'.out j d' hd').agree (hag.trans (hW.agree fun _ h=>Nat.lt_of_lt_of_le h hx.size))).mono fun i hi=>Nat.lt_of_lt_of_le hi (Nat.le_trans hx.size hW.size)))
  have lb:bo<wr.heap.size:=Nat.lt_of_lt_of_le hbl hx.size
  have lb':bo'<wr.heap.size:=Nat.lt_of_lt_of_le hbl' hx.size
  have HSS:=Lib.hid (show ∀ W,Ext wr W→W.cell? ⟨bo,fo+j*7,none⟩=some (.string x)∧W.cell? ⟨bo,fo+j*7+1,none⟩=some (.int .i64 d.kind)∧W.cell? ⟨bo,fo+j*7+2,none⟩=some (.bool d.b)∧W.cell? ⟨bo,fo+j*7+3,none⟩=some (.int .i64 d.i)∧W.cell? ⟨bo,fo+j*7+4,none⟩=some (.string d.t)∧W.cell? ⟨bo,fo+j*7+5,none⟩=some (.slice (co j).1.a d.l.length (co j).1.c)∧W.cell? ⟨bo,fo+j*7+6,none⟩=some (.slice (co j).2.a d.ok.length (co j).2.c)∧W.cell? ⟨bo',fo'+j*7,none⟩=some (.string x')∧W.cell? ⟨bo',fo'+j*7+1,none⟩=some (.int .i64 d'.kind)∧W.cell? ⟨bo',fo'+j*7+2,none⟩=some (.bool d'.b)∧W.cell? ⟨bo',fo'+j*7+3,none⟩=some (.int .i64 d'.i)∧W.cell? ⟨bo',fo'+j*7+4,none⟩=some (.string d'.t)∧W.cell? ⟨bo',fo'+j*7+5,none⟩=some (.slice (co' j).1.a d'.l.length (co' j).1.c)∧W.cell? ⟨bo',fo'+j*7+6,none⟩=some (.slice (co' j).2.a d'.ok.length (co' j).2.c) from
   fun W hW=>⟨(hW.cell lb).trans kx,(hW.cell lb).trans v0,(hW.cell lb).trans v1,(hW.cell lb).trans v2,(hW.cell lb).trans v3,(hW.cell lb).trans v4,(hW.cell lb).trans v5,(hW.cell lb').trans kx',(hW.cell lb').trans v0',(hW.cell lb').trans v1',(hW.cell lb').trans v2',(hW.cell lb').trans v3',(hW.cell lb').trans v4',(hW.cell lb').trans v5'⟩)
  rw [hcc] at HD HIC
  clear hcc kx kx' hxx hxx' hp hx hd hd' hag hbl hbl' v0 v1 v2 v3 v4 v5 v0' v1' v2' v3' v4' v5'
  go_wp2_with fail
  refine wp_region_held_drew (S:=(fun w'=>Ext wr w')) (by kernel_rfl) (((Ext.refl wr).drew)) (fun hHeld=>?_)
  refine Qab 0 (some 17) HSS hHeld ?_
  refine Qab 1 (some 18) HSS hHeld ?_
  refine Qab 2 (some 19) HSS hHeld ?_
  refine Qab 3 (some 20) HSS hHeld ?_
  refine Qab 4 (some 21) HSS hHeld ?_
  refine Qab 5 (some 22) HSS hHeld ?_
  refine Qab 6 (some 23) HSS hHeld ?_
  refine Qab 7 (some 24) HSS hHeld ?_
  refine Qab 8 (some 25) HSS hHeld ?_
  refine Qaa (i:=9) (by kernel_rfl) rfl (by rfl) (fun K hK=>?_)
  go_simp
  (refine (HIC.out _ hHeld).mono ?_;rintro e w2 ⟨rfl,hx2⟩)
  refine hK.out _ _ (hHeld.trans hx2) (fun hHeld=>?_)
  clear hK K
  try simp only [Act.put,List.setIfInBounds_toArray,List.set_cons_zero,List.set_cons_succ]
  refine Qab 10 (some 8) HSS hHeld ?_
  refine wpAnyH_done (by kernel_rfl) ?_ _
  have HX2:=Lib.hid (HX.out.trans hHeld)
  clear hHeld hx2
  by_cases hc:c=0
  ·have hcb:(c != 0)=false:=by simp [hc]
   have HC:=Lib.hid hc
   clear hc
   go_wp2_with fail
   go_roundw
   case rel=>exact ⟨j+1,by go_num,h1,by rw [HP.out,HD.out,if_neg (by simp [HC.out])],HX2.out⟩
   simp [intOf];omega
  have hcb:(c != 0)=true:=bne_iff_ne.2 hc
  have HC:=Lib.hid hc
  clear hc
  go_wp2_with fail
  go_ret
  rw [HP.out,HD.out,if_pos HC.out]
  exact ⟨rfl,HX2.out⟩
 have g1:¬(j:Int)<(mn:Int):=by omega
 have HE:=Lib.hid (QgU (l:=ov) (l':=ov') (k:=ok) (k':=ok') (j:=j) (by rw [HOV.out,HOV'.out];omega) (by rw [HOV.out];omega) (by rw [HOV'.out];omega))
 have hcm:=Qdb wr (ok.length:Int) (ok'.length:Int)
 clear hp hx
 go_wp2_with fail
 refine hcm.mono ?_
 rintro e w2 ⟨rfl,rfl⟩
 go_wp2_with fail
 go_ret
 rw [HP.out,HE.out,HOV.out,HOV'.out]
 exact ⟨rfl,HX.out⟩
def Qix (b:Bool):Int:=if b then 1 else 0
theorem Qlc (a b:Bool):QbR (Qix a) (Qix b)=Qlb a b:=by cases a <;> cases b <;> rfl
structure BxS (w:World) (b b':Bool) (W:World):Prop where
 ext:Ext w W
 b0:∃ v0 v2 v3 v4 v5,Blk W w.heap.size 44 #[v0,.bool b,v2,v3,v4,v5]
 b1:∃ v0 v2 v3 v4 v5,Blk W (w.heap.size+1) 44 #[v0,.bool b',v2,v3,v4,v5]
theorem BxS.drew {w W:World} {b b':Bool} (h:BxS w b b' W):BxS w b b' W.drew:=by
 obtain ⟨h1,⟨a0,a2,a3,a4,a5,ha⟩,⟨c0,c2,c3,c4,c5,hc⟩⟩:=h
 exact ⟨h1.drew,⟨_,_,_,_,_,ha.ext ((Ext.refl W).drew)⟩,⟨_,_,_,_,_,hc.ext ((Ext.refl W).drew)⟩⟩
theorem BxS.at0 {w W:World} {b b':Bool} (h:BxS w b b' W):∃ u,W.cell? ⟨w.heap.size,2,none⟩=some u∧W.frozen? ⟨w.heap.size,2,none⟩=false∧w.heap.size<W.heap.size:=by
 obtain ⟨h1,⟨a0,a2,a3,a4,a5,ha⟩,-⟩:=h
 exact ⟨_,ha.cell 2,ha.frozen 2,ha.lt⟩
theorem BxS.at1 {w W:World} {b b':Bool} (h:BxS w b b' W):∃ u,W.cell? ⟨w.heap.size+1,2,none⟩=some u∧W.frozen? ⟨w.heap.size+1,2,none⟩=false∧w.heap.size+1<W.heap.size:=by
 obtain ⟨h1,-,⟨a0,a2,a3,a4,a5,ha⟩⟩:=h
 exact ⟨_,ha.cell 2,ha.frozen 2,ha.lt⟩
theorem BxS.set0 {w W:World} {b b':Bool} (h:BxS w b b' W) (v:Value):BxS w b b' (W.setCell ⟨w.heap.size,2,none⟩ v):=by
 obtain ⟨h1,⟨a0,a2,a3,a4,a5,ha⟩,⟨c0,c2,c3,c4,c5,hc⟩⟩:=h
 exact ⟨h1.setCell (p:=⟨w.heap.size,2,none⟩) (Nat.le_refl _) v,⟨_,_,_,_,_,ha.QaN 2 v⟩,⟨_,_,_,_,_,((St.refl (fun b=>b=w.heap.size) W).set (p:=⟨w.heap.size,2,none⟩) (.inr rfl) v).blk hc (by omega)⟩⟩
theorem BxS.set1 {w W:World} {b b':Bool} (h:BxS w b b' W) (v:Value):BxS w b b' (W.setCell ⟨w.heap.size+1,2,none⟩ v):=by
 obtain ⟨h1,⟨a0,a2,a3,a4,a5,ha⟩,⟨c0,c2,c3,c4,c5,hc⟩⟩:=h
 exact ⟨h1.setCell (p:=⟨w.heap.size+1,2,none⟩) (by simp) v,⟨_,_,_,_,_,((St.refl (fun b=>b=w.heap.size+1) W).set (p:=⟨w.heap.size+1,2,none⟩) (.inr rfl) v).blk ha (by omega)⟩,⟨_,_,_,_,_,hc.QaN 2 v⟩⟩
theorem BxS.ends {w W:World} {b b':Bool} (h:BxS w b b' W) (v v':Value):((W.setCell ⟨w.heap.size,2,none⟩ v).setCell ⟨w.heap.size+1,2,none⟩ v').cell? ⟨w.heap.size,2,none⟩=some v∧((W.setCell ⟨w.heap.size,2,none⟩ v).setCell ⟨w.heap.size+1,2,none⟩ v').cell? ⟨w.heap.size+1,2,none⟩=some v':=by
 obtain ⟨h1,⟨a0,a2,a3,a4,a5,ha⟩,-⟩:=h.set0 v
 obtain ⟨-,⟨b0,b2,b3,b4,b5,hb⟩,⟨c0,c2,c3,c4,c5,hc⟩⟩:=h
 have hc':=((St.refl (fun b=>b=w.heap.size) W).set (p:=⟨w.heap.size,2,none⟩) (.inr rfl) v).blk hc (by omega)
 have hb':=hb.QaN 2 v
 have hb2:=((St.refl (fun b=>b=w.heap.size+1) (W.setCell ⟨w.heap.size,2,none⟩ v)).set (p:=⟨w.heap.size+1,2,none⟩) (.inr rfl) v').blk hb' (by omega)
 exact ⟨hb2.cell 2,(hc'.QaN 2 v').cell 2⟩
theorem Qmb (w:World) (b:Bool):Calls Tryz.prog 164 #[.bool b] w fun e w'=>e=.returned (.int .i64 (Qix b))∧w=w':=Qnl w b
theorem QnZ (m:Nat):Qmv m:=by
 induction m with
 | zero=>intro d y hd;have:=Val.Qij d;omega
 | succ m ih=>
 intro x y hd w sl so sl' so' h h'
 have hv:=fun (W:World) (hW:Ext w W)=>Qm1 ih hd ((h.agree (hW.agree fun _ h=>h)).mono fun i hi=>Nat.lt_of_lt_of_le hi hW.size) ((h'.agree (hW.agree fun _ h=>h)).mono fun i hi=>Nat.lt_of_lt_of_le hi hW.size)
 have hm:=fun (W:World) (hW:Ext w W)=>Qm0 ih hd ((h.agree (hW.agree fun _ h=>h)).mono fun i hi=>Nat.lt_of_lt_of_le hi hW.size) ((h'.agree (hW.agree fun _ h=>h)).mono fun i hi=>Nat.lt_of_lt_of_le hi hW.size)
 clear ih h h' hd
 obtain ⟨k,b,i,t,l,ok,ov⟩:=x
 obtain ⟨k',b',i',t',l',ok',ov'⟩:=y
 have HV:=Lib.hid (show ∀ (W:World) (hW:Ext w W),Calls Tryz.prog 167 #[.slice sl.a l.length sl.c,.slice sl'.a l'.length sl'.c,.func (.func 161) #[] #[]] W (Qbe (cmpL l l') W) from hv)
 have HM:=Lib.hid (show ∀ (W:World) (hW:Ext w W),Calls Tryz.prog 168 #[.slice so.a ok.length so.c,.slice so'.a ok'.length so'.c,.func (.func 169) #[] #[]] W (Qbe (QfU ov ok ok' ov') W) from hm)
 show Calls _ _ #[.agg #[.int .i64 k,.bool b,.int .i64 i,.string t,.slice sl.a l.length sl.c,.slice so.a ok.length so.c],.agg #[.int .i64 k',.bool b',.int .i64 i',.string t',.slice sl'.a l'.length sl'.c,.slice so'.a ok'.length so'.c]] _ _
 have hcv:Qbq (.mk k b i t l ok ov) (.mk k' b' i' t' l' ok' ov')=if k≠k' then QbR k k' else if k=2 then Qlb b b' else if k=3 then QbR i i' else if k=4 then Qbp t t' else if k=5 then cmpL l l' else if k=6 then QfU ov ok ok' ov' else 0:=by
  simp only [Qbq,Val.kind,Val.b,Val.i,Val.t,Val.l,Val.ok,Val.ov]
  rfl
 rw [hcv]
 clear hcv hv hm
 have hXX:Ext w ((w.alloc (.cells #[.int .i64 k,.bool b,.int .i64 i,.string t,.slice sl.a l.length sl.c,.slice so.a ok.length so.c] 44)).alloc (.cells #[.int .i64 k',.bool b',.int .i64 i',.string t',.slice sl'.a l'.length sl'.c,.slice so'.a ok'.length so'.c] 44)):=((Ext.refl w).alloc _ _).alloc _ _
 have HXX:=Lib.hid hXX
 have HK:=Lib.hid (fun W=>Qfm W k k')
 have HI:=Lib.hid (fun W a b=>QeL W a b)
 have HT:=Lib.hid (fun W=>QbX W t t')
 have HR:=Lib.hid (fun W (b:Bool)=>Qmb W b)
 clear hXX
 by_cases hkk:k=k'
 ·subst hkk
  have hkb:(k != k)=false:=by simp
  rw [if_neg (by simp)]
  by_cases h2:k=2
  ·subst h2
   rw [if_pos rfl,←Qlc]
   clear HXX
   go_enter Tryz.func161,Tryz.ntmps161
   go_wp2_with fail
   generalize hW0:World.alloc (World.alloc _ _) _=W0
   obtain ⟨hx0,hz0,hb0,hb1⟩:=Qaz w _ _ _ _ W0 hW0
   clear hW0
   have hB0:BxS w b b' W0:=⟨hx0,⟨_,_,_,_,_,hb0⟩,⟨_,_,_,_,_,hb1⟩⟩
   have HSS:=Lib.hid (show ∀ W,BxS w b b' W→W.cell? ⟨w.heap.size,1,none⟩=some (.bool b)∧W.cell? ⟨w.heap.size+1,1,none⟩=some (.bool b') from fun W hW=>by
    obtain ⟨-,⟨a0,a2,a3,a4,a5,ha⟩,⟨c0,c2,c3,c4,c5,hc⟩⟩:=hW
    exact ⟨ha.cell 1,hc.cell 1⟩)
   have HB0:=Lib.hid hB0
   clear hx0 hb0 hb1 hB0 hz0
   refine wp_region_held_drew (S:=(fun w'=>BxS w b b' w')) (by kernel_rfl) ((HB0.out.drew)) (fun hHeld=>?_)
   refine Qab 0 (some 27) HSS hHeld ?_
   refine Qab 1 (some 28) HSS hHeld ?_
   refine Qab 3 (some 30) HSS hHeld ?_
   refine Qab 4 (some 31) HSS hHeld ?_
   refine Qaa (i:=2) (by kernel_rfl) rfl (by rfl) (fun K hK=>?_)
   go_simp
   (refine (HR.out _ b).mono ?_;rintro e w1 ⟨rfl,rfl⟩)
   refine hK.out _ _ (hHeld) (fun hHeld=>?_)
   clear hK K
   try simp only [Act.put,List.setIfInBounds_toArray,List.set_cons_zero,List.set_cons_succ]
   refine Qab 6 (some 33) HSS hHeld ?_
   refine Qaa (i:=5) (by kernel_rfl) rfl (by rfl) (fun K hK=>?_)
   go_simp
   (refine (HR.out _ b').mono ?_;rintro e w1 ⟨rfl,rfl⟩)
   refine hK.out _ _ (hHeld) (fun hHeld=>?_)
   clear hK K
   try simp only [Act.put,List.setIfInBounds_toArray,List.set_cons_zero,List.set_cons_succ]
   obtain ⟨u7,c7,f7,l7⟩:=hHeld.at0
   refine Qaa (i:=7) (by kernel_rfl) rfl (by rfl) (fun K hK=>?_)
   go_simp
   skip
   refine hK.out _ _ (hHeld.set0 _) (fun hHeld=>?_)
   clear hK K
   try simp only [Act.put,List.setIfInBounds_toArray,List.set_cons_zero,List.set_cons_succ]
   refine Qab 8 (some 34) HSS hHeld ?_
   obtain ⟨u9,c9,f9,l9⟩:=hHeld.at1
   refine Qaa (i:=9) (by kernel_rfl) rfl (by rfl) (fun K hK=>?_)
   go_simp
   skip
   refine hK.out _ _ (hHeld.set1 _) (fun hHeld=>?_)
   clear hK K
   try simp only [Act.put,List.setIfInBounds_toArray,List.set_cons_zero,List.set_cons_succ]
   refine wpAnyH_done (by kernel_rfl) ?_ _
   have HH:=Lib.hid hHeld
   obtain ⟨q0,q1⟩:=HB0.out.ends (.int .i64 (Qix b)) (.int .i64 (Qix b'))
   clear hHeld
   generalize (W0.setCell ⟨w.heap.size,2,none⟩ (.int .i64 (Qix b))).setCell ⟨w.heap.size+1,2,none⟩ (.int .i64 (Qix b'))=W9 at *
   go_wp2_with fail
   refine (HI.out _ _ _).mono ?_
   rintro e w2 ⟨rfl,rfl⟩
   go_wp2_with fail
   go_ret
   exact ⟨rfl,HH.out.ext⟩
  have h2b:(k == 2)=false:=beq_eq_false_iff_ne.2 h2
  by_cases h3:k=3
  ·subst h3
   rw [if_neg h2,if_pos rfl]
   clear h2
   go_enter Tryz.func161,Tryz.ntmps161
   go_wp2_with fail
   refine (HI.out _ _ _).mono ?_
   rintro e w2 ⟨rfl,rfl⟩
   go_wp2_with fail
   go_ret
   exact ⟨rfl,HXX.out⟩
  have h3b:(k == 3)=false:=beq_eq_false_iff_ne.2 h3
  by_cases h4:k=4
  ·subst h4
   rw [if_neg h2,if_neg h3,if_pos rfl]
   clear h2 h3
   go_enter Tryz.func161,Tryz.ntmps161
   go_wp2_with fail
   refine (HT.out _).mono ?_
   rintro e w2 ⟨rfl,rfl⟩
   go_wp2_with fail
   go_ret
   exact ⟨rfl,HXX.out⟩
  have h4b:(k == 4)=false:=beq_eq_false_iff_ne.2 h4
  rw [if_neg h2,if_neg h3,if_neg h4]
  by_cases h5:k=5
  ·subst h5
   rw [if_pos rfl]
   clear h2 h3 h4
   go_enter Tryz.func161,Tryz.ntmps161
   go_wp2_with fail
   refine (HV.out _ HXX.out).mono ?_
   rintro e w2 ⟨rfl,hx⟩
   have HX:=Lib.hid hx
   clear hx
   go_wp2_with fail
   go_ret
   exact ⟨rfl,HXX.out.trans HX.out⟩
  have h5b:(k == 5)=false:=beq_eq_false_iff_ne.2 h5
  rw [if_neg h5]
  by_cases h6:k=6
  ·subst h6
   rw [if_pos rfl]
   clear h2 h3 h4 h5
   go_enter Tryz.func161,Tryz.ntmps161
   go_wp2_with fail
   refine (HM.out _ HXX.out).mono ?_
   rintro e w2 ⟨rfl,hx⟩
   have HX:=Lib.hid hx
   clear hx
   go_wp2_with fail
   go_ret
   exact ⟨rfl,HXX.out.trans HX.out⟩
  have h6b:(k == 6)=false:=beq_eq_false_iff_ne.2 h6
  rw [if_neg h6]
  clear h2 h3 h4 h5 h6
  go_enter Tryz.func161,Tryz.ntmps161
  go_wp2_with fail
  go_ret
  exact ⟨rfl,HXX.out⟩
 have hkb:(k != k')=true:=bne_iff_ne.2 hkk
 rw [if_pos hkk]
 clear hkk
 go_enter Tryz.func161,Tryz.ntmps161
 go_wp2_with fail
 refine (HK.out _).mono ?_
 rintro e w2 ⟨rfl,rfl⟩
 go_wp2_with fail
 go_ret
 exact ⟨rfl,HXX.out⟩
def Holds (keep f:Nat) (xs ring:List Value):Prop:=∀ j,j<xs.length→xs.length≤j+keep→ring[(f+j) % keep]? = xs[j]?
def pk (i:Int):Nat:=(IntKind.u64.wrap i % 5).toNat
theorem QaJ.det {w:World} {b o:Nat} {d d':Val} {sl so sl' so':Sl} (h:QaJ w b o d sl so) (h':QaJ w b o d' sl' so') :
  d.kind=d'.kind∧d.b=d'.b∧d.i=d'.i∧d.t=d'.t∧d.l.length=d'.l.length∧d.ok.length=d'.ok.length∧sl=sl'∧so=so':=by
 have e0:=h.c0.symm.trans h'.c0
 have e1:=h.c1.symm.trans h'.c1
 have e2:=h.c2.symm.trans h'.c2
 have e3:=h.c3.symm.trans h'.c3
 have e4:=h.c4.symm.trans h'.c4
 have e5:=h.c5.symm.trans h'.c5
 obtain ⟨a,c⟩:=sl
 obtain ⟨a',c'⟩:=sl'
 obtain ⟨f,g⟩:=so
 obtain ⟨f',g'⟩:=so'
 simp only [Option.some.injEq,Value.int.injEq,Value.bool.injEq,Value.string.injEq,Value.slice.injEq,true_and] at e0 e1 e2 e3 e4 e5
 obtain ⟨rfl,e4,rfl⟩:=e4
 obtain ⟨rfl,e5,rfl⟩:=e5
 exact ⟨e0,e1,e2,e3,e4,e5,rfl,rfl⟩
theorem QeJ.same {F F':Nat→Prop} {s:Sl} {n b o b' o':Nat} (h:QeJ F s n b o) (h':QeJ F' s n b' o') (hn:0<n):b=b'∧o=o':=by
 have e:=(h.eq hn).1.symm.trans (h'.eq hn).1
 simpa using e
theorem Val.Qjo {d d':Val} (h1:d.kind=d'.kind) (h2:d.b=d'.b) (h3:d.i=d'.i) (h4:d.t=d'.t) (h5:d.l=d'.l) (h6:d.ok=d'.ok) (h7:d.ov=d'.ov):d=d':=by
 cases d;cases d'
 simp only [Val.kind,Val.b,Val.i,Val.t,Val.l,Val.ok,Val.ov] at *
 subst_vars;rfl
theorem RV.det {w:World} {F F':Nat→Prop} (m:Nat):∀ {d d':Val} {sl so:Sl},SizeOf.sizeOf d≤m→RV w F d sl so→RV w F' d' sl so→d.l.length=d'.l.length→d.ok.length=d'.ok.length→d.l=d'.l∧d.ok=d'.ok∧d.ov=d'.ov:=by
 induction m with
 | zero=>intro d _ _ _ hm;have:=Val.Qij d;omega
 | succ m ih=>
   intro d d' sl so hm h h' hll hoo
   cases h with
   | @mk kind vb vi vt l ok ov _ _ bl fl bo fo cl co hl ho hov el rl ek eo ro=>
   cases h' with
   | @mk kind' vb' vi' vt' l' ok' ov' _ _ bl' fl' bo' fo' cl' co' hl' ho' hov' el' rl' ek' eo' ro'=>
   have one:∀ {b o:Nat} {x x':Val} {s s' t t':Sl},SizeOf.sizeOf x≤m→QaJ w b o x s t→QaJ w b o x' s' t'→RV w F x s t→RV w F' x' s' t'→x=x':=fun hs c c' r r'=>by
    obtain ⟨h1,h2,h3,h4,h5,h6,rfl,rfl⟩:=c.det c'
    obtain ⟨k1,k2,k3⟩:=ih hs r r' h5 h6
    exact Val.Qjo h1 h2 h3 h4 k1 k2 k3
   simp only [Val.l,Val.ok,Val.ov] at hll hoo ⊢
   refine ⟨List.ext_getElem? fun j=>?_,List.ext_getElem? fun j=>?_,List.ext_getElem? fun j=>?_⟩
   ·by_cases hj:j<l.length
    ·obtain ⟨x,hx⟩:∃ x,l[j]? = some x:=⟨_,List.getElem?_eq_getElem hj⟩
     obtain ⟨x',hx'⟩:∃ x',l'[j]? = some x':=⟨_,List.getElem?_eq_getElem (by omega)⟩
     obtain ⟨rfl,rfl⟩:=hl.same (hll▸hl') (by omega)
     rw [hx,hx',one (by have:=Val.QoX (k:=kind) (b:=vb) (i:=vi) (t:=vt) (ok:=ok) (ov:=ov) hx;omega) (el j x hx) (el' j x' hx') (rl j x hx) (rl' j x' hx')]
    rw [List.getElem?_eq_none (by omega),List.getElem?_eq_none (by omega)]
   ·by_cases hj:j<ok.length
    ·obtain ⟨x,hx⟩:∃ x,ok[j]? = some x:=⟨_,List.getElem?_eq_getElem hj⟩
     obtain ⟨x',hx'⟩:∃ x',ok'[j]? = some x':=⟨_,List.getElem?_eq_getElem (by omega)⟩
     obtain ⟨rfl,rfl⟩:=ho.same (hoo▸ho') (by omega)
     have e:=(ek j x hx).1.symm.trans (ek' j x' hx').1
     simp only [Option.some.injEq,Value.string.injEq] at e
     rw [hx,hx',e]
    rw [List.getElem?_eq_none (by omega),List.getElem?_eq_none (by omega)]
   by_cases hj:j<ov.length
   ·obtain ⟨x,hx⟩:∃ x,ov[j]? = some x:=⟨_,List.getElem?_eq_getElem hj⟩
    obtain ⟨x',hx'⟩:∃ x',ov'[j]? = some x':=⟨_,List.getElem?_eq_getElem (by omega)⟩
    obtain ⟨rfl,rfl⟩:=ho.same (hoo▸ho') (by omega)
    rw [hx,hx',one (by have:=Val.QoY (k:=kind) (b:=vb) (i:=vi) (t:=vt) (l:=l) (ok:=ok) hx;omega) (eo j x hx) (eo' j x' hx') (ro j x hx) (ro' j x' hx')]
   rw [List.getElem?_eq_none (by omega),List.getElem?_eq_none (by omega)]
theorem ES.det {w:World} {F F':Nat→Prop} {s:Sl} {xs ys:List LE} (h:ES w F s xs) (h':ES w F' s ys) (hl:xs.length=ys.length):xs.map LE.ent=ys.map LE.ent:=by
 refine List.ext_getElem? fun j=>?_
 rw [List.getElem?_map,List.getElem?_map]
 by_cases hj:j<xs.length
 ·obtain ⟨x,hx⟩:∃ x,xs[j]? = some x:=⟨_,List.getElem?_eq_getElem hj⟩
  obtain ⟨y,hy⟩:∃ y,ys[j]? = some y:=⟨_,List.getElem?_eq_getElem (by omega)⟩
  obtain ⟨b,o,ha,-,-,-,k1,c1,r1,-⟩:=h.at hx
  obtain ⟨b',o',ha',-,-,-,k2,c2,r2,-⟩:=h'.at hy
  obtain ⟨rfl,rfl⟩:b=b'∧o=o':=by have:=ha.symm.trans ha';simpa using this
  have e:=k1.symm.trans k2
  simp only [Option.some.injEq,Value.string.injEq] at e
  obtain ⟨xk,xv,xsl,xso⟩:=x
  obtain ⟨yk,yv,ysl,yso⟩:=y
  obtain ⟨h1,h2,h3,h4,h5,h6,e7,e8⟩:=c1.det c2
  dsimp only at *
  subst e7 e8
  obtain ⟨q1,q2,q3⟩:=RV.det _ (Nat.le_refl _) r1 r2 h5 h6
  rw [hx,hy]
  simp only [Option.map_some,LE.ent,e,Val.Qjo h1 h2 h3 h4 q1 q2 q3]
 rw [List.getElem?_eq_none (by omega),List.getElem?_eq_none (by omega)]
theorem IsN.heights {w:World} {F F':Nat→Prop} {h h':Nat} {t:PT h} {t':PT h'} (a:IsN w F h t) (b:IsN w F' h' t') (e:addr h t=addr h' t'):h=h':=by
 obtain ⟨-,_,_,_,_,-,h1⟩:=a.cells
 obtain ⟨-,_,_,_,_,-,h2⟩:=b.cells
 rw [e] at h1
 have:=h1.c7.2.2.1.symm.trans h2.c7.2.2.1
 simp only [Option.some.injEq,Value.int.injEq,true_and] at this
 omega
theorem IsN.det {w:World} {F F':Nat→Prop}:∀ {h:Nat} {t t':PT h},IsN w F h t→IsN w F' h t'→addr h t=addr h t'→t=t'
 | 0,(a,es),(a',es'),⟨_,s,xs,h2,h3,h4⟩,⟨_,s',xs',h2',h3',h4'⟩,e=>by
   have e:a=a':=e
   subst e
   have c:=(h2.c7.1).symm.trans h2'.c7.1
   simp only [Option.some.injEq,Value.slice.injEq] at c
   obtain ⟨sa,sc⟩:=s
   obtain ⟨sa',sc'⟩:=s'
   dsimp only at c
   obtain ⟨rfl,hl,rfl⟩:=c
   have:=h3.det h3' hl
   have h4:xs.map LE.ent=es:=h4
   have h4':xs'.map LE.ent=es':=h4'
   rw [←h4,←h4',this]
 | h+1,(a,ks),(a',ks'),⟨_,s,h2,h3,h4⟩,⟨_,s',h2',h3',h4'⟩,e=>by
   have e:a=a':=e
   subst e
   have c:=(h2.c7.2.1).symm.trans h2'.c7.2.1
   simp only [Option.some.injEq,Value.slice.injEq] at c
   obtain ⟨sa,sc⟩:=s
   obtain ⟨sa',sc'⟩:=s'
   dsimp only at c
   obtain ⟨rfl,hl,rfl⟩:=c
   have h4:∀ k∈ks,IsN w F h k:=h4
   have h4':∀ k∈ks',IsN w F' h k:=h4'
   have hks:ks=ks':=by
    refine List.ext_getElem? fun j=>?_
    by_cases hj:j<ks.length
    ·obtain ⟨x,hx⟩:∃ x,ks[j]? = some x:=⟨_,List.getElem?_eq_getElem hj⟩
     obtain ⟨y,hy⟩:∃ y,ks'[j]? = some y:=⟨_,List.getElem?_eq_getElem (by omega)⟩
     obtain ⟨b,o,ha,-,-,-,k1⟩:=Rd.QcH h3 hx
     obtain ⟨b',o',ha',-,-,-,k2⟩:=Rd.QcH h3' hy
     obtain ⟨rfl,rfl⟩:b=b'∧o=o':=by have:=ha.symm.trans ha';simpa using this
     have e:=k1.symm.trans k2
     simp only [Option.some.injEq,Value.pointer.injEq,Addr.mk.injEq,and_true] at e
     rw [hx,hy,IsN.det (h4 x (List.mem_of_getElem? hx)) (h4' y (List.mem_of_getElem? hy)) e]
    rw [List.getElem?_eq_none (by omega),List.getElem?_eq_none (by omega)]
   rw [hks]
theorem Qhf {w:World} {x y:Val} {sl so sl' so':Sl} (h:RV w (Lt w.heap.size) x sl so) (h':RV w (Lt w.heap.size) y sl' so') :
  Calls Tryz.prog 150 #[Qb5 x sl so,Qb5 y sl' so'] w fun e w'=>e=.returned (.bool (decide (Qbq x y=0)))∧Ext w w':=by
 have hc:∀ W,Ext w W→Calls Tryz.prog 161 #[Qb5 x sl so,Qb5 y sl' so'] W (Qbe (Qbq x y) W):=fun W hW=>
  QnZ _ x y (Nat.le_refl _) W _ _ _ _ ((h.agree (hW.agree fun _ h=>h)).mono fun i hi=>Nat.lt_of_lt_of_le hi hW.size) ((h'.agree (hW.agree fun _ h=>h)).mono fun i hi=>Nat.lt_of_lt_of_le hi hW.size)
 have HC:=Lib.hid hc
 have hb:(Qbq x y == 0)=decide (Qbq x y=0):=by by_cases h:Qbq x y=0 <;> simp [h]
 have HB:=Lib.hid hb
 clear hc h h' hb
 obtain ⟨k,b,i,t,l,ok,ov⟩:=x
 obtain ⟨k',b',i',t',l',ok',ov'⟩:=y
 go_enter Tryz.func150,Tryz.ntmps150
 go_wp2_with fail
 generalize hW0:World.alloc (World.alloc _ _) _=W0
 obtain ⟨hx0,hz0,hb0,hb1⟩:=Qaz w _ _ _ _ W0 hW0
 clear hW0
 refine (HC.out _ hx0).mono ?_
 rintro e w1 ⟨rfl,hx⟩
 go_wp2_with fail
 go_ret
 exact ⟨rfl,hx0.trans hx⟩
end Go.Proofs.YtohajcflklejjaaGreat
