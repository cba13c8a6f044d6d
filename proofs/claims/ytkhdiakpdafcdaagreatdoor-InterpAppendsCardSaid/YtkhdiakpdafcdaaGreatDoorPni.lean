/- What the theorem needs of the texts QuoW, OwnV, OwnW, OwnM, OwnO, FitV, MuP, ScanP, ScanW, ScanR, ScanT, ScanK, ScanQ: no condition of its own. -/
import Derived.TacticsInMore
import Derived.LoopNIn
import Derived.LoopIn
import Derived.Laws.IdiomStrings
import Derived.WalkArith
import Derived.Lib.ItoaLen
import Derived.Sort.LoopGhostIn
import Derived.Stop.RegionWithIn
import Derived.RangeFuncNested
import Derived.RangeFuncBound
import Derived.RangeFuncCalls
import Derived.RangeFuncLeaves
import Derived.Shelf.Abstract
import Derived.Shelf.RegionOpen
import Derived.OwnWalkIn
import Derived.OrdersIn
import Derived.Test.YtkhdiakpdafcdaaGreatDoorPna
import Derived.Test.YtkhdiakpdafcdaaGreatDoorPnc
import Derived.Test.YtkhdiakpdafcdaaGreatDoorPnd
import Derived.Test.YtkhdiakpdafcdaaGreatDoorPne
import Derived.Test.YtkhdiakpdafcdaaGreatDoorPnf
import Derived.Test.YtkhdiakpdafcdaaGreatDoorPng
import Derived.Test.YtkhdiakpdafcdaaGreatDoorPnh
set_option maxRecDepth 100000
set_option maxHeartbeats 4000000
namespace Go.Proofs.YtkhdiakpdafcdaaGreatDoor
open Go.RowKit Go.Maps Go.Shelf
set_option linter.unusedVariables false
set_option linter.unusedSimpArgs false
attribute [local go_sem] Oper.semAt_some
theorem bstr_any2 {w:World} {B b:Nat} {l:List UInt8} (h:Bld B b (Lib.byteCells l) w) (hB:B≤w.heap.size) :
  Calls Tryz.prog 240 #[.pointer (some ⟨b,0,none⟩)] w fun e w'=>e=.returned (.string ⟨l.toArray⟩)∧Below B w w'∧Lib.OthersKept 5 (some b) w w':=
 (Any.Builder_String_any_k Tryz.layBuilderString (bldX _ rfl rfl) B b l w h hB).mono fun e w' h=>⟨h.1,h.2.2.1,h.2.2.2⟩
def codeQ (s:ByteArray):Int:=if Lib.validD s.data.toList then 0 else 3
theorem utfQuote_any {w:World} (hL:LibQ w) {s:ByteArray} (hs:s.size≤10000000) :
  Calls Tryz.prog 210 #[.string s] w fun e w'=>e=.returned (.tuple #[.string (quoteA s),.int .i64 (codeQ s)])∧Nw w w':=by
 have hv:=utfValid_any hL.lib (k:=s) (by unfold maxLen;omega)
 have qmn:∀ (w:World) (r:Option Nat),(binOp .eql 263 (.map r) (.map none)).run Tryz.prog w=.ok (.bool r.isNone) w:=fun w r=>run_eql_map_nil w _ _ _ r Tryz.underlying263
 have HV:=Lib.hid hv
 have HL:=Lib.hid hL
 clear hv hL
 refine (callsIn_wide (n:=6)).1 ?_
 refine callsIn_of_wp_marks Tryz.func210 rfl trivial ?_ rfl
 simp only [Tryz.ntmps210,List.size_toArray,List.length_cons,List.length_nil,Nat.reduceAdd,Nat.reduceSub,Array.replicate_succ,Array.replicate_zero,List.push_toArray,List.append_toArray,List.nil_append,List.cons_append]
 gi_wp2_with fail
 refine ⟨trivial,?_⟩
 refine (callsIn_wide.2 HV.out).mono ?_
 rintro e w1 ⟨rfl,hn1⟩
 cases hvd:Lib.validD s.data.toList with
 | false=>
   have HQ:=Lib.hid (show quoteA s=ByteArray.empty by unfold quoteA;rw [hvd];rfl)
   have HCQ:=Lib.hid (show codeQ s=3 by unfold codeQ;rw [hvd];rfl)
   have HN:=Lib.hid hn1
   clear hn1 hvd
   gi_wp2_with fail
   refine ⟨.tuple #[.string ⟨#[]⟩,.int .i64 3],by simp [results,Tryz.results210,go_sem],?_⟩
   exact ⟨by rw [HQ.out,HCQ.out];rfl,HN.out⟩
 | true=>
   have HQ:=Lib.hid (show quoteA s=⟨(quoteS s).toArray⟩ by unfold quoteA;rw [hvd];rfl)
   have HCQ:=Lib.hid (show codeQ s=0 by unfold codeQ;rw [hvd];rfl)
   have hL1:=HL.out.nw hn1
   have HN1:=Lib.hid hn1
   have HL1:=Lib.hid hL1
   clear hn1 hvd hL1
   gi_wp2_with fail
   generalize hW0:World.alloc (World.alloc _ _) _=W0
   obtain ⟨hx0,hz0,hb0,hb1⟩:=two_blocks w1 _ _ _ _ W0 hW0
   have hbld0:Bld w1.heap.size (w1.heap.size+1) [] W0:=.inl ⟨Nat.le_succ _,.slice none 0 0,hb1,World.ownsRowF_of (World.ownsRow_nil _ _ _ _),by simp [Value.ownBlock]⟩
   have hwb:=wbyte_any 34 hbld0 (by simp) (by omega)
   have HWB:=Lib.hid hwb
   have HX0:=Lib.hid hx0
   have HB0:=Lib.hid hb0
   clear hW0 hbld0 hwb hx0 hb1
   refine ⟨trivial,?_⟩
   refine (callsIn_wide.2 HWB.out).mono ?_
   rintro e w2 ⟨rfl,hbld2,hbw2,hok2⟩
   have hqk2:=QK.of hbw2 hok2
   have hqi2:QI w1 [] w2:=⟨hbld2,⟨none,hok2 _ _ HB0.out (by simp) (fun c fz e=>by cases e),fun M hM=>by cases hM⟩,QK.old (Nw.of HX0.out) hqk2⟩
   have hl2:w1.heap.size+1<w2.heap.size:=hbld2.lt
   have hL2:=HL1.out.nw hqi2.old
   have HQI2:=Lib.hid hqi2
   have HL2:=Lib.hid hL2
   clear hbld2 hbw2 hok2 hqk2 hqi2 hL2
   gi_wp2_with fail
   refine ⟨trivial,?_⟩
   refine (callsIn_wide.2 (runes_any w2 s)).mono ?_
   rintro e w3 ⟨rfl,hx3,hb3⟩
   have hqi3:=HQI2.out.nw (Nw.of hx3)
   have hL3:=HL2.out.nw (Nw.of hx3)
   have hsz3:=hx3.size
   have hlb3:=hb3.lt
   have h63:=hL3.lib.big
   have h61:=HL1.out.lib.big
   have HSQ:=Lib.hid (runes_seq (w0:=w3) hb3 hL3.dec h63 (by omega))
   have HQI3:=Lib.hid hqi3
   have HB3:=Lib.hid hb3
   clear hx3 hqi3 hL3 hb3
   gi_wp2_with fail
   refine wpIn_rangeP (gf:=250) (lb:=#[.pointer (some ⟨w2.heap.size,0,none⟩)]) rfl (enters_of Tryz.func250 (by kernel_rfl) rfl) HSQ.out (Agree.refl _) (Nat.le_refl _)
    (fun b hb=>by rcases hb with rfl | hb <;> omega) (fun _=>rfl) (fun pre W=>QI w1 pre W∧Blk W w2.heap.size 9 #[.string s]) (fun _ _ _=>False)
    (fun h k hl hl'=>⟨h.1.turn k (by omega) hl,k.blk h.2 (by omega)⟩) (fun h _ _ _=>h) (fun W hW hz=>⟨HQI3.out.nw (Nw.of hW),HB3.out.ext hW⟩) ?round ?done ?stop
   case stop=>
    rintro D c pre W hD hSp hX hDk
    exact hX.elim
   case round=>
    rintro pre x W0' W1 hI hsz hn01 hG
    have hmem:x∈runesS s:=List.mem_of_getElem? hG
    have hx2:=(runesAt_rune hmem).1
    have hlen:pre.length<s.size:=by
     have h1:=(List.getElem?_eq_some_iff.1 hG).1
     have h2:=runesAt_len s s.size 0
     unfold runesS at h1;omega
    have hql:=quoteL_len pre
    have hbl:(Lib.byteCells (34 :: quoteL pre)).length≤60000001:=by simp [Lib.byteCells];omega
    have HII:=Lib.hid (And.intro (hI.1.nw hn01) (hn01.blk hI.2))
    have hb01:=hn01.size
    clear hI hG hmem hn01 hql
    obtain ⟨px,r⟩:=x
    dsimp only at hx2
    gi_wp2_with fail
    refine ⟨Sb.refl _ _,fun W3 k3 hl1 hl3 hd3=>?_⟩
    have HI3:=Lib.hid (And.intro (HII.out.1.turn k3 (by omega) hl1) (k3.blk HII.out.2 (by omega)))
    have HL3:=Lib.hid hl3
    have HD3:=Lib.hid hd3
    have hs3:=k3.size
    have hl31:=HI3.out.1.old.size
    clear k3 hl1 HII hl3 hd3
    gi_wp2_with fail
    refine ⟨trivial,?_⟩
    refine (calls_round (stands_any W3 r)).mono ?_
    rintro e w4 ⟨rfl,rfl⟩
    obtain ⟨mb,hLb,hMb⟩:=HI3.out.1.let_
    have HLB:=Lib.hid hLb
    have HMB:=Lib.hid hMb
    clear hLb hMb
    cases hst:standsR (r:Int) with
    | true=>
      have hwr:=wrune_any (r:Int) (by omega) (by omega) HI3.out.1.bld (by omega) (by omega)
      have HWR:=Lib.hid hwr
      have HST:=Lib.hid hst
      clear hwr hst
      gi_wp2_with fail
      refine ⟨trivial,?_⟩
      refine (calls_round HWR.out).mono ?_
      rintro e w5 ⟨rfl,hb5,hbw5,hok5⟩
      have hk5:=QK.of hbw5 hok5
      have HEND:=Lib.hid (HI3.out.1.next (x:=(px,r)) HI3.out.2 (by omega) HD3.out (by omega) HL3.out h61 hk5 (by rw [quote_plain HST.out];exact hb5) (hok5 _ _ HLB.out (by simp) fun c fz e=>by cases e) (fun M hM=>⟨(HMB.out M hM).1,(HMB.out M hM).2.1,hk5.let_ (HMB.out M hM).2.2 (HMB.out M hM).1 (HMB.out M hM).2.1⟩))
      clear hb5 hbw5 hok5 hk5
      gi_wp2_with fail
      exact HEND.out
    | false=>
      have HST:=Lib.hid hst
      have cL0:w4.cell? ⟨w1.heap.size,0,none⟩=some (.map mb):=HLB.out.cell 0
      have lL0:=HLB.out.lt
      have fL0:=HLB.out.frozen 0
      clear hst
      rcases mb with _ | M
      ·have hlet:=letR_any w4
       have HLET:=Lib.hid hlet
       clear hlet
       gi_wp2_with fail
       refine ⟨trivial,?_⟩
       refine (calls_round HLET.out).mono ?_
       rintro e w5 ⟨rfl,hn5,hlet5⟩
       have hLB5:=hn5.blk HLB.out
       have cL5:w5.cell? ⟨w1.heap.size,0,none⟩=some (.map none):=hLB5.cell 0
       have lL5:=hLB5.lt
       have fL5:=hLB5.frozen 0
       clear cL0 fL0
       gi_upto_region 12 with (fail)
       have HBL:=Lib.hid (((HI3.out.1.bld.nw hn5).keep (x:=w1.heap.size) ((Sb.refl (fun i=>i=w1.heap.size) w5).set (p:=⟨w1.heap.size,0,none⟩) (.inr rfl) (.map (some w4.heap.size))) (by omega) (fun c fz e=>by have e2:=hLB5.symm.trans e;injection e2 with e2;injection e2 with _ e2;exact absurd e2 (by decide))))
       have HKW:=Lib.hid ((QK.nw (B:=w1.heap.size) hn5).trans (QK.set w5 (.map (some w4.heap.size))))
       have HLW2:=Lib.hid (hLB5.set_ 0 (.map (some w4.heap.size)))
       have HLW:=Lib.hid (hlet5.set (p:=⟨w1.heap.size,0,none⟩) (by show w4.heap.size≠w1.heap.size;omega) (.map (some w4.heap.size)))
       obtain ⟨M,hM⟩:∃ M,M=w4.heap.size:=⟨_,rfl⟩
       have HMN:=Lib.hid (show M≠w1.heap.size∧M≠w1.heap.size+1 by omega)
       have hlb4:=HI3.out.1.bld.lt
       rw [←hM] at HBL HKW HLW2 HLW ⊢
       generalize World.setCell w5 _ _=W at *
       clear hM hn5 hlet5 hLB5 cL5 lL5 fL5 lL0 HLET
       have HOK0:=Lib.hid (Lib.OthersKept.refl 5 (some (w1.heap.size+1)) W)
       have hlk:=look_letter HLW.out r hx2
       have cL:W.cell? ⟨w1.heap.size,0,none⟩=some (.map (some M)):=HLW2.out.cell 0
       have lL:=HLW2.out.lt
       have hsW:=HKW.out.size
       cases hlr:letterR r with
       | some c=>
         rw [hlr] at hlk
         have HLR:=Lib.hid hlr
         have hc128:=letter_lt hlr
         have hwb:=wbyte_any 92 HBL.out (by omega) (by omega)
         have HWB:=Lib.hid hwb
         clear hwb hlr
         gi_wp2_with fail
         refine ⟨trivial,?_⟩
         refine (calls_round HWB.out).mono ?_
         rintro e w6 ⟨rfl,hb6,hbw6,hok6⟩
         have hz6:=hbw6.size
         have hwr:=wrune_any (c:Int) (by omega) (by omega) hb6 (by rw [List.length_append];simp only [List.length_cons,List.length_nil];omega) (by omega)
         have HWR:=Lib.hid hwr
         have HK6:=Lib.hid (QK.of hbw6 hok6)
         have HO6:=Lib.hid hok6
         clear hwr hb6 hbw6 hok6 cL hlk
         gi_wp2_with fail
         refine ⟨trivial,?_⟩
         refine (calls_round HWR.out).mono ?_
         rintro e w7 ⟨rfl,hb7,hbw7,hok7⟩
         have hk57:=HK6.out.trans (QK.of hbw7 hok7)
         have HEND:=Lib.hid (HI3.out.1.next (x:=(px,r)) (mb:=some M) HI3.out.2 (by omega) HD3.out (by omega) HL3.out h61 (HKW.out.trans hk57) (by rw [quote_letter HST.out HLR.out];exact hb7) ((HO6.out.trans hok7) _ _ HLW2.out (by simp) fun c fz e=>by cases e) (fun M' hM'=>by injection hM' with hM';subst hM';exact ⟨HMN.out.1,HMN.out.2,hk57.let_ HLW.out HMN.out.1 HMN.out.2⟩))
         clear hb7 hbw7 hok7 hk57
         gi_wp2_with fail
         exact HEND.out
       | none=>
         rw [hlr] at hlk
         have hr32:=few_hex HST.out hlr
         have g15:=and15 hr32
         have HLR:=Lib.hid hlr
         have hws:=wstr_any ⟨#[92,117,48,48]⟩ HBL.out (by show _+4≤_;omega) (by omega)
         have HWS:=Lib.hid hws
         clear hws hlr
         gi_wp2_with fail
         refine ⟨trivial,?_⟩
         refine (calls_round HWS.out).mono ?_
         rintro e w6 ⟨⟨rs,rfl⟩,hb6,hbw6,hok6⟩
         have hz6:=hbw6.size
         have hwr:=wbyte_any (hexD (r / 16)).toNat hb6 (by rw [List.length_append,show (Lib.strCells ⟨#[92,117,48,48]⟩).length=4 from rfl];omega) (by omega)
         have HWR:=Lib.hid hwr
         have HK6:=Lib.hid (QK.of hbw6 hok6)
         have HO6:=Lib.hid hok6
         clear hwr hb6 hbw6 hok6 cL hlk
         gi_wp2_with fail
         rw [hex_get (r / 16) (by omega)]
         refine ⟨trivial,?_⟩
         refine (calls_round HWR.out).mono ?_
         rintro e w7 ⟨rfl,hb7,hbw7,hok7⟩
         have hz7:=hbw7.size
         have hwr:=wbyte_any (hexD (r % 16)).toNat hb7 (by rw [List.length_append,List.length_append,show (Lib.strCells ⟨#[92,117,48,48]⟩).length=4 from rfl];simp only [List.length_cons,List.length_nil];omega) (by omega)
         have HWR7:=Lib.hid hwr
         have HK7:=Lib.hid (HK6.out.trans (QK.of hbw7 hok7))
         have HO7:=Lib.hid (HO6.out.trans hok7)
         clear hwr hb7 hbw7 hok7
         gi_wp2_with fail
         rw [hex_get (r % 16) (by omega)]
         refine ⟨trivial,?_⟩
         refine (calls_round HWR7.out).mono ?_
         rintro e w8 ⟨rfl,hb8,hbw8,hok8⟩
         have hk58:=HK7.out.trans (QK.of hbw8 hok8)
         have HEND:=Lib.hid (HI3.out.1.next (x:=(px,r)) (mb:=some M) HI3.out.2 (by omega) HD3.out (by omega) HL3.out h61 (HKW.out.trans hk58) (by rw [quote_hex HST.out HLR.out];exact hb8) ((HO7.out.trans hok8) _ _ HLW2.out (by simp) fun c fz e=>by cases e) (fun M' hM'=>by injection hM' with hM';subst hM';exact ⟨HMN.out.1,HMN.out.2,hk58.let_ HLW.out HMN.out.1 HMN.out.2⟩))
         clear hb8 hbw8 hok8 hk58
         gi_wp2_with fail
         exact HEND.out
      gi_upto_region 12 with (fail)
      have HBL:=Lib.hid HI3.out.1.bld
      have HKW:=Lib.hid (QK.refl w1.heap.size w4)
      have HLW2:=HLB
      have HLW:=Lib.hid (HMB.out M rfl).2.2
      have HMN:=Lib.hid (And.intro (HMB.out M rfl).1 (HMB.out M rfl).2.1)
      have HOK0:=Lib.hid (Lib.OthersKept.refl 5 (some (w1.heap.size+1)) w4)
      have hlk:=look_letter HLW.out r hx2
      have cL:w4.cell? ⟨w1.heap.size,0,none⟩=some (.map (some M)):=HLW2.out.cell 0
      have lL:=HLW2.out.lt
      have hsW:=HKW.out.size
      cases hlr:letterR r with
      | some c=>
        rw [hlr] at hlk
        have HLR:=Lib.hid hlr
        have hc128:=letter_lt hlr
        have hwb:=wbyte_any 92 HBL.out (by omega) (by omega)
        have HWB:=Lib.hid hwb
        clear hwb hlr
        gi_wp2_with fail
        refine ⟨trivial,?_⟩
        refine (calls_round HWB.out).mono ?_
        rintro e w6 ⟨rfl,hb6,hbw6,hok6⟩
        have hz6:=hbw6.size
        have hwr:=wrune_any (c:Int) (by omega) (by omega) hb6 (by rw [List.length_append];simp only [List.length_cons,List.length_nil];omega) (by omega)
        have HWR:=Lib.hid hwr
        have HK6:=Lib.hid (QK.of hbw6 hok6)
        have HO6:=Lib.hid hok6
        clear hwr hb6 hbw6 hok6 cL hlk
        gi_wp2_with fail
        refine ⟨trivial,?_⟩
        refine (calls_round HWR.out).mono ?_
        rintro e w7 ⟨rfl,hb7,hbw7,hok7⟩
        have hk57:=HK6.out.trans (QK.of hbw7 hok7)
        have HEND:=Lib.hid (HI3.out.1.next (x:=(px,r)) (mb:=some M) HI3.out.2 (by omega) HD3.out (by omega) HL3.out h61 (HKW.out.trans hk57) (by rw [quote_letter HST.out HLR.out];exact hb7) ((HO6.out.trans hok7) _ _ HLW2.out (by simp) fun c fz e=>by cases e) (fun M' hM'=>by injection hM' with hM';subst hM';exact ⟨HMN.out.1,HMN.out.2,hk57.let_ HLW.out HMN.out.1 HMN.out.2⟩))
        clear hb7 hbw7 hok7 hk57
        gi_wp2_with fail
        exact HEND.out
      | none=>
        rw [hlr] at hlk
        have hr32:=few_hex HST.out hlr
        have g15:=and15 hr32
        have HLR:=Lib.hid hlr
        have hws:=wstr_any ⟨#[92,117,48,48]⟩ HBL.out (by show _+4≤_;omega) (by omega)
        have HWS:=Lib.hid hws
        clear hws hlr
        gi_wp2_with fail
        refine ⟨trivial,?_⟩
        refine (calls_round HWS.out).mono ?_
        rintro e w6 ⟨⟨rs,rfl⟩,hb6,hbw6,hok6⟩
        have hz6:=hbw6.size
        have hwr:=wbyte_any (hexD (r / 16)).toNat hb6 (by rw [List.length_append,show (Lib.strCells ⟨#[92,117,48,48]⟩).length=4 from rfl];omega) (by omega)
        have HWR:=Lib.hid hwr
        have HK6:=Lib.hid (QK.of hbw6 hok6)
        have HO6:=Lib.hid hok6
        clear hwr hb6 hbw6 hok6 cL hlk
        gi_wp2_with fail
        rw [hex_get (r / 16) (by omega)]
        refine ⟨trivial,?_⟩
        refine (calls_round HWR.out).mono ?_
        rintro e w7 ⟨rfl,hb7,hbw7,hok7⟩
        have hz7:=hbw7.size
        have hwr:=wbyte_any (hexD (r % 16)).toNat hb7 (by rw [List.length_append,List.length_append,show (Lib.strCells ⟨#[92,117,48,48]⟩).length=4 from rfl];simp only [List.length_cons,List.length_nil];omega) (by omega)
        have HWR7:=Lib.hid hwr
        have HK7:=Lib.hid (HK6.out.trans (QK.of hbw7 hok7))
        have HO7:=Lib.hid (HO6.out.trans hok7)
        clear hwr hb7 hbw7 hok7
        gi_wp2_with fail
        rw [hex_get (r % 16) (by omega)]
        refine ⟨trivial,?_⟩
        refine (calls_round HWR7.out).mono ?_
        rintro e w8 ⟨rfl,hb8,hbw8,hok8⟩
        have hk58:=HK7.out.trans (QK.of hbw8 hok8)
        have HEND:=Lib.hid (HI3.out.1.next (x:=(px,r)) (mb:=some M) HI3.out.2 (by omega) HD3.out (by omega) HL3.out h61 (HKW.out.trans hk58) (by rw [quote_hex HST.out HLR.out];exact hb8) ((HO7.out.trans hok8) _ _ HLW2.out (by simp) fun c fz e=>by cases e) (fun M' hM'=>by injection hM' with hM';subst hM';exact ⟨HMN.out.1,HMN.out.2,hk58.let_ HLW.out HMN.out.1 HMN.out.2⟩))
        clear hb8 hbw8 hok8 hk58
        gi_wp2_with fail
        exact HEND.out
   rintro D xs W hD hS ⟨hI,-⟩ hDk
   have hxs:xs=runesS s:=hS
   have hql:=quoteL_len xs
   have hrl:xs.length≤s.size:=by rw [hxs];exact runesAt_len s s.size 0
   have hwb:=wbyte_any 34 hI.bld (by simp [Lib.byteCells];omega) hI.old.size
   have HWB9:=Lib.hid hwb
   have HI:=Lib.hid hI
   have HDK:=Lib.hid hDk
   have HXS:=Lib.hid hxs
   have HDE:=Lib.hid hD
   clear hS hql hrl hwb hI hDk hxs hD
   gi_wp2_with fail
   refine ⟨trivial,?_⟩
   refine (callsIn_wide.2 HWB9.out).mono ?_
   rintro e w6 ⟨rfl,hb6,hbw6,hok6⟩
   have hk6:=QK.of hbw6 hok6
   have hb6':Bld w1.heap.size (w1.heap.size+1) (Lib.byteCells (quoteS s)) w6:=by
    have e1:Lib.byteCells (quoteS s)=Lib.byteCells (34 :: quoteL xs)++[.int .u8 34]:=by
     rw [quoteS,←HXS.out,byteCells_snoc];rfl
    rw [e1];exact hb6
   have hn6:=QK.old HI.out.old hk6
   have hD6:w6.heap[D]? = some (.deferred (some [])):=hk6.others D _ HDK.out (by have:=HDE.out;omega) (by have:=HDE.out;omega) (fun c fz e=>by cases e)
   have HBS:=Lib.hid (bstr_any2 hb6' hn6.size)
   have HN6:=Lib.hid hn6
   have HD6:=Lib.hid hD6
   clear hb6 hbw6 hok6 hk6 hb6' hn6 hD6
   gi_wp2_with fail
   refine ⟨trivial,?_⟩
   refine (callsIn_wide.2 HBS.out).mono ?_
   rintro e w7 ⟨rfl,hbw7,hok7⟩
   have hk7:=QK.of hbw7 hok7
   have hD7:w7.heap[D]? = some (.deferred (some [])):=hk7.others D _ HD6.out (by have:=HDE.out;omega) (by have:=HDE.out;omega) (fun c fz e=>by cases e)
   have hn7:=QK.old HN6.out hk7
   have HN7:=Lib.hid ((HN1.out.trans hn7).comp (St.put (o':=.deferred none) hD7 rfl rfl).sb fun i hi e=>by have:=HDE.out;have:=HN1.out.size;omega)
   have HD7:=Lib.hid hD7
   clear hbw7 hok7 hk7 hD7 hn7
   gi_wp2_with fail
   refine ⟨by simp,.inl ⟨_,_,rfl,run_takeDeferred HD7.out,?_⟩⟩
   refine ⟨.tuple #[.string ⟨(quoteS s).toArray⟩,.int .i64 0],?_,by rw [HQ.out,HCQ.out],HN7.out⟩
   simp [results,Tryz.results210,go_sem]
theorem quote_any {w:World} (hL:LibQ w) {s:ByteArray} (hs:s.size≤10000000):Calls Tryz.prog 166 #[.string s] w fun e w'=>e=.returned (.string (quoteA s))∧Nw w w':=by
 have hq:=utfQuote_any hL hs
 have HQ:=Lib.hid hq
 clear hq hL hs
 go_enter Tryz.func166,Tryz.ntmps166
 go_wp2_with fail
 refine HQ.out.mono ?_
 rintro e w1 ⟨rfl,hn⟩
 have HN:=Lib.hid hn
 clear hn
 go_wp2_with fail
 go_ret
 exact ⟨rfl,HN.out⟩
end Go.Proofs.YtkhdiakpdafcdaaGreatDoor
namespace Go.Proofs.YtkhdiakpdafcdaaGreatDoor
open Go.RowKit Go.Maps Go.Shelf
set_option linter.unusedVariables false
set_option linter.unusedSimpArgs false
mutual
/-- How many bytes a value's text has. -/
def lenV:Val→Nat
 | .mk k b i t l ok ov=>if k=2 then lenB b else if k=3 then (Lib.itoa i).length else if k=4 then (quoteA t).size else if k=5 then 2+lenL l+(l.length - 1) else if k=6 then 2+lenM ok ov+(ov.length - 1) else 4
def lenL:List Val→Nat
 | []=>0
 | d :: r=>lenV d+lenL r
def lenM:List ByteArray→List Val→Nat
 | _,[]=>0
 | ks,d :: r=>(quoteA (ks.headD ByteArray.empty)).size+1+lenV d+lenM ks.tail r
end
theorem lenL_take:∀ {l:List Val} {j:Nat} {d:Val},l[j]? = some d→lenL (l.take (j+1))=lenL (l.take j)+lenV d
 | [],j,d,h=>by simp at h
 | x :: r,0,d,h=>by
   simp at h;subst h
   simp [lenL]
 | x :: r,j+1,d,h=>by
   have h':r[j]? = some d:=by simpa using h
   rw [List.take_succ_cons,List.take_succ_cons,lenL,lenL,lenL_take h',Nat.add_assoc]
theorem lenL_cut (l:List Val) (j:Nat):lenL (l.take j)≤lenL l:=by
 induction l generalizing j with
 | nil=>simp
 | cons x r ih=>
   cases j with
   | zero=>simp [lenL]
   | succ j=>rw [List.take_succ_cons,lenL,lenL];have:=ih j;omega
theorem lenM_take:∀ {ks:List ByteArray} {l:List Val} {j:Nat} {d:Val} {k:ByteArray},l[j]? = some d→ks[j]? = some k→lenM ks (l.take (j+1))=lenM ks (l.take j)+((quoteA k).size+1+lenV d)
 | ks,[],j,d,k,h,_=>by simp at h
 | [],x :: r,j,d,k,h,hk=>by simp at hk
 | y :: ks,x :: r,0,d,k,h,hk=>by
   simp at h hk;subst h hk
   simp [lenM]
 | y :: ks,x :: r,j+1,d,k,h,hk=>by
   have h':r[j]? = some d:=by simpa using h
   have hk':ks[j]? = some k:=by simpa using hk
   rw [List.take_succ_cons,List.take_succ_cons,lenM,lenM,List.tail_cons,lenM_take h' hk'];omega
theorem lenM_cut:∀ (ks:List ByteArray) (l:List Val) (j:Nat),lenM ks (l.take j)≤lenM ks l
 | ks,[],j=>by simp
 | ks,x :: r,0=>by simp [lenM]
 | ks,x :: r,j+1=>by
   rw [List.take_succ_cons,lenM,lenM];have:=lenM_cut ks.tail r j;omega
theorem join_oneG {w:World} {B:Nat} {a b:Value} {m:Nat} (s:ByteArray) (hB:Blk w B 162 (wrC a b m)) (hm:m+s.size≤100000000) :
  Calls Tryz.prog 161 #[.pointer (some ⟨B,0,none⟩),.slice (some ⟨w.heap.size,0,none⟩) 1 1] (w.alloc (.cells #[.string s] 9)) fun e w'=>(∃ r,e=.returned r)∧Blk w' B 162 (wrC a b (m+s.size))∧Sb (fun c=>c=B) w w':=by
 have hx:Ext w (w.alloc (.cells #[.string s] 9)):=(Ext.refl w).alloc _ _
 have hl:=hB.lt
 have hj:=join_any (s:=⟨some ⟨w.heap.size,0,none⟩,1⟩) (ks:=[s]) (hB.ext hx) (Rd.block (Blk.new w 9 #[.string s]) (by decide) rfl) (fun i hi=>by subst hi;exact ⟨by simp,by omega⟩) (by simp [sumS];omega) (by simp)
 exact hj.mono fun e w' ⟨h1,h2,h3⟩=>⟨h1,by simpa [sumS] using h2,(Nw.any (Nw.of hx) _).trans h3.sb⟩
theorem join_two {w:World} {B:Nat} {a b:Value} {m:Nat} (s t:ByteArray) (hB:Blk w B 162 (wrC a b m)) (hm:m+s.size+t.size≤100000000) :
  Calls Tryz.prog 161 #[.pointer (some ⟨B,0,none⟩),.slice (some ⟨w.heap.size,0,none⟩) 2 2] (w.alloc (.cells #[.string s,.string t] 9)) fun e w'=>(∃ r,e=.returned r)∧Blk w' B 162 (wrC a b (m+s.size+t.size))∧Sb (fun c=>c=B) w w':=by
 have hx:Ext w (w.alloc (.cells #[.string s,.string t] 9)):=(Ext.refl w).alloc _ _
 have hl:=hB.lt
 have hj:=join_any (s:=⟨some ⟨w.heap.size,0,none⟩,2⟩) (ks:=[s,t]) (hB.ext hx) (Rd.block (Blk.new w 9 #[.string s,.string t]) (by decide) rfl) (fun i hi=>by subst hi;exact ⟨by simp,by omega⟩) (by simp [sumS];omega) (by simp)
 exact hj.mono fun e w' ⟨h1,h2,h3⟩=>⟨h1,by simpa [sumS,Nat.add_assoc] using h2,(Nw.any (Nw.of hx) _).trans h3.sb⟩
theorem own2_any {w:World} {V B:Nat} {a b:Value} {n:Int} {m:Nat} {c0 c1 c3 c4 c5:Value} (hV:Blk w V 28 #[c0,c1,.int .i64 n,c3,c4,c5]) (hB:Blk w B 162 (wrC a b m)) (h0 : -9223372036854775808≤n) (h1:n≤9223372036854775807) (hm:m+(Lib.itoa n).length≤100000000) (hL:LibQ w) :
  Calls Tryz.prog 163 #[.pointer (some ⟨B,0,none⟩),.pointer (some ⟨V,0,none⟩)] w fun e w'=>(∃ r,e=.returned r)∧Blk w' B 162 (wrC a b (m+(Lib.itoa n).length))∧Sb (fun c=>c=B) w w':=by
 have hf:=hL.num w (G5.refl w) n h0 h1
 have c2:w.cell? ⟨V,2,none⟩=some (.int .i64 n):=hV.cell 2
 have HF:=Lib.hid hf
 have HB:=Lib.hid hB
 have HM:=Lib.hid hm
 clear hf hV hB hm h0 h1 hL
 go_enter Tryz.func163,Tryz.ntmps163
 go_wp2_with fail
 refine HF.out.mono ?_
 rintro e w1 ⟨rfl,hn1⟩
 have hj:=join_oneG (w:=w1) ⟨(Lib.itoa n).toArray⟩ (hn1.blk HB.out) (by have:=HM.out;simpa [ByteArray.size] using this)
 rw [show (ByteArray.mk (Lib.itoa n).toArray).size=(Lib.itoa n).length by simp [ByteArray.size]] at hj
 have HJ:=Lib.hid hj
 have HN:=Lib.hid hn1
 clear hj hn1 c2
 go_wp2_with fail
 refine HJ.out.mono ?_
 rintro e w2 ⟨⟨r,rfl⟩,hb1,hs1⟩
 have HB1:=Lib.hid hb1
 have HS1:=Lib.hid ((HN.out.any _).trans hs1)
 clear hb1 hs1
 go_wp2_with fail
 go_end0
 exact ⟨⟨_,rfl⟩,HB1.out,HS1.out⟩
theorem own3_any {w:World} {V B:Nat} {a b:Value} {t:ByteArray} {m:Nat} {c0 c1 c2 c4 c5:Value} (hV:Blk w V 28 #[c0,c1,c2,.string t,c4,c5]) (hB:Blk w B 162 (wrC a b m)) (ht:t.size≤10000000) (hm:m+(quoteA t).size≤100000000) (hL:LibQ w) :
  Calls Tryz.prog 165 #[.pointer (some ⟨B,0,none⟩),.pointer (some ⟨V,0,none⟩)] w fun e w'=>(∃ r,e=.returned r)∧Blk w' B 162 (wrC a b (m+(quoteA t).size))∧Sb (fun c=>c=B) w w':=by
 have hf:=quote_any hL ht
 have c2:w.cell? ⟨V,3,none⟩=some (.string t):=hV.cell 3
 have HF:=Lib.hid hf
 have HB:=Lib.hid hB
 have HM:=Lib.hid hm
 clear hf hV hB hm hL ht
 go_enter Tryz.func165,Tryz.ntmps165
 go_wp2_with fail
 refine HF.out.mono ?_
 rintro e w1 ⟨rfl,hn1⟩
 have hj:=join_oneG (w:=w1) (quoteA t) (hn1.blk HB.out) HM.out
 have HJ:=Lib.hid hj
 have HN:=Lib.hid hn1
 clear hj hn1 c2
 go_wp2_with fail
 refine HJ.out.mono ?_
 rintro e w2 ⟨⟨r,rfl⟩,hb1,hs1⟩
 have HB1:=Lib.hid hb1
 have HS1:=Lib.hid ((HN.out.any _).trans hs1)
 clear hb1 hs1
 go_wp2_with fail
 go_end0
 exact ⟨⟨_,rfl⟩,HB1.out,HS1.out⟩
def fnO (k:Int):Nat:=if k=2 then 160 else if k=3 then 163 else if k=4 then 165 else if k=5 then 167 else if k=6 then 169 else 171
def bsO (k:Int) (V:Nat):Array Value:=if k=2∨k=3∨k=4∨k=5∨k=6 then #[.pointer (some ⟨V,0,none⟩)] else #[]
abbrev valC (d:Val) (sl so:Sl):Array Value:=#[.int .i64 d.kind,.bool d.b,.int .i64 d.i,.string d.t,.slice sl.a d.l.length sl.c,.slice so.a d.ok.length so.c]
theorem own_any (w:World) (d:Val) (sl so:Sl):Calls Tryz.prog 118 #[aggV d sl so] w fun e w'=>e=.returned (.func (.func (fnO d.kind)) #[] (bsO d.kind w.heap.size))∧Ext w w'∧Blk w' w.heap.size 28 (valC d sl so):=by
 obtain ⟨k,b,i,t,l,ok,ov⟩:=d
 show Calls _ _ #[.agg #[.int .i64 k,.bool b,.int .i64 i,.string t,.slice sl.a l.length sl.c,.slice so.a ok.length so.c]] _ fun e w'=>e=.returned (.func (.func (fnO k)) #[] (bsO k w.heap.size))∧Ext w w'∧Blk w' w.heap.size 28 #[.int .i64 k,.bool b,.int .i64 i,.string t,.slice sl.a l.length sl.c,.slice so.a ok.length so.c]
 by_cases h2:k=2
 ·subst h2
  go_enter Tryz.func118,Tryz.ntmps118
  go_wp2_with fail
  go_ret
  exact ⟨rfl,(Ext.refl w).alloc _ _,Blk.new w _ _⟩
 by_cases h3:k=3
 ·subst h3
  go_enter Tryz.func118,Tryz.ntmps118
  go_wp2_with fail
  go_ret
  exact ⟨rfl,(Ext.refl w).alloc _ _,Blk.new w _ _⟩
 by_cases h4:k=4
 ·subst h4
  go_enter Tryz.func118,Tryz.ntmps118
  go_wp2_with fail
  go_ret
  exact ⟨rfl,(Ext.refl w).alloc _ _,Blk.new w _ _⟩
 by_cases h5:k=5
 ·subst h5
  go_enter Tryz.func118,Tryz.ntmps118
  go_wp2_with fail
  go_ret
  exact ⟨rfl,(Ext.refl w).alloc _ _,Blk.new w _ _⟩
 by_cases h6:k=6
 ·subst h6
  go_enter Tryz.func118,Tryz.ntmps118
  go_wp2_with fail
  go_ret
  exact ⟨rfl,(Ext.refl w).alloc _ _,Blk.new w _ _⟩
 have g2:(k == 2)=false:=by simpa using h2
 have g3:(k == 3)=false:=by simpa using h3
 have g4:(k == 4)=false:=by simpa using h4
 have g5:(k == 5)=false:=by simpa using h5
 have g6:(k == 6)=false:=by simpa using h6
 have hf:fnO k=171:=by simp [fnO,h2,h3,h4,h5,h6]
 have hb:bsO k w.heap.size=#[]:=by simp [bsO,h2,h3,h4,h5,h6]
 rw [hf,hb]
 clear h2 h3 h4 h5 h6 hf hb
 go_enter Tryz.func118,Tryz.ntmps118
 go_wp2_with fail
 go_ret
 exact ⟨rfl,(Ext.refl w).alloc _ _,Blk.new w _ _⟩
mutual
/-- How much a value counts. -/
def cntV:Val→Nat
 | .mk k b i t l ok ov=>7+t.size+cntL l+cntM ok ov
def cntL:List Val→Nat
 | []=>0
 | d :: r=>cntV d+cntL r
def cntM:List ByteArray→List Val→Nat
 | _,[]=>0
 | ks,d :: r=>(ks.headD ByteArray.empty).size+2+cntV d+cntM ks.tail r
end
theorem cntL_at:∀ {l:List Val} {j:Nat} {d:Val},l[j]? = some d→cntV d≤cntL l
 | [],j,d,h=>by simp at h
 | x :: r,0,d,h=>by simp at h;subst h;rw [cntL];omega
 | x :: r,j+1,d,h=>by have:=cntL_at (l:=r) (j:=j) (by simpa using h);rw [cntL];omega
theorem cntM_at:∀ {ks:List ByteArray} {l:List Val} {j:Nat} {d:Val} {k:ByteArray},l[j]? = some d→ks[j]? = some k→cntV d+k.size≤cntM ks l
 | ks,[],j,d,k,h,_=>by simp at h
 | [],x :: r,j,d,k,h,hk=>by simp at hk
 | y :: ks,x :: r,0,d,k,h,hk=>by simp at h hk;subst h hk;rw [cntM,List.headD_cons];omega
 | y :: ks,x :: r,j+1,d,k,h,hk=>by have:=cntM_at (ks:=ks) (l:=r) (j:=j) (by simpa using h) (by simpa using hk);rw [cntM,List.tail_cons];omega
theorem quoteA_len (s:ByteArray):(quoteA s).size≤6*s.size+2:=by
 unfold quoteA
 split
 ·have:=quoteS_len s
  show (quoteS s).toArray.size≤_
  rw [List.size_toArray];exact this
 show 0≤_;omega
theorem lenB_le (x:Bool):lenB x≤5:=by rw [lenB_eq];split <;> omega
mutual
theorem lenV_cnt (F:Nat→Prop) (w:World):∀ (d:Val) (sl so:Sl),RV w F d sl so→lenV d+2≤6*cntV d
 | .mk k b i t l ok ov,sl,so,h=>by
   unfold lenV cntV
   cases h with
   | mk bl fl bo fo cl co hl ho hov el rl ek eo ro bk bi bt nl no=>
   split
   ·have:=lenB_le b;omega
   split
   ·have:=Lib.itoa_length_le i (by simp [Lit.wf,IntKind.min,IntKind.max,IntKind.signed,IntKind.bits] at bi;omega) (by simp [Lit.wf,IntKind.min,IntKind.max,IntKind.signed,IntKind.bits] at bi;omega)
    omega
   split
   ·have:=quoteA_len t;omega
   split
   ·have:=lenL_cnt F w l cl (fun j d hj=>rl j d hj)
    omega
   split
   ·have:=lenM_cnt F w ok ov co (fun j d hj=>ro j d hj) hov
    omega
   omega
theorem lenL_cnt (F:Nat→Prop) (w:World):∀ (l:List Val) (c:Nat→Sl × Sl),(∀ j d,l[j]? = some d→RV w F d (c j).1 (c j).2)→lenL l+2*l.length≤6*cntL l
 | [],c,h=>by simp [lenL,cntL]
 | d :: r,c,h=>by
   have h1:=lenV_cnt F w d _ _ (h 0 d rfl)
   have h2:=lenL_cnt F w r (fun j=>c (j+1)) (fun j d hj=>h (j+1) d (by simpa using hj))
   rw [lenL,cntL,List.length_cons];omega
theorem lenM_cnt (F:Nat→Prop) (w:World):∀ (ks:List ByteArray) (l:List Val) (c:Nat→Sl × Sl),(∀ j d,l[j]? = some d→RV w F d (c j).1 (c j).2)→l.length=ks.length→lenM ks l+2*l.length≤6*cntM ks l
 | ks,[],c,h,hl=>by simp [lenM,cntM]
 | [],d :: r,c,h,hl=>by cases hl
 | k :: ks,d :: r,c,h,hl=>by
   have h1:=lenV_cnt F w d _ _ (h 0 d rfl)
   have h2:=lenM_cnt F w ks r (fun j=>c (j+1)) (fun j d hj=>h (j+1) d (by simpa using hj)) (by simpa using hl)
   have h3:=quoteA_len k
   rw [lenM,cntM,List.length_cons,List.headD_cons,List.tail_cons];omega
end
def comA (j:Nat):ByteArray:=if j=0 then ByteArray.empty else ⟨#[44]⟩
theorem between_x (w:World) (j:Nat):Calls Tryz.prog 168 #[.int .i64 (j:Int)] w fun e w'=>e=.returned (.string (comA j))∧w'=w:=by
 by_cases h:j=0
 ·subst h
  go_enter Tryz.func168,Tryz.ntmps168
  go_wp2_with fail
  go_ret
  exact ⟨rfl,rfl⟩
 have g0:((j:Int) == 0)=false:=by simp;omega
 have hc:comA j=⟨#[44]⟩:=if_neg h
 rw [hc]
 clear hc h
 go_enter Tryz.func168,Tryz.ntmps168
 go_wp2_with fail
 go_ret
 exact ⟨rfl,rfl⟩
theorem comA_len (j:Nat):(comA j).size=j - (j - 1):=by
 unfold comA
 by_cases h:j=0
 ·subst h;rfl
 rw [if_neg h];show 1=_;omega
def WrPost (B:Nat) (a b:Value) (n:Nat) (d:Val) (w:World) (e:Ending) (w':World):Prop:=
 (∃ r,e=.returned r)∧Blk w' B 162 (wrC a b (n+lenV d))∧Sb (fun c=>c=B) w w'
def WrIH (P:Val→Prop):Prop:=∀ (d:Val),P d→cntV d≤1100000→∀ (w:World) (F:Nat→Prop) (V B:Nat) (sl so:Sl) (a b:Value) (n:Nat),Blk w V 28 (valC d sl so)→RV w F d sl so→(∀ i,F i→i<w.heap.size∧i≠B)→V≠B→Blk w B 162 (wrC a b n)→n+lenV d≤9000000→LibQ w→6≤B→
 Calls Tryz.prog (fnO d.kind) (#[.pointer (some ⟨B,0,none⟩)]++bsO d.kind V) w (WrPost B a b n d w)
theorem enters_own (k:Int):∀ args w,(callFunc (fnO k) args).run Tryz.prog w=.ok (.enter (fnO k) args) w:=by
 unfold fnO
 split
 ·exact enters_of Tryz.func160 (by kernel_rfl) rfl
 split
 ·exact enters_of Tryz.func163 (by kernel_rfl) rfl
 split
 ·exact enters_of Tryz.func165 (by kernel_rfl) rfl
 split
 ·exact enters_of Tryz.func167 (by kernel_rfl) rfl
 split
 ·exact enters_of Tryz.func169 (by kernel_rfl) rfl
 exact enters_of Tryz.func171 (by kernel_rfl) rfl
theorem own4_any {P:Val→Prop} (hI:WrIH P) {w:World} {F:Nat→Prop} {V B:Nat} {bo:Bool} {i:Int} {t:ByteArray} {l:List Val} {ok:List ByteArray} {ov:List Val} {sl so:Sl} {a b:Value} {n:Nat}
  (hP:∀ (j:Nat) (d:Val),l[j]? = some d→P d) (hc:cntL l≤1100000)
  (hV:Blk w V 28 #[.int .i64 5,.bool bo,.int .i64 i,.string t,.slice sl.a l.length sl.c,.slice so.a ok.length so.c]) (h:RV w F (.mk 5 bo i t l ok ov) sl so) (hF:∀ i,F i→i<w.heap.size∧i≠B) (hVB:V≠B) (hB:Blk w B 162 (wrC a b n)) (hn:n+(2+lenL l+(l.length - 1))≤9000000) (hL:LibQ w) (h6:6≤B) :
  Calls Tryz.prog 167 #[.pointer (some ⟨B,0,none⟩),.pointer (some ⟨V,0,none⟩)] w fun e w'=>(∃ r,e=.returned r)∧Blk w' B 162 (wrC a b (n+(2+lenL l+(l.length - 1))))∧Sb (fun c=>c=B) w w':=by
 cases h with
 | mk bl fl bo' fo cl co hl ho hov el rl ek eo ro bk bi bt nl no=>
 have hj0:=join_oneG (w:=w) ⟨#[91]⟩ hB (by show n+1≤_;omega)
 have hbt:=fun W j=>between_x W j
 have HJ0:=Lib.hid hj0
 have HBT:=Lib.hid hbt
 have HV:=Lib.hid hV
 have HF:=Lib.hid hF
 have HEL:=Lib.hid el
 have HRL:=Lib.hid rl
 have HSL:=Lib.hid hl
 have HLQ:=Lib.hid hL
 have HI:=Lib.hid hI
 have HP:=Lib.hid hP
 have HC:=Lib.hid hc
 have HN:=Lib.hid hn
 have hVl:=hV.lt
 have hBl:=hB.lt
 have hll:l.length≤2000000000000:=by omega
 clear hj0 hbt hV hB hF el rl ek eo ro hl ho hov hL hI hP hc hn bk bi bt nl no
 go_enter Tryz.func167,Tryz.ntmps167
 go_wp2_with fail
 refine HJ0.out.mono ?_
 rintro e w1 ⟨⟨r,rfl⟩,hb1,hs1⟩
 obtain ⟨q0,q1,q2,q3,q4,q5⟩:=(hs1.blk HV.out hVB).c6
 have HB1:=Lib.hid hb1
 have HS1:=Lib.hid hs1
 clear hb1 hs1 HJ0
 go_wp2_with fail
 go_loopw [11] (fun q wr=>∃ (j:Nat),q=.int .i64 j∧j≤l.length∧Blk wr B 162 (wrC a b (n+1+(lenL (l.take j)+(j - 1))))∧Sb (fun c=>c=B) w wr) (fun q _=>l.length - (intOf q).toNat)
 case atStart=>exact ⟨0,rfl,Nat.zero_le _,HB1.out,HS1.out⟩
 obtain ⟨j,rfl,hj,hb,hs⟩:=hrel
 by_cases h1:j<l.length
 ·have g1:(j:Int)<(l.length:Int):=by omega
  have g1':decide ((j:Int)<(l.length:Int))=true:=decide_eq_true g1
  obtain ⟨d,hd⟩:∃ d,l[j]? = some d:=⟨_,List.getElem?_eq_getElem h1⟩
  obtain ⟨hsa,hlc,hcm⟩:=HSL.out.eq (by omega)
  have hbl:=HF.out bl (HSL.out.fits (by omega))
  have hag:Agree F w wr:=fun x hx=>hs.block x (HF.out x hx).1 (HF.out x hx).2
  have hbF:=HSL.out.fits (show 0<l.length by omega)
  obtain ⟨sa,sc⟩:=sl
  dsimp only at hsa hlc hcm
  subst hsa
  obtain ⟨v0,v1,v2,v3,v4,v5⟩:=(HEL.out j d hd).agree hag hbF
  have lb:bl<wr.heap.size:=Nat.lt_of_lt_of_le hbl.1 hs.size
  have hcut:=lenL_cut l (j+1)
  have htk:=lenL_take hd
  have hcom:=comA_len j
  have hlenN:n+1+(lenL (l.take j)+(j - 1))+(comA j).size+lenV d≤9000000:=by have:=HN.out;omega
  have hcd:cntV d≤1100000:=Nat.le_trans (cntL_at hd) HC.out
  have HD:=Lib.hid hd
  have HB:=Lib.hid hb
  have HS:=Lib.hid hs
  have HLN:=Lib.hid hlenN
  have HTK:=Lib.hid htk
  have HCM:=Lib.hid hcom
  have HCD:=Lib.hid hcd
  have HPD:=Lib.hid (HP.out j d hd)
  have hen:=enters_own d.kind
  clear hb hs hag hbl hcut htk hcom hlenN hcd hd
  go_wp2_with fail
  refine (HBT.out _ j).mono ?_
  rintro e w2 ⟨rfl,hw2⟩
  have hx2:Ext wr w2:=by rw [hw2];exact (Ext.refl wr).alloc _ _
  have hb2:Blk w2 wr.heap.size 28 (valC d (cl j).1 (cl j).2):=by rw [hw2];exact Blk.new wr 28 _
  clear hw2
  have hj2:=join_oneG (w:=w2) (comA j) (HB.out.ext hx2) (by have:=HLN.out;omega)
  have HJ2:=Lib.hid hj2
  have HIB:=Lib.hid hb2
  have HS2:=Lib.hid (HS.out.ext hx2)
  have hlr:=HB.out.lt
  clear hx2 hb2 hj2
  go_wp2_with fail
  refine HJ2.out.mono ?_
  rintro e w3 ⟨⟨r2,rfl⟩,hb3,hs3⟩
  have hi3:=hs3.blk HIB.out (by omega)
  obtain ⟨u0,u1,u2,u3,u4,u5⟩:=hi3.c6
  have HB3:=Lib.hid hb3
  have HS3:=Lib.hid (HS2.out.trans hs3)
  clear hb3 hs3 hi3 HJ2 v0 v1 v2 v3 v4 v5
  go_wp2_with fail
  refine (own_any _ d (cl j).1 (cl j).2).mono ?_
  rintro e w4 ⟨rfl,hx4,hbv⟩
  have hs4:=HS3.out.ext hx4
  have hag4:Agree F w w4:=fun x hx=>hs4.block x (HF.out x hx).1 (HF.out x hx).2
  have hcall:=HI.out d HPD.out HCD.out w4 F w3.heap.size B (cl j).1 (cl j).2 a b (n+1+(lenL (l.take j)+(j - 1))+(comA j).size) hbv ((HRL.out j d HD.out).agree hag4) (fun i hi=>⟨Nat.lt_of_lt_of_le (HF.out i hi).1 hs4.size,(HF.out i hi).2⟩) (by have:=HB3.out.lt;omega) (HB3.out.ext hx4) HLN.out
   (HLQ.out.sb hs4 fun c hc e=>by have e:c=B:=e;omega) h6
  have HCALL:=Lib.hid hcall
  have HS4:=Lib.hid hs4
  clear hx4 hbv hs4 hag4 hcall u0 u1 u2 u3 u4 u5
  go_wp2_with fail
  refine HCALL.out.mono ?_
  rintro e w5 ⟨⟨r3,rfl⟩,hb5,hs5⟩
  have HB5:=Lib.hid hb5
  have HS5:=Lib.hid (HS4.out.trans hs5)
  clear hb5 hs5
  go_wp2_with fail
  go_roundw
  case rel=>exact ⟨j+1,by go_num,h1,by rw [show n+1+(lenL (l.take (j+1))+(j+1 - 1))=n+1+(lenL (l.take j)+(j - 1))+(comA j).size+lenV d by rw [HTK.out,HCM.out];omega];exact HB5.out,HS5.out⟩
  simp [intOf];omega
 obtain rfl:j=l.length:=by omega
 rw [List.take_length] at hb
 have hj1:=join_oneG (w:=wr) ⟨#[93]⟩ hb (by have:=HN.out;show _+1≤_;omega)
 have HJ1:=Lib.hid hj1
 have HS:=Lib.hid hs
 have g1:decide ((l.length:Int)<(l.length:Int))=false:=decide_eq_false (by omega)
 clear hj1 hb hs
 go_wp2_with fail
 refine HJ1.out.mono ?_
 rintro e w3 ⟨⟨r2,rfl⟩,hb3,hs3⟩
 have HB3:=Lib.hid hb3
 have HS3:=Lib.hid (HS.out.trans hs3)
 clear hb3 hs3 HJ1
 go_wp2_with fail
 go_end0
 exact ⟨⟨_,rfl⟩,by rw [show n+(2+lenL l+(l.length - 1))=n+1+(lenL l+(l.length - 1))+1 by omega];exact HB3.out,HS3.out⟩
attribute [local go_sem] Oper.semAt_some
theorem mems_any (w:World) (a:Option Addr) (n c:Nat):Calls Tryz.prog 170 #[.slice a n c] w fun e w'=>e=.returned (.func (.func 211) #[] #[.pointer (some ⟨w.heap.size,0,none⟩)])∧Ext w w'∧Blk w' w.heap.size 26 #[.slice a n c]:=by
 go_enter Tryz.func170,Tryz.ntmps170
 go_wp2_with fail
 go_ret
 exact ⟨rfl,(Ext.refl w).alloc _ _,Blk.new w _ _⟩
structure ME where
 t:ByteArray
 d:Val
 V:Nat
 sl:Sl
 so:Sl
abbrev encM (x:ME):Array Value:=#[.string x.t,.func (.func (fnO x.d.kind)) #[] (bsO x.d.kind x.V)]
def MDone (ok:List ByteArray) (xs:List ME):Prop:=xs.length=ok.length
structure MG (F:Nat→Prop) (ok:List ByteArray) (ov:List Val) (pre:List ME) (x:ME) (W0 W1:World):Prop where
 ex:∃ k,ok[pre.length]? = some k∧ov[pre.length]? = some x.d∧x.t=comA pre.length++quoteA k
 blk:Blk W1 x.V 28 (valC x.d x.sl x.so)
 val:RV W1 F x.d x.sl x.so
 new:W0.heap.size≤x.V
structure MS (J:List ME→World→Prop) (K:Nat→Prop) (W:World) (j:Nat) (pre:List ME) (Wj wr:World):Prop where
 inv:J pre Wj
 nw:Nw Wj wr
 len:pre.length=j
 ag:Agree K W wr
 sz:W.heap.size≤wr.heap.size
structure MOk (w:World) (F:Nat→Prop) (so:Sl) (ok:List ByteArray) (ov:List Val):Prop where
 ex:∃ (bo fo:Nat) (co:Nat→Sl × Sl),SlAt F so ok.length bo fo∧RO w F bo fo ok ov co
 len:ov.length=ok.length
 few:∀ k∈ok,k.size≤10000000
theorem MOk.agree {w w':World} {F:Nat→Prop} {so:Sl} {ok:List ByteArray} {ov:List Val} (h:MOk w F so ok ov) (ha:Agree F w w'):MOk w' F so ok ov:=by
 obtain ⟨⟨bo,fo,co,h1,h2⟩,h3,h4⟩:=h
 exact ⟨⟨bo,fo,co,h1,h2.agree ha h3 (fun h=>h1.fits h)⟩,h3,h4⟩
theorem MOk.at {w:World} {F:Nat→Prop} {so:Sl} {ok:List ByteArray} {ov:List Val} (h:MOk w F so ok ov) {j:Nat} (hj:j<ok.length) :
  ∃ (b o:Nat) (k:ByteArray) (d:Val) (sl2 so2:Sl),so.a=some ⟨b,o,none⟩∧F b∧ok.length≤so.c∧so.c≤maxLen∧ok[j]? = some k∧ov[j]? = some d∧w.cell? ⟨b,o+j*7,none⟩=some (.string k)∧VCells w b (o+j*7+1) d sl2 so2∧RV w F d sl2 so2∧k.size≤10000000:=by
 obtain ⟨⟨b,o,co,h1,h2⟩,h3,h4⟩:=h
 obtain ⟨e1,e2,e3⟩:=h1.eq (by omega)
 have hk:=List.getElem?_eq_getElem hj
 have hd:=List.getElem?_eq_getElem (l:=ov) (i:=j) (by omega)
 exact ⟨b,o,_,_,_,_,e1,h1.fits (by omega),e2,e3,hk,hd,(h2.keys j _ hk).1,h2.cells j _ hd,h2.reads j _ hd,h4 _ (List.mem_of_getElem? hk)⟩
theorem mg_of {J:List ME→World→Prop} {F K:Nat→Prop} {ok:List ByteArray} {ov:List Val} {W Wj wr w4 w5:World} {j:Nat} {pre:List ME} {k:ByteArray} {d:Val} {sl so:Sl} (h:MS J K W j pre Wj wr) (hk:ok[j]? = some k∧ov[j]? = some d) (hb:Blk w5 w4.heap.size 28 (valC d sl so)) (hr:RV wr F d sl so) (hn:Nw wr w5) (hF:∀ b,F b→b<wr.heap.size) (hz:wr.heap.size≤w4.heap.size) :
  MG F ok ov pre ⟨comA j++quoteA k,d,w4.heap.size,sl,so⟩ Wj w5:=
 ⟨⟨k,by rw [h.len];exact hk.1,by rw [h.len];exact hk.2,by rw [h.len]⟩,hb,hr.agree (hn.agree hF),Nat.le_trans h.nw.size hz⟩
def MRes (J Jx:List ME→World→Prop) (K:Nat→Prop) (W:World) (j:Nat) (xs:List ME) (bb:Bool) (w':World):Prop:=(bb=true∧MS J K W (j+1) xs w' w')∨(bb=false∧Jx xs w')
theorem mres_of {J Jx:List ME→World→Prop} {K:Nat→Prop} {W Wj wr w5:World} {j:Nat} {pre:List ME} {x:ME} (h:MS J K W j pre Wj wr) (k:Nw wr w5) (hK:∀ b,K b→b<W.heap.size) (e:Ending) (w':World)
  (hp:(e=.returned (.bool true)∧J (pre++[x]) w'∧Agree K w5 w'∧w5.heap.size≤w'.heap.size)∨(e=.returned (.bool false)∧Jx (pre++[x]) w')):∃ bb:Bool,e=.returned (.bool bb)∧Hid (MRes J Jx K W j (pre++[x]) bb w'):=by
 rcases hp with ⟨rfl,h1,h2,h3⟩ | ⟨rfl,h1⟩
 ·exact ⟨true,rfl,Lib.hid (.inl ⟨rfl,h1,Sb.refl _ _,by simp [h.len],(h.ag.trans (k.agree fun b hb=>Nat.lt_of_lt_of_le (hK b hb) h.sz)).trans h2,Nat.le_trans (Nat.le_trans h.sz k.size) h3⟩)⟩
 exact ⟨false,rfl,Lib.hid (.inr ⟨rfl,h1⟩)⟩
theorem mems_seq {w0:World} {Bx:Nat} {F:Nat→Prop} {so:Sl} {ok:List ByteArray} {ov:List Val} (hB:Blk w0 Bx 26 #[.slice so.a ok.length so.c]) (hM:MOk w0 F so ok ov) (hF:∀ b,F b→b<w0.heap.size) (hL:LibQ w0) (hn:ok.length≤100000000) :
  SeqP Tryz.prog 211 #[.pointer (some ⟨Bx,0,none⟩)] encM (fun b=>F b∨b=Bx∨b<6) (MG F ok ov) (MDone ok) (fun _=>True) w0:=by
 intro l J Jx W hTk hA hsz hJ
 have h6:=hL.lib.big
 have hlB:=hB.lt
 have hKW:∀ b,(F b∨b=Bx∨b<6)→b<W.heap.size:=fun b hb=>by
  rcases hb with hb | rfl | hb
  ·have:=hF b hb;omega
  ·omega
  omega
 have hss:∀ W1,Agree (fun b=>F b∨b=Bx∨b<6) W W1→W.heap.size≤W1.heap.size→Blk W1 Bx 26 #[.slice so.a ok.length so.c]∧MOk W1 F so ok ov∧LibQ W1:=fun W1 hW hz=>by
  have ha:Agree (fun b=>F b∨b=Bx∨b<6) w0 W1:=hA.trans hW
  refine ⟨(ha Bx (.inr (.inl rfl))).trans hB,hM.agree (ha.mono fun b hb=>.inl hb),?_⟩
  have hg:G5 w0 W1:=fun b hb=>ha b (.inr (.inr hb))
  exact ⟨⟨by omega,fun W2 hW2=>hL.lib.fmt W2 (hg.trans hW2),fun W2 hW2=>hL.lib.val W2 (hg.trans hW2)⟩,fun W2 hW2=>hL.dec W2 (hg.trans hW2),fun W2 hW2=>hL.num W2 (hg.trans hW2)⟩
 have HTK:=Lib.hid hTk
 have HSS:=Lib.hid hss
 have HJ:=Lib.hid hJ
 have HKW:=Lib.hid hKW
 have hnl:(ok.length:Int)≤100000000:=by omega
 have c0:W.cell? ⟨Bx,0,none⟩=some (.slice so.a ok.length so.c):=(hss W (Agree.refl _) (Nat.le_refl _)).1.cell 0
 have lB:Bx<W.heap.size:=by omega
 clear hTk hA hJ hB hss hL h6 hlB hsz hKW hM hF
 show Calls _ _ #[.func (.yield l) #[] #[],.pointer (some ⟨Bx,0,none⟩)] W _
 refine (callsIn_wide (n:=5)).1 ?_
 refine callsIn_of_wp Tryz.func211 rfl trivial ?_ rfl
 simp only [Tryz.ntmps211,List.size_toArray,List.length_cons,List.length_nil,Nat.reduceAdd,Nat.reduceSub,Array.replicate_succ,Array.replicate_zero,List.push_toArray,List.append_toArray,List.nil_append,List.cons_append]
 gi_wp2_with fail
 clear c0
 gi_loopw [7] (fun v wr=>∃ (j:Nat) (pre:List ME) (Wj:World),v=.int .i64 (j:Int)∧j≤ok.length∧Hid (MS J (fun b=>F b∨b=Bx∨b<6) W j pre Wj wr)) (fun v _=>ok.length - (intOf v).toNat)
 case atStart=>exact ⟨0,[],W,rfl,Nat.zero_le _,Lib.hid ⟨HJ.out,Sb.refl _ _,rfl,Agree.refl _,Nat.le_refl _⟩⟩
 obtain ⟨j,pre,Wj,rfl,hj,HS⟩:=hrel
 obtain ⟨-,hm,hlq⟩:=HSS.out wr HS.out.ag HS.out.sz
 by_cases hlt:j<ok.length
 ·obtain ⟨bo,fo,k,d,sl2,so2,hsa,hbF,hlc,hcm,hk,hd,kc,hvc,hrv,hks⟩:=hm.at hlt
  have hbo:bo<wr.heap.size:=Nat.lt_of_lt_of_le (HKW.out bo (.inl hbF)) HS.out.sz
  obtain ⟨sa,sc⟩:=so
  dsimp only at hsa hlc hcm
  subst hsa
  obtain ⟨v0,v1,v2,v3,v4,v5⟩:=hvc.m
  have g1:(j:Int)<(ok.length:Int):=by omega
  have g1':decide ((j:Int)<(ok.length:Int))=true:=decide_eq_true g1
  have HKF:=Lib.hid (fun (b:Nat) (hb:F b)=>Nat.lt_of_lt_of_le (HKW.out b (.inl hb)) HS.out.sz)
  have HLQ:=Lib.hid hlq
  have HRV:=Lib.hid hrv
  have HK:=Lib.hid (And.intro hk hd)
  have HKS:=Lib.hid hks
  clear hm hlq hvc hrv hk hd hks
  gi_wp2_with fail
  generalize hW3:wr.alloc _=W3
  have hx3:Ext wr W3:=by rw [←hW3];exact (Ext.refl wr).alloc _ _
  have hb3:Blk W3 wr.heap.size 123 #[.string k,.int .i64 d.kind,.bool d.b,.int .i64 d.i,.string d.t,.slice sl2.a d.l.length sl2.c,.slice so2.a d.ok.length so2.c]:=by rw [←hW3];exact Blk.new wr _ _
  obtain ⟨q0,q1,q2,q3,q4,q5,q6⟩:=hb3.c7
  have lq:=hb3.lt
  have hq:Calls Tryz.prog 166 #[.string k] W3.drew fun e w'=>e=.returned (.string (quoteA k))∧Nw W3.drew w':=quote_any (HLQ.out.nw (Nw.of (hx3.drew))) HKS.out
  have hcl:=comA_len j
  have hql:=quoteA_len k
  have hks':=HKS.out
  have hcat:∀ W:World,(Op.stringOp .add (comA j) (quoteA k)).run Tryz.prog W=.ok (.string (comA j++quoteA k)) W:=fun W=>run_string_add_sum (w:=W) _ _ (by omega)
  clear hcl hql hks'
  have HQ:=Lib.hid hq
  have HB3:=Lib.hid hb3
  have HX3:=Lib.hid hx3
  clear hW3 hq hb3 hx3 v0 v1 v2 v3 v4 v5 kc
  gi_region_with (first
   | (refine ⟨trivial,?_⟩;refine (callsIn_wide.2 (between_x _ j)).mono ?_;rintro e w4 ⟨rfl,rfl⟩)
   | (refine ⟨trivial,?_⟩;refine (callsIn_wide.2 HQ.out).mono ?_;rintro e w4 ⟨rfl,hn4⟩;have HN4:=Lib.hid hn4;obtain ⟨p0,p1,p2,p3,p4,p5,p6⟩:=(hn4.blk (show Blk W3.drew _ _ _ from HB3.out)).c7;have lp:=(hn4.blk (show Blk W3.drew _ _ _ from HB3.out)).lt;clear hn4)
   | (refine ⟨trivial,?_⟩;refine (callsIn_wide.2 (own_any _ d sl2 so2)).mono ?_;rintro e w5 ⟨rfl,hx5,hb5⟩;have hn5:=((Nw.of HX3.out.drew).trans HN4.out).trans (Nw.of hx5);have hy:=HTK.out pre ⟨comA j++quoteA k,d,w4.heap.size,sl2,so2⟩ Wj w5 HS.out.inv (HS.out.nw.trans hn5) (mg_of HS.out HK.out hb5 HRV.out hn5 HKF.out (Nat.le_trans HX3.out.size HN4.out.size));have HH:=Lib.hid (mres_of (Jx:=Jx) (x:=⟨comA j++quoteA k,d,w4.heap.size,sl2,so2⟩) HS.out hn5 HKW.out);obtain ⟨fn,tmps,assign,body,hy,hR⟩:=hy;have HR:=Lib.hid hR;dsimp only [encM] at hy;clear hR hx5 hb5 hn5)
   | (refine HR.out.mono ?_;intro e w6 h6;obtain ⟨bb,rfl,H7⟩:=HH.out e w6 h6;clear h6))
  all_goals
   clear p0 p1 p2 p3 p4 p5 p6 q0 q1 q2 q3 q4 q5 q6 hcat HQ HB3 hy HR HH
   rcases H7.out with ⟨rfl,hms⟩ | ⟨rfl,hjx⟩
   ·have HMS:=Lib.hid hms
    clear hms H7
    gi_wp2_with fail
    go_roundw
    case rel=>exact ⟨j+1,_,w6,by go_num,hlt,HMS⟩
    simp [intOf];omega
   have HJX:=Lib.hid hjx
   clear hjx H7
   gi_wp2_with fail
   refine bodyPost_ret (v:=.tuple #[]) (by simp [results,Tryz.results211,go_sem]) rfl ?_
   exact ⟨⟨_,rfl⟩,.inr ⟨_,w6,trivial,HJX.out,Sb.refl _ _⟩⟩
 obtain rfl:j=ok.length:=by omega
 have g1:decide ((ok.length:Int)<(ok.length:Int))=false:=decide_eq_false (by omega)
 have HE:=Lib.hid (show MDone ok pre from HS.out.len)
 clear hm hlq
 gi_wp2_with fail
 go_end0
 exact ⟨⟨_,rfl⟩,.inl ⟨pre,Wj,HE.out,HS.out.inv,HS.out.nw⟩⟩
end Go.Proofs.YtkhdiakpdafcdaaGreatDoor
namespace Go.Proofs.YtkhdiakpdafcdaaGreatDoor
open Go.RowKit Go.Maps Go.Shelf
set_option linter.unusedVariables false
set_option linter.unusedSimpArgs false
attribute [local go_sem] Oper.semAt_some
structure OI (w:World) (B:Nat) (a b:Value) (n:Nat) (ok:List ByteArray) (ov:List Val) (pre:List ME) (W:World):Prop where
 blk:Blk W B 162 (wrC a b (n+1+(lenM ok (ov.take pre.length)+(pre.length - 1))))
 sb:Sb (fun c=>c=B) w W
 box:Blk W w.heap.size 165 #[.pointer (some ⟨B,0,none⟩)]
theorem OI.nw {w W W':World} {B:Nat} {a b:Value} {n:Nat} {ok:List ByteArray} {ov:List Val} {pre:List ME} (h:OI w B a b n ok ov pre W) (k:Nw W W'):OI w B a b n ok ov pre W':=⟨k.blk h.blk,h.sb.trans (k.any _),k.blk h.box⟩
theorem OI.turn {w W W':World} {B x:Nat} {a b:Value} {n:Nat} {ok:List ByteArray} {ov:List Val} {pre:List ME} (h:OI w B a b n ok ov pre W) (k:Sb (fun i=>i=x) W W') (hx:w.heap.size<x) (hB:B<w.heap.size):OI w B a b n ok ov pre W':=
 ⟨k.blk h.blk (by omega),h.sb.comp k (fun i hi e=>by have e:i=x:=e;omega),k.blk h.box (by omega)⟩
theorem lenM_few:∀ (ks:List ByteArray) (l:List Val),l.length=ks.length→ks.length≤cntM ks l
 | [],_,_=>Nat.zero_le _
 | k :: ks,[],h=>by cases h
 | k :: ks,d :: r,h=>by
   have:=lenM_few ks r (by simpa using h)
   rw [cntM,List.tail_cons,List.length_cons];omega
theorem lenM_short {ks:List ByteArray} {l:List Val}:lenM ks (l.take 0)=0:=by cases ks <;> simp [lenM]
theorem own5_any {P:Val→Prop} (hI:WrIH P) {w:World} {F:Nat→Prop} {V B:Nat} {bo:Bool} {i:Int} {t:ByteArray} {l:List Val} {ok:List ByteArray} {ov:List Val} {sl so:Sl} {a b:Value} {n:Nat}
  (hP:∀ (j:Nat) (d:Val),ov[j]? = some d→P d) (hc:cntM ok ov≤1100000)
  (hV:Blk w V 28 #[.int .i64 6,.bool bo,.int .i64 i,.string t,.slice sl.a l.length sl.c,.slice so.a ok.length so.c]) (h:RV w F (.mk 6 bo i t l ok ov) sl so) (hF:∀ i,F i→i<w.heap.size∧i≠B) (hVB:V≠B) (hB:Blk w B 162 (wrC a b n)) (hn:n+(2+lenM ok ov+(ov.length - 1))≤9000000) (hL:LibQ w) (h6:6≤B) :
  Calls Tryz.prog 169 #[.pointer (some ⟨B,0,none⟩),.pointer (some ⟨V,0,none⟩)] w fun e w'=>(∃ r,e=.returned r)∧Blk w' B 162 (wrC a b (n+(2+lenM ok ov+(ov.length - 1))))∧Sb (fun c=>c=B) w w':=by
 cases h with
 | mk bl fl bo' fo cl co hl ho hov el rl ek eo ro bk bi bt nl no=>
 have hmok:MOk w F so ok ov:=⟨⟨bo',fo,co,ho,ek,eo,ro⟩,hov,fun k hk=>by
  obtain ⟨j,hj⟩:=List.mem_iff_getElem?.1 hk
  have hjl:=(List.getElem?_eq_some_iff.1 hj).1
  have:=cntM_at (List.getElem?_eq_getElem (l:=ov) (i:=j) (by omega)) hj
  omega⟩
 have hcnt:ok.length≤1100000:=by
  have:=lenM_few ok ov hov
  omega
 have hVl:=hV.lt
 have hBl:=hB.lt
 have HMOK:=Lib.hid hmok
 have HV:=Lib.hid hV
 have HF:=Lib.hid hF
 have HB:=Lib.hid hB
 have HLQ:=Lib.hid hL
 have HI:=Lib.hid hI
 have HP:=Lib.hid hP
 have HC:=Lib.hid hc
 have HN:=Lib.hid hn
 have HOV:=Lib.hid hov
 clear hmok hV hF hB hL hI hP hc hn el rl ek eo ro hl ho bk bi bt nl no hov
 refine (callsIn_wide (n:=6)).1 ?_
 refine callsIn_of_wp_marks Tryz.func169 rfl trivial ?_ rfl
 simp only [Tryz.ntmps169,List.size_toArray,List.length_cons,List.length_nil,Nat.reduceAdd,Nat.reduceSub,Array.replicate_succ,Array.replicate_zero,List.push_toArray,List.append_toArray,List.nil_append,List.cons_append]
 gi_wp2_with fail
 generalize hW0:w.alloc (.cells #[.pointer (some ⟨B,0,none⟩)] _)=W0
 have hx0:Ext w W0:=by rw [←hW0];exact (Ext.refl w).alloc _ _
 have hz0:W0.heap.size=w.heap.size+1:=by rw [←hW0];simp
 have hb0:Blk W0 w.heap.size 165 #[.pointer (some ⟨B,0,none⟩)]:=by rw [←hW0];exact Blk.new w _ _
 have hj0:=join_oneG (w:=W0) ⟨#[123]⟩ (HB.out.ext hx0) (by have:=HN.out;show n+1≤_;omega)
 rw [hz0] at hj0
 have HJ0:=Lib.hid hj0
 have HX0:=Lib.hid hx0
 have HB0:=Lib.hid hb0
 clear hW0 hj0 hx0 hb0
 refine ⟨trivial,?_⟩
 refine (callsIn_wide.2 HJ0.out).mono ?_
 rintro e w1 ⟨⟨r,rfl⟩,hb1,hs1⟩
 have hs01:=(HX0.out.sb (fun c=>c=B)).trans hs1
 obtain ⟨q0,q1,q2,q3,q4,q5⟩:=(hs01.blk HV.out hVB).c6
 have lq:=(hs01.blk HV.out hVB).lt
 have hbb1:=hs1.blk HB0.out (by omega)
 have HB1:=Lib.hid hb1
 have HS1:=Lib.hid hs01
 have HBB1:=Lib.hid hbb1
 have hz1:=hs1.size
 clear hb1 hs1 hs01 hbb1 HJ0
 gi_wp2_with fail
 refine ⟨trivial,?_⟩
 refine (callsIn_wide.2 (mems_any w1 so.a ok.length so.c)).mono ?_
 rintro e w2 ⟨rfl,hx2,hb2⟩
 have hs2:=HS1.out.ext hx2
 have hag2:Agree F w w2:=fun x hx=>hs2.block x (HF.out x hx).1 (HF.out x hx).2
 have hL2:LibQ w2:=HLQ.out.sb hs2 fun c hc e=>by have e:c=B:=e;omega
 have hF2:∀ b,F b→b<w2.heap.size:=fun b hb=>Nat.lt_of_lt_of_le (HF.out b hb).1 hs2.size
 have hoi2:OI w B a b n ok ov [] w2:=⟨by have:=HB1.out.ext hx2;rw [show ([]:List ME).length=0 from rfl,lenM_short];exact this,hs2,HBB1.out.ext hx2⟩
 have hz2:=hx2.size
 have hlb2:=hb2.lt
 have h26:=hL2.lib.big
 have HSQ:=Lib.hid (mems_seq hb2 (HMOK.out.agree hag2) hF2 hL2 (by omega))
 have HOI2:=Lib.hid hoi2
 have HF2:=Lib.hid hF2
 clear hx2 hb2 hs2 hag2 hL2 hF2 hoi2 q0 q1 q2 q3 q4 q5
 gi_wp2_with fail
 refine wpIn_rangeP (gf:=211) (lb:=#[.pointer (some ⟨w1.heap.size,0,none⟩)]) rfl (enters_of Tryz.func211 (by kernel_rfl) rfl) HSQ.out (Agree.refl _) (Nat.le_refl _)
  (fun b hb=>by
    rcases hb with hb | rfl | hb
    ·exact HF2.out b hb
    ·omega
    omega) (fun _=>rfl) (OI w B a b n ok ov) (fun _ _ _=>False)
  (fun h k hl hl'=>h.turn k (by omega) hBl) (fun h _ _ _=>h) (fun W hW hz=>HOI2.out.nw (Nw.of hW)) ?round ?done ?stop
 case stop=>
  rintro D c pre W hD hSp hX hDk
  exact hX.elim
 case round=>
  rintro pre x W0' W1 hI hsz hn01 hG
  obtain ⟨tx,d,Vx,sl2,so2⟩:=x
  obtain ⟨⟨k,hk,hd,htx⟩,hbk,hrv,hnew⟩:=hG
  dsimp only at hd htx hbk hrv hnew
  have hjl:=(List.getElem?_eq_some_iff.1 hk).1
  have HII:=Lib.hid (hI.nw hn01)
  have hcut:=lenM_cut ok ov (pre.length+1)
  have htk:=lenM_take hd hk
  have hcom:=comA_len pre.length
  have htl:tx.size=(comA pre.length).size+(quoteA k).size:=by rw [htx,ByteArray.size_append]
  have hovl:=HOV.out
  have hnn:=HN.out
  have hsum:n+1+(lenM ok (ov.take pre.length)+(pre.length - 1))+tx.size+1+lenV d≤9000000:=by omega
  have hsum2:n+1+(lenM ok (ov.take (pre.length+1))+(pre.length+1 - 1))=n+1+(lenM ok (ov.take pre.length)+(pre.length - 1))+tx.size+1+lenV d:=by omega
  have hcd:cntV d≤1100000:=by have:=cntM_at hd hk;have:=HC.out;omega
  have HPD:=Lib.hid (HP.out _ d hd)
  have HCD:=Lib.hid hcd
  have HSUM:=Lib.hid hsum
  have HSUM2:=Lib.hid hsum2
  have HBK:=Lib.hid hbk
  have HRV:=Lib.hid hrv
  have hz01:=hn01.size
  have lbk:=hbk.lt
  have hen:=enters_own d.kind
  clear hI hn01 hk hd htx hbk hrv hcut htk hcom htl hovl hnn hsum hsum2 hcd hjl
  gi_wp2_with fail
  refine ⟨Sb.refl _ _,fun W3 k3 hl1 hl3 hd3=>?_⟩
  have hi3:=HII.out.turn k3 (by omega) hBl
  have p0:W3.cell? ⟨w.heap.size,0,none⟩=some (.pointer (some ⟨B,0,none⟩)):=hi3.box.cell 0
  have lp:=hi3.box.lt
  have hz3:=k3.size
  have hbk3:=k3.blk HBK.out (by omega)
  have hrv3:RV W3 F d sl2 so2:=HRV.out.agree fun b hb=>k3.block b (by have:=HF2.out b hb;omega) (fun e=>by have e:b=_:=e;have:=HF2.out b hb;omega)
  have hj3:=join_two (w:=W3) tx ⟨#[58]⟩ hi3.blk (by have:=HSUM.out;show _+1≤_;omega)
  have HI3:=Lib.hid hi3
  have HBK3:=Lib.hid hbk3
  have HRV3:=Lib.hid hrv3
  have HJ3:=Lib.hid hj3
  have HL3:=Lib.hid hl3
  have HD3:=Lib.hid hd3
  clear k3 hl1 hl3 hd3 hi3 hbk3 hrv3 hj3 HII HBK HRV
  gi_wp2_with fail
  refine ⟨trivial,?_⟩
  refine (calls_round HJ3.out).mono ?_
  rintro e w5 ⟨⟨r5,rfl⟩,hb5,hs5⟩
  have p5:w5.cell? ⟨w.heap.size,0,none⟩=some (.pointer (some ⟨B,0,none⟩)):=(hs5.blk HI3.out.box (by omega)).cell 0
  have lp5:=(hs5.blk HI3.out.box (by omega)).lt
  have hz5:=hs5.size
  have hs05:=HI3.out.sb.trans hs5
  have hcall:=HI.out d HPD.out HCD.out w5 F Vx B sl2 so2 a b _ (hs5.blk HBK3.out (by omega)) (HRV3.out.agree fun b hb=>hs5.block b (by have:=HF2.out b hb;omega) (HF.out b hb).2) (fun i hi=>⟨by have:=HF2.out i hi;omega,(HF.out i hi).2⟩) (by omega) hb5 (by have:=HSUM.out;exact this) (HLQ.out.sb hs05 fun c hc e=>by have e:c=B:=e;omega) h6
  have HCALL:=Lib.hid hcall
  have HS5:=Lib.hid hs5
  clear hb5 hs5 hs05 hcall p0
  gi_wp2_with fail
  refine ⟨trivial,?_⟩
  refine (calls_round HCALL.out).mono ?_
  rintro e w6 ⟨⟨r6,rfl⟩,hb6,hs6⟩
  have hs36:=HS5.out.trans hs6
  have HEND:=Lib.hid (show OI w B a b n ok ov (pre++[⟨tx,d,Vx,sl2,so2⟩]) w6∧Agree (fun b=>(F b∨b=w1.heap.size∨b<6)∨b=w2.heap.size∨b=w2.heap.size+1) W3 w6∧W3.heap.size≤w6.heap.size from
   ⟨⟨by rw [List.length_append,show [(⟨tx,d,Vx,sl2,so2⟩:ME)].length=1 from rfl,HSUM2.out];exact hb6,HI3.out.sb.trans hs36,hs36.blk HI3.out.box (by omega)⟩,
     fun b hb=>hs36.block b (by
      rcases hb with (hb | rfl | hb) | rfl | rfl
      ·have:=HF2.out b hb;omega
      all_goals omega) (fun e=>by
      have e:b=B:=e
      rcases hb with (hb | rfl | hb) | rfl | rfl
      ·exact (HF.out b hb).2 e
      all_goals omega),hs36.size⟩)
  clear hb6 hs6 hs36
  gi_wp2_with fail
  exact HEND.out
 rintro D xs W hD hS hI hDk
 have hxs:xs.length=ok.length:=hS
 have hblk:=hI.blk
 rw [hxs,←HOV.out,List.take_length] at hblk
 have p0:W.cell? ⟨w.heap.size,0,none⟩=some (.pointer (some ⟨B,0,none⟩)):=hI.box.cell 0
 have lp:=hI.box.lt
 have hj1:=join_oneG (w:=W) ⟨#[125]⟩ hblk (by have:=HN.out;show _+1≤_;omega)
 have HJ1:=Lib.hid hj1
 have HI9:=Lib.hid hI
 have HDK:=Lib.hid hDk
 have HDE:=Lib.hid hD
 have lD:=(Array.getElem?_eq_some_iff.1 hDk).1
 clear hj1 hI hDk hD hS hxs hblk
 gi_wp2_with fail
 refine ⟨trivial,?_⟩
 refine (callsIn_wide.2 HJ1.out).mono ?_
 rintro e w6 ⟨⟨r6,rfl⟩,hb6,hs6⟩
 have hD6:w6.heap[D]? = some (.deferred (some [])):=(hs6.block D lD (fun e=>by have e:D=B:=e;have:=HDE.out;omega)).trans HDK.out
 have hst:=(St.put (o':=.deferred none) hD6 rfl rfl).sb
 have hfin:=hst.blk hb6 (by have:=HDE.out;omega)
 have hsf:Sb (fun c=>c=B) w _:=(HI9.out.sb.trans hs6).comp hst (fun i hi e=>by have e:i=D:=e;have:=HDE.out;omega)
 have HD6:=Lib.hid hD6
 have HFIN:=Lib.hid hfin
 have HSF:=Lib.hid hsf
 clear hb6 hs6 hD6 hst hfin hsf
 gi_wp2_with fail
 refine ⟨by simp,.inl ⟨_,_,rfl,run_takeDeferred HD6.out,?_⟩⟩
 refine ⟨.tuple #[],?_,⟨_,rfl⟩,by rw [show n+(2+lenM ok ov+(ov.length - 1))=n+1+(lenM ok ov+(ov.length - 1))+1 by omega];exact HFIN.out,HSF.out⟩
 simp [results,Tryz.results169,go_sem]
theorem wr_any (m:Nat):WrIH (fun d=>SizeOf.sizeOf d≤m):=by
 induction m with
 | zero=>intro d hd;have:=Val.sz_pos d;omega
 | succ m ih=>
 intro d hd hc w F V B sl so a b n hV h hF hVB hB hn hL h6
 have hrv:=h
 obtain ⟨k,bo,i,t,l,ok,ov⟩:=d
 cases h with
 | mk bl fl bo' fo cl co hl ho hov el rl ek eo ro bk bi bt nl no=>
 unfold cntV at hc
 unfold lenV at hn
 unfold WrPost lenV
 show Calls _ (fnO k) (_++bsO k V) _ _
 by_cases h2:k=2
 ·subst h2
  rw [if_pos rfl] at hn
  exact (own1_any hV hB (by omega)).mono fun e w' h=>by rw [if_pos rfl];exact h
 by_cases h3:k=3
 ·subst h3
  simp only [if_neg h2,if_pos] at hn ⊢
  exact own2_any hV hB (by simp [Lit.wf,IntKind.min,IntKind.max,IntKind.signed,IntKind.bits] at bi;omega) (by simp [Lit.wf,IntKind.min,IntKind.max,IntKind.signed,IntKind.bits] at bi;omega) (by omega) hL
 by_cases h4:k=4
 ·subst h4
  simp only [if_neg h2,if_neg h3,if_pos] at hn ⊢
  exact own3_any hV hB (by omega) (by omega) hL
 by_cases h5:k=5
 ·subst h5
  simp only [if_neg h2,if_neg h3,if_neg h4,if_pos] at hn ⊢
  exact own4_any ih (fun j d hj=>Nat.le_of_lt_succ (Nat.lt_of_lt_of_le (Val.sz_l hj) hd)) (by omega) hV hrv hF hVB hB hn hL h6
 by_cases h6':k=6
 ·subst h6'
  simp only [if_neg h2,if_neg h3,if_neg h4,if_neg h5,if_pos] at hn ⊢
  exact own5_any ih (fun j d hj=>Nat.le_of_lt_succ (Nat.lt_of_lt_of_le (Val.sz_o hj) hd)) (by omega) hV hrv hF hVB hB hn hL h6
 simp only [if_neg h2,if_neg h3,if_neg h4,if_neg h5,if_neg h6'] at hn ⊢
 have hf:fnO k=171:=by simp [fnO,h2,h3,h4,h5,h6']
 have hb:bsO k V=#[]:=by simp [bsO,h2,h3,h4,h5,h6']
 rw [hf,hb]
 exact own6_any hB (by omega)
end Go.Proofs.YtkhdiakpdafcdaaGreatDoor
namespace Go.Proofs.YtkhdiakpdafcdaaGreatDoor
open Go.RowKit Go.Maps Go.Shelf
set_option linter.unusedVariables false
set_option linter.unusedSimpArgs false
theorem bytes_any {w:World} {d:Val} {sl so:Sl} (h:RV w (Lt w.heap.size) d sl so) (hc:cntV d≤1100000) (hL:LibQ w):Calls Tryz.prog 71 #[aggV d sl so] w fun e w'=>e=.returned (.int .i64 (lenV d:Int))∧Nw w w':=by
 have hlc:=lenV_cnt _ w d sl so h
 have h6:=hL.lib.big
 have HH:=Lib.hid h
 have HC:=Lib.hid hc
 have HL:=Lib.hid hL
 have HLC:=Lib.hid hlc
 clear h hc hL hlc
 go_enter Tryz.func71,Tryz.ntmps71
 go_wp2_with fail
 generalize hW0:World.alloc _ _=W0
 obtain ⟨hx0,hz0,hb0,hb1⟩:=two_blocks w _ _ _ _ W0 hW0
 have HX0:=Lib.hid hx0
 have HB1:=Lib.hid hb1
 clear hW0 hx0 hb0 hb1
 refine (own_any W0 d sl so).mono ?_
 rintro e w1 ⟨rfl,hx1,hbv⟩
 rw [hz0] at hbv
 have hw1:=HB1.out.ext hx1
 have hn1:=(Nw.of HX0.out).trans (Nw.of hx1)
 have hcall:=wr_any _ d (Nat.le_refl _) HC.out w1 (Lt w.heap.size) (w.heap.size+2) (w.heap.size+1) sl so _ _ 0 hbv (HH.out.agree (Nw.agree hn1 fun b hb=>hb)) (fun i hi=>⟨Nat.lt_of_lt_of_le hi hn1.size,by have hi:i<w.heap.size:=hi;omega⟩) (by omega) hw1 (by have:=HLC.out;have:=HC.out;omega) (HL.out.nw hn1) (by omega)
 have HCALL:=Lib.hid hcall
 have HN1:=Lib.hid hn1
 have hen:=enters_own d.kind
 clear hx1 hbv hw1 hn1 hcall
 go_wp2_with fail
 refine HCALL.out.mono ?_
 rintro e w2 ⟨⟨r,rfl⟩,hb,hs⟩
 have c3:w2.cell? ⟨w.heap.size+1,3,none⟩=some (.int .i64 ((0+lenV d:Nat):Int)):=hb.cell 3
 rw [Nat.zero_add] at c3
 have HN2:=Lib.hid (HN1.out.comp hs fun i hi e=>by have e:i=w.heap.size+1:=e;omega)
 clear hb hs
 go_wp2_with fail
 go_ret
 exact ⟨rfl,HN2.out⟩
def fitV (d:Val):Int:=if mayV d 1≠0 then mayV d 1 else if 16<deepV d then 5 else if 1024<lenV d then 6 else 0
theorem fits_any {w:World} {d:Val} {sl so:Sl} (h:RV w (Lt w.heap.size) d sl so) (hc:cntV d≤1100000) (hL:LibQ w):Calls Tryz.prog 43 #[aggV d sl so] w fun e w'=>e=.returned (.int .i64 (fitV d))∧Nw w w':=by
 have hRV:∀ W,Nw w W→RV W (Lt W.heap.size) d sl so:=fun W hW=>(h.agree (Nw.agree hW fun b hb=>hb)).mono fun b hb=>Nat.lt_of_lt_of_le hb hW.size
 have hm:=fun W (hW:Nw w W)=>may_anyV (hRV W hW) (hL.lib.nw hW)
 have hd:=fun W (hW:Nw w W) (hq:deepV d≤1000000)=>deepAt_any _ d (Nat.le_refl _) hq W sl so (hRV W hW)
 have hb:=fun W (hW:Nw w W)=>bytes_any (hRV W hW) hc (hL.nw hW)
 have HM:=Lib.hid hm
 have HD:=Lib.hid hd
 have HB:=Lib.hid hb
 obtain ⟨r,hr⟩:∃ r,fitV d=r:=⟨_,rfl⟩
 rw [hr]
 have HR:=Lib.hid hr
 clear hm hd hb hr hRV h hL
 go_enter Tryz.func43,Tryz.ntmps43
 go_wp2_with fail
 have hx0:=(Ext.refl w).alloc (valC d sl so) 28
 have hb0:=Blk.new w 28 (valC d sl so)
 refine (HM.out _ (Nw.of hx0)).mono ?_
 rintro e w1 ⟨rfl,hn1⟩
 have hb1:=hn1.blk hb0
 obtain ⟨q0,q1,q2,q3,q4,q5⟩:=hb1.c6
 have lq:=hb1.lt
 have HX1:=Lib.hid ((Nw.of hx0).trans hn1)
 have HB1:=Lib.hid hb1
 clear hx0 hb0 hn1 hb1
 obtain ⟨m,hm⟩:∃ m,mayV d 1=m:=⟨_,rfl⟩
 rw [hm]
 by_cases hm0:m=0
 ·subst hm0
  have hdm:=deep_may d 1 hm
  have HDP:=Lib.hid hdm
  have HM0:=Lib.hid hm
  clear hm hdm
  go_wp2_with fail
  refine (HD.out _ HX1.out (by have:=HDP.out;omega)).mono ?_
  rintro e w2 ⟨rfl,hx2⟩
  have hb2:=HB1.out.ext hx2
  clear q0 q1 q2 q3 q4 q5
  obtain ⟨q0,q1,q2,q3,q4,q5⟩:=hb2.c6
  have lq2:=hb2.lt
  have HX2:=Lib.hid (HX1.out.trans (Nw.of hx2))
  clear hx2 hb2
  by_cases hd16:16<deepV d
  ·have g0:decide ((16:Int)<(deepV d:Int))=true:=decide_eq_true (by omega)
   have hr5:r=5:=by rw [←HR.out,fitV,HM0.out,if_neg (by simp),if_pos hd16]
   have HR5:=Lib.hid hr5
   clear hr5 hd16
   go_wp2_with fail
   go_ret
   exact ⟨by rw [HR5.out];rfl,HX2.out⟩
  have g0:decide ((16:Int)<(deepV d:Int))=false:=decide_eq_false (by omega)
  have HD16:=Lib.hid hd16
  clear hd16
  go_wp2_with fail
  refine (HB.out _ HX2.out).mono ?_
  rintro e w3 ⟨rfl,hn3⟩
  have HN3:=Lib.hid (HX2.out.trans hn3)
  clear hn3 q0 q1 q2 q3 q4 q5
  by_cases hl:1024<lenV d
  ·have g1:decide ((1024:Int)<(lenV d:Int))=true:=decide_eq_true (by omega)
   have HR6:=Lib.hid (show r=6 by rw [←HR.out,fitV,HM0.out,if_neg (by simp),if_neg HD16.out,if_pos hl])
   clear hl
   go_wp2_with fail
   go_ret
   exact ⟨by rw [HR6.out];rfl,HN3.out⟩
  have g1:decide ((1024:Int)<(lenV d:Int))=false:=decide_eq_false (by omega)
  have HR0:=Lib.hid (show r=0 by rw [←HR.out,fitV,HM0.out,if_neg (by simp),if_neg HD16.out,if_neg hl])
  clear hl
  go_wp2_with fail
  go_ret
  exact ⟨by rw [HR0.out];rfl,HN3.out⟩
 have g0:(m != 0)=true:=by simpa using hm0
 have HRM:=Lib.hid (show r=m by rw [←HR.out,fitV,hm,if_pos hm0])
 clear hm hm0
 go_wp2_with fail
 go_ret
 exact ⟨by rw [HRM.out];rfl,HX1.out⟩
end Go.Proofs.YtkhdiakpdafcdaaGreatDoor
namespace Go.Proofs.YtkhdiakpdafcdaaGreatDoor
open Go.RowKit
set_option linter.unusedVariables false
set_option linter.unusedSimpArgs false
mutual
/-- As many keys as values, all through. -/
def wfV:Val→Prop
 | .mk _ _ _ _ l ok ov=>ok.length=ov.length∧wfLV l∧wfLV ov
def wfLV:List Val→Prop
 | []=>True
 | d :: r=>wfV d∧wfLV r
end
theorem wfLV_of:∀ {l:List Val},(∀ (j:Nat) d,l[j]? = some d→wfV d)→wfLV l
 | [],_=>by unfold wfLV;trivial
 | a :: l,h=>by
   unfold wfLV
   exact ⟨h 0 a rfl,wfLV_of fun j d hj=>h (j+1) d (by simpa using hj)⟩
theorem RV.wf {w:World} {F:Nat→Prop} {d:Val} {sl so:Sl} (h:RV w F d sl so):wfV d:=by
 induction h with
 | mk bl fl bo fo cl co hl ho hov el rl ek eo ro bk bi bt nl no ihl iho=>
   unfold wfV
   exact ⟨hov.symm,wfLV_of ihl,wfLV_of iho⟩
theorem ite0 {x y:Int} (h:(if x≠0 then x else y)=0):x=0∧y=0:=by
 by_cases hx:x=0
 ·exact ⟨hx,by rw [if_neg (by simp [hx])] at h;exact h⟩
 rw [if_pos hx] at h;exact absurd h hx
theorem cmpV_eqN (n:Nat):∀ (a b:Val) (p q:Nat),SizeOf.sizeOf a≤n→wfV a→wfV b→mayV a p=0→mayV b q=0→cmpV a b=0→a=b:=by
 induction n with
 | zero=>intro a b p q h;have:=Val.sz_pos a;omega
 | succ n ih=>
   intro a b p q hn wa wb ma mb hc
   have hl:∀ (l1 l2:List Val) (p q:Nat),SizeOf.sizeOf l1≤n→wfLV l1→wfLV l2→mayLV l1 p=0→mayLV l2 q=0→cmpL l1 l2=0→l1=l2:=by
    intro l1
    induction l1 with
    | nil=>
      intro l2 p q _ _ _ _ _ hc
      cases l2 with
      | nil=>rfl
      | cons b r=>simp [cmpL] at hc
    | cons a l1 ihl=>
      intro l2 p q hs wa wb ma mb hc
      cases l2 with
      | nil=>simp [cmpL] at hc
      | cons b l2=>
        simp only [List.cons.sizeOf_spec] at hs
        unfold wfLV at wa wb
        unfold mayLV at ma mb
        unfold cmpL at hc
        obtain ⟨hab,hc⟩:=ite0 hc
        obtain ⟨hma,ma⟩:=ite0 ma
        obtain ⟨hmb,mb⟩:=ite0 mb
        rw [ih a b p q (by omega) wa.1 wb.1 hma hmb hab,ihl l2 p q (by omega) wa.2 wb.2 ma mb hc]
   have ho:∀ (v1 v2:List Val) (k1 k2:List ByteArray) (p1 p2:Option ByteArray) (q1 q2:Nat),SizeOf.sizeOf v1≤n→wfLV v1→wfLV v2→k1.length=v1.length→k2.length=v2.length→mayM p1 k1 v1 q1=0→mayM p2 k2 v2 q2=0→cmpM v1 k1 k2 v2=0→k1=k2∧v1=v2:=by
    intro v1
    induction v1 with
    | nil=>
      intro v2 k1 k2 p1 p2 q1 q2 _ _ _ h1 h2 _ _ hc
      cases v2 with
      | nil=>
        simp only [List.length_nil,List.length_eq_zero_iff] at h1 h2
        exact ⟨by rw [h1,h2],rfl⟩
      | cons b r=>simp [cmpM] at hc
    | cons a v1 ihl=>
      intro v2 k1 k2 p1 p2 q1 q2 hs wa wb h1 h2 ma mb hc
      cases v2 with
      | nil=>simp [cmpM] at hc
      | cons b v2=>
        cases k1 with
        | nil=>simp at h1
        | cons x k1=>
          cases k2 with
          | nil=>simp at h2
          | cons y k2=>
            simp only [List.cons.sizeOf_spec] at hs
            unfold wfLV at wa wb
            unfold mayM at ma mb
            unfold cmpM at hc
            have hc:(if textI x y≠0 then textI x y else if cmpV a b≠0 then cmpV a b else cmpM v1 k1 k2 v2)=0:=hc
            have ma:(if !Lib.validD x.data.toList then 3 else if p1.any (fun q=>!klt q x) then 8 else if mayV a q1≠0 then mayV a q1 else mayM (some x) k1 v1 q1)=0:=ma
            have mb:(if !Lib.validD y.data.toList then 3 else if p2.any (fun q=>!klt q y) then 8 else if mayV b q2≠0 then mayV b q2 else mayM (some y) k2 v2 q2)=0:=mb
            obtain ⟨hxy,hc⟩:=ite0 hc
            obtain ⟨hab,hc⟩:=ite0 hc
            have hma:mayV a q1=0∧mayM (some x) k1 v1 q1=0:=by
             split at ma
             ·cases ma
             split at ma
             ·cases ma
             exact ite0 ma
            have hmb:mayV b q2=0∧mayM (some y) k2 v2 q2=0:=by
             split at mb
             ·cases mb
             split at mb
             ·cases mb
             exact ite0 mb
            obtain ⟨e1,e2⟩:=ihl v2 k1 k2 (some x) (some y) q1 q2 (by omega) wa.2 wb.2 (by simpa using h1) (by simpa using h2) hma.2 hmb.2 hc
            rw [textI_zero.1 hxy,e1,ih a b q1 q2 (by omega) wa.1 wb.1 hma.1 hmb.1 hab,e2]
            exact ⟨rfl,rfl⟩
   obtain ⟨k,b1,i,t,l,ok,ov⟩:=a
   obtain ⟨k',b2,i',t',l',ok',ov'⟩:=b
   simp only [Val.mk.sizeOf_spec] at hn
   unfold wfV at wa wb
   unfold mayV at ma mb
   have hc:(if k≠k' then numI k k' else if k=2 then boolI b1 b2 else if k=3 then numI i i' else if k=4 then textI t t' else if k=5 then cmpL l l' else if k=6 then cmpM ov ok ok' ov' else 0)=0:=by
    have h2:=hc
    unfold cmpV at h2
    exact h2
   have hk:k=k':=by
    by_cases h:k=k'
    ·exact h
    rw [if_pos h,numI_zero] at hc;exact absurd hc h
   subst hk
   have ha:oddS k b1 i t l.length ok.length=false:=by
    cases h:oddS k b1 i t l.length ok.length with
    | false=>rfl
    | true=>rw [h,if_pos rfl] at ma;cases ma
   have hb:oddS k b2 i' t' l'.length ok'.length=false:=by
    cases h:oddS k b2 i' t' l'.length ok'.length with
    | false=>rfl
    | true=>rw [h,if_pos rfl] at mb;cases mb
   rw [ha] at ma
   rw [hb] at mb
   have nil0:∀ {t:ByteArray},t.size=0→t=ByteArray.empty:=fun h=>ByteArray.ext (Array.eq_empty_of_size_eq_zero h)
   have ovn:∀ {ok:List ByteArray} {ov:List Val},ok.length=ov.length→ok.length=0→ok=[]∧ov=[]:=fun h1 h2=>⟨List.eq_nil_of_length_eq_zero h2,List.eq_nil_of_length_eq_zero (h1▸h2)⟩
   unfold oddS at ha hb
   by_cases hr:k<1∨6<k
   ·rw [if_pos hr] at ha;cases ha
   rw [if_neg hr] at ha hb
   simp only [Bool.or_eq_false_iff,Bool.and_eq_false_iff,bne_eq_false_iff_eq] at ha hb
   rw [if_neg (by simp)] at hc
   obtain ⟨⟨⟨⟨a2,a3⟩,a4⟩,a5⟩,a6⟩:=ha
   obtain ⟨⟨⟨⟨c2,c3⟩,c4⟩,c5⟩,c6⟩:=hb
   have eb:b1=b2:=by
    by_cases h:k=2
    ·subst h;rw [if_pos rfl,boolI_zero] at hc;exact hc
    rw [a2.resolve_left h,c2.resolve_left h]
   have ei:i=i':=by
    by_cases h:k=3
    ·subst h;rw [if_neg (by decide),if_pos rfl,numI_zero] at hc;exact hc
    rw [a3.resolve_left h,c3.resolve_left h]
   have et:t=t':=by
    by_cases h:k=4
    ·subst h;rw [if_neg (by decide),if_neg (by decide),if_pos rfl,textI_zero] at hc;exact hc
    rw [nil0 (a4.resolve_left h),nil0 (c4.resolve_left h)]
   have el:l=l':=by
    by_cases h:k=5
    ·subst h
     rw [if_neg (by decide),if_neg (by decide),if_neg (by decide),if_pos rfl] at hc
     have m1:mayLV l (p+1)=0:=by
      simp only [Bool.false_eq_true,if_false] at ma
      split at ma
      ·cases ma
      simpa using ma
     have m2:mayLV l' (q+1)=0:=by
      simp only [Bool.false_eq_true,if_false] at mb
      split at mb
      ·cases mb
      simpa using mb
     exact hl l l' _ _ (by omega) wa.2.1 wb.2.1 m1 m2 hc
    rw [List.eq_nil_of_length_eq_zero (a5.resolve_left h),List.eq_nil_of_length_eq_zero (c5.resolve_left h)]
   have eo:ok=ok'∧ov=ov':=by
    by_cases h:k=6
    ·subst h
     rw [if_neg (by decide),if_neg (by decide),if_neg (by decide),if_neg (by decide),if_pos rfl] at hc
     have m1:mayM none ok ov (p+1)=0:=by
      simp only [Bool.false_eq_true,if_false] at ma
      split at ma
      ·cases ma
      simpa using ma
     have m2:mayM none ok' ov' (q+1)=0:=by
      simp only [Bool.false_eq_true,if_false] at mb
      split at mb
      ·cases mb
      simpa using mb
     exact ho ov ov' ok ok' _ _ _ _ (by omega) wa.2.2 wb.2.2 wa.1 wb.1 m1 m2 hc
    obtain ⟨e1,e2⟩:=ovn wa.1 (a6.resolve_left h)
    obtain ⟨e3,e4⟩:=ovn wb.1 (c6.resolve_left h)
    rw [e1,e2,e3,e4];exact ⟨rfl,rfl⟩
   rw [eb,ei,et,el,eo.1,eo.2]
def okV (v:Val):Prop:=wfV v∧fitV v=0
theorem okV.may {v:Val} (h:okV v):mayV v 1=0:=by
 have h1:=h.2
 unfold fitV at h1
 by_cases h2:mayV v 1=0
 ·exact h2
 rw [if_pos h2] at h1;exact h1
theorem okV.eq {a b:Val} (ha:okV a) (hb:okV b) (h:cmpV a b=0):a=b:=cmpV_eqN _ a b 1 1 (Nat.le_refl _) ha.1 hb.1 ha.may hb.may h
structure OkM (M:List Ent):Prop where
 sorted:Sorted M
 ok:∀ e∈M,mayK e.1=0∧okV e.2
theorem OkM.nil:OkM []:=⟨List.Pairwise.nil,fun e h=>by cases h⟩
theorem OkM.get {M:List Ent} (h:OkM M) {k:ByteArray} {v:Val} (hg:getE M k=some v):mayK k=0∧okV v:=h.ok (k,v) (mem_getE hg)
theorem OkM.put {M:List Ent} (h:OkM M) {k:ByteArray} {v:Val} (hk:mayK k=0) (hv:okV v):OkM (insE M k v):=
 ⟨insE_sorted h.sorted k v,fun e he=>(mem_insE he).elim (fun e1=>e1▸⟨hk,hv⟩) (h.ok e)⟩
theorem OkM.del {M:List Ent} (h:OkM M) (k:ByteArray):OkM (delE M k):=⟨delE_sorted h.sorted k,fun e he=>h.ok e ((delE_sublist M k).subset he)⟩
theorem sorted_eq:∀ {a b:List Ent},Sorted a→Sorted b→(∀ k,getE a k=getE b k)→a=b
 | [],[],_,_,_=>rfl
 | [],f :: b,_,_,h=>by have:=h f.1;simp [getE] at this
 | e :: a,[],_,_,h=>by have:=h e.1;simp [getE] at this
 | e :: a,f :: b,ha,hb,h=>by
   obtain ⟨a1,a2⟩:=List.pairwise_cons.1 ha
   obtain ⟨b1,b2⟩:=List.pairwise_cons.1 hb
   have far:∀ {x:Ent} {l:List Ent} {k:ByteArray},(∀ y∈l,klt x.1 y.1=true)→klt k x.1=true→getE (x :: l) k=none:=fun {x l k} h1 h2=>by
    have:∀ y∈x :: l,y.1≠k:=fun y hy e=>by
     rcases List.mem_cons.1 hy with rfl | hy
     ·rw [e,klt_irrefl] at h2;cases h2
     have:=klt_trans h2 (h1 y hy);rw [e,klt_irrefl] at this;cases this
    cases hg:getE (x :: l) k with
    | none=>rfl
    | some v=>exact absurd rfl (this _ (mem_getE hg))
   have hk:e.1=f.1:=by
    refine klt_total ?_ ?_
    ·cases hc:klt e.1 f.1 with
     | false=>rfl
     | true=>
       have h1:=h e.1
       rw [getE,if_pos rfl,far b1 hc] at h1
       cases h1
    cases hc:klt f.1 e.1 with
    | false=>rfl
    | true=>
      have h1:=h f.1
      rw [far a1 hc,getE,if_pos rfl] at h1
      cases h1
   have h0:=h e.1
   rw [getE,if_pos rfl,getE,if_pos hk.symm] at h0
   injection h0 with h0
   have he:e=f:=Prod.ext hk h0
   subst he
   rw [sorted_eq a2 b2 fun k=>?_]
   by_cases hx:e.1=k
   ·have n1:∀ {l:List Ent},(∀ y∈l,klt e.1 y.1=true)→getE l k=none:=fun {l} h1=>by
     cases hg:getE l k with
     | none=>rfl
     | some v=>have:=h1 _ (mem_getE hg);rw [hx] at this;rw [show ((k,v):Ent).1=k from rfl,klt_irrefl] at this;cases this
    rw [n1 a1,n1 b1]
   have:=h k
   rwa [getE,if_neg hx,getE,if_neg hx] at this
structure RelX (B:List Ent) (C:Slots) (M:List Ent):Prop where
 below:OkM B
 ok:OkM M
 chg:SortedA C
 now:∀ k,nowE B C k=getE M k
theorem RelX.com {B:List Ent} {C:Slots} {M:List Ent} (h:RelX B C M):comE B C B=M:=by
 have hs:=comE_sorted B C B h.below.sorted
 have ho:∀ e∈comE B C B,okV e.2:=by
  have:∀ (C':Slots) (t:List Ent),(∀ p∈C',p∈C)→(∀ e∈t,okV e.2)→∀ e∈comE B C' t,okV e.2:=by
   intro C'
   induction C' with
   | nil=>intro t _ ht;rw [comE];exact ht
   | cons p r ih=>
     intro t hp ht
     obtain ⟨k,s⟩:=p
     have hr:=fun q hq=>hp q (List.mem_cons_of_mem _ hq)
     cases s with
     | some v=>
       rw [comE]
       split
       ·exact ih t hr ht
       refine ih _ hr fun e he=>?_
       rcases mem_insE he with rfl | he
       ·have h1:=h.now k
        rw [nowE,getA_mem h.chg (hp _ (List.mem_cons_self ..))] at h1
        exact (h.ok.get h1.symm).2
       exact ht e he
     | none=>
       rw [comE]
       split
       ·exact ih _ hr fun e he=>ht e ((delE_sublist t k).subset he)
       exact ih t hr ht
  exact this C B (fun p hp=>hp) fun e he=>(h.below.ok e he).2
 refine sorted_eq hs h.ok.sorted fun k=>?_
 have h1:=comE_get B (k:=k) C B h.chg h.below.sorted rfl
 rw [h.now k] at h1
 cases ha:getE (comE B C B) k with
 | none=>
   cases hb:getE M k with
   | none=>rfl
   | some b=>rw [ha,hb] at h1;cases h1
 | some a=>
   cases hb:getE M k with
   | none=>rw [ha,hb] at h1;cases h1
   | some b=>
     rw [ha,hb] at h1
     simp only [simO,decide_eq_true_eq] at h1
     exact congrArg some ((ho _ (mem_getE ha)).eq (h.ok.get hb).2 h1)
theorem RelX.start {B:List Ent} (h:OkM B):RelX B [] B:=⟨h,h,List.Pairwise.nil,fun k=>rfl⟩
theorem RelX.put {B:List Ent} {C C':Slots} {M:List Ent} (h:RelX B C M) {k:ByteArray} {v:Val} (hk:mayK k=0) (hv:okV v) (hs:SortedA C') (hC:∀ x,getA C' x=if x=k then some (some v) else getA C x):RelX B C' (insE M k v):=
 ⟨h.below,h.ok.put hk hv,hs,fun x=>by
   unfold nowE
   rw [hC,getE_ins]
   by_cases hx:x=k
   ·rw [if_pos hx,if_pos hx]
   rw [if_neg hx,if_neg hx];exact h.now x⟩
theorem RelX.del {B:List Ent} {C C':Slots} {M:List Ent} (h:RelX B C M) {k:ByteArray} (hs:SortedA C') (hC:∀ x,getA C' x=if x=k then some none else getA C x):RelX B C' (delE M k):=
 ⟨h.below,h.ok.del k,hs,fun x=>by
   unfold nowE
   rw [hC,getE_del _ _ _ h.ok.sorted]
   by_cases hx:x=k
   ·rw [if_pos hx,if_pos hx]
   rw [if_neg hx,if_neg hx];exact h.now x⟩
end Go.Proofs.YtkhdiakpdafcdaaGreatDoor
namespace Go.Proofs.YtkhdiakpdafcdaaGreatDoor
set_option linter.unusedVariables false
def inI (lo hi:ByteArray) (op:Bool) (e:Ent):Bool:=!(klt e.1 lo) && (op || klt e.1 hi)
def rangeE (lo hi:ByteArray) (op:Bool) (es:List Ent):List Ent:=es.filter (inI lo hi op)
theorem rangeE_app (lo hi:ByteArray) (op:Bool) (a b:List Ent):rangeE lo hi op (a++b)=rangeE lo hi op a++rangeE lo hi op b:=List.filter_append ..
theorem rangeE_below {lo hi:ByteArray} {op:Bool} {es:List Ent} (h:∀ e∈es,klt e.1 lo=true):rangeE lo hi op es=[]:=
 List.filter_eq_nil_iff.2 fun e he=>by simp [inI,h e he]
def endI (hi:ByteArray) (op:Bool) (k:ByteArray):Bool:=!op && !(klt k hi)
theorem rangeE_above {lo hi:ByteArray} {op:Bool} {es:List Ent} (h:∀ e∈es,endI hi op e.1=true):rangeE lo hi op es=[]:=
 List.filter_eq_nil_iff.2 fun e he=>by
  have:=h e he
  simp only [endI,Bool.and_eq_true,Bool.not_eq_true'] at this
  simp [inI,this.1,this.2]
theorem endI_up {hi:ByteArray} {op:Bool} {a b:ByteArray} (h:endI hi op a=true) (hab:klt a b=true):endI hi op b=true:=by
 simp only [endI,Bool.and_eq_true,Bool.not_eq_true'] at h ⊢
 refine ⟨h.1,?_⟩
 cases hb:klt b hi
 ·rfl
 rw [klt_trans hab hb] at h;cases h.2
theorem rangeE_one {lo hi:ByteArray} {op:Bool} {e:Ent} (h1:klt e.1 lo=false) (h2:endI hi op e.1=false):rangeE lo hi op [e]=[e]:=by
 have:inI lo hi op e=true:=by
  simp only [endI,Bool.and_eq_false_iff,Bool.not_eq_false'] at h2
  rcases h2 with h2 | h2 <;> simp [inI,h1,h2]
 simp [rangeE,this]
theorem rangeE_behind {lo hi:ByteArray} {op:Bool} {A B:List Ent} (hs:Sorted (A++B)) (h:∃ e∈A,endI hi op e.1=true):rangeE lo hi op B=[]:=by
 obtain ⟨e,he,h⟩:=h
 exact rangeE_above fun x hx=>endI_up h ((sorted_app hs).2.2 e he x hx)
theorem le_last {es:List Ent} (hs:Sorted es) {e:Ent} (he:e∈es):klt (lastK es) e.1=false:=by
 have hne:es≠[]:=by rintro rfl;cases he
 rcases List.eq_nil_or_concat es with rfl | ⟨a,x,rfl⟩
 ·exact absurd rfl hne
 rw [List.concat_eq_append] at hs he
 have hl:lastK (a.concat x)=x.1:=by simp [lastK]
 rw [hl]
 rcases List.mem_append.1 he with h | h
 ·exact klt_asymm ((sorted_app hs).2.2 e h x (List.mem_singleton.2 rfl))
 rw [List.mem_singleton.1 h];exact klt_irrefl _
theorem first_le {es:List Ent} (hs:Sorted es) {e:Ent} (he:e∈es):klt e.1 (firstK es)=false:=by
 cases es with
 | nil=>cases he
 | cons x es=>
   show klt e.1 x.1=false
   rcases List.mem_cons.1 he with rfl | h
   ·exact klt_irrefl _
   exact klt_asymm ((List.pairwise_cons.1 hs).1 e h)
theorem lt_of_last {es:List Ent} (hs:Sorted es) {lo:ByteArray} (h:klt (lastK es) lo=true):∀ e∈es,klt e.1 lo=true:=fun e he=>klt_of_ge_lt (le_last hs he) h
theorem end_of_first {es:List Ent} (hs:Sorted es) {hi:ByteArray} {op:Bool} (h:endI hi op (firstK es)=true):∀ e∈es,endI hi op e.1=true:=fun e he=>by
 simp only [endI,Bool.and_eq_true,Bool.not_eq_true'] at h ⊢
 refine ⟨h.1,?_⟩
 cases hb:klt e.1 hi
 ·rfl
 have:=klt_of_ge_lt (first_le hs he) hb
 rw [h.2] at this;cases this
def endL:List UInt8→Option (List UInt8)
 | []=>none
 | b :: t=>match endL t with
   | some e=>some (b :: e)
   | none=>if b=255 then none else some [b+1]
theorem bl_nil (k:List UInt8):Op.bytesLess k []=false:=by cases k <;> rfl
theorem u8_lt_succ {b c:UInt8} (hb:b≠255):(c<b+1)↔(c<b∨c=b):=by
 have h1:(b+1).toNat=b.toNat+1:=by
  rw [UInt8.toNat_add]
  have:b.toNat≠255:=fun e=>hb (UInt8.toNat_inj.1 e)
  have:=b.toNat_lt
  show (b.toNat+1) % 256=_
  omega
 rw [UInt8.lt_iff_toNat_lt,UInt8.lt_iff_toNat_lt,h1,←UInt8.toNat_inj]
 omega
theorem begins_iff:∀ p k:List UInt8,(p.isPrefixOf k)=(!(Op.bytesLess k p) && (match endL p with | none=>true | some e=>Op.bytesLess k e))
 | [],k=>by simp [bl_nil,endL,List.isPrefixOf]
 | b :: t,[]=>by simp [Op.bytesLess,List.isPrefixOf]
 | b :: t,c :: s=>by
   have ih:=begins_iff t s
   simp only [List.isPrefixOf,Op.bytesLess,endL]
   by_cases hlt:c<b
   ·have hne:(b == c)=false:=beq_eq_false_iff_ne.2 (by rintro rfl;exact absurd hlt (UInt8.lt_irrefl _))
    simp [hlt,hne]
   by_cases he:c=b
   ·subst he
    cases hE:endL t with
    | some e=>
      rw [hE] at ih
      simp [Op.bytesLess,ih,UInt8.lt_irrefl]
    | none=>
      rw [hE] at ih
      by_cases h255:c=255
      ·subst h255;simp [ih,UInt8.lt_irrefl]
      have h1:c<c+1:=(u8_lt_succ h255).2 (.inr rfl)
      simp [Op.bytesLess,ih,UInt8.lt_irrefl,h255,h1]
   have hne:(b == c)=false:=beq_eq_false_iff_ne.2 fun e=>he e.symm
   have hne':(c == b)=false:=beq_eq_false_iff_ne.2 he
   simp only [hne,Bool.false_and,hlt,decide_false,hne',Bool.or_self,Bool.not_false,Bool.true_and]
   cases hE:endL t with
   | some e=>simp [Op.bytesLess,hlt,hne']
   | none=>
     by_cases h255:b=255
     ·exfalso
      subst h255
      have h1:=UInt8.not_lt.1 hlt
      have h2:c≤255:=UInt8.le_iff_toNat_le.2 (by have:=c.toNat_lt;show c.toNat≤255;omega)
      exact he (UInt8.le_antisymm h2 h1)
     have h1:¬c<b+1:=fun h=>by
      rcases (u8_lt_succ h255).1 h with h | h
      ·exact hlt h
      exact he h
     simp [h255,Op.bytesLess,h1,bl_nil]
theorem endL_ff:∀ n:Nat,endL (List.replicate n 255)=none
 | 0=>rfl
 | n+1=>by rw [List.replicate_succ,endL,endL_ff n];rfl
theorem endL_at {b:UInt8} (hb:b≠255) (n:Nat):∀ a:List UInt8,endL (a++b :: List.replicate n 255)=some (a++[b+1])
 | []=>by rw [List.nil_append,endL,endL_ff];simp [hb]
 | x :: a=>by rw [List.cons_append,endL,endL_at hb n a];rfl
end Go.Proofs.YtkhdiakpdafcdaaGreatDoor
namespace Go.Proofs.YtkhdiakpdafcdaaGreatDoor
open Go.RowKit
set_option linter.unusedVariables false
set_option linter.unusedSimpArgs false
abbrev inV (lo hi:ByteArray) (op:Bool):Value:=.agg #[.string lo,.string hi,.bool op]
theorem ends_any (w:World) (lo hi:ByteArray) (op:Bool) (k:ByteArray):Calls Tryz.prog 255 #[inV lo hi op,.string k] w fun e w'=>e=.returned (.bool (endI hi op k))∧Ext w w':=by
 cases op
 ·go_enter Tryz.func255,Tryz.ntmps255
  go_wp2_with fail
  go_ret
  exact ⟨rfl,(Ext.refl w).alloc _ _⟩
 go_enter Tryz.func255,Tryz.ntmps255
 go_wp2_with fail
 go_ret
 exact ⟨rfl,(Ext.refl w).alloc _ _⟩
structure LeafC (At:World→Prop) (nv:Value) (es:List Ent):Prop where
 ext:∀ {W W'},At W→Ext W W'→At W'
 ptr:∃ p,nv=.pointer p
 height:∀ W,At W→Calls Tryz.prog 97 #[nv] W fun e w'=>e=.returned (.int .i64 0)∧W=w'
 size:∀ W,At W→Calls Tryz.prog 101 #[nv] W fun e w'=>e=.returned (.int .i64 es.length)∧∃ q,w'=W.drewN q
 kids:∀ W,At W→Calls Tryz.prog 98 #[nv] W fun e w'=>e=.returned (.slice none 0 0)∧W=w'
 entry:∀ W,At W→∀ (i:Nat) (e:Ent),es[i]? = some e→Calls Tryz.prog 103 #[nv,.int .i64 i] W (EntryPost e.1 e.2 W)
 none:∀ W,At W→∀ i:Int,(i<0∨es.length≤i)→Calls Tryz.prog 103 #[nv,.int .i64 i] W fun e w'=>e=.returned (.tuple #[aggE ByteArray.empty zeroV Sl.none Sl.none,.bool false])∧Ext W w'
 sorted:Sorted es
 few:es.length≤8
def NodeAt (F:Nat→Prop) (h:Nat) (t:PT h) (W:World):Prop:=IsN W F h t∧∀ b,F b→b<W.heap.size
theorem NodeAt.ext {F:Nat→Prop} {h:Nat} {t:PT h} {W W':World} (a:NodeAt F h t W) (k:Ext W W'):NodeAt F h t W':=⟨a.1.agree (k.agree a.2),fun b hb=>Nat.lt_of_lt_of_le (a.2 b hb) k.size⟩
theorem NodeAt.lt {F:Nat→Prop} {h:Nat} {t:PT h} {W:World} (a:NodeAt F h t W):IsN W (Lt W.heap.size) h t:=a.1.mono a.2
theorem leafC_node {F:Nat→Prop} {t:PT 0} (ok:OkT 0 t) (hs:Sorted (ents 0 t)):LeafC (NodeAt F 0 t) (ptr 0 t) (ents 0 t) where
 ext:=NodeAt.ext
 ptr:=⟨_,rfl⟩
 height W a:=height_any a.1
 size W a:=size_any a.1 (Nat.le_trans (show (ents 0 t).length≤8 from ok) (by decide))
 kids W a:=kids_leaf a.1
 entry W a i e h:=entry_any a.lt h
 none W a i h:=entry_none a.lt h
 sorted:=hs
 few:=ok
theorem leafC_nil:LeafC (fun _=>True) (.pointer none) [] where
 ext _ _:=trivial
 ptr:=⟨_,rfl⟩
 height W _:=height_nil W
 size W _:=(size_nil W).mono fun e w' ⟨h1,h2⟩=>⟨h1,0,h2.symm⟩
 kids W _:=kids_nil W
 entry W _ i e h:=by simp at h
 none W _ i _:=entry_nil W i
 sorted:=List.Pairwise.nil
 few:=by simp
/-- The closure of below. -/
theorem below1_any {W:World} {nv:Value} {b1 b2:Nat} {k k':ByteArray} {v:Val} {i:Nat} (h1:W.cell? ⟨b1,0,none⟩=some nv) (h2:W.cell? ⟨b2,0,none⟩=some (.string k))
  (hp:∃ p,nv=.pointer p) (hc:Calls Tryz.prog 103 #[nv,.int .i64 i] W (EntryPost k' v W)) :
  Calls Tryz.prog 261 #[.int .i64 i,.pointer (some ⟨b1,0,none⟩),.pointer (some ⟨b2,0,none⟩)] W fun e w'=>e=.returned (.bool !(klt k' k))∧Ext W w':=by
 obtain ⟨p,rfl⟩:=hp
 have hb2:=World.block_lt_of_cell? W _ h2
 go_enter Tryz.func261,Tryz.ntmps261
 go_wp2_with fail
 refine hc.mono ?_
 rintro e w1 ⟨sl,so,rfl,hx,-⟩
 have q2:=(hx.cell hb2).trans h2
 have l2:b2<w1.heap.size:=Nat.lt_of_lt_of_le hb2 hx.size
 have HX:=Lib.hid hx
 clear hc hx h2
 go_wp2
 go_ret
 exact ⟨rfl,HX.out.alloc _ _⟩
theorem below_any {At:World→Prop} {nv:Value} {es:List Ent} (hc:LeafC At nv es) {w:World} (hw:At w) (k:ByteArray):Calls Tryz.prog 260 #[nv,.string k] w fun e w'=>e=.returned (.int .i64 (posE es k))∧Ext w w':=by
 obtain ⟨pp,rfl⟩:=hc.ptr
 have hl:=hc.few
 have hsr:∀ W,Ext w W→W.cell? ⟨w.heap.size,0,none⟩=some (.pointer pp)→W.cell? ⟨w.heap.size+1,0,none⟩=some (.string k)→Calls Tryz.prog 100 #[.int .i64 es.length,.func (.func 261) #[] #[.pointer (some ⟨w.heap.size,0,none⟩),.pointer (some ⟨w.heap.size+1,0,none⟩)]] W (SearchPost es.length (fun i=>!(klt ((es[i]?.map Prod.fst).getD ByteArray.empty) k)) W):=by
  intro W hW c1 c2
  refine search_any 261 _ _ es.length _ W (enters_of Tryz.func261 (by kernel_rfl) rfl) (by omega) ?_ ?_
  ·intro i W' hi hW'
   obtain ⟨x,hx⟩:∃ x,es[i]? = some x:=⟨_,List.getElem?_eq_getElem hi⟩
   rw [hx]
   exact below1_any ((hW'.cell (World.block_lt_of_cell? W _ c1)).trans c1) ((hW'.cell (World.block_lt_of_cell? W _ c2)).trans c2) ⟨_,rfl⟩ (hc.entry W' (hc.ext (hc.ext hw hW) hW') i x hx)
  intro i j hij hj hpi
  by_cases hij':i=j
  ·subst hij';exact hpi
  obtain ⟨x,hx⟩:∃ x,es[i]? = some x:=⟨_,List.getElem?_eq_getElem (by omega)⟩
  obtain ⟨y,hy⟩:∃ y,es[j]? = some y:=⟨_,List.getElem?_eq_getElem hj⟩
  have hxy:=sorted_lt hc.sorted (i:=i) (j:=j) (by omega) hx hy
  rw [hx] at hpi;rw [hy]
  simp only [Option.map_some,Option.getD_some,Bool.not_eq_true'] at hpi ⊢
  cases hyk:klt y.1 k
  ·rfl
  have:=klt_trans hxy hyk
  rw [hpi] at this;cases this
 have HC:=Lib.hid hc
 have HSR:=Lib.hid hsr
 have HW:=Lib.hid hw
 clear hc hsr hw
 go_enter Tryz.func260,Tryz.ntmps260
 go_wp2_with fail
 generalize hW0:World.alloc _ _=W0
 obtain ⟨hx0,hz0,hb0,hb1⟩:=two_blocks w _ _ _ _ W0 hW0
 have q0:W0.cell? ⟨w.heap.size,0,none⟩=some (.pointer pp):=hb0.cell 0
 have HX0:=Lib.hid hx0
 have HB0:=Lib.hid hb0
 have HB1:=Lib.hid hb1
 clear hW0 hb0 hb1 hx0 hz0
 refine (HC.out.size W0 (HC.out.ext HW.out HX0.out)).mono ?_
 rintro e w1 ⟨rfl,q,rfl⟩
 clear q0
 go_wp2_with fail
 refine (HSR.out _ (HX0.out.drewN q) (HB0.out.cell 0) (HB1.out.cell 0)).mono ?_
 rintro e w1 ⟨p,rfl,hp,hlo,hhi,he1⟩
 have hpos:posE es k=p:=posE_of hp (fun i e hi he=>by
   have:(!(klt ((es[i]?.map Prod.fst).getD ByteArray.empty) k))=false:=hlo i hi
   rw [he] at this
   simpa using this) (fun e he=>by
   have:(!(klt ((es[p]?.map Prod.fst).getD ByteArray.empty) k))=true:=hhi p (Nat.le_refl _) (List.getElem?_eq_some_iff.1 he).1
   rw [he] at this
   simpa using this)
 have HE:=Lib.hid ((HX0.out.drewN q).trans he1)
 have HP:=Lib.hid hpos
 clear hlo hhi hpos he1
 go_wp2_with fail
 go_ret
 exact ⟨by rw [HP.out];rfl,HE.out⟩
theorem kid_ne {h:Nat} {t:PT (h+1)} (ok:OkT (h+1) t) {kid:PT h} (hk:kid∈t.2):ents h kid≠[]:=by
 have h1:=ok.2.2 kid hk
 have:=ents_pos h kid h1.1 (by omega)
 intro e;rw [e] at this;simp at this
def TreeAt (F:Nat→Prop) (T:RT) (W:World):Prop:=IsT W F T∧∀ b,F b→b<W.heap.size
theorem TreeAt.ext {F:Nat→Prop} {T:RT} {W W':World} (a:TreeAt F T W) (k:Ext W W'):TreeAt F T W':=⟨a.1.agree (k.agree a.2),fun b hb=>Nat.lt_of_lt_of_le (a.2 b hb) k.size⟩
end Go.Proofs.YtkhdiakpdafcdaaGreatDoor
namespace Go.Proofs.YtkhdiakpdafcdaaGreatDoor
open Go.RowKit Go.Shelf
set_option linter.unusedVariables false
set_option linter.unusedSimpArgs false
attribute [local go_sem] Oper.semAt_some
abbrev encE (x:LE):Array Value:=#[.string x.k,aggV x.v x.sl x.so]
structure ScanG (all:List Ent) (pre:List LE) (x:LE) (W0 W1:World):Prop where
 at_:all[pre.length]? = some x.ent
 pre_:pre.map LE.ent=all.take pre.length
 val:RV W1 (In W0.heap.size W1.heap.size) x.v x.sl x.so
 key:x.k.size≤maxLen
def WalkPost (lo hi:ByteArray) (op:Bool) (es all:List Ent) (pre:List LE) (J:List LE→(Nat→Prop)→World→Prop) (Jx:List LE→World→Prop) (C:Nat→Prop) (W:World) (e:Ending) (W':World):Prop:=
 (∃ (new:List LE) (C':Nat→Prop) (W0:World),(e=.returned (.bool true)∨(e=.returned (.bool false)∧∃ x∈es,endI hi op x.1=true))∧J (pre++new) C' W0∧Ext W0 W'∧new.map LE.ent=rangeE lo hi op es∧St C W W'∧∀ b,C' b→C b∨W.heap.size≤b)∨
 (e=.returned (.bool false)∧St C W W'∧∃ pre' W0,Jx pre' W0∧Ext W0 W'∧pre'.map LE.ent <+: all)
theorem scanG_next {all rest:List Ent} {pre new:List LE} {A:List Ent} {lo hi:ByteArray} {op:Bool} {x:LE} {B:List Ent} (hall:all=pre.map LE.ent++(rangeE lo hi op (A++x.ent :: B)++rest)) (hn:new.map LE.ent=rangeE lo hi op A) (h1:klt x.k lo=false) (h2:endI hi op x.k=false) :
  all[(pre++new).length]? = some x.ent∧(pre++new).map LE.ent=all.take (pre++new).length∧(new++[x]).map LE.ent=rangeE lo hi op (A++[x.ent]):=by
 have e1:rangeE lo hi op (A++x.ent :: B)=rangeE lo hi op A++(x.ent :: rangeE lo hi op B):=by
  rw [show A++x.ent :: B=A++([x.ent]++B) from rfl,rangeE_app,rangeE_app,rangeE_one (e:=x.ent) h1 h2];rfl
 rw [e1,←hn] at hall
 have e2:all=(pre++new).map LE.ent++(x.ent :: (rangeE lo hi op B++rest)):=by rw [hall];simp
 have hl:(pre++new).length=((pre++new).map LE.ent).length:=by simp
 refine ⟨?_,?_,?_⟩
 ·rw [e2,hl,List.getElem?_append_right (Nat.le_refl _),Nat.sub_self];rfl
 ·rw [e2,hl,List.take_left]
 rw [List.map_append,hn,rangeE_app,List.map_cons,List.map_nil,rangeE_one (e:=x.ent) h1 h2]
theorem rangeE_rest {lo hi:ByteArray} {op:Bool} {es:List Ent} (hs:Sorted es) {i:Nat} {x:Ent} (hx:es[i]? = some x) (he:endI hi op x.1=true):rangeE lo hi op (es.take i)=rangeE lo hi op es:=by
 have hd:es.drop i=x :: es.drop (i+1):=by
  obtain ⟨h1,rfl⟩:=List.getElem?_eq_some_iff.1 hx
  exact List.drop_eq_getElem_cons h1
 conv=>rhs;rw [←List.take_append_drop i es]
 rw [rangeE_app,rangeE_above (es:=es.drop i),List.append_nil]
 intro e hem
 have hsd:Sorted (es.drop i):=List.Pairwise.sublist (List.drop_sublist _ _) hs
 rw [hd] at hem hsd
 rcases List.mem_cons.1 hem with rfl | hem
 ·exact he
 exact endI_up he ((List.pairwise_cons.1 hsd).1 e hem)
theorem take_snoc_prefix {α:Type} {l:List α} {n:Nat} {x:α} (h:l[n]? = some x):l.take n++[x] <+: l:=by
 have e:l.take (n+1)=l.take n++[x]:=by rw [List.take_add_one,h];rfl
 rw [←e];exact List.take_prefix _ _
structure LeafS (lo hi:ByteArray) (op:Bool) (es:List Ent) (At:World→Prop) (pre:List LE) (J:List LE→(Nat→Prop)→World→Prop) (C:Nat→Prop) (W:World) (i:Nat) (new:List LE) (C':Nat→Prop) (Wj wr:World):Prop where
 j:J (pre++new) C' Wj
 ext:Ext Wj wr
 new_:new.map LE.ent=rangeE lo hi op (es.take i)
 st:St C W wr
 sub:∀ b,C' b→C b∨W.heap.size<b
 box:Blk wr W.heap.size 276 #[.string lo,.string hi,.bool op]
 at_:At wr
theorem walkLeaf_any {At:World→Prop} {F:Nat→Prop} {nv:Value} {es:List Ent} (hc:LeafC At nv es) (hagr:∀ W W',At W→Agree F W W'→W.heap.size≤W'.heap.size→At W') (hsm:∀ e∈es,e.1.size≤maxLen) {lo hi:ByteArray} {op:Bool} {all rest:List Ent} {pre:List LE}
  {l:Nat} {J:List LE→(Nat→Prop)→World→Prop} {Jx:List LE→World→Prop} (hT:Takes Tryz.prog l encE (ScanG all) J Jx) {C:Nat→Prop} {W0 W:World} (hJ:J pre C W0) (hx:Ext W0 W) (hw:At W) (hF:∀ b,F b→b<W.heap.size∧¬C b) (hall:all=pre.map LE.ent++(rangeE lo hi op es++rest)) :
  Calls Tryz.prog 253 #[nv,inV lo hi op,.func (.yield l) #[] #[]] W (WalkPost lo hi op es all pre J Jx C W):=by
 obtain ⟨pp,rfl⟩:=hc.ptr
 have hl:=hc.few
 have hCl:=hT.lt pre C W0 hJ
 have hx1:Ext W (W.alloc (.cells #[.string lo,.string hi,.bool op] 276)):=(Ext.refl W).alloc _ _
 have hb1:=Blk.new W 276 #[.string lo,.string hi,.bool op]
 have hbe:=below_any hc (hc.ext hw hx1) lo
 obtain ⟨hp1,hp2⟩:=pos_split es lo hc.sorted
 obtain ⟨p,hp⟩:∃ p,posE es lo=p:=⟨_,rfl⟩
 rw [hp] at hbe hp1 hp2
 have hple:p≤es.length:=by rw [←hp];exact posE_le _ _
 have q0:(W.alloc (.cells #[.string lo,.string hi,.bool op] 276)).cell? ⟨W.heap.size,0,none⟩=some (.string lo):=hb1.cell 0
 have HC:=Lib.hid hc
 have HAG:=Lib.hid hagr
 have HSM:=Lib.hid hsm
 have HT:=Lib.hid hT
 have HJ:=Lib.hid hJ
 have HX:=Lib.hid hx
 have HW:=Lib.hid hw
 have HF:=Lib.hid hF
 have HALL:=Lib.hid hall
 have HB1:=Lib.hid hb1
 have HBE:=Lib.hid hbe
 have HP1:=Lib.hid hp1
 have HP2:=Lib.hid hp2
 have HX1:=Lib.hid hx1
 have HCL:=Lib.hid hCl
 clear hc hagr hsm hT hJ hx hw hF hall hbe hp1 hp2 hp hb1 hx1 hCl
 refine (callsIn_wide (n:=5)).1 ?_
 refine callsIn_of_wp Tryz.func253 rfl trivial ?_ rfl
 simp only [Tryz.ntmps253,List.size_toArray,List.length_cons,List.length_nil,Nat.reduceAdd,Nat.reduceSub,Array.replicate_succ,Array.replicate_zero,List.push_toArray,List.append_toArray,List.nil_append,List.cons_append]
 gi_wp2_with fail
 refine ⟨trivial,?_⟩
 refine (callsIn_wide.2 HBE.out).mono ?_
 rintro e w1 ⟨rfl,hx2⟩
 have HX2:=Lib.hid (HX1.out.trans hx2)
 have HB2:=Lib.hid (HB1.out.ext hx2)
 clear hx2 q0 HBE
 gi_wp2_with fail
 gi_loopw [7] (fun v wr=>∃ (i:Nat) (new:List LE) (C':Nat→Prop) (Wj:World),v=.int .i64 i∧p≤i∧i≤es.length∧LeafS lo hi op es At pre J C W i new C' Wj wr) (fun v _=>es.length - (intOf v).toNat)
 case atStart=>exact ⟨p,[],C,W0,rfl,Nat.le_refl _,hple,⟨by rw [List.append_nil];exact HJ.out,HX.out.trans HX2.out,by rw [rangeE_below HP1.out];rfl,HX2.out.st _,fun b hb=>.inl hb,HB2.out,HC.out.ext HW.out HX2.out⟩⟩
 obtain ⟨i,new,C',Wj,rfl,hpi,hil,hS⟩:=hrel
 have HS:=Lib.hid hS
 have hsz:=HC.out.size wr hS.at_
 have HSZ:=Lib.hid hsz
 clear hS hsz
 gi_wp2_with fail
 refine ⟨trivial,?_⟩
 refine (callsIn_wide.2 HSZ.out).mono ?_
 rintro e w2 ⟨rfl,q,rfl⟩
 have hxq:Ext wr (wr.drewN q):=(Ext.refl wr).drewN q
 by_cases hlt:i<es.length
 ·have g1:(i:Int)<(es.length:Int):=by omega
  have g1':decide ((i:Int)<(es.length:Int))=true:=decide_eq_true g1
  obtain ⟨x,hxi⟩:∃ x,es[i]? = some x:=⟨_,List.getElem?_eq_getElem hlt⟩
  have hen:=HC.out.entry (wr.drewN q) (HC.out.ext HS.out.at_ hxq) i x hxi
  have HEN:=Lib.hid hen
  have HXI:=Lib.hid hxi
  clear hen hxi
  gi_wp2_with fail
  refine ⟨trivial,?_⟩
  refine (callsIn_wide.2 HEN.out).mono ?_
  rintro e w3 ⟨sl,so,rfl,hx3,hrv⟩
  have hx4:Ext w3 (w3.alloc (.cells #[.string x.1,.int .i64 x.2.kind,.bool x.2.b,.int .i64 x.2.i,.string x.2.t,.slice sl.a x.2.l.length sl.c,.slice so.a x.2.ok.length so.c] 71)):=(Ext.refl w3).alloc _ _
  have hb4:=Blk.new w3 71 #[.string x.1,.int .i64 x.2.kind,.bool x.2.b,.int .i64 x.2.i,.string x.2.t,.slice sl.a x.2.l.length sl.c,.slice so.a x.2.ok.length so.c]
  have HX4:=Lib.hid ((hxq.trans hx3).trans hx4)
  have HX34:=Lib.hid hx4
  have HB4:=Lib.hid hb4
  have HRV:=Lib.hid hrv
  have hbx:=HS.out.box.ext (hxq.trans hx3)
  have qb0:w3.cell? ⟨W.heap.size,0,none⟩=some (.string lo):=hbx.cell 0
  have qb1:w3.cell? ⟨W.heap.size,1,none⟩=some (.string hi):=hbx.cell 1
  have qb2:w3.cell? ⟨W.heap.size,2,none⟩=some (.bool op):=hbx.cell 2
  have lb:=hbx.lt
  clear hx3 hx4 hb4 hrv hbx
  gi_wp2_with fail
  refine ⟨trivial,?_⟩
  refine (callsIn_wide.2 (ends_any _ lo hi op x.1)).mono ?_
  rintro e w5 ⟨rfl,hx5⟩
  have hX5:=HX4.out.trans hx5
  have hb5:=HB4.out.ext hx5
  obtain ⟨c0,c1,c2,c3,c4,c5,c6⟩:=hb5.c7
  have hat5:=HC.out.ext HS.out.at_ hX5
  have hbx5:=HS.out.box.ext hX5
  have hs4:=HX34.out.size
  have hs5:=hx5.size
  have hsj:=HS.out.ext.size
  have hrv5:RV w5 (In wr.heap.size w5.heap.size) x.2 sl so:=((HRV.out.agree (HX34.out.agree fun b hb=>hb.2)).agree (hx5.agree fun b hb=>by have:=hb.2;omega)).mono fun b hb=>⟨hb.1,by have:=hb.2;omega⟩
  have HX5:=Lib.hid hX5
  have HAT:=Lib.hid hat5
  have HBX:=Lib.hid hbx5
  have HRV5:=Lib.hid hrv5
  clear hx5 hX5 hb5 hat5 hbx5 hrv5 HRV HX4 HX34 HB4 qb0 qb1 qb2
  cases hend:endI hi op x.1 with
  | true=>
    gi_wp2_with fail
    refine ⟨fun _ h=>absurd h (by simp),?_⟩
    gi_wp2_with fail
    go_ret
    refine .inl ⟨new,C',Wj,.inr ⟨rfl,x,List.mem_of_getElem? HXI.out,hend⟩,HS.out.j,HS.out.ext.trans HX5.out,?_,HS.out.st.ext HX5.out,fun b hb=>(HS.out.sub b hb).imp_right Nat.le_of_lt⟩
    rw [HS.out.new_,rangeE_rest HC.out.sorted HXI.out hend]
  | false=>
    have hge:klt x.1 lo=false:=HP2.out x (by
     obtain ⟨h1,rfl⟩:=List.getElem?_eq_some_iff.1 HXI.out
     rw [List.mem_iff_getElem?]
     exact ⟨i - p,by rw [List.getElem?_drop,Nat.add_sub_cancel' hpi];exact HXI.out⟩)
    have hes:es=es.take i++x :: es.drop (i+1):=by
     obtain ⟨h1,h2⟩:=List.getElem?_eq_some_iff.1 HXI.out
     conv=>lhs;rw [←List.take_append_drop i es,List.drop_eq_getElem_cons h1,h2]
    obtain ⟨n1,n2,n3⟩:=scanG_next (x:=⟨x.1,x.2,sl,so⟩) (A:=es.take i) (B:=es.drop (i+1)) (all:=all) (rest:=rest) (pre:=pre) (by show all=pre.map LE.ent++(rangeE lo hi op (es.take i++x :: es.drop (i+1))++rest);rw [←hes];exact HALL.out) HS.out.new_ hge hend
    have hy:=HT.out.take (pre++new) C' ⟨x.1,x.2,sl,so⟩ Wj w5 HS.out.j (HS.out.ext.trans HX5.out) ⟨n1,n2,HRV5.out.mono fun b hb=>⟨by have:=hb.1;omega,hb.2⟩,HSM.out x (List.mem_of_getElem? HXI.out)⟩
    obtain ⟨fn,tmps,assign,body,hy,hR⟩:=hy
    have HR:=Lib.hid hR
    have HN1:=Lib.hid n1
    have HN2:=Lib.hid n2
    have HN3:=Lib.hid n3
    have HES:=Lib.hid hes
    clear hR n1 n2 n3 hes
    dsimp only [encE] at hy
    gi_wp2_with fail
    refine HR.out.mono ?_
    rintro e w6 (⟨rfl,C6,hj6,hst6,hsub6⟩ | ⟨rfl,hjx,hst6⟩)
    ·have hj6':J (pre++(new++[⟨x.1,x.2,sl,so⟩])) C6 w6:=by rw [←List.append_assoc];exact hj6
     have hWC:∀ b,b≤W.heap.size→C' b→C b:=fun b hb h=>by
      rcases HS.out.sub b h with h | h
      ·exact h
      omega
     have hWC0:¬C' W.heap.size:=fun h=>by
      have h1:=HCL.out _ (hWC _ (Nat.le_refl _) h)
      have:=HX.out.size;omega
     have HS6:=Lib.hid (show LeafS lo hi op es At pre J C W (i+1) (new++[⟨x.1,x.2,sl,so⟩]) C6 w6 w6 from
      ⟨hj6',Ext.refl _,by rw [HN3.out,List.take_add_one,HXI.out];rfl,(HS.out.st.ext HX5.out).then hst6 (fun b hb h=>hWC b (Nat.le_of_lt hb) h),fun b hb=>by
        rcases hsub6 b hb with h | h
        ·exact HS.out.sub b h
        exact .inr (by omega),hst6.blk HBX.out hWC0,HAG.out w5 w6 HAT.out (hst6.agree.mono fun b hb=>⟨by have:=(HF.out b hb).1;omega,fun h=>(HF.out b hb).2 (hWC b (Nat.le_of_lt (HF.out b hb).1) h)⟩) hst6.size⟩)
     clear hj6 hst6 hsub6 hj6' hWC hWC0 hy
     gi_wp2_with fail
     go_roundw
     case rel=>exact ⟨i+1,_,C6,w6,by go_num,by omega,hlt,HS6.out⟩
     simp [intOf];omega
    gi_wp2_with fail
    go_ret
    have hst:St C W w6:=(HS.out.st.ext HX5.out).then hst6 fun b hb h=>by
     rcases HS.out.sub b h with h | h
     ·exact h
     omega
    exact .inr ⟨rfl,hst,_,w6,hjx,Ext.refl _,by
     rw [List.map_append,HN2.out]
     exact take_snoc_prefix HN1.out⟩
 obtain rfl:i=es.length:=by omega
 gi_wp2_with fail
 go_ret
 refine .inl ⟨new,C',Wj,.inl rfl,HS.out.j,HS.out.ext.trans hxq,?_,HS.out.st.ext hxq,fun b hb=>(HS.out.sub b hb).imp_right Nat.le_of_lt⟩
 rw [HS.out.new_,List.take_length]
theorem keys_small {w:World} {F:Nat→Prop}:∀ {h:Nat} {t:PT h},IsN w F h t→∀ e∈ents h t,e.1.size≤maxLen
 | 0,t,⟨_,s,xs,_,h3,h4⟩,e,he=>by
   have he:e∈t.2:=he
   rw [←h4] at he
   obtain ⟨x,hx,rfl⟩:=List.mem_map.1 he
   exact (h3.vals x hx).2
 | h+1,t,⟨_,s,_,_,h4⟩,e,he=>by
   have he:e∈t.2.flatMap (ents h):=he
   obtain ⟨k,hk,he⟩:=List.mem_flatMap.1 he
   exact keys_small (h4 k hk) e he
theorem WalkPost.from {lo hi:ByteArray} {op:Bool} {es all:List Ent} {pre:List LE} {J:List LE→(Nat→Prop)→World→Prop} {Jx:List LE→World→Prop} {C:Nat→Prop} {W W1:World} {e:Ending} {W':World} (h:WalkPost lo hi op es all pre J Jx C W1 e W') (hx:Ext W W1):WalkPost lo hi op es all pre J Jx C W e W':=by
 rcases h with ⟨new,C',W0,h1,h2,h3,h4,h5,h6⟩ | h
 ·exact .inl ⟨new,C',W0,h1,h2,h3,h4,(hx.st C).trans h5,fun b hb=>(h6 b hb).imp_right fun h=>Nat.le_trans hx.size h⟩
 exact .inr ⟨h.1,(hx.st C).trans h.2.1,h.2.2⟩
theorem WalkPost.bool {lo hi:ByteArray} {op:Bool} {es all:List Ent} {pre:List LE} {J:List LE→(Nat→Prop)→World→Prop} {Jx:List LE→World→Prop} {C:Nat→Prop} {W:World} {e:Ending} {W':World} (h:WalkPost lo hi op es all pre J Jx C W e W'):∃ b,e=.returned (.bool b):=by
 rcases h with ⟨new,C',W0,h1 | h1,_⟩ | h
 ·exact ⟨_,h1⟩
 ·exact ⟨_,h1.1⟩
 exact ⟨_,h.1⟩
theorem walk_leaf {At:World→Prop} {F:Nat→Prop} {nv:Value} {es:List Ent} (hc:LeafC At nv es) (hagr:∀ W W',At W→Agree F W W'→W.heap.size≤W'.heap.size→At W') (hsm:∀ e∈es,e.1.size≤maxLen) {lo hi:ByteArray} {op:Bool} {all rest:List Ent} {pre:List LE}
  {l:Nat} {J:List LE→(Nat→Prop)→World→Prop} {Jx:List LE→World→Prop} (hT:Takes Tryz.prog l encE (ScanG all) J Jx) {C:Nat→Prop} {W0 W:World} (hJ:J pre C W0) (hx:Ext W0 W) (hw:At W) (hF:∀ b,F b→b<W.heap.size∧¬C b) (hall:all=pre.map LE.ent++(rangeE lo hi op es++rest)) :
  Calls Tryz.prog 242 #[nv,inV lo hi op,.func (.yield l) #[] #[]] W (WalkPost lo hi op es all pre J Jx C W):=by
 have hx1:Ext W (W.alloc (.cells #[.string lo,.string hi,.bool op] 276)):=(Ext.refl W).alloc _ _
 have hh:=hc.height _ (hc.ext hw hx1)
 have hwl:=walkLeaf_any hc hagr hsm hT hJ (hx.trans hx1) (hc.ext hw hx1) (fun b hb=>⟨Nat.lt_of_lt_of_le (hF b hb).1 hx1.size,(hF b hb).2⟩) hall
 obtain ⟨pp,rfl⟩:=hc.ptr
 have HWL:=Lib.hid hwl
 have HX1:=Lib.hid hx1
 clear hc hagr hsm hT hJ hx hw hF hall hwl hx1
 go_enter Tryz.func242,Tryz.ntmps242
 go_wp2_with fail
 refine hh.mono ?_
 rintro e w1 ⟨rfl,rfl⟩
 go_wp2_with fail
 refine HWL.out.mono ?_
 rintro e w2 hp
 obtain ⟨b,rfl⟩:=hp.bool
 have HP:=Lib.hid (hp.from HX1.out)
 clear hp
 go_wp2_with fail
 go_ret
 exact HP.out
structure NodeS (lo hi:ByteArray) (op:Bool) (F:Nat→Prop) (h:Nat) (t:PT (h+1)) (pre:List LE) (J:List LE→(Nat→Prop)→World→Prop) (C:Nat→Prop) (W w3:World) (g:Nat) (j:Nat) (new:List LE) (C':Nat→Prop) (Wj wr:World):Prop where
 j_:J (pre++new) C' Wj
 ext:Ext Wj wr
 new_:new.map LE.ent=rangeE lo hi op ((t.2.take j).flatMap (ents h))
 st:St C W wr
 sub:∀ b,C' b→C b∨w3.heap.size≤b
 big:w3.heap.size≤wr.heap.size
 box:Blk wr W.heap.size 276 #[.string lo,.string hi,.bool op]
 rows:∀ o,wr.cell? ⟨g,o,none⟩=w3.cell? ⟨g,o,none⟩
 at_:NodeAt F (h+1) t wr
theorem walk_succ {F:Nat→Prop} {lo hi:ByteArray} {op:Bool} {all:List Ent} {l:Nat} {J:List LE→(Nat→Prop)→World→Prop} {Jx:List LE→World→Prop} (hT:Takes Tryz.prog l encE (ScanG all) J Jx) {h:Nat}
  (ih:∀ (t:PT h) (pre:List LE) (rest:List Ent) (C:Nat→Prop) (W0 W:World),J pre C W0→Ext W0 W→NodeAt F h t W→(∀ b,F b→¬C b)→OkT h t→Sorted (ents h t)→(ents h t).length≤1000000→all=pre.map LE.ent++(rangeE lo hi op (ents h t)++rest)→
    Calls Tryz.prog 242 #[ptr h t,inV lo hi op,.func (.yield l) #[] #[]] W (WalkPost lo hi op (ents h t) all pre J Jx C W))
  {t:PT (h+1)} {pre:List LE} {rest:List Ent} {C:Nat→Prop} {W0 W:World} (hJ:J pre C W0) (hx:Ext W0 W) (hn:NodeAt F (h+1) t W) (hF:∀ b,F b→¬C b) (ok:OkT (h+1) t) (hs:Sorted (ents (h+1) t)) (hl:(ents (h+1) t).length≤1000000) (hall:all=pre.map LE.ent++(rangeE lo hi op (ents (h+1) t)++rest)) :
  Calls Tryz.prog 242 #[ptr (h+1) t,inV lo hi op,.func (.yield l) #[] #[]] W (WalkPost lo hi op (ents (h+1) t) all pre J Jx C W):=by
 have hlen8:=ok.2.1
 have hlen2:=ok.1
 have hCl:=hT.lt pre C W0 hJ
 have hx1:Ext W (W.alloc (.cells #[.string lo,.string hi,.bool op] 276)):=(Ext.refl W).alloc _ _
 have hb1:=Blk.new W 276 #[.string lo,.string hi,.bool op]
 have hh:=height_any (hn.ext hx1).1
 have hkc:=kids_any (hn.ext hx1).1 (by omega)
 have hhm:h+1<1000000:=Nat.lt_of_lt_of_le (height_lt (h+1) t ok (by show 1≤t.2.length;omega)) hl
 have hne:(((h+1:Nat):Int) == 0)=false:=beq_eq_false_iff_ne.2 (by omega)
 have hne':((h:Int)+1 == 0)=false:=beq_eq_false_iff_ne.2 (by omega)
 have HT:=Lib.hid hT
 have HIH:=Lib.hid ih
 have HJ:=Lib.hid hJ
 have HX:=Lib.hid hx
 have HN:=Lib.hid hn
 have HF:=Lib.hid hF
 have HOK:=Lib.hid ok
 have HS:=Lib.hid hs
 have HL:=Lib.hid hl
 have HALL:=Lib.hid hall
 have HX1:=Lib.hid hx1
 have HB1:=Lib.hid hb1
 have HCL:=Lib.hid hCl
 clear hT ih hJ hx hn hF ok hs hl hall hx1 hb1 hCl
 refine (callsIn_wide (n:=5)).1 ?_
 refine callsIn_of_wp Tryz.func242 rfl trivial ?_ rfl
 simp only [Tryz.ntmps242,List.size_toArray,List.length_cons,List.length_nil,Nat.reduceAdd,Nat.reduceSub,Array.replicate_succ,Array.replicate_zero,List.push_toArray,List.append_toArray,List.nil_append,List.cons_append]
 gi_wp2_with fail
 refine ⟨trivial,?_⟩
 refine (callsIn_wide.2 hh).mono ?_
 rintro e w1 ⟨rfl,rfl⟩
 gi_wp2_with fail
 refine ⟨trivial,?_⟩
 refine (callsIn_wide.2 hkc).mono ?_
 rintro e w3 ⟨sk,rfl,hown,hx3⟩
 have hrd:Rd w3 (Lt w3.heap.size) 1 sk t.2.length (ptrs h t.2):=(Rd.of_own hown).mono fun i hi=>hi.2
 obtain ⟨g,cap,rfl,hbg,hnc,hcm,hfil⟩:=own_block hown (by omega)
 have hgl:=hfil.lt
 have hWg:W.heap.size<g:=by simp at hbg;omega
 have HRD:=Lib.hid hrd
 have HX3:=Lib.hid (HX1.out.trans hx3)
 have HB3:=Lib.hid (HB1.out.ext hx3)
 have hs3:=HX3.out.size
 have hs0:=HX.out.size
 clear hown hrd hx3 hfil hkc hh HB1 HX1
 gi_wp2_with fail
 gi_loopw [19] (fun v wr=>∃ (j:Nat) (new:List LE) (C':Nat→Prop) (Wj:World),v=.int .i64 j∧j≤t.2.length∧NodeS lo hi op F h t pre J C W w3 g j new C' Wj wr) (fun v _=>t.2.length - (intOf v).toNat)
 case atStart=>exact ⟨0,[],C,W0,rfl,Nat.zero_le _,⟨by rw [List.append_nil];exact HJ.out,HX.out.trans HX3.out,rfl,HX3.out.st _,fun b hb=>.inl hb,Nat.le_refl _,HB3.out,fun _=>rfl,HN.out.ext HX3.out⟩⟩
 obtain ⟨j,new,C',Wj,rfl,hj,hS⟩:=hrel
 have HSN:=Lib.hid hS
 clear hS
 by_cases hlt:j<t.2.length
 ·obtain ⟨kid,hkid⟩:∃ kid,t.2[j]? = some kid:=⟨_,List.getElem?_eq_getElem hlt⟩
  obtain ⟨b,o',hba,-,-,-,hbc⟩:=HRD.out.ptr_at hkid
  obtain ⟨rfl,rfl⟩:g=b∧0=o':=by simpa using hba
  have kc:wr.cell? ⟨g,j,none⟩=some (ptr h kid):=by rw [HSN.out.rows];simpa using hbc
  have hjl:(j:Int)<(t.2.length:Int):=by omega
  have hkm:=List.mem_of_getElem? hkid
  have hkn:NodeAt F h kid wr:=⟨HSN.out.at_.1.2.choose_spec.2.2 kid hkm,HSN.out.at_.2⟩
  have hks:Sorted (ents h kid):=kid_sorted HS.out kid hkm
  have hmid:=take_mid hkid
  have hent:ents (h+1) t=(t.2.take j).flatMap (ents h)++(ents h kid++(t.2.drop (j+1)).flatMap (ents h)):=by
   show t.2.flatMap (ents h)=_
   conv=>lhs;rw [hmid]
   simp only [List.flatMap_append,List.flatMap_cons]
  have hlk:(ents h kid).length≤1000000:=by have:=HL.out;rw [hent] at this;simp only [List.length_append] at this;omega
  have hsnoc:(t.2.take (j+1)).flatMap (ents h)=(t.2.take j).flatMap (ents h)++ents h kid:=by rw [List.take_add_one,hkid];simp
  have HLAST:=Lib.hid (fun W1 (hW:Ext wr W1)=>last_any (hkn.ext hW).1)
  have HFIRST:=Lib.hid (fun W1 (hW:Ext wr W1)=>first_any (hkn.ext hW).1)
  have hbox:=HSN.out.box
  have HSS:=Lib.hid (show ∀ W1,Ext wr W1→W1.cell? ⟨W.heap.size,0,none⟩=some (.string lo)∧W1.cell? ⟨W.heap.size,1,none⟩=some (.string hi)∧W1.cell? ⟨W.heap.size,2,none⟩=some (.bool op) from fun W1 hW=>⟨(hbox.ext hW).cell 0,(hbox.ext hW).cell 1,(hbox.ext hW).cell 2⟩)
  have HKN:=Lib.hid hkn
  have HKS:=Lib.hid hks
  have HENT:=Lib.hid hent
  have HSNOC:=Lib.hid hsnoc
  clear hkid hba hbc hkn hks hmid hent hsnoc hbox
  cases hlb:klt (lastK (ents h kid)) lo with
  | true=>
    have hb1:Op.bytesLess (lastK (ents h kid)).toList lo.toList=true:=hlb
    gi_wp2_with fail
    refine wpIn_wide.2 ?_
    refine wp_region_held_drew (S:=(fun w'=>Ext wr w')) (by kernel_rfl) (((Ext.refl wr).drew)) (fun hHeld=>?_)
    refine heldT 0 (some 24) HSS hHeld ?_
    refine heldT 2 (some 26) HSS hHeld ?_
    refine heldT 3 (some 27) HSS hHeld ?_
    refine held_call (i:=1) (by kernel_rfl) rfl (by rfl) (fun K hK=>?_)
    go_simp
    (refine (HLAST.out _ hHeld).mono ?_;rintro e w5 ⟨rfl,rfl⟩)
    refine hK.out _ _ (hHeld) (fun hHeld=>?_)
    clear hK K
    try simp only [Act.put,List.setIfInBounds_toArray,List.set_cons_zero,List.set_cons_succ]
    refine heldT 4 (some 28) HSS hHeld ?_
    refine heldT 5 (some 23) HSS hHeld ?_
    refine wpAnyH_done (by kernel_rfl) ?_ _
    have HX5:=Lib.hid hHeld
    clear hHeld
    have HS6:=Lib.hid (show NodeS lo hi op F h t pre J C W w3 g (j+1) new C' Wj wr.drew from
     ⟨HSN.out.j_,HSN.out.ext.trans HX5.out,by rw [HSN.out.new_,HSNOC.out,rangeE_app,rangeE_below (lt_of_last HKS.out hlb),List.append_nil],HSN.out.st.ext HX5.out,HSN.out.sub,by have:=HX5.out.size;have:=HSN.out.big;omega,HSN.out.box.ext HX5.out,fun o=>(HX5.out.cell (by have:=HSN.out.big;omega)).trans (HSN.out.rows o),HSN.out.at_.ext HX5.out⟩)
    generalize wr.drew=w6 at *
    gi_wp2_with fail
    go_roundw
    case rel=>exact ⟨j+1,new,C',Wj,by go_num,hlt,HS6.out⟩
    simp [intOf];omega
  | false=>
    have hb1:Op.bytesLess (lastK (ents h kid)).toList lo.toList=false:=hlb
    gi_wp2_with fail
    refine wpIn_wide.2 ?_
    refine wp_region_held_drew (S:=(fun w'=>Ext wr w')) (by kernel_rfl) (((Ext.refl wr).drew)) (fun hHeld=>?_)
    refine heldT 0 (some 24) HSS hHeld ?_
    refine heldT 2 (some 26) HSS hHeld ?_
    refine heldT 3 (some 27) HSS hHeld ?_
    refine held_call (i:=1) (by kernel_rfl) rfl (by rfl) (fun K hK=>?_)
    go_simp
    (refine (HLAST.out _ hHeld).mono ?_;rintro e w5 ⟨rfl,rfl⟩)
    refine hK.out _ _ (hHeld) (fun hHeld=>?_)
    clear hK K
    try simp only [Act.put,List.setIfInBounds_toArray,List.set_cons_zero,List.set_cons_succ]
    refine heldT 4 (some 28) HSS hHeld ?_
    refine heldT 5 (some 23) HSS hHeld ?_
    refine wpAnyH_done (by kernel_rfl) ?_ _
    cases hend:endI hi op (firstK (ents h kid)) with
    | true=>
      have HEND:=Lib.hid (show ∀ W1,Calls Tryz.prog 255 #[inV lo hi op,.string (firstK (ents h kid))] W1 fun e w'=>e=.returned (.bool true)∧Ext W1 w' from fun W1=>by have:=ends_any W1 lo hi op (firstK (ents h kid));rwa [hend] at this)
      gi_wp2_with fail
      refine wpIn_wide.2 ?_
      refine wp_region_held_drew (S:=(fun w'=>Ext wr w')) (by kernel_rfl) ((hHeld.drew)) (fun hHeld=>?_)
      refine heldT 0 (some 30) HSS hHeld ?_
      refine heldT 1 (some 31) HSS hHeld ?_
      refine held_call (i:=2) (by kernel_rfl) rfl (by rfl) (fun K hK=>?_)
      go_simp
      (refine (HFIRST.out _ hHeld).mono ?_;rintro e w6 ⟨rfl,rfl⟩)
      refine hK.out _ _ (hHeld) (fun hHeld=>?_)
      clear hK K
      try simp only [Act.put,List.setIfInBounds_toArray,List.set_cons_zero,List.set_cons_succ]
      refine held_call (i:=3) (by kernel_rfl) rfl (by rfl) (fun K hK=>?_)
      go_simp
      (refine (HEND.out _).mono ?_;rintro e w7 ⟨rfl,hx7⟩)
      refine hK.out _ _ (hHeld.trans hx7) (fun hHeld=>?_)
      clear hK K
      try simp only [Act.put,List.setIfInBounds_toArray,List.set_cons_zero,List.set_cons_succ]
      refine heldT 4 (some 29) HSS hHeld ?_
      refine wpAnyH_done (by kernel_rfl) ?_ _
      have HX7:=Lib.hid hHeld
      clear hHeld hx7
      gi_wp2_with fail
      go_ret
      have hne0:=kid_ne HOK.out hkm
      obtain ⟨x,hxm⟩:=List.exists_mem_of_ne_nil _ hne0
      have hxe:=end_of_first HKS.out hend x hxm
      refine .inl ⟨new,C',Wj,.inr ⟨rfl,x,by rw [HENT.out];simp [hxm],hxe⟩,HSN.out.j_,HSN.out.ext.trans HX7.out,?_,HSN.out.st.ext HX7.out,fun b hb=>(HSN.out.sub b hb).imp_right fun h=>by omega⟩
      have hsd:=HS.out
      rw [HENT.out] at hsd
      rw [HSN.out.new_,HENT.out,rangeE_app,rangeE_app,rangeE_above (end_of_first HKS.out hend),rangeE_behind (A:=ents h kid) (sorted_app hsd).2.1 ⟨x,hxm,hxe⟩,List.append_nil,List.append_nil]
    | false=>
      have HEND:=Lib.hid (show ∀ W1,Calls Tryz.prog 255 #[inV lo hi op,.string (firstK (ents h kid))] W1 fun e w'=>e=.returned (.bool false)∧Ext W1 w' from fun W1=>by have:=ends_any W1 lo hi op (firstK (ents h kid));rwa [hend] at this)
      gi_wp2_with fail
      refine wpIn_wide.2 ?_
      refine wp_region_held_drew (S:=(fun w'=>Ext wr w')) (by kernel_rfl) ((hHeld.drew)) (fun hHeld=>?_)
      refine heldT 0 (some 30) HSS hHeld ?_
      refine heldT 1 (some 31) HSS hHeld ?_
      refine held_call (i:=2) (by kernel_rfl) rfl (by rfl) (fun K hK=>?_)
      go_simp
      (refine (HFIRST.out _ hHeld).mono ?_;rintro e w6 ⟨rfl,rfl⟩)
      refine hK.out _ _ (hHeld) (fun hHeld=>?_)
      clear hK K
      try simp only [Act.put,List.setIfInBounds_toArray,List.set_cons_zero,List.set_cons_succ]
      refine held_call (i:=3) (by kernel_rfl) rfl (by rfl) (fun K hK=>?_)
      go_simp
      (refine (HEND.out _).mono ?_;rintro e w7 ⟨rfl,hx7⟩)
      refine hK.out _ _ (hHeld.trans hx7) (fun hHeld=>?_)
      clear hK K
      try simp only [Act.put,List.setIfInBounds_toArray,List.set_cons_zero,List.set_cons_succ]
      refine heldT 4 (some 29) HSS hHeld ?_
      refine wpAnyH_done (by kernel_rfl) ?_ _
      have HX7:=Lib.hid hHeld
      obtain ⟨q0,q1,q2⟩:=HSS.out w7 hHeld
      have hFC:∀ b,F b→¬C' b:=fun b hb h=>by
       rcases HSN.out.sub b h with h | h
       ·exact HF.out b hb h
       have:=(HN.out.2 b hb);omega
      have hic:=HIH.out kid (pre++new) (rangeE lo hi op ((t.2.drop (j+1)).flatMap (ents h))++rest) C' Wj w7 HSN.out.j_ (HSN.out.ext.trans HX7.out) (HKN.out.ext HX7.out) hFC (HOK.out.2.2 kid hkm).1 HKS.out hlk (by
       rw [HALL.out,HENT.out,List.map_append,HSN.out.new_,rangeE_app,rangeE_app]
       simp only [List.append_assoc])
      have HIC:=Lib.hid hic
      have hs7:=HX7.out.size
      clear hHeld hx7 hFC hic
      gi_wp2_with fail
      refine ⟨trivial,?_⟩
      refine (callsIn_wide.2 HIC.out).mono ?_
      rintro e w8 (⟨new',C8,W8,hb8,hj8,hx8,hn8,hst8,hsub8⟩ | ⟨rfl,hst8,pre',W8,hj8,hx8,hp8⟩)
      ·have hst:St C W w8:=(HSN.out.st.ext HX7.out).then hst8 fun b hb h=>by
        rcases HSN.out.sub b h with h | h
        ·exact h
        omega
       have hsub:∀ b,C8 b→C b∨w3.heap.size≤b:=fun b hb=>by
        rcases hsub8 b hb with h | h
        ·exact HSN.out.sub b h
        exact .inr (by have:=HSN.out.big;omega)
       have hj8':J (pre++(new++new')) C8 W8:=by rw [←List.append_assoc];exact hj8
       have hn8':(new++new').map LE.ent=rangeE lo hi op ((t.2.take (j+1)).flatMap (ents h)):=by rw [List.map_append,HSN.out.new_,hn8,HSNOC.out,rangeE_app]
       rcases hb8 with rfl | ⟨rfl,x,hxm,hxe⟩
       ·have hnC:∀ b,b<w3.heap.size→W.heap.size≤b→¬C' b:=fun b h1 h2 h=>by
         rcases HSN.out.sub b h with h | h
         ·have:=HCL.out b h;omega
         omega
        have HS8:=Lib.hid (show NodeS lo hi op F h t pre J C W w3 g (j+1) (new++new') C8 W8 w8 from
         ⟨hj8',hx8,hn8',hst,hsub,by have:=hst8.size;have:=HSN.out.big;omega,hst8.blk (HSN.out.box.ext HX7.out) (hnC _ (by omega) (Nat.le_refl _)),
           fun o=>(hst8.cell (by have:=HSN.out.big;omega) (hnC _ hgl (by omega))).trans ((HX7.out.cell (by have:=HSN.out.big;omega)).trans (HSN.out.rows o)),
           ⟨(HSN.out.at_.ext HX7.out).1.agree (hst8.agree.mono fun b hb=>⟨by have:=(HSN.out.at_.ext HX7.out).2 b hb;omega,fun h=>by
             rcases HSN.out.sub b h with h | h
             ·exact HF.out b hb h
             have:=(HN.out.2 b hb);omega⟩),fun b hb=>by have:=hst8.size;have:=HN.out.2 b hb;have:=HSN.out.big;omega⟩⟩)
        clear hst hsub hj8' hn8' hj8 hx8 hn8 hst8 hsub8 hnC
        gi_wp2_with fail
        go_roundw
        case rel=>exact ⟨j+1,_,C8,W8,by go_num,hlt,HS8.out⟩
        simp [intOf];omega
       clear hst8 hsub8 hn8 hj8
       gi_wp2_with fail
       go_ret
       refine .inl ⟨new++new',C8,W8,.inr ⟨rfl,x,by rw [HENT.out];simp [hxm],hxe⟩,hj8',hx8,?_,hst,fun b hb=>(hsub b hb).imp_right fun h=>by omega⟩
       have hsd:=HS.out
       rw [HENT.out] at hsd
       rw [hn8',HSNOC.out,HENT.out,rangeE_app,rangeE_app,rangeE_app,rangeE_behind (A:=ents h kid) (sorted_app hsd).2.1 ⟨x,hxm,hxe⟩,List.append_nil]
      gi_wp2_with fail
      go_ret
      exact .inr ⟨rfl,(HSN.out.st.ext HX7.out).then hst8 (fun b hb h=>by
       rcases HSN.out.sub b h with h | h
       ·exact h
       omega),pre',W8,hj8,hx8,hp8⟩
 obtain rfl:j=t.2.length:=by omega
 gi_wp2_with fail
 go_ret
 refine .inl ⟨new,C',Wj,.inl rfl,HSN.out.j_,HSN.out.ext,?_,HSN.out.st,fun b hb=>(HSN.out.sub b hb).imp_right fun h=>by omega⟩
 rw [HSN.out.new_,List.take_length];rfl
theorem walk_any {F:Nat→Prop} {lo hi:ByteArray} {op:Bool} {all:List Ent} {l:Nat} {J:List LE→(Nat→Prop)→World→Prop} {Jx:List LE→World→Prop} (hT:Takes Tryz.prog l encE (ScanG all) J Jx) :
  ∀ (h:Nat) (t:PT h) (pre:List LE) (rest:List Ent) (C:Nat→Prop) (W0 W:World),J pre C W0→Ext W0 W→NodeAt F h t W→(∀ b,F b→¬C b)→OkT h t→Sorted (ents h t)→(ents h t).length≤1000000→all=pre.map LE.ent++(rangeE lo hi op (ents h t)++rest)→
   Calls Tryz.prog 242 #[ptr h t,inV lo hi op,.func (.yield l) #[] #[]] W (WalkPost lo hi op (ents h t) all pre J Jx C W)
 | 0,t,pre,rest,C,W0,W,hJ,hx,hn,hF,ok,hs,_,hall=>
   walk_leaf (F:=F) (leafC_node ok hs) (fun W W' a ha hz=>⟨a.1.agree ha,fun b hb=>Nat.lt_of_lt_of_le (a.2 b hb) hz⟩) (keys_small hn.1) hT hJ hx hn (fun b hb=>⟨hn.2 b hb,hF b hb⟩) hall
 | h+1,t,pre,rest,C,W0,W,hJ,hx,hn,hF,ok,hs,hl,hall=>
   walk_succ hT (fun t pre rest C W0 W a b c d e f g i=>walk_any hT h t pre rest C W0 W a b c d e f g i) hJ hx hn hF ok hs hl hall
theorem walkR_any {F:Nat→Prop} {lo hi:ByteArray} {op:Bool} {l:Nat} {J:List LE→(Nat→Prop)→World→Prop} {Jx:List LE→World→Prop} {T:RT} (hT:Takes Tryz.prog l encE (ScanG (rangeE lo hi op (entsT T))) J Jx)
  {C:Nat→Prop} {W0 W:World} (hJ:J [] C W0) (hx:Ext W0 W) (hn:TreeAt F T W) (hF:∀ b,F b→¬C b) (ok:OkR T) (hl:(entsT T).length≤1000000) :
  Calls Tryz.prog 242 #[rootV T,inV lo hi op,.func (.yield l) #[] #[]] W (WalkPost lo hi op (entsT T) (rangeE lo hi op (entsT T)) [] J Jx C W):=by
 match T,hn,ok,hl with
 | none,_,_,_=>exact walk_leaf (F:=fun _=>False) (rest:=[]) leafC_nil (fun _ _ _ _ _=>trivial) (fun e he=>by cases he) hT hJ hx trivial (fun b hb=>hb.elim) (by simp [entsT])
 | some ⟨h,t⟩,hn,ok,hl=>exact walk_any hT h t [] [] C W0 W hJ hx hn hF ok.1 ok.2.2 hl (by simp [entsT])
end Go.Proofs.YtkhdiakpdafcdaaGreatDoor
namespace Go.Proofs.YtkhdiakpdafcdaaGreatDoor
open Go.RowKit Go.Shelf
set_option linter.unusedVariables false
set_option linter.unusedSimpArgs false
structure RangeB (w:World) (B:Nat) (T:RT) (lo hi:ByteArray) (op:Bool):Prop where
 bt:Blk w B 41 #[rootV T]
 bl:Blk w (B+1) 9 #[.string lo]
 bh:Blk w (B+2) 9 #[.string hi]
 bo:Blk w (B+3) 4 #[.bool op]
def RangeK (F:Nat→Prop) (B:Nat) (b:Nat):Prop:=F b∨(B≤b∧b<B+4)
abbrev rangeL (B:Nat):Array Value:=#[.pointer (some ⟨B,0,none⟩),.pointer (some ⟨B+1,0,none⟩),.pointer (some ⟨B+2,0,none⟩),.pointer (some ⟨B+3,0,none⟩)]
theorem RangeB.agree {w w':World} {B:Nat} {T:RT} {lo hi:ByteArray} {op:Bool} (h:RangeB w B T lo hi op) {F:Nat→Prop} (ha:Agree F w w') (hF:∀ b,B≤b→b<B+4→F b):RangeB w' B T lo hi op:=
 ⟨h.bt.agree ha (hF _ (by omega) (by omega)),h.bl.agree ha (hF _ (by omega) (by omega)),h.bh.agree ha (hF _ (by omega) (by omega)),h.bo.agree ha (hF _ (by omega) (by omega))⟩
theorem RangeB.lt {w:World} {B:Nat} {T:RT} {lo hi:ByteArray} {op:Bool} (h:RangeB w B T lo hi op):B+3<w.heap.size:=h.bo.lt
theorem WalkPost.st {lo hi:ByteArray} {op:Bool} {es all:List Ent} {pre:List LE} {J:List LE→(Nat→Prop)→World→Prop} {Jx:List LE→World→Prop} {C:Nat→Prop} {W:World} {e:Ending} {W':World} (h:WalkPost lo hi op es all pre J Jx C W e W'):St C W W':=by
 rcases h with ⟨_,_,_,_,_,_,_,h5,_⟩ | ⟨_,h5,_⟩ <;> exact h5
theorem range_seq {w0:World} {F:Nat→Prop} {T:RT} {B:Nat} {lo hi:ByteArray} {op:Bool} (hT:TreeAt F T w0) (ok:OkR T) (hl:(entsT T).length≤1000000) (hB:RangeB w0 B T lo hi op) :
  SeqC Tryz.prog 241 (rangeL B) encE (RangeK F B) (ScanG (rangeE lo hi op (entsT T))) (fun xs=>xs.map LE.ent=rangeE lo hi op (entsT T)) (fun pre=>pre.map LE.ent <+: rangeE lo hi op (entsT T)) w0:=by
 intro l J Jx C W hTk hA hsz hCK hJ
 have hBW:RangeB W B T lo hi op:=hB.agree hA fun b h1 h2=>.inr ⟨h1,h2⟩
 have hTW:TreeAt F T W:=⟨hT.1.agree (hA.mono fun b hb=>.inl hb),fun b hb=>Nat.lt_of_lt_of_le (hT.2 b hb) hsz⟩
 have hwk:=fun W1 (hW:Ext W W1)=>walkR_any hTk hJ hW (hTW.ext hW) (fun b hb h=>hCK b h (.inl hb)) ok hl
 have hCl:=hTk.lt [] C W hJ
 obtain ⟨p,hp⟩:=rootV_ptr T
 rw [hp] at hwk
 have hbt:=hBW.bt
 rw [hp] at hbt
 have HSS:=Lib.hid (show ∀ W1,St C W W1→W1.cell? ⟨B,0,none⟩=some (.pointer p)∧W1.cell? ⟨B+1,0,none⟩=some (.string lo)∧W1.cell? ⟨B+2,0,none⟩=some (.string hi)∧W1.cell? ⟨B+3,0,none⟩=some (.bool op) from fun W1 hW=>
  ⟨(hW.blk hbt fun h=>hCK _ h (.inr ⟨by omega,by omega⟩)).cell 0,(hW.blk hBW.bl fun h=>hCK _ h (.inr ⟨by omega,by omega⟩)).cell 0,(hW.blk hBW.bh fun h=>hCK _ h (.inr ⟨by omega,by omega⟩)).cell 0,(hW.blk hBW.bo fun h=>hCK _ h (.inr ⟨by omega,by omega⟩)).cell 0⟩)
 have HWK:=Lib.hid hwk
 clear hTk hA hsz hCK hJ hBW hTW hwk hp hT ok hl hB hbt hCl
 show Calls _ _ #[.func (.yield l) #[] #[],.pointer (some ⟨B,0,none⟩),.pointer (some ⟨B+1,0,none⟩),.pointer (some ⟨B+2,0,none⟩),.pointer (some ⟨B+3,0,none⟩)] W _
 go_enter Tryz.func241,Tryz.ntmps241
 go_wp2_with fail
 refine wp_region_held_drew (S:=(fun w'=>St C W w')) (by kernel_rfl) (((St.refl C W).drew)) (fun hHeld=>?_)
 refine heldT 0 (some 6) HSS hHeld ?_
 refine heldT 2 (some 8) HSS hHeld ?_
 refine heldT 3 (some 9) HSS hHeld ?_
 refine heldT 4 (some 10) HSS hHeld ?_
 refine heldT 5 (some 11) HSS hHeld ?_
 refine heldT 6 (some 12) HSS hHeld ?_
 refine held_call (i:=1) (by kernel_rfl) rfl (by rfl) (fun K hK=>?_)
 go_simp
 (refine (treeRoot_any _ _).mono ?_;rintro e w1 ⟨rfl,hx1⟩;replace hx1:=((Ext.refl W).drew).trans hx1;have HX1:=Lib.hid hx1)
 refine hK.out _ _ (hx1.st C) (fun hHeld=>?_)
 clear hK K
 try simp only [Act.put,List.setIfInBounds_toArray,List.set_cons_zero,List.set_cons_succ]
 refine held_call (i:=7) (by kernel_rfl) rfl (by rfl) (fun K hK=>?_)
 go_simp
 (refine (HWK.out _ HX1.out).mono ?_;intro e w2 hp2;obtain ⟨b2,rfl⟩:=hp2.bool;have HP2:=Lib.hid (hp2.from HX1.out);clear hp2)
 refine hK.out _ _ (HP2.out.st) (fun hHeld=>?_)
 clear hK K
 try simp only [Act.put,List.setIfInBounds_toArray,List.set_cons_zero,List.set_cons_succ]
 refine wpAnyH_done (by kernel_rfl) ?_ _
 go_wp2_with fail
 go_end0
 refine ⟨⟨_,rfl⟩,?_⟩
 rcases HP2.out with ⟨new,C',W0,-,h2,h3,h4,-,-⟩ | ⟨-,-,pre',W0,h2,h3,h4⟩
 ·exact .inl ⟨new,C',W0,h4,h2,h3⟩
 exact .inr ⟨pre',W0,h4,h2,h3⟩
def RangePost (T:RT) (lo hi:ByteArray) (op:Bool) (w:World) (e:Ending) (w':World):Prop:=
 ∃ B,e=.returned (.func (.func 241) #[] (rangeL B))∧Ext w w'∧RangeB w' B T lo hi op∧w.heap.size≤B
theorem range_any (w:World) (T:RT) (lo hi:ByteArray) (op:Bool):Calls Tryz.prog 213 #[treeV T,.string lo,.string hi,.bool op] w (RangePost T lo hi op w):=by
 obtain ⟨p,hp⟩:=rootV_ptr T
 rw [treeV,hp]
 go_enter Tryz.func213,Tryz.ntmps213
 go_wp2_with fail
 go_ret
 obtain ⟨hx,-,b0,b1,b2,b3⟩:=four_blocks w 41 9 9 4 #[.pointer p] #[.string lo] #[.string hi] #[.bool op] _ rfl
 exact ⟨w.heap.size,rfl,hx,⟨by rw [hp];exact b0,b1,b2,b3⟩,Nat.le_refl _⟩
end Go.Proofs.YtkhdiakpdafcdaaGreatDoor
