/- What the theorem needs of the texts Prefix12, Same12, Known12, Puts12, J12, J12b, Do12, Do12d, Do12b, Bel12, Com12: no condition of its own. -/
import Derived.Laws.IdiomStrings
import Derived.WalkArith
import Derived.OrdersIn
import Derived.Test.YtechahocffcbpaaGreatDoorPwa
import Derived.Test.YtechahocffcbpaaGreatDoorPwb
import Derived.Test.YtechahocffcbpaaGreatDoorPwc
import Derived.Test.YtechahocffcbpaaGreatDoorPwd
import Derived.Test.YtechahocffcbpaaGreatDoorPwe
import Derived.Test.YtechahocffcbpaaGreatDoorPwf
import Derived.Test.YtechahocffcbpaaGreatDoorPwg
import Derived.Test.YtechahocffcbpaaGreatDoorPwh
import Derived.Test.YtechahocffcbpaaGreatDoorPwi
import Derived.Test.YtechahocffcbpaaGreatDoorPwj
import Derived.Test.YtechahocffcbpaaGreatDoorPwk
import Derived.Test.YtechahocffcbpaaGreatDoorPwl
set_option maxRecDepth 100000
set_option maxHeartbeats 4000000
namespace Go.Proofs.YtechahocffcbpaaGreatDoor
open Go.RowKit Go.Maps Go.Shelf
set_option linter.unusedVariables false
set_option linter.unusedSimpArgs false
theorem begins12_any (w:World) (k p:ByteArray) (hk:k.size≤maxLen) (hp:p.size≤maxLen):Calls Tryz.prog 54 #[.string k,.string p] w fun e w'=>e=.returned (.bool (p.toList.isPrefixOf k.toList))∧w=w':=by
 unfold maxLen at hk hp
 have lk:=size_toList k
 have lp:=size_toList p
 by_cases h:p.size≤k.size
 ·have g1:(p.size:Int)≤(k.size:Int):=by omega
  have g2:min p.size k.size=p.size:=by omega
  have hex:(k.extract 0 p.size).toList=k.toList.take p.size:=extract_toList k p.size
  have he:((k.extract 0 p.size).toList == p.toList)=p.toList.isPrefixOf k.toList:=by
   rw [hex]
   cases hpre:p.toList.isPrefixOf k.toList with
   | true=>
     have:=List.prefix_iff_eq_take.1 (List.isPrefixOf_iff_prefix.1 hpre)
     rw [←lp,←this];simp
   | false=>
     rw [beq_eq_false_iff_ne]
     intro e
     have:p.toList <+: k.toList:=by rw [←e];exact List.take_prefix _ _
     rw [List.isPrefixOf_iff_prefix.2 this] at hpre;cases hpre
  have HE:=Lib.hid he
  clear he hex lk lp
  go_enter Tryz.func54,Tryz.ntmps54
  go_wp2_with fail
  go_ret
  exact ⟨by rw [←HE.out];rfl,rfl⟩
 have g1:¬(p.size:Int)≤(k.size:Int):=by omega
 have g1':decide ((p.size:Int)≤(k.size:Int))=false:=decide_eq_false g1
 have hn:p.toList.isPrefixOf k.toList=false:=by
  cases hpre:p.toList.isPrefixOf k.toList with
  | true=>have:=(List.isPrefixOf_iff_prefix.1 hpre).length_le;omega
  | false=>rfl
 rw [hn]
 clear lk lp hn
 go_enter Tryz.func54,Tryz.ntmps54
 go_wp2_with fail
 go_ret
 exact ⟨rfl,rfl⟩
theorem keysE_snoc {P:ByteArray→Bool} {es:List Ent} {j:Nat} {e:Ent} (h:es[j]? = some e):keysE P (es.take (j+1))=keysE P (es.take j)++(if P e.1 then [e.1] else []):=by
 unfold keysE
 rw [List.take_add_one,h,Option.toList_some,List.filter_append,List.map_append]
 cases hp:P e.1 <;> simp [hp]
theorem keysE_len (P:ByteArray→Bool) (es:List Ent):(keysE P es).length≤es.length:=by
 unfold keysE
 rw [List.length_map]
 exact List.length_filter_le _ _
def Pre12 (es:List Ent) (p:ByteArray) (w:World) (e:Ending) (w':World):Prop:=
 ∃ s:Sl,e=.returned (.slice s.a (keysE (beginsO p) es).length s.c)∧Rd w' (Lt w'.heap.size) 1 s (keysE (beginsO p) es).length ((keysE (beginsO p) es).map .string)∧Ext w w'
theorem prefix12_any {H:Nat→Prop} {w:World} {base R M:Nat} {s:Sl} {es:List Ent} {ms:List Nat} {hs:List (List Ent)} (h:R12 H w base R M s es ms hs) (hc:es.length≤1000000) (p:ByteArray) (hp:p.size≤maxLen) :
  Calls Tryz.prog 29 #[.pointer (some ⟨R,0,none⟩),.string p] w (Pre12 es p w):=by
 obtain ⟨i0,hi,hz0,hz1,hz2⟩:=info_parts Tryz.infoStringO
 obtain ⟨-,sm,xs,hbM,hxs,hxe⟩:=h.cur
 have hbR:=h.blk
 have hxl:xs.length=es.length:=by rw [←hxe,List.length_map]
 have HBR:=Lib.hid hbR
 have HBM:=Lib.hid hbM
 have HXS:=Lib.hid hxs
 have HXE:=Lib.hid hxe
 have hfew:xs.length≤1000000:=by omega
 clear hbR hbM hxs hxe hxl h
 go_enter Tryz.func29,Tryz.ntmps29
 go_wp2_with fail
 go_loopw [5,6] (fun v i wr=>∃ (j:Nat) (so:Sl) (ks:List ByteArray),v=.slice so.a ks.length so.c∧i=.int .i64 (j:Int)∧j≤xs.length∧ks.length≤j∧Hid (ks=keysE (beginsO p) (es.take j))∧Hid (wr.ownsRow w.heap.size 9 1 (.slice so.a ks.length so.c) ks.length (ks.map .string))∧Hid (Ext w wr)) (fun _ i _=>xs.length - (intOf i).toNat)
 case atStart=>exact ⟨0,Sl.none,[],rfl,rfl,Nat.zero_le _,Nat.zero_le _,Lib.hid rfl,Lib.hid (World.ownsRow_nil _ _ _ _),Lib.hid (Ext.refl _)⟩
 obtain ⟨j,so,ks,rfl,rfl,hj,hkj,HK,HO,HX⟩:=hrel
 have r0:wr.cell? ⟨R,0,none⟩=some (ptr12 M):=(HBR.out.ext HX.out).cell 0
 have lr:=(HBR.out.ext HX.out).lt
 have m0:wr.cell? ⟨M,0,none⟩=some (.slice sm.a xs.length sm.c):=(HBM.out.ext HX.out).cell 0
 have lm:=(HBM.out.ext HX.out).lt
 by_cases hlt:j<xs.length
 ·have g1:(j:Int)<(xs.length:Int):=by omega
  have g1':decide ((j:Int)<(xs.length:Int))=true:=decide_eq_true g1
  obtain ⟨x,hxj⟩:∃ x,xs[j]? = some x:=⟨_,List.getElem?_eq_getElem hlt⟩
  obtain ⟨b,o,ha,hbl,hlc,hcm,k0,hv,hrv,hks⟩:=((HXS.out.mono (G:=Lt w.heap.size) fun i hi=>hi.1).ext HX.out).at hxj
  obtain ⟨sa,sc⟩:=sm
  dsimp only at ha hlc hcm
  subst ha
  have hbl:b<wr.heap.size:=hbl
  have hxe:es[j]? = some x.ent:=by rw [←HXE.out,List.getElem?_map,hxj];rfl
  have hsn:keysE (beginsO p) (es.take (j+1))=keysE (beginsO p) (es.take j)++(if beginsO p x.k then [x.k] else []):=keysE_snoc (P:=beginsO p) hxe
  have hb8:Calls Tryz.prog 54 #[.string x.k,.string p] wr fun e w'=>e=.returned (.bool (beginsO p x.k))∧wr=w':=begins12_any wr x.k p hks hp
  clear hxj hv hrv hxe
  cases hpb:beginsO p x.k with
  | true=>
    rw [hpb] at hb8 hsn
    rw [if_pos rfl,←HK.out] at hsn
    have HB8:=Lib.hid hb8
    have HSN:=Lib.hid hsn
    have hxa:Ext wr (wr.alloc (.cells #[.string x.k] 9)):=(Ext.refl wr).alloc _ _
    have HSRC:=Lib.hid (Rd.block (size:=1) (n:=1) (cs:=[.string x.k]) (Blk.new wr 9 #[.string x.k]) (by decide) rfl)
    have HOX:=Lib.hid (own_agree HO.out (hxa.agree fun b (h:b<wr.heap.size)=>h) fun b hb=>(own_row HO.out hb).2)
    have hone:∀ u∈[Value.string x.k],u.oneCell'=true:=by simp [Value.oneCell']
    have h63:ks.length+1≤maxLen:=by unfold maxLen;omega
    have hby:(ks.length+1)*16≤140737488355328:=by omega
    have hbase:w.heap.size≤(wr.alloc (.cells #[.string x.k] 9)).heap.size:=by rw [World.size_alloc];have:=HX.out.size;omega
    have HXA:=Lib.hid (HX.out.trans hxa)
    clear hb8 hsn hxa hks
    go_wp2_with fail
    refine HB8.out.mono ?_
    rintro e w2 ⟨rfl,rfl⟩
    go_wp2_with (at_builtin;refine wpList_append_x _ rfl (.tmp 32) (.tmp 44) 59 rfl w.heap.size 9 i0 _ 1 16 Tryz.underlying59 hi hz0 hz1 hz2 rfl (by decide) so ks.length (ks.map .string) rfl HOX.out (fun b=>b=wr.heap.size) ⟨some ⟨wr.heap.size,0,none⟩,1⟩ 1 [.string x.k] rfl HSRC.out hone h63 hby hbase ?_;intro s' w6 hown6 hwr6 hs6;have HO6:=Lib.hid hown6;have HW6:=Lib.hid hwr6;clear hown6 hwr6 hs6)
    go_roundw
    case rel=>
     refine ⟨j+1,s',ks++[x.k],by rw [List.length_append];rfl,by go_num,hlt,by rw [List.length_append];show ks.length+1≤_;omega,Lib.hid HSN.out.symm,Lib.hid ?_,Lib.hid (HXA.out.wr HW6.out fun i hi=>(own_row HO.out hi).1)⟩
     rw [List.length_append,List.map_append];exact HO6.out
    simp [intOf];omega
  | false=>
    rw [hpb] at hb8 hsn
    rw [if_neg (by decide),←HK.out,List.append_nil] at hsn
    have HB8:=Lib.hid hb8
    have HSN:=Lib.hid hsn
    clear hb8 hsn hks
    go_wp2_with fail
    refine HB8.out.mono ?_
    rintro e w2 ⟨rfl,rfl⟩
    go_wp2_with fail
    go_roundw
    case rel=>exact ⟨j+1,so,ks,rfl,by go_num,hlt,Nat.le_succ_of_le hkj,Lib.hid HSN.out.symm,HO,HX⟩
    simp [intOf];omega
 obtain rfl:j=xs.length:=by omega
 have g1:decide ((xs.length:Int)<(xs.length:Int))=false:=decide_eq_false (by omega)
 have hks:=HK.out
 rw [show xs.length=es.length by rw [←HXE.out,List.length_map],List.take_length] at hks
 have HKS:=Lib.hid hks
 clear hks
 go_wp2_with fail
 go_ret
 exact ⟨so,by rw [←HKS.out];rfl,by rw [←HKS.out];exact (Rd.of_own HO.out).mono fun i hi=>hi.2,HX.out⟩
theorem num12_any (w:World) (n:Int):Calls Tryz.prog 9 #[.int .i64 n] w fun e w'=>e=.returned (numA n)∧Ext w w':=by
 go_enter Tryz.func9,Tryz.ntmps9
 go_wp2_with fail
 refine bodyPost_ret (v:=numA n) (by simp [results,Tryz.results9,go_sem];rfl) rfl ?_
 exact ⟨rfl,(Ext.refl w).alloc _ _⟩
theorem same12_refl {w:World} {F F':Nat→Prop} {s s':Sl} {xs:List ByteArray} (h:Rd w F 1 s xs.length (xs.map .string)) (hF:∀ b,F b→b<w.heap.size) (h':Rd w F' 1 s' xs.length (xs.map .string)) (hF':∀ b,F' b→b<w.heap.size) (hn:xs.length≤1000000000) :
  Calls Tryz.prog 28 #[.slice s.a xs.length s.c,.slice s'.a xs.length s'.c] w fun e w'=>e=.returned (.bool true)∧Ext w w':=by
 obtain ⟨b,o,h1,-,h3⟩:=h
 obtain ⟨b',o',h1',-,h3'⟩:=h'
 have H1:=Lib.hid h1
 have H1':=Lib.hid h1'
 have H3:=Lib.hid h3
 have H3':=Lib.hid h3'
 have HF:=Lib.hid hF
 have HF':=Lib.hid hF'
 have hne:(((xs.length:Int)) != ((xs.length:Int)))=false:=by simp
 clear h1 h1' h3 h3' hF hF'
 go_enter Tryz.func28,Tryz.ntmps28
 go_wp2_with fail
 go_loopw [5] (fun q wr=>∃ j:Nat,q=.int .i64 j∧j≤xs.length∧Ext w wr) (fun q _=>xs.length - (intOf q).toNat)
 case atStart=>exact ⟨0,rfl,Nat.zero_le _,Ext.refl w⟩
 obtain ⟨j,rfl,hjl,hx⟩:=hrel
 by_cases hlt:j<xs.length
 ·have g1:(j:Int)<(xs.length:Int):=by omega
  obtain ⟨x,hxx⟩:∃ x,xs[j]? = some x:=⟨_,List.getElem?_eq_getElem hlt⟩
  obtain ⟨e1,hc,hcm⟩:=H1.out.eq (by omega)
  obtain ⟨e1',hc',hcm'⟩:=H1'.out.eq (by omega)
  have lg:=HF.out b (H1.out.fits (by omega))
  have lg':=HF'.out b' (H1'.out.fits (by omega))
  obtain ⟨sa,sc⟩:=s
  obtain ⟨sa',sc'⟩:=s'
  dsimp only at e1 e1' hc hc' hcm hcm'
  subst e1 e1'
  have c0:wr.cell? ⟨b,o+j,none⟩=some (.string x):=(hx.cell lg).trans (H3.out j _ (by rw [List.getElem?_map,hxx];rfl))
  have c0':wr.cell? ⟨b',o'+j,none⟩=some (.string x):=(hx.cell lg').trans (H3'.out j _ (by rw [List.getElem?_map,hxx];rfl))
  have hxe:(x.toList != x.toList)=false:=by simp
  have HX:=Lib.hid hx
  clear hx hxx lg lg'
  go_wp2_with fail
  go_quiet (fail)
  go_wp2_with fail
  go_roundw
  case rel=>exact ⟨j+1,by go_num,hlt,HX.out.drewN _⟩
  simp [intOf];omega
 obtain rfl:j=xs.length:=by omega
 have HX:=Lib.hid hx
 clear hx
 go_wp2_with fail
 go_ret
 exact ⟨rfl,HX.out⟩
theorem rv_numO (w:World) (F:Nat→Prop) {n:Int} (wn:(Lit.int .i64 n).wf=true):RV w F (numV n) Sl.none Sl.none:=RV.flat _ _ _ _ _ _ (by decide) wn (by decide)
theorem tree_oneO {w:World} {g:Nat} {a:ByteArray} {n:Int} (ha:a.size≤maxLen) (wn:(Lit.int .i64 n).wf=true)
  (hb:Blk w g 64 #[.string a,.int .i64 3,.bool false,.int .i64 n,.string ByteArray.empty,.slice none 0 0,.slice none 0 0]) :
  Calls Tryz.prog 24 #[.slice (some ⟨g,0,none⟩) 1 1] w fun e w'=>∃ (T:RT),e=.returned (treeV T)∧OkR T∧entsT T=[(a,numV n)]∧IsT w' (In w.heap.size w'.heap.size) T∧Ext w w':=by
 have es:ES w (Lt w.heap.size) ⟨some ⟨g,0,none⟩,1⟩ [⟨a,numV n,Sl.none,Sl.none⟩]:=
  ⟨(Rd.block (cs:=flatE [⟨a,numV n,Sl.none,Sl.none⟩]) (n:=1) (size:=7) (by simp [flatE,LE.cells];exact hb) (by decide) (by simp [flatE,LE.cells])).mono fun i hi=>by subst hi;exact hb.lt,fun z hz=>by
    obtain rfl:=List.mem_singleton.1 hz;exact ⟨rv_numO _ _ wn,ha⟩,by simp⟩
 refine (build_any es (show 1≤100000 by omega)).mono ?_
 rintro e w' ⟨T,rfl,hbt,hT,hx⟩
 exact ⟨T,rfl,hbt.both.1,by rw [hbt.both.2];show putAll [] [(a,numV n)]=_;simp [putAll,insE],hT,hx⟩
theorem OvTo.since {H:Nat→Prop} {w0 w w':World} {O:Nat} {d d':OD} (h:OvTo H w O d d' w') (k:Nw w0 w) (hb:∀ b,OvB O d b→w0.heap.size≤b):Nw w0 w'∧∀ b,OvB O d' b→w0.heap.size≤b:=
 ⟨k.comp h.sb fun i hi e=>by have:=hb i e;omega,fun b e=>(h.new b e).elim (hb b) fun hh=>Nat.le_trans k.size hh⟩
abbrev kAo:ByteArray:=⟨#[97]⟩
abbrev kBo:ByteArray:=⟨#[98]⟩
abbrev kEo:ByteArray:=⟨#[]⟩
theorem begins_all (k:ByteArray):beginsO kEo k=true:=by
 have h:(ByteArray.mk #[]).toList=[]:=by rw [ByteArray.toList_eq]
 show (ByteArray.toList _).isPrefixOf _=true
 rw [h];rfl
theorem may_bo:mayK kBo=0:=by decide +kernel
theorem now_b {d:OD} {s:SV} (hT:entsT d.T=[(kAo,numV 1)]) (hC:d.C=putA [] kBo s):d.now kAo=some (numV 1):=by
 rw [now_none (by rw [hC,getA_put,if_neg (by decide)];rfl),hT]
 simp [getE]
theorem pre_b {d:OD} {s z:SV} (hT:entsT d.T=[(kAo,numV 1)]) (hC:d.C=putA (putA [] kBo s) kAo z) (hs:s.has=true) (hz:z.has=false) {ks:List ByteArray} (hr:ks.Pairwise fun x y=>klt x y=true)
  (hm:∀ k,k∈ks↔(beginsO kEo k=true∧(d.now k).isSome=true)):ks=[kBo]:=by
 refine rise_ext hr (List.pairwise_singleton _ _) fun k=>?_
 rw [hm k,begins_all]
 have hg:getA d.C k=if k=kAo then some z else if k=kBo then some s else none:=by rw [hC,getA_put,getA_put];rfl
 by_cases h1:k=kAo
 ·subst h1
  rw [if_pos rfl] at hg
  rw [now_some hg]
  simp [SV.opt,hz]
 rw [if_neg h1] at hg
 by_cases h2:k=kBo
 ·subst h2
  rw [if_pos rfl] at hg
  rw [now_some hg]
  simp [SV.opt,hs]
 rw [if_neg h2] at hg
 rw [now_none hg,hT]
 simp [getE,h1,h2]
 exact fun h=>h1 h.symm
theorem pre_a {d:OD} (hT:entsT d.T=[(kAo,numV 1)]) (hC:d.C=[]) {ks:List ByteArray} (hr:ks.Pairwise fun x y=>klt x y=true)
  (hm:∀ k,k∈ks↔(beginsO kEo k=true∧(d.now k).isSome=true)):ks=[kAo]:=by
 refine rise_ext hr (List.pairwise_singleton _ _) fun k=>?_
 rw [hm k,begins_all,now_none (by rw [hC];rfl),hT]
 by_cases h1:k=kAo
 ·subst h1;simp [getE]
 simp [getE,h1]
 exact fun h=>h1 h.symm
theorem rd_one (w:World) (k:ByteArray):Rd (w.alloc (.cells #[.string k] 9)) (fun b=>b=w.heap.size) 1 ⟨some ⟨w.heap.size,0,none⟩,1⟩ 1 [.string k]:=
 Rd.block (cs:=[.string k]) (n:=1) (size:=1) (Blk.new w _ _) (by decide) rfl
theorem put_bo {w:World} {O:Nat} {T:RT} (hL:Lib0 w) (h0:OvAt (fun _=>False) w O (od0 T)):Calls Tryz.prog 10 #[.pointer (some ⟨O,0,none⟩),.string kBo,numA 2] w (PutPostO (fun _=>False) O (od0 T) kBo (numV 2) w):=by
 have hmay:∀ W,Nw w W→Calls Tryz.prog 33 #[.string kBo] W fun e w'=>e=.returned (.int .i64 0)∧Nw W w':=fun W hW=>by
  have h:=keysMay_any (w:=W) (k:=kBo) (by decide) (hL.nw hW)
  rw [may_bo] at h
  exact h
 have hfit:∀ W,Nw w W→Calls Tryz.prog 34 #[numA 2] W fun e w'=>e=.returned (.int .i64 0)∧Nw W w':=fun W hW=>
  fits_int W 2 fun W' hW'=>(hL.nw (hW.trans hW')).fmt _ (G5.refl _) 2 (by decide) (by decide)
 have hl:(od0 T).us.length≤1000000:=Nat.zero_le _
 have hk:kBo.size≤maxLen:=by decide
 have hv:RV w (Lt w.heap.size) (numV 2) Sl.none Sl.none:=rv_numO _ _ (by decide)
 exact put_ov (v:=numV 2) (sl:=Sl.none) (so:=Sl.none) h0 (fun b h=>h.elim) hl hk hv hmay hfit
theorem known12 {w:World} (hL:Lib0 w):Calls Tryz.prog 14 #[] w fun e w'=>e=.returned (.bool true)∧Nw w w':=by
 have HL:=Lib.hid hL
 clear hL
 go_enter Tryz.func14,Tryz.ntmps14
 go_wp2_with fail
 refine (num12_any _ 1).mono ?_
 rintro e w1 ⟨rfl,hx1⟩
 have HX1:=Lib.hid hx1
 clear hx1
 go_wp2_with fail
 refine (tree_oneO (a:=kAo) (n:=1) (by decide) (by decide) (Blk.new w1 _ _)).mono ?_
 rintro e w2 ⟨T,rfl,ok,he,hT,hx2⟩
 have hx02:=HX1.out.trans (((Ext.refl w1).alloc _ _).trans hx2)
 have hbg:=begin_ov (H:=fun _=>False) hT ok (fun b hb=>⟨hb.2,id⟩) (fun b h=>h.elim)
 obtain ⟨p,hp⟩:=rootV_ptr T
 rw [treeV,hp] at hbg
 rw [treeV,hp]
 have HX2:=Lib.hid hx02
 have HBG:=Lib.hid hbg
 have HE:=Lib.hid he
 clear hx02 hbg he ok hT hx2 HX1 hp
 go_wp2_with fail
 refine HBG.out.mono ?_
 rintro e w3 ⟨O,rfl,hO,h0,hx3⟩
 have hn3:Nw w w3:=Nw.of (HX2.out.trans hx3)
 have ho3:∀ b,OvB O (od0 T) b→w.heap.size≤b:=fun b hb=>by
  have:=HX2.out.size
  rcases hb with rfl | hb | hb
  ·omega
  ·cases hb
  cases hb
 have hmk:Calls Tryz.prog 18 #[.pointer (some ⟨O,0,none⟩)] w3 fun e w'=>e=.returned (.int .i64 0)∧Ext w3 w':=mark_ov h0
 have HN3:=Lib.hid hn3
 have HO3:=Lib.hid ho3
 have HMK:=Lib.hid hmk
 have H0:=Lib.hid h0
 clear hx3 h0 hn3 ho3 hmk HBG hO HX2
 go_wp2_with fail
 refine HMK.out.mono ?_
 rintro e w4 ⟨rfl,hx4⟩
 have HX4:=Lib.hid hx4
 clear hx4 HMK
 go_wp2_with fail
 refine (num12_any _ 2).mono ?_
 rintro e w5 ⟨rfl,hx5⟩
 have hx35:=HX4.out.trans hx5
 have hn5:=HN3.out.trans (Nw.of hx35)
 have hput:Calls Tryz.prog 10 #[.pointer (some ⟨O,0,none⟩),.string kBo,numA 2] w5 (PutPostO (fun _=>False) O (od0 T) kBo (numV 2) w5):=
  put_bo (HL.out.nw hn5) (H0.out.ext hx35)
 have HN5:=Lib.hid hn5
 have HPUT:=Lib.hid hput
 clear hx5 hx35 hn5 hput HX4 H0 HL HN3
 go_wp2_with fail
 refine HPUT.out.mono ?_
 rintro e w6 ⟨rfl,sl,so,mb,s,hto⟩
 obtain ⟨hn6,ho6⟩:=hto.since HN5.out HO3.out
 obtain ⟨d1,hd1⟩:∃ d,d=(od0 T).step kBo ⟨true,numV 2,sl,so⟩ mb s:=⟨_,rfl⟩
 have hT1:entsT d1.T=[(kAo,numV 1)]:=by rw [hd1];exact HE.out
 have hC1:d1.C=putA [] kBo ⟨true,numV 2,sl,so⟩:=by rw [hd1];rfl
 have hl1:d1.us.length=1:=by rw [hd1];rfl
 have h6:=hto.at_
 rw [←hd1] at h6 ho6
 have hdel:=delete_ov h6 (fun b h=>h.elim) (by rw [hl1];decide) (by rw [hT1];decide) (k:=kAo) (by decide)
 unfold DelPostO at hdel
 rw [now_b hT1 hC1] at hdel
 have HN6:=Lib.hid hn6
 have HO6:=Lib.hid ho6
 have HDEL:=Lib.hid hdel
 have HC1:=Lib.hid hC1
 have HT1:=Lib.hid hT1
 have HL1:=Lib.hid hl1
 clear hto hn6 ho6 hd1 hT1 hC1 hl1 h6 hdel HPUT HN5 HO3 HE
 go_wp2_with fail
 refine HDEL.out.mono ?_
 rintro e w7 ⟨rfl,⟨hf,-⟩ | ⟨-,mb2,s2,hto⟩⟩
 ·cases hf
 obtain ⟨hn7,ho7⟩:=hto.since HN6.out HO6.out
 obtain ⟨d2,hd2⟩:∃ d,d=d1.step kAo zeroSV mb2 s2:=⟨_,rfl⟩
 have hT2:entsT d2.T=[(kAo,numV 1)]:=by rw [hd2];exact HT1.out
 have hC2:d2.C=putA (putA [] kBo ⟨true,numV 2,sl,so⟩) kAo zeroSV:=by rw [hd2,←HC1.out];rfl
 have hl2:d2.us.length=2:=by rw [hd2];show (d1.us++[_]).length=2;rw [List.length_append,HL1.out];rfl
 have h7:=hto.at_
 rw [←hd2] at h7 ho7
 have hpre:=prefix_ov h7 (by rw [hT2];decide) (by rw [hl2];decide) (p:=kEo) (by decide)
 have HN7:=Lib.hid hn7
 have HO7:=Lib.hid ho7
 have HPRE:=Lib.hid hpre
 have HC2:=Lib.hid hC2
 have HT2:=Lib.hid hT2
 have HL2:=Lib.hid hl2
 have H7:=Lib.hid h7
 clear hto hn7 ho7 hd2 hT2 hC2 hl2 h7 hpre HDEL HN6 HO6 HC1 HT1 HL1
 go_wp2_with fail
 refine HPRE.out.mono ?_
 rintro e w8 ⟨sp,ks,rfl,hn8,hrd,hri,hm⟩
 obtain rfl:=pre_b HT2.out HC2.out rfl rfl hri hm
 have h8:=H7.out.nw hn8
 have hbk:Calls Tryz.prog 20 #[.pointer (some ⟨O,0,none⟩),.int .i64 0] w8 (BackPost (fun _=>False) O d2 0 w8):=back_ov h8 (by rw [HL2.out];decide) (m:=0) (Nat.zero_le _)
 have HN8:=Lib.hid (HN7.out.trans hn8)
 have HRD:=Lib.hid hrd
 have HBK:=Lib.hid hbk
 have HB8:=Lib.hid (fun b (hb:In w7.heap.size w8.heap.size b)=>(⟨fun e=>by have:=H7.out.own_lt e;have:=hb.1;omega,hb.2⟩:¬OvB O d2 b∧b<w8.heap.size))
 clear hn8 hrd hri hm h8 hbk HPRE HN7 H7 HC2 HL2
 go_wp2_with fail
 refine HBK.out.mono ?_
 rintro e w9 ⟨rfl,hto⟩
 obtain ⟨hn9,ho9⟩:=hto.since HN8.out HO7.out
 obtain ⟨d3,hd3⟩:∃ d:OD,d=⟨d2.T,d2.mb,d2.s,d2.us.take 0,d2.Hs.take (0+1),backA d2.us d2.C 0⟩:=⟨_,rfl⟩
 have h9:=hto.at_
 rw [←hd3] at h9
 have hl3:d3.us.length=0:=by rw [hd3];rfl
 have hC3:d3.C=[]:=by
  have a:=h9.h0
  have b:=h9.last
  rw [hl3,a] at b
  exact (Option.some.inj b).symm
 have hT3:entsT d3.T=[(kAo,numV 1)]:=by rw [hd3];exact HT2.out
 have hrd9:Rd w9 (In w7.heap.size w8.heap.size) 1 sp 1 [.string kBo]:=HRD.out.agree fun b hb=>hto.sb.block b (HB8.out b hb).2 (HB8.out b hb).1
 have hsm:∀ W,Nw w9 W→Calls Tryz.prog 28 #[.slice sp.a 1 sp.c,.slice (some ⟨W.heap.size,0,none⟩) 1 1] (W.alloc (.cells #[.string kBo] 9)) fun e w'=>e=.returned (.bool true)∧Ext (W.alloc (.cells #[.string kBo] 9)) w':=fun W hW=>
  same12_refl (xs:=[kBo]) (s:=sp) (s':=⟨some ⟨W.heap.size,0,none⟩,1⟩) (hrd9.agree (Nw.agree (hW.trans (Nw.of ((Ext.refl W).alloc #[.string kBo] 9))) fun b hb=>Nat.lt_of_lt_of_le (HB8.out b hb).2 hto.sb.size))
   (fun b hb=>Nat.lt_of_lt_of_le (HB8.out b hb).2 (Nat.le_trans hto.sb.size (Nat.le_trans hW.size ((Ext.refl W).alloc #[.string kBo] 9).size))) (rd_one W kBo) (fun b hb=>by rw [hb,World.size_alloc];omega) (by decide)
 have hpre:=fun W (hW:Nw w9 W)=>prefix_ov (h9.nw hW) (by rw [hT3];decide) (by rw [hl3];decide) (p:=kEo) (by decide)
 have HN9:=Lib.hid hn9
 have HSM:=Lib.hid hsm
 have HPRE:=Lib.hid hpre
 have HC3:=Lib.hid hC3
 have HT3:=Lib.hid hT3
 clear hto hn9 ho9 hd3 h9 hl3 hC3 hT3 hrd9 hsm hpre HBK HN8 HRD HO7 HB8 HT2
 go_wp2_with fail
 refine (HSM.out _ (Nw.of (Ext.refl _))).mono ?_
 rintro e w10 ⟨rfl,hx10⟩
 have HX10:=Lib.hid (((Ext.refl w9).alloc #[.string kBo] 9).trans hx10)
 clear hx10 HSM
 go_wp2_with fail
 refine (HPRE.out _ (Nw.of HX10.out)).mono ?_
 rintro e w11 ⟨sq,ks,rfl,hn11,hrd,hri,hm⟩
 obtain rfl:=pre_a HT3.out HC3.out hri hm
 have hsm:Calls Tryz.prog 28 #[.slice sq.a 1 sq.c,.slice (some ⟨w11.heap.size,0,none⟩) 1 1] (w11.alloc (.cells #[.string kAo] 9)) fun e w'=>e=.returned (.bool true)∧Ext (w11.alloc (.cells #[.string kAo] 9)) w':=
  same12_refl (xs:=[kAo]) (s:=sq) (s':=⟨some ⟨w11.heap.size,0,none⟩,1⟩) (hrd.agree (Nw.agree (Nw.of ((Ext.refl w11).alloc #[.string kAo] 9)) fun b hb=>hb.2))
   (fun b hb=>by have:=hb.2;rw [World.size_alloc];omega) (rd_one w11 kAo) (fun b hb=>by rw [hb,World.size_alloc];omega) (by decide)
 have HN11:=Lib.hid ((HN9.out.trans (Nw.of HX10.out)).trans hn11)
 have HSM:=Lib.hid hsm
 clear hn11 hrd hri hm hsm HPRE HX10 HN9 HC3 HT3
 go_wp2_with fail
 refine HSM.out.mono ?_
 rintro e w12 ⟨rfl,hx12⟩
 have HN12:=Lib.hid (HN11.out.trans (Nw.of (((Ext.refl w11).alloc #[.string kAo] 9).trans hx12)))
 clear hx12 HSM HN11
 go_wp2_with fail
 go_ret
 exact ⟨rfl,HN12.out⟩
theorem MapAt.len {H:Nat→Prop} {w:World} {M:Nat} {es:List Ent} (h:MapAt H w M es):∃ s:Sl,Blk w M 50 #[.slice s.a es.length s.c]:=by
 obtain ⟨-,s,xs,hb,-,hx⟩:=h
 exact ⟨s,by rw [←hx,List.length_map];exact hb⟩
theorem R12.sbN {H H' G:Nat→Prop} {w w':World} {base R M:Nat} {s:Sl} {es:List Ent} {ms:List Nat} {hs:List (List Ent)} (h:R12 H w base R M s es ms hs) (k:Sb G w w') (hG:∀ b,G b→H b) (hR:¬G R) (hM:¬G M) (hrow:∀ b,s.row=some b→¬G b) (hms:∀ m∈ms,¬G m)
  (h1:∀ b,H b→H' b) (h2:∀ b,H' b→H b∨w.heap.size≤b) (h3:∀ b,H' b→b<w'.heap.size):R12 H' w' base R M s es ms hs:=by
 have hm:∀ m e,MapAt H w m e→¬G m→MapAt H' w' m e:=fun m e hm hn=>(hm.more (G:=H') h1 fun b hb hg=>(h2 b hg).elim id fun hh=>by omega).sb k (fun b hb=>h1 b (hG b hb)) hn
 exact ⟨h3,Nat.le_trans h.old k.size,h1 _ h.hR,fun b hb=>h1 _ (h.hrow b hb),k.blk h.blk hR,own_agree h.own (F:=fun b=>s.row=some b) (fun b hb=>k.block b (own_row h.own hb).2 (hrow b hb)) (fun b hb=>hb),hm M es h.cur hM,h.len,h.dist,
  fun j m e hj he=>⟨hm m e (h.maps j m e hj he).1 (hms m (List.mem_of_getElem? hj)),(h.maps j m e hj he).2⟩⟩
structure J12 (HR HV:Nat→Prop) (w:World) (base O R M:Nat) (s:Sl) (d:OD) (es:List Ent) (ms:List Nat) (hs:List (List Ent)):Prop where
 ov:OvAt HR w O d
 rf:R12 (fun b=>HR b∨HV b) w base R M s es ms hs
 sub:∀ b,OvB O d b→HV b
 dis:∀ b,HR b→¬HV b
 hR:HR R
 hM:HR M
 hrow:∀ b,s.row=some b→HR b
 hms:∀ m∈ms,HR m
 len:d.us.length=hs.length
 rel:∀ (i:Nat) (C:AL SV) (E:List Ent),d.Hs[i]? = some C→(hs++[es])[i]? = some E→RelO (entsT d.T) (optA C) E
theorem J12.over {HR HV:Nat→Prop} {w w':World} {base O R M:Nat} {s:Sl} {d d':OD} {es:List Ent} {ms:List Nat} {hs:List (List Ent)} (h:J12 HR HV w base O R M s d es ms hs) (k:OvTo HR w O d d' w') :
  R12 (fun b=>HR b∨(HV b∨OvB O d' b)) w' base R M s es ms hs∧(∀ b,HR b→¬(HV b∨OvB O d' b)):=by
 have hn:∀ b,HR b→¬OvB O d b:=fun b hb ho=>h.dis b hb (h.sub b ho)
 have hlt:∀ b,HR b→b<w.heap.size:=fun b hb=>h.rf.below b (.inl hb)
 refine ⟨h.rf.sbN k.sb (fun b hb=>.inr (h.sub b hb)) (hn _ h.hR) (hn _ h.hM) (fun b hb=>hn b (h.hrow b hb)) (fun m hm=>hn m (h.hms m hm)) (fun b hb=>hb.elim .inl fun h=>.inr (.inl h)) (fun b hb=>?_) (fun b hb=>?_),fun b hb hh=>?_⟩
 ·rcases hb with hb | hb | hb
  ·exact .inl (.inl hb)
  ·exact .inl (.inr hb)
  exact (k.new b hb).imp (fun h1=>.inr (h.sub b h1)) id
 ·rcases hb with hb | hb | hb
  ·exact Nat.lt_of_lt_of_le (hlt b hb) k.sb.size
  ·exact Nat.lt_of_lt_of_le (h.rf.below b (.inr hb)) k.sb.size
  exact k.at_.own_lt hb
 rcases hh with hh | hh
 ·exact h.dis b hb hh
 rcases k.new b hh with h1 | h1
 ·exact hn b hb h1
 have:=hlt b hb;omega
theorem J12.last {HR HV:Nat→Prop} {w:World} {base O R M:Nat} {s:Sl} {d:OD} {es:List Ent} {ms:List Nat} {hs:List (List Ent)} (h:J12 HR HV w base O R M s d es ms hs):RelO (entsT d.T) (optA d.C) es:=
 h.rel d.us.length d.C es h.ov.last (by rw [h.len,List.getElem?_append_right (Nat.le_refl _),Nat.sub_self];rfl)
theorem J12.snoc {HR HV:Nat→Prop} {w:World} {base O R M:Nat} {s:Sl} {d:OD} {es E':List Ent} {ms:List Nat} {hs:List (List Ent)} {C':AL SV} (h:J12 HR HV w base O R M s d es ms hs) (hr:RelO (entsT d.T) (optA C') E') :
  ∀ (i:Nat) (C:AL SV) (E:List Ent),(d.Hs++[C'])[i]? = some C→((hs++[es])++[E'])[i]? = some E→RelO (entsT d.T) (optA C) E:=by
 intro i C E hC hE
 have hl:d.Hs.length=(hs++[es]).length:=by rw [h.ov.hist.len,List.length_append,h.len];rfl
 by_cases hi:i<d.Hs.length
 ·rw [List.getElem?_append_left hi] at hC
  rw [List.getElem?_append_left (by omega)] at hE
  exact h.rel i C E hC hE
 rw [List.getElem?_append_right (by omega)] at hC
 rw [List.getElem?_append_right (by omega),←hl] at hE
 have h0:i - d.Hs.length=0:=by
  have:=(List.getElem?_eq_some_iff.1 hC).1
  simp at this;omega
 rw [h0] at hC hE
 simp at hC hE
 subst hC hE
 exact hr
theorem J12.both {HR HV H':Nat→Prop} {w w' w2:World} {base O R M M':Nat} {s s':Sl} {d:OD} {es E':List Ent} {ms:List Nat} {hs:List (List Ent)} {k:ByteArray} {sv:SV} {mb:Option Nat} {s1:Sl} (h:J12 HR HV w base O R M s d es ms hs) (ho:OvTo HR w O d (d.step k sv mb s1) w')
  (h1:∀ b,(HR b∨(HV b∨OvB O (d.step k sv mb s1) b))→H' b) (h2:∀ b,H' b→(HR b∨(HV b∨OvB O (d.step k sv mb s1) b))∨w'.heap.size≤b) (hr:R12 H' w2 base R M s' E' (ms++[M']) (hs++[es])) (hst:St (fun b=>b=R∨b=M∨s.row=some b) w' w2)
  (hs':∀ b,s'.row=some b→s.row=some b∨w'.heap.size≤b) (hM':w'.heap.size≤M') (hrel:RelO (entsT d.T) (optA (putA d.C k sv)) E') :
  J12 (fun b=>H' b∧¬(HV b∨OvB O (d.step k sv mb s1) b)) (fun b=>HV b∨OvB O (d.step k sv mb s1) b) w2 base O R M s' (d.step k sv mb s1) E' (ms++[M']) (hs++[es]):=by
 obtain ⟨-,hdis⟩:=h.over ho
 have hlt:∀ b,HR b→b<w'.heap.size:=fun b hb=>Nat.lt_of_lt_of_le (h.rf.below b (.inl hb)) ho.sb.size
 have hnew:∀ b,w'.heap.size≤b→¬(HV b∨OvB O (d.step k sv mb s1) b):=fun b hb hh=>by
  rcases hh with hh | hh
  ·have:=h.rf.below b (.inr hh);have:=ho.sb.size;omega
  have:=ho.at_.own_lt hh;omega
 have hin:∀ b,HR b→H' b∧¬(HV b∨OvB O (d.step k sv mb s1) b):=fun b hb=>⟨h1 b (.inl hb),hdis b hb⟩
 have hG:∀ b,(b=R∨b=M∨s.row=some b)→HR b:=fun b hb=>by
  rcases hb with rfl | rfl | hb
  ·exact h.hR
  ·exact h.hM
  exact h.hrow b hb
 have hov:OvAt (fun b=>H' b∧¬(HV b∨OvB O (d.step k sv mb s1) b)) w2 O (d.step k sv mb s1):=ho.at_.turn hst.sb hG fun b hb=>by
  rcases h2 b hb.1 with (h3 | h3) | h3
  ·exact .inl h3
  ·exact absurd h3 hb.2
  exact .inr h3
 have hrf:R12 (fun b=>(H' b∧¬(HV b∨OvB O (d.step k sv mb s1) b))∨(HV b∨OvB O (d.step k sv mb s1) b)) w2 base R M s' E' (ms++[M']) (hs++[es]):=by
  have:(fun b=>(H' b∧¬(HV b∨OvB O (d.step k sv mb s1) b))∨(HV b∨OvB O (d.step k sv mb s1) b))=H':=funext fun b=>propext ⟨fun hb=>hb.elim And.left fun hh=>h1 b (.inr hh),fun hb=>by
   by_cases hh:HV b∨OvB O (d.step k sv mb s1) b
   ·exact .inr hh
   exact .inl ⟨hb,hh⟩⟩
  rw [this];exact hr
 have hlast:=h.last
 refine ⟨hov,hrf,fun b hb=>.inr hb,fun b hb=>hb.2,hin R h.hR,hin M h.hM,fun b hb=>?_,fun m hm=>?_,?_,h.snoc hrel⟩
 ·rcases hs' b hb with h3 | h3
  ·exact hin b (h.hrow b h3)
  exact ⟨hr.hrow b hb,hnew b h3⟩
 ·rcases List.mem_append.1 hm with hm | hm
  ·exact hin m (h.hms m hm)
  rw [List.mem_singleton] at hm
  subst hm
  have:(ms++[m])[ms.length]? = some m:=by rw [List.getElem?_append_right (Nat.le_refl _),Nat.sub_self];rfl
  have h4:=hr.maps ms.length m es this (by rw [h.rf.len,List.getElem?_append_right (Nat.le_refl _),Nat.sub_self];rfl)
  exact ⟨h4.1.hm,hnew m hM'⟩
 show (d.us++_).length=_
 rw [List.length_append,List.length_append,h.len];rfl
theorem J12.nw {HR HV:Nat→Prop} {w w2:World} {base O R M:Nat} {s:Sl} {d:OD} {es:List Ent} {ms:List Nat} {hs:List (List Ent)} (h:J12 HR HV w base O R M s d es ms hs) (k:Nw w w2):J12 HR HV w2 base O R M s d es ms hs:=
 ⟨h.ov.nw k,h.rf.sb k (fun _ e=>e.elim) id id (fun _ _=>id) (fun _ _=>id),h.sub,h.dis,h.hR,h.hM,h.hrow,h.hms,h.len,h.rel⟩
def Go12 (HR HV:Nat→Prop) (w:World) (base O R:Nat) (d:OD) (es:List Ent) (hs:List (List Ent)) (w2:World):Prop:=
 ∃ (HR' HV':Nat→Prop) (M':Nat) (s':Sl) (d':OD) (es':List Ent) (ms':List Nat) (hs':List (List Ent)),J12 HR' HV' w2 base O R M' s' d' es' ms' hs'∧Sb (fun b=>HR b∨HV b) w w2∧(∀ b,HR' b∨HV' b→(HR b∨HV b)∨w.heap.size≤b)∧d'.T=d.T∧hs'.length≤hs.length+1∧es'.length≤es.length+1
theorem j12_del {HR HV:Nat→Prop} {w w':World} {base O R M:Nat} {s:Sl} {d:OD} {es:List Ent} {ms:List Nat} {hs:List (List Ent)} (h:J12 HR HV w base O R M s d es ms hs) (hc:es.length≤1000000) (hn:hs.length≤1000000) {k:ByteArray} {e1:Ending}
  (hnow:(d.now k).isSome=(getE es k).isSome) (hd:DelPostO HR O d k w e1 w') :
  Calls Tryz.prog 51 #[.pointer (some ⟨R,0,none⟩),.string k] w' fun e w2=>e=e1∧Go12 HR HV w base O R d es hs w2:=by
 obtain ⟨he1,hd⟩:=hd
 have hso:Sorted es:=h.last.sorted
 rcases hd with ⟨hno,hq⟩ | ⟨hyes,mb,s1,ho⟩
 ·have h':=h.nw hq
  refine (del12_any h'.rf hso hc hn k).mono ?_
  rintro e w2 ⟨rfl,⟨hg,hx⟩ | ⟨hg,-⟩⟩
  ·refine ⟨by rw [he1,hnow],HR,HV,M,s,d,es,ms,hs,h'.nw (Nw.of hx),Nw.any (hq.trans (Nw.of hx)) _,fun b hb=>.inl hb,rfl,Nat.le_succ _,Nat.le_succ _⟩
  rw [hnow] at hno
  rw [Option.isSome_eq_false_iff,Option.isNone_iff_eq_none] at hno
  exact absurd hno hg
 obtain ⟨hr,hdis⟩:=h.over ho
 refine (del12_any hr hso hc hn k).mono ?_
 rintro e w2 ⟨rfl,⟨hg,hx⟩ | ⟨hg,H',s',M',h1,h2,hr2,hst,hrow,hM'⟩⟩
 ·rw [hnow,hg] at hyes
  cases hyes
 have hrel:RelO (entsT d.T) (optA (putA d.C k zeroSV)) (delE es k):=h.last.del fun x=>by
  rw [getA_opt,getA_put,getA_opt]
  split
  ·rfl
  rfl
 refine ⟨by rw [he1,hnow],_,_,M,s',_,_,_,_,h.both ho h1 h2 hr2 hst hrow hM' hrel,?_,fun b hb=>?_,rfl,by rw [List.length_append];exact Nat.le_refl _,Nat.le_succ_of_le (delE_sublist es k).length_le⟩
 ·refine (ho.sb.mono fun b _ hb=>.inr (h.sub b hb)).comp hst.sb fun b _ hb=>.inl ?_
  rcases hb with rfl | rfl | hb
  ·exact h.hR
  ·exact h.hM
  exact h.hrow b hb
 have h3:H' b:=hb.elim And.left fun hh=>h1 b (.inr hh)
 rcases h2 b h3 with (h4 | h4 | h4) | h4
 ·exact .inl (.inl h4)
 ·exact .inl (.inr h4)
 ·exact (ho.new b h4).imp (fun h5=>.inr (h.sub b h5)) id
 exact .inr (Nat.le_trans ho.sb.size h4)
theorem j12_put {HR HV:Nat→Prop} {w w':World} {base O R M:Nat} {s:Sl} {d:OD} {es:List Ent} {ms:List Nat} {hs:List (List Ent)} (h:J12 HR HV w base O R M s d es ms hs) (hc:es.length≤1000000) (hn:hs.length≤1000000) {k:ByteArray} (hk:k.size≤maxLen) {v:Val} {sl so:Sl} {e1:Ending}
  (hv:RV w (NH (fun b=>HR b∨HV b) w) v sl so) (hcv:cntV v≤1100000)
  (hp:e1=.returned (.int .i64 (putC k v))∧((putC k v=0∧∃ sl so mb s,OvTo HR w O d (d.step k ⟨true,v,sl,so⟩ mb s) w')∨(putC k v≠0∧Nw w w'))) :
  Calls Tryz.prog 17 #[.pointer (some ⟨R,0,none⟩),.string k,aggV v sl so] w' fun e w2=>e=e1∧Go12 HR HV w base O R d es hs w2:=by
 obtain ⟨he1,hp⟩:=hp
 have hso:Sorted es:=h.last.sorted
 rcases hp with ⟨h0,sl1,so1,mb,s1,ho⟩ | ⟨h0,hq⟩
 ·obtain ⟨hr,hdis⟩:=h.over ho
  have hv':RV w' (NH (fun b=>HR b∨(HV b∨OvB O (d.step k ⟨true,v,sl1,so1⟩ mb s1) b)) w') v sl so:=
   (hv.agree fun b (hb:NH (fun b=>HR b∨HV b) w b)=>ho.sb.block b hb.1 fun hh=>hb.2 (.inr (h.sub b hh))).mono fun b hb=>⟨Nat.lt_of_lt_of_le hb.1 ho.sb.size,fun hh=>by
     rcases hh with hh | hh | hh
     ·exact hb.2 (.inl hh)
     ·exact hb.2 (.inr hh)
     rcases ho.new b hh with h5 | h5
     ·exact hb.2 (.inr (h.sub b h5))
     have:=hb.1;omega⟩
  refine (put12_any hr hso hc hn hk hv' hcv).mono ?_
  rintro e w2 (⟨hm,rfl,hx⟩ | ⟨hm,hf,rfl,hx⟩ | ⟨hm,hf,rfl,H',s',M',h1,h2,hr2,hst,hrow,hM'⟩)
  ·unfold putC at h0
   rw [if_pos hm] at h0
   cases h0
  ·unfold putC at h0
   rw [if_neg (by simp [hm])] at h0
   exact absurd h0 hf
  have hrel:RelO (entsT d.T) (optA (putA d.C k ⟨true,v,sl1,so1⟩)) (insE es k v):=h.last.put fun x=>by
   rw [getA_opt,getA_put,getA_opt]
   split
   ·rfl
   rfl
  refine ⟨by rw [he1,h0],_,_,M,s',_,_,_,_,h.both ho h1 h2 hr2 hst hrow hM' hrel,?_,fun b hb=>?_,rfl,by rw [List.length_append];exact Nat.le_refl _,by rcases insE_len es k v with h6 | h6 <;> omega⟩
  ·refine (ho.sb.mono fun b _ hb=>.inr (h.sub b hb)).comp hst.sb fun b _ hb=>.inl ?_
   rcases hb with rfl | rfl | hb
   ·exact h.hR
   ·exact h.hM
   exact h.hrow b hb
  have h3:H' b:=hb.elim And.left fun hh=>h1 b (.inr hh)
  rcases h2 b h3 with (h4 | h4 | h4) | h4
  ·exact .inl (.inl h4)
  ·exact .inl (.inr h4)
  ·exact (ho.new b h4).imp (fun h5=>.inr (h.sub b h5)) id
  exact .inr (Nat.le_trans ho.sb.size h4)
 have h':=h.nw hq
 have hv':RV w' (NH (fun b=>HR b∨HV b) w') v sl so:=(hv.agree fun b (hb:NH (fun b=>HR b∨HV b) w b)=>hq.block b hb.1 id).mono fun b hb=>⟨Nat.lt_of_lt_of_le hb.1 hq.size,hb.2⟩
 have hstay:∀ w2,Ext w' w2→Go12 HR HV w base O R d es hs w2:=fun w2 hx=>⟨HR,HV,M,s,d,es,ms,hs,h'.nw (Nw.of hx),Nw.any (hq.trans (Nw.of hx)) _,fun b hb=>.inl hb,rfl,Nat.le_succ _,Nat.le_succ _⟩
 refine (put12_any h'.rf hso hc hn hk hv' hcv).mono ?_
 rintro e w2 (⟨hm,rfl,hx⟩ | ⟨hm,hf,rfl,hx⟩ | ⟨hm,hf,rfl,-⟩)
 ·exact ⟨by rw [he1];unfold putC;rw [if_pos hm],hstay w2 hx⟩
 ·exact ⟨by rw [he1];unfold putC;rw [if_neg (by simp [hm])],hstay w2 hx⟩
 exact absurd (by unfold putC;rw [if_neg (by simp [hm]),hf]) h0
theorem j12_back {HR HV:Nat→Prop} {w w':World} {base O R M:Nat} {s:Sl} {d:OD} {es:List Ent} {ms:List Nat} {hs:List (List Ent)} (h:J12 HR HV w base O R M s d es ms hs) (hn:hs.length≤1000000) {mk:Int} {e1:Ending}
  (hb:((mk<0∨(d.us.length:Int)<mk)∧e1=.returned (.int .i64 17)∧Ext w w')∨∃ m:Nat,mk=(m:Int)∧m≤d.us.length∧BackPost HR O d m w e1 w') :
  Calls Tryz.prog 52 #[.pointer (some ⟨R,0,none⟩),.int .i64 mk] w' fun e w2=>e=e1∧∃ (M':Nat) (d':OD) (es':List Ent) (ms':List Nat) (hs':List (List Ent)),J12 HR HV w2 base O R M' s d' es' ms' hs'∧Sb (fun b=>HR b∨HV b) w w2∧d'.T=d.T∧((es'=es∧hs'=hs)∨∃ j,hs[j]? = some es'∧hs'=hs.take j):=by
 rcases hb with ⟨hr,he1,hx⟩ | ⟨m,rfl,hm,he1,ho⟩
 ·have h':=h.nw (Nw.of hx)
  refine (back12_any h'.rf hn mk).mono ?_
  rintro e w2 (⟨-,rfl,hx2⟩ | ⟨e2,-⟩ | ⟨j,-,-,e2,hj,-⟩)
  ·exact ⟨he1.symm,M,d,es,ms,hs,h'.nw (Nw.of hx2),(Nw.of (hx.trans hx2)).any _,rfl,.inl ⟨rfl,rfl⟩⟩
  ·have:=h.len;omega
  have:=h.len;omega
 have hnr:∀ b,HR b→¬OvB O d b:=fun b hb hh=>h.dis b hb (h.sub b hh)
 have hrf:=h.rf.sb ho.sb (fun b hb=>.inr (h.sub b hb)) (hnr _ h.hR) (hnr _ h.hM) (fun b hb=>hnr b (h.hrow b hb)) (fun x hx=>hnr x (h.hms x hx))
 have hsb:Sb (fun b=>HR b∨HV b) w w':=ho.sb.mono fun b _ hb=>.inr (h.sub b hb)
 have hsub:∀ (i:Nat) (C:AL SV),(d.Hs.take (m+1))[i]? = some C→d.Hs[i]? = some C:=fun i C hC=>by
  rw [List.getElem?_take] at hC
  split at hC
  ·exact hC
  cases hC
 refine (back12_any hrf hn (m:Int)).mono ?_
 rintro e w2 (⟨hh,-⟩ | ⟨e2,rfl,hx⟩ | ⟨j,M',es',e2,hj,hjm,hje,rfl,hr2,hst⟩)
 ·have:=h.len;omega
 ·have hml:m=hs.length:=by omega
  refine ⟨he1.symm,M,_,es,ms,hs,⟨ho.at_.nw (Nw.of hx),hrf.ext hx,h.sub,h.dis,h.hR,h.hM,h.hrow,h.hms,?_,fun i C E hC hE=>h.rel i C E (hsub i C hC) hE⟩,hsb.comp (Nw.of hx) (fun _ _ e=>e.elim),rfl,.inl ⟨rfl,rfl⟩⟩
  show (d.us.take m).length=_
  rw [List.length_take];omega
 obtain rfl:m=j:=by omega
 have hHM:HR M':=h.hms M' (List.mem_of_getElem? hjm)
 refine ⟨he1.symm,M',_,es',ms.take m,hs.take m,⟨ho.at_.turn hst.sb (fun b e=>e▸h.hR) (fun b hb=>.inl hb),hr2,h.sub,h.dis,h.hR,hHM,h.hrow,fun x hx=>h.hms x (List.mem_of_mem_take hx),?_,fun i C E hC hE=>h.rel i C E (hsub i C hC) ?_⟩,hsb.comp hst.sb (fun b _ e=>.inl (e▸h.hR)),rfl,.inr ⟨m,hje,rfl⟩⟩
 ·show (d.us.take m).length=_
  rw [List.length_take,List.length_take];omega
 have h1:hs.take (m+1)=hs.take m++[es']:=by rw [List.take_add_one,hje];rfl
 rw [←h1,List.getElem?_take] at hE
 split at hE
 ·have:=(List.getElem?_eq_some_iff.1 hE).1
  rw [List.getElem?_append_left this];exact hE
 cases hE
abbrev actC (kd:Int) (k:ByteArray) (v:Val) (sl so:Sl) (n:Int):Array Value:=#[.int .i64 kd,.string k,.int .i64 v.kind,.bool v.b,.int .i64 v.i,.string v.t,.slice sl.a v.l.length sl.c,.slice so.a v.ok.length so.c,.int .i64 n]
theorem put_sb {HR HV:Nat→Prop} {w w':World} {base O R M:Nat} {s:Sl} {d:OD} {es:List Ent} {ms:List Nat} {hs:List (List Ent)} (h:J12 HR HV w base O R M s d es ms hs) {P Q:Prop} {k:ByteArray} {v:Val}
  (hp:(P∧∃ sl so mb s,OvTo HR w O d (d.step k ⟨true,v,sl,so⟩ mb s) w')∨(Q∧Nw w w')):Sb HV w w':=by
 rcases hp with ⟨-,a,b,c,e,ho⟩ | ⟨-,hq⟩
 ·exact ho.sb.mono fun i _ hi=>h.sub i hi
 exact Nw.any hq _
theorem Go12.since {HR HV:Nat→Prop} {w w1 w2:World} {base O R:Nat} {d:OD} {es:List Ent} {hs:List (List Ent)} (hx:Nw w w1) (h:Go12 HR HV w1 base O R d es hs w2):Go12 HR HV w base O R d es hs w2:=by
 obtain ⟨HR',HV',M',s',d',es',ms',hs',h1,h2,h3,h4⟩:=h
 exact ⟨HR',HV',M',s',d',es',ms',hs',h1,(hx.any _).comp h2 fun _ _ h=>h,fun b hb=>(h3 b hb).imp id (Nat.le_trans hx.size),h4⟩
theorem do12_put {HR HV:Nat→Prop} {w:World} {base O R M:Nat} {s:Sl} {d:OD} {es:List Ent} {ms:List Nat} {hs:List (List Ent)} (h:J12 HR HV w base O R M s d es ms hs) (hc:es.length≤1000000) (hn:hs.length≤1000000) {k:ByteArray} (hk:k.size≤maxLen) {v:Val} {sl so:Sl} {n:Int}
  (hv:RV w (NH (fun b=>HR b∨HV b) w) v sl so) (hcv:cntV v≤1100000) (hL:LibQ w) :
  Calls Tryz.prog 25 #[.pointer (some ⟨O,0,none⟩),.pointer (some ⟨R,0,none⟩),.agg (actC 1 k v sl so n)] w fun e w2=>e=.returned (.tuple #[.pointer (some ⟨O,0,none⟩),.pointer (some ⟨R,0,none⟩),.bool true])∧Go12 HR HV w base O R d es hs w2:=by
 have hx0:=(Ext.refl w).alloc (actC 1 k v sl so n) 67
 have hb0:=Blk.new w 67 (actC 1 k v sl so n)
 have HX0:=Lib.hid hx0
 have HB0:=Lib.hid hb0
 have HJ:=Lib.hid h
 have HV':=Lib.hid hv
 have HL:=Lib.hid hL
 clear hx0 hb0 h hv hL
 go_enter Tryz.func25,Tryz.ntmps25
 go_wp2_with fail
 generalize hW:w.alloc (.cells (actC 1 k v sl so n) 67)=w1 at *
 have hxd:Ext w w1.drew:=HX0.out.trans ((Ext.refl w1).drew)
 have hbd:Blk w1.drew w.heap.size 67 (actC 1 k v sl so n):=HB0.out.ext ((Ext.refl w1).drew)
 have hjd:=HJ.out.nw (Nw.of hxd)
 have hlow:∀ b,HR b∨HV b→b<w.heap.size:=fun b hb=>HJ.out.rf.below b hb
 have hvd:RV w1.drew (NH (fun b=>HR b∨HV b) w1.drew) v sl so:=(HV'.out.agree (hxd.agree fun b hb=>hb.1)).mono fun b hb=>⟨Nat.lt_of_lt_of_le hb.1 hxd.size,hb.2⟩
 have hput:=put_anyO hjd.ov (fun b hb=>hjd.rf.below b (.inl hb)) (by rw [hjd.len];exact hn) (k:=k) hk (hvd.mono fun b hb=>hb.1) hcv (HL.out.nw (Nw.of hxd))
 have HPUT:=Lib.hid hput
 have HJD:=Lib.hid hjd
 have HVD:=Lib.hid hvd
 have HXD:=Lib.hid hxd
 have HBD:=Lib.hid hbd
 have HLOW:=Lib.hid hlow
 have HSS:=Lib.hid (show ∀ W,Blk W w.heap.size 67 (actC 1 k v sl so n)→W.cell? ⟨w.heap.size,1,none⟩=some (.string k)∧W.cell? ⟨w.heap.size,2,none⟩=some (.int .i64 v.kind)∧W.cell? ⟨w.heap.size,3,none⟩=some (.bool v.b)∧W.cell? ⟨w.heap.size,4,none⟩=some (.int .i64 v.i)∧W.cell? ⟨w.heap.size,5,none⟩=some (.string v.t)∧W.cell? ⟨w.heap.size,6,none⟩=some (.slice sl.a v.l.length sl.c)∧W.cell? ⟨w.heap.size,7,none⟩=some (.slice so.a v.ok.length so.c)∧w.heap.size<W.heap.size from fun W h=>⟨h.cell 1,h.cell 2,h.cell 3,h.cell 4,h.cell 5,h.cell 6,h.cell 7,h.lt⟩)
 clear hxd hjd hvd hput hlow
 refine wp_region_held_drew (S:=(fun W=>Blk W w.heap.size 67 (actC 1 k v sl so n))) (by kernel_rfl) (hbd) (fun hHeld=>?_)
 refine heldT 0 (some 14) HSS hHeld ?_
 refine heldT 1 (some 15) HSS hHeld ?_
 refine heldT 2 (some 16) HSS hHeld ?_
 refine heldT 3 (some 17) HSS hHeld ?_
 refine heldT 4 (some 18) HSS hHeld ?_
 refine heldT 5 (some 19) HSS hHeld ?_
 refine heldT 6 (some 20) HSS hHeld ?_
 refine heldT 8 (some 22) HSS hHeld ?_
 refine heldT 9 (some 23) HSS hHeld ?_
 refine heldT 10 (some 24) HSS hHeld ?_
 refine heldT 11 (some 25) HSS hHeld ?_
 refine heldT 12 (some 26) HSS hHeld ?_
 refine held_call (i:=7) (by kernel_rfl) rfl (by rfl) (fun K hK=>?_)
 go_simp
 (refine HPUT.out.mono ?_;rintro e w4 ⟨rfl,hp⟩;have hs4:Sb HV w1.drew w4:=put_sb HJD.out hp;have hq:=j12_put HJD.out hc hn hk HVD.out hcv ⟨rfl,hp⟩;have HQ:=Lib.hid hq;have HS4:=Lib.hid hs4;clear hq hs4 hp)
 refine hK.out _ _ (HS4.out.blk hHeld (fun e=>absurd (HLOW.out _ (.inr e)) (Nat.lt_irrefl _))) (fun hHeld=>?_)
 clear hK K
 try simp only [Act.put,List.setIfInBounds_toArray,List.set_cons_zero,List.set_cons_succ]
 refine held_call (i:=13) (by kernel_rfl) rfl (by rfl) (fun K hK=>?_)
 go_simp
 (refine HQ.out.mono ?_;rintro e w5 ⟨rfl,hgo⟩;have HGO:=Lib.hid hgo;clear hgo)
 refine hK.out _ _ ((by obtain ⟨_,_,_,_,_,_,_,_,-,hsb,-⟩:=HGO.out;exact hsb.blk HBD.out (fun e=>absurd (HLOW.out _ e) (Nat.lt_irrefl _)))) (fun hHeld=>?_)
 clear hK K
 try simp only [Act.put,List.setIfInBounds_toArray,List.set_cons_zero,List.set_cons_succ]
 refine heldT 14 (some 28) HSS hHeld ?_
 refine heldT 15 (some 6) HSS hHeld ?_
 refine heldT 16 (some 7) HSS hHeld ?_
 refine heldT 17 (some 8) HSS hHeld ?_
 refine wpAnyH_done (by kernel_rfl) ?_ _
 go_wp2_with fail
 refine bodyPost_ret (v:=.tuple #[.pointer (some ⟨O,0,none⟩),.pointer (some ⟨R,0,none⟩),.bool true]) (by simp [results,Tryz.results25,go_sem]) rfl ?_
 exact ⟨rfl,HGO.out.since (Nw.of HXD.out)⟩
theorem del_sb {HR HV:Nat→Prop} {w w':World} {base O R M:Nat} {s:Sl} {d:OD} {es:List Ent} {ms:List Nat} {hs:List (List Ent)} (h:J12 HR HV w base O R M s d es ms hs) {k:ByteArray} {e:Ending} (hp:DelPostO HR O d k w e w'):Sb HV w w':=by
 rcases hp with ⟨-,⟨-,hq⟩ | ⟨-,b,c,ho⟩⟩
 ·exact Nw.any hq _
 exact ho.sb.mono fun i _ hi=>h.sub i hi
theorem do12_del {HR HV:Nat→Prop} {w:World} {base O R M:Nat} {s:Sl} {d:OD} {es:List Ent} {ms:List Nat} {hs:List (List Ent)} (h:J12 HR HV w base O R M s d es ms hs) (hc:es.length≤1000000) (hn:hs.length≤1000000) {k:ByteArray} (hk:k.size≤maxLen) {v:Val} {sl so:Sl} {n:Int}
  (hl:(entsT d.T).length≤1000000) :
  Calls Tryz.prog 25 #[.pointer (some ⟨O,0,none⟩),.pointer (some ⟨R,0,none⟩),.agg (actC 2 k v sl so n)] w fun e w2=>e=.returned (.tuple #[.pointer (some ⟨O,0,none⟩),.pointer (some ⟨R,0,none⟩),.bool true])∧Go12 HR HV w base O R d es hs w2:=by
 have hx0:=(Ext.refl w).alloc (actC 2 k v sl so n) 67
 have hb0:=Blk.new w 67 (actC 2 k v sl so n)
 have HX0:=Lib.hid hx0
 have HB0:=Lib.hid hb0
 have HJ:=Lib.hid h
 clear hx0 hb0 h
 go_enter Tryz.func25,Tryz.ntmps25
 go_wp2_with fail
 generalize hW:w.alloc (.cells (actC 2 k v sl so n) 67)=w1 at *
 have hxd:Ext w w1.drew:=HX0.out.trans ((Ext.refl w1).drew)
 have hbd:Blk w1.drew w.heap.size 67 (actC 2 k v sl so n):=HB0.out.ext ((Ext.refl w1).drew)
 have hjd:=HJ.out.nw (Nw.of hxd)
 have hlow:∀ b,HR b∨HV b→b<w.heap.size:=fun b hb=>HJ.out.rf.below b hb
 have hnow:(d.now k).isSome=(getE es k).isSome:=by
  have h9:=HJ.out.last.now k
  show (nowE (entsT d.T) (optA d.C) k).isSome=_
  cases h1:nowE (entsT d.T) (optA d.C) k <;> cases h2:getE es k <;> rw [h1,h2] at h9 <;> first | rfl | cases h9
 have hput:=delete_ov hjd.ov (fun b hb=>hjd.rf.below b (.inl hb)) (by rw [hjd.len];exact hn) hl (k:=k) hk
 have HPUT:=Lib.hid hput
 have HJD:=Lib.hid hjd
 have HXD:=Lib.hid hxd
 have HBD:=Lib.hid hbd
 have HLOW:=Lib.hid hlow
 have HSS:=Lib.hid (show ∀ W,Blk W w.heap.size 67 (actC 2 k v sl so n)→W.cell? ⟨w.heap.size,1,none⟩=some (.string k)∧W.cell? ⟨w.heap.size,2,none⟩=some (.int .i64 v.kind)∧W.cell? ⟨w.heap.size,3,none⟩=some (.bool v.b)∧W.cell? ⟨w.heap.size,4,none⟩=some (.int .i64 v.i)∧W.cell? ⟨w.heap.size,5,none⟩=some (.string v.t)∧W.cell? ⟨w.heap.size,6,none⟩=some (.slice sl.a v.l.length sl.c)∧W.cell? ⟨w.heap.size,7,none⟩=some (.slice so.a v.ok.length so.c)∧w.heap.size<W.heap.size from fun W h=>⟨h.cell 1,h.cell 2,h.cell 3,h.cell 4,h.cell 5,h.cell 6,h.cell 7,h.lt⟩)
 clear hxd hjd hput hlow
 refine wp_region_held_drew (S:=(fun W=>Blk W w.heap.size 67 (actC 2 k v sl so n))) (by kernel_rfl) (hbd) (fun hHeld=>?_)
 refine heldT 0 (some 31) HSS hHeld ?_
 refine heldT 1 (some 32) HSS hHeld ?_
 refine heldT 2 (some 33) HSS hHeld ?_
 refine heldT 3 (some 34) HSS hHeld ?_
 refine heldT 4 (some 35) HSS hHeld ?_
 refine heldT 6 (some 37) HSS hHeld ?_
 refine heldT 7 (some 38) HSS hHeld ?_
 refine heldT 8 (some 39) HSS hHeld ?_
 refine held_call (i:=5) (by kernel_rfl) rfl (by rfl) (fun K hK=>?_)
 go_simp
 (refine HPUT.out.mono ?_;rintro e w4 hp;have hs4:Sb HV w1.drew w4:=del_sb HJD.out hp;have hq:=j12_del HJD.out hc hn hnow hp;obtain ⟨rfl,-⟩:=hp;have HQ:=Lib.hid hq;have HS4:=Lib.hid hs4;clear hq hs4)
 refine hK.out _ _ (HS4.out.blk hHeld (fun e=>absurd (HLOW.out _ (.inr e)) (Nat.lt_irrefl _))) (fun hHeld=>?_)
 clear hK K
 try simp only [Act.put,List.setIfInBounds_toArray,List.set_cons_zero,List.set_cons_succ]
 refine held_call (i:=9) (by kernel_rfl) rfl (by rfl) (fun K hK=>?_)
 go_simp
 (refine HQ.out.mono ?_;rintro e w5 ⟨rfl,hgo⟩;have HGO:=Lib.hid hgo;clear hgo)
 refine hK.out _ _ ((by obtain ⟨_,_,_,_,_,_,_,_,-,hsb,-⟩:=HGO.out;exact hsb.blk HBD.out (fun e=>absurd (HLOW.out _ e) (Nat.lt_irrefl _)))) (fun hHeld=>?_)
 clear hK K
 try simp only [Act.put,List.setIfInBounds_toArray,List.set_cons_zero,List.set_cons_succ]
 refine heldT 10 (some 41) HSS hHeld ?_
 refine heldT 11 (some 6) HSS hHeld ?_
 refine heldT 12 (some 7) HSS hHeld ?_
 refine heldT 13 (some 8) HSS hHeld ?_
 refine wpAnyH_done (by kernel_rfl) ?_ _
 go_wp2_with fail
 refine bodyPost_ret (v:=.tuple #[.pointer (some ⟨O,0,none⟩),.pointer (some ⟨R,0,none⟩),.bool true]) (by simp [results,Tryz.results25,go_sem]) rfl ?_
 exact ⟨rfl,HGO.out.since (Nw.of HXD.out)⟩
def BkO (HR:Nat→Prop) (O:Nat) (d:OD) (mk:Int) (w:World) (e1:Ending) (w':World):Prop:=((mk<0∨(d.us.length:Int)<mk)∧e1=.returned (.int .i64 17)∧Ext w w')∨∃ m:Nat,mk=(m:Int)∧m≤d.us.length∧BackPost HR O d m w e1 w'
def Bk12 (HR HV:Nat→Prop) (w:World) (base O R:Nat) (s:Sl) (d:OD) (es:List Ent) (hs:List (List Ent)) (w2:World):Prop:=∃ (M':Nat) (d':OD) (es':List Ent) (ms':List Nat) (hs':List (List Ent)),J12 HR HV w2 base O R M' s d' es' ms' hs'∧Sb (fun b=>HR b∨HV b) w w2∧d'.T=d.T∧((es'=es∧hs'=hs)∨∃ j,hs[j]? = some es'∧hs'=hs.take j)
theorem back_two {H:Nat→Prop} {w:World} {O:Nat} {d:OD} (h:OvAt H w O d) (hn:d.us.length≤1000000) (mk:Int):Calls Tryz.prog 20 #[.pointer (some ⟨O,0,none⟩),.int .i64 mk] w (BkO H O d mk w):=by
 by_cases hm:mk<0∨(d.us.length:Int)<mk
 ·exact (back_no h hm).mono fun e w' hh=>.inl ⟨hm,hh.1,hh.2⟩
 obtain ⟨m,rfl⟩:∃ m:Nat,mk=(m:Int):=⟨mk.toNat,by omega⟩
 exact (back_ov h hn (m:=m) (by omega)).mono fun e w' hh=>.inr ⟨m,rfl,by omega,hh⟩
theorem back_val {H:Nat→Prop} {w w':World} {O:Nat} {d:OD} {mk:Int} {e:Ending} (h:BkO H O d mk w e w'):∃ x:Int,e=.returned (.int .i64 x):=by
 rcases h with ⟨-,h,-⟩ | ⟨m,-,-,h,-⟩
 ·exact ⟨_,h⟩
 exact ⟨_,h⟩
theorem back_sb {HR HV:Nat→Prop} {w w':World} {base O R M:Nat} {s:Sl} {d:OD} {es:List Ent} {ms:List Nat} {hs:List (List Ent)} (h:J12 HR HV w base O R M s d es ms hs) {mk:Int} {e:Ending} (hp:BkO HR O d mk w e w'):Sb HV w w':=by
 rcases hp with ⟨-,-,hx⟩ | ⟨m,-,-,-,ho⟩
 ·exact Nw.any (Nw.of hx) _
 exact ho.sb.mono fun i _ hi=>h.sub i hi
theorem do12_back {HR HV:Nat→Prop} {w:World} {base O R M:Nat} {s:Sl} {d:OD} {es:List Ent} {ms:List Nat} {hs:List (List Ent)} (h:J12 HR HV w base O R M s d es ms hs) (hc:es.length≤1000000) (hn:hs.length≤1000000) {k:ByteArray} (hk:k.size≤maxLen) {v:Val} {sl so:Sl} {n:Int}
  :
  Calls Tryz.prog 25 #[.pointer (some ⟨O,0,none⟩),.pointer (some ⟨R,0,none⟩),.agg (actC 3 k v sl so n)] w fun e w2=>e=.returned (.tuple #[.pointer (some ⟨O,0,none⟩),.pointer (some ⟨R,0,none⟩),.bool true])∧Bk12 HR HV w base O R s d es hs w2:=by
 have hx0:=(Ext.refl w).alloc (actC 3 k v sl so n) 67
 have hb0:=Blk.new w 67 (actC 3 k v sl so n)
 have HX0:=Lib.hid hx0
 have HB0:=Lib.hid hb0
 have HJ:=Lib.hid h
 clear hx0 hb0 h
 go_enter Tryz.func25,Tryz.ntmps25
 go_wp2_with fail
 generalize hW:w.alloc (.cells (actC 3 k v sl so n) 67)=w1 at *
 have hxd:Ext w w1.drew:=HX0.out.trans ((Ext.refl w1).drew)
 have hbd:Blk w1.drew w.heap.size 67 (actC 3 k v sl so n):=HB0.out.ext ((Ext.refl w1).drew)
 have hjd:=HJ.out.nw (Nw.of hxd)
 have hlow:∀ b,HR b∨HV b→b<w.heap.size:=fun b hb=>HJ.out.rf.below b hb
 have hput:=back_two hjd.ov (by rw [hjd.len];exact hn) n
 have HPUT:=Lib.hid hput
 have HJD:=Lib.hid hjd
 have HXD:=Lib.hid hxd
 have HBD:=Lib.hid hbd
 have HLOW:=Lib.hid hlow
 have HSS:=Lib.hid (show ∀ W,Blk W w.heap.size 67 (actC 3 k v sl so n)→W.cell? ⟨w.heap.size,8,none⟩=some (.int .i64 n)∧W.cell? ⟨w.heap.size,1,none⟩=some (.string k)∧W.cell? ⟨w.heap.size,2,none⟩=some (.int .i64 v.kind)∧W.cell? ⟨w.heap.size,3,none⟩=some (.bool v.b)∧W.cell? ⟨w.heap.size,4,none⟩=some (.int .i64 v.i)∧W.cell? ⟨w.heap.size,5,none⟩=some (.string v.t)∧W.cell? ⟨w.heap.size,6,none⟩=some (.slice sl.a v.l.length sl.c)∧W.cell? ⟨w.heap.size,7,none⟩=some (.slice so.a v.ok.length so.c)∧w.heap.size<W.heap.size from fun W h=>⟨h.cell 8,h.cell 1,h.cell 2,h.cell 3,h.cell 4,h.cell 5,h.cell 6,h.cell 7,h.lt⟩)
 clear hxd hjd hput hlow
 refine wp_region_held_drew (S:=(fun W=>Blk W w.heap.size 67 (actC 3 k v sl so n))) (by kernel_rfl) (hbd) (fun hHeld=>?_)
 refine heldT 0 (some 44) HSS hHeld ?_
 refine heldT 1 (some 45) HSS hHeld ?_
 refine heldT 2 (some 46) HSS hHeld ?_
 refine heldT 3 (some 47) HSS hHeld ?_
 refine heldT 4 (some 48) HSS hHeld ?_
 refine heldT 6 (some 50) HSS hHeld ?_
 refine heldT 7 (some 51) HSS hHeld ?_
 refine heldT 8 (some 52) HSS hHeld ?_
 refine held_call (i:=5) (by kernel_rfl) rfl (by rfl) (fun K hK=>?_)
 go_simp
 (refine HPUT.out.mono ?_;rintro e w4 hp;obtain ⟨x,rfl⟩:=back_val hp;have hs4:Sb HV w1.drew w4:=back_sb HJD.out hp;have hq:=j12_back HJD.out hn hp;have HQ:=Lib.hid hq;have HS4:=Lib.hid hs4;clear hq hs4 hp)
 refine hK.out _ _ (HS4.out.blk hHeld (fun e=>absurd (HLOW.out _ (.inr e)) (Nat.lt_irrefl _))) (fun hHeld=>?_)
 clear hK K
 try simp only [Act.put,List.setIfInBounds_toArray,List.set_cons_zero,List.set_cons_succ]
 refine held_call (i:=9) (by kernel_rfl) rfl (by rfl) (fun K hK=>?_)
 go_simp
 (refine HQ.out.mono ?_;rintro e w5 ⟨rfl,hgo⟩;have HGO:=Lib.hid hgo;clear hgo)
 refine hK.out _ _ ((by obtain ⟨_,_,_,_,_,-,hsb,-⟩:=HGO.out;exact hsb.blk HBD.out (fun e=>absurd (HLOW.out _ e) (Nat.lt_irrefl _)))) (fun hHeld=>?_)
 clear hK K
 try simp only [Act.put,List.setIfInBounds_toArray,List.set_cons_zero,List.set_cons_succ]
 refine heldT 10 (some 54) HSS hHeld ?_
 refine heldT 11 (some 6) HSS hHeld ?_
 refine heldT 12 (some 7) HSS hHeld ?_
 refine heldT 13 (some 8) HSS hHeld ?_
 refine wpAnyH_done (by kernel_rfl) ?_ _
 go_wp2_with fail
 refine bodyPost_ret (v:=.tuple #[.pointer (some ⟨O,0,none⟩),.pointer (some ⟨R,0,none⟩),.bool true]) (by simp [results,Tryz.results25,go_sem]) rfl ?_
 obtain ⟨M',d',es',ms',hs',g1,g2,g3,g4⟩:=HGO.out
 exact ⟨rfl,M',d',es',ms',hs',g1,((Nw.of HXD.out).any _).comp g2 (fun _ _ h=>h),g3,g4⟩
theorem nodup_le {α:Type} [DecidableEq α]:∀ {l m:List α},l.Nodup→(∀ x∈l,x∈m)→l.length≤m.length
 | [],m,_,_=>Nat.zero_le _
 | a :: l,m,h,k=>by
   obtain ⟨h1,h2⟩:=List.nodup_cons.1 h
   have ha:=k a (List.mem_cons_self ..)
   have ih:=nodup_le (m:=m.erase a) h2 fun x hx=>(List.mem_erase_of_ne (by rintro rfl;exact h1 hx)).2 (k x (List.mem_cons_of_mem _ hx))
   rw [List.length_erase_of_mem ha] at ih
   have:0<m.length:=List.length_pos_of_mem ha
   simp only [List.length_cons]
   omega
theorem rise_nodup {l:List ByteArray} (h:l.Pairwise fun x y=>klt x y=true):l.Nodup:=h.imp fun {a b} h e=>klt_ne h e
theorem simO_isB {a b:Option Val} (h:simO a b=true):a.isSome=b.isSome:=by
 cases a <;> cases b <;> simp_all [simO]
theorem RelO.len {B:List Ent} {C:Slots} {M:List Ent} (h:RelO B C M):M.length≤B.length+C.length:=by
 have h1:(M.map Prod.fst).Nodup:=rise_nodup (List.pairwise_map.2 h.sorted)
 have h2:=nodup_le (m:=B.map Prod.fst++C.map Prod.fst) h1 fun k hk=>by
  obtain ⟨e,he,rfl⟩:=List.mem_map.1 hk
  have hg:=getE_mem h.sorted he
  rw [List.mem_append]
  cases hc:getA C e.1 with
  | some s=>exact .inr (List.mem_map.2 ⟨_,getA_some hc,rfl⟩)
  | none=>
    have hb:=simO_isB (h.below e.1 hc)
    rw [hg] at hb
    obtain ⟨v,hv⟩:=Option.isSome_iff_exists.1 hb
    exact .inl (List.mem_map.2 ⟨_,mem_getE hv,rfl⟩)
 simpa using h2
theorem J12.few {HR HV:Nat→Prop} {w:World} {base O R M:Nat} {s:Sl} {d:OD} {es:List Ent} {ms:List Nat} {hs:List (List Ent)} (h:J12 HR HV w base O R M s d es ms hs):es.length≤(entsT d.T).length+hs.length:=by
 have h1:=h.last.len
 have h2:=h.ov.few
 have h3:=h.len
 have h4:(optA d.C).length=d.C.length:=by unfold optA;rw [List.length_map]
 omega
theorem J12.start {G V H:Nat→Prop} {w1 w2:World} {base O R M:Nat} {T:RT} {es:List Ent} (ho:OvAt G w1 O (od0 T)) (k:Nw w1 w2) (hr:R12 (fun b=>(H b∨b=M)∨b=R) w2 base R M Sl.none es [] []) (hO:H O) (hV:∀ b,V b→H b)
  (hRM:∀ b,((H b∨b=M)∨b=R)→b=O∨V b∨G b∨w1.heap.size≤b) (hMV:¬V M) (hRV:¬V R) (hrel:RelO (entsT T) [] es) :
  J12 (fun b=>((H b∨b=M)∨b=R)∧b≠O∧¬V b) (fun b=>b=O∨V b) w2 base O R M Sl.none (od0 T) es [] []:=by
 have hob:∀ b,OvB O (od0 T) b→b=O:=fun b hb=>by
  rcases hb with hb | hb | hb
  ·exact hb
  ·cases hb
  cases hb
 have e0:(fun b=>(((H b∨b=M)∨b=R)∧b≠O∧¬V b)∨(b=O∨V b))=fun b=>(H b∨b=M)∨b=R:=funext fun b=>propext ⟨fun hb=>hb.elim And.left fun e=>.inl (.inl (e.elim (fun e=>e▸hO) (hV b))),fun hb=>by
  by_cases e:b=O∨V b
  ·exact .inr e
  exact .inl ⟨hb,fun h=>e (.inl h),fun h=>e (.inr h)⟩⟩
 have hMO:M≠O:=fun e=>by
  obtain ⟨v,hv⟩:=hr.cur.blk0
  exact blk_ne (k.blk ho.blk) hv (by decide) e.symm
 have hRO:R≠O:=fun e=>blk_ne (k.blk ho.blk) hr.blk (by decide) e.symm
 refine ⟨ho.turn k (fun b h=>h.elim) fun b hb=>((hRM b hb.1).resolve_left hb.2.1).resolve_left hb.2.2,by rw [e0];exact hr,fun b hb=>.inl (hob b hb),fun b hb e=>e.elim hb.2.1 hb.2.2,⟨.inr rfl,hRO,hRV⟩,⟨.inl (.inr rfl),hMO,hMV⟩,fun b hb=>(by cases hb),fun m hm=>(by cases hm),rfl,fun i C E hC hE=>?_⟩
 cases i with
 | zero=>
   have h1:C=[]:=by simpa [od0] using hC.symm
   have h2:E=es:=by simpa using hE.symm
   subst h1 h2
   exact hrel
 | succ i=>simp at hE
theorem do12_other {w:World} {O R:Nat} {kd:Int} {k:ByteArray} {v:Val} {sl so:Sl} {n:Int} (h1:kd≠1) (h2:kd≠2) (h3:kd≠3) (h4:kd≠4) :
  Calls Tryz.prog 25 #[.pointer (some ⟨O,0,none⟩),.pointer (some ⟨R,0,none⟩),.agg (actC kd k v sl so n)] w fun e w2=>e=.returned (.tuple #[.pointer (some ⟨O,0,none⟩),.pointer (some ⟨R,0,none⟩),.bool true])∧Ext w w2:=by
 have hx0:=(Ext.refl w).alloc (actC kd k v sl so n) 67
 have e1:(kd == 1)=false:=by simpa using h1
 have e2:(kd == 2)=false:=by simpa using h2
 have e3:(kd == 3)=false:=by simpa using h3
 have e4:(kd == 4)=false:=by simpa using h4
 have HX0:=Lib.hid hx0
 clear hx0 h1 h2 h3 h4
 go_enter Tryz.func25,Tryz.ntmps25
 go_wp2_with fail
 refine bodyPost_ret (v:=.tuple #[.pointer (some ⟨O,0,none⟩),.pointer (some ⟨R,0,none⟩),.bool true]) (by simp [results,Tryz.results25,go_sem]) rfl ?_
 exact ⟨rfl,HX0.out⟩
def St12 (Q:Nat→Prop) (w0 w:World) (n:Nat) (T:RT) (O R:Nat):Prop:=
 ∃ (HR HV:Nat→Prop) (base M:Nat) (s:Sl) (d:OD) (es:List Ent) (ms:List Nat) (hs:List (List Ent)),J12 HR HV w base O R M s d es ms hs∧d.T=T∧Nw w0 w∧(∀ b,HR b∨HV b→w0.heap.size≤b∧¬Q b)∧(entsT T).length+hs.length≤n
section
variable {Q : Nat → Prop} {w0 w w' : World} {n m : Nat} {T : RT} {O R : Nat}
theorem St12.nw (h:St12 Q w0 w n T O R) (k:Nw w w'):St12 Q w0 w' n T O R:=by
 obtain ⟨HR,HV,base,M,s,d,es,ms,hs,h1,h2,h3,h4,h5⟩:=h
 exact ⟨HR,HV,base,M,s,d,es,ms,hs,h1.nw k,h2,h3.trans k,h4,h5⟩
theorem St12.old (h:St12 Q w0 w n T O R):Nw w0 w:=by
 obtain ⟨HR,HV,base,M,s,d,es,ms,hs,h1,h2,h3,h4,h5⟩:=h
 exact h3
theorem St12.more (h:St12 Q w0 w n T O R) (hm:n≤m):St12 Q w0 w m T O R:=by
 obtain ⟨HR,HV,base,M,s,d,es,ms,hs,h1,h2,h3,h4,h5⟩:=h
 exact ⟨HR,HV,base,M,s,d,es,ms,hs,h1,h2,h3,h4,Nat.le_trans h5 hm⟩
theorem St12.apart (h:St12 Q w0 w n T O R) (k:Nw w w'):St12 (fun b=>b=w.heap.size) w0 w' n T O R:=by
 obtain ⟨HR,HV,base,M,s,d,es,ms,hs,h1,h2,h3,h4,h5⟩:=h
 exact ⟨HR,HV,base,M,s,d,es,ms,hs,h1.nw k,h2,h3.trans k,fun b hb=>⟨(h4 b hb).1,fun e=>by have:=h1.rf.below b hb;omega⟩,h5⟩
theorem St12.free (h:St12 Q w0 w n T O R):St12 (fun _=>False) w0 w n T O R:=by
 obtain ⟨HR,HV,base,M,s,d,es,ms,hs,h1,h2,h3,h4,h5⟩:=h
 exact ⟨HR,HV,base,M,s,d,es,ms,hs,h1,h2,h3,fun b hb=>⟨(h4 b hb).1,id⟩,h5⟩
end
theorem entsT_sorted {T:RT} (h:OkR T):Sorted (entsT T):=(OkR.sorted h)
theorem do12_com {Q:Nat→Prop} {w0 w:World} {n:Nat} {T:RT} {O R:Nat} (h:St12 Q w0 w n T O R) (hQ:∀ b,Q b→b<w.heap.size) (hn:n≤100000) {k:ByteArray} {v:Val} {sl so:Sl} {nn:Int} :
  Calls Tryz.prog 25 #[.pointer (some ⟨O,0,none⟩),.pointer (some ⟨R,0,none⟩),.agg (actC 4 k v sl so nn)] w fun e w2=>∃ T' O' R',e=.returned (.tuple #[.pointer (some ⟨O',0,none⟩),.pointer (some ⟨R',0,none⟩),.bool true])∧St12 Q w0 w2 n T' O' R'∧Nw w w2:=by
 obtain ⟨HR,HV,base,M,s,d,es,ms,hs,hJ,rfl,hN,hnew,hle⟩:=h
 have hx0:=(Ext.refl w).alloc (actC 4 k v sl so nn) 67
 have hj:=hJ.nw (Nw.of hx0)
 have hfw:=hj.few
 have hC:d.C.length≤hs.length:=by rw [←hj.len];exact hj.ov.few
 have hB:Sorted (entsT d.T):=entsT_sorted hj.ov.ok
 have hcom:=commit_ov hj.ov (by omega)
 have HCOM:=Lib.hid hcom
 have HJ:=Lib.hid hj
 have HN:=Lib.hid (hN.trans (Nw.of hx0))
 have HX0:=Lib.hid hx0
 have HNN:=Lib.hid (Nw.of hx0)
 clear hcom hj hN hJ hx0
 go_enter Tryz.func25,Tryz.ntmps25
 go_wp2_with fail
 generalize hW:w.alloc (.cells (actC 4 k v sl so nn) 67)=w1 at *
 refine HCOM.out.mono ?_
 rintro e w2 ⟨T',rfl,okT,hT,heT,hn2,-⟩
 obtain ⟨p,hp⟩:=rootV_ptr T'
 rw [treeV,hp]
 have hj2:=HJ.out.nw hn2
 have hF:∀ b,Up (OvF HR w1 O d) w1 w2 b→b<w2.heap.size∧¬HR b:=fun b hb=>by
  have:=hn2.size
  rcases hb with hb | hb
  ·exact ⟨by have:=hb.1;omega,hb.2.2⟩
  exact ⟨hb.2,fun hh=>by have:=HJ.out.rf.below b (.inl hh);have:=hb.1;omega⟩
 have hN2:=HN.out.trans hn2
 have HNN2:=Lib.hid (HNN.out.trans hn2)
 have hlt2:(entsT T').length≤n:=by
  rw [heT]
  have h1:=comE_len (entsT d.T) (optA d.C) (entsT d.T)
  have h2:(optA d.C).length=d.C.length:=by unfold optA;rw [List.length_map]
  omega
 have hrel:RelO (entsT T') [] es:=by rw [heT];exact RelO.com hB (sorted_opt hj2.ov.sorted) hj2.last
 have hsm:sameE (entsT T') es=true:=by rw [heT];exact RelO.same hB (sorted_opt hj2.ov.sorted) hj2.last
 have hx3:Ext w2 (w2.alloc (.cells #[.pointer p] 25)):=(Ext.refl w2).alloc _ _
 have hbt:=Blk.new w2 25 #[.pointer p]
 have HX3:=Lib.hid hx3
 have HBT:=Lib.hid hbt
 have HJ2:=Lib.hid hj2
 have HF:=Lib.hid hF
 have HT:=Lib.hid hT
 have HN2:=Lib.hid hN2
 have HLT2:=Lib.hid hlt2
 have HREL:=Lib.hid hrel
 have HSM:=Lib.hid hsm
 have HP:=Lib.hid hp
 clear hj2 hF hN2 hlt2 hrel hsm hx3 hbt hT hn2 hp heT HCOM HJ
 go_wp2_with fail
 generalize w2.alloc (.cells #[.pointer p] 25)=w3 at *
 obtain ⟨-,sM,xM,hbM,hsM,hxM⟩:=HJ2.out.rf.cur.ext HX3.out
 have hbR:=HJ2.out.rf.blk.ext HX3.out
 have HSS:=Lib.hid (show ∀ W,Ext w3 W→W.cell? ⟨w2.heap.size,0,none⟩=some (.pointer p)∧W.cell? ⟨R,0,none⟩=some (.pointer (some ⟨M,0,none⟩))∧W.cell? ⟨M,0,none⟩=some (.slice sM.a xM.length sM.c) from
  fun W hW=>⟨(HBT.out.ext hW).cell 0,(hbR.ext hW).cell 0,(hbM.ext hW).cell 0⟩)
 have hT3:∀ W,Ext w3 W→IsT W (Up (OvF HR w1 O d) w1 w2) T':=fun W hW=>HT.out.agree ((HX3.out.trans hW).agree fun b hb=>(HF.out b hb).1)
 have hen:∀ W,Ext w3 W→Calls Tryz.prog 30 #[.agg #[.pointer p]] W (EntriesPost (entsT T') W):=fun W hW=>by
  have h9:=treeEntries_any (fun b hb=>Nat.lt_of_lt_of_le (HF.out b hb).1 (HX3.out.trans hW).size) (hT3 W hW) okT (by have:=HLT2.out;omega)
  rw [treeV,HP.out] at h9
  exact h9
 have hse:∀ (W:World) (se:Sl) (xe:List LE),Ext w3 W→ES W (Lt W.heap.size) se xe→xe.map LE.ent=entsT T'→Calls Tryz.prog 27 #[.slice se.a xe.length se.c,.slice sM.a xM.length sM.c] W fun e w'=>e=.returned (.bool true)∧Ext W w':=fun W se xe hW he hx=>by
  have h9:=sameEnt_any he ((hsM.agree (hW.agree fun b hb=>hb.1)).mono fun b hb=>Nat.lt_of_lt_of_le hb.1 hW.size)
  rw [hx,hxM,HSM.out] at h9
  exact h9
 have hbo:∀ W,Ext w3 W→Calls Tryz.prog 15 #[.agg #[.pointer p]] W fun e w'=>∃ O',e=.returned (.pointer (some ⟨O',0,none⟩))∧W.heap.size≤O'∧OvAt HR w' O' (od0 T')∧Ext W w':=fun W hW=>by
  have h9:=begin_ov (H:=HR) (hT3 W hW) okT (fun b hb=>⟨Nat.lt_of_lt_of_le (HF.out b hb).1 (HX3.out.trans hW).size,(HF.out b hb).2⟩) (fun b hb=>Nat.lt_of_lt_of_le (HJ2.out.rf.below b (.inl hb)) (HX3.out.trans hW).size)
  rw [treeV,HP.out] at h9
  exact h9
 have hbr:∀ (W W':World) (O':Nat),Ext w3 W→Ext W W'→W.heap.size≤O'→O'<W'.heap.size→Calls Tryz.prog 16 #[.pointer (some ⟨M,0,none⟩)] W' fun e w'=>∃ R M,e=.returned (.pointer (some ⟨R,0,none⟩))∧W'.heap.size≤R∧W'.heap.size≤M∧Ext W' w'∧R12 (fun b=>(((HR b∨HV b)∨b=O')∨b=M)∨b=R) w' W'.heap.size R M Sl.none es [] []:=fun W W' O' hW hW' h1 h2=>by
  have hm:=HJ2.out.rf.cur.ext (HX3.out.trans hW)
  refine begin12_any (H:=fun b=>(HR b∨HV b)∨b=O') ((hm.more (fun b hb=>.inl hb) fun b hb hg=>hg.elim id fun e=>by omega).ext hW') (fun b hb=>?_) (by omega)
  rcases hb with hb | rfl
  ·exact Nat.lt_of_lt_of_le (HJ2.out.rf.below b hb) ((HX3.out.trans hW).trans hW').size
  exact h2
 have HEN:=Lib.hid hen
 have HSE:=Lib.hid hse
 have HBO:=Lib.hid hbo
 have HBR:=Lib.hid hbr
 clear hbM hsM hxM hbR hT3 hen hse hbo hbr HBT
 refine wp_region_held_drew (S:=(fun W=>Ext w3 W)) (by kernel_rfl) (((Ext.refl w3).drew)) (fun hHeld=>?_)
 refine heldT 0 (some 59) HSS hHeld ?_
 refine heldT 2 (some 61) HSS hHeld ?_
 refine heldT 3 (some 62) HSS hHeld ?_
 refine heldT 4 (some 63) HSS hHeld ?_
 refine heldT 5 (some 64) HSS hHeld ?_
 refine heldT 6 (some 65) HSS hHeld ?_
 refine heldT 7 (some 66) HSS hHeld ?_
 refine heldT 8 (some 67) HSS hHeld ?_
 refine held_call (i:=1) (by kernel_rfl) rfl (by rfl) (fun K hK=>?_)
 go_simp
 (refine (HEN.out _ hHeld).mono ?_;rintro e w4 ⟨se,xe,rfl,hxe,hoe,hx4⟩;have HOE:=Lib.hid (hoe.es.mono (G:=Lt w4.heap.size) fun b hb=>hb.2);have HXE:=Lib.hid hxe;clear hxe hoe)
 refine hK.out _ _ (hHeld.trans hx4) (fun hHeld=>?_)
 clear hK K
 try simp only [Act.put,List.setIfInBounds_toArray,List.set_cons_zero,List.set_cons_succ]
 refine held_call (i:=9) (by kernel_rfl) rfl (by rfl) (fun K hK=>?_)
 go_simp
 (refine (HSE.out _ se xe hHeld HOE.out HXE.out).mono ?_;rintro e w5 ⟨rfl,hx5⟩)
 refine hK.out _ _ (hHeld.trans hx5) (fun hHeld=>?_)
 clear hK K
 try simp only [Act.put,List.setIfInBounds_toArray,List.set_cons_zero,List.set_cons_succ]
 refine heldT 10 (some 69) HSS hHeld ?_
 refine wpAnyH_done (by kernel_rfl) ?_ _
 have hx35:Ext w3 w5:=hHeld
 clear hHeld
 go_wp2_with fail
 refine wp_region_held_drew (S:=(fun W=>Ext w3 W)) (by kernel_rfl) ((hx35.trans (Ext.refl w5).drew)) (fun hHeld=>?_)
 refine heldT 0 (some 72) HSS hHeld ?_
 refine heldT 2 (some 74) HSS hHeld ?_
 refine heldT 3 (some 75) HSS hHeld ?_
 refine heldT 4 (some 76) HSS hHeld ?_
 refine heldT 5 (some 77) HSS hHeld ?_
 refine held_call (i:=1) (by kernel_rfl) rfl (by rfl) (fun K hK=>?_)
 go_simp
 (refine (HBO.out _ hHeld).mono ?_;rintro e w6 ⟨O',rfl,hO',hov,hx6⟩;have HOV:=Lib.hid hov;have HBR':=Lib.hid (HBR.out _ w6 O' hHeld hx6 hO' hov.blk.lt);clear hov)
 refine hK.out _ _ (hHeld.trans hx6) (fun hHeld=>?_)
 clear hK K
 try simp only [Act.put,List.setIfInBounds_toArray,List.set_cons_zero,List.set_cons_succ]
 refine held_call (i:=6) (by kernel_rfl) rfl (by rfl) (fun K hK=>?_)
 go_simp
 (refine HBR'.out.mono ?_;rintro e w7 ⟨R',M',rfl,hR',hM',hx7,hr'⟩;have HR7:=Lib.hid hr';clear hr')
 refine hK.out _ _ (hHeld.trans hx7) (fun hHeld=>?_)
 clear hK K
 try simp only [Act.put,List.setIfInBounds_toArray,List.set_cons_zero,List.set_cons_succ]
 refine heldT 7 (some 6) HSS hHeld ?_
 refine heldT 8 (some 7) HSS hHeld ?_
 refine heldT 9 (some 8) HSS hHeld ?_
 refine wpAnyH_done (by kernel_rfl) ?_ _
 go_wp2_with fail
 refine bodyPost_ret (v:=.tuple #[.pointer (some ⟨O',0,none⟩),.pointer (some ⟨R',0,none⟩),.bool true]) (by simp [results,Tryz.results25,go_sem]) rfl ?_
 have hz37:=hHeld.size
 have hz23:=HX3.out.size
 have hold:∀ b,HR b∨HV b→b<w2.heap.size:=fun b hb=>HJ2.out.rf.below b hb
 have hz6:w5.heap.size≤w6.heap.size:=hx6.size
 have hO2:w5.heap.size≤O':=hO'
 have hz5:=hx35.size
 have hst:=J12.start (G:=HR) (V:=HV) (H:=fun b=>(HR b∨HV b)∨b=O') HOV.out (Nw.of hx7) HR7.out (.inr rfl) (fun b hb=>.inl (.inr hb)) (fun b hb=>?_) (fun hh=>?_) (fun hh=>?_) HREL.out
 ·refine ⟨T',O',R',rfl,⟨_,_,_,M',Sl.none,_,es,[],[],hst,rfl,HN2.out.trans (Nw.of (HX3.out.trans hHeld)),fun b hb=>?_,by simpa using HLT2.out⟩,HNN2.out.trans (Nw.of (HX3.out.trans hHeld))⟩
  have h2:w0.heap.size≤w2.heap.size:=HN2.out.size
  have h4:w.heap.size≤w2.heap.size:=HNN2.out.size
  have h5:∀ i,w2.heap.size≤i→w0.heap.size≤i∧¬Q i:=fun i hi=>⟨by omega,fun hh=>by have:=hQ i hh;omega⟩
  rcases hb with ⟨((hb | rfl) | rfl) | rfl,-⟩ | rfl | hb
  ·exact hnew b hb
  all_goals first | exact h5 _ (by omega) | exact hnew b (.inr hb)
 ·rcases hb with (((hb | hb) | rfl) | rfl) | rfl
  ·exact .inr (.inr (.inl hb))
  ·exact .inr (.inl hb)
  ·exact .inl rfl
  ·exact .inr (.inr (.inr hM'))
  exact .inr (.inr (.inr hR'))
 ·have:=hold M' (.inr hh);omega
 have:=hold R' (.inr hh);omega
theorem go12_st {Q:Nat→Prop} {w0 w w2:World} {n:Nat} {HR HV:Nat→Prop} {base O R:Nat} {d:OD} {es:List Ent} {hs:List (List Ent)} (hN:Nw w0 w) (hnew:∀ b,HR b∨HV b→w0.heap.size≤b∧¬Q b) (hQ:∀ b,Q b→b<w.heap.size) (hle:(entsT d.T).length+hs.length≤n) (h:Go12 HR HV w base O R d es hs w2):St12 Q w0 w2 (n+1) d.T O R∧Sb (fun b=>¬Q b) w w2:=by
 obtain ⟨HR',HV',M',s',d',es',ms',hs',g1,g2,g3,g4,g5,-⟩:=h
 refine ⟨⟨HR',HV',base,M',s',d',es',ms',hs',g1,g4,hN.comp g2 fun i hi e=>by have:=(hnew i e).1;omega,fun b hb=>?_,by omega⟩,g2.mono fun b _ hb=>(hnew b hb).2⟩
 rcases g3 b hb with h1 | h1
 ·exact hnew b h1
 exact ⟨Nat.le_trans hN.size h1,fun hh=>by have:=hQ b hh;omega⟩
theorem do12_low {Q:Nat→Prop} {w0 w:World} {n:Nat} {T:RT} {O R:Nat} (h:St12 Q w0 w n T O R) (hQ:∀ b,Q b→b<w.heap.size) (hn:n≤100000) {kd:Int} {k:ByteArray} {v:Val} {sl so:Sl} {nn:Int} (h4:kd≠4) (hk:k.size≤maxLen) (hv:RV w0 (Lt w0.heap.size) v sl so) (hcv:cntV v≤1100000) (hL:LibQ w0) :
  Calls Tryz.prog 25 #[.pointer (some ⟨O,0,none⟩),.pointer (some ⟨R,0,none⟩),.agg (actC kd k v sl so nn)] w fun e w2=>e=.returned (.tuple #[.pointer (some ⟨O,0,none⟩),.pointer (some ⟨R,0,none⟩),.bool true])∧St12 Q w0 w2 (n+1) T O R∧Sb (fun b=>¬Q b) w w2:=by
 obtain ⟨HR,HV,base,M,s,d,es,ms,hs,hJ,rfl,hN,hnew,hle⟩:=h
 have hfw:=hJ.few
 have hrv:RV w (NH (fun b=>HR b∨HV b) w) v sl so:=(hv.agree (Nw.agree hN fun b hb=>hb)).mono fun b (hb:b<w0.heap.size)=>⟨Nat.lt_of_lt_of_le hb hN.size,fun hh=>by have:=(hnew b hh).1;omega⟩
 by_cases h1:kd=1
 ·subst h1
  exact (do12_put hJ (by omega) (by omega) hk hrv hcv (hL.nw hN)).mono fun e w2 hh=>⟨hh.1,go12_st hN hnew hQ hle hh.2⟩
 by_cases h2:kd=2
 ·subst h2
  exact (do12_del hJ (by omega) (by omega) hk (by omega)).mono fun e w2 hh=>⟨hh.1,go12_st hN hnew hQ hle hh.2⟩
 by_cases h3:kd=3
 ·subst h3
  refine (do12_back hJ (by omega) (by omega) hk).mono fun e w2 hh=>⟨hh.1,?_⟩
  obtain ⟨-,M',d',es',ms',hs',g1,g2,g3,g4⟩:=hh
  refine ⟨⟨HR,HV,base,M',s,d',es',ms',hs',g1,g3,hN.comp g2 fun i hi e=>by have:=(hnew i e).1;omega,hnew,?_⟩,g2.mono fun b _ hb=>(hnew b hb).2⟩
  rcases g4 with ⟨-,rfl⟩ | ⟨j,-,rfl⟩
  ·omega
  rw [List.length_take];omega
 exact (do12_other h1 h2 h3 h4).mono fun e w2 hh=>⟨hh.1,(St12.nw (w':=w2) ⟨HR,HV,base,M,s,d,es,ms,hs,hJ,rfl,hN,hnew,hle⟩ (Nw.of hh.2)).more (Nat.le_succ n),(Nw.of hh.2).any _⟩
theorem do12_any {Q:Nat→Prop} {w0 w:World} {n:Nat} {T:RT} {O R:Nat} (h:St12 Q w0 w n T O R) (hQ:∀ b,Q b→b<w.heap.size) (hn:n≤100000) {kd:Int} {k:ByteArray} {v:Val} {sl so:Sl} {nn:Int} (hk:k.size≤maxLen) (hv:RV w0 (Lt w0.heap.size) v sl so) (hcv:cntV v≤1100000) (hL:LibQ w0) :
  Calls Tryz.prog 25 #[.pointer (some ⟨O,0,none⟩),.pointer (some ⟨R,0,none⟩),.agg (actC kd k v sl so nn)] w fun e w2=>∃ T' O' R',e=.returned (.tuple #[.pointer (some ⟨O',0,none⟩),.pointer (some ⟨R',0,none⟩),.bool true])∧St12 Q w0 w2 (n+1) T' O' R'∧Sb (fun b=>¬Q b) w w2:=by
 by_cases h4:kd=4
 ·subst h4
  exact (do12_com h hQ hn).mono fun e w2 ⟨T',O',R',h1,h2,h3⟩=>⟨T',O',R',h1,h2.more (Nat.le_succ n),h3.any _⟩
 exact (do12_low h hQ hn h4 hk hv hcv hL).mono fun e w2 hh=>⟨T,O,R,hh.1,hh.2⟩
end Go.Proofs.YtechahocffcbpaaGreatDoor
