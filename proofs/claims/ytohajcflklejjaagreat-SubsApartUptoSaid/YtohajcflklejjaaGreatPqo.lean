/- What the theorem needs of the texts LiveG, TrodQS: no condition of its own. -/
import Derived.Laws.IdiomStrings
import Derived.WalkArith
import Derived.Test.YtohajcflklejjaaGreatPqa
import Derived.Test.YtohajcflklejjaaGreatPqb
import Derived.Test.YtohajcflklejjaaGreatPqc
import Derived.Test.YtohajcflklejjaaGreatPqd
import Derived.Test.YtohajcflklejjaaGreatPqe
import Derived.Test.YtohajcflklejjaaGreatPqf
import Derived.Test.YtohajcflklejjaaGreatPqg
import Derived.Test.YtohajcflklejjaaGreatPqh
import Derived.Test.YtohajcflklejjaaGreatPqi
import Derived.Test.YtohajcflklejjaaGreatPqj
import Derived.Test.YtohajcflklejjaaGreatPqn
import Derived.Test.YtohajcflklejjaaGreatPqk
namespace Go.Proofs.YtohajcflklejjaaGreat
open Go.RowKit Go.Maps
set_option linter.unusedVariables false
set_option linter.unusedSimpArgs false
theorem QoW {d:Array Nat} {ids:List Nat} (hp:d.toList.Perm ids) (hr:ids.Pairwise (·<·)) (hs:∀ i j,i<j→j<d.size→d[i]!≤d[j]!):d.toList=ids:=by
 refine List.Perm.eq_of_pairwise (le:=fun a b=>a≤b) (fun a b _ _=>Nat.le_antisymm) ?_ (hr.imp Nat.le_of_lt) hp
 rw [List.pairwise_iff_getElem]
 intro i j hi hj hij
 have hi':i<d.size:=by simpa using hi
 have hj':j<d.size:=by simpa using hj
 have:=hs i j hij hj'
 rw [getElem!_pos d j hj',getElem!_pos d i hi'] at this
 simpa using this
theorem Qo5 (w:World) (a:Option Addr) (c:Nat):Calls Tryz.prog 131 #[.slice a 0 c,.int .i64 0,.int .i64 0] w fun e w'=>e=.returned (.tuple #[])∧w=w':=by
 go_enter Tryz.func131,Tryz.ntmps131
 go_wp2_with fail
 go_loopw [6] (fun i wr=>i=.int .i64 1∧wr=w) (fun _ _=>0)
 case atStart=>exact ⟨rfl,rfl⟩
 case round=>
  obtain ⟨rfl,rfl⟩:=hrel
  go_wp2_with fail
  go_end0
  exact ⟨rfl,rfl⟩
theorem Qo7 (w:World) (a:Option Addr) (c:Nat) (l:Int):Calls Tryz.prog 109 #[.slice a 0 c,.int .i64 0,.int .i64 0,.int .i64 l] w fun e w'=>e=.returned (.tuple #[])∧w=w':=by
 have hc:=fun W=>Qo5 W a c
 go_enter Tryz.func109,Tryz.ntmps109
 go_wp2_with fail
 go_loopw [1,2,3,8,9] (fun a b q x y wr=>a=.int .i64 0∧b=.int .i64 0∧wr=w) (fun _ _ _ _ _ _=>0)
 case atStart=>exact ⟨rfl,rfl,rfl⟩
 case round=>
  obtain ⟨rfl,rfl,rfl⟩:=hrel
  go_wp2_with fail
  refine (hc _).mono ?_
  rintro e w1 ⟨rfl,rfl⟩
  go_wp2_with fail
  refine bodyPost_ret (v:=.tuple #[]) (by simp [results,Tryz.results109,go_sem]) rfl ?_
  exact ⟨rfl,rfl⟩
theorem Qo2 (w:World) (a:Option Addr) (c:Nat):Calls Tryz.prog 82 #[.slice a 0 c] w fun e w'=>e=.returned (.tuple #[])∧w=w':=by
 have hb:=fun W=>Qgk W 0 (by omega)
 have hc:=fun W l=>Qo7 W a c l
 go_enter Tryz.func82,Tryz.ntmps82
 go_wp2_with fail
 refine (hb _).mono ?_
 rintro e w1 ⟨⟨l,rfl⟩,rfl⟩
 go_wp2_with fail
 refine (hc _ l).mono ?_
 rintro e w2 ⟨rfl,rfl⟩
 go_wp2_with fail
 go_end0
 exact ⟨rfl,rfl⟩
theorem QoZ {w:World} {gf:Nat} {lb:Array Value} {K:Nat→Prop} {ids:List Nat} (hn:ids.length≤255) (hr:ids.Pairwise (·<·)) (eg:∀ args w,(callFunc gf args).run Tryz.prog w=.ok (.enter gf args) w)
  (hseq:∀ W,Ext w W→QiP Tryz.prog gf lb Qnj K (fun _ pre _ _ _=>pre.length<ids.length) (fun xs=>xs.Perm ids) (fun _=>True) W) (hK:∀ b,K b→b<w.heap.size) :
  Calls Tryz.prog 52 #[.func (.func gf) #[] lb] w fun e w'=>∃ (s:Sl),e=.returned (.slice s.a ids.length s.c)∧w'.ownsRow w.heap.size 34 1 (.slice s.a ids.length s.c) ids.length (ids.map Qei)∧Ext w w':=by
 have hc:=QhV (by omega) eg hseq hK
 have HI:=Lib.hid hr
 have HN:=Lib.hid hn
 clear hseq hK hr hn
 go_enter Tryz.func52,Tryz.ntmps52
 go_wp2_with fail
 refine hc.mono ?_
 rintro e w1 ⟨⟨sa,scp⟩,xs,rfl,hS,ho,hx⟩
 have hl:xs.length=ids.length:=hS.length_eq
 dsimp only at ho ⊢
 rcases Nat.eq_zero_or_pos ids.length with h0 | h0
 ·obtain rfl:ids=[]:=List.eq_nil_of_length_eq_zero h0
  obtain rfl:xs=[]:=List.eq_nil_of_length_eq_zero hl
  have HX:=Lib.hid hx
  have HO:=Lib.hid ho
  clear hS ho hx hc hl h0
  dsimp only [List.length_nil]
  go_wp2_with fail
  refine (Qo2 _ sa scp).mono ?_
  rintro e w2 ⟨rfl,rfl⟩
  go_wp2_with fail
  go_ret
  exact ⟨⟨sa,scp⟩,rfl,HO.out,HX.out⟩
 ·obtain ⟨g,hga,hgb,hcm,hrow⟩:=QeZ (s:=⟨sa,scp⟩) ho (by omega)
  dsimp only at hga hcm hrow
  subst hga
  have hsz:xs.toArray.size=xs.length:=by simp
  have hso:=Qo1 hrow (by rw [hsz];have:=HN.out;omega) hcm
  rw [hsz] at hso
  have HX:=Lib.hid hx
  have HL:=Lib.hid hl
  have HS:=Lib.hid hS
  clear hS ho hx hc hrow hsz hl
  go_wp2_with fail
  refine hso.mono ?_
  rintro e w2 ⟨rfl,d',hr2,hp,hs,hst⟩
  have hids:=QoW (by simpa using hp.trans (List.Perm.of_eq (by simp)) |>.trans HS.out) HI.out hs
  have HR2:=Lib.hid hr2
  have HST:=Lib.hid hst
  have HID:=Lib.hid hids
  clear hso hr2 hst hp hs hids
  go_wp2_with fail
  go_ret
  have ho:=Qhu HR2.out hgb hcm
  have hds:d'.size=ids.length:=by rw [←Array.length_toList,HID.out]
  rw [HID.out,hds] at ho
  rw [HL.out]
  exact ⟨⟨some ⟨g,0,none⟩,scp⟩,rfl,ho,HX.out.step HST.out fun b e=>by omega⟩
theorem Qov {w:World} {R:Nat} {T:RT} {g:Nat} {mb:Option Nat} {L:QbJ} (h:QaU w R T g mb L) (h0:0<L.length) (hn:L.length≤255) :
  Calls Tryz.prog 23 #[.pointer (some ⟨R,0,none⟩)] w (Qh9 L w):=by
 have hlR:=h.blk.lt
 have r2:w.cell? ⟨R,2,none⟩=some (.map mb):=h.blk.cell 2
 obtain ⟨b,rfl⟩:∃ b,mb=some b:=by
  cases mb with
  | none=>have:L=[]:=h.map;subst this;simp at h0
  | some b=>exact ⟨b,rfl⟩
 have hown:w.ownsMap Tryz.prog 34 ivR b g (mapD L):=h.map
 have hbl:=hown.lt
 have hx1:Ext w (w.alloc (.cells #[.map (some b)] 35)):=(Ext.refl w).alloc _ _
 have hb1:=Blk.new w 35 #[.map (some b)]
 have hid:(L.map (·.1)).Pairwise (·<·):=List.pairwise_map.2 h.rise
 have hso:=QoZ (w:=w.alloc (.cells #[.map (some b)] 35)) (gf:=83) (lb:=#[.pointer (some ⟨w.heap.size,0,none⟩)]) (ids:=L.map (·.1)) (by simpa using hn) hid (enters_of Tryz.func83 (by kernel_rfl) rfl)
  (fun W hW=>by
   have:=QlY (w0:=W) (L:=L) (hb1.ext hW) (QaN hown ((hx1.trans hW).heap hbl)) h.rise
   simpa using this)
  (fun c hc=>by rw [World.size_alloc];rcases hc with rfl | rfl <;> omega)
 have hk:=QlK w (some b)
 rw [List.length_map,List.map_map] at hso
 have HSO:=Lib.hid hso
 have HX1:=Lib.hid hx1
 clear h hown hx1 hb1 hid hso
 go_enter Tryz.func23,Tryz.ntmps23
 go_wp2_with fail
 refine hk.mono ?_
 rintro e w1 ⟨rfl,rfl⟩
 go_wp2_with fail
 refine HSO.out.mono ?_
 rintro e w2 ⟨s,rfl,ho,hx⟩
 have HO:=Lib.hid (Qc8 ho (by rw [World.size_alloc];exact Nat.le_succ _))
 have HX:=Lib.hid (HX1.out.trans hx)
 clear ho hx
 go_wp2_with fail
 go_ret
 exact ⟨s,rfl,HO.out,HX.out⟩
end Go.Proofs.YtohajcflklejjaaGreat
namespace Go.Proofs.YtohajcflklejjaaGreat
open Go.RowKit
set_option linter.unusedVariables false
set_option linter.unusedSimpArgs false
structure QoL (w:World) (b o:Nat) (q:Qy):Prop where
 c0:w.cell? ⟨b,o,none⟩=some (.int .i64 q.kind)
 c1:w.cell? ⟨b,o+1,none⟩=some (.string q.lo)
 c2:w.cell? ⟨b,o+2,none⟩=some (.string q.hi)
 c3:w.cell? ⟨b,o+3,none⟩=some (.bool q.op)
structure QS (w:World) (F:Nat→Prop) (s:Sl) (xs:List Qy):Prop where
 ex:∃ b o,Qfg F s xs.length b o∧∀ j q,xs[j]? = some q→QoL w b (o+j*4) q
 short:∀ q∈xs,q.short
theorem QoL.agree {w w':World} {b o:Nat} {q:Qy} (h:QoL w b o q) {F:Nat→Prop} (ha:Agree F w w') (hb:F b):QoL w' b o q:=⟨(ha.cell hb).trans h.c0,(ha.cell hb).trans h.c1,(ha.cell hb).trans h.c2,(ha.cell hb).trans h.c3⟩
theorem QS.at {w:World} {F:Nat→Prop} {s:Sl} {xs:List Qy} (h:QS w F s xs) {i:Nat} {q:Qy} (hx:xs[i]? = some q) :
  ∃ b o,s.a=some ⟨b,o,none⟩∧F b∧xs.length≤s.c∧s.c≤maxLen∧QoL w b (o+i*4) q∧q.short:=by
 obtain ⟨b,o,h1,h2⟩:=h.ex
 have hi:i<xs.length:=(List.getElem?_eq_some_iff.1 hx).1
 obtain ⟨e1,e2,e3⟩:=h1.eq (by omega)
 exact ⟨b,o,e1,h1.fits (by omega),e2,e3,h2 i q hx,h.short q (List.mem_of_getElem? hx)⟩
theorem QS.agree {w w':World} {F:Nat→Prop} {s:Sl} {xs:List Qy} (h:QS w F s xs) (ha:Agree F w w'):QS w' F s xs:=by
 obtain ⟨⟨b,o,h1,h2⟩,h3⟩:=h
 exact ⟨⟨b,o,h1,fun j q hj=>(h2 j q hj).agree ha (h1.fits (by have:=(List.getElem?_eq_some_iff.1 hj).1;omega))⟩,h3⟩
set_option maxRecDepth 100000
section
variable {H : Type} {enc : TypeId × Value → H} {w : World} {held : Bool}
theorem QoR:Tryz.prog.bytesOf 24=48:=by kernel_rfl
instance : Inhabited Qy := ⟨⟨0, ByteArray.empty, ByteArray.empty, false⟩⟩
theorem qs_of_trod {fuel:Nat} {cs:List Value} {x:DataW H × List MemPlace} (h:tr enc Tryz.prog w held fuel 68 cs=some x) (hw:WOk Tryz.prog 68 x.1):∃ (s:Sl) (xs:List Qy),cs=[.slice s.a xs.length s.c]∧QS w (Lt w.heap.size) s xs:=by
 obtain ⟨n,len,s,b,o,-,hc,hs,hby,he⟩:=Qn2 (e:=24) (C:=4) (B:=48) (by kernel_rfl) Qhn QoR (by decide) h hw
 have hE:∀ i,i<len→∃ q:Qy,QoL w b (o+i*4) q∧q.short:=fun i hi=>by
  obtain ⟨cs',y,hl,hc,ht,hw⟩:=he i hi
  obtain ⟨q,rfl,hq⟩:=query_of_trod ht hw
  exact ⟨q,⟨hc 0 (by decide),hc 1 (by decide),hc 2 (by decide),hc 3 (by decide)⟩,hq⟩
 obtain ⟨f,hf⟩:=skolem hE
 refine ⟨s,(List.range len).map f,by rw [List.length_map,List.length_range];exact hc,⟨⟨b,o,by rw [List.length_map,List.length_range];exact hs,fun j q hj=>?_⟩,fun q hq=>?_⟩⟩
 ·obtain ⟨h1,rfl⟩:=Qn0 hj
  exact (hf j h1).1
 ·obtain ⟨j,hj⟩:=List.mem_iff_getElem?.1 hq
  obtain ⟨h1,rfl⟩:=Qn0 hj
  exact (hf j h1).2
end
end Go.Proofs.YtohajcflklejjaaGreat
