/- What the theorem needs of the texts MuV, BackP, KnP13, WV, CntV, MutZ, OvCom0, OvPre2, OvPreW, CmpW, CmpI, CmpA, LogP, Det, VSame, OvCom, OvComW, PutV: no condition of its own. -/
import Derived.Laws.IdiomStrings
import Derived.WalkArith
import Derived.OrdersIn
import Derived.Lib.ValidLaws
import Derived.Lib.TrimUEq
import Derived.Lib.ItoaLen
import Derived.TacticsInMore
import Derived.LoopNIn
import Derived.LoopIn
import Derived.Lib.Bytealg
import Derived.Test.YtkhdiakpdafcdaaGreatDoorPna
import Derived.Test.YtkhdiakpdafcdaaGreatDoorPnc
import Derived.Test.YtkhdiakpdafcdaaGreatDoorPnd
import Derived.Test.YtkhdiakpdafcdaaGreatDoorPne
import Derived.Test.YtkhdiakpdafcdaaGreatDoorPnf
import Derived.Test.YtkhdiakpdafcdaaGreatDoorPng
import Derived.Test.YtkhdiakpdafcdaaGreatDoorPnh
import Derived.Test.YtkhdiakpdafcdaaGreatDoorPni
import Derived.Test.YtkhdiakpdafcdaaGreatDoorPnj
set_option maxRecDepth 100000
set_option maxHeartbeats 4000000
namespace Go.Proofs.YtkhdiakpdafcdaaGreatDoor
open Go.RowKit
set_option linter.unusedVariables false
set_option linter.unusedSimpArgs false
theorem getE_filter {P:ByteArray→Bool}:∀ {M:List Ent} (k:ByteArray),getE (M.filter fun e=>P e.1) k=if P k then getE M k else none
 | [],k=>by simp [getE]
 | e :: r,k=>by
   have ih:=getE_filter (P:=P) (M:=r) k
   rw [List.filter_cons]
   by_cases hk:e.1=k
   ·subst hk
    cases hp:P e.1 with
    | true=>simp [getE]
    | false=>rw [if_neg (by simp),ih,hp];simp
   cases hp:P e.1 with
   | true=>
     rw [if_pos rfl,getE,if_neg hk,ih]
     congr 1
     rw [getE,if_neg hk]
   | false=>
     rw [if_neg (by simp),ih]
     congr 1
     rw [getE,if_neg hk]
def delKs (M:List Ent) (ks:List ByteArray):List Ent:=ks.foldl delE M
theorem delKs_sorted {ks:List ByteArray}:∀ {M:List Ent},Sorted M→Sorted (delKs M ks):=by
 induction ks with
 | nil=>exact fun h=>h
 | cons k r ih=>exact fun h=>ih (delE_sorted h k)
theorem delKs_get {ks:List ByteArray}:∀ {M:List Ent},Sorted M→∀ x,(x∈ks→getE (delKs M ks) x=none)∧(x∉ks→getE (delKs M ks) x=getE M x):=by
 induction ks with
 | nil=>intro M h x;exact ⟨fun h=>absurd h (by simp),fun _=>rfl⟩
 | cons k r ih=>
   intro M h x
   obtain ⟨i1,i2⟩:=ih (delE_sorted h k) x
   refine ⟨fun hx=>?_,fun hx=>?_⟩
   ·show getE (delKs (delE M k) r) x=_
    by_cases h1:x∈r
    ·exact i1 h1
    have h2:x=k:=(List.mem_cons.1 hx).resolve_right h1
    rw [i2 h1,getE_del _ _ _ h,if_pos h2]
   show getE (delKs (delE M k) r) x=_
   rw [i2 fun h1=>hx (List.mem_cons_of_mem _ h1),getE_del _ _ _ h,if_neg (fun e:x=k=>hx (by rw [e];exact List.mem_cons_self ..))]
theorem restM_sorted {M:List Ent} (h:Sorted M) (p:ByteArray):Sorted (restM M p):=h.sublist (List.filter_sublist ..)
theorem delKs_gone {M:List Ent} (h:Sorted M) (p:ByteArray):delKs M (keysE (beginsO p) M)=restM M p:=
 sorted_eq (delKs_sorted h) (restM_sorted h p) fun x=>by
  obtain ⟨i1,i2⟩:=delKs_get (ks:=keysE (beginsO p) M) h x
  unfold restM
  rw [getE_filter (P:=fun k=>!beginsO p k)]
  by_cases h1:x∈keysE (beginsO p) M
  ·rw [i1 h1,if_neg (by simp [((mem_keysE h).1 h1).1])]
  rw [i2 h1]
  cases hb:beginsO p x with
  | false=>rw [if_pos (by rfl)]
  | true=>
    rw [if_neg (by simp)]
    cases hg:getE M x with
    | none=>rfl
    | some v=>exact absurd ((mem_keysE h).2 ⟨hb,by rw [hg];rfl⟩) h1
theorem moveE_none {M:List Ent} {f t:ByteArray}:∀ {L:List Ent} {e:Ent},moveE M f t L=0→e∈L→mayK (turnK f t e.1)=0
 | [],e,_,h=>by cases h
 | x :: r,e,h,hm=>by
   rw [moveE] at h
   by_cases h1:mayK (turnK f t x.1)=0
   ·rw [if_neg (by simp [h1])] at h
    rcases List.mem_cons.1 hm with rfl | hm
    ·exact h1
    split at h
    ·cases h
    exact moveE_none h hm
   rw [if_pos h1] at h;cases h
theorem moveE_drop {M:List Ent} {f t:ByteArray}:∀ {L:List Ent} {j:Nat},moveE M f t (L.take j)=0→moveE M f t L=moveE M f t (L.drop j)
 | L,0,_=>rfl
 | [],j+1,_=>by simp
 | x :: r,j+1,h=>by
   rw [List.take_succ_cons,moveE] at h
   rw [moveE,List.drop_succ_cons]
   by_cases h1:mayK (turnK f t x.1)=0
   ·rw [if_neg (by simp [h1])] at h ⊢
    split at h
    ·cases h
    rename_i h2
    rw [if_neg h2]
    exact moveE_drop h
   rw [if_pos h1] at h;cases h
theorem moveE_at {M:List Ent} {f t:ByteArray} {L:List Ent} {j:Nat} {e:Ent} (h:moveE M f t (L.take j)=0) (he:L[j]? = some e) :
  moveE M f t L=if mayK (turnK f t e.1)≠0 then 8 else if (getE M (turnK f t e.1)).isSome && !beginsO f (turnK f t e.1) then 13 else moveE M f t (L.drop (j+1)):=by
 obtain ⟨h1,h2⟩:=List.getElem?_eq_some_iff.1 he
 rw [moveE_drop h,List.drop_eq_getElem_cons h1,h2,moveE]
theorem moveE_take {M:List Ent} {f t:ByteArray}:∀ {L:List Ent} {j:Nat} {e:Ent},moveE M f t (L.take j)=0→L[j]? = some e→mayK (turnK f t e.1)=0→((getE M (turnK f t e.1)).isSome && !beginsO f (turnK f t e.1))=false→moveE M f t (L.take (j+1))=0
 | [],j,e,_,he,_,_=>by simp at he
 | x :: r,0,e,_,he,h1,h2=>by
   have:x=e:=by simpa using he
   subst this
   rw [List.take_succ_cons,List.take_zero,moveE,if_neg (by simp [h1]),if_neg (by simp [h2]),moveE]
 | x :: r,j+1,e,h,he,h1,h2=>by
   rw [List.take_succ_cons,moveE] at h ⊢
   by_cases h3:mayK (turnK f t x.1)=0
   ·rw [if_neg (by simp [h3])] at h ⊢
    split at h
    ·cases h
    rename_i h4
    rw [if_neg h4]
    exact moveE_take h (by simpa using he) h1 h2
   rw [if_pos h3] at h;cases h
theorem gone_keys (M:List Ent) (p:ByteArray):keysE (beginsO p) M=(goneM M p).map Prod.fst:=rfl
theorem setMu_len (M:List Ent) (k:ByteArray) (v:Val):(setMu M k v).2.length≤M.length+1:=by
 unfold setMu
 split
 ·exact Nat.le_succ _
 split
 ·exact Nat.le_succ _
 have:=insE_len M k v;show (insE M k v).length≤_;omega
theorem two_parts (P:Ent→Bool):∀ M:List Ent,(M.filter fun e=>!P e).length+(M.filter P).length≤M.length
 | []=>by simp
 | e :: r=>by
   have ih:=two_parts P r
   rw [List.filter_cons,List.filter_cons]
   cases hb:P e
   ·rw [if_pos (by rfl),if_neg (by simp)];simp only [List.length_cons];omega
   rw [if_neg (by simp),if_pos rfl];simp only [List.length_cons];omega
theorem moveM_len (M:List Ent) (f t:ByteArray):(moveM M f t).2.length≤M.length:=by
 unfold moveM
 split
 ·exact Nat.le_refl _
 have h1:=putAll_len ((goneM M f).map fun e=>(turnK f t e.1,e.2)) (restM M f)
 rw [List.length_map] at h1
 exact Nat.le_trans h1 (two_parts (fun e=>beginsO f e.1) M)
theorem rowM_len (M:List Ent) (k:ByteArray) (l:List Val) (x:Val):(rowM M k l x).2.length≤M.length+1:=by
 unfold rowM
 split
 ·exact Nat.le_succ _
 exact setMu_len ..
theorem addM_len (M:List Ent) (k:ByteArray) (n b:Int):(addM M k n b).2.length≤M.length+1:=by
 unfold addM
 split
 ·exact Nat.le_succ _
 exact setMu_len ..
theorem delE_lenV (M:List Ent) (k:ByteArray):(delE M k).length≤M.length:=(delE_sublist M k).length_le
theorem stepM_lenN (n:Nat):∀ (m:Mu) (M:List Ent),SizeOf.sizeOf m≤n→(stepM m M).2.length≤M.length+sizeM m:=by
 induction n with
 | zero=>intro m M h;have:=Mu.sz_pos m;omega
 | succ n ih=>
   intro m M h
   obtain ⟨kd,k,tk,i,had,was,has,v,l⟩:=m
   simp only [Mu.mk.sizeOf_spec] at h
   have hs:∀ (l:List Mu) (M:List Ent),SizeOf.sizeOf l≤n→(seqM l M).2.length≤M.length+sizeMs l:=by
    intro l
    induction l with
    | nil=>intro M _;simp [seqM,sizeMs]
    | cons a r ihr=>
      intro M hl
      simp only [List.cons.sizeOf_spec] at hl
      unfold seqM sizeMs
      split
      ·show M.length≤_;omega
      have h1:=ih a M (by omega)
      have h2:=ihr (stepM a M).2 (by omega)
      omega
   unfold stepM sizeM
   have h1:=setMu_len M k v
   have h2:=delE_lenV M k
   have h3:=moveM_len M k tk
   have h4:=hs l M (by omega)
   split
   ·omega
   split
   ·split
    ·show (delE M k).length≤_;omega
    show M.length≤_;omega
   split
   ·unfold incM
    split
    ·rename_i x _
     split
     ·show M.length≤_;omega
     have:=addM_len M k x.i i;omega
    have:=addM_len M k 0 i;omega
   split
   ·split
    ·split
     ·omega
     show (delE M k).length≤_;omega
    show M.length≤_;omega
   split
   ·unfold appM
    split
    ·rename_i y _
     split
     ·show M.length≤_;omega
     have:=rowM_len M k y.l v;omega
    have:=rowM_len M k [] v;omega
   split
   ·omega
   split
   ·split
    ·split
     ·show M.length≤_;omega
     omega
    show M.length≤_;omega
   show M.length≤_;omega
theorem stepM_len (m:Mu) (M:List Ent):(stepM m M).2.length≤M.length+sizeM m:=stepM_lenN _ m M (Nat.le_refl _)
theorem turnK_list (f t k:ByteArray):(turnK f t k).data.toList=t.data.toList++k.data.toList.drop f.data.toList.length:=by
 unfold turnK
 rw [ByteArray.data_append,Array.toList_append,ByteArray.data_extract,Array.toList_extract,List.extract_eq_take_drop]
 have h1:f.data.toList.length=f.size:=Array.length_toList
 have h2:k.data.toList.length=k.size:=Array.length_toList
 rw [h1,List.take_of_length_le]
 rw [List.length_drop,h2]
 exact Nat.le_refl _
theorem beg_list (p k:ByteArray):beginsO p k=p.data.toList.isPrefixOf k.data.toList:=by
 unfold beginsO
 rw [ByteArray.toList_eq,ByteArray.toList_eq]
theorem moveE_zero {M:List Ent} {f t:ByteArray}:∀ {L:List Ent},(∀ e∈L,mayK (turnK f t e.1)=0∧((getE M (turnK f t e.1)).isSome && !beginsO f (turnK f t e.1))=false)→moveE M f t L=0
 | [],_=>rfl
 | e :: r,h=>by
   obtain ⟨h1,h2⟩:=h e (List.mem_cons_self ..)
   rw [moveE,if_neg (by simp [h1]),h2,if_neg (by simp)]
   exact moveE_zero fun x hx=>h x (List.mem_cons_of_mem _ hx)
abbrev movMu (f t:ByteArray):Mu:=.mk 6 f t 0 false zeroV false zeroV []
theorem run_mov (M:List Ent) (f t:ByteArray):runM M (movMu f t)=if mayMu (movMu f t)≠0 then (mayMu (movMu f t),M) else moveM M f t:=rfl
theorem may_mov (f t:ByteArray):mayMu (movMu f t)=if begK f && begK t then 0 else 8:=by
 have hb:bareM 6 f t 0 false zeroV false zeroV 0=true:=by unfold bareM;rfl
 unfold mayMu
 rw [if_neg (by rw [sizeM,sizeMs];decide),lookM]
 rw [show (([]:List Mu).length)=0 from rfl,hb]
 have hk:keyM 6 f t false=(begK f && begK t):=by unfold keyM;rw [if_pos rfl]
 rw [hk]
 cases hq:(begK f && begK t) with
 | false=>rfl
 | true=>rfl
abbrev kAi:ByteArray:=⟨#[97,47,49]⟩
abbrev kB1:ByteArray:=⟨#[98,47,49]⟩
abbrev kL1:ByteArray:=⟨#[108]⟩
abbrev kX1:ByteArray:=⟨#[120]⟩
abbrev kY1:ByteArray:=⟨#[121]⟩
abbrev kAs:ByteArray:=⟨#[97,47]⟩
abbrev kBs:ByteArray:=⟨#[98,47]⟩
theorem may_num {n:Int} {q:Nat} (hq:q≤64):mayV (numV n) q=0:=by
 rw [numV,mayV]
 rw [show oddS 3 false n ByteArray.empty ([]:List Val).length ([]:List ByteArray).length=false by simp [oddS]]
 rw [if_neg (by simp),if_neg (by omega)]
 rfl
theorem fit_num {n:Int} (h0 : -9223372036854775808≤n) (h1:n≤9223372036854775807):fitV (numV n)=0:=by
 have hl:=Lib.itoa_length_le n h0 h1
 unfold fitV
 rw [if_neg (by simp [may_num (n:=n) (q:=1) (by decide)]),if_neg (by rw [numV,deepV];decide),if_neg]
 rw [numV,lenV,if_neg (by decide),if_pos rfl]
 omega
theorem wf_num (n:Int):wfV (numV n):=by unfold numV wfV;exact ⟨rfl,by unfold wfLV;trivial,by unfold wfLV;trivial⟩
theorem ok_num {n:Int} (h0 : -9223372036854775808≤n) (h1:n≤9223372036854775807):okV (numV n):=⟨wf_num n,fit_num h0 h1⟩
theorem ok_row {l:List Int} (h:∀ n∈l,-9223372036854775808≤n∧n≤9223372036854775807) (hl:l.length≤40):okV (rowV (l.map numV)):=by
 have hm:∀ {l:List Int},mayLV (l.map numV) 2=0:=by
  intro l
  induction l with
  | nil=>rw [List.map_nil,mayLV]
  | cons a r ih=>rw [List.map_cons,mayLV,may_num (by decide),if_neg (by simp)];exact ih
 have hd:∀ {l:List Int},deepL (l.map numV)≤1:=by
  intro l
  induction l with
  | nil=>rw [List.map_nil,deepL];omega
  | cons a r ih=>
    rw [List.map_cons,deepL]
    have:deepV (numV a)=1:=by rw [numV,deepV];rfl
    omega
 have hn:∀ {l:List Int},(∀ n∈l,-9223372036854775808≤n∧n≤9223372036854775807)→lenL (l.map numV)≤21*l.length:=by
  intro l
  induction l with
  | nil=>intro _;rw [List.map_nil,lenL];omega
  | cons a r ih=>
    intro h
    have h1:=h a (List.mem_cons_self ..)
    have h2:=ih fun n hn=>h n (List.mem_cons_of_mem _ hn)
    have h3:lenV (numV a)=(Lib.itoa a).length:=by rw [numV,lenV,if_neg (by decide),if_pos rfl]
    have h4:=Lib.itoa_length_le a h1.1 h1.2
    rw [List.map_cons,lenL,List.length_cons];omega
 refine ⟨?_,?_⟩
 ·unfold rowV wfV
  refine ⟨rfl,wfLV_of fun j d hj=>?_,by unfold wfLV;trivial⟩
  rw [List.getElem?_map] at hj
  cases hg:l[j]? with
  | none=>rw [hg] at hj;cases hj
  | some n=>rw [hg] at hj;injection hj with hj;rw [←hj];exact wf_num n
 have h1:mayV (rowV (l.map numV)) 1=0:=by
  rw [rowV,mayV]
  rw [show oddS 5 false 0 ByteArray.empty (l.map numV).length ([]:List ByteArray).length=false by simp [oddS]]
  rw [if_neg (by simp),if_neg (by omega),if_neg (by decide),if_pos rfl]
  exact hm
 have h2:deepV (rowV (l.map numV))≤2:=by rw [rowV,deepV,if_pos rfl];have:=hd (l:=l);omega
 have h3:lenV (rowV (l.map numV))≤1024:=by
  rw [rowV,lenV,if_neg (by decide),if_neg (by decide),if_neg (by decide),if_pos rfl,List.length_map]
  have:=hn h
  omega
 unfold fitV
 rw [if_neg (by simp [h1]),if_neg (by omega),if_neg (by omega)]
abbrev incMu (k:ByteArray) (n:Int):Mu:=.mk 3 k ByteArray.empty n false zeroV false zeroV []
abbrev delMu (k:ByteArray):Mu:=.mk 2 k ByteArray.empty 0 false zeroV false zeroV []
abbrev casMu (k:ByteArray) (v:Val):Mu:=.mk 4 k ByteArray.empty 0 true v false zeroV []
abbrev addMu (k:ByteArray) (v:Val):Mu:=.mk 5 k ByteArray.empty 0 false zeroV false v []
theorem may_flat {kd:Int} {k tk:ByteArray} {i:Int} {had:Bool} {was:Val} {has:Bool} {v:Val} (hb:bareM kd k tk i had was has v 0=true) (hk:keyM kd k tk had=true) (hw:had=true→fitV was=0) (hv:valM kd has=true→fitV v=0):mayMu (.mk kd k tk i had was has v [])=0:=by
 unfold mayMu
 rw [if_neg (by rw [sizeM,sizeMs];decide),lookM,show (([]:List Mu).length)=0 from rfl,hb,hk]
 rw [if_neg (by simp),if_neg (by decide),if_neg (by simp)]
 rw [if_neg (fun h=>by simp only [Bool.and_eq_true] at h;rw [hw h.1] at h;simp at h),if_neg (fun h=>by simp only [Bool.and_eq_true] at h;rw [hv h.1] at h;simp at h),lookMs]
theorem nilV_zero:nilV zeroV=true:=by decide
theorem may_key {k:ByteArray} {kd:Int} {had:Bool} (h:mayK k=0) (h6:kd≠6) (h0:k.size≠0):keyM kd k ByteArray.empty had=true:=by
 unfold keyM
 rw [if_neg h6,if_neg (fun e=>h0 e.2),h];rfl
theorem may_incM {k:ByteArray} {n:Int} (h:mayK k=0) (h0:k.size≠0):mayMu (incMu k n)=0:=
 may_flat (by simp [bareM,nilV_zero]) (may_key h (by decide) h0) (fun h=>by cases h) (fun h=>by simp [valM] at h)
theorem may_delM {k:ByteArray} (h:mayK k=0) (h0:k.size≠0):mayMu (delMu k)=0:=
 may_flat (by simp [bareM,nilV_zero]) (may_key h (by decide) h0) (fun h=>by cases h) (fun h=>by simp [valM] at h)
theorem may_casM {k:ByteArray} {v:Val} (h:mayK k=0) (h0:k.size≠0) (hv:fitV v=0):mayMu (casMu k v)=0:=
 may_flat (by simp [bareM,nilV_zero]) (may_key h (by decide) h0) (fun _=>hv) (fun h=>by simp [valM] at h)
theorem may_addM {k:ByteArray} {v:Val} (h:mayK k=0) (h0:k.size≠0) (hv:fitV v=0):mayMu (addMu k v)=0:=
 may_flat (by simp [bareM,nilV_zero]) (may_key h (by decide) h0) (fun h=>by cases h) (fun _=>hv)
theorem run_inc {M:List Ent} {k:ByteArray} {n:Int} (h:mayK k=0) (h0:k.size≠0):runM M (incMu k n)=incM M k n:=by
 unfold runM
 rw [if_neg (by simp [may_incM h h0]),stepM,if_neg (by decide),if_neg (by decide),if_pos rfl]
theorem mA:mayK kAi=0:=by decide +kernel
theorem mB:mayK kB1=0:=by decide +kernel
theorem mL:mayK kL1=0:=by decide +kernel
theorem mX:mayK kX1=0:=by decide +kernel
theorem mY:mayK kY1=0:=by decide +kernel
theorem kltAL:klt kAi kL1=true:=by decide +kernel
theorem kltAX:klt kAi kX1=true:=by decide +kernel
theorem kltLX:klt kL1 kX1=true:=by decide +kernel
theorem kltLB:klt kL1 kB1=false:=by decide +kernel
theorem kltLL:klt kL1 kL1=false:=by decide +kernel
theorem kltXX:klt kX1 kX1=false:=by decide +kernel
abbrev rows13 (a:ByteArray) (v:List Val) (n:Int):List Ent:=[(a,numV 5),(kL1,rowV v),(kX1,numV n)]
theorem okM13:OkM (rows13 kAi [] 1):=by
 refine ⟨?_,fun e he=>?_⟩
 ·unfold Sorted
  simp [kltAL,kltAX,kltLX]
 simp only [List.mem_cons,List.not_mem_nil,or_false] at he
 rcases he with rfl | rfl | rfl
 ·exact ⟨mA,ok_num (by decide) (by decide)⟩
 ·exact ⟨mL,ok_row (l:=[]) (by simp) (by simp)⟩
 exact ⟨mX,ok_num (by decide) (by decide)⟩
theorem neAX:kAi≠kX1:=by decide
theorem neLX:kL1≠kX1:=by decide
theorem neAL:kAi≠kL1:=by decide
theorem r1_13:runM (rows13 kAi [] 1) (incMu kX1 2)=(0,rows13 kAi [] 3):=by
 rw [run_inc mX (by decide)]
 have hg:getE (rows13 kAi [] 1) kX1=some (numV 1):=by simp [getE,neAX,neLX]
 unfold incM
 rw [hg]
 show (if (3:Int)≠3 then _ else addM _ _ 1 2)=_
 rw [if_neg (by simp)]
 unfold addM
 rw [if_neg (by decide)]
 unfold setMu
 have hf:fitV (intV 3)=0:=fit_num (n:=3) (by decide) (by decide)
 rw [if_neg (by simp [mX]),if_neg (by simp [hf])]
 simp [insE,kltAX,kltLX,kltXX]
 rfl
theorem r2_13:runM (rows13 kAi [] 3) (addMu kL1 (numV 7))=(0,rows13 kAi [numV 7] 3):=by
 unfold runM
 rw [if_neg (by simp [may_addM mL (by decide) (fit_num (n:=7) (by decide) (by decide))]),stepM,if_neg (by decide),if_neg (by decide),if_neg (by decide),if_neg (by decide),if_pos rfl]
 have hg:getE (rows13 kAi [] 3) kL1=some (rowV []):=by simp [getE,neAL]
 unfold appM
 rw [hg]
 show (if (5:Int)≠5 then _ else rowM _ _ [] _)=_
 rw [if_neg (by simp)]
 unfold rowM
 rw [if_neg (by simp)]
 unfold setMu
 have hf:fitV (rowV [numV 7])=0:=(ok_row (l:=[7]) (by simp) (by simp)).2
 rw [if_neg (by simp [mL]),if_neg (by simp [hf])]
 simp [insE,kltAL,kltLL]
theorem begA:beginsO kAs kAi=true:=by rw [beg_list];decide
theorem begL:beginsO kAs kL1=false:=by rw [beg_list];decide
theorem begX:beginsO kAs kX1=false:=by rw [beg_list];decide
theorem turnA:turnK kAs kBs kAi=kB1:=by
 apply ByteArray.ext
 apply Array.toList_inj.1
 rw [turnK_list]
 rfl
theorem r3_13:runM (rows13 kAi [numV 7] 3) (movMu kAs kBs)=(0,rows13 kB1 [numV 7] 3):=by
 rw [run_mov,may_mov]
 have hk:(begK kAs && begK kBs)=true:=by decide +kernel
 rw [hk,if_pos rfl,if_neg (by simp)]
 have hg:goneM (rows13 kAi [numV 7] 3) kAs=[(kAi,numV 5)]:=by unfold goneM;simp [begA,begL,begX]
 have hr:restM (rows13 kAi [numV 7] 3) kAs=[(kL1,rowV [numV 7]),(kX1,numV 3)]:=by unfold restM;simp [begA,begL,begX]
 unfold moveM
 rw [hg,hr]
 have hz:moveE (rows13 kAi [numV 7] 3) kAs kBs [(kAi,numV 5)]=0:=moveE_zero fun e he=>by
  rw [List.mem_singleton.1 he]
  show mayK (turnK kAs kBs kAi)=0∧_
  rw [turnA]
  refine ⟨mB,?_⟩
  have:getE (rows13 kAi [numV 7] 3) kB1=none:=by
   simp [getE,show kAi≠kB1 by decide,show kL1≠kB1 by decide,show kX1≠kB1 by decide]
  rw [this]
  rfl
 rw [hz,if_neg (by simp)]
 show (0,putAll _ [(turnK kAs kBs kAi,numV 5)])=_
 rw [turnA]
 simp [putAll,insE,kltLB,show kL1≠kB1 by decide]
theorem del13:(runM (rows13 kAi [] 1) (delMu kY1)).1=12:=by
 unfold runM
 rw [if_neg (by simp [may_delM mY (by decide)]),stepM,if_neg (by decide),if_pos rfl]
 have hg:getE (rows13 kAi [] 1) kY1=none:=by simp [getE,show kAi≠kY1 by decide,show kL1≠kY1 by decide,show kX1≠kY1 by decide]
 rw [hg];rfl
theorem cas13:(runM (rows13 kAi [] 1) (casMu kX1 (numV 2))).1=13:=by
 unfold runM
 rw [if_neg (by simp [may_casM mX (by decide) (fit_num (n:=2) (by decide) (by decide))]),stepM,if_neg (by decide),if_neg (by decide),if_neg (by decide),if_pos rfl]
 have hg:getE (rows13 kAi [] 1) kX1=some (numV 1):=by simp [getE,neAX,neLX]
 have ha:asM (rows13 kAi [] 1) kX1 true (numV 2)=false:=by
  unfold asM
  rw [hg]
  have:cmpV (numV 1) (numV 2)≠0:=by decide +kernel
  simp [this]
 rw [ha];rfl
theorem ink13:(runM (rows13 kAi [] 1) (incMu kL1 1)).1=9:=by
 rw [run_inc mL (by decide)]
 have hg:getE (rows13 kAi [] 1) kL1=some (rowV []):=by simp [getE,neAL]
 unfold incM
 rw [hg]
 rfl
end Go.Proofs.YtkhdiakpdafcdaaGreatDoor
namespace Go.Proofs.YtkhdiakpdafcdaaGreatDoor
open Go.RowKit Go.Maps Go.Shelf
set_option linter.unusedVariables false
set_option linter.unusedSimpArgs false
structure WV where
 v:Val
 sl:Sl
 so:Sl
def WV.cells (x:WV):List Value:=[.int .i64 x.v.kind,.bool x.v.b,.int .i64 x.v.i,.string x.v.t,.slice x.sl.a x.v.l.length x.sl.c,.slice x.so.a x.v.ok.length x.so.c]
def flatW (xs:List WV):List Value:=xs.flatMap WV.cells
theorem flatW_cons (x:WV) (xs:List WV):flatW (x :: xs)=x.cells++flatW xs:=by simp [flatW]
theorem flatW_snoc (xs:List WV) (y:WV):flatW (xs++[y])=flatW xs++y.cells:=by simp [flatW]
theorem WV.len (x:WV):x.cells.length=6:=rfl
theorem WV.one (x:WV):∀ u∈x.cells,u.oneCell'=true:=by
 intro u hu
 simp only [WV.cells,List.mem_cons,List.not_mem_nil,or_false] at hu
 rcases hu with rfl | rfl | rfl | rfl | rfl | rfl <;> rfl
theorem flatW_len (xs:List WV):(flatW xs).length=xs.length*6:=by
 induction xs with
 | nil=>rfl
 | cons x xs ih=>rw [flatW_cons,List.length_append,ih,WV.len,List.length_cons];omega
theorem flatW_at:∀ {xs:List WV} {i:Nat} {x:WV},xs[i]? = some x→∀ c,c<6→(flatW xs)[i*6+c]? = x.cells[c]?
 | [],i,x,h,_,_=>by simp at h
 | y :: ys,0,x,h,c,hc=>by
   simp at h;subst h
   rw [flatW_cons,Nat.zero_mul,Nat.zero_add,List.getElem?_append_left (by rw [WV.len];exact hc)]
 | y :: ys,i+1,x,h,c,hc=>by
   simp at h
   rw [flatW_cons,List.getElem?_append_right (by rw [WV.len];omega),WV.len,show (i+1)*6+c - 6=i*6+c from by omega]
   exact flatW_at h c hc
theorem rd_cells {w:World} {F:Nat→Prop} {s:Sl} {xs:List WV} (h:Rd w F 6 s xs.length (flatW xs)):∃ b o,SlAt F s xs.length b o∧∀ j x,xs[j]? = some x→VCells w b (o+j*6) x.v x.sl x.so:=by
 obtain ⟨b,o,h1,h2,h3⟩:=h
 refine ⟨b,o,h1,fun j x hx=>?_⟩
 have hc:∀ c,c<6→∀ u,x.cells[c]? = some u→w.cell? ⟨b,o+j*6+c,none⟩=some u:=fun c hc u hu=>by
  rw [Nat.add_assoc]
  exact h3 _ u (by rw [flatW_at hx c hc];exact hu)
 exact ⟨hc 0 (by decide) _ rfl,hc 1 (by decide) _ rfl,hc 2 (by decide) _ rfl,hc 3 (by decide) _ rfl,hc 4 (by decide) _ rfl,hc 5 (by decide) _ rfl⟩
theorem rd_wv {w:World} {F:Nat→Prop} {s:Sl} {xs:List WV} {b o:Nat} (h:SlAt F s xs.length b o) (hc:∀ j x,xs[j]? = some x→VCells w b (o+j*6) x.v x.sl x.so):Rd w F 6 s xs.length (flatW xs):=by
 refine ⟨b,o,h,flatW_len xs,fun p u hu=>?_⟩
 have hp:=(List.getElem?_eq_some_iff.1 hu).1
 rw [flatW_len] at hp
 obtain ⟨j,c,rfl,hc6⟩:∃ j c,p=j*6+c∧c<6:=⟨p / 6,p % 6,by omega,by omega⟩
 obtain ⟨x,hx⟩:∃ x,xs[j]? = some x:=⟨_,List.getElem?_eq_getElem (by omega)⟩
 have e:=hc _ _ hx
 rw [flatW_at hx c hc6] at hu
 rw [←Nat.add_assoc]
 have hc':c=0∨c=1∨c=2∨c=3∨c=4∨c=5:=by omega
 rcases hc' with rfl | rfl | rfl | rfl | rfl | rfl
 ·exact e.c0.trans hu
 ·exact e.c1.trans hu
 ·exact e.c2.trans hu
 ·exact e.c3.trans hu
 ·exact e.c4.trans hu
 exact e.c5.trans hu
def wl (l:List Val) (c:Nat→Sl × Sl):List WV:=l.mapIdx fun j d=>⟨d,(c j).1,(c j).2⟩
theorem wl_len (l:List Val) (c:Nat→Sl × Sl):(wl l c).length=l.length:=by simp [wl]
theorem wl_v (l:List Val) (c:Nat→Sl × Sl):(wl l c).map WV.v=l:=by
 unfold wl
 apply List.ext_getElem?
 intro j
 rw [List.getElem?_map,List.getElem?_mapIdx]
 cases l[j]? <;> rfl
theorem wl_at {l:List Val} {c:Nat→Sl × Sl} {j:Nat} {x:WV} (h:(wl l c)[j]? = some x):l[j]? = some x.v∧x.sl=(c j).1∧x.so=(c j).2:=by
 unfold wl at h
 rw [List.getElem?_mapIdx] at h
 cases hl:l[j]? with
 | none=>rw [hl] at h;cases h
 | some d=>rw [hl] at h;cases h;exact ⟨rfl,rfl,rfl⟩
theorem decode_le4 (s:ByteArray) (p:Nat):(Utf8.decode s p).2≤4:=by
 rw [Lib.decode_at]
 unfold Lib.decodeN
 repeat' split
 all_goals simp
theorem encode_pos (r:Nat):1≤(Lib.encodeRune (r:Int)).length:=by
 have:=Lib.runeCells_le (r:Int)
 rw [Lib.runeCells_length] at this
 exact this.1
theorem quoteR_pos (r:Nat):1≤(quoteR r).length:=by
 unfold quoteR
 split
 ·exact encode_pos r
 split <;> simp
theorem quoteL_ge (s:ByteArray):∀ (f p:Nat),s.size≤p+f→Lib.validD (s.data.toList.drop p)=true→s.size - p≤4*(quoteL (runesAt s f p)).length
 | 0,p,h,_=>by omega
 | f+1,p,h,hv=>by
   by_cases hp:s.size≤p
   ·omega
   have hs:s.data.toList.length=s.size:=Array.length_toList
   have hne:s.data.toList.drop p≠[]:=fun e=>by
    have:=congrArg List.length e
    rw [List.length_drop,hs] at this
    simp at this;omega
   rw [Lib.validD_step _ hne,Lib.decodeL_drop] at hv
   split at hv
   ·cases hv
   rename_i hn
   rw [List.drop_drop] at hv
   have hd:Utf8.decode s p≠(65533,1):=fun e=>hn (by rw [e];exact ⟨rfl,rfl⟩)
   have h1:=Lib.width_pos s p
   have h4:=decode_le4 s p
   have ih:=quoteL_ge s f (p+(Utf8.decode s p).2) (by omega) hv
   rw [runesAt,if_neg hp,if_neg hd]
   have hq:(quoteL ((p,(Utf8.decode s p).1) :: runesAt s f (p+(Utf8.decode s p).2))).length=(quoteR (Utf8.decode s p).1).length+(quoteL (runesAt s f (p+(Utf8.decode s p).2))).length:=by simp [quoteL]
   rw [hq]
   have:=quoteR_pos (Utf8.decode s p).1
   omega
theorem quoteA_ge {s:ByteArray} (h:Lib.validD s.data.toList=true):s.size+8≤4*(quoteA s).size:=by
 have h1:=quoteL_ge s s.size 0 (by omega) (by rw [List.drop_zero];exact h)
 unfold quoteA
 rw [if_pos h]
 show s.size+8≤4*((quoteS s).toArray.size)
 rw [List.size_toArray]
 unfold quoteS runesS
 simp only [List.length_append,List.length_cons,List.length_nil]
 omega
theorem itoa_pos (n:Int):1≤(Lib.itoa n).length:=by
 unfold Lib.itoa
 have:∀ u,1≤(Lib.decDigits u).length:=fun u=>by
  rw [Lib.decDigits_length]
  unfold Lib.nDigits
  repeat' split
  all_goals omega
 split
 ·rw [List.length_cons];omega
 exact this _
mutual
theorem cnt_lenV:∀ (v:Val) (q:Nat),wfV v→mayV v q=0→cntV v≤7*lenV v
 | .mk k b i t l ok ov,q,hw,h=>by
   obtain ⟨hov,hl,ho⟩:=hw
   rw [mayV] at h
   split at h
   ·cases h
   rename_i hodd
   split at h
   ·cases h
   unfold oddS at hodd
   split at hodd
   ·exact absurd rfl hodd
   rename_i hk
   simp only [Bool.or_eq_true,Bool.and_eq_true,bne_iff_ne,ne_eq,not_or,not_and,Decidable.not_not] at hodd
   obtain ⟨⟨⟨⟨o2,o3⟩,o4⟩,o5⟩,o6⟩:=hodd
   have e4:k≠4→t.size=0:=o4
   have e5:k≠5→l=[]:=fun h5=>List.eq_nil_of_length_eq_zero (o5 h5)
   have e6:k≠6→ov=[]:=fun h6=>List.eq_nil_of_length_eq_zero (by have:=o6 h6;omega)
   rw [cntV,lenV]
   by_cases k2:k=2
   ·have:4≤lenB b:=by cases b <;> decide
    rw [if_pos k2,e4 (by omega),e5 (by omega),e6 (by omega)]
    simp only [cntL,cntM];omega
   rw [if_neg k2]
   by_cases k3:k=3
   ·have:=itoa_pos i
    rw [if_pos k3,e4 (by omega),e5 (by omega),e6 (by omega)]
    simp only [cntL,cntM];omega
   rw [if_neg k3]
   by_cases k4:k=4
   ·rw [if_pos k4] at h
    have hv:Lib.validD t.data.toList=true:=by
     cases hv:Lib.validD t.data.toList with
     | true=>rfl
     | false=>rw [hv] at h;simp at h
    have:=quoteA_ge hv
    rw [if_pos k4,e5 (by omega),e6 (by omega)]
    simp only [cntL,cntM];omega
   rw [if_neg k4] at h ⊢
   by_cases k5:k=5
   ·rw [if_pos k5] at h ⊢
    have:=cnt_lenL l (q+1) hl h
    rw [e4 (by omega),e6 (by omega)]
    simp only [cntM];omega
   rw [if_neg k5] at h ⊢
   by_cases k6:k=6
   ·rw [if_pos k6] at h ⊢
    have:=cnt_lenM none ok ov (q+1) ho h
    rw [e4 (by omega),e5 (by omega)]
    simp only [cntL];omega
   rw [if_neg k6,e4 (by omega),e5 (by omega),e6 (by omega)]
   simp only [cntL,cntM];omega
theorem cnt_lenL:∀ (l:List Val) (q:Nat),wfLV l→mayLV l q=0→cntL l≤7*lenL l
 | [],q,_,_=>by simp [cntL]
 | d :: r,q,hw,h=>by
   rw [mayLV] at h
   obtain ⟨hd,hr⟩:=hw
   by_cases h0:mayV d q=0
   ·rw [if_neg (by simp [h0])] at h
    have h1:=cnt_lenV d q hd h0
    have h2:=cnt_lenL r q hr h
    rw [cntL,lenL];omega
   rw [if_pos h0] at h;exact absurd h h0
theorem cnt_lenM:∀ (p:Option ByteArray) (ks:List ByteArray) (l:List Val) (q:Nat),wfLV l→mayM p ks l q=0→cntM ks l≤7*lenM ks l
 | p,ks,[],q,_,_=>by simp [cntM]
 | p,ks,d :: r,q,hw,h=>by
   rw [mayM] at h
   obtain ⟨hd,hr⟩:=hw
   split at h
   ·cases h
   rename_i hv
   split at h
   ·cases h
   by_cases h0:mayV d q=0
   ·rw [if_neg (by simp [h0])] at h
    have h1:=cnt_lenV d q hd h0
    have h2:=cnt_lenM _ ks.tail r q hr h
    have h3:=quoteA_ge (s:=ks.headD ByteArray.empty) (by simpa using hv)
    rw [cntM,lenM];omega
   rw [if_pos h0] at h;exact absurd h h0
end
theorem okV.cnt {v:Val} (h:okV v):cntV v≤7168:=by
 have h1:=cnt_lenV v 1 h.1 h.may
 have h2:=h.2
 unfold fitV at h2
 split at h2
 ·exact absurd h2 (by assumption)
 split at h2
 ·cases h2
 split at h2
 ·cases h2
 omega
theorem zero_any (w:World) (v:Val) (sl so:Sl):Calls Tryz.prog 172 #[aggV v sl so] w fun e w'=>e=.returned (.bool (nilV v))∧Ext w w':=by
 obtain ⟨k,b,i,t,l,ok,ov⟩:=v
 show Calls _ _ #[.agg #[.int .i64 k,.bool b,.int .i64 i,.string t,.slice sl.a l.length sl.c,.slice so.a ok.length so.c]] _ fun e w'=>e=.returned (.bool (k == 0 && !b && i == 0 && t.size == 0 && l.length == 0 && ok.length == 0))∧Ext w w'
 by_cases hk:k=0
 rotate_left
 ·have gk:(k == 0)=false:=beq_eq_false_iff_ne.2 hk
  go_enter Tryz.func172,Tryz.ntmps172
  go_wp2_with fail
  go_ret
  exact ⟨by simp [hk],(Ext.refl w).alloc _ _⟩
 subst hk
 by_cases hb:b=true
 ·subst hb
  go_enter Tryz.func172,Tryz.ntmps172
  go_wp2_with fail
  go_ret
  exact ⟨by simp,(Ext.refl w).alloc _ _⟩
 obtain rfl:b=false:=by simpa using hb
 by_cases hi:i=0
 rotate_left
 ·have gi:(i == 0)=false:=beq_eq_false_iff_ne.2 hi
  go_enter Tryz.func172,Tryz.ntmps172
  go_wp2_with fail
  go_ret
  exact ⟨by simp [hi],(Ext.refl w).alloc _ _⟩
 subst hi
 by_cases ht:t.size=0
 rotate_left
 ·have gt:=full_text ht
  go_enter Tryz.func172,Tryz.ntmps172
  go_wp2_with fail
  go_ret
  exact ⟨by simp [ht],(Ext.refl w).alloc _ _⟩
 have gt:=empty_text ht
 by_cases hl:l.length=0
 rotate_left
 ·have gl:((l.length:Int) == 0)=false:=beq_eq_false_iff_ne.2 (by omega)
  go_enter Tryz.func172,Tryz.ntmps172
  go_wp2_with fail
  go_ret
  exact ⟨by simp [hl],(Ext.refl w).alloc _ _⟩
 have gl:((l.length:Int) == 0)=true:=by rw [hl];rfl
 cases hz:decide (ok.length=0) with
 | true=>
   have ho:ok.length=0:=of_decide_eq_true hz
   have go:((ok.length:Int) == 0)=true:=by rw [ho];rfl
   go_enter Tryz.func172,Tryz.ntmps172
   go_wp2_with fail
   go_ret
   exact ⟨by simp [ht,hl,ho],(Ext.refl w).alloc _ _⟩
 | false=>
   have ho:¬ok.length=0:=of_decide_eq_false hz
   have go:((ok.length:Int) == 0)=false:=beq_eq_false_iff_ne.2 (by omega)
   go_enter Tryz.func172,Tryz.ntmps172
   go_wp2_with fail
   go_ret
   exact ⟨by simp [ho],(Ext.refl w).alloc _ _⟩
theorem commit_none {H:Nat→Prop} {w:World} {O:Nat} {d:OD} (h:OvAt H w O d) (hm:d.mb=none):Calls Tryz.prog 26 #[.pointer (some ⟨O,0,none⟩)] w fun e w'=>e=.returned (treeV d.T)∧Nw w w':=by
 have c0:w.cell? ⟨O,0,none⟩=some (rootV d.T):=h.blk.cell 0
 have c1:w.cell? ⟨O,1,none⟩=some (.map none):=by have:=h.blk.cell 1;rw [hm] at this;exact this
 have lO:=h.blk.lt
 obtain ⟨r,hr⟩:=rootV_ptr d.T
 rw [treeV,hr]
 rw [hr] at c0
 have l1:O<w.heap.size+1:=by omega
 have l2:O<w.heap.size+1+1:=by omega
 clear h hm hr
 go_enter Tryz.func26,Tryz.ntmps26
 go_wp2_with fail
 generalize hW0:World.alloc _ _=W0
 obtain ⟨hx0,hz0,hb0,hb1⟩:=two_blocks w _ _ _ _ W0 hW0
 have HX0:=Lib.hid hx0
 have HB0:=Lib.hid hb0
 have HB1:=Lib.hid hb1
 have HZ0:=Lib.hid hz0
 clear hW0 hx0 hb0 hb1 l1 l2 hz0
 refine ((callsIn_wide (n:=5)).1 (Tryz.maps_KeysO none W0)).mono ?_
 rintro e w' ⟨rfl,rfl⟩
 go_wp2_with fail
 refine ((callsIn_wide (n:=5)).1 (Tryz.slices_Sorted_keys_nilO W0)).mono ?_
 rintro e w2 ⟨v,ss,rfl,rfl,hrow,hnil,hbl⟩
 obtain rfl:=hnil.2 rfl
 have hn2:Nw W0 w2:=(Nw.of ((Ext.refl W0).alloc #[.map none] 80)).trans (Sb.new hbl)
 have hb0:=hn2.blk HB0.out
 have hb1:=hn2.blk HB1.out
 have q0:w2.cell? ⟨w.heap.size,0,none⟩=some (.pointer none):=hb0.cell 0
 have q1:w2.cell? ⟨w.heap.size+1,0,none⟩=some (.pointer r):=hb1.cell 0
 have f0:=hb0.frozen 0
 have k0:=hb0.lt
 have k1:=hb1.lt
 have HN:=Lib.hid (show Nw w (w2.setCell ⟨w.heap.size,0,none⟩ (.pointer r)) from
  (((Nw.of HX0.out).any (fun b=>w.heap.size≤b)).trans (hn2.any _)).set (p:=⟨w.heap.size,0,none⟩) (.inl (Nat.le_refl _)) _ |>.mono fun i hi e=>by omega)
 clear hrow hnil hbl hn2 hb0 hb1 c0 c1
 go_wp2_with fail
 go_loopw [23] (fun q wr=>q=.int .i64 0∧wr=w2) (fun _ _=>0)
 case atStart=>exact ⟨rfl,rfl⟩
 obtain ⟨rfl,rfl⟩:=hrel
 go_wp2_with fail
 refine bodyPost_ret (v:=.agg #[.pointer r]) (by simp [results,Tryz.results26,go_sem,q0]) rfl ?_
 exact ⟨rfl,HN.out⟩
def ownP (C:AL SV) (pre:List LE):List ByteArray:=(pre.filter fun x=>(getA C x.k).isNone).map LE.k
theorem ownP_yes {C:AL SV} {pre:List LE} {x:LE} (h:getA C x.k=none):ownP C (pre++[x])=ownP C pre++[x.k]:=by
 unfold ownP;rw [List.filter_append,List.map_append,List.filter_cons,if_pos (by rw [h];rfl)];rfl
theorem ownP_no {C:AL SV} {pre:List LE} {x:LE} {s:SV} (h:getA C x.k=some s):ownP C (pre++[x])=ownP C pre:=by
 unfold ownP;rw [List.filter_append,List.map_append,List.filter_cons,if_neg (by rw [h];simp)];simp
theorem ownP_len (C:AL SV) (pre:List LE):(ownP C pre).length≤pre.length:=by
 unfold ownP;rw [List.length_map];exact List.length_filter_le _ _
def hitO (C:AL SV) (p k:ByteArray):Bool:=match getA C k with
 | some s=>s.has && beginsO p k
 | none=>false
abbrev textO (l:List UInt8):ByteArray:=⟨l.toArray⟩
def hitsP (C:AL SV) (p:ByteArray) (ss:List (List UInt8)):List ByteArray:=(ss.map textO).filter (hitO C p)
theorem hitsP_yes {C:AL SV} {p:ByteArray} {ss:List (List UInt8)} {x:List UInt8} (h:hitO C p (textO x)=true):hitsP C p (ss++[x])=hitsP C p ss++[textO x]:=by
 unfold hitsP;rw [List.map_append,List.filter_append,List.map_singleton,List.filter_cons,if_pos h];rfl
theorem hitsP_no {C:AL SV} {p:ByteArray} {ss:List (List UInt8)} {x:List UInt8} (h:hitO C p (textO x)=false):hitsP C p (ss++[x])=hitsP C p ss:=by
 unfold hitsP;rw [List.map_append,List.filter_append,List.map_singleton,List.filter_cons,if_neg (by rw [h];simp)];simp
theorem hitsP_len (C:AL SV) (p:ByteArray) (ss:List (List UInt8)):(hitsP C p ss).length≤ss.length:=by
 unfold hitsP
 have:=List.length_filter_le (hitO C p) (ss.map textO)
 rwa [List.length_map] at this
theorem strKeys_mapA (C:AL SV):strKeys (mapA SV.val C)=C.map fun q=>bytesO q.1:=by
 show (C.map (entA SV.val)).map _=_
 rw [List.map_map];rfl
theorem klt_ne {a b:ByteArray} (h:klt a b=true):a≠b:=fun e=>by rw [e,klt_irrefl] at h;cases h
theorem pre_all {d:OD} {p:ByteArray} (hs:Sorted (entsT d.T)) (hC:SortedA d.C) {xs:List LE} (hx:xs.map LE.ent=prefixE p (entsT d.T)) {ss:List (List UInt8)} (hp:ss.Perm (d.C.map fun q=>bytesO q.1)) :
  (ownP d.C xs++hitsP d.C p ss).Nodup∧∀ k,k∈ownP d.C xs++hitsP d.C p ss↔(beginsO p k=true∧(d.now k).isSome=true):=by
 have hsp:(prefixE p (entsT d.T)).Pairwise fun a b=>klt a.1 b.1=true:=hs.sublist (List.filter_sublist ..)
 rw [←hx] at hsp
 have hk1:(xs.map LE.k).Pairwise fun a b=>klt a b=true:=List.pairwise_map.2 (List.pairwise_map.1 hsp)
 have hn1:(ownP d.C xs).Nodup:=((List.pairwise_map.2 ((List.pairwise_map.1 hk1).sublist (List.filter_sublist ..))).imp fun h=>klt_ne h)
 have hnC:(d.C.map fun q=>bytesO q.1).Nodup:=List.pairwise_map.2 (hC.imp fun {a b} h (e:bytesO a.1=bytesO b.1)=>klt_ne h (congrArg textO e:textO (bytesO a.1)=textO (bytesO b.1)))
 have hns:(ss.map textO).Nodup:=List.pairwise_map.2 ((hp.nodup_iff.2 hnC).imp fun {a b} h (e:textO a=textO b)=>h (congrArg bytesO e:bytesO (textO a)=bytesO (textO b)))
 have hn2:(hitsP d.C p ss).Nodup:=hns.sublist (List.filter_sublist ..)
 have hm1:∀ k,k∈ownP d.C xs↔(beginsO p k=true∧(getE (entsT d.T) k).isSome=true∧getA d.C k=none):=fun k=>by
  have hmem:∀ (e:Ent),e∈xs.map LE.ent↔(e∈entsT d.T∧beginsO p e.1=true):=fun e=>by rw [hx];exact List.mem_filter
  unfold ownP
  rw [List.mem_map]
  constructor
  ·rintro ⟨x,hx',rfl⟩
   obtain ⟨h1,h2⟩:=List.mem_filter.1 hx'
   obtain ⟨h3,h4⟩:=(hmem x.ent).1 (List.mem_map_of_mem h1)
   exact ⟨h4,by have:=getE_mem hs h3;rw [show x.ent.1=x.k from rfl] at this;rw [this];rfl,Option.isNone_iff_eq_none.1 h2⟩
  rintro ⟨h1,h2,h3⟩
  obtain ⟨v,hv⟩:=Option.isSome_iff_exists.1 h2
  obtain ⟨x,hx',he⟩:=List.mem_map.1 ((hmem (k,v)).2 ⟨mem_getE hv,h1⟩)
  have hxk:x.k=k:=congrArg Prod.fst he
  exact ⟨x,List.mem_filter.2 ⟨hx',by rw [hxk,h3];rfl⟩,hxk⟩
 have hm2:∀ k,k∈hitsP d.C p ss↔hitO d.C p k=true:=fun k=>by
  unfold hitsP
  rw [List.mem_filter]
  refine ⟨fun h=>h.2,fun h=>⟨?_,h⟩⟩
  unfold hitO at h
  cases hg:getA d.C k with
  | none=>rw [hg] at h;cases h
  | some s=>
    have h5:bytesO k∈ss:=hp.mem_iff.2 (List.mem_map.2 ⟨(k,s),getA_some hg,rfl⟩)
    exact List.mem_map.2 ⟨bytesO k,h5,rfl⟩
 refine ⟨List.nodup_append.2 ⟨hn1,hn2,fun a ha b hb e=>?_⟩,fun k=>?_⟩
 ·subst e
  have h1:=((hm1 a).1 ha).2.2
  have h2:=(hm2 a).1 hb
  unfold hitO at h2
  rw [h1] at h2;cases h2
 rw [List.mem_append,hm1,hm2]
 unfold hitO
 cases hg:getA d.C k with
 | none=>rw [now_none hg];simp
 | some s=>
   rw [now_some hg]
   unfold SV.opt
   cases hh:s.has <;> cases beginsO p k <;> simp [hh]
theorem at_some {C:AL SV} {x:List UInt8} {yd:DataW Value} {yp:List MemPlace} {c:Value} (hat:∀ zd,(mapA SV.val C).atKey (.string x) zd=yd) (hv:heldR c=some (yd,yp)):∃ sv,getA C (textO x)=some sv∧c=sv.val:=by
 have h1:=at_mapA SV.val C (textO x)
 cases hg:getA C (textO x) with
 | none=>
   simp only [hg] at h1
   have a:=(h1 .nil).symm.trans (hat .nil)
   have b:=(h1 (.held (.bool true))).symm.trans (hat _)
   rw [←a] at b
   cases b
 | some s=>
   simp only [hg] at h1
   have a:=(h1 .nil).symm.trans (hat .nil)
   rw [←a] at hv
   exact ⟨s,rfl,heldR_inv hv⟩
theorem hitO_eq {C:AL SV} {p k:ByteArray} {s:SV} (h:getA C k=some s):hitO C p k=(s.has && beginsO p k):=by unfold hitO;rw [h]
theorem nodup_leO {α:Type} [DecidableEq α]:∀ {ss l:List α},ss.Nodup→(∀ x∈ss,x∈l)→ss.length≤l.length
 | [],l,_,_=>Nat.zero_le _
 | a :: ss,l,hn,hs=>by
   have ha:=hs a (List.mem_cons_self ..)
   have hn':=List.nodup_cons.1 hn
   have:=nodup_leO (ss:=ss) (l:=l.erase a) hn'.2 fun x hx=>(List.mem_erase_of_ne (fun e=>hn'.1 (by rw [←e];exact hx))).2 (hs x (List.mem_cons_of_mem _ hx))
   have he:=List.length_erase_of_mem ha
   have:0<l.length:=List.length_pos_of_mem ha
   simp only [List.length_cons]
   omega
theorem collected_short {C:AL SV} {left:Lit→Bool} {ss:List (List UInt8)} (h:Collected (mapA SV.val C) left ss):ss.length≤C.length:=by
 have h2:=nodup_leO (l:=C.map fun q=>bytesO q.1) h.1 fun x hx=>by
  have:=((h.2 x).1 hx).1
  rw [show Lit.string x=keyS (textO x) from rfl,has_mapA] at this
  obtain ⟨s,hs⟩:=Option.isSome_iff_exists.1 this
  exact List.mem_map.2 ⟨(textO x,s),getA_some hs,rfl⟩
 rwa [List.length_map] at h2
def PrePostO (d:OD) (p:ByteArray) (w:World) (e:Ending) (w':World):Prop:=
 ∃ (s:Sl) (ks:List ByteArray),e=.returned (.slice s.a ks.length s.c)∧Nw w w'∧Rd w' (In w.heap.size w'.heap.size) 1 s ks.length (ks.map .string)∧ks.Pairwise (fun x y=>klt x y=true)∧∀ k,k∈ks↔(beginsO p k=true∧(d.now k).isSome=true)
theorem pre_end {d:OD} {p:ByteArray} {w w1 W w5 w6:World} {B:Nat} {s:Sl} {ks ts:List ByteArray} (h1:Nw w w1) (hB:w.heap.size≤B) (hc:CollP w1 B ks s W) (hn:ks.Nodup) (hm:∀ k,k∈ks↔(beginsO p k=true∧(d.now k).isSome=true))
  (hp:ts.Perm ks) (hs:(ts.map bytesO).Pairwise fun x y=>decide (x≤y)=true) (ho:w5.ownsRow (w1.heap.size+2) 9 1 (.slice s.a ts.length s.c) ts.length (ts.map .string)) (hg:W.grownBy w5 s.row) {D:Nat} (h6:Sb (fun b=>b=D) w5 w6) (hD:w1.heap.size=D) :
  PrePostO d p w (.returned (.slice s.a ts.length s.c)) w6:=by
 have hz:=h1.size
 have h5:Sb (fun b=>s.row=some b) W w5:=⟨hg.os,hg.tape,hg.output,hg.size,fun i hi hn=>hg.block i hi fun e=>hn e.symm⟩
 refine ⟨s,ts,rfl,?_,?_,rise_sorted hs (hp.nodup_iff.2 hn),fun k=>(hp.mem_iff).trans (hm k)⟩
 ·have h15:Sb (fun b=>B=b∨w1.heap.size≤b) w1 w6:=((hc.sb.mono fun i _ e=>.inl e.symm).trans (h5.mono fun i _ e=>.inr (by have:=(hc.row e).1;omega))).trans (h6.mono fun i _ e=>.inr (by omega))
  exact ((h1.any (fun b=>w.heap.size≤b)).comp h15 fun i hi e=>by rcases e with e | e <;> omega).mono fun i hi e=>by omega
 have hrow:∀ b,s.row=some b→w1.heap.size+2≤b∧b<w5.heap.size:=fun b hb=>own_row ho hb
 have ho6:=own_agree ho h6.agree fun b hb=>⟨(hrow b hb).2,fun e=>by have:=(hrow b hb).1;omega⟩
 exact (Rd.of_own ho6).mono fun i hi=>⟨by have:=hi.1;omega,hi.2⟩
end Go.Proofs.YtkhdiakpdafcdaaGreatDoor
namespace Go.Proofs.YtkhdiakpdafcdaaGreatDoor
open Go.RowKit Go.Maps Go.Shelf Go.Sort
set_option linter.unusedVariables false
set_option linter.unusedSimpArgs false
attribute [local go_sem] Oper.semAt_some
theorem run_range_nilO (w:World):(Instr.range 80 (.map none)).run Tryz.prog w=.ok (.pointer (some ⟨w.heap.size,0,none⟩)) (w.alloc (.mapIter none 0 #[] 0)):=by
 simp [Instr.range,run_underlying Tryz.underlying80,newObj,Sem.run_bind,Sem.run_pure,Result.andThen]
 rfl
theorem run_next_nilO {w:World} {r:Nat} (h:w.heap[r]? = some (.mapIter none 0 #[] 0)) (ty:TypeId):(Instr.next (.pointer (some ⟨r,0,none⟩)) false ty).run Tryz.prog w=.ok (.tuple #[.bool false]) w:=by
 have hg:(getObj r).run Tryz.prog w=.ok (.mapIter none 0 #[] 0) w:=by simp [getObj,Sem.run,h]
 unfold Instr.next
 simp only [Sem.run_bind,Sem.run_pure,Result.andThen_ok,hg]
theorem ranges_keepO {H:Type} {P:Program} {k:TypeId} {R:Value→Option (DataW H × List MemPlace)} {w w':World} {b r n:Nat} {D:DataW H} {left:Lit→Bool} {cnt:Nat} (h:w.ranges P k R b r n D left cnt) (hb:w'.heap[b]? = w.heap[b]?) (hr:w'.heap[r]? = w.heap[r]?):w'.ranges P k R b r n D left cnt:=by
 obtain ⟨es,clock,since,seen,c0,h1,h2,h3,h4,h5,h6⟩:=h
 exact ⟨es,clock,since,seen,c0,hb.trans h1,h2,h3,h4,hr.trans h5,h6⟩
theorem ranges_ltO {H:Type} {P:Program} {k:TypeId} {R:Value→Option (DataW H × List MemPlace)} {w:World} {b r n:Nat} {D:DataW H} {left:Lit→Bool} {cnt:Nat} (h:w.ranges P k R b r n D left cnt):b<w.heap.size∧r<w.heap.size∧(∀ t cs,¬Blk w b t cs):=by
 obtain ⟨es,clock,since,seen,c0,h1,h2,h3,h4,h5,h6⟩:=h
 refine ⟨(Array.getElem?_eq_some_iff.1 h1).1,(Array.getElem?_eq_some_iff.1 h5).1,fun t cs hb=>?_⟩
 have hb:w.heap[b]? = some (.cells cs t (0,0)):=hb
 rw [h1] at hb;cases hb
structure PreL (w1:World) (B r b D:Nat) (C:AL SV) (p:ByteArray) (ks1:List ByteArray) (left:Lit→Bool) (cnt:Nat) (ss:List (List UInt8)) (s:Sl) (wr:World):Prop where
 col:CollP w1 B (ks1++hitsP C p ss) s wr
 rg:wr.ranges Tryz.prog 9 heldR b r C.length (mapA SV.val C) left cnt
 co:Collected (mapA SV.val C) left ss
 ne:s.row≠some r
 dk:wr.heap[D]? = some (.deferred (some []))
theorem prefix_ov {H:Nat→Prop} {w:World} {O:Nat} {d:OD} (h:OvAt H w O d) (hl:(entsT d.T).length≤1000000) (hn:d.us.length≤1000000) {p:ByteArray} (hp:p.size≤maxLen) :
  Calls Tryz.prog 124 #[.pointer (some ⟨O,0,none⟩),.string p] w (PrePostO d p w):=by
 obtain ⟨i0,hi,hz0,hz1,hz2⟩:=info_parts Tryz.infoStringO
 have hF:∀ b,OvF H w O d b→b<w.heap.size:=fun b hb=>hb.1
 have hra:=fun W=>prefix_any W d.T p hp
 have hse:=fun W1 (hA:Agree (Lt w.heap.size) w W1) (hz:w.heap.size≤W1.heap.size) B lo hi op (hB:RangeB W1 B d.T lo hi op)=>range_seq (lo:=lo) (hi:=hi) (op:=op) (show TreeAt (OvF H w O d) d.T W1 from ⟨h.tree.agree (hA.mono hF),fun b hb=>Nat.lt_of_lt_of_le (hF b hb) hz⟩) h.ok hl hB
 obtain ⟨r,hpr⟩:=rootV_ptr d.T
 simp only [treeV,hpr] at hra
 have c0:w.cell? ⟨O,0,none⟩=some (.pointer r):=by rw [←hpr];exact h.blk.cell 0
 have lO:=h.blk.lt
 have l1:O<w.heap.size+1:=by omega
 have HAT:=Lib.hid h
 have HFL:=Lib.hid hF
 have HRA:=Lib.hid hra
 have HSE:=Lib.hid hse
 clear h hF hra hse hpr
 refine (callsIn_wide (n:=6)).1 ?_
 refine callsIn_of_wp_marks Tryz.func124 rfl trivial ?_ rfl
 simp only [Tryz.ntmps124,List.size_toArray,List.length_cons,List.length_nil,Nat.reduceAdd,Nat.reduceSub,Array.replicate_succ,Array.replicate_zero,List.push_toArray,List.append_toArray,List.nil_append,List.cons_append]
 gi_wp2_with fail
 generalize hW0:World.alloc (World.alloc _ _) _=W0
 obtain ⟨hx0,hz0',hb0,hb1⟩:=two_blocks w _ _ _ _ W0 hW0
 have HX0:=Lib.hid hx0
 have HB0:=Lib.hid hb0
 have HB1:=Lib.hid hb1
 clear hW0 hx0 hb0 hb1
 refine ⟨trivial,?_⟩
 refine (callsIn_wide.2 (HRA.out W0)).mono ?_
 rintro e w1 ⟨B,en,op,rfl,hbw,hrb,hB,hpe⟩
 have hbw1:=Bw.trans HX0.out.below hbw
 have hn1:Nw w w1:=(Nw.of HX0.out).trans (Sb.new hbw)
 have HOV:=Lib.hid (HAT.out.nw hn1)
 have hC0:Blk w1 w.heap.size 36 #[.pointer (some ⟨O,0,none⟩)]:=HB0.out.agree (Agree.of_below hbw (F:=Lt W0.heap.size) fun _ h=>h) (by show _<_;omega)
 have hC1:Blk w1 (w.heap.size+1) 93 #[.slice none 0 0]:=HB1.out.agree (Agree.of_below hbw (F:=Lt W0.heap.size) fun _ h=>h) (by show _<_;omega)
 have HSQ:=Lib.hid (HSE.out w1 (Agree.of_below hbw1 (F:=Lt w.heap.size) fun _ h=>h) hbw1.size B p en op hrb)
 have HN1:=Lib.hid hn1
 have HC0:=Lib.hid hC0
 have HC1:=Lib.hid hC1
 have HPE:=Lib.hid (hpe (entsT d.T))
 have hBl:=hrb.lt
 have hs1:=hbw1.size
 have hl0:w.heap.size<w1.heap.size:=hC0.lt
 have hl1:w.heap.size+1<w1.heap.size:=hC1.lt
 clear hbw hrb HRA HSE hbw1 hC0 hC1 hpe HB0 HB1 hn1
 rw [HPE.out] at HSQ
 gi_wp2_with fail
 refine wpIn_rangeC (gf:=241) (lb:=rangeL B) rfl (enters_of Tryz.func241 (by kernel_rfl) rfl) HSQ.out (Agree.refl _) (Nat.le_refl _)
  (fun b hb=>hb.elim (fun h=>by have:=HFL.out b h;omega) (fun h=>by omega)) (fun _=>rfl)
  (fun pre C W=>∃ s:Sl,C=(fun b=>b=w.heap.size+1∨s.row=some b)∧CollP w1 (w.heap.size+1) (ownP d.C pre) s W) (fun _ _ _=>False) (fun b=>b=w.heap.size+1)
  (fun b hb=>⟨by omega,fun h=>h.elim (fun h=>by have:=HFL.out b h;omega) (fun h=>by omega)⟩)
  (fun h k=>?turn) (fun h k=>h) (fun W hW hz=>⟨Sl.none,by funext b;simp [Sl.row],CollP.start HC1.out hW hz⟩) ?round ?done ?stop
 case turn=>
  obtain ⟨s,e,hc⟩:=h
  exact ⟨s,e,hc.keep k.sb (by omega) (fun b hb=>by have:=(hc.row hb).1;omega) fun b hb=>by omega⟩
 case stop=>
  rintro D c pre W hD hSp hX hDk
  exact hX.elim
 case round=>
  rintro pre C x W0' W1 ⟨s,rfl,hcp⟩ hlt hsz hnL hx01 hG
  obtain ⟨ks,hks⟩:∃ ks,ownP d.C pre=ks:=⟨_,rfl⟩
  have hkl:ks.length<1000000:=by
   have h1:=(List.getElem?_eq_some_iff.1 hG.at_).1
   have h2:=ownP_len d.C pre
   have h3:(prefixE p (entsT d.T)).length≤1000000:=Nat.le_trans (List.length_filter_le _ _) hl
   rw [←hks];omega
  have hkm:=hG.key
  rw [hks] at hcp
  have hcp1:=hcp.ext hx01
  have HCP:=Lib.hid hcp1
  have HKS:=Lib.hid hks
  clear hcp hcp1 hx01 hG hnL hlt hks
  gi_wp2_with fail
  refine ⟨Ext.refl _,fun W3 k3=>?_⟩
  have hcp3:=HCP.out.keep k3.sb (by omega) (fun b hb=>by have:=(HCP.out.row hb).1;omega) fun b hb=>by omega
  have hsb3:=hcp3.sb
  have q0:W3.cell? ⟨w.heap.size,0,none⟩=some (.pointer (some ⟨O,0,none⟩)):=(hsb3.blk HC0.out (by omega)).cell 0
  have q1:W3.cell? ⟨O,1,none⟩=some (.map d.mb):=(hsb3.blk HOV.out.blk (by omega)).cell 1
  have lq:O<W3.heap.size:=(hsb3.blk HOV.out.blk (by omega)).lt
  have hmap:OvMap W3 d.mb d.C:=HOV.out.map.heap fun b hb=>hsb3.block b (HOV.out.map.lt hb) fun e=>by have:=HAT.out.map.lt hb;omega
  have hlk:=look_ov hmap hkm
  have HCP3:=Lib.hid hcp3
  have hrow3:∀ b,s.row=some b→w1.heap.size+2≤b∧b<W3.heap.size:=fun b hb=>hcp3.row hb
  have c3:W3.cell? ⟨w.heap.size+1,0,none⟩=some (.slice s.a ks.length s.c):=hcp3.blk.cell 0
  have f3:W3.frozen? ⟨w.heap.size+1,0,none⟩=false:=hcp3.blk.frozen 0
  have l3:=hcp3.blk.lt
  cases hg:getA d.C x.k with
  | some sv=>
    rw [hg,show hadA d.C x.k=sv by rw [hadA,hg];rfl] at hlk
    obtain ⟨has,v,sl,so⟩:=sv
    have HG:=Lib.hid hg
    clear hg hcp3 hsb3 hmap
    gi_wp2_with fail
    have hx4:=(Ext.refl W3).alloc #[.bool has,.int .i64 v.kind,.bool v.b,.int .i64 v.i,.string v.t,.slice sl.a v.l.length sl.c,.slice so.a v.ok.length so.c] 89
    exact ⟨_,⟨s,rfl,by rw [ownP_no HG.out,HKS.out];exact HCP3.out.ext hx4⟩,hx4.st _,fun b hb=>.inl hb,fun b hb=>by
     have:=hx4.size
     rcases hb with e | e
     ·omega
     have:=(hrow3 b e).2;omega⟩
  | none=>
    rw [hg,show hadA d.C x.k=zeroSV by rw [hadA,hg];rfl] at hlk
    have hx34:Ext W3 ((W3.alloc (.cells #[.bool false,.int .i64 0,.bool false,.int .i64 0,.string ByteArray.empty,.slice none 0 0,.slice none 0 0] 89)).alloc (.cells #[.string x.k] 9)):=((Ext.refl W3).alloc _ _).alloc _ _
    have hown4:=own_agree hcp3.own (hx34.agree (F:=Lt W3.heap.size) fun b hb=>hb) fun b hb=>(hrow3 b hb).2
    have h63:ks.length+1≤maxLen:=by unfold maxLen;omega
    have hby:(ks.length+1)*16≤140737488355328:=by omega
    have hs3:=hcp3.sb.size
    have hbase:w1.heap.size+2≤((W3.alloc (.cells #[.bool false,.int .i64 0,.bool false,.int .i64 0,.string ByteArray.empty,.slice none 0 0,.slice none 0 0] 89)).alloc (.cells #[.string x.k] 9)).heap.size:=by have:=hcp3.sz;simp;omega
    have HX34:=Lib.hid hx34
    have HOWN4:=Lib.hid hown4
    have HBN:=Lib.hid (show Blk ((W3.alloc (.cells #[.bool false,.int .i64 0,.bool false,.int .i64 0,.string ByteArray.empty,.slice none 0 0,.slice none 0 0] 89)).alloc (.cells #[.string x.k] 9)) (W3.heap.size+1) 9 #[.string x.k] by
     have:=Blk.new (W3.alloc (.cells #[.bool false,.int .i64 0,.bool false,.int .i64 0,.string ByteArray.empty,.slice none 0 0,.slice none 0 0] 89)) 9 #[.string x.k]
     rwa [World.size_alloc] at this)
    have hWB:¬w.heap.size+1=W3.heap.size:=by omega
    have hWB2:¬w.heap.size+1=W3.heap.size+1:=by omega
    have l3':w.heap.size+1<W3.heap.size+1:=by omega
    have f3X:=Lib.hid ((hx34.frozen (o:=0) l3).trans f3)
    have hrB:s.row≠some (w.heap.size+1):=fun e=>by have:=(hrow3 _ e).1;omega
    have HG:=Lib.hid hg
    clear hg hcp3 hsb3 hmap hx34 hown4
    gi_wp2_with (gi_at_builtin;refine wpListIn_append_x _ rfl (.tmp 32) (.tmp 34) 93 rfl (w1.heap.size+2) 9 i0 _ 1 16 Tryz.underlying93 hi hz0 hz1 hz2 rfl (by decide) s ks.length (ks.map .string) rfl HOWN4.out (fun b=>b=W3.heap.size+1) ⟨some ⟨W3.heap.size+1,0,none⟩,1⟩ 1 [.string x.k] rfl (Rd.block HBN.out (by decide) rfl) (by simp [Value.oneCell']) h63 hby hbase ?_;intro s3 w5 hown5 hwr5 hs5;have h5:=hwr5.cell0 (o:=0) HX34.out hrB l3;have c5:w5.cell? ⟨w.heap.size+1,0,none⟩=some (.slice s.a ks.length s.c):=h5.1.trans c3;have l5:=h5.2;have f5:w5.frozen? ⟨w.heap.size+1,0,none⟩=false:=(hwr5.fz _ _).trans (f3X.out);have HO5:=Lib.hid hown5;have HW5:=Lib.hid hwr5;have HS5:=Lib.hid hs5;clear hown5 hwr5 hs5 h5)
    obtain ⟨e1,e2,e3,e4⟩:=HCP3.out.snoc hl1 HX34.out HO5.out HW5.out HS5.out
    exact ⟨_,⟨s3,rfl,by rw [ownP_yes HG.out,HKS.out];exact e1⟩,e2,fun b hb=>by
     rcases hb with e | e
     ·exact .inl (.inl e)
     exact (e3 b e).imp .inr id,e4⟩
 rintro D xs C W hD hS ⟨s,rfl,hcp⟩ hDk
 have hsb:=hcp.sb
 have q0:W.cell? ⟨w.heap.size,0,none⟩=some (.pointer (some ⟨O,0,none⟩)):=(hsb.blk HC0.out (by omega)).cell 0
 have q1:W.cell? ⟨O,1,none⟩=some (.map d.mb):=(hsb.blk HOV.out.blk (by omega)).cell 1
 have lq:O<W.heap.size:=(hsb.blk HOV.out.blk (by omega)).lt
 have l0:w.heap.size<W.heap.size:=(hsb.blk HC0.out (by omega)).lt
 have hmap:OvMap W d.mb d.C:=HOV.out.map.heap fun b hb=>hsb.block b (HOV.out.map.lt hb) fun e=>by have:=HAT.out.map.lt hb;omega
 have hlen1:(ownP d.C xs).length≤1000000:=by
  have h1:=ownP_len d.C xs
  have h2:(xs.map LE.ent).length=(prefixE p (entsT d.T)).length:=by rw [hS]
  have h3:(prefixE p (entsT d.T)).length≤1000000:=Nat.le_trans (List.length_filter_le _ _) hl
  rw [List.length_map] at h2;omega
 have hDl:=(Array.getElem?_eq_some_iff.1 hDk).1
 have HCP:=Lib.hid hcp
 have HS:=Lib.hid hS
 have HDK:=Lib.hid hDk
 have HMAP:=Lib.hid hmap
 have HD:=Lib.hid hD
 clear hcp hS hDk hmap hsb hD
 obtain ⟨mb,hmb⟩:∃ mb,d.mb=mb:=⟨_,rfl⟩
 rw [hmb] at q1
 have HMB:=Lib.hid hmb
 clear hmb
 rcases mb with _ | b
 ·have hr0:=fun w=>run_range_nilO w
  gi_wp2_with fail
  generalize hWW:World.alloc W _=WW
  have hiter:WW.heap[W.heap.size]? = some (.mapIter none 0 #[] 0):=by rw [←hWW];exact heap_alloc_new W _
  have hsw:Nw W WW:=by rw [←hWW];exact Sb.made (World.grownBy_alloc _ _ _)
  have hCe:d.C=[]:=by have:=HMAP.out;rw [HMB.out] at this;exact this
  have hall:=pre_all (p:=p) (ss:=[]) HAT.out.ok.sorted HAT.out.sorted HS.out (by rw [hCe];exact List.Perm.nil)
  have hcw:=HCP.out.keep (hsw.any (fun _=>False)) (fun e=>e) (fun _ _ e=>e) (fun _ e=>e.elim)
  obtain ⟨ks,hks⟩:∃ ks,ownP d.C xs=ks:=⟨_,rfl⟩
  rw [show hitsP d.C p []=[] from rfl,List.append_nil,hks] at hall
  rw [hks] at hcw hlen1
  obtain ⟨s2,rfl⟩:∃ s2,s2=s:=⟨_,rfl⟩
  have HALL:=Lib.hid hall
  have HCW:=Lib.hid hcw
  have HIT:=Lib.hid hiter
  have HDW:=Lib.hid (show WW.heap[D]? = some (.deferred (some [])) from (hsw.block D hDl (fun e=>e)).trans HDK.out)
  have HSORT:=Lib.hid (sortStr_any hcw.own (by omega))
  have c5:WW.cell? ⟨w.heap.size+1,0,none⟩=some (.slice s2.a ks.length s2.c):=hcw.blk.cell 0
  clear hWW hr0 hall hcw hiter hsw hks q0 q1 lq l0 hCe
  gi_loopw [] (fun wr=>wr=WW) (fun _=>0)
  case atStart=>rfl
  subst hrel
  have hn2:=run_next_nilO HIT.out
  gi_wp2_with fail
  refine ⟨trivial,?_⟩
  refine (callsIn_wide.2 HSORT.out).mono ?_
  rintro e w5 ⟨rfl,ts,hts,hsd,hto,htl,htg⟩
  have hsb5:Sb (fun b=>s2.row=some b) wr w5:=⟨htg.os,htg.tape,htg.output,htg.size,fun i hi hn=>htg.block i hi fun e=>hn e.symm⟩
  have hblk5:=hsb5.blk HCW.out.blk (fun e=>by have:=(HCW.out.row e).1;omega)
  have c6:w5.cell? ⟨w.heap.size+1,0,none⟩=some (.slice s2.a ks.length s2.c):=hblk5.cell 0
  have l6:=hblk5.lt
  have HD5:=Lib.hid (show w5.heap[D]? = some (.deferred (some [])) from (hsb5.block D (by have:=(Array.getElem?_eq_some_iff.1 HDW.out).1;omega) (fun e=>by have:=(HCW.out.row e).1;have:=HD.out;omega)).trans HDW.out)
  have hpost:=pre_end HN1.out (Nat.le_succ _) HCW.out HALL.out.1 HALL.out.2 hts hsd hto htg (St.put (o':=.deferred none) HD5.out rfl rfl).sb HD.out.symm
  rw [htl] at hpost
  have HPOST:=Lib.hid hpost
  clear hsb5 hblk5 hts hsd hto htl htg hpost
  gi_wp2_with fail
  refine ⟨by simp,.inl ⟨_,_,rfl,run_takeDeferred HD5.out,?_⟩⟩
  refine ⟨.slice s2.a ks.length s2.c,?_,HPOST.out⟩
  simp [results,Tryz.results124,go_sem]
 have hown:W.ownsMap Tryz.prog 9 heldR b d.C.length (mapA SV.val d.C):=by
  have:=HMAP.out;rw [HMB.out] at this;exact this
 have HOWN:=Lib.hid hown
 clear hown
 gi_wp2_with (first | (gi_at_range;refine wpListIn_range_own _ rfl _ 80 rfl 9 89 strKey Tryz.underlying80 heldR b d.C.length _ rfl HOWN.out ?_;intro w2 hrg0 hg0 hs0) | fail)
 have hsw:Nw W w2:=Sb.made hg0
 obtain ⟨ks1,hk1⟩:∃ ks1,ownP d.C xs=ks1:=⟨_,rfl⟩
 have hcw:=HCP.out.keep (hsw.any (fun _=>False)) (fun e=>e) (fun _ _ e=>e) (fun _ e=>e.elim)
 rw [hk1] at hcw hlen1
 have hs:s.row≠some W.heap.size:=fun e=>by have:=(HCP.out.row e).2;omega
 have HST:=Lib.hid (show PreL w1 (w.heap.size+1) W.heap.size b D d.C p ks1 (Maps.has (mapA SV.val d.C)) (Maps.size (mapA SV.val d.C)) [] s w2 from
  ⟨by rw [show hitsP d.C p []=[] from rfl,List.append_nil];exact hcw,hrg0,Collected.start _,hs,(hsw.block D hDl (fun e=>e)).trans HDK.out⟩)
 have HK1:=Lib.hid hk1
 have hw1W:w1.heap.size≤W.heap.size:=HCP.out.sb.size
 clear hrg0 hg0 hs0 hsw hcw hs q0 q1 lq l0 hk1
 simp only [Act.put,List.setIfInBounds_toArray,List.set_cons_zero,List.set_cons_succ]
 gi_loopw [] (fun wr=>∃ (left:Lit→Bool) (cnt:Nat) (ss:List (List UInt8)) (s2:Sl),PreL w1 (w.heap.size+1) W.heap.size b D d.C p ks1 left cnt ss s2 wr) (fun wr=>wr.rangeLeft b W.heap.size)
 case atStart=>exact ⟨_,_,_,_,HST.out⟩
 obtain ⟨left,cnt,ss,s2,hP⟩:=hrel
 have hrg:=hP.rg
 have hshort:=collected_short hP.co
 have hfew:=HAT.out.few
 have hhl:=hitsP_len d.C p ss
 have HP:=Lib.hid hP
 clear hP
 gi_wp2_with (first | (gi_at_next;refine wpListIn_next_ranges _ rfl _ rfl 9 strKey heldR encStr id (fun key kl hk=>by obtain ⟨x,hx,_⟩:=Maps.keyOf_str Tryz.underlying9 hk;exact ⟨x,hx⟩) (fun v _ _=>⟨v,rfl⟩) b W.heap.size _ _ _ _ rfl hrg ?_ ?_) | fail)
 ·intro hc0 hl0
  have hperm:=HP.out.co.perm HOWN.out strKey Tryz.underlying9 hl0
  rw [strKeys_mapA] at hperm
  have hall:=pre_all (p:=p) HAT.out.ok.sorted HAT.out.sorted HS.out hperm
  have hcw:=HP.out.col
  rw [HK1.out] at hall
  obtain ⟨ks,hks⟩:∃ ks,ks1++hitsP d.C p ss=ks:=⟨_,rfl⟩
  have hkl:ks.length≤2000000:=by rw [←hks,List.length_append];omega
  rw [hks] at hall hcw
  have HALL:=Lib.hid hall
  have HCW:=Lib.hid hcw
  have HDW:=Lib.hid HP.out.dk
  have HSORT:=Lib.hid (sortStr_any hcw.own (by omega))
  have c5:wr.cell? ⟨w.heap.size+1,0,none⟩=some (.slice s2.a ks.length s2.c):=hcw.blk.cell 0
  clear hrg hperm hall hcw hks hc0 hl0
  gi_wp2_with fail
  refine ⟨trivial,?_⟩
  refine (callsIn_wide.2 HSORT.out).mono ?_
  rintro e w5 ⟨rfl,ts,hts,hsd,hto,htl,htg⟩
  have hsb5:Sb (fun b=>s2.row=some b) wr w5:=⟨htg.os,htg.tape,htg.output,htg.size,fun i hi hn=>htg.block i hi fun e=>hn e.symm⟩
  have hblk5:=hsb5.blk HCW.out.blk (fun e=>by have:=(HCW.out.row e).1;omega)
  have c6:w5.cell? ⟨w.heap.size+1,0,none⟩=some (.slice s2.a ks.length s2.c):=hblk5.cell 0
  have l6:=hblk5.lt
  have HD5:=Lib.hid (show w5.heap[D]? = some (.deferred (some [])) from (hsb5.block D (by have:=(Array.getElem?_eq_some_iff.1 HDW.out).1;omega) (fun e=>by have:=(HCW.out.row e).1;have:=HD.out;omega)).trans HDW.out)
  have hpost:=pre_end HN1.out (Nat.le_succ _) HCW.out HALL.out.1 HALL.out.2 hts hsd hto htg (St.put (o':=.deferred none) HD5.out rfl rfl).sb HD.out.symm
  rw [htl] at hpost
  have HPOST:=Lib.hid hpost
  clear hsb5 hblk5 hts hsd hto htl htg hpost
  gi_wp2_with fail
  refine ⟨by simp,.inl ⟨_,_,rfl,run_takeDeferred HD5.out,?_⟩⟩
  refine ⟨.slice s2.a ks.length s2.c,?_,HPOST.out⟩
  simp [results,Tryz.results124,go_sem]
 intro x c kl yd yp w3 cnt2 hkey hlk hv hat hrg2 hcl hg2 hs2 hen
 obtain ⟨x',ex,rfl,hxl⟩:=Maps.keyOf_str Tryz.underlying9 hkey
 obtain rfl:=encStr_inj ex
 obtain ⟨sv,hsv,rfl⟩:=at_some hat hv
 have hst3:Sb (fun i=>i=W.heap.size) wr w3:=Sb.grown hg2
 have hcol:=HP.out.col.keep hst3 (by omega) (fun i hi e=>HP.out.ne (by rw [hi,e])) (fun i e=>by omega)
 have hco:=HP.out.co.step hlk hat
 obtain ⟨ks,hks⟩:∃ ks,ks1++hitsP d.C p ss=ks:=⟨_,rfl⟩
 have hkl:ks.length≤2000000:=by rw [←hks,List.length_append];omega
 rw [hks] at hcol
 have hdk3:w3.heap[D]? = some (.deferred (some [])):=(hst3.block D (by have:=(Array.getElem?_eq_some_iff.1 HP.out.dk).1;omega) (fun e=>by have:=HD.out;omega)).trans HP.out.dk
 obtain ⟨has,v,sl,so⟩:=sv
 obtain ⟨k,hk⟩:∃ k,textO x=k:=⟨_,rfl⟩
 have hen':(Instr.entry (.pointer (some ⟨W.heap.size,0,none⟩))).run Tryz.prog w3=.ok (.tuple #[.string k,.agg #[.bool has,.int .i64 v.kind,.bool v.b,.int .i64 v.i,.string v.t,.slice sl.a v.l.length sl.c,.slice so.a v.ok.length so.c]]) w3:=by rw [←hk];exact hen
 rw [hk] at hsv
 obtain ⟨lb3,lr3,nb3⟩:=ranges_ltO hrg2
 have hrow3:∀ i,s2.row=some i→w1.heap.size+2≤i∧i<w3.heap.size:=fun i hi=>hcol.row hi
 have hne3:s2.row≠some W.heap.size:=HP.out.ne
 have hneb:s2.row≠some b:=fun e=>by
  rcases hcol.own.2 with ⟨hv,-⟩ | ⟨gg,cap,cur,hv,-,hc,-⟩
  ·injection hv with e1
   rw [Sl.row,e1] at e
   cases e
  injection hv with e1
  rw [Sl.row,e1] at e
  have:gg=b:=by simpa using e
  subst this
  exact nb3 _ _ hc
 have hbB:¬b=w.heap.size+1:=fun e=>nb3 _ _ (by rw [e];exact hcol.blk)
 have c3:w3.cell? ⟨w.heap.size+1,0,none⟩=some (.slice s2.a ks.length s2.c):=hcol.blk.cell 0
 have f3:w3.frozen? ⟨w.heap.size+1,0,none⟩=false:=hcol.blk.frozen 0
 have l3:=hcol.blk.lt
 have HCOL:=Lib.hid hcol
 have HCO:=Lib.hid hco
 have HRG2:=Lib.hid hrg2
 have HRG1:=Lib.hid hrg
 have HDK3:=Lib.hid hdk3
 have HKS:=Lib.hid hks
 have HK:=Lib.hid hk
 have HSV:=Lib.hid hsv
 have HCL:=Lib.hid hcl
 rw [show (encStr x)=Value.string k from by rw [←hk]]
 clear hcol hco hrg2 hrg hdk3 hks hsv hat hv hkey hlk hg2 hs2 hcl hst3 hxl hen
 have hend:∀ (s3:Sl) (w6:World),CollP w1 (w.heap.size+1) (ks1++hitsP d.C p (ss++[x])) s3 w6→s3.row≠some W.heap.size→w6.heap[b]? = w3.heap[b]?→w6.heap[W.heap.size]? = w3.heap[W.heap.size]?→w6.heap[D]? = w3.heap[D]?→
   PreL w1 (w.heap.size+1) W.heap.size b D d.C p ks1 (fun z=>left z && !z.sameKey (.string x)) cnt2 (ss++[x]) s3 w6:=fun s3 w6 h1 h2 h3 h4 h5=>⟨h1,ranges_keepO HRG2.out h3 h4,HCO.out,h2,h5.trans HDK3.out⟩
 have HEND:=Lib.hid hend
 clear hend
 have hx4:=(Ext.refl w3).alloc #[.bool has,.int .i64 v.kind,.bool v.b,.int .i64 v.i,.string v.t,.slice sl.a v.l.length sl.c,.slice so.a v.ok.length so.c] 89
 have HX4:=Lib.hid hx4
 clear hx4
 cases has with
 | false=>
   have hno:hitO d.C p (textO x)=false:=by rw [HK.out,hitO_eq HSV.out];rfl
   have HS3:=Lib.hid (HEND.out s2 _ (by rw [hitsP_no hno,HKS.out];exact HCOL.out.ext HX4.out) hne3 (Below.heap_alloc _ _ _ lb3) (Below.heap_alloc _ _ _ lr3) (Below.heap_alloc _ _ _ (Array.getElem?_eq_some_iff.1 HDK3.out).1))
   gi_wp2_with fail
   refine ⟨trivial,?_⟩
   gi_wp2_with fail
   go_roundw
   case rel=>exact ⟨_,_,_,_,HS3.out⟩
   rw [HS3.out.rg.left_eq,HRG1.out.left_eq];exact HCL.out
 | true=>
   gi_wp2_with fail
   refine ⟨trivial,?_⟩
   refine (callsIn_wide.2 (begins_any _ k p)).mono ?_
   rintro e w4 ⟨rfl,rfl⟩
   cases hbg:beginsO p k with
   | false=>
     have hno:hitO d.C p (textO x)=false:=by rw [HK.out,hitO_eq HSV.out,hbg];rfl
     have HS3:=Lib.hid (HEND.out s2 _ (by rw [hitsP_no hno,HKS.out];exact HCOL.out.ext HX4.out) hne3 (Below.heap_alloc _ _ _ lb3) (Below.heap_alloc _ _ _ lr3) (Below.heap_alloc _ _ _ (Array.getElem?_eq_some_iff.1 HDK3.out).1))
     gi_wp2_with fail
     go_roundw
     case rel=>exact ⟨_,_,_,_,HS3.out⟩
     rw [HS3.out.rg.left_eq,HRG1.out.left_eq];exact HCL.out
   | true=>
     have hyes:hitO d.C p (textO x)=true:=by rw [HK.out,hitO_eq HSV.out,hbg];rfl
     have hx34:Ext w3 ((w3.alloc (.cells #[.bool true,.int .i64 v.kind,.bool v.b,.int .i64 v.i,.string v.t,.slice sl.a v.l.length sl.c,.slice so.a v.ok.length so.c] 89)).alloc (.cells #[.string k] 9)):=((Ext.refl w3).alloc _ _).alloc _ _
     have hown4:=own_agree HCOL.out.own (hx34.agree (F:=Lt w3.heap.size) fun b hb=>hb) fun b hb=>(hrow3 b hb).2
     have h63:ks.length+1≤maxLen:=by unfold maxLen;omega
     have hby:(ks.length+1)*16≤140737488355328:=by omega
     have hbase:w1.heap.size+2≤((w3.alloc (.cells #[.bool true,.int .i64 v.kind,.bool v.b,.int .i64 v.i,.string v.t,.slice sl.a v.l.length sl.c,.slice so.a v.ok.length so.c] 89)).alloc (.cells #[.string k] 9)).heap.size:=by have:=HCOL.out.sz;simp;omega
     have HX34:=Lib.hid hx34
     have HOWN4:=Lib.hid hown4
     have HBN:=Lib.hid (show Blk ((w3.alloc (.cells #[.bool true,.int .i64 v.kind,.bool v.b,.int .i64 v.i,.string v.t,.slice sl.a v.l.length sl.c,.slice so.a v.ok.length so.c] 89)).alloc (.cells #[.string k] 9)) (w3.heap.size+1) 9 #[.string k] by
      have:=Blk.new (w3.alloc (.cells #[.bool true,.int .i64 v.kind,.bool v.b,.int .i64 v.i,.string v.t,.slice sl.a v.l.length sl.c,.slice so.a v.ok.length so.c] 89)) 9 #[.string k]
      rwa [World.size_alloc] at this)
     have hWB:¬w.heap.size+1=w3.heap.size:=by omega
     have hWB2:¬w.heap.size+1=w3.heap.size+1:=by omega
     have l3':w.heap.size+1<w3.heap.size+1:=by omega
     have f3X:=Lib.hid ((hx34.frozen (o:=0) l3).trans f3)
     have hrB:s2.row≠some (w.heap.size+1):=fun e=>by have:=(hrow3 _ e).1;omega
     clear hx34 hown4
     gi_wp2_with (gi_at_builtin;refine wpListIn_append_x _ rfl (.tmp 53) (.tmp 55) 93 rfl (w1.heap.size+2) 9 i0 _ 1 16 Tryz.underlying93 hi hz0 hz1 hz2 rfl (by decide) s2 ks.length (ks.map .string) rfl HOWN4.out (fun b=>b=w3.heap.size+1) ⟨some ⟨w3.heap.size+1,0,none⟩,1⟩ 1 [.string k] rfl (Rd.block HBN.out (by decide) rfl) (by simp [Value.oneCell']) h63 hby hbase ?_;intro s3 w5 hown5 hwr5 hs5;have h5:=hwr5.cell0 (o:=0) HX34.out hrB l3;have c5:w5.cell? ⟨w.heap.size+1,0,none⟩=some (.slice s2.a ks.length s2.c):=h5.1.trans c3;have l5:=h5.2;have f5:w5.frozen? ⟨w.heap.size+1,0,none⟩=false:=(hwr5.fz _ _).trans (f3X.out);have HO5:=Lib.hid hown5;have HW5:=Lib.hid hwr5;have HS5:=Lib.hid hs5;clear hown5 hwr5 hs5 h5)
     obtain ⟨e1,e2,e3,e4⟩:=HCOL.out.snoc hl1 HX34.out HO5.out HW5.out HS5.out
     have hDl3:=(Array.getElem?_eq_some_iff.1 HDK3.out).1
     have HS3:=Lib.hid (HEND.out s3 _ (by rw [hitsP_yes hyes,←List.append_assoc,HKS.out,HK.out];exact e1) (fun e=>by
       rcases e3 _ e with h | h
       ·exact hne3 h
       ·omega) (e2.block b lb3 fun e=>by
       rcases e with e | e
       ·exact hbB e
       ·exact hneb e) (e2.block _ lr3 fun e=>by
       rcases e with e | e
       ·omega
       ·exact hne3 e) (e2.block D hDl3 fun e=>by
       rcases e with e | e
       ·have:=HD.out;omega
       have:=(hrow3 _ e).1;have:=HD.out;omega))
     clear e1 e2 e3 e4
     gi_wp2_with fail
     go_roundw
     case rel=>exact ⟨_,_,_,_,HS3.out⟩
     rw [HS3.out.rg.left_eq,HRG1.out.left_eq];exact HCL.out
end Go.Proofs.YtkhdiakpdafcdaaGreatDoor
namespace Go.Proofs.YtkhdiakpdafcdaaGreatDoor
open Go.RowKit
set_option linter.unusedVariables false
set_option linter.unusedSimpArgs false
theorem compareBytes_less:∀ (a b:List UInt8),Lib.compareBytes a b=if Op.bytesLess a b then -1 else if Op.bytesLess b a then 1 else 0
 | [],[]=>rfl
 | [],b :: v=>by simp [Lib.compareBytes,Op.bytesLess]
 | a :: u,[]=>by simp [Lib.compareBytes,Op.bytesLess]
 | a :: u,b :: v=>by
   simp only [Lib.compareBytes,Op.bytesLess]
   by_cases h1:a<b
   ·simp [h1]
   by_cases h2:b<a
   ·have h3:¬a=b:=fun e=>by subst e;exact h1 h2
    have h4:¬b=a:=fun e=>h3 e.symm
    simp [h1,h2,h3,h4]
   have h3:a=b:=UInt8.le_antisymm (UInt8.not_lt.1 h2) (UInt8.not_lt.1 h1)
   subst h3
   simp [h1,compareBytes_less u v]
theorem compareBytes_text (a b:ByteArray):Lib.compareBytes a.data.toList b.data.toList=textI a b:=by
 rw [compareBytes_less]
 unfold textI klt
 rw [ByteArray.toList_eq,ByteArray.toList_eq]
theorem cmpString_any (w:World) (a b:ByteArray):Calls Tryz.prog 191 #[.string a,.string b] w fun e w'=>e=.returned (.int .i64 (textI a b))∧w=w':=by
 rw [←compareBytes_text]
 go_enter Tryz.func191,Tryz.ntmps191
 go_wp2_with fail
 rw [run_callFunc_extern Tryz.func222 (by kernel_rfl) (by kernel_rfl) (by kernel_rfl) (e:=Extern.BytealgCompare.compare) (by kernel_rfl),Lib.run_compareString]
 simp only [Result.andThen]
 rw [Oper.upon_value]
 go_wp2_with fail
 go_ret
 exact ⟨rfl,rfl⟩
theorem stringsCompare_any (w:World) (a b:ByteArray):Calls Tryz.prog 133 #[.string a,.string b] w fun e w'=>e=.returned (.int .i64 (textI a b))∧w=w':=by
 have h:=cmpString_any w a b
 go_enter Tryz.func133,Tryz.ntmps133
 go_wp2_with fail
 refine h.mono ?_
 rintro e w1 ⟨rfl,rfl⟩
 go_wp2_with fail
 go_ret
 exact ⟨rfl,rfl⟩
theorem rank_any (w:World) (b:Bool):Calls Tryz.prog 131 #[.bool b] w fun e w'=>e=.returned (.int .i64 (if b then 1 else 0))∧w=w':=by
 cases b
 all_goals
  go_enter Tryz.func131,Tryz.ntmps131
  go_wp2_with fail
  go_ret
  exact ⟨rfl,rfl⟩
theorem isNaNKind_any (w:World) (a:Int):Calls Tryz.prog 189 #[.int .i64 a] w fun e w'=>e=.returned (.bool false)∧w=w':=by
 go_enter Tryz.func189,Tryz.ntmps189
 go_wp2_with fail
 go_ret
 exact ⟨by simp,rfl⟩
theorem compareKind_any (w:World) (a b:Int):Calls Tryz.prog 130 #[.int .i64 a,.int .i64 b] w fun e w'=>e=.returned (.int .i64 (numI a b))∧w=w':=by
 have hna:=isNaNKind_any w a
 have hnb:=isNaNKind_any w b
 have hcase:(numI a b = -1∧a<b)∨(numI a b=1∧¬a<b∧b<a)∨(numI a b=0∧¬a<b∧¬b<a):=by
  unfold numI;split
  ·exact .inl ⟨rfl,by assumption⟩
  split
  ·exact .inr (.inl ⟨rfl,by assumption,by assumption⟩)
  exact .inr (.inr ⟨rfl,by assumption,by assumption⟩)
 rcases hcase with ⟨hn,h1⟩ | ⟨hn,h1,h2⟩ | ⟨hn,h1,h2⟩
 all_goals
  rw [hn]
  clear hn
  go_enter Tryz.func130,Tryz.ntmps130
  go_wp2_with fail
  refine hna.mono ?_
  rintro e w1 ⟨rfl,rfl⟩
  go_wp2_with fail
  refine hnb.mono ?_
  rintro e w1 ⟨rfl,rfl⟩
  go_wp2_with fail
  go_ret
  exact ⟨rfl,rfl⟩
theorem isNaNint64_any (w:World) (a:Int):Calls Tryz.prog 190 #[.int .i64 a] w fun e w'=>e=.returned (.bool false)∧w=w':=by
 go_enter Tryz.func190,Tryz.ntmps190
 go_wp2_with fail
 go_ret
 exact ⟨by simp,rfl⟩
theorem compareint64_any (w:World) (a b:Int):Calls Tryz.prog 132 #[.int .i64 a,.int .i64 b] w fun e w'=>e=.returned (.int .i64 (numI a b))∧w=w':=by
 have hna:=isNaNint64_any w a
 have hnb:=isNaNint64_any w b
 have hcase:(numI a b = -1∧a<b)∨(numI a b=1∧¬a<b∧b<a)∨(numI a b=0∧¬a<b∧¬b<a):=by
  unfold numI;split
  ·exact .inl ⟨rfl,by assumption⟩
  split
  ·exact .inr (.inl ⟨rfl,by assumption,by assumption⟩)
  exact .inr (.inr ⟨rfl,by assumption,by assumption⟩)
 rcases hcase with ⟨hn,h1⟩ | ⟨hn,h1,h2⟩ | ⟨hn,h1,h2⟩
 all_goals
  rw [hn]
  clear hn
  go_enter Tryz.func132,Tryz.ntmps132
  go_wp2_with fail
  refine hna.mono ?_
  rintro e w1 ⟨rfl,rfl⟩
  go_wp2_with fail
  refine hnb.mono ?_
  rintro e w1 ⟨rfl,rfl⟩
  go_wp2_with fail
  go_ret
  exact ⟨rfl,rfl⟩
theorem isNaNint_any (w:World) (a:Int):Calls Tryz.prog 223 #[.int .i64 a] w fun e w'=>e=.returned (.bool false)∧w=w':=by
 go_enter Tryz.func223,Tryz.ntmps223
 go_wp2_with fail
 go_ret
 exact ⟨by simp,rfl⟩
theorem compareint_any (w:World) (a b:Int):Calls Tryz.prog 192 #[.int .i64 a,.int .i64 b] w fun e w'=>e=.returned (.int .i64 (numI a b))∧w=w':=by
 have hna:=isNaNint_any w a
 have hnb:=isNaNint_any w b
 have hcase:(numI a b = -1∧a<b)∨(numI a b=1∧¬a<b∧b<a)∨(numI a b=0∧¬a<b∧¬b<a):=by
  unfold numI;split
  ·exact .inl ⟨rfl,by assumption⟩
  split
  ·exact .inr (.inl ⟨rfl,by assumption,by assumption⟩)
  exact .inr (.inr ⟨rfl,by assumption,by assumption⟩)
 rcases hcase with ⟨hn,h1⟩ | ⟨hn,h1,h2⟩ | ⟨hn,h1,h2⟩
 all_goals
  rw [hn]
  clear hn
  go_enter Tryz.func192,Tryz.ntmps192
  go_wp2_with fail
  refine hna.mono ?_
  rintro e w1 ⟨rfl,rfl⟩
  go_wp2_with fail
  refine hnb.mono ?_
  rintro e w1 ⟨rfl,rfl⟩
  go_wp2_with fail
  go_ret
  exact ⟨rfl,rfl⟩
def CmpIH (m:Nat):Prop:=∀ (x y:Val),SizeOf.sizeOf x≤m→∀ (w:World) (sl so sl' so':Sl),RV w (Lt w.heap.size) x sl so→RV w (Lt w.heap.size) y sl' so'→Calls Tryz.prog 90 #[aggV x sl so,aggV y sl' so'] w (CmpPost (cmpV x y) w)
theorem min_facts (a b:Nat):∃ c:Nat,(if a<b then (a:Int) else (b:Int))=(c:Int)∧(if b<a then (b:Int) else (a:Int))=(c:Int)∧c≤a∧c≤b∧(c=a∨c=b):=by
 by_cases h:a<b
 ·exact ⟨a,by rw [if_pos h],by rw [if_neg (by omega)],by omega,by omega,.inl rfl⟩
 by_cases h':b<a
 ·exact ⟨b,by rw [if_neg h],by rw [if_pos h'],by omega,by omega,.inr rfl⟩
 exact ⟨a,by rw [if_neg h];omega,by rw [if_neg h'],by omega,by omega,.inl rfl⟩
theorem inOrderV {m:Nat} (hih:CmpIH m) {x y:Val} (hd:SizeOf.sizeOf x≤m+1) {w:World} {sl so sl' so':Sl} (h:RV w (Lt w.heap.size) x sl so) (h':RV w (Lt w.heap.size) y sl' so') :
  Calls Tryz.prog 134 #[.slice sl.a x.l.length sl.c,.slice sl'.a y.l.length sl'.c,.func (.func 90) #[] #[]] w (CmpPost (cmpL x.l y.l) w):=by
 have HI:=Lib.hid hih
 clear hih
 obtain ⟨k,b,i,t,l,ok,ov⟩:=x
 obtain ⟨k',b',i',t',l',ok',ov'⟩:=y
 show Calls _ _ #[.slice sl.a l.length sl.c,.slice sl'.a l'.length sl'.c,_] _ (CmpPost (cmpL l l') w)
 cases h with
 | mk bl fl bo fo cl co hl ho hov el rl ek eo ro bk bi bt nl no=>
 cases h' with
 | mk bl' fl' bo' fo' cl' co' hl' ho' hov' el' rl' ek' eo' ro' bk' bi' bt' nl' no'=>
 have hsl:∀ (j:Nat) (d:Val),l[j]? = some d→SizeOf.sizeOf d≤m:=fun j d hj=>Nat.le_of_lt_succ (Nat.lt_of_lt_of_le (Val.sz_l hj) hd)
 have HSL:=Lib.hid hsl
 have HEL:=Lib.hid el
 have HRL:=Lib.hid rl
 have HEL':=Lib.hid el'
 have HRL':=Lib.hid rl'
 clear hsl el rl ek eo ro hov hd el' rl' ek' eo' ro' hov'
 have hnl:l.length≤140737488355328:=by omega
 have hnl':l'.length≤140737488355328:=by omega
 obtain ⟨mn,hm1,hm2,hmn1,hmn2,hmn3⟩:=min_facts l.length l'.length
 go_enter Tryz.func134,Tryz.ntmps134
 go_wp2_with fail
 clear hm1 hm2
 go_loopw [14] (fun q wr=>∃ j:Nat,q=.int .i64 j∧j≤mn∧cmpL l l'=cmpL (l.drop j) (l'.drop j)∧Ext w wr) (fun q _=>mn - (intOf q).toNat)
 case atStart=>exact ⟨0,rfl,Nat.zero_le _,rfl,Ext.refl w⟩
 obtain ⟨j,rfl,hj,hp,hx⟩:=hrel
 have HP:=Lib.hid hp
 have HX:=Lib.hid hx
 by_cases h1:j<mn
 ·have g1:(j:Int)<(mn:Int):=by omega
  have g2:(j:Int)<(l.length:Int):=by omega
  have g3:(j:Int)<(l'.length:Int):=by omega
  obtain ⟨d,hd⟩:∃ d,l[j]? = some d:=⟨_,List.getElem?_eq_getElem (by omega)⟩
  obtain ⟨d',hd'⟩:∃ d,l'[j]? = some d:=⟨_,List.getElem?_eq_getElem (by omega)⟩
  have HD:=Lib.hid (cmpL_drop hd hd')
  have hag:Agree (Lt w.heap.size) w wr:=hx.agree fun _ h=>h
  obtain ⟨sa,sc⟩:=sl
  obtain ⟨sa',sc'⟩:=sl'
  obtain ⟨rfl,hlc,hcm⟩:=hl.eq (by omega)
  obtain ⟨rfl,hlc',hcm'⟩:=hl'.eq (by omega)
  have hbl:=hl.fits (by omega)
  have hbl':=hl'.fits (by omega)
  obtain ⟨v0,v1,v2,v3,v4,v5⟩:=(HEL.out j d hd).agree hag hbl
  obtain ⟨v0',v1',v2',v3',v4',v5'⟩:=(HEL'.out j d' hd').agree hag hbl'
  have HIC:=Lib.hid (fun (W:World) (hW:Ext wr W)=>
   HI.out d d' (HSL.out j d hd) W _ _ _ _ (((HRL.out j d hd).agree (hag.trans (hW.agree fun _ h=>Nat.lt_of_lt_of_le h hx.size))).mono fun i hi=>Nat.lt_of_lt_of_le hi (Nat.le_trans hx.size hW.size))
    (((HRL'.out j d' hd').agree (hag.trans (hW.agree fun _ h=>Nat.lt_of_lt_of_le h hx.size))).mono fun i hi=>Nat.lt_of_lt_of_le hi (Nat.le_trans hx.size hW.size)))
  have lb:bl<wr.heap.size:=Nat.lt_of_lt_of_le hbl hx.size
  have lb':bl'<wr.heap.size:=Nat.lt_of_lt_of_le hbl' hx.size
  have HSS:=Lib.hid (show ∀ W,Ext wr W→W.cell? ⟨bl,fl+j*6,none⟩=some (.int .i64 d.kind)∧W.cell? ⟨bl,fl+j*6+1,none⟩=some (.bool d.b)∧W.cell? ⟨bl,fl+j*6+2,none⟩=some (.int .i64 d.i)∧W.cell? ⟨bl,fl+j*6+3,none⟩=some (.string d.t)∧W.cell? ⟨bl,fl+j*6+4,none⟩=some (.slice (cl j).1.a d.l.length (cl j).1.c)∧W.cell? ⟨bl,fl+j*6+5,none⟩=some (.slice (cl j).2.a d.ok.length (cl j).2.c)∧W.cell? ⟨bl',fl'+j*6,none⟩=some (.int .i64 d'.kind)∧W.cell? ⟨bl',fl'+j*6+1,none⟩=some (.bool d'.b)∧W.cell? ⟨bl',fl'+j*6+2,none⟩=some (.int .i64 d'.i)∧W.cell? ⟨bl',fl'+j*6+3,none⟩=some (.string d'.t)∧W.cell? ⟨bl',fl'+j*6+4,none⟩=some (.slice (cl' j).1.a d'.l.length (cl' j).1.c)∧W.cell? ⟨bl',fl'+j*6+5,none⟩=some (.slice (cl' j).2.a d'.ok.length (cl' j).2.c) from
   fun W hW=>⟨(hW.cell lb).trans v0,(hW.cell lb).trans v1,(hW.cell lb).trans v2,(hW.cell lb).trans v3,(hW.cell lb).trans v4,(hW.cell lb).trans v5,(hW.cell lb').trans v0',(hW.cell lb').trans v1',(hW.cell lb').trans v2',(hW.cell lb').trans v3',(hW.cell lb').trans v4',(hW.cell lb').trans v5'⟩)
  clear hp hx hd hd' hag hbl hbl' v0 v1 v2 v3 v4 v5 v0' v1' v2' v3' v4' v5'
  go_wp2_with fail
  refine wp_region_held_drew (S:=(fun w'=>Ext wr w')) (by kernel_rfl) (((Ext.refl wr).drew)) (fun hHeld=>?_)
  refine heldT 0 (some 17) HSS hHeld ?_
  refine heldT 1 (some 18) HSS hHeld ?_
  refine heldT 2 (some 19) HSS hHeld ?_
  refine heldT 3 (some 20) HSS hHeld ?_
  refine heldT 4 (some 21) HSS hHeld ?_
  refine heldT 5 (some 22) HSS hHeld ?_
  refine heldT 6 (some 23) HSS hHeld ?_
  refine heldT 7 (some 24) HSS hHeld ?_
  refine heldT 8 (some 25) HSS hHeld ?_
  refine held_call (i:=9) (by kernel_rfl) rfl (by rfl) (fun K hK=>?_)
  go_simp
  (refine (HIC.out _ hHeld).mono ?_;rintro e w2 ⟨rfl,hx2⟩)
  refine hK.out _ _ (hHeld.trans hx2) (fun hHeld=>?_)
  clear hK K
  try simp only [Act.put,List.setIfInBounds_toArray,List.set_cons_zero,List.set_cons_succ]
  refine heldT 10 (some 8) HSS hHeld ?_
  refine wpAnyH_done (by kernel_rfl) ?_ _
  have HX2:=Lib.hid (HX.out.trans hHeld)
  clear hHeld hx2
  by_cases hc:cmpV d d'=0
  ·have hcb:(cmpV d d' != 0)=false:=by simp [hc]
   have HC:=Lib.hid hc
   clear hc
   go_wp2_with fail
   go_roundw
   case rel=>exact ⟨j+1,by go_num,h1,by rw [HP.out,HD.out,if_neg (by simp [HC.out])],HX2.out⟩
   simp [intOf];omega
  have hcb:(cmpV d d' != 0)=true:=bne_iff_ne.2 hc
  have HC:=Lib.hid hc
  clear hc
  go_wp2_with fail
  go_ret
  rw [HP.out,HD.out,if_pos HC.out]
  exact ⟨rfl,HX2.out⟩
 have g1:¬(j:Int)<(mn:Int):=by omega
 have HE:=Lib.hid (cmpL_end (l:=l) (l':=l') (j:=j) (by omega) (by omega) (by omega))
 have hcm:=compareint_any wr (l.length:Int) (l'.length:Int)
 clear hp hx
 go_wp2_with fail
 refine hcm.mono ?_
 rintro e w2 ⟨rfl,rfl⟩
 go_wp2_with fail
 go_ret
 rw [HP.out,HE.out]
 exact ⟨rfl,HX.out⟩
def memI (x y:ByteArray) (d d':Val):Int:=if textI x y≠0 then textI x y else cmpV d d'
theorem cmpM_drop2 {l l':List Val} {k k':List ByteArray} {j:Nat} {a b:Val} {x y:ByteArray} (ha:l[j]? = some a) (hb:l'[j]? = some b) (hx:k[j]? = some x) (hy:k'[j]? = some y) :
  cmpM (l.drop j) (k.drop j) (k'.drop j) (l'.drop j)=if memI x y a b≠0 then memI x y a b else cmpM (l.drop (j+1)) (k.drop (j+1)) (k'.drop (j+1)) (l'.drop (j+1)):=by
 rw [cmpM_drop ha hb hx hy]
 unfold memI
 by_cases h:textI x y=0 <;> simp [h]
abbrev aggM (k:ByteArray) (d:Val) (sl so:Sl):Value:=.agg #[.string k,.int .i64 d.kind,.bool d.b,.int .i64 d.i,.string d.t,.slice sl.a d.l.length sl.c,.slice so.a d.ok.length so.c]
theorem members_any {m:Nat} (hih:CmpIH m) {d d':Val} (hd:SizeOf.sizeOf d≤m) {x y:ByteArray} {w:World} {sl so sl' so':Sl} (h:RV w (Lt w.heap.size) d sl so) (h':RV w (Lt w.heap.size) d' sl' so') :
  Calls Tryz.prog 136 #[aggM x d sl so,aggM y d' sl' so'] w (CmpPost (memI x y d d') w):=by
 have HIC:=Lib.hid (fun (W:World) (hW:Ext w W)=>hih d d' hd W _ _ _ _ ((h.agree (hW.agree fun _ h=>h)).mono fun i hi=>Nat.lt_of_lt_of_le hi hW.size) ((h'.agree (hW.agree fun _ h=>h)).mono fun i hi=>Nat.lt_of_lt_of_le hi hW.size))
 have HT:=Lib.hid (fun W=>stringsCompare_any W x y)
 clear hih h h' hd
 by_cases ht:textI x y=0
 ·have hm:memI x y d d'=cmpV d d':=by simp [memI,ht]
  have htb:(textI x y != 0)=false:=by simp [ht]
  rw [hm]
  clear hm ht
  go_enter Tryz.func136,Tryz.ntmps136
  go_wp2_with fail
  refine (HT.out _).mono ?_
  rintro e w1 ⟨rfl,rfl⟩
  go_wp2_with fail
  refine (HIC.out _ (((Ext.refl w).alloc _ _).alloc _ _)).mono ?_
  rintro e w1 ⟨rfl,hx⟩
  have HX:=Lib.hid ((((Ext.refl w).alloc _ _).alloc _ _).trans hx)
  clear hx
  go_wp2_with fail
  go_ret
  exact ⟨rfl,HX.out⟩
 have hm:memI x y d d'=textI x y:=by simp [memI,ht]
 have htb:(textI x y != 0)=true:=bne_iff_ne.2 ht
 rw [hm]
 clear hm ht
 go_enter Tryz.func136,Tryz.ntmps136
 go_wp2_with fail
 refine (HT.out _).mono ?_
 rintro e w1 ⟨rfl,rfl⟩
 go_wp2_with fail
 go_ret
 exact ⟨rfl,((Ext.refl w).alloc _ _).alloc _ _⟩
theorem inOrderM {m:Nat} (hih:CmpIH m) {x y:Val} (hd:SizeOf.sizeOf x≤m+1) {w:World} {sl so sl' so':Sl} (h:RV w (Lt w.heap.size) x sl so) (h':RV w (Lt w.heap.size) y sl' so') :
  Calls Tryz.prog 135 #[.slice so.a x.ok.length so.c,.slice so'.a y.ok.length so'.c,.func (.func 136) #[] #[]] w (CmpPost (cmpM x.ov x.ok y.ok y.ov) w):=by
 have HI:=Lib.hid hih
 clear hih
 obtain ⟨k,b,i,t,l,ok,ov⟩:=x
 obtain ⟨k',b',i',t',l',ok',ov'⟩:=y
 show Calls _ _ #[.slice so.a ok.length so.c,.slice so'.a ok'.length so'.c,_] _ (CmpPost (cmpM ov ok ok' ov') w)
 cases h with
 | mk bl fl bo fo cl co hl ho hov el rl ek eo ro bk bi bt nl no=>
 cases h' with
 | mk bo' fo' bo' fo' cl' co' hl' ho' hov' el' rl' ek' eo' ro' bk' bi' bt' nl' no'=>
 have hso:∀ (j:Nat) (d:Val),ov[j]? = some d→SizeOf.sizeOf d≤m:=fun j d hj=>Nat.le_of_lt_succ (Nat.lt_of_lt_of_le (Val.sz_o hj) hd)
 have HSO:=Lib.hid hso
 have HEO:=Lib.hid eo
 have HRO:=Lib.hid ro
 have HEO':=Lib.hid eo'
 have HRO':=Lib.hid ro'
 have HEK:=Lib.hid ek
 have HEK':=Lib.hid ek'
 have HOV:=Lib.hid hov
 have HOV':=Lib.hid hov'
 clear hso el rl ek eo ro hov hd el' rl' ek' eo' ro' hov'
 have hnl:ok.length≤140737488355328:=by omega
 have hnl':ok'.length≤140737488355328:=by omega
 obtain ⟨mn,hm1,hm2,hmn1,hmn2,hmn3⟩:=min_facts ok.length ok'.length
 go_enter Tryz.func135,Tryz.ntmps135
 go_wp2_with fail
 clear hm1 hm2
 go_loopw [14] (fun q wr=>∃ j:Nat,q=.int .i64 j∧j≤mn∧cmpM ov ok ok' ov'=cmpM (ov.drop j) (ok.drop j) (ok'.drop j) (ov'.drop j)∧Ext w wr) (fun q _=>mn - (intOf q).toNat)
 case atStart=>exact ⟨0,rfl,Nat.zero_le _,rfl,Ext.refl w⟩
 obtain ⟨j,rfl,hj,hp,hx⟩:=hrel
 have HP:=Lib.hid hp
 have HX:=Lib.hid hx
 by_cases h1:j<mn
 ·have g1:(j:Int)<(mn:Int):=by omega
  have g2:(j:Int)<(ok.length:Int):=by omega
  have g3:(j:Int)<(ok'.length:Int):=by omega
  obtain ⟨d,hd⟩:∃ d,ov[j]? = some d:=⟨_,List.getElem?_eq_getElem (by rw [HOV.out];omega)⟩
  obtain ⟨x,hxx⟩:∃ d,ok[j]? = some d:=⟨_,List.getElem?_eq_getElem (by omega)⟩
  obtain ⟨x',hxx'⟩:∃ d,ok'[j]? = some d:=⟨_,List.getElem?_eq_getElem (by omega)⟩
  obtain ⟨d',hd'⟩:∃ d,ov'[j]? = some d:=⟨_,List.getElem?_eq_getElem (by rw [HOV'.out];omega)⟩
  have HD:=Lib.hid (cmpM_drop2 hd hd' hxx hxx')
  have hag:Agree (Lt w.heap.size) w wr:=hx.agree fun _ h=>h
  obtain ⟨sa,sc⟩:=so
  obtain ⟨sa',sc'⟩:=so'
  obtain ⟨rfl,hlc,hcm⟩:=ho.eq (by omega)
  obtain ⟨rfl,hlc',hcm'⟩:=ho'.eq (by omega)
  have hbl:=ho.fits (by omega)
  have hbl':=ho'.fits (by omega)
  obtain ⟨v0,v1,v2,v3,v4,v5⟩:=(HEO.out j d hd).agree hag hbl
  obtain ⟨v0',v1',v2',v3',v4',v5'⟩:=(HEO'.out j d' hd').agree hag hbl'
  have kx:=(hag.cell hbl).trans (HEK.out j x hxx).1
  have kx':=(hag.cell hbl').trans (HEK'.out j x' hxx').1
  obtain ⟨c,hcc⟩:∃ c,memI x x' d d'=c:=⟨_,rfl⟩
  have HIC:=Lib.hid (fun (W:World) (hW:Ext wr W)=>
   members_any HI.out (HSO.out j d hd) (x:=x) (y:=x') (((HRO.out j d hd).agree (hag.trans (hW.agree fun _ h=>Nat.lt_of_lt_of_le h hx.size))).mono fun i hi=>Nat.lt_of_lt_of_le hi (Nat.le_trans hx.size hW.size))
    (((HRO'.out j d' hd').agree (hag.trans (hW.agree fun _ h=>Nat.lt_of_lt_of_le h hx.size))).mono fun i hi=>Nat.lt_of_lt_of_le hi (Nat.le_trans hx.size hW.size)))
  have lb:bo<wr.heap.size:=Nat.lt_of_lt_of_le hbl hx.size
  have lb':bo'<wr.heap.size:=Nat.lt_of_lt_of_le hbl' hx.size
  have HSS:=Lib.hid (show ∀ W,Ext wr W→W.cell? ⟨bo,fo+j*7,none⟩=some (.string x)∧W.cell? ⟨bo,fo+j*7+1,none⟩=some (.int .i64 d.kind)∧W.cell? ⟨bo,fo+j*7+2,none⟩=some (.bool d.b)∧W.cell? ⟨bo,fo+j*7+3,none⟩=some (.int .i64 d.i)∧W.cell? ⟨bo,fo+j*7+4,none⟩=some (.string d.t)∧W.cell? ⟨bo,fo+j*7+5,none⟩=some (.slice (co j).1.a d.l.length (co j).1.c)∧W.cell? ⟨bo,fo+j*7+6,none⟩=some (.slice (co j).2.a d.ok.length (co j).2.c)∧W.cell? ⟨bo',fo'+j*7,none⟩=some (.string x')∧W.cell? ⟨bo',fo'+j*7+1,none⟩=some (.int .i64 d'.kind)∧W.cell? ⟨bo',fo'+j*7+2,none⟩=some (.bool d'.b)∧W.cell? ⟨bo',fo'+j*7+3,none⟩=some (.int .i64 d'.i)∧W.cell? ⟨bo',fo'+j*7+4,none⟩=some (.string d'.t)∧W.cell? ⟨bo',fo'+j*7+5,none⟩=some (.slice (co' j).1.a d'.l.length (co' j).1.c)∧W.cell? ⟨bo',fo'+j*7+6,none⟩=some (.slice (co' j).2.a d'.ok.length (co' j).2.c) from
   fun W hW=>⟨(hW.cell lb).trans kx,(hW.cell lb).trans v0,(hW.cell lb).trans v1,(hW.cell lb).trans v2,(hW.cell lb).trans v3,(hW.cell lb).trans v4,(hW.cell lb).trans v5,(hW.cell lb').trans kx',(hW.cell lb').trans v0',(hW.cell lb').trans v1',(hW.cell lb').trans v2',(hW.cell lb').trans v3',(hW.cell lb').trans v4',(hW.cell lb').trans v5'⟩)
  rw [hcc] at HD HIC
  clear hcc kx kx' hxx hxx' hp hx hd hd' hag hbl hbl' v0 v1 v2 v3 v4 v5 v0' v1' v2' v3' v4' v5'
  go_wp2_with fail
  refine wp_region_held_drew (S:=(fun w'=>Ext wr w')) (by kernel_rfl) (((Ext.refl wr).drew)) (fun hHeld=>?_)
  refine heldT 0 (some 17) HSS hHeld ?_
  refine heldT 1 (some 18) HSS hHeld ?_
  refine heldT 2 (some 19) HSS hHeld ?_
  refine heldT 3 (some 20) HSS hHeld ?_
  refine heldT 4 (some 21) HSS hHeld ?_
  refine heldT 5 (some 22) HSS hHeld ?_
  refine heldT 6 (some 23) HSS hHeld ?_
  refine heldT 7 (some 24) HSS hHeld ?_
  refine heldT 8 (some 25) HSS hHeld ?_
  refine held_call (i:=9) (by kernel_rfl) rfl (by rfl) (fun K hK=>?_)
  go_simp
  (refine (HIC.out _ hHeld).mono ?_;rintro e w2 ⟨rfl,hx2⟩)
  refine hK.out _ _ (hHeld.trans hx2) (fun hHeld=>?_)
  clear hK K
  try simp only [Act.put,List.setIfInBounds_toArray,List.set_cons_zero,List.set_cons_succ]
  refine heldT 10 (some 8) HSS hHeld ?_
  refine wpAnyH_done (by kernel_rfl) ?_ _
  have HX2:=Lib.hid (HX.out.trans hHeld)
  clear hHeld hx2
  by_cases hc:c=0
  ·have hcb:(c != 0)=false:=by simp [hc]
   have HC:=Lib.hid hc
   clear hc
   go_wp2_with fail
   go_roundw
   case rel=>exact ⟨j+1,by go_num,h1,by rw [HP.out,HD.out,if_neg (by simp [HC.out])],HX2.out⟩
   simp [intOf];omega
  have hcb:(c != 0)=true:=bne_iff_ne.2 hc
  have HC:=Lib.hid hc
  clear hc
  go_wp2_with fail
  go_ret
  rw [HP.out,HD.out,if_pos HC.out]
  exact ⟨rfl,HX2.out⟩
 have g1:¬(j:Int)<(mn:Int):=by omega
 have HE:=Lib.hid (cmpM_end (l:=ov) (l':=ov') (k:=ok) (k':=ok') (j:=j) (by rw [HOV.out,HOV'.out];omega) (by rw [HOV.out];omega) (by rw [HOV'.out];omega))
 have hcm:=compareint_any wr (ok.length:Int) (ok'.length:Int)
 clear hp hx
 go_wp2_with fail
 refine hcm.mono ?_
 rintro e w2 ⟨rfl,rfl⟩
 go_wp2_with fail
 go_ret
 rw [HP.out,HE.out,HOV.out,HOV'.out]
 exact ⟨rfl,HX.out⟩
def boolN (b:Bool):Int:=if b then 1 else 0
theorem boolN_cmp (a b:Bool):numI (boolN a) (boolN b)=boolI a b:=by cases a <;> cases b <;> rfl
structure BxS (w:World) (b b':Bool) (W:World):Prop where
 ext:Ext w W
 b0:∃ v0 v2 v3 v4 v5,Blk W w.heap.size 28 #[v0,.bool b,v2,v3,v4,v5]
 b1:∃ v0 v2 v3 v4 v5,Blk W (w.heap.size+1) 28 #[v0,.bool b',v2,v3,v4,v5]
theorem BxS.drew {w W:World} {b b':Bool} (h:BxS w b b' W):BxS w b b' W.drew:=by
 obtain ⟨h1,⟨a0,a2,a3,a4,a5,ha⟩,⟨c0,c2,c3,c4,c5,hc⟩⟩:=h
 exact ⟨h1.drew,⟨_,_,_,_,_,ha.ext ((Ext.refl W).drew)⟩,⟨_,_,_,_,_,hc.ext ((Ext.refl W).drew)⟩⟩
theorem BxS.at0 {w W:World} {b b':Bool} (h:BxS w b b' W):∃ u,W.cell? ⟨w.heap.size,2,none⟩=some u∧W.frozen? ⟨w.heap.size,2,none⟩=false∧w.heap.size<W.heap.size:=by
 obtain ⟨h1,⟨a0,a2,a3,a4,a5,ha⟩,-⟩:=h
 exact ⟨_,ha.cell 2,ha.frozen 2,ha.lt⟩
theorem BxS.at1 {w W:World} {b b':Bool} (h:BxS w b b' W):∃ u,W.cell? ⟨w.heap.size+1,2,none⟩=some u∧W.frozen? ⟨w.heap.size+1,2,none⟩=false∧w.heap.size+1<W.heap.size:=by
 obtain ⟨h1,-,⟨a0,a2,a3,a4,a5,ha⟩⟩:=h
 exact ⟨_,ha.cell 2,ha.frozen 2,ha.lt⟩
theorem BxS.set0 {w W:World} {b b':Bool} (h:BxS w b b' W) (v:Value):BxS w b b' (W.setCell ⟨w.heap.size,2,none⟩ v):=by
 obtain ⟨h1,⟨a0,a2,a3,a4,a5,ha⟩,⟨c0,c2,c3,c4,c5,hc⟩⟩:=h
 exact ⟨h1.setCell (p:=⟨w.heap.size,2,none⟩) (Nat.le_refl _) v,⟨_,_,_,_,_,ha.set_ 2 v⟩,⟨_,_,_,_,_,((St.refl (fun b=>b=w.heap.size) W).set (p:=⟨w.heap.size,2,none⟩) (.inr rfl) v).blk hc (by omega)⟩⟩
theorem BxS.set1 {w W:World} {b b':Bool} (h:BxS w b b' W) (v:Value):BxS w b b' (W.setCell ⟨w.heap.size+1,2,none⟩ v):=by
 obtain ⟨h1,⟨a0,a2,a3,a4,a5,ha⟩,⟨c0,c2,c3,c4,c5,hc⟩⟩:=h
 exact ⟨h1.setCell (p:=⟨w.heap.size+1,2,none⟩) (by simp) v,⟨_,_,_,_,_,((St.refl (fun b=>b=w.heap.size+1) W).set (p:=⟨w.heap.size+1,2,none⟩) (.inr rfl) v).blk ha (by omega)⟩,⟨_,_,_,_,_,hc.set_ 2 v⟩⟩
theorem BxS.ends {w W:World} {b b':Bool} (h:BxS w b b' W) (v v':Value):((W.setCell ⟨w.heap.size,2,none⟩ v).setCell ⟨w.heap.size+1,2,none⟩ v').cell? ⟨w.heap.size,2,none⟩=some v∧((W.setCell ⟨w.heap.size,2,none⟩ v).setCell ⟨w.heap.size+1,2,none⟩ v').cell? ⟨w.heap.size+1,2,none⟩=some v':=by
 obtain ⟨h1,⟨a0,a2,a3,a4,a5,ha⟩,-⟩:=h.set0 v
 obtain ⟨-,⟨b0,b2,b3,b4,b5,hb⟩,⟨c0,c2,c3,c4,c5,hc⟩⟩:=h
 have hc':=((St.refl (fun b=>b=w.heap.size) W).set (p:=⟨w.heap.size,2,none⟩) (.inr rfl) v).blk hc (by omega)
 have hb':=hb.set_ 2 v
 have hb2:=((St.refl (fun b=>b=w.heap.size+1) (W.setCell ⟨w.heap.size,2,none⟩ v)).set (p:=⟨w.heap.size+1,2,none⟩) (.inr rfl) v').blk hb' (by omega)
 exact ⟨hb2.cell 2,(hc'.set_ 2 v').cell 2⟩
theorem rankN_any (w:World) (b:Bool):Calls Tryz.prog 131 #[.bool b] w fun e w'=>e=.returned (.int .i64 (boolN b))∧w=w':=rank_any w b
theorem cmp_any (m:Nat):CmpIH m:=by
 induction m with
 | zero=>intro d y hd;have:=Val.sz_pos d;omega
 | succ m ih=>
 intro x y hd w sl so sl' so' h h'
 have hv:=fun (W:World) (hW:Ext w W)=>inOrderV ih hd ((h.agree (hW.agree fun _ h=>h)).mono fun i hi=>Nat.lt_of_lt_of_le hi hW.size) ((h'.agree (hW.agree fun _ h=>h)).mono fun i hi=>Nat.lt_of_lt_of_le hi hW.size)
 have hm:=fun (W:World) (hW:Ext w W)=>inOrderM ih hd ((h.agree (hW.agree fun _ h=>h)).mono fun i hi=>Nat.lt_of_lt_of_le hi hW.size) ((h'.agree (hW.agree fun _ h=>h)).mono fun i hi=>Nat.lt_of_lt_of_le hi hW.size)
 clear ih h h' hd
 obtain ⟨k,b,i,t,l,ok,ov⟩:=x
 obtain ⟨k',b',i',t',l',ok',ov'⟩:=y
 have HV:=Lib.hid (show ∀ (W:World) (hW:Ext w W),Calls Tryz.prog 134 #[.slice sl.a l.length sl.c,.slice sl'.a l'.length sl'.c,.func (.func 90) #[] #[]] W (CmpPost (cmpL l l') W) from hv)
 have HM:=Lib.hid (show ∀ (W:World) (hW:Ext w W),Calls Tryz.prog 135 #[.slice so.a ok.length so.c,.slice so'.a ok'.length so'.c,.func (.func 136) #[] #[]] W (CmpPost (cmpM ov ok ok' ov') W) from hm)
 show Calls _ _ #[.agg #[.int .i64 k,.bool b,.int .i64 i,.string t,.slice sl.a l.length sl.c,.slice so.a ok.length so.c],.agg #[.int .i64 k',.bool b',.int .i64 i',.string t',.slice sl'.a l'.length sl'.c,.slice so'.a ok'.length so'.c]] _ _
 have hcv:cmpV (.mk k b i t l ok ov) (.mk k' b' i' t' l' ok' ov')=if k≠k' then numI k k' else if k=2 then boolI b b' else if k=3 then numI i i' else if k=4 then textI t t' else if k=5 then cmpL l l' else if k=6 then cmpM ov ok ok' ov' else 0:=by
  simp only [cmpV,Val.kind,Val.b,Val.i,Val.t,Val.l,Val.ok,Val.ov]
  rfl
 rw [hcv]
 clear hcv hv hm
 have hXX:Ext w ((w.alloc (.cells #[.int .i64 k,.bool b,.int .i64 i,.string t,.slice sl.a l.length sl.c,.slice so.a ok.length so.c] 28)).alloc (.cells #[.int .i64 k',.bool b',.int .i64 i',.string t',.slice sl'.a l'.length sl'.c,.slice so'.a ok'.length so'.c] 28)):=((Ext.refl w).alloc _ _).alloc _ _
 have HXX:=Lib.hid hXX
 have HK:=Lib.hid (fun W=>compareKind_any W k k')
 have HI:=Lib.hid (fun W a b=>compareint64_any W a b)
 have HT:=Lib.hid (fun W=>stringsCompare_any W t t')
 have HR:=Lib.hid (fun W (b:Bool)=>rankN_any W b)
 clear hXX
 by_cases hkk:k=k'
 ·subst hkk
  have hkb:(k != k)=false:=by simp
  rw [if_neg (by simp)]
  by_cases h2:k=2
  ·subst h2
   rw [if_pos rfl,←boolN_cmp]
   clear HXX
   go_enter Tryz.func90,Tryz.ntmps90
   go_wp2_with fail
   generalize hW0:World.alloc (World.alloc _ _) _=W0
   obtain ⟨hx0,hz0,hb0,hb1⟩:=two_blocks w _ _ _ _ W0 hW0
   clear hW0
   have hB0:BxS w b b' W0:=⟨hx0,⟨_,_,_,_,_,hb0⟩,⟨_,_,_,_,_,hb1⟩⟩
   have HSS:=Lib.hid (show ∀ W,BxS w b b' W→W.cell? ⟨w.heap.size,1,none⟩=some (.bool b)∧W.cell? ⟨w.heap.size+1,1,none⟩=some (.bool b') from fun W hW=>by
    obtain ⟨-,⟨a0,a2,a3,a4,a5,ha⟩,⟨c0,c2,c3,c4,c5,hc⟩⟩:=hW
    exact ⟨ha.cell 1,hc.cell 1⟩)
   have HB0:=Lib.hid hB0
   clear hx0 hb0 hb1 hB0 hz0
   refine wp_region_held_drew (S:=(fun w'=>BxS w b b' w')) (by kernel_rfl) ((HB0.out.drew)) (fun hHeld=>?_)
   refine heldT 0 (some 27) HSS hHeld ?_
   refine heldT 1 (some 28) HSS hHeld ?_
   refine heldT 3 (some 30) HSS hHeld ?_
   refine heldT 4 (some 31) HSS hHeld ?_
   refine held_call (i:=2) (by kernel_rfl) rfl (by rfl) (fun K hK=>?_)
   go_simp
   (refine (HR.out _ b).mono ?_;rintro e w1 ⟨rfl,rfl⟩)
   refine hK.out _ _ (hHeld) (fun hHeld=>?_)
   clear hK K
   try simp only [Act.put,List.setIfInBounds_toArray,List.set_cons_zero,List.set_cons_succ]
   refine heldT 6 (some 33) HSS hHeld ?_
   refine held_call (i:=5) (by kernel_rfl) rfl (by rfl) (fun K hK=>?_)
   go_simp
   (refine (HR.out _ b').mono ?_;rintro e w1 ⟨rfl,rfl⟩)
   refine hK.out _ _ (hHeld) (fun hHeld=>?_)
   clear hK K
   try simp only [Act.put,List.setIfInBounds_toArray,List.set_cons_zero,List.set_cons_succ]
   obtain ⟨u7,c7,f7,l7⟩:=hHeld.at0
   refine held_call (i:=7) (by kernel_rfl) rfl (by rfl) (fun K hK=>?_)
   go_simp
   skip
   refine hK.out _ _ (hHeld.set0 _) (fun hHeld=>?_)
   clear hK K
   try simp only [Act.put,List.setIfInBounds_toArray,List.set_cons_zero,List.set_cons_succ]
   refine heldT 8 (some 34) HSS hHeld ?_
   obtain ⟨u9,c9,f9,l9⟩:=hHeld.at1
   refine held_call (i:=9) (by kernel_rfl) rfl (by rfl) (fun K hK=>?_)
   go_simp
   skip
   refine hK.out _ _ (hHeld.set1 _) (fun hHeld=>?_)
   clear hK K
   try simp only [Act.put,List.setIfInBounds_toArray,List.set_cons_zero,List.set_cons_succ]
   refine wpAnyH_done (by kernel_rfl) ?_ _
   have HH:=Lib.hid hHeld
   obtain ⟨q0,q1⟩:=HB0.out.ends (.int .i64 (boolN b)) (.int .i64 (boolN b'))
   clear hHeld
   generalize (W0.setCell ⟨w.heap.size,2,none⟩ (.int .i64 (boolN b))).setCell ⟨w.heap.size+1,2,none⟩ (.int .i64 (boolN b'))=W9 at *
   go_wp2_with fail
   refine (HI.out _ _ _).mono ?_
   rintro e w2 ⟨rfl,rfl⟩
   go_wp2_with fail
   go_ret
   exact ⟨rfl,HH.out.ext⟩
  have h2b:(k == 2)=false:=beq_eq_false_iff_ne.2 h2
  by_cases h3:k=3
  ·subst h3
   rw [if_neg h2,if_pos rfl]
   clear h2
   go_enter Tryz.func90,Tryz.ntmps90
   go_wp2_with fail
   refine (HI.out _ _ _).mono ?_
   rintro e w2 ⟨rfl,rfl⟩
   go_wp2_with fail
   go_ret
   exact ⟨rfl,HXX.out⟩
  have h3b:(k == 3)=false:=beq_eq_false_iff_ne.2 h3
  by_cases h4:k=4
  ·subst h4
   rw [if_neg h2,if_neg h3,if_pos rfl]
   clear h2 h3
   go_enter Tryz.func90,Tryz.ntmps90
   go_wp2_with fail
   refine (HT.out _).mono ?_
   rintro e w2 ⟨rfl,rfl⟩
   go_wp2_with fail
   go_ret
   exact ⟨rfl,HXX.out⟩
  have h4b:(k == 4)=false:=beq_eq_false_iff_ne.2 h4
  rw [if_neg h2,if_neg h3,if_neg h4]
  by_cases h5:k=5
  ·subst h5
   rw [if_pos rfl]
   clear h2 h3 h4
   go_enter Tryz.func90,Tryz.ntmps90
   go_wp2_with fail
   refine (HV.out _ HXX.out).mono ?_
   rintro e w2 ⟨rfl,hx⟩
   have HX:=Lib.hid hx
   clear hx
   go_wp2_with fail
   go_ret
   exact ⟨rfl,HXX.out.trans HX.out⟩
  have h5b:(k == 5)=false:=beq_eq_false_iff_ne.2 h5
  rw [if_neg h5]
  by_cases h6:k=6
  ·subst h6
   rw [if_pos rfl]
   clear h2 h3 h4 h5
   go_enter Tryz.func90,Tryz.ntmps90
   go_wp2_with fail
   refine (HM.out _ HXX.out).mono ?_
   rintro e w2 ⟨rfl,hx⟩
   have HX:=Lib.hid hx
   clear hx
   go_wp2_with fail
   go_ret
   exact ⟨rfl,HXX.out.trans HX.out⟩
  have h6b:(k == 6)=false:=beq_eq_false_iff_ne.2 h6
  rw [if_neg h6]
  clear h2 h3 h4 h5 h6
  go_enter Tryz.func90,Tryz.ntmps90
  go_wp2_with fail
  go_ret
  exact ⟨rfl,HXX.out⟩
 have hkb:(k != k')=true:=bne_iff_ne.2 hkk
 rw [if_pos hkk]
 clear hkk
 go_enter Tryz.func90,Tryz.ntmps90
 go_wp2_with fail
 refine (HK.out _).mono ?_
 rintro e w2 ⟨rfl,rfl⟩
 go_wp2_with fail
 go_ret
 exact ⟨rfl,HXX.out⟩
theorem mod_apart {a b k:Nat} (h:a<b) (hk:b<a+k):a % k≠b % k:=by
 intro e
 have h1:=Nat.sub_mod_eq_zero_of_mod_eq e.symm
 rw [Nat.mod_eq_of_lt (by omega)] at h1
 omega
def Holds (keep f:Nat) (xs ring:List Value):Prop:=∀ j,j<xs.length→xs.length≤j+keep→ring[(f+j) % keep]? = xs[j]?
theorem Holds.put {keep f:Nat} {xs ring:List Value} (h:Holds keep f xs ring) (hl:ring.length=keep) (hp:1≤keep) (x:Value):Holds keep f (xs++[x]) (ring.set ((f+xs.length) % keep) x):=by
 intro j hj hk
 rw [List.length_append] at hj hk
 simp only [List.length_cons,List.length_nil] at hj hk
 by_cases e:j=xs.length
 ·subst e
  rw [List.getElem?_set_self (by rw [hl];exact Nat.mod_lt _ hp)]
  simp
 rw [List.getElem?_set_ne (fun e'=>mod_apart (a:=f+j) (b:=f+xs.length) (k:=keep) (by omega) (by omega) e'.symm),h j (by omega) (by omega),List.getElem?_append_left (by omega)]
def pk (i:Int):Nat:=(IntKind.u64.wrap i % 5).toNat
theorem SlAt.same {F F':Nat→Prop} {s:Sl} {n b o b' o':Nat} (h:SlAt F s n b o) (h':SlAt F' s n b' o') (hn:0<n):b=b'∧o=o':=by
 have e:=(h.eq hn).1.symm.trans (h'.eq hn).1
 simpa using e
theorem Val.ext_of {d d':Val} (h1:d.kind=d'.kind) (h2:d.b=d'.b) (h3:d.i=d'.i) (h4:d.t=d'.t) (h5:d.l=d'.l) (h6:d.ok=d'.ok) (h7:d.ov=d'.ov):d=d':=by
 cases d;cases d'
 simp only [Val.kind,Val.b,Val.i,Val.t,Val.l,Val.ok,Val.ov] at *
 subst_vars;rfl
theorem valueSame_any {w:World} {x y:Val} {sl so sl' so':Sl} (h:RV w (Lt w.heap.size) x sl so) (h':RV w (Lt w.heap.size) y sl' so') :
  Calls Tryz.prog 53 #[aggV x sl so,aggV y sl' so'] w fun e w'=>e=.returned (.bool (decide (cmpV x y=0)))∧Ext w w':=by
 have hc:∀ W,Ext w W→Calls Tryz.prog 90 #[aggV x sl so,aggV y sl' so'] W (CmpPost (cmpV x y) W):=fun W hW=>
  cmp_any _ x y (Nat.le_refl _) W _ _ _ _ ((h.agree (hW.agree fun _ h=>h)).mono fun i hi=>Nat.lt_of_lt_of_le hi hW.size) ((h'.agree (hW.agree fun _ h=>h)).mono fun i hi=>Nat.lt_of_lt_of_le hi hW.size)
 have HC:=Lib.hid hc
 have hb:(cmpV x y == 0)=decide (cmpV x y=0):=by by_cases h:cmpV x y=0 <;> simp [h]
 have HB:=Lib.hid hb
 clear hc h h' hb
 obtain ⟨k,b,i,t,l,ok,ov⟩:=x
 obtain ⟨k',b',i',t',l',ok',ov'⟩:=y
 go_enter Tryz.func53,Tryz.ntmps53
 go_wp2_with fail
 generalize hW0:World.alloc (World.alloc _ _) _=W0
 obtain ⟨hx0,hz0,hb0,hb1⟩:=two_blocks w _ _ _ _ W0 hW0
 clear hW0
 refine (HC.out _ hx0).mono ?_
 rintro e w1 ⟨rfl,hx⟩
 go_wp2_with fail
 go_ret
 exact ⟨rfl,hx0.trans hx⟩
theorem IsT.leads {w:World} {F:Nat→Prop} {T:RT} (h:IsT w F T) {p:Option Addr} (hp:rootV T=.pointer p):Leads w p:=by
 intro a ha
 subst ha
 match T,h,hp with
 | none,_,hp=>simp [rootV] at hp
 | some ⟨n,t⟩,h,hp=>
   have h:IsN w F n t:=h
   obtain ⟨-,_,_,_,_,-,hb⟩:=h.cells
   have e:a=⟨addr n t,0,none⟩:=by simpa [rootV,ptr] using hp.symm
   subst e
   exact ⟨_,_,hb⟩
end Go.Proofs.YtkhdiakpdafcdaaGreatDoor
namespace Go.Proofs.YtkhdiakpdafcdaaGreatDoor
open Go.RowKit Go.Maps Go.Shelf
set_option linter.unusedVariables false
set_option linter.unusedSimpArgs false
theorem look_ov1 {W:World} {mb:Option Nat} {C:AL SV} (hm:OvMap W mb C) {k:ByteArray} (hk:k.size≤maxLen) :
  (Instr.lookup 80 (.map mb) (.string k) false).run Tryz.prog W=.ok (hadA C k).val W:=by
 cases mb with
 | none=>
   have hC:C=[]:=hm
   subst hC
   rw [Maps.look_nil false strKey Tryz.underlying80 (zeroSlot W) (keyA k hk)]
   rfl
 | some b=>
   obtain ⟨es,clock,hb,F,hs,hD⟩:=hm
   rcases Maps.fit_look false strKey Tryz.underlying80 (zeroSlot W) hb F (keyA k hk) with ⟨hrun,_,hat⟩ | ⟨e0,y,_,_,hrun,hRv,hat,_⟩
   ·rw [hrun]
    have h1:=hat .nil
    rw [←hD,at_mapA] at h1
    unfold hadA
    cases hg:getA C k with
    | none=>rfl
    | some s=>rw [hg] at h1;cases h1
   rw [hrun]
   have h1:=hat .nil
   rw [←hD,at_mapA] at h1
   have h2:=hat (.held (.bool true))
   rw [←hD,at_mapA] at h2
   unfold hadA
   cases hg:getA C k with
   | none=>rw [hg] at h1 h2;rw [←h1] at h2;cases h2
   | some s=>
     rw [hg] at h1
     obtain ⟨y1,y2⟩:=y
     dsimp only at h1
     rw [←h1] at hRv
     rw [heldR_inv hRv];rfl
theorem keys_sorted {C:AL SV} (hC:SortedA C) {ss:List (List UInt8)} (hp:ss.Perm (strKeys (mapA SV.val C))):(ss.mergeSort fun x y=>decide (x≤y)).map encStr=C.map fun p=>.string p.1:=by
 rw [strKeys_mapA] at hp
 have hm:(ss.mergeSort fun x y=>decide (x≤y)).Perm ss:=List.mergeSort_perm ..
 have hr:(C.map Prod.fst).Pairwise fun x y=>klt x y=true:=List.pairwise_map.2 hC
 have hb:((ss.mergeSort fun x y=>decide (x≤y)).map textO).map bytesO=ss.mergeSort fun x y=>decide (x≤y):=bytesO_back _
 have hpt:((ss.mergeSort fun x y=>decide (x≤y)).map textO).Perm (C.map Prod.fst):=by
  have h1:=((hm.trans hp).map textO)
  rw [List.map_map] at h1
  exact h1
 have hnd:((ss.mergeSort fun x y=>decide (x≤y)).map textO).Nodup:=hpt.nodup_iff.2 (hr.imp fun {a b} h e=>klt_ne h e)
 have he:(ss.mergeSort fun x y=>decide (x≤y)).map textO=C.map Prod.fst:=rise_ext (rise_sorted (by rw [hb];exact leB_sorted ss) hnd) hr fun k=>hpt.mem_iff
 have h2:(ss.mergeSort fun x y=>decide (x≤y)).map encStr=((ss.mergeSort fun x y=>decide (x≤y)).map textO).map .string:=by rw [List.map_map];rfl
 rw [h2,he,List.map_map];rfl
theorem own_slice {w:World} {base e size n:Nat} {v:Value} {xs:List Value} (h:w.ownsRow base e size v n xs):∃ s:Sl,v=.slice s.a n s.c:=by
 rcases h.2 with ⟨rfl,rfl⟩ | ⟨g,cap,cur,rfl,r⟩
 ·exact ⟨Sl.none,rfl⟩
 exact ⟨⟨some ⟨g,0,none⟩,cap⟩,rfl⟩
def CB (F:Nat→Prop) (w wr:World) (b:Nat):Prop:=(F b∨w.heap.size+2≤b)∧b<wr.heap.size
theorem com_next {F:Nat→Prop} {w w2 wr w7 w8:World} {T':RT} {p':Option Addr} {v0:Value} (hz:w.heap.size+2≤wr.heap.size) (hF:∀ b,F b→b<w.heap.size) (h7:Ext wr w7) (h8:Ext w7 w8) (hT:IsT w8 (Up (CB F w wr) w7 w8) T') (hp:rootV T'=.pointer p') (hb:Blk wr (w.heap.size+1) 41 #[v0])
  (hs:Sb (fun c=>c=w.heap.size+1) w2 wr) :
  IsT (w8.setCell ⟨w.heap.size+1,0,none⟩ (.pointer p')) (CB F w (w8.setCell ⟨w.heap.size+1,0,none⟩ (.pointer p'))) T'∧Blk (w8.setCell ⟨w.heap.size+1,0,none⟩ (.pointer p')) (w.heap.size+1) 41 #[rootV T']∧Sb (fun c=>c=w.heap.size+1) w2 (w8.setCell ⟨w.heap.size+1,0,none⟩ (.pointer p')):=by
 have s7:=h7.size
 have s8:=h8.size
 refine ⟨(hT.agree (Agree.setCell w8 ⟨w.heap.size+1,0,none⟩ _ ?_)).mono fun i hi=>?_,?_,(hs.ext (h7.trans h8)).set (p:=⟨w.heap.size+1,0,none⟩) (.inr rfl) _⟩
 ·rintro (hf | hf)
  ·rcases hf.1 with h | h
   ·have:=hF _ h;dsimp only at this;omega
   dsimp only at h;omega
  have:w7.heap.size≤w.heap.size+1:=hf.1
  omega
 ·rw [CB,World.size_setCell]
  rcases hi with hi | hi
  ·exact ⟨hi.1,by have:=hi.2;omega⟩
  exact ⟨.inr (by have:=hi.1;omega),hi.2⟩
 rw [hp];exact (hb.ext (h7.trans h8)).set_ 0 _
def CommitPost (H:Nat→Prop) (O:Nat) (d:OD) (w:World) (e:Ending) (w':World):Prop:=
 ∃ T':RT,e=.returned (treeV T')∧OkR T'∧IsT w' (Up (OvF H w O d) w w') T'∧entsT T'=comE (entsT d.T) (optA d.C) (entsT d.T)∧Nw w w'∧(idleC (entsT d.T) (optA d.C)→T'=d.T)
theorem comE_at {B:List Ent} {C:AL SV} {j:Nat} {p:ByteArray × SV} (h:C[j]? = some p) (t:List Ent):comE B ((optA C).drop j) t=comE B ((optA C).drop (j+1)) (match p.2.opt with
  | some v=>if (getE B p.1).any (fun was=>decide (cmpV was v=0)) then t else insE t p.1 v
  | none=>if (getE B p.1).isSome then delE t p.1 else t):=by
 have h1:(optA C)[j]? = some (p.1,p.2.opt):=by unfold optA;rw [List.getElem?_map,h];rfl
 obtain ⟨h2,h3⟩:=List.getElem?_eq_some_iff.1 h1
 conv=>lhs;rw [List.drop_eq_getElem_cons h2,h3]
 cases p.2.opt <;> rfl
theorem idle_at {B:List Ent} {C:AL SV} (hC:SortedA C) {j:Nat} {p:ByteArray × SV} (h:C[j]? = some p) (hi:idleC B (optA C)):match p.2.opt with
  | some v=>(getE B p.1).any (fun was=>decide (cmpV was v=0))=true
  | none=>getE B p.1=none:=
 hi p.1 p.2.opt (by rw [getA_opt,getA_mem hC (List.mem_of_getElem? h)];rfl)
theorem own_atO {base:Nat} {w:World} {t:TypeId} {s:Sl} {n:Nat} {xs:List Value} (h:w.ownsRow base t 1 (.slice s.a n s.c) n xs) {i:Nat} {v:Value} (hi:xs[i]? = some v):∃ g,s.a=some ⟨g,0,none⟩∧s.row=some g∧base≤g∧g<w.heap.size∧n≤s.c∧s.c≤maxLen∧w.cell? ⟨g,i,none⟩=some v:=by
 have hil:=(List.getElem?_eq_some_iff.1 hi).1
 have hn:xs.length=n*1:=h.1
 obtain ⟨g,cap,rfl,hg,h1,h2,hf⟩:=own_block h (by omega)
 obtain ⟨b,o,h3,h4,h5⟩:=Rd.of_own h
 obtain ⟨e1,-,-⟩:=h3.eq (by omega)
 obtain ⟨rfl,rfl⟩:g=b∧0=o:=by simpa using e1
 exact ⟨g,rfl,rfl,hg,hf.lt,h1,h2,by have:=h5 i v hi;rwa [Nat.zero_add] at this⟩
theorem commit_some {H:Nat→Prop} {w:World} {O:Nat} {d:OD} (h:OvAt H w O d) {b:Nat} (hm:d.mb=some b) (hl:(entsT d.T).length+d.C.length≤1000000):Calls Tryz.prog 26 #[.pointer (some ⟨O,0,none⟩)] w (CommitPost H O d w):=by
 have c0:w.cell? ⟨O,0,none⟩=some (rootV d.T):=h.blk.cell 0
 have c1:w.cell? ⟨O,1,none⟩=some (.map (some b)):=by have:=h.blk.cell 1;rw [hm] at this;exact this
 have lO:=h.blk.lt
 obtain ⟨r,hr⟩:=rootV_ptr d.T
 rw [hr] at c0
 have l1:O<w.heap.size+1:=by omega
 have l2:O<w.heap.size+1+1:=by omega
 have hF:∀ b,OvF H w O d b→b<w.heap.size:=fun b hb=>hb.1
 obtain ⟨n,hn⟩:∃ n,d.C.length=n:=⟨_,rfl⟩
 rw [hn] at hl
 obtain ⟨n0,hn0⟩:∃ n,(entsT d.T).length=n:=⟨_,rfl⟩
 rw [hn0] at hl
 have HAT:=Lib.hid h
 have HM:=Lib.hid hm
 have HN:=Lib.hid hn
 have HN0:=Lib.hid hn0
 have HR:=Lib.hid hr
 have HF:=Lib.hid hF
 have LO:=Lib.hid lO
 clear h hm hr hF hn hn0
 go_enter Tryz.func26,Tryz.ntmps26
 go_wp2_with fail
 generalize hW0:World.alloc _ _=W0
 obtain ⟨hx0,hz0,hb0,hb1⟩:=two_blocks w _ _ _ _ W0 hW0
 have HX0:=Lib.hid hx0
 have HB0:=Lib.hid hb0
 have HB1:=Lib.hid hb1
 have HZ0:=Lib.hid hz0
 clear hW0 hx0 hb0 hb1 l1 l2 hz0
 refine ((callsIn_wide (n:=5)).1 (Tryz.maps_KeysO (some b) W0)).mono ?_
 rintro e w' ⟨rfl,rfl⟩
 go_wp2_with fail
 have hown:W0.ownsMap Tryz.prog 9 heldR b d.C.length (mapA SV.val d.C):=by
  have h1:=HAT.out.map
  rw [HM.out] at h1
  have hb:=HAT.out.map.lt HM.out
  exact ownsMap_heap h1 ((Nw.of HX0.out).block b hb id)
 have hsz:Maps.size (mapA SV.val d.C)=n:=by rw [size_mapA];exact HN.out
 refine ((callsIn_wide (n:=5)).1 (Tryz.slices_Sorted_keysO b d.C.length (mapA SV.val d.C) heldR W0 hown (by rw [hsz];unfold maxLen;omega) (by rw [hsz];omega))).mono ?_
 rintro e w2 ⟨v,ss,rfl,hp,hrow,hnil,hbl⟩
 have hlen:ss.length=n:=by have:=hp.length_eq;rw [strKeys_mapA,List.length_map,HN.out] at this;exact this
 rw [keys_sorted HAT.out.sorted hp,hlen] at hrow
 obtain ⟨s,rfl⟩:=own_slice hrow
 rw [World.size_alloc,HZ0.out] at hrow
 have hn2:Nw W0 w2:=(Nw.of ((Ext.refl W0).alloc #[.map (some b)] 80)).trans (Sb.new hbl)
 have hn02:Nw w w2:=(Nw.of HX0.out).trans hn2
 have HN2:=Lib.hid hn02
 have HB0':=Lib.hid (hn2.blk HB0.out)
 have HB1':=Lib.hid (hn2.blk HB1.out)
 have HROW:=Lib.hid hrow
 have hz2:w.heap.size+2≤w2.heap.size:=by have:=hn2.size;have:=HZ0.out;omega
 have HZ2:=Lib.hid hz2
 clear hown hsz hp hrow hnil hbl hn2 hn02 hlen c0 c1 HB0 HB1 hz2
 go_wp2_with fail
 go_loopw [23] (fun q wr=>∃ (j:Nat) (T1:RT),q=.int .i64 j∧j≤n∧OkR T1∧IsT wr (CB (OvF H w O d) w wr) T1∧comE (entsT d.T) ((optA d.C).drop j) (entsT T1)=comE (entsT d.T) (optA d.C) (entsT d.T)∧(entsT T1).length≤n0+j∧Blk wr (w.heap.size+1) 41 #[rootV T1]∧Sb (fun c=>c=w.heap.size+1) w2 wr∧(idleC (entsT d.T) (optA d.C)→T1=d.T)) (fun q _=>n - (intOf q).toNat)
 case atStart=>exact ⟨0,d.T,rfl,Nat.zero_le _,HAT.out.ok,(HAT.out.tree.agree (Nw.agree HN2.out HF.out)).mono fun i hi=>⟨.inl hi,Nat.lt_of_lt_of_le hi.1 HN2.out.size⟩,rfl,by rw [HN0.out];exact Nat.le_refl _,by rw [HR.out];exact HB1'.out,Sb.refl _ _,fun _=>rfl⟩
 obtain ⟨j,T1,rfl,hj,ok,hT,hce,hlT,hbT,hsb,hid⟩:=hrel
 obtain ⟨p1,hp1⟩:=rootV_ptr T1
 have hzr:w.heap.size+2≤wr.heap.size:=Nat.le_trans HZ2.out hsb.size
 by_cases hlt:j<n
 ·have g1:decide ((j:Int)<(n:Int))=true:=decide_eq_true (by omega)
  have g1':(j:Int)<(n:Int):=by omega
  obtain ⟨p,hpj⟩:∃ p,d.C[j]? = some p:=⟨_,List.getElem?_eq_getElem (by rw [HN.out];exact hlt)⟩
  have hpm:=List.mem_of_getElem? hpj
  obtain ⟨g,hsa,hsrow,hbase,hgl,hnc,hcm,hcell⟩:=own_atO HROW.out (i:=j) (v:=.string p.1) (by rw [List.getElem?_map,hpj];rfl)
  obtain ⟨sa,sc⟩:=s
  dsimp only at hsa hnc hcm
  subst hsa
  have lOw:=LO.out
  have hn2r:Sb (fun c=>c=w.heap.size+1) w wr:=(HN2.out.any _).trans hsb
  have hag:Agree (OvF H w O d) w wr:=fun i hi=>hn2r.block i hi.1 (by have:=hi.1;omega)
  have kc:wr.cell? ⟨g,j,none⟩=some (.string p.1):=(hsb.cell hgl (by omega)).trans hcell
  have kl:g<wr.heap.size:=Nat.lt_of_lt_of_le hgl hsb.size
  have hob:=hn2r.blk HAT.out.blk (by omega)
  rw [HR.out,HM.out] at hob
  have c0:wr.cell? ⟨O,0,none⟩=some (.pointer r):=hob.cell 0
  have c1:wr.cell? ⟨O,1,none⟩=some (.map (some b)):=hob.cell 1
  have lOr:=hob.lt
  obtain ⟨hkm,hsv⟩:=HAT.out.vals p hpm
  have hlk:=look_ov1 (W:=wr) (HAT.out.map.heap fun b hb=>hn2r.block b (HAT.out.map.lt hb) (by have:=HAT.out.map.lt hb;omega)) hkm
  rw [HM.out,show hadA d.C p.1=p.2 by unfold hadA;rw [getA_mem HAT.out.sorted hpm];rfl] at hlk
  have hCB:∀ i,CB (OvF H w O d) w wr i→i<wr.heap.size:=fun i hi=>hi.2
  have hlc:(entsT T1).length≤1000000:=by omega
  have hv:RV wr (Lt wr.heap.size) p.2.v p.2.sl p.2.so:=(hsv.1.agree hag).mono fun i hi=>by have:=hi.1;show i<_;omega
  have hget:=fun (W:World) (hW:Ext wr W)=>treeGet_any (k:=p.1) (w:=W) (F:=OvF H w O d) (T:=d.T) (fun i hi=>by have:=hi.1;have:=hW.size;omega) (HAT.out.tree.agree (hag.trans (hW.agree fun i hi=>by have:=hi.1;omega))) HAT.out.ok (by rw [HN0.out];omega)
  have hput:=fun (W:World) (hW:Ext wr W)=>put_any (k:=p.1) (v:=p.2.v) (sl:=p.2.sl) (so:=p.2.so) (fun b hb=>Nat.lt_of_lt_of_le (hCB b hb) hW.size) (hT.agree (hW.agree hCB)) ok hlc hkm ((hv.agree (hW.agree fun _ h=>h)).mono fun i hi=>Nat.lt_of_lt_of_le hi hW.size)
  have hdel:=fun (W:World) (hW:Ext wr W)=>delete_any (fun b hb=>Nat.lt_of_lt_of_le (hCB b hb) hW.size) (hT.agree (hW.agree hCB)) ok hlc p.1
  have hsame:=fun (W:World) (hW:Ext wr W) (x:Val) (xl xo:Sl) (hx:RV W (Lt W.heap.size) x xl xo)=>valueSame_any hx ((hv.agree (hW.agree fun _ h=>h)).mono (G:=Lt W.heap.size) fun i hi=>Nat.lt_of_lt_of_le hi hW.size)
  have hnext:=comE_at (B:=entsT d.T) hpj (entsT T1)
  have hidl:=idle_at (B:=entsT d.T) HAT.out.sorted hpj
  rw [hce] at hnext
  unfold GetPost at hget
  rw [treeV,HR.out] at hget
  rw [treeV,hp1] at hput hdel
  have hx3:Ext wr (wr.alloc (.cells p.2.cells 89)):=(Ext.refl wr).alloc _ _
  have hb3:=Blk.new wr 89 p.2.cells
  have hkeep:∀ W,Ext wr W→IsT W (CB (OvF H w O d) w W) T1∧Blk W (w.heap.size+1) 41 #[rootV T1]∧Sb (fun c=>c=w.heap.size+1) w2 W:=fun W hW=>
   ⟨(hT.agree (hW.agree hCB)).mono fun i hi=>⟨hi.1,Nat.lt_of_lt_of_le hi.2 hW.size⟩,hbT.ext hW,hsb.ext hW⟩
  have hmore:∀ w7 w8 T' p',Ext wr w7→Ext w7 w8→IsT w8 (Up (CB (OvF H w O d) w wr) w7 w8) T'→rootV T'=.pointer p'→_:=fun w7 w8 T' p' h7 h8 h1 h2=>com_next (w2:=w2) hzr HF.out h7 h8 h1 h2 hbT hsb
  obtain ⟨k,has,v,sl,so⟩:=p
  dsimp only at kc hkm hlk hv hget hput hdel hsame hnext hidl hx3 hb3
  obtain ⟨og,hog⟩:∃ o,getE (entsT d.T) k=o:=⟨_,rfl⟩
  obtain ⟨gv,hgv⟩:∃ g,og.getD zeroV=g:=⟨_,rfl⟩
  obtain ⟨gb,hgb⟩:∃ g,og.isSome=g:=⟨_,rfl⟩
  rw [hog] at hget hnext hidl
  rw [hgv,hgb] at hget
  have HSS:=Lib.hid (show ∀ W,Ext (wr.alloc (.cells (SV.cells ⟨has,v,sl,so⟩) 89)) W→(W.cell? ⟨wr.heap.size,0,none⟩=some (.bool has)∧W.cell? ⟨wr.heap.size,1,none⟩=some (.int .i64 v.kind)∧W.cell? ⟨wr.heap.size,2,none⟩=some (.bool v.b)∧W.cell? ⟨wr.heap.size,3,none⟩=some (.int .i64 v.i)∧W.cell? ⟨wr.heap.size,4,none⟩=some (.string v.t)∧W.cell? ⟨wr.heap.size,5,none⟩=some (.slice sl.a v.l.length sl.c)∧W.cell? ⟨wr.heap.size,6,none⟩=some (.slice so.a v.ok.length so.c))∧
    W.cell? ⟨w.heap.size+1,0,none⟩=some (.pointer p1)∧W.frozen? ⟨w.heap.size+1,0,none⟩=false∧w.heap.size+1<W.heap.size∧wr.heap.size<W.heap.size from fun W hW=>by
   have h1:=hbT.ext (hx3.trans hW)
   rw [hp1] at h1
   exact ⟨(hb3.ext hW).c7,h1.cell 0,h1.frozen 0,h1.lt,(hb3.ext hW).lt⟩)
  have HX3:=Lib.hid hx3
  have HGET:=Lib.hid hget
  have HPUT:=Lib.hid hput
  have HDEL:=Lib.hid hdel
  have HSAME:=Lib.hid hsame
  have HNEXT:=Lib.hid hnext
  have HIDL:=Lib.hid hidl
  have HKEEP:=Lib.hid hkeep
  have HMORE:=Lib.hid hmore
  have HOK:=Lib.hid ok
  have HLT:=Lib.hid hlT
  have HIDE:=Lib.hid hid
  clear hpj hpm hcell hn2r hag hob hkm hsv hv hget hput hdel hsame hnext hidl hx3 hb3 hkeep hmore hog ok hT hce hlT hbT hsb hid hCB hlc hp1
  go_wp2_with fail
  dsimp only [SV.cells] at HSS HX3
  generalize hW3:wr.alloc (.cells _ _)=W3 at *
  clear hW3 kc kl c0 c1 lOr hlk
  refine (HGET.out W3 HX3.out).mono ?_
  rintro e w4 ⟨gl,gq,rfl,hx4,hrv⟩
  have hx5:=(Ext.refl w4).alloc #[.int .i64 gv.kind,.bool gv.b,.int .i64 gv.i,.string gv.t,.slice gl.a gv.l.length gl.c,.slice gq.a gv.ok.length gq.c] 28
  have hb5:=Blk.new w4 28 #[.int .i64 gv.kind,.bool gv.b,.int .i64 gv.i,.string gv.t,.slice gl.a gv.l.length gl.c,.slice gq.a gv.ok.length gq.c]
  have hrv5:=(hrv.agree (hx5.agree fun b hb=>hb.2)).mono (G:=Lt (w4.alloc (.cells #[.int .i64 gv.kind,.bool gv.b,.int .i64 gv.i,.string gv.t,.slice gl.a gv.l.length gl.c,.slice gq.a gv.ok.length gq.c] 28)).heap.size) fun b hb=>Nat.lt_of_lt_of_le hb.2 hx5.size
  have HSM:=Lib.hid (HSAME.out _ ((HX3.out.trans hx4).trans hx5) gv gl gq hrv5)
  have HXA:=Lib.hid (HX3.out.trans hx4)
  have HXB:=Lib.hid ((HX3.out.trans hx4).trans hx5)
  have HX5:=Lib.hid (hx4.trans hx5)
  obtain ⟨⟨q0,q1,q2,q3,q4,q5,q6⟩,q7,q8,q9,q10⟩:=HSS.out _ hx4
  clear hx4 hrv hx5 hb5 hrv5 HSAME HGET
  cases gb with
  | false=>
    have ho:og=none:=by cases og with
     | none=>rfl
     | some x=>cases hgb
    cases has with
    | false=>
      have hne:=HNEXT.out
      simp only [SV.opt,ho] at hne
      have HE:=Lib.hid hne.symm
      clear hne
      go_wp2_with fail
      obtain ⟨e1,e2,e3⟩:=HKEEP.out _ HXB.out
      go_roundw
      case rel=>exact ⟨j+1,T1,by go_num,hlt,HOK.out,e1,HE.out,by have:=HLT.out;omega,e2,e3,HIDE.out⟩
      simp [intOf];omega
    | true=>
      have hne:=HNEXT.out
      simp only [SV.opt,ho,if_true,Option.any_none,Bool.false_eq_true,if_false] at hne
      have HE:=Lib.hid hne.symm
      have hni:=HIDL.out
      have HNI:=Lib.hid (show ¬(match (SV.opt ⟨true,v,sl,so⟩) with
       | some v=>og.any (fun was=>decide (cmpV was v=0))=true
       | none=>og=none) by simp [SV.opt,ho])
      clear hne hni
      go_wp2_with fail
      refine (HPUT.out _ HXB.out).mono ?_
      rintro e w8 ⟨T',rfl,hpr,hT',hx8⟩
      obtain ⟨p',hp'⟩:=rootV_ptr T'
      rw [treeV,hp']
      obtain ⟨-,q7,q8,q9,q10⟩:=HSS.out w8 (HX5.out.trans hx8)
      have HNX:=Lib.hid (HMORE.out _ _ T' p' HXB.out hx8 hT' hp')
      have HPR:=Lib.hid hpr
      clear hpr hT' hx8 hp'
      go_wp2_with fail
      obtain ⟨e1,e2,e3⟩:=HNX.out
      go_roundw
      case rel=>exact ⟨j+1,T',by go_num,hlt,HPR.out.ok HOK.out,e1,by rw [HPR.out.ents HOK.out];exact HE.out,by rw [HPR.out.ents HOK.out];have:=HLT.out;rcases insE_len (entsT T1) k v with h | h <;> omega,e2,e3,fun hi=>absurd (HIDL.out hi) HNI.out⟩
      simp [intOf];omega
  | true=>
    obtain ⟨x,ho⟩:∃ x,og=some x:=Option.isSome_iff_exists.1 hgb
    have hgx:x=gv:=by rw [ho] at hgv;exact hgv
    cases has with
    | false=>
      have hne:=HNEXT.out
      simp only [SV.opt,ho,Bool.false_eq_true,if_false,Option.isSome_some,if_true] at hne
      have HE:=Lib.hid hne.symm
      have HNI:=Lib.hid (show ¬(match (SV.opt ⟨false,v,sl,so⟩) with
       | some v=>og.any (fun was=>decide (cmpV was v=0))=true
       | none=>og=none) by simp [SV.opt,ho])
      clear hne
      go_wp2_with fail
      refine (HDEL.out _ HXB.out).mono ?_
      rintro e w8 ⟨T',rfl,hpr,hT',hx8⟩
      obtain ⟨p',hp'⟩:=rootV_ptr T'
      rw [treeV,hp']
      obtain ⟨-,q7,q8,q9,q10⟩:=HSS.out w8 (HX5.out.trans hx8)
      have HNX:=Lib.hid (HMORE.out _ _ T' p' HXB.out hx8 hT' hp')
      have HPR:=Lib.hid hpr
      clear hpr hT' hx8 hp'
      go_wp2_with fail
      obtain ⟨e1,e2,e3⟩:=HNX.out
      go_roundw
      case rel=>exact ⟨j+1,T',by go_num,hlt,HPR.out.ok HOK.out,e1,by rw [HPR.out.ents HOK.out];exact HE.out,by rw [HPR.out.ents HOK.out];have:=HLT.out;have:=(delE_sublist (entsT T1) k).length_le;omega,e2,e3,fun hi=>absurd (HIDL.out hi) HNI.out⟩
      simp [intOf];omega
    | true=>
      obtain ⟨sm,hsm⟩:∃ s,decide (cmpV gv v=0)=s:=⟨_,rfl⟩
      have hsm1:=HSM.out
      rw [hsm] at hsm1
      have HSM1:=Lib.hid hsm1
      clear hsm1 HSM
      go_wp2_with fail
      refine HSM1.out.mono ?_
      rintro e w6 ⟨rfl,hx6⟩
      have HXC:=Lib.hid (HXB.out.trans hx6)
      have HX6:=Lib.hid (HX5.out.trans hx6)
      obtain ⟨⟨q0,q1,q2,q3,q4,q5,q6⟩,q7,q8,q9,q10⟩:=HSS.out w6 (HX5.out.trans hx6)
      clear hx6 HSM1
      cases sm with
      | true=>
        have hne:=HNEXT.out
        simp only [SV.opt,ho,if_true,Option.any_some,hgx,hsm] at hne
        have HE:=Lib.hid hne.symm
        clear hne
        go_wp2_with fail
        obtain ⟨e1,e2,e3⟩:=HKEEP.out _ HXC.out
        go_roundw
        case rel=>exact ⟨j+1,T1,by go_num,hlt,HOK.out,e1,HE.out,by have:=HLT.out;omega,e2,e3,HIDE.out⟩
        simp [intOf];omega
      | false=>
        have hne:=HNEXT.out
        simp only [SV.opt,ho,if_true,Option.any_some,hgx,hsm,Bool.false_eq_true,if_false] at hne
        have HE:=Lib.hid hne.symm
        have HNI:=Lib.hid (show ¬(match (SV.opt ⟨true,v,sl,so⟩) with
         | some v=>og.any (fun was=>decide (cmpV was v=0))=true
         | none=>og=none) by simp only [SV.opt,ho,if_true,Option.any_some,hgx,hsm];simp)
        clear hne
        go_wp2_with fail
        refine (HPUT.out _ HXC.out).mono ?_
        rintro e w8 ⟨T',rfl,hpr,hT',hx8⟩
        obtain ⟨p',hp'⟩:=rootV_ptr T'
        rw [treeV,hp']
        obtain ⟨-,q7,q8,q9,q10⟩:=HSS.out w8 (HX6.out.trans hx8)
        have HNX:=Lib.hid (HMORE.out _ _ T' p' HXC.out hx8 hT' hp')
        have HPR:=Lib.hid hpr
        clear hpr hT' hx8 hp'
        go_wp2_with fail
        obtain ⟨e1,e2,e3⟩:=HNX.out
        go_roundw
        case rel=>exact ⟨j+1,T',by go_num,hlt,HPR.out.ok HOK.out,e1,by rw [HPR.out.ents HOK.out];exact HE.out,by rw [HPR.out.ents HOK.out];have:=HLT.out;rcases insE_len (entsT T1) k v with h | h <;> omega,e2,e3,fun hi=>absurd (HIDL.out hi) HNI.out⟩
        simp [intOf];omega
 obtain rfl:j=n:=by omega
 have g1:decide ((j:Int)<(j:Int))=false:=decide_eq_false (by omega)
 rw [hp1] at hbT
 have q0:wr.cell? ⟨w.heap.size+1,0,none⟩=some (.pointer p1):=hbT.cell 0
 have hbR:=hsb.blk HB0'.out (by omega)
 have q1:wr.cell? ⟨w.heap.size,0,none⟩=some (.pointer none):=hbR.cell 0
 have f0:=hbR.frozen 0
 have k0:=hbR.lt
 have k1:=hbT.lt
 have hfin:CommitPost H O d w (.returned (.agg #[.pointer p1])) (wr.setCell ⟨w.heap.size,0,none⟩ (.pointer p1)):=by
  refine ⟨T1,by rw [treeV,hp1],ok,?_,?_,?_,hid⟩
  ·refine (hT.agree (Agree.setCell wr ⟨w.heap.size,0,none⟩ _ ?_)).mono fun i hi=>?_
   ·rintro ⟨hf | hf,-⟩
    ·have:=HF.out _ hf;dsimp only at this;omega
    dsimp only at hf;omega
   rw [Up,World.size_setCell]
   rcases hi.1 with h | h
   ·exact .inl h
   exact .inr ⟨by omega,hi.2⟩
  ·rw [←hce,List.drop_eq_nil_of_le (by unfold optA;rw [List.length_map,HN.out];exact Nat.le_refl _)];rfl
  have h1:Sb (fun c=>c=w.heap.size+1∨c=w.heap.size) w2 (wr.setCell ⟨w.heap.size,0,none⟩ (.pointer p1)):=(hsb.mono fun i _ e=>.inl e).set (p:=⟨w.heap.size,0,none⟩) (.inr (.inr rfl)) _
  exact HN2.out.comp h1 fun i hi e=>by omega
 have HFIN:=Lib.hid hfin
 clear ok hT hce hlT hbT hsb hid hbR hfin hp1
 go_wp2_with fail
 refine bodyPost_ret (v:=.agg #[.pointer p1]) (by simp [results,Tryz.results26,go_sem,q1]) rfl ?_
 exact HFIN.out
theorem commit_ov {H:Nat→Prop} {w:World} {O:Nat} {d:OD} (h:OvAt H w O d) (hl:(entsT d.T).length+d.C.length≤1000000):Calls Tryz.prog 26 #[.pointer (some ⟨O,0,none⟩)] w (CommitPost H O d w):=by
 cases hm:d.mb with
 | some b=>exact commit_some h hm hl
 | none=>
   have hC:d.C=[]:=by have:=h.map;rw [hm] at this;exact this
   exact (commit_none h hm).mono fun e w' ⟨he,hn⟩=>⟨d.T,he,h.ok,(h.tree.agree (Nw.agree hn fun b hb=>hb.1)).mono fun i hi=>.inl hi,by rw [hC];rfl,hn,fun _=>rfl⟩
def putC (k:ByteArray) (v:Val):Int:=if mayK k≠0 then 8 else fitV v
theorem put_anyO {H:Nat→Prop} {w:World} {O:Nat} {d:OD} (h:OvAt H w O d) (hH:∀ b,H b→b<w.heap.size) (hn:d.us.length≤1000000) {k:ByteArray} (hk:k.size≤maxLen) {v:Val} {sl so:Sl} (hv:RV w (Lt w.heap.size) v sl so) (hc:cntV v≤1100000) (hL:LibQ w) :
  Calls Tryz.prog 17 #[.pointer (some ⟨O,0,none⟩),.string k,aggV v sl so] w fun e w'=>e=.returned (.int .i64 (putC k v))∧((putC k v=0∧∃ sl so mb s,OvTo H w O d (d.step k ⟨true,v,sl,so⟩ mb s) w')∨(putC k v≠0∧Nw w w')):=by
 have hmay:=fun W (hW:Nw w W)=>keysMay_any hk (hL.lib.nw hW)
 have hRV:∀ W,Nw w W→RV W (Lt W.heap.size) v sl so:=fun W hW=>(hv.agree (Nw.agree hW fun b hb=>hb)).mono fun b hb=>Nat.lt_of_lt_of_le hb hW.size
 have hfit:=fun W (hW:Nw w W)=>fits_any (hRV W hW) hc (hL.nw hW)
 by_cases hm:mayK k=0
 ·rw [hm] at hmay
  have hp:putC k v=fitV v:=by unfold putC;rw [if_neg (by simp [hm])]
  rw [hp]
  by_cases hf:fitV v=0
  ·rw [hf] at hfit
   exact (put_ov h hH hn hk hv hmay hfit).mono fun e w' h=>by rw [hf];exact ⟨h.1,.inl ⟨rfl,h.2⟩⟩
  exact (put_ov_no hmay hfit hf).mono fun e w' h=>⟨h.1,.inr ⟨hf,h.2⟩⟩
 have hp:putC k v=8:=by unfold putC;rw [if_pos hm]
 rw [hp]
 exact (put_ov_key hmay hm).mono fun e w' h=>⟨h.1,.inr ⟨by decide,h.2⟩⟩
theorem OvAt.turn {H H' G:Nat→Prop} {w w':World} {O:Nat} {d:OD} (h:OvAt H w O d) (k:Sb G w w') (hG:∀ b,G b→H b) (hH:∀ b,H' b→H b∨w.heap.size≤b):OvAt H' w' O d:=by
 have ha:Agree (OvF H w O d) w w':=fun b hb=>k.block b hb.1 fun hh=>hb.2.2 (hG b hh)
 have hm:∀ i,OvF H w O d i→OvF H' w' O d i:=fun i hi=>⟨Nat.lt_of_lt_of_le hi.1 k.size,hi.2.1,fun hh=>(hH i hh).elim hi.2.2 fun h2=>by have:=hi.1;omega⟩
 have hn:∀ b,OvB O d b→¬G b:=fun b hb hg=>h.out b hb (hG b hg)
 obtain ⟨xs,r1,r2,r3⟩:=h.row
 exact ⟨k.blk h.blk (hn O (.inl rfl)),h.map.heap fun b hb=>k.block b (h.map.lt hb) (hn b (.inr (.inl hb))),
  ⟨xs,r1,own_agree r2 k.agree fun b hb=>⟨h.row_lt hb,hn b (.inr (.inr hb))⟩,fun i u v hu hv=>((r3 i u v hu hv).agree ha).mono hm⟩,
  fun p hp=>⟨(h.vals p hp).1,((h.vals p hp).2.agree ha).mono hm⟩,fun u hu=>⟨(h.olds u hu).1,fun o ho=>(((h.olds u hu).2 o ho).agree ha).mono hm⟩,
  h.hist,h.h0,h.last,h.sorted,(h.tree.agree ha).mono hm,h.ok,h.ne,fun b hb hh=>(hH b hh).elim (h.out b hb) fun h2=>by have:=h.own_lt hb;omega,h.some_⟩
end Go.Proofs.YtkhdiakpdafcdaaGreatDoor
