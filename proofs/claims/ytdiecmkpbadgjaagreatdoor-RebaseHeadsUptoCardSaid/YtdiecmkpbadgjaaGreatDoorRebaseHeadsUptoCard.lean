/- The statement RebaseHeads (of what is of bulk at most 1048576), and its tied card. -/
import Derived.Test.YtdiecmkpbadgjaaGreatDoorCards
import Derived.Test.YtdiecmkpbadgjaaGreatDoorTie
import Derived.Test.YtdiecmkpbadgjaaGreatDoorPsFacts
import Derived.Test.YtdiecmkpbadgjaaGreatDoorPsl
import Derived.ShutString
import Derived.Deep.DeepHandedRow
import Derived.Deep.CondSized
namespace Go.Proofs.YtdiecmkpbadgjaaGreatDoor
open Go.ChangeShapes Go.WideShapes Go.ChangeAt Go.RowKit
open Go.ChangeMaps (open_string shut_string)
set_option linter.unusedVariables false
set_option linter.unusedSimpArgs false
set_option linter.unnecessarySimpa false
set_option maxRecDepth 100000
theorem rebaseHeads_k0:(Rows.rebaseHeadsUptoRow.wf (OpenSpec.ofChange Rows.rebaseHeadsSpec))=true:=by kernel_rfl
theorem rebaseHeads_k1:(laidOutB Tryz.prog)=true:=by kernel_rfl
theorem rebaseHeads_k2:(mapsRowed Tryz.prog)=true:=by kernel_rfl
theorem rebaseHeads_k3:(Tryz.f5.params.all (Tryz.prog.readableRec ·))=true:=by kernel_rfl
theorem rebaseHeads_k4:(namedTie Tryz.prog Rows.rebaseHeadsUptoRow.named Rows.rebaseHeadsSpec.vars)=true:=by kernel_rfl
theorem rebaseHeads_k5:((Rows.rebaseHeadsUptoRow.stops==[]))=true:=by kernel_rfl
theorem rebaseHeads_k6:((Tryz.prog.stops==[]))=true:=by kernel_rfl
theorem rebaseHeads_k7:((Rows.rebaseHeadsUptoRow.knobs==[]))=true:=by kernel_rfl
theorem rebaseHeads_k8:((Tryz.prog.stopKnobs==[]))=true:=by kernel_rfl
theorem rebaseHeads_k9:((Rows.rebaseHeadsUptoRow.inPlace==Tryz.prog.inPlace 5))=true:=by kernel_rfl
theorem rebaseHeads_k10:((Rows.rebaseHeadsUptoRow.unfollowed==Tryz.prog.unfollowed 5))=true:=by kernel_rfl
theorem rebaseHeads_k11:((Rows.rebaseHeadsUptoRow.recurses==Tryz.prog.recurses 5))=true:=by kernel_rfl
theorem rebaseHeads_k12:((Rows.rebaseHeadsUptoRow.named==Tryz.prog.varsNamed 5))=true:=by kernel_rfl
theorem rebaseHeads_k13:((Rows.rebaseHeadsUptoRow.maps ==(Tryz.f5.params.toList++Rows.rebaseHeadsSpec.plain.varTypes Tryz.prog).any (Tryz.prog.mapsRec ·)))=true:=by kernel_rfl
theorem rebaseHeads_k14:((Rows.rebaseHeadsUptoRow.ifaces ==(Tryz.f5.params.toList++Rows.rebaseHeadsSpec.plain.varTypes Tryz.prog).any (Tryz.prog.ifacesRec ·)))=true:=by kernel_rfl
theorem rebaseHeads_k15:((Rows.rebaseHeadsUptoRow.mapsOut==Tryz.prog.mapsAmong Tryz.f5.resultTypes.toList))=true:=by kernel_rfl
theorem rebaseHeads_k16:((Rows.rebaseHeadsUptoRow.loops ==(Tryz.f5.params.toList++Rows.rebaseHeadsSpec.plain.varTypes Tryz.prog).any (Tryz.prog.loopsFrom ·)))=true:=by kernel_rfl
theorem rebaseHeads_k17:((Rows.rebaseHeadsUptoRow.wideKeys ==(Tryz.f5.params.toList++Rows.rebaseHeadsSpec.plain.varTypes Tryz.prog++Tryz.f5.resultTypes.toList).any (Tryz.prog.wideKeysFrom ·)))=true:=by kernel_rfl
theorem rebaseHeads_k18:(Rows.rebaseHeadsSpec.vars.all (Tryz.prog.varReadable ·))=true:=by kernel_rfl
theorem rebaseHeads_k19:(Tryz.f5.resultTypes.all (λt=>Tryz.prog.readableRec t&&decide (t<Tryz.prog.types.size)))=true:=by kernel_rfl
theorem rebaseHeads_k20:((Rows.rebaseHeadsUptoRow.ifacesOut==Tryz.f5.resultTypes.toList.any (Tryz.prog.ifacesRec ·)))=true:=by kernel_rfl
theorem rebaseHeads_k21:((Rows.rebaseHeadsUptoRow.loopsOut==Tryz.f5.resultTypes.toList.any (Tryz.prog.loopsFrom ·)))=true:=by kernel_rfl
theorem rebaseHeads_k22:((Rows.rebaseHeadsUptoRow.plainKeys==Tryz.prog.plainKeys))=true:=by kernel_rfl
theorem rebaseHeads_k23:(Rows.rebaseHeadsUptoRow.shortTexts.isNone)=true:=by kernel_rfl
theorem rebaseHeads_k24:(Tryz.prog.stopsHeard)=true:=by kernel_rfl
theorem rebaseHeads_k25:(Tryz.prog.mayEnter)=true:=mayEnter_of Tryz.prog (behindMainWord (wordsSigns initSigns)) (congrArg (λl=>behindMainWord (wordsSigns l)) initL) initStrip1 initStrip2 initLays initReflect initDoors
theorem rebaseHeads_k26:((Rows.rebaseHeadsUptoRow.lifted==Tryz.prog.liftsFinal))=true:=beq_of (liftsFinal_of Tryz.prog (behindMainWord (wordsSigns initSigns)) (congrArg (λl=>behindMainWord (wordsSigns l)) initL) initStrip1 initHead)
theorem rebaseHeads_k27:((Tryz.prog.make==some Rows.rebaseHeadsUptoRow.make))=true:=by rw[make_of Tryz.prog (behindMainWord (wordsSigns initSigns)) (congrArg (λl=>behindMainWord (wordsSigns l)) initL) initHead];rfl
theorem rebaseHeads_k28:((Rows.rebaseHeadsUptoRow.kinds==[]))=true:=by kernel_rfl
theorem rebaseHeads_k29:((Rows.rebaseHeadsUptoRow.pinned==Rows.rebaseHeadsUptoRow.pinnedBy))=true:=by kernel_rfl
theorem rebaseHeads_k30:((Rows.rebaseHeadsUptoRow.veiled ==(Tryz.f5.params.toList++Rows.rebaseHeadsSpec.plain.varTypes Tryz.prog++Tryz.f5.resultTypes.toList).any (Tryz.prog.veiledRec ·)))=true:=by kernel_rfl
theorem rebaseHeads_k31:(Rows.rebaseHeadsUptoRow.veiledFits Tryz.prog Tryz.f5.params.toList (Tryz.f5.params.toList++Rows.rebaseHeadsSpec.plain.varTypes Tryz.prog++Tryz.f5.resultTypes.toList))=true:=by kernel_rfl
theorem rebaseHeads_dom:(Rows.rebaseHeadsUptoRow.domain.isEmpty)=true:=by kernel_rfl
theorem rebaseHeads_join:joinedFacts Tryz.prog 5 Tryz.f5 Rows.rebaseHeadsSpec Rows.rebaseHeadsUptoRow=true:=
 join_of rebaseHeads_dom rebaseHeads_k0 rebaseHeads_k1 rebaseHeads_k2 rebaseHeads_k3 rebaseHeads_k4 rebaseHeads_k5 rebaseHeads_k6 rebaseHeads_k7 rebaseHeads_k8 rebaseHeads_k9 rebaseHeads_k10 rebaseHeads_k11 rebaseHeads_k12 rebaseHeads_k13 rebaseHeads_k14 rebaseHeads_k15 rebaseHeads_k16 rebaseHeads_k17 rebaseHeads_k18 rebaseHeads_k19 rebaseHeads_k20 rebaseHeads_k21 rebaseHeads_k22 rebaseHeads_k23 rebaseHeads_k24 rebaseHeads_k25 rebaseHeads_k26 rebaseHeads_k27 rebaseHeads_k28 rebaseHeads_k29 rebaseHeads_k30 rebaseHeads_k31
/-- A variable's cells, as they are laid. -/
def layAt(h:Array Obj)(i:Nat)(cs:Array Value):Array Obj:=h.modify i λ
 |.cells _ t z=>.cells cs t z
 |o=>o
def rebaseHeads_t4:Array Value:=#[.int .u8 0,.int .u8 1,.int .u8 28,.int .u8 2,.int .u8 29,.int .u8 14,.int .u8 24,.int .u8 3,.int .u8 30,.int .u8 22,.int .u8 20,.int .u8 15,.int .u8 25,.int .u8 17,.int .u8 4,.int .u8 8,.int .u8 31,.int .u8 27,.int .u8 13,.int .u8 23,.int .u8 21,.int .u8 19,.int .u8 16,.int .u8 7,.int .u8 26,.int .u8 12,.int .u8 18,.int .u8 6,.int .u8 11,.int .u8 5,.int .u8 10,.int .u8 9]
def rebaseHeads_t5:Array Value:=#[.int .u8 0,.int .u8 1,.int .u8 56,.int .u8 2,.int .u8 57,.int .u8 49,.int .u8 28,.int .u8 3,.int .u8 61,.int .u8 58,.int .u8 42,.int .u8 50,.int .u8 38,.int .u8 29,.int .u8 17,.int .u8 4,.int .u8 62,.int .u8 47,.int .u8 59,.int .u8 36,.int .u8 45,.int .u8 43,.int .u8 51,.int .u8 22,.int .u8 53,.int .u8 39,.int .u8 33,.int .u8 30,.int .u8 24,.int .u8 18,.int .u8 12,.int .u8 5,.int .u8 63,.int .u8 55,.int .u8 48,.int .u8 27,.int .u8 60,.int .u8 41,.int .u8 37,.int .u8 16,.int .u8 46,.int .u8 35,.int .u8 44,.int .u8 21,.int .u8 52,.int .u8 32,.int .u8 23,.int .u8 11,.int .u8 54,.int .u8 26,.int .u8 40,.int .u8 15,.int .u8 34,.int .u8 20,.int .u8 31,.int .u8 10,.int .u8 25,.int .u8 14,.int .u8 19,.int .u8 9,.int .u8 13,.int .u8 8,.int .u8 7,.int .u8 6]
def rebaseHeads_t3:Array Value:=#[.int .u64 1,.int .u64 10,.int .u64 100,.int .u64 1000,.int .u64 10000,.int .u64 100000,.int .u64 1000000,.int .u64 10000000,.int .u64 100000000,.int .u64 1000000000,.int .u64 10000000000,.int .u64 100000000000,.int .u64 1000000000000,.int .u64 10000000000000,.int .u64 100000000000000,.int .u64 1000000000000000,.int .u64 10000000000000000,.int .u64 100000000000000000,.int .u64 1000000000000000000,.int .u64 10000000000000000000]
def rebaseHeads_t2:Array Value:=#[.int .u8 128,.int .u8 191,.int .u8 160,.int .u8 191,.int .u8 128,.int .u8 159,.int .u8 144,.int .u8 191,.int .u8 128,.int .u8 143,.int .u8 0,.int .u8 0,.int .u8 0,.int .u8 0,.int .u8 0,.int .u8 0,.int .u8 0,.int .u8 0,.int .u8 0,.int .u8 0,.int .u8 0,.int .u8 0,.int .u8 0,.int .u8 0,.int .u8 0,.int .u8 0,.int .u8 0,.int .u8 0,.int .u8 0,.int .u8 0,.int .u8 0,.int .u8 0]
def rebaseHeads_t1:Array Value:=(Go.Pinned.utf8FirstZ.map λ(z:Nat)=>Value.int .u8 (z:Int)).toArray
noncomputable def rebaseHeads_world (os:Os):World:={ World.holding Tryz.prog os ⟨#[],#[],[]⟩with heap:=layAt (layAt (layAt (layAt (layAt ((World.holding Tryz.prog os ⟨#[],#[],[]⟩).heap) 4 rebaseHeads_t4) 5 rebaseHeads_t5) 3 rebaseHeads_t3) 2 rebaseHeads_t2) 1 rebaseHeads_t1 }
theorem rebaseHeads_met(os:Os):laidMet Tryz.prog Rows.rebaseHeadsUptoRow.laid ((rebaseHeads_world os).forCall (λ_ _=>0) ⟨#[],#[.slice none 0 0,.slice none 0 0],[]⟩).memory:=
 laidMet_of_run' 8 (by kernel_rfl) (by kernel_rfl)
theorem rebaseHeads_reads0(os:Os){H:Type}(enc:TypeId × Value->H):∃places,DataW.whole enc Tryz.prog ((rebaseHeads_world os).forCall (λ_ _=>0) ⟨#[],#[.slice none 0 0,.slice none 0 0],[]⟩).memory Tryz.f5.params.toList (Rows.OpenSpec.upto Rows.rebaseHeadsSpec).vars false (#[.slice none 0 0,.slice none 0 0]:Array Value).toList 8=some ([.nil,.nil],[],places):=
 ⟨[],by kernel_rfl⟩
theorem rebaseHeads_reads:∀t∈Tryz.f5.params.toList,Tryz.prog.readableRec t=true/\t<Tryz.prog.types.size:=by
 have h:(Tryz.f5.params.toList.all λt=>Tryz.prog.readableRec t&&decide (t<Tryz.prog.types.size))=true:=by kernel_rfl
 intro t ht;simpa using List.all_eq_true.1 h t ht
theorem rebaseHeads_lifted(os:Os)(started:os.Started)(H:Type)(enc:TypeId × Value->H)(F:Stop.Interp) :
  ReturnsInHanded {} Tryz.checked os 5 .any ((Rows.OpenSpec.upto Rows.rebaseHeadsSpec).preRow enc Tryz.prog Tryz.f5 Rows.rebaseHeadsUptoRow.domain false Rows.rebaseHeadsUptoRow.laid) (((Rows.OpenSpec.upto Rows.rebaseHeadsSpec).at F).post enc Tryz.prog Tryz.f5 false true false false):=by
 obtain⟨places,hx⟩:=rebaseHeads_reads0 os enc;refine returnsInHanded_of_row (C:=Tryz.checked) (s:=Rows.OpenSpec.upto Rows.rebaseHeadsSpec) ownNone started (by kernel_rfl) Tryz.func5
  (witness_row_at (enc:=enc) (C:=Tryz.checked) false (rebaseHeads_world os) #[.slice none 0 0,.slice none 0 0] rfl (by kernel_rfl) (by kernel_rfl) (by kernel_rfl)
    (OpenSpec.preRow_of_cond 8 hx (by kernel_rfl) (λk hk=>by cases hk;kernel_rfl) (by kernel_rfl) (rebaseHeads_met os))) ?_
 intro W base args ds gs before hval0 hW _ hcond hwt hL _ _;have hk:Rows.uptoSmall H (ds++gs)=true:=hcond _ rfl;have hval:∀(j:Nat) t v,Tryz.f5.params[j]? = some t->args[j]? = some v->Value.okWide Tryz.prog W .any base t v:=hval0;have hW':=hW;obtain⟨p,q,hA0,hV,rfl,hfz,hnd⟩:=hW;have hA:DataW.TrodAll enc Tryz.prog W 0 (λ_=>true) true Tryz.f5.params.toList args.toList ds p:=hA0;have hA1:=hA;rw[Tryz.params5]at hA hval;obtain⟨v0,vs0,d0,ds0,p0,q0,hargs,rfl,rfl,h0,r0⟩:=trodAll_cons hA;obtain⟨v1,vs1,d1,ds1,p1,q1,rfl,rfl,rfl,h1,r1⟩:=trodAll_cons r0;obtain⟨rfl,rfl,rfl⟩:=trodAll_nil r1;obtain rfl:args=#[v0,v1]:=by cases args;simp_all
 obtain⟨rfl,rfl⟩:=trodVars_none hV;clear hA0 hval0 hargs;have w0:WOk Tryz.prog 41 d0:=weightsEach_at hwt 0 _ _ (by kernel_rfl) rfl;obtain⟨fuel0,f0⟩:=h0;have hb0:Rows.uptoBulk d0<=1048576:=by
   have hB:Rows.uptoBulkAll _<=1048576:=of_decide_eq_true hk;simp only[Rows.uptoBulkAll,List.append_nil,List.cons_append,List.nil_append]at hB;omega
 obtain⟨s0,xs0,hc0,hr0⟩:=esB_of_trod f0 w0 hb0;obtain⟨ad0,n0,c0,rfl⟩:=okWide_slice Tryz.underlying41 (hval 0 41 v0 rfl rfl);have e0:Value.slice ad0 n0 c0=.slice s0.a xs0.length s0.c:=by simpa[Value.cells]using hc0
 rw[e0]at hA1 hW' ⊢;have w1:WOk Tryz.prog 23 d1:=weightsEach_at hwt 1 _ _ (by kernel_rfl) rfl;obtain⟨fuel1,f1⟩:=h1;have hb1:Rows.uptoBulk d1<=1048576:=by
   have hB:Rows.uptoBulkAll _<=1048576:=of_decide_eq_true hk;simp only[Rows.uptoBulkAll,List.append_nil,List.cons_append,List.nil_append]at hB;omega
 obtain⟨s1,xs1,hc1,hr1⟩:=nums_of_trod f1 w1;obtain⟨ad1,n1,c1,rfl⟩:=okWide_slice Tryz.underlying23 (hval 1 23 v1 rfl rfl);have e1:Value.slice ad1 n1 c1=.slice s1.a xs1.length s1.c:=by simpa[Value.cells]using hc1
 rw[e1]at hA1 hW' ⊢;refine(headsL hr0.1 hr0.2 hr1.1 (Nat.le_trans hr1.2 hb1) (libq_of hL)).mono λe W' ⟨he,hg⟩=>?_
 subst he;have hB:Below W.heap.size W W':=⟨hg.os,hg.tape,hg.output,hg.size,λb hb=>hg.block b hb λh=>h⟩;have hlt:=DataW.Whole.lt hW';exact⟨_,rfl,post_of_below (pv:=[]) hW' (λ_ _ _=>(trodAll_cons_mk (shut_bool Tryz.underlying4 _) trodAll_mk0)) (λsp hsp=>trodAll_stays rebaseHeads_k1 hB sp rebaseHeads_reads hA1 (λz hz=>hlt z (by simpa using hz)) (λz hz=>hsp z (by simpa using hz))) (λ_ _=>rfl) rfl
  hB (ok_one (by kernel_rfl) rfl (okWide_bool_mk Tryz.underlying4 _))⟩
theorem rebaseHeads_said:Rows.RebaseHeadsUptoSaid:=
 OpenClaim.holds_of_cond 5 Tryz.f5 rfl rfl rfl rfl rfl rfl rfl ⟨rfl,rfl,rfl,rfl,rfl⟩ rfl rfl rfl rfl rfl (by kernel_rfl) Tryz.func5 rebaseHeads_join
  (of_decide_eq_true (by kernel_rfl)) (by unfold Func.isWrapper;first |(rw[if_pos (by decide +kernel)];kernel_rfl) |(rw[if_neg (by decide +kernel)];exact⟨rfl,rfl⟩))
  (λos started H enc _ F=>by rw[OpenClaim.pre_eq_preRow];exact rebaseHeads_lifted os started H enc F)
theorem rebaseHeads_plain(f:FuncId)(fn:Func)(hf:Tryz.pinned.checked.prog.funcNamed "commonplace/commonplacelaw24.RebaseHeads" =some f) (hfn:Tryz.pinned.checked.prog.funcs[f]? = some fn) :
  true=Tryz.pinned.checked.prog.looks []/\∀(j:Nat) t,fn.params[j]? = some t->Tryz.pinned.checked.prog.wantsStandIn t=false:=by
 obtain rfl:f=5:=Option.some.inj ((show Tryz.prog.funcNamed "commonplace/commonplacelaw24.RebaseHeads" =some 5 by kernel_rfl).symm.trans hf) |>.symm
 obtain rfl:fn=Tryz.f5:=(Option.some.inj (Tryz.func5.symm.trans hfn)).symm;refine⟨by kernel_rfl,λj t ht=>?_⟩;have hall:(Tryz.f5.params.toList.all λt=>!Tryz.prog.wantsStandIn t)=true:=by kernel_rfl
 have hm:t∈Tryz.f5.params.toList:=Array.mem_toList_iff.2 (Array.mem_of_getElem? ht);have h1:=List.all_eq_true.1 hall t hm;show Tryz.prog.wantsStandIn t=false;simpa using h1
theorem rebaseHeads_upto:Rows.RebaseHeadsUptoCardSaid:=
 Claim7.holds_tied_plain_at .later [] _ _ _ _ rebaseHeads_said (λ_ h=>by cases h) (by kernel_rfl) (λ_ h=>by cases h) rebaseHeadsUpto_row_tie rfl ⟨rfl,rfl⟩ (by kernel_rfl) rfl rebaseHeads_plain (by kernel_rfl)
#print axioms rebaseHeads_upto
end Go.Proofs.YtdiecmkpbadgjaaGreatDoor
