/- The statement RebaseOwn, and its tied card. -/
import Derived.Test.YtdiecmkpbadgjaaGreatDoorCards
import Derived.Test.YtdiecmkpbadgjaaGreatDoorTie
import Derived.Test.YtdiecmkpbadgjaaGreatDoorPlFacts
import Derived.Test.YtdiecmkpbadgjaaGreatDoorPlq
import Derived.Test.YtdiecmkpbadgjaaGreatDoorPlr
import Derived.Test.YtdiecmkpbadgjaaGreatDoorPls
import Derived.ShutString
import Derived.Deep.DeepHandedRow
import Derived.Deep.CondSized
namespace Go.Proofs.YtdiecmkpbadgjaaGreatDoor
open Go.ChangeShapes Go.WideShapes Go.ChangeAt Go.RowKit
open Go.ChangeMaps (open_string shut_string)
set_option linter.unusedVariables false
set_option linter.unusedSimpArgs false
set_option linter.unnecessarySimpa false
set_option maxRecDepth 100000
theorem rebaseOwn_k0:(Rows.rebaseOwnRow.wf (OpenSpec.ofChange Rows.rebaseOwnSpec))=true:=by kernel_rfl
theorem rebaseOwn_k1:(laidOutB Tryz.prog)=true:=by kernel_rfl
theorem rebaseOwn_k2:(mapsRowed Tryz.prog)=true:=by kernel_rfl
theorem rebaseOwn_k3:(Tryz.f4.params.all (Tryz.prog.readableRec ·))=true:=by kernel_rfl
theorem rebaseOwn_k4:(namedTie Tryz.prog Rows.rebaseOwnRow.named Rows.rebaseOwnSpec.vars)=true:=by kernel_rfl
theorem rebaseOwn_k5:((Rows.rebaseOwnRow.stops==[]))=true:=by kernel_rfl
theorem rebaseOwn_k6:((Tryz.prog.stops==[]))=true:=by kernel_rfl
theorem rebaseOwn_k7:((Rows.rebaseOwnRow.knobs==[]))=true:=by kernel_rfl
theorem rebaseOwn_k8:((Tryz.prog.stopKnobs==[]))=true:=by kernel_rfl
theorem rebaseOwn_k9:((Rows.rebaseOwnRow.inPlace==Tryz.prog.inPlace 4))=true:=by kernel_rfl
theorem rebaseOwn_k10:((Rows.rebaseOwnRow.unfollowed==Tryz.prog.unfollowed 4))=true:=by kernel_rfl
theorem rebaseOwn_k11:((Rows.rebaseOwnRow.recurses==Tryz.prog.recurses 4))=true:=by kernel_rfl
theorem rebaseOwn_k12:((Rows.rebaseOwnRow.named==Tryz.prog.varsNamed 4))=true:=by kernel_rfl
theorem rebaseOwn_k13:((Rows.rebaseOwnRow.maps ==(Tryz.f4.params.toList++Rows.rebaseOwnSpec.plain.varTypes Tryz.prog).any (Tryz.prog.mapsRec ·)))=true:=by kernel_rfl
theorem rebaseOwn_k14:((Rows.rebaseOwnRow.ifaces ==(Tryz.f4.params.toList++Rows.rebaseOwnSpec.plain.varTypes Tryz.prog).any (Tryz.prog.ifacesRec ·)))=true:=by kernel_rfl
theorem rebaseOwn_k15:((Rows.rebaseOwnRow.mapsOut==Tryz.prog.mapsAmong Tryz.f4.resultTypes.toList))=true:=by kernel_rfl
theorem rebaseOwn_k16:((Rows.rebaseOwnRow.loops ==(Tryz.f4.params.toList++Rows.rebaseOwnSpec.plain.varTypes Tryz.prog).any (Tryz.prog.loopsFrom ·)))=true:=by kernel_rfl
theorem rebaseOwn_k17:((Rows.rebaseOwnRow.wideKeys ==(Tryz.f4.params.toList++Rows.rebaseOwnSpec.plain.varTypes Tryz.prog++Tryz.f4.resultTypes.toList).any (Tryz.prog.wideKeysFrom ·)))=true:=by kernel_rfl
theorem rebaseOwn_k18:(Rows.rebaseOwnSpec.vars.all (Tryz.prog.varReadable ·))=true:=by kernel_rfl
theorem rebaseOwn_k19:(Tryz.f4.resultTypes.all (λt=>Tryz.prog.readableRec t&&decide (t<Tryz.prog.types.size)))=true:=by kernel_rfl
theorem rebaseOwn_k20:((Rows.rebaseOwnRow.ifacesOut==Tryz.f4.resultTypes.toList.any (Tryz.prog.ifacesRec ·)))=true:=by kernel_rfl
theorem rebaseOwn_k21:((Rows.rebaseOwnRow.loopsOut==Tryz.f4.resultTypes.toList.any (Tryz.prog.loopsFrom ·)))=true:=by kernel_rfl
theorem rebaseOwn_k22:((Rows.rebaseOwnRow.plainKeys==Tryz.prog.plainKeys))=true:=by kernel_rfl
theorem rebaseOwn_k23:(Rows.rebaseOwnRow.shortTexts.isNone)=true:=by kernel_rfl
theorem rebaseOwn_k24:(Tryz.prog.stopsHeard)=true:=by kernel_rfl
theorem rebaseOwn_k25:(Tryz.prog.mayEnter)=true:=mayEnter_of Tryz.prog (behindMainWord (wordsSigns initSigns)) (congrArg (λl=>behindMainWord (wordsSigns l)) initL) initStrip1 initStrip2 initLays initReflect initDoors
theorem rebaseOwn_k26:((Rows.rebaseOwnRow.lifted==Tryz.prog.liftsFinal))=true:=beq_of (liftsFinal_of Tryz.prog (behindMainWord (wordsSigns initSigns)) (congrArg (λl=>behindMainWord (wordsSigns l)) initL) initStrip1 initHead)
theorem rebaseOwn_k27:((Tryz.prog.make==some Rows.rebaseOwnRow.make))=true:=by rw[make_of Tryz.prog (behindMainWord (wordsSigns initSigns)) (congrArg (λl=>behindMainWord (wordsSigns l)) initL) initHead];rfl
theorem rebaseOwn_k28:((Rows.rebaseOwnRow.kinds==[]))=true:=by kernel_rfl
theorem rebaseOwn_k29:((Rows.rebaseOwnRow.pinned==Rows.rebaseOwnRow.pinnedBy))=true:=by kernel_rfl
theorem rebaseOwn_k30:((Rows.rebaseOwnRow.veiled ==(Tryz.f4.params.toList++Rows.rebaseOwnSpec.plain.varTypes Tryz.prog++Tryz.f4.resultTypes.toList).any (Tryz.prog.veiledRec ·)))=true:=by kernel_rfl
theorem rebaseOwn_k31:(Rows.rebaseOwnRow.veiledFits Tryz.prog Tryz.f4.params.toList (Tryz.f4.params.toList++Rows.rebaseOwnSpec.plain.varTypes Tryz.prog++Tryz.f4.resultTypes.toList))=true:=by kernel_rfl
theorem rebaseOwn_dom:(Rows.rebaseOwnRow.domain.isEmpty)=true:=by kernel_rfl
theorem rebaseOwn_join:joinedFacts Tryz.prog 4 Tryz.f4 Rows.rebaseOwnSpec Rows.rebaseOwnRow=true:=
 join_of rebaseOwn_dom rebaseOwn_k0 rebaseOwn_k1 rebaseOwn_k2 rebaseOwn_k3 rebaseOwn_k4 rebaseOwn_k5 rebaseOwn_k6 rebaseOwn_k7 rebaseOwn_k8 rebaseOwn_k9 rebaseOwn_k10 rebaseOwn_k11 rebaseOwn_k12 rebaseOwn_k13 rebaseOwn_k14 rebaseOwn_k15 rebaseOwn_k16 rebaseOwn_k17 rebaseOwn_k18 rebaseOwn_k19 rebaseOwn_k20 rebaseOwn_k21 rebaseOwn_k22 rebaseOwn_k23 rebaseOwn_k24 rebaseOwn_k25 rebaseOwn_k26 rebaseOwn_k27 rebaseOwn_k28 rebaseOwn_k29 rebaseOwn_k30 rebaseOwn_k31
/-- A variable's cells, as they are laid. -/
def layAt(h:Array Obj)(i:Nat)(cs:Array Value):Array Obj:=h.modify i λ
 |.cells _ t z=>.cells cs t z
 |o=>o
def rebaseOwn_t4:Array Value:=#[.int .u8 0,.int .u8 1,.int .u8 28,.int .u8 2,.int .u8 29,.int .u8 14,.int .u8 24,.int .u8 3,.int .u8 30,.int .u8 22,.int .u8 20,.int .u8 15,.int .u8 25,.int .u8 17,.int .u8 4,.int .u8 8,.int .u8 31,.int .u8 27,.int .u8 13,.int .u8 23,.int .u8 21,.int .u8 19,.int .u8 16,.int .u8 7,.int .u8 26,.int .u8 12,.int .u8 18,.int .u8 6,.int .u8 11,.int .u8 5,.int .u8 10,.int .u8 9]
def rebaseOwn_t5:Array Value:=#[.int .u8 0,.int .u8 1,.int .u8 56,.int .u8 2,.int .u8 57,.int .u8 49,.int .u8 28,.int .u8 3,.int .u8 61,.int .u8 58,.int .u8 42,.int .u8 50,.int .u8 38,.int .u8 29,.int .u8 17,.int .u8 4,.int .u8 62,.int .u8 47,.int .u8 59,.int .u8 36,.int .u8 45,.int .u8 43,.int .u8 51,.int .u8 22,.int .u8 53,.int .u8 39,.int .u8 33,.int .u8 30,.int .u8 24,.int .u8 18,.int .u8 12,.int .u8 5,.int .u8 63,.int .u8 55,.int .u8 48,.int .u8 27,.int .u8 60,.int .u8 41,.int .u8 37,.int .u8 16,.int .u8 46,.int .u8 35,.int .u8 44,.int .u8 21,.int .u8 52,.int .u8 32,.int .u8 23,.int .u8 11,.int .u8 54,.int .u8 26,.int .u8 40,.int .u8 15,.int .u8 34,.int .u8 20,.int .u8 31,.int .u8 10,.int .u8 25,.int .u8 14,.int .u8 19,.int .u8 9,.int .u8 13,.int .u8 8,.int .u8 7,.int .u8 6]
def rebaseOwn_t3:Array Value:=#[.int .u64 1,.int .u64 10,.int .u64 100,.int .u64 1000,.int .u64 10000,.int .u64 100000,.int .u64 1000000,.int .u64 10000000,.int .u64 100000000,.int .u64 1000000000,.int .u64 10000000000,.int .u64 100000000000,.int .u64 1000000000000,.int .u64 10000000000000,.int .u64 100000000000000,.int .u64 1000000000000000,.int .u64 10000000000000000,.int .u64 100000000000000000,.int .u64 1000000000000000000,.int .u64 10000000000000000000]
def rebaseOwn_t2:Array Value:=#[.int .u8 128,.int .u8 191,.int .u8 160,.int .u8 191,.int .u8 128,.int .u8 159,.int .u8 144,.int .u8 191,.int .u8 128,.int .u8 143,.int .u8 0,.int .u8 0,.int .u8 0,.int .u8 0,.int .u8 0,.int .u8 0,.int .u8 0,.int .u8 0,.int .u8 0,.int .u8 0,.int .u8 0,.int .u8 0,.int .u8 0,.int .u8 0,.int .u8 0,.int .u8 0,.int .u8 0,.int .u8 0,.int .u8 0,.int .u8 0,.int .u8 0,.int .u8 0]
def rebaseOwn_t1:Array Value:=(Go.Pinned.utf8FirstZ.map λ(z:Nat)=>Value.int .u8 (z:Int)).toArray
noncomputable def rebaseOwn_world (os:Os):World:={ World.holding Tryz.prog os ⟨#[],#[],[]⟩with heap:=layAt (layAt (layAt (layAt (layAt ((World.holding Tryz.prog os ⟨#[],#[],[]⟩).heap) 4 rebaseOwn_t4) 5 rebaseOwn_t5) 3 rebaseOwn_t3) 2 rebaseOwn_t2) 1 rebaseOwn_t1 }
theorem rebaseOwn_met(os:Os):laidMet Tryz.prog Rows.rebaseOwnRow.laid ((rebaseOwn_world os).forCall (λ_ _=>0) ⟨#[],#[.int .i64 0],[]⟩).memory:=
 laidMet_of_run' 8 (by kernel_rfl) (by kernel_rfl)
theorem rebaseOwn_reads0(os:Os){H:Type}(enc:TypeId × Value->H):∃places,DataW.whole enc Tryz.prog ((rebaseOwn_world os).forCall (λ_ _=>0) ⟨#[],#[.int .i64 0],[]⟩).memory Tryz.f4.params.toList (OpenSpec.ofChange Rows.rebaseOwnSpec).vars false (#[.int .i64 0]:Array Value).toList 8=some ([.lit (.int .i64 0)],[],places):=
 ⟨[],by kernel_rfl⟩
theorem rebaseOwn_reads:∀t∈Tryz.f4.params.toList,Tryz.prog.readableRec t=true/\t<Tryz.prog.types.size:=by
 have h:(Tryz.f4.params.toList.all λt=>Tryz.prog.readableRec t&&decide (t<Tryz.prog.types.size))=true:=by kernel_rfl
 intro t ht;simpa using List.all_eq_true.1 h t ht
theorem rebaseOwn_lifted(os:Os)(started:os.Started)(H:Type)(enc:TypeId × Value->H)(F:Stop.Interp) :
  ReturnsInHanded {} Tryz.checked os 4 .any ((OpenSpec.ofChange Rows.rebaseOwnSpec).preRow enc Tryz.prog Tryz.f4 Rows.rebaseOwnRow.domain false Rows.rebaseOwnRow.laid) (((OpenSpec.ofChange Rows.rebaseOwnSpec).at F).post enc Tryz.prog Tryz.f4 false true false false):=by
 obtain⟨places,hx⟩:=rebaseOwn_reads0 os enc;refine returnsInHanded_of_row (C:=Tryz.checked) (s:=OpenSpec.ofChange Rows.rebaseOwnSpec) ownNone started (by kernel_rfl) Tryz.func4
  (witness_row_at (enc:=enc) (C:=Tryz.checked) false (rebaseOwn_world os) #[.int .i64 0] rfl (by kernel_rfl) (by kernel_rfl) (by kernel_rfl)
    (OpenSpec.preRow_of_cond 8 hx (by kernel_rfl) (λk hk=>by cases hk) (by kernel_rfl) (rebaseOwn_met os))) ?_
 intro W base args ds gs before hval0 hW _ hcond hwt hL _ _;have hval:∀(j:Nat) t v,Tryz.f4.params[j]? = some t->args[j]? = some v->Value.okWide Tryz.prog W .any base t v:=hval0;have hW':=hW;obtain⟨p,q,hA0,hV,rfl,hfz,hnd⟩:=hW;have hA:DataW.TrodAll enc Tryz.prog W 0 (λ_=>true) true Tryz.f4.params.toList args.toList ds p:=hA0;have hA1:=hA;rw[Tryz.params4]at hA hval;obtain⟨v0,vs0,d0,ds0,p0,q0,hargs,rfl,rfl,h0,r0⟩:=trodAll_cons hA;obtain⟨rfl,rfl,rfl⟩:=trodAll_nil r0;obtain rfl:args=#[v0]:=by cases args;simp_all
 obtain⟨rfl,rfl⟩:=trodVars_none hV;clear hA0 hval0 hargs;obtain⟨a0,rfl,rfl,rfl,hr0⟩:=open_int Tryz.underlying2 (hval 0 2 v0 rfl rfl) h0;refine(ownL hr0 (libq_of hL)).mono λe W' ⟨he,hg⟩=>?_
 subst he;have hB:Below W.heap.size W W':=⟨hg.os,hg.tape,hg.output,hg.size,λb hb=>hg.block b hb λh=>h⟩;have hlt:=DataW.Whole.lt hW';exact⟨_,rfl,post_of_below (pv:=[]) hW' (λ_ _ _=>(trodAll_cons_mk (shut_bool Tryz.underlying4 _) trodAll_mk0)) (λsp hsp=>trodAll_stays rebaseOwn_k1 hB sp rebaseOwn_reads hA1 (λz hz=>hlt z (by simpa using hz)) (λz hz=>hsp z (by simpa using hz))) (λ_ _=>rfl) rfl
  hB (ok_one (by kernel_rfl) rfl (okWide_bool_mk Tryz.underlying4 _))⟩
theorem rebaseOwn_said:Rows.RebaseOwnSaid:=
 OpenClaim.holds_of_cond 4 Tryz.f4 rfl rfl rfl rfl rfl rfl rfl ⟨rfl,rfl,rfl,rfl,rfl⟩ rfl rfl rfl rfl rfl (by kernel_rfl) Tryz.func4 rebaseOwn_join
  (of_decide_eq_true (by kernel_rfl)) (by unfold Func.isWrapper;first |(rw[if_pos (by decide +kernel)];kernel_rfl) |(rw[if_neg (by decide +kernel)];exact⟨rfl,rfl⟩))
  (λos started H enc _ F=>by rw[OpenClaim.pre_eq_preRow];exact rebaseOwn_lifted os started H enc F)
theorem rebaseOwn_plain(f:FuncId)(fn:Func)(hf:Tryz.pinned.checked.prog.funcNamed "commonplace/commonplacelaw24.RebaseOwn" =some f) (hfn:Tryz.pinned.checked.prog.funcs[f]? = some fn) :
  true=Tryz.pinned.checked.prog.looks []/\∀(j:Nat) t,fn.params[j]? = some t->Tryz.pinned.checked.prog.wantsStandIn t=false:=by
 obtain rfl:f=4:=Option.some.inj ((show Tryz.prog.funcNamed "commonplace/commonplacelaw24.RebaseOwn" =some 4 by kernel_rfl).symm.trans hf) |>.symm
 obtain rfl:fn=Tryz.f4:=(Option.some.inj (Tryz.func4.symm.trans hfn)).symm;refine⟨by kernel_rfl,λj t ht=>?_⟩;have hall:(Tryz.f4.params.toList.all λt=>!Tryz.prog.wantsStandIn t)=true:=by kernel_rfl
 have hm:t∈Tryz.f4.params.toList:=Array.mem_toList_iff.2 (Array.mem_of_getElem? ht);have h1:=List.all_eq_true.1 hall t hm;show Tryz.prog.wantsStandIn t=false;simpa using h1
theorem rebaseOwn_card:Rows.RebaseOwnCardSaid:=
 Claim7.holds_tied_plain_at .later [] _ _ _ _ rebaseOwn_said (λ_ h=>by cases h) (by kernel_rfl) (λ_ h=>by cases h) rebaseOwn_row_tie rfl ⟨rfl,rfl⟩ (by kernel_rfl) rfl rebaseOwn_plain (by kernel_rfl)
#print axioms rebaseOwn_card
end Go.Proofs.YtdiecmkpbadgjaaGreatDoor
