/- The statement RebaseLeft, and its tied card. -/
import Derived.Test.YtdiecmkpbadgjaaGreatDoorCards
import Derived.Test.YtdiecmkpbadgjaaGreatDoorTie
import Derived.Test.YtdiecmkpbadgjaaGreatDoorPlFacts
import Derived.Test.YtdiecmkpbadgjaaGreatDoorPlp
import Derived.Test.YtdiecmkpbadgjaaGreatDoorPlr
import Derived.Test.YtdiecmkpbadgjaaGreatDoorPls
import Derived.ShutString
import Derived.Deep.DeepHandedRow
import Derived.Deep.CondSized
namespace Go.Proofs.YtdiecmkpbadgjaaGreatDoor
open Go.ChangeShapes Go.WideShapes Go.ChangeAt Go.RowKit
open Go.ChangeMaps (open_string shut_string)
set_option linter.unusedVariables false
set_option linter.unusedSimpArgs false
set_option linter.unnecessarySimpa false
set_option maxRecDepth 100000
theorem rebaseLeft_k0:(Rows.rebaseLeftRow.wf (OpenSpec.ofChange Rows.rebaseLeftSpec))=true:=by kernel_rfl
theorem rebaseLeft_k1:(laidOutB Tryz.prog)=true:=by kernel_rfl
theorem rebaseLeft_k2:(mapsRowed Tryz.prog)=true:=by kernel_rfl
theorem rebaseLeft_k3:(Tryz.f3.params.all (Tryz.prog.readableRec ·))=true:=by kernel_rfl
theorem rebaseLeft_k4:(namedTie Tryz.prog Rows.rebaseLeftRow.named Rows.rebaseLeftSpec.vars)=true:=by kernel_rfl
theorem rebaseLeft_k5:((Rows.rebaseLeftRow.stops==[]))=true:=by kernel_rfl
theorem rebaseLeft_k6:((Tryz.prog.stops==[]))=true:=by kernel_rfl
theorem rebaseLeft_k7:((Rows.rebaseLeftRow.knobs==[]))=true:=by kernel_rfl
theorem rebaseLeft_k8:((Tryz.prog.stopKnobs==[]))=true:=by kernel_rfl
theorem rebaseLeft_k9:((Rows.rebaseLeftRow.inPlace==Tryz.prog.inPlace 3))=true:=by kernel_rfl
theorem rebaseLeft_k10:((Rows.rebaseLeftRow.unfollowed==Tryz.prog.unfollowed 3))=true:=by kernel_rfl
theorem rebaseLeft_k11:((Rows.rebaseLeftRow.recurses==Tryz.prog.recurses 3))=true:=by kernel_rfl
theorem rebaseLeft_k12:((Rows.rebaseLeftRow.named==Tryz.prog.varsNamed 3))=true:=by kernel_rfl
theorem rebaseLeft_k13:((Rows.rebaseLeftRow.maps ==(Tryz.f3.params.toList++Rows.rebaseLeftSpec.plain.varTypes Tryz.prog).any (Tryz.prog.mapsRec ·)))=true:=by kernel_rfl
theorem rebaseLeft_k14:((Rows.rebaseLeftRow.ifaces ==(Tryz.f3.params.toList++Rows.rebaseLeftSpec.plain.varTypes Tryz.prog).any (Tryz.prog.ifacesRec ·)))=true:=by kernel_rfl
theorem rebaseLeft_k15:((Rows.rebaseLeftRow.mapsOut==Tryz.prog.mapsAmong Tryz.f3.resultTypes.toList))=true:=by kernel_rfl
theorem rebaseLeft_k16:((Rows.rebaseLeftRow.loops ==(Tryz.f3.params.toList++Rows.rebaseLeftSpec.plain.varTypes Tryz.prog).any (Tryz.prog.loopsFrom ·)))=true:=by kernel_rfl
theorem rebaseLeft_k17:((Rows.rebaseLeftRow.wideKeys ==(Tryz.f3.params.toList++Rows.rebaseLeftSpec.plain.varTypes Tryz.prog++Tryz.f3.resultTypes.toList).any (Tryz.prog.wideKeysFrom ·)))=true:=by kernel_rfl
theorem rebaseLeft_k18:(Rows.rebaseLeftSpec.vars.all (Tryz.prog.varReadable ·))=true:=by kernel_rfl
theorem rebaseLeft_k19:(Tryz.f3.resultTypes.all (λt=>Tryz.prog.readableRec t&&decide (t<Tryz.prog.types.size)))=true:=by kernel_rfl
theorem rebaseLeft_k20:((Rows.rebaseLeftRow.ifacesOut==Tryz.f3.resultTypes.toList.any (Tryz.prog.ifacesRec ·)))=true:=by kernel_rfl
theorem rebaseLeft_k21:((Rows.rebaseLeftRow.loopsOut==Tryz.f3.resultTypes.toList.any (Tryz.prog.loopsFrom ·)))=true:=by kernel_rfl
theorem rebaseLeft_k22:((Rows.rebaseLeftRow.plainKeys==Tryz.prog.plainKeys))=true:=by kernel_rfl
theorem rebaseLeft_k23:(Rows.rebaseLeftRow.shortTexts.isNone)=true:=by kernel_rfl
theorem rebaseLeft_k24:(Tryz.prog.stopsHeard)=true:=by kernel_rfl
theorem rebaseLeft_k25:(Tryz.prog.mayEnter)=true:=mayEnter_of Tryz.prog (behindMainWord (wordsSigns initSigns)) (congrArg (λl=>behindMainWord (wordsSigns l)) initL) initStrip1 initStrip2 initLays initReflect initDoors
theorem rebaseLeft_k26:((Rows.rebaseLeftRow.lifted==Tryz.prog.liftsFinal))=true:=beq_of (liftsFinal_of Tryz.prog (behindMainWord (wordsSigns initSigns)) (congrArg (λl=>behindMainWord (wordsSigns l)) initL) initStrip1 initHead)
theorem rebaseLeft_k27:((Tryz.prog.make==some Rows.rebaseLeftRow.make))=true:=by rw[make_of Tryz.prog (behindMainWord (wordsSigns initSigns)) (congrArg (λl=>behindMainWord (wordsSigns l)) initL) initHead];rfl
theorem rebaseLeft_k28:((Rows.rebaseLeftRow.kinds==[]))=true:=by kernel_rfl
theorem rebaseLeft_k29:((Rows.rebaseLeftRow.pinned==Rows.rebaseLeftRow.pinnedBy))=true:=by kernel_rfl
theorem rebaseLeft_k30:((Rows.rebaseLeftRow.veiled ==(Tryz.f3.params.toList++Rows.rebaseLeftSpec.plain.varTypes Tryz.prog++Tryz.f3.resultTypes.toList).any (Tryz.prog.veiledRec ·)))=true:=by kernel_rfl
theorem rebaseLeft_k31:(Rows.rebaseLeftRow.veiledFits Tryz.prog Tryz.f3.params.toList (Tryz.f3.params.toList++Rows.rebaseLeftSpec.plain.varTypes Tryz.prog++Tryz.f3.resultTypes.toList))=true:=by kernel_rfl
theorem rebaseLeft_dom:(Rows.rebaseLeftRow.domain.isEmpty)=true:=by kernel_rfl
theorem rebaseLeft_join:joinedFacts Tryz.prog 3 Tryz.f3 Rows.rebaseLeftSpec Rows.rebaseLeftRow=true:=
 join_of rebaseLeft_dom rebaseLeft_k0 rebaseLeft_k1 rebaseLeft_k2 rebaseLeft_k3 rebaseLeft_k4 rebaseLeft_k5 rebaseLeft_k6 rebaseLeft_k7 rebaseLeft_k8 rebaseLeft_k9 rebaseLeft_k10 rebaseLeft_k11 rebaseLeft_k12 rebaseLeft_k13 rebaseLeft_k14 rebaseLeft_k15 rebaseLeft_k16 rebaseLeft_k17 rebaseLeft_k18 rebaseLeft_k19 rebaseLeft_k20 rebaseLeft_k21 rebaseLeft_k22 rebaseLeft_k23 rebaseLeft_k24 rebaseLeft_k25 rebaseLeft_k26 rebaseLeft_k27 rebaseLeft_k28 rebaseLeft_k29 rebaseLeft_k30 rebaseLeft_k31
/-- A variable's cells, as they are laid. -/
def layAt(h:Array Obj)(i:Nat)(cs:Array Value):Array Obj:=h.modify i λ
 |.cells _ t z=>.cells cs t z
 |o=>o
def rebaseLeft_t4:Array Value:=#[.int .u8 0,.int .u8 1,.int .u8 28,.int .u8 2,.int .u8 29,.int .u8 14,.int .u8 24,.int .u8 3,.int .u8 30,.int .u8 22,.int .u8 20,.int .u8 15,.int .u8 25,.int .u8 17,.int .u8 4,.int .u8 8,.int .u8 31,.int .u8 27,.int .u8 13,.int .u8 23,.int .u8 21,.int .u8 19,.int .u8 16,.int .u8 7,.int .u8 26,.int .u8 12,.int .u8 18,.int .u8 6,.int .u8 11,.int .u8 5,.int .u8 10,.int .u8 9]
def rebaseLeft_t5:Array Value:=#[.int .u8 0,.int .u8 1,.int .u8 56,.int .u8 2,.int .u8 57,.int .u8 49,.int .u8 28,.int .u8 3,.int .u8 61,.int .u8 58,.int .u8 42,.int .u8 50,.int .u8 38,.int .u8 29,.int .u8 17,.int .u8 4,.int .u8 62,.int .u8 47,.int .u8 59,.int .u8 36,.int .u8 45,.int .u8 43,.int .u8 51,.int .u8 22,.int .u8 53,.int .u8 39,.int .u8 33,.int .u8 30,.int .u8 24,.int .u8 18,.int .u8 12,.int .u8 5,.int .u8 63,.int .u8 55,.int .u8 48,.int .u8 27,.int .u8 60,.int .u8 41,.int .u8 37,.int .u8 16,.int .u8 46,.int .u8 35,.int .u8 44,.int .u8 21,.int .u8 52,.int .u8 32,.int .u8 23,.int .u8 11,.int .u8 54,.int .u8 26,.int .u8 40,.int .u8 15,.int .u8 34,.int .u8 20,.int .u8 31,.int .u8 10,.int .u8 25,.int .u8 14,.int .u8 19,.int .u8 9,.int .u8 13,.int .u8 8,.int .u8 7,.int .u8 6]
def rebaseLeft_t3:Array Value:=#[.int .u64 1,.int .u64 10,.int .u64 100,.int .u64 1000,.int .u64 10000,.int .u64 100000,.int .u64 1000000,.int .u64 10000000,.int .u64 100000000,.int .u64 1000000000,.int .u64 10000000000,.int .u64 100000000000,.int .u64 1000000000000,.int .u64 10000000000000,.int .u64 100000000000000,.int .u64 1000000000000000,.int .u64 10000000000000000,.int .u64 100000000000000000,.int .u64 1000000000000000000,.int .u64 10000000000000000000]
def rebaseLeft_t2:Array Value:=#[.int .u8 128,.int .u8 191,.int .u8 160,.int .u8 191,.int .u8 128,.int .u8 159,.int .u8 144,.int .u8 191,.int .u8 128,.int .u8 143,.int .u8 0,.int .u8 0,.int .u8 0,.int .u8 0,.int .u8 0,.int .u8 0,.int .u8 0,.int .u8 0,.int .u8 0,.int .u8 0,.int .u8 0,.int .u8 0,.int .u8 0,.int .u8 0,.int .u8 0,.int .u8 0,.int .u8 0,.int .u8 0,.int .u8 0,.int .u8 0,.int .u8 0,.int .u8 0]
def rebaseLeft_t1:Array Value:=(Go.Pinned.utf8FirstZ.map λ(z:Nat)=>Value.int .u8 (z:Int)).toArray
noncomputable def rebaseLeft_world (os:Os):World:={ World.holding Tryz.prog os ⟨#[],#[],[]⟩with heap:=layAt (layAt (layAt (layAt (layAt ((World.holding Tryz.prog os ⟨#[],#[],[]⟩).heap) 4 rebaseLeft_t4) 5 rebaseLeft_t5) 3 rebaseLeft_t3) 2 rebaseLeft_t2) 1 rebaseLeft_t1 }
theorem rebaseLeft_met(os:Os):laidMet Tryz.prog Rows.rebaseLeftRow.laid ((rebaseLeft_world os).forCall (λ_ _=>0) ⟨#[],#[.int .u64 0,.slice none 0 0],[]⟩).memory:=
 laidMet_of_run' 8 (by kernel_rfl) (by kernel_rfl)
theorem rebaseLeft_reads0(os:Os){H:Type}(enc:TypeId × Value->H):∃places,DataW.whole enc Tryz.prog ((rebaseLeft_world os).forCall (λ_ _=>0) ⟨#[],#[.int .u64 0,.slice none 0 0],[]⟩).memory Tryz.f3.params.toList (OpenSpec.ofChange Rows.rebaseLeftSpec).vars false (#[.int .u64 0,.slice none 0 0]:Array Value).toList 8=some ([.lit (.int .u64 0),.nil],[],places):=
 ⟨[],by kernel_rfl⟩
theorem rebaseLeft_reads:∀t∈Tryz.f3.params.toList,Tryz.prog.readableRec t=true/\t<Tryz.prog.types.size:=by
 have h:(Tryz.f3.params.toList.all λt=>Tryz.prog.readableRec t&&decide (t<Tryz.prog.types.size))=true:=by kernel_rfl
 intro t ht;simpa using List.all_eq_true.1 h t ht
theorem rebaseLeft_lifted(os:Os)(started:os.Started)(H:Type)(enc:TypeId × Value->H)(F:Stop.Interp) :
  ReturnsInHanded {} Tryz.checked os 3 .any ((OpenSpec.ofChange Rows.rebaseLeftSpec).preRow enc Tryz.prog Tryz.f3 Rows.rebaseLeftRow.domain false Rows.rebaseLeftRow.laid) (((OpenSpec.ofChange Rows.rebaseLeftSpec).at F).post enc Tryz.prog Tryz.f3 false true false false):=by
 obtain⟨places,hx⟩:=rebaseLeft_reads0 os enc;refine returnsInHanded_of_row (C:=Tryz.checked) (s:=OpenSpec.ofChange Rows.rebaseLeftSpec) ownNone started (by kernel_rfl) Tryz.func3
  (witness_row_at (enc:=enc) (C:=Tryz.checked) false (rebaseLeft_world os) #[.int .u64 0,.slice none 0 0] rfl (by kernel_rfl) (by kernel_rfl) (by kernel_rfl)
    (OpenSpec.preRow_of_cond 8 hx (by kernel_rfl) (λk hk=>by cases hk) (by kernel_rfl) (rebaseLeft_met os))) ?_
 intro W base args ds gs before hval0 hW _ hcond hwt hL _ _;have hval:∀(j:Nat) t v,Tryz.f3.params[j]? = some t->args[j]? = some v->Value.okWide Tryz.prog W .any base t v:=hval0;have hW':=hW;obtain⟨p,q,hA0,hV,rfl,hfz,hnd⟩:=hW;have hA:DataW.TrodAll enc Tryz.prog W 0 (λ_=>true) true Tryz.f3.params.toList args.toList ds p:=hA0;have hA1:=hA;rw[Tryz.params3]at hA hval;obtain⟨v0,vs0,d0,ds0,p0,q0,hargs,rfl,rfl,h0,r0⟩:=trodAll_cons hA;obtain⟨v1,vs1,d1,ds1,p1,q1,rfl,rfl,rfl,h1,r1⟩:=trodAll_cons r0;obtain⟨rfl,rfl,rfl⟩:=trodAll_nil r1;obtain rfl:args=#[v0,v1]:=by cases args;simp_all
 obtain⟨rfl,rfl⟩:=trodVars_none hV;clear hA0 hval0 hargs;obtain⟨a0,rfl,rfl,rfl,hr0⟩:=open_int Tryz.underlying22 (hval 0 22 v0 rfl rfl) h0;have w1:WOk Tryz.prog 23 d1:=weightsEach_at hwt 1 _ _ (by kernel_rfl) rfl;obtain⟨fuel1,f1⟩:=h1;obtain⟨s1,xs1,hc1,hr1⟩:=nums_of_trod f1 w1;obtain⟨ad1,n1,c1,rfl⟩:=okWide_slice Tryz.underlying23 (hval 1 23 v1 rfl rfl);have e1:Value.slice ad1 n1 c1=.slice s1.a xs1.length s1.c:=by simpa[Value.cells]using hc1
 rw[e1]at hA1 hW' ⊢;refine(leftL hr0 hr1.1 (libq_of hL)).mono λe W' ⟨he,hg⟩=>?_
 subst he;have hB:Below W.heap.size W W':=⟨hg.os,hg.tape,hg.output,hg.size,λb hb=>hg.block b hb λh=>h⟩;have hlt:=DataW.Whole.lt hW';exact⟨_,rfl,post_of_below (pv:=[]) hW' (λ_ _ _=>(trodAll_cons_mk (shut_bool Tryz.underlying4 _) trodAll_mk0)) (λsp hsp=>trodAll_stays rebaseLeft_k1 hB sp rebaseLeft_reads hA1 (λz hz=>hlt z (by simpa using hz)) (λz hz=>hsp z (by simpa using hz))) (λ_ _=>rfl) rfl
  hB (ok_one (by kernel_rfl) rfl (okWide_bool_mk Tryz.underlying4 _))⟩
theorem rebaseLeft_said:Rows.RebaseLeftSaid:=
 OpenClaim.holds_of_cond 3 Tryz.f3 rfl rfl rfl rfl rfl rfl rfl ⟨rfl,rfl,rfl,rfl,rfl⟩ rfl rfl rfl rfl rfl (by kernel_rfl) Tryz.func3 rebaseLeft_join
  (of_decide_eq_true (by kernel_rfl)) (by unfold Func.isWrapper;first |(rw[if_pos (by decide +kernel)];kernel_rfl) |(rw[if_neg (by decide +kernel)];exact⟨rfl,rfl⟩))
  (λos started H enc _ F=>by rw[OpenClaim.pre_eq_preRow];exact rebaseLeft_lifted os started H enc F)
theorem rebaseLeft_plain(f:FuncId)(fn:Func)(hf:Tryz.pinned.checked.prog.funcNamed "commonplace/commonplacelaw24.RebaseLeft" =some f) (hfn:Tryz.pinned.checked.prog.funcs[f]? = some fn) :
  true=Tryz.pinned.checked.prog.looks []/\∀(j:Nat) t,fn.params[j]? = some t->Tryz.pinned.checked.prog.wantsStandIn t=false:=by
 obtain rfl:f=3:=Option.some.inj ((show Tryz.prog.funcNamed "commonplace/commonplacelaw24.RebaseLeft" =some 3 by kernel_rfl).symm.trans hf) |>.symm
 obtain rfl:fn=Tryz.f3:=(Option.some.inj (Tryz.func3.symm.trans hfn)).symm;refine⟨by kernel_rfl,λj t ht=>?_⟩;have hall:(Tryz.f3.params.toList.all λt=>!Tryz.prog.wantsStandIn t)=true:=by kernel_rfl
 have hm:t∈Tryz.f3.params.toList:=Array.mem_toList_iff.2 (Array.mem_of_getElem? ht);have h1:=List.all_eq_true.1 hall t hm;show Tryz.prog.wantsStandIn t=false;simpa using h1
theorem rebaseLeft_card:Rows.RebaseLeftCardSaid:=
 Claim7.holds_tied_plain_at .later [] _ _ _ _ rebaseLeft_said (λ_ h=>by cases h) (by kernel_rfl) (λ_ h=>by cases h) rebaseLeft_row_tie rfl ⟨rfl,rfl⟩ (by kernel_rfl) rfl rebaseLeft_plain (by kernel_rfl)
#print axioms rebaseLeft_card
end Go.Proofs.YtdiecmkpbadgjaaGreatDoor
