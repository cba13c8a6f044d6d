/- The statement InterpDoes (of what is of bulk at most 1048576), and its tied card. -/
import Derived.Test.YtkjkafgnnoidpaaGreatDoorCards
import Derived.Test.YtkjkafgnnoidpaaGreatDoorTie
import Derived.Test.YtkjkafgnnoidpaaGreatDoorPhFacts
import Derived.Test.YtkjkafgnnoidpaaGreatDoorPhw
import Derived.WalkKit
import Derived.ProofKit
import Derived.OpenShut
import Derived.ShutString
import Derived.Deep.DeepHandedRow
import Derived.Deep.CondSized
import Derived.JoinedCond
import GoSem.PinnedTables
namespace Go.Proofs.YtkjkafgnnoidpaaGreatDoor
open Go.ChangeShapes Go.WideShapes Go.ChangeAt Go.RowKit
open Go.ChangeMaps (open_string shut_string)
set_option linter.unusedVariables false
set_option linter.unusedSimpArgs false
set_option linter.unnecessarySimpa false
set_option maxRecDepth 100000
theorem interpDoes_k0:(Rows.interpDoesUptoRow.wf (OpenSpec.ofChange Rows.interpDoesSpec))=true:=by kernel_rfl
theorem interpDoes_k1:(laidOutB Tryz.prog)=true:=by kernel_rfl
theorem interpDoes_k2:(mapsRowed Tryz.prog)=true:=by kernel_rfl
theorem interpDoes_k3:(Tryz.f3.params.all (Tryz.prog.readableRec ·))=true:=by kernel_rfl
theorem interpDoes_k4:(namedTie Tryz.prog Rows.interpDoesUptoRow.named Rows.interpDoesSpec.vars)=true:=by kernel_rfl
theorem interpDoes_k5:((Rows.interpDoesUptoRow.stops==[]))=true:=by kernel_rfl
theorem interpDoes_k6:((Tryz.prog.stops==[]))=true:=by kernel_rfl
theorem interpDoes_k7:((Rows.interpDoesUptoRow.knobs==[]))=true:=by kernel_rfl
theorem interpDoes_k8:((Tryz.prog.stopKnobs==[]))=true:=by kernel_rfl
theorem interpDoes_k9:((Rows.interpDoesUptoRow.inPlace==Tryz.prog.inPlace 3))=true:=by kernel_rfl
theorem interpDoes_k10:((Rows.interpDoesUptoRow.unfollowed==Tryz.prog.unfollowed 3))=true:=by kernel_rfl
theorem interpDoes_k11:((Rows.interpDoesUptoRow.recurses==Tryz.prog.recurses 3))=true:=by kernel_rfl
theorem interpDoes_k12:((Rows.interpDoesUptoRow.named==Tryz.prog.varsNamed 3))=true:=by kernel_rfl
theorem interpDoes_k13:((Rows.interpDoesUptoRow.maps ==(Tryz.f3.params.toList++Rows.interpDoesSpec.plain.varTypes Tryz.prog).any (Tryz.prog.mapsRec ·)))=true:=by kernel_rfl
theorem interpDoes_k14:((Rows.interpDoesUptoRow.ifaces ==(Tryz.f3.params.toList++Rows.interpDoesSpec.plain.varTypes Tryz.prog).any (Tryz.prog.ifacesRec ·)))=true:=by kernel_rfl
theorem interpDoes_k15:((Rows.interpDoesUptoRow.mapsOut==Tryz.prog.mapsAmong Tryz.f3.resultTypes.toList))=true:=by kernel_rfl
theorem interpDoes_k16:((Rows.interpDoesUptoRow.loops ==(Tryz.f3.params.toList++Rows.interpDoesSpec.plain.varTypes Tryz.prog).any (Tryz.prog.loopsFrom ·)))=true:=by kernel_rfl
theorem interpDoes_k17:((Rows.interpDoesUptoRow.wideKeys ==(Tryz.f3.params.toList++Rows.interpDoesSpec.plain.varTypes Tryz.prog++Tryz.f3.resultTypes.toList).any (Tryz.prog.wideKeysFrom ·)))=true:=by kernel_rfl
theorem interpDoes_k18:(Rows.interpDoesSpec.vars.all (Tryz.prog.varReadable ·))=true:=by kernel_rfl
theorem interpDoes_k19:(Tryz.f3.resultTypes.all (λt=>Tryz.prog.readableRec t&&decide (t<Tryz.prog.types.size)))=true:=by kernel_rfl
theorem interpDoes_k20:((Rows.interpDoesUptoRow.ifacesOut==Tryz.f3.resultTypes.toList.any (Tryz.prog.ifacesRec ·)))=true:=by kernel_rfl
theorem interpDoes_k21:((Rows.interpDoesUptoRow.loopsOut==Tryz.f3.resultTypes.toList.any (Tryz.prog.loopsFrom ·)))=true:=by kernel_rfl
theorem interpDoes_k22:((Rows.interpDoesUptoRow.plainKeys==Tryz.prog.plainKeys))=true:=by kernel_rfl
theorem interpDoes_k23:(Rows.interpDoesUptoRow.shortTexts.isNone)=true:=by kernel_rfl
theorem interpDoes_k24:(Tryz.prog.stopsHeard)=true:=by kernel_rfl
theorem interpDoes_k25:(Tryz.prog.mayEnter)=true:=mayEnter_of Tryz.prog (behindMainWord (wordsSigns initSigns)) (congrArg (λl=>behindMainWord (wordsSigns l)) initL) initStrip1 initStrip2 initLays initReflect initDoors
theorem interpDoes_k26:((Rows.interpDoesUptoRow.lifted==Tryz.prog.liftsFinal))=true:=beq_of (liftsFinal_of Tryz.prog (behindMainWord (wordsSigns initSigns)) (congrArg (λl=>behindMainWord (wordsSigns l)) initL) initStrip1 initHead)
theorem interpDoes_k27:((Tryz.prog.make==some Rows.interpDoesUptoRow.make))=true:=by rw[make_of Tryz.prog (behindMainWord (wordsSigns initSigns)) (congrArg (λl=>behindMainWord (wordsSigns l)) initL) initHead];rfl
theorem interpDoes_k28:((Rows.interpDoesUptoRow.kinds==[]))=true:=by kernel_rfl
theorem interpDoes_k29:((Rows.interpDoesUptoRow.pinned==Rows.interpDoesUptoRow.pinnedBy))=true:=by kernel_rfl
theorem interpDoes_k30:((Rows.interpDoesUptoRow.veiled ==(Tryz.f3.params.toList++Rows.interpDoesSpec.plain.varTypes Tryz.prog++Tryz.f3.resultTypes.toList).any (Tryz.prog.veiledRec ·)))=true:=by kernel_rfl
theorem interpDoes_k31:(Rows.interpDoesUptoRow.veiledFits Tryz.prog Tryz.f3.params.toList (Tryz.f3.params.toList++Rows.interpDoesSpec.plain.varTypes Tryz.prog++Tryz.f3.resultTypes.toList))=true:=by kernel_rfl
theorem interpDoes_dom:(Rows.interpDoesUptoRow.domain.isEmpty)=true:=by kernel_rfl
theorem interpDoes_join:joinedFacts Tryz.prog 3 Tryz.f3 Rows.interpDoesSpec Rows.interpDoesUptoRow=true:=
 join_of interpDoes_dom interpDoes_k0 interpDoes_k1 interpDoes_k2 interpDoes_k3 interpDoes_k4 interpDoes_k5 interpDoes_k6 interpDoes_k7 interpDoes_k8 interpDoes_k9 interpDoes_k10 interpDoes_k11 interpDoes_k12 interpDoes_k13 interpDoes_k14 interpDoes_k15 interpDoes_k16 interpDoes_k17 interpDoes_k18 interpDoes_k19 interpDoes_k20 interpDoes_k21 interpDoes_k22 interpDoes_k23 interpDoes_k24 interpDoes_k25 interpDoes_k26 interpDoes_k27 interpDoes_k28 interpDoes_k29 interpDoes_k30 interpDoes_k31
/-- A variable's cells, as they are laid. -/
def layAt(h:Array Obj)(i:Nat)(cs:Array Value):Array Obj:=h.modify i λ
 |.cells _ t z=>.cells cs t z
 |o=>o
def interpDoes_t4:Array Value:=#[.int .u8 0,.int .u8 1,.int .u8 28,.int .u8 2,.int .u8 29,.int .u8 14,.int .u8 24,.int .u8 3,.int .u8 30,.int .u8 22,.int .u8 20,.int .u8 15,.int .u8 25,.int .u8 17,.int .u8 4,.int .u8 8,.int .u8 31,.int .u8 27,.int .u8 13,.int .u8 23,.int .u8 21,.int .u8 19,.int .u8 16,.int .u8 7,.int .u8 26,.int .u8 12,.int .u8 18,.int .u8 6,.int .u8 11,.int .u8 5,.int .u8 10,.int .u8 9]
def interpDoes_t5:Array Value:=#[.int .u8 0,.int .u8 1,.int .u8 56,.int .u8 2,.int .u8 57,.int .u8 49,.int .u8 28,.int .u8 3,.int .u8 61,.int .u8 58,.int .u8 42,.int .u8 50,.int .u8 38,.int .u8 29,.int .u8 17,.int .u8 4,.int .u8 62,.int .u8 47,.int .u8 59,.int .u8 36,.int .u8 45,.int .u8 43,.int .u8 51,.int .u8 22,.int .u8 53,.int .u8 39,.int .u8 33,.int .u8 30,.int .u8 24,.int .u8 18,.int .u8 12,.int .u8 5,.int .u8 63,.int .u8 55,.int .u8 48,.int .u8 27,.int .u8 60,.int .u8 41,.int .u8 37,.int .u8 16,.int .u8 46,.int .u8 35,.int .u8 44,.int .u8 21,.int .u8 52,.int .u8 32,.int .u8 23,.int .u8 11,.int .u8 54,.int .u8 26,.int .u8 40,.int .u8 15,.int .u8 34,.int .u8 20,.int .u8 31,.int .u8 10,.int .u8 25,.int .u8 14,.int .u8 19,.int .u8 9,.int .u8 13,.int .u8 8,.int .u8 7,.int .u8 6]
def interpDoes_t3:Array Value:=#[.int .u64 1,.int .u64 10,.int .u64 100,.int .u64 1000,.int .u64 10000,.int .u64 100000,.int .u64 1000000,.int .u64 10000000,.int .u64 100000000,.int .u64 1000000000,.int .u64 10000000000,.int .u64 100000000000,.int .u64 1000000000000,.int .u64 10000000000000,.int .u64 100000000000000,.int .u64 1000000000000000,.int .u64 10000000000000000,.int .u64 100000000000000000,.int .u64 1000000000000000000,.int .u64 10000000000000000000]
def interpDoes_t1:Array Value:=#[.int .u8 128,.int .u8 191,.int .u8 160,.int .u8 191,.int .u8 128,.int .u8 159,.int .u8 144,.int .u8 191,.int .u8 128,.int .u8 143,.int .u8 0,.int .u8 0,.int .u8 0,.int .u8 0,.int .u8 0,.int .u8 0,.int .u8 0,.int .u8 0,.int .u8 0,.int .u8 0,.int .u8 0,.int .u8 0,.int .u8 0,.int .u8 0,.int .u8 0,.int .u8 0,.int .u8 0,.int .u8 0,.int .u8 0,.int .u8 0,.int .u8 0,.int .u8 0]
def interpDoes_t0:Array Value:=(Go.Pinned.utf8FirstZ.map λ(z:Nat)=>Value.int .u8 (z:Int)).toArray
noncomputable def interpDoes_world (os:Os):World:={ World.holding Tryz.prog os ⟨#[],#[],[]⟩with heap:=layAt (layAt (layAt (layAt (layAt ((World.holding Tryz.prog os ⟨#[],#[],[]⟩).heap) 4 interpDoes_t4) 5 interpDoes_t5) 3 interpDoes_t3) 1 interpDoes_t1) 0 interpDoes_t0 }
theorem interpDoes_met(os:Os):laidMet Tryz.prog Rows.interpDoesUptoRow.laid ((interpDoes_world os).forCall (λ_ _=>0) ⟨#[],#[.slice none 0 0,.string ByteArray.empty,.string ByteArray.empty,.agg #[.int .i64 0,.string ByteArray.empty,.string ByteArray.empty,.int .i64 0,.bool false,.int .i64 0,.bool false,.int .i64 0,.string ByteArray.empty,.slice none 0 0,.slice none 0 0,.bool false,.int .i64 0,.bool false,.int .i64 0,.string ByteArray.empty,.slice none 0 0,.slice none 0 0,.slice none 0 0]],[]⟩).memory:=
 laidMet_of_run' 8 (by kernel_rfl) (by kernel_rfl)
theorem interpDoes_reads0(os:Os){H:Type}(enc:TypeId × Value->H):∃places,DataW.whole enc Tryz.prog ((interpDoes_world os).forCall (λ_ _=>0) ⟨#[],#[.slice none 0 0,.string ByteArray.empty,.string ByteArray.empty,.agg #[.int .i64 0,.string ByteArray.empty,.string ByteArray.empty,.int .i64 0,.bool false,.int .i64 0,.bool false,.int .i64 0,.string ByteArray.empty,.slice none 0 0,.slice none 0 0,.bool false,.int .i64 0,.bool false,.int .i64 0,.string ByteArray.empty,.slice none 0 0,.slice none 0 0,.slice none 0 0]],[]⟩).memory Tryz.f3.params.toList (Rows.OpenSpec.upto Rows.interpDoesSpec).vars false (#[.slice none 0 0,.string ByteArray.empty,.string ByteArray.empty,.agg #[.int .i64 0,.string ByteArray.empty,.string ByteArray.empty,.int .i64 0,.bool false,.int .i64 0,.bool false,.int .i64 0,.string ByteArray.empty,.slice none 0 0,.slice none 0 0,.bool false,.int .i64 0,.bool false,.int .i64 0,.string ByteArray.empty,.slice none 0 0,.slice none 0 0,.slice none 0 0]]:Array Value).toList 8=some ([.nil,.lit (.string []),.lit (.string []),.agg [.lit (.int .i64 0),.lit (.string []),.lit (.string []),.lit (.int .i64 0),.lit (.bool false),.agg [.lit (.int .i64 0),.lit (.bool false),.lit (.int .i64 0),.lit (.string []),.nil,.nil],.lit (.bool false),.agg [.lit (.int .i64 0),.lit (.bool false),.lit (.int .i64 0),.lit (.string []),.nil,.nil],.nil]],[],places):=
 ⟨[],by kernel_rfl⟩
theorem interpDoes_reads:∀t∈Tryz.f3.params.toList,Tryz.prog.readableRec t=true/\t<Tryz.prog.types.size:=by
 have h:(Tryz.f3.params.toList.all λt=>Tryz.prog.readableRec t&&decide (t<Tryz.prog.types.size))=true:=by kernel_rfl
 intro t ht;simpa using List.all_eq_true.1 h t ht
theorem interpDoes_lifted(os:Os)(started:os.Started)(H:Type)(enc:TypeId × Value->H)(F:Stop.Interp) :
  ReturnsInHanded {} Tryz.checked os 3 .any ((Rows.OpenSpec.upto Rows.interpDoesSpec).preRow enc Tryz.prog Tryz.f3 Rows.interpDoesUptoRow.domain false Rows.interpDoesUptoRow.laid) (((Rows.OpenSpec.upto Rows.interpDoesSpec).at F).post enc Tryz.prog Tryz.f3 false true false false):=by
 obtain⟨places,hx⟩:=interpDoes_reads0 os enc;refine returnsInHanded_of_row (C:=Tryz.checked) (s:=Rows.OpenSpec.upto Rows.interpDoesSpec) ownNone started (by kernel_rfl) Tryz.func3
  (witness_row_at (enc:=enc) (C:=Tryz.checked) false (interpDoes_world os) #[.slice none 0 0,.string ByteArray.empty,.string ByteArray.empty,.agg #[.int .i64 0,.string ByteArray.empty,.string ByteArray.empty,.int .i64 0,.bool false,.int .i64 0,.bool false,.int .i64 0,.string ByteArray.empty,.slice none 0 0,.slice none 0 0,.bool false,.int .i64 0,.bool false,.int .i64 0,.string ByteArray.empty,.slice none 0 0,.slice none 0 0,.slice none 0 0]] rfl (by kernel_rfl) (by kernel_rfl) (by kernel_rfl)
    (OpenSpec.preRow_of_cond 8 hx (by kernel_rfl) (λk hk=>by cases hk;kernel_rfl) (by kernel_rfl) (interpDoes_met os))) ?_
 intro W base args ds gs before hval0 hW _ hcond hwt hL _ _;have hk:Rows.uptoSmall H (ds++gs)=true:=hcond _ rfl;have hval:∀(j:Nat) t v,Tryz.f3.params[j]? = some t->args[j]? = some v->Value.okWide Tryz.prog W .any base t v:=hval0;have hW':=hW;obtain⟨p,q,hA0,hV,rfl,hfz,hnd⟩:=hW;have hA:DataW.TrodAll enc Tryz.prog W 0 (λ_=>true) true Tryz.f3.params.toList args.toList ds p:=hA0;have hA1:=hA;rw[Tryz.params3]at hA hval;obtain⟨v0,vs0,d0,ds0,p0,q0,hargs,rfl,rfl,h0,r0⟩:=trodAll_cons hA;obtain⟨v1,vs1,d1,ds1,p1,q1,rfl,rfl,rfl,h1,r1⟩:=trodAll_cons r0;obtain⟨v2,vs2,d2,ds2,p2,q2,rfl,rfl,rfl,h2,r2⟩:=trodAll_cons r1;obtain⟨v3,vs3,d3,ds3,p3,q3,rfl,rfl,rfl,h3,r3⟩:=trodAll_cons r2;obtain⟨rfl,rfl,rfl⟩:=trodAll_nil r3;obtain rfl:args=#[v0,v1,v2,v3]:=by cases args;simp_all
 obtain⟨rfl,rfl⟩:=trodVars_none hV;clear hA0 hval0 hargs;have w0:WOk Tryz.prog 22 d0:=weightsEach_at hwt 0 _ _ (by kernel_rfl) rfl;obtain⟨fuel0,f0⟩:=h0;have hb0:Rows.uptoBulk d0<=1048576:=by
   have hB:Rows.uptoBulkAll _<=1048576:=of_decide_eq_true hk;simp only[Rows.uptoBulkAll,List.append_nil,List.cons_append,List.nil_append]at hB;omega
 obtain⟨s0,xs0,hc0,hr0⟩:=esB_of_trod f0 w0 hb0;obtain⟨ad0,n0,c0,rfl⟩:=okWide_slice Tryz.underlying22 (hval 0 22 v0 rfl rfl);have e0:Value.slice ad0 n0 c0=.slice s0.a xs0.length s0.c:=by simpa[Value.cells]using hc0
 rw[e0]at hA1 hW' ⊢;obtain⟨a1,rfl,rfl,rfl,hr1⟩:=open_string Tryz.underlying9 (hval 1 9 v1 rfl rfl) h1;obtain⟨a2,rfl,rfl,rfl,hr2⟩:=open_string Tryz.underlying9 (hval 2 9 v2 rfl rfl) h2;have w3:WOk Tryz.prog 31 d3:=weightsEach_at hwt 3 _ _ (by kernel_rfl) rfl;obtain⟨fuel3,f3⟩:=h3;have hb3:Rows.uptoBulk d3<=1048576:=by
   have hB:Rows.uptoBulkAll _<=1048576:=of_decide_eq_true hk;simp only[Rows.uptoBulkAll,List.append_nil,List.cons_append,List.nil_append]at hB;omega
 obtain⟨x3,c3,hc3,hr3,hv3⟩:=Qm5 fuel3 f3 w3
 replace hv3:QcF x3<=1100000:=by have hv':QcF x3<=Rows.uptoBulk d3:=hv3;omega
 obtain⟨cs3,rfl,-⟩:=okWide_struct Tryz.underlying31 (hval 3 31 v3 rfl rfl);have e3:Value.agg cs3=QaG x3 c3:=congrArg Value.agg (Array.toList_inj.1 (by simpa only[Value.cells,QaE]using hc3));rw[e3]at hA1 hW' ⊢;have hQ:a1.size+a2.size<=1048576:=by
   have hB:Rows.uptoBulkAll _<=1048576:=of_decide_eq_true hk;simp only[Rows.uptoBulkAll,List.append_nil,List.cons_append,List.nil_append]at hB;simp only[Rows.uptoBulk,Array.length_toList]at hB;show a1.data.size+a2.data.size<=_;omega
 refine(does13 hr0.1 hr0.2 hr3 hv3 hQ (libq_of hL)).mono λe W' ⟨he,hg⟩=>?_
 subst he;have hB:Below W.heap.size W W':=⟨hg.os,hg.tape,hg.output,hg.size,λb hb=>hg.block b hb λh=>h⟩;have hlt:=DataW.Whole.lt hW';exact⟨_,rfl,post_of_below (pv:=[]) hW' (λ_ _ _=>(trodAll_cons_mk (shut_bool Tryz.underlying4 _) trodAll_mk0)) (λsp hsp=>trodAll_stays interpDoes_k1 hB sp interpDoes_reads hA1 (λz hz=>hlt z (by simpa using hz)) (λz hz=>hsp z (by simpa using hz))) (λ_ _=>rfl) rfl
  hB (ok_one (by kernel_rfl) rfl (okWide_bool_mk Tryz.underlying4 _))⟩
theorem interpDoes_said:Rows.InterpDoesUptoSaid:=
 OpenClaim.holds_of_cond 3 Tryz.f3 rfl rfl rfl rfl rfl rfl rfl ⟨rfl,rfl,rfl,rfl,rfl⟩ rfl rfl rfl rfl rfl (by kernel_rfl) Tryz.func3 interpDoes_join
  (of_decide_eq_true (by kernel_rfl)) (by unfold Func.isWrapper;first |(rw[if_pos (by decide +kernel)];kernel_rfl) |(rw[if_neg (by decide +kernel)];exact⟨rfl,rfl⟩))
  (λos started H enc _ F=>by rw[OpenClaim.pre_eq_preRow];exact interpDoes_lifted os started H enc F)
theorem interpDoes_plain(f:FuncId)(fn:Func)(hf:Tryz.pinned.checked.prog.funcNamed "commonplace/commonplacelaw13.InterpDoes" =some f) (hfn:Tryz.pinned.checked.prog.funcs[f]? = some fn) :
  true=Tryz.pinned.checked.prog.looks []/\∀(j:Nat) t,fn.params[j]? = some t->Tryz.pinned.checked.prog.wantsStandIn t=false:=by
 obtain rfl:f=3:=Option.some.inj ((show Tryz.prog.funcNamed "commonplace/commonplacelaw13.InterpDoes" =some 3 by kernel_rfl).symm.trans hf) |>.symm
 obtain rfl:fn=Tryz.f3:=(Option.some.inj (Tryz.func3.symm.trans hfn)).symm;refine⟨by kernel_rfl,λj t ht=>?_⟩;have hall:(Tryz.f3.params.toList.all λt=>!Tryz.prog.wantsStandIn t)=true:=by kernel_rfl
 have hm:t∈Tryz.f3.params.toList:=Array.mem_toList_iff.2 (Array.mem_of_getElem? ht);have h1:=List.all_eq_true.1 hall t hm;show Tryz.prog.wantsStandIn t=false;simpa using h1
theorem interpDoes_upto:Rows.InterpDoesUptoCardSaid:=
 Claim7.holds_tied_plain_at .later [] _ _ _ _ interpDoes_said (λ_ h=>by cases h) (by kernel_rfl) (λ_ h=>by cases h) interpDoesUpto_row_tie rfl ⟨rfl,rfl⟩ (by kernel_rfl) rfl interpDoes_plain (by kernel_rfl)
#print axioms interpDoes_upto
end Go.Proofs.YtkjkafgnnoidpaaGreatDoor
