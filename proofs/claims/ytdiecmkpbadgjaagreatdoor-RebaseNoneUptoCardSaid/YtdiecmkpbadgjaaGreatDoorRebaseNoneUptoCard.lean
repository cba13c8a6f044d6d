/- The statement RebaseNone (of what is of bulk at most 1048576), and its tied card. -/
import Derived.Test.YtdiecmkpbadgjaaGreatDoorCards
import Derived.Test.YtdiecmkpbadgjaaGreatDoorTie
import Derived.Test.YtdiecmkpbadgjaaGreatDoorPnFacts
import Derived.Test.YtdiecmkpbadgjaaGreatDoorPnp
import Derived.Test.YtdiecmkpbadgjaaGreatDoorPns
import Derived.Test.YtdiecmkpbadgjaaGreatDoorPnt
import Derived.Test.YtdiecmkpbadgjaaGreatDoorPnu
import Derived.ShutString
import Derived.Deep.DeepHandedRow
import Derived.Deep.CondSized
namespace Go.Proofs.YtdiecmkpbadgjaaGreatDoor
open Go.ChangeShapes Go.WideShapes Go.ChangeAt Go.RowKit
open Go.ChangeMaps (open_string shut_string)
set_option linter.unusedVariables false
set_option linter.unusedSimpArgs false
set_option linter.unnecessarySimpa false
set_option maxRecDepth 100000
theorem rebaseNone_k0:(Rows.rebaseNoneUptoRow.wf (OpenSpec.ofChange Rows.rebaseNoneSpec))=true:=by kernel_rfl
theorem rebaseNone_k1:(laidOutB Tryz.prog)=true:=by kernel_rfl
theorem rebaseNone_k2:(mapsRowed Tryz.prog)=true:=by kernel_rfl
theorem rebaseNone_k3:(Tryz.f7.params.all (Tryz.prog.readableRec ·))=true:=by kernel_rfl
theorem rebaseNone_k4:(namedTie Tryz.prog Rows.rebaseNoneUptoRow.named Rows.rebaseNoneSpec.vars)=true:=by kernel_rfl
theorem rebaseNone_k5:((Rows.rebaseNoneUptoRow.stops==[]))=true:=by kernel_rfl
theorem rebaseNone_k6:((Tryz.prog.stops==[]))=true:=by kernel_rfl
theorem rebaseNone_k7:((Rows.rebaseNoneUptoRow.knobs==[]))=true:=by kernel_rfl
theorem rebaseNone_k8:((Tryz.prog.stopKnobs==[]))=true:=by kernel_rfl
theorem rebaseNone_k9:((Rows.rebaseNoneUptoRow.inPlace==Tryz.prog.inPlace 7))=true:=by kernel_rfl
theorem rebaseNone_k10:((Rows.rebaseNoneUptoRow.unfollowed==Tryz.prog.unfollowed 7))=true:=by kernel_rfl
theorem rebaseNone_k11:((Rows.rebaseNoneUptoRow.recurses==Tryz.prog.recurses 7))=true:=by kernel_rfl
theorem rebaseNone_k12:((Rows.rebaseNoneUptoRow.named==Tryz.prog.varsNamed 7))=true:=by kernel_rfl
theorem rebaseNone_k13:((Rows.rebaseNoneUptoRow.maps ==(Tryz.f7.params.toList++Rows.rebaseNoneSpec.plain.varTypes Tryz.prog).any (Tryz.prog.mapsRec ·)))=true:=by kernel_rfl
theorem rebaseNone_k14:((Rows.rebaseNoneUptoRow.ifaces ==(Tryz.f7.params.toList++Rows.rebaseNoneSpec.plain.varTypes Tryz.prog).any (Tryz.prog.ifacesRec ·)))=true:=by kernel_rfl
theorem rebaseNone_k15:((Rows.rebaseNoneUptoRow.mapsOut==Tryz.prog.mapsAmong Tryz.f7.resultTypes.toList))=true:=by kernel_rfl
theorem rebaseNone_k16:((Rows.rebaseNoneUptoRow.loops ==(Tryz.f7.params.toList++Rows.rebaseNoneSpec.plain.varTypes Tryz.prog).any (Tryz.prog.loopsFrom ·)))=true:=by kernel_rfl
theorem rebaseNone_k17:((Rows.rebaseNoneUptoRow.wideKeys ==(Tryz.f7.params.toList++Rows.rebaseNoneSpec.plain.varTypes Tryz.prog++Tryz.f7.resultTypes.toList).any (Tryz.prog.wideKeysFrom ·)))=true:=by kernel_rfl
theorem rebaseNone_k18:(Rows.rebaseNoneSpec.vars.all (Tryz.prog.varReadable ·))=true:=by kernel_rfl
theorem rebaseNone_k19:(Tryz.f7.resultTypes.all (λt=>Tryz.prog.readableRec t&&decide (t<Tryz.prog.types.size)))=true:=by kernel_rfl
theorem rebaseNone_k20:((Rows.rebaseNoneUptoRow.ifacesOut==Tryz.f7.resultTypes.toList.any (Tryz.prog.ifacesRec ·)))=true:=by kernel_rfl
theorem rebaseNone_k21:((Rows.rebaseNoneUptoRow.loopsOut==Tryz.f7.resultTypes.toList.any (Tryz.prog.loopsFrom ·)))=true:=by kernel_rfl
theorem rebaseNone_k22:((Rows.rebaseNoneUptoRow.plainKeys==Tryz.prog.plainKeys))=true:=by kernel_rfl
theorem rebaseNone_k23:(Rows.rebaseNoneUptoRow.shortTexts.isNone)=true:=by kernel_rfl
theorem rebaseNone_k24:(Tryz.prog.stopsHeard)=true:=by kernel_rfl
theorem rebaseNone_k25:(Tryz.prog.mayEnter)=true:=mayEnter_of Tryz.prog (behindMainWord (wordsSigns initSigns)) (congrArg (λl=>behindMainWord (wordsSigns l)) initL) initStrip1 initStrip2 initLays initReflect initDoors
theorem rebaseNone_k26:((Rows.rebaseNoneUptoRow.lifted==Tryz.prog.liftsFinal))=true:=beq_of (liftsFinal_of Tryz.prog (behindMainWord (wordsSigns initSigns)) (congrArg (λl=>behindMainWord (wordsSigns l)) initL) initStrip1 initHead)
theorem rebaseNone_k27:((Tryz.prog.make==some Rows.rebaseNoneUptoRow.make))=true:=by rw[make_of Tryz.prog (behindMainWord (wordsSigns initSigns)) (congrArg (λl=>behindMainWord (wordsSigns l)) initL) initHead];rfl
theorem rebaseNone_k28:((Rows.rebaseNoneUptoRow.kinds==[]))=true:=by kernel_rfl
theorem rebaseNone_k29:((Rows.rebaseNoneUptoRow.pinned==Rows.rebaseNoneUptoRow.pinnedBy))=true:=by kernel_rfl
theorem rebaseNone_k30:((Rows.rebaseNoneUptoRow.veiled ==(Tryz.f7.params.toList++Rows.rebaseNoneSpec.plain.varTypes Tryz.prog++Tryz.f7.resultTypes.toList).any (Tryz.prog.veiledRec ·)))=true:=by kernel_rfl
theorem rebaseNone_k31:(Rows.rebaseNoneUptoRow.veiledFits Tryz.prog Tryz.f7.params.toList (Tryz.f7.params.toList++Rows.rebaseNoneSpec.plain.varTypes Tryz.prog++Tryz.f7.resultTypes.toList))=true:=by kernel_rfl
theorem rebaseNone_dom:(Rows.rebaseNoneUptoRow.domain.isEmpty)=true:=by kernel_rfl
theorem rebaseNone_join:joinedFacts Tryz.prog 7 Tryz.f7 Rows.rebaseNoneSpec Rows.rebaseNoneUptoRow=true:=
 join_of rebaseNone_dom rebaseNone_k0 rebaseNone_k1 rebaseNone_k2 rebaseNone_k3 rebaseNone_k4 rebaseNone_k5 rebaseNone_k6 rebaseNone_k7 rebaseNone_k8 rebaseNone_k9 rebaseNone_k10 rebaseNone_k11 rebaseNone_k12 rebaseNone_k13 rebaseNone_k14 rebaseNone_k15 rebaseNone_k16 rebaseNone_k17 rebaseNone_k18 rebaseNone_k19 rebaseNone_k20 rebaseNone_k21 rebaseNone_k22 rebaseNone_k23 rebaseNone_k24 rebaseNone_k25 rebaseNone_k26 rebaseNone_k27 rebaseNone_k28 rebaseNone_k29 rebaseNone_k30 rebaseNone_k31
/-- A variable's cells, as they are laid. -/
def layAt(h:Array Obj)(i:Nat)(cs:Array Value):Array Obj:=h.modify i λ
 |.cells _ t z=>.cells cs t z
 |o=>o
def rebaseNone_t4:Array Value:=#[.int .u8 0,.int .u8 1,.int .u8 28,.int .u8 2,.int .u8 29,.int .u8 14,.int .u8 24,.int .u8 3,.int .u8 30,.int .u8 22,.int .u8 20,.int .u8 15,.int .u8 25,.int .u8 17,.int .u8 4,.int .u8 8,.int .u8 31,.int .u8 27,.int .u8 13,.int .u8 23,.int .u8 21,.int .u8 19,.int .u8 16,.int .u8 7,.int .u8 26,.int .u8 12,.int .u8 18,.int .u8 6,.int .u8 11,.int .u8 5,.int .u8 10,.int .u8 9]
def rebaseNone_t5:Array Value:=#[.int .u8 0,.int .u8 1,.int .u8 56,.int .u8 2,.int .u8 57,.int .u8 49,.int .u8 28,.int .u8 3,.int .u8 61,.int .u8 58,.int .u8 42,.int .u8 50,.int .u8 38,.int .u8 29,.int .u8 17,.int .u8 4,.int .u8 62,.int .u8 47,.int .u8 59,.int .u8 36,.int .u8 45,.int .u8 43,.int .u8 51,.int .u8 22,.int .u8 53,.int .u8 39,.int .u8 33,.int .u8 30,.int .u8 24,.int .u8 18,.int .u8 12,.int .u8 5,.int .u8 63,.int .u8 55,.int .u8 48,.int .u8 27,.int .u8 60,.int .u8 41,.int .u8 37,.int .u8 16,.int .u8 46,.int .u8 35,.int .u8 44,.int .u8 21,.int .u8 52,.int .u8 32,.int .u8 23,.int .u8 11,.int .u8 54,.int .u8 26,.int .u8 40,.int .u8 15,.int .u8 34,.int .u8 20,.int .u8 31,.int .u8 10,.int .u8 25,.int .u8 14,.int .u8 19,.int .u8 9,.int .u8 13,.int .u8 8,.int .u8 7,.int .u8 6]
def rebaseNone_t3:Array Value:=#[.int .u64 1,.int .u64 10,.int .u64 100,.int .u64 1000,.int .u64 10000,.int .u64 100000,.int .u64 1000000,.int .u64 10000000,.int .u64 100000000,.int .u64 1000000000,.int .u64 10000000000,.int .u64 100000000000,.int .u64 1000000000000,.int .u64 10000000000000,.int .u64 100000000000000,.int .u64 1000000000000000,.int .u64 10000000000000000,.int .u64 100000000000000000,.int .u64 1000000000000000000,.int .u64 10000000000000000000]
def rebaseNone_t2:Array Value:=#[.int .u8 128,.int .u8 191,.int .u8 160,.int .u8 191,.int .u8 128,.int .u8 159,.int .u8 144,.int .u8 191,.int .u8 128,.int .u8 143,.int .u8 0,.int .u8 0,.int .u8 0,.int .u8 0,.int .u8 0,.int .u8 0,.int .u8 0,.int .u8 0,.int .u8 0,.int .u8 0,.int .u8 0,.int .u8 0,.int .u8 0,.int .u8 0,.int .u8 0,.int .u8 0,.int .u8 0,.int .u8 0,.int .u8 0,.int .u8 0,.int .u8 0,.int .u8 0]
def rebaseNone_t1:Array Value:=(Go.Pinned.utf8FirstZ.map λ(z:Nat)=>Value.int .u8 (z:Int)).toArray
noncomputable def rebaseNone_world (os:Os):World:={ World.holding Tryz.prog os ⟨#[],#[],[]⟩with heap:=layAt (layAt (layAt (layAt (layAt ((World.holding Tryz.prog os ⟨#[],#[],[]⟩).heap) 4 rebaseNone_t4) 5 rebaseNone_t5) 3 rebaseNone_t3) 2 rebaseNone_t2) 1 rebaseNone_t1 }
theorem rebaseNone_met(os:Os):laidMet Tryz.prog Rows.rebaseNoneUptoRow.laid ((rebaseNone_world os).forCall (λ_ _=>0) ⟨#[],#[.slice none 0 0,.int .i64 0,.int .u64 0],[]⟩).memory:=
 laidMet_of_run' 8 (by kernel_rfl) (by kernel_rfl)
theorem rebaseNone_reads0(os:Os){H:Type}(enc:TypeId × Value->H):∃places,DataW.whole enc Tryz.prog ((rebaseNone_world os).forCall (λ_ _=>0) ⟨#[],#[.slice none 0 0,.int .i64 0,.int .u64 0],[]⟩).memory Tryz.f7.params.toList (Rows.OpenSpec.upto Rows.rebaseNoneSpec).vars false (#[.slice none 0 0,.int .i64 0,.int .u64 0]:Array Value).toList 8=some ([.nil,.lit (.int .i64 0),.lit (.int .u64 0)],[],places):=
 ⟨[],by kernel_rfl⟩
theorem rebaseNone_reads:∀t∈Tryz.f7.params.toList,Tryz.prog.readableRec t=true/\t<Tryz.prog.types.size:=by
 have h:(Tryz.f7.params.toList.all λt=>Tryz.prog.readableRec t&&decide (t<Tryz.prog.types.size))=true:=by kernel_rfl
 intro t ht;simpa using List.all_eq_true.1 h t ht
theorem rebaseNone_lifted(os:Os)(started:os.Started)(H:Type)(enc:TypeId × Value->H)(F:Stop.Interp) :
  ReturnsInHanded {} Tryz.checked os 7 .any ((Rows.OpenSpec.upto Rows.rebaseNoneSpec).preRow enc Tryz.prog Tryz.f7 Rows.rebaseNoneUptoRow.domain false Rows.rebaseNoneUptoRow.laid) (((Rows.OpenSpec.upto Rows.rebaseNoneSpec).at F).post enc Tryz.prog Tryz.f7 false true false false):=by
 obtain⟨places,hx⟩:=rebaseNone_reads0 os enc;refine returnsInHanded_of_row (C:=Tryz.checked) (s:=Rows.OpenSpec.upto Rows.rebaseNoneSpec) ownNone started (by kernel_rfl) Tryz.func7
  (witness_row_at (enc:=enc) (C:=Tryz.checked) false (rebaseNone_world os) #[.slice none 0 0,.int .i64 0,.int .u64 0] rfl (by kernel_rfl) (by kernel_rfl) (by kernel_rfl)
    (OpenSpec.preRow_of_cond 8 hx (by kernel_rfl) (λk hk=>by cases hk;kernel_rfl) (by kernel_rfl) (rebaseNone_met os))) ?_
 intro W base args ds gs before hval0 hW _ hcond hwt hL _ _;have hk:Rows.uptoSmall H (ds++gs)=true:=hcond _ rfl;have hval:∀(j:Nat) t v,Tryz.f7.params[j]? = some t->args[j]? = some v->Value.okWide Tryz.prog W .any base t v:=hval0;have hW':=hW;obtain⟨p,q,hA0,hV,rfl,hfz,hnd⟩:=hW;have hA:DataW.TrodAll enc Tryz.prog W 0 (λ_=>true) true Tryz.f7.params.toList args.toList ds p:=hA0;have hA1:=hA;rw[Tryz.params7]at hA hval;obtain⟨v0,vs0,d0,ds0,p0,q0,hargs,rfl,rfl,h0,r0⟩:=trodAll_cons hA;obtain⟨v1,vs1,d1,ds1,p1,q1,rfl,rfl,rfl,h1,r1⟩:=trodAll_cons r0;obtain⟨v2,vs2,d2,ds2,p2,q2,rfl,rfl,rfl,h2,r2⟩:=trodAll_cons r1;obtain⟨rfl,rfl,rfl⟩:=trodAll_nil r2;obtain rfl:args=#[v0,v1,v2]:=by cases args;simp_all
 obtain⟨rfl,rfl⟩:=trodVars_none hV;clear hA0 hval0 hargs;have w0:WOk Tryz.prog 41 d0:=weightsEach_at hwt 0 _ _ (by kernel_rfl) rfl;obtain⟨fuel0,f0⟩:=h0;have hb0:Rows.uptoBulk d0<=1048576:=by
   have hB:Rows.uptoBulkAll _<=1048576:=of_decide_eq_true hk;simp only[Rows.uptoBulkAll,List.append_nil,List.cons_append,List.nil_append]at hB;omega
 obtain⟨s0,xs0,hc0,hr0⟩:=esB_of_trod f0 w0 hb0;obtain⟨ad0,n0,c0,rfl⟩:=okWide_slice Tryz.underlying41 (hval 0 41 v0 rfl rfl);have e0:Value.slice ad0 n0 c0=.slice s0.a xs0.length s0.c:=by simpa[Value.cells]using hc0
 rw[e0]at hA1 hW' ⊢;obtain⟨a1,rfl,rfl,rfl,hr1⟩:=open_int Tryz.underlying2 (hval 1 2 v1 rfl rfl) h1;obtain⟨a2,rfl,rfl,rfl,hr2⟩:=open_int Tryz.underlying22 (hval 2 22 v2 rfl rfl) h2;refine(noneL hr0.1 hr0.2 hr1 hr2 (libq_of hL)).mono λe W' ⟨he,hg⟩=>?_
 subst he;have hB:Below W.heap.size W W':=⟨hg.os,hg.tape,hg.output,hg.size,λb hb=>hg.block b hb λh=>h⟩;have hlt:=DataW.Whole.lt hW';exact⟨_,rfl,post_of_below (pv:=[]) hW' (λ_ _ _=>(trodAll_cons_mk (shut_bool Tryz.underlying4 _) trodAll_mk0)) (λsp hsp=>trodAll_stays rebaseNone_k1 hB sp rebaseNone_reads hA1 (λz hz=>hlt z (by simpa using hz)) (λz hz=>hsp z (by simpa using hz))) (λ_ _=>rfl) rfl
  hB (ok_one (by kernel_rfl) rfl (okWide_bool_mk Tryz.underlying4 _))⟩
theorem rebaseNone_said:Rows.RebaseNoneUptoSaid:=
 OpenClaim.holds_of_cond 7 Tryz.f7 rfl rfl rfl rfl rfl rfl rfl ⟨rfl,rfl,rfl,rfl,rfl⟩ rfl rfl rfl rfl rfl (by kernel_rfl) Tryz.func7 rebaseNone_join
  (of_decide_eq_true (by kernel_rfl)) (by unfold Func.isWrapper;first |(rw[if_pos (by decide +kernel)];kernel_rfl) |(rw[if_neg (by decide +kernel)];exact⟨rfl,rfl⟩))
  (λos started H enc _ F=>by rw[OpenClaim.pre_eq_preRow];exact rebaseNone_lifted os started H enc F)
theorem rebaseNone_plain(f:FuncId)(fn:Func)(hf:Tryz.pinned.checked.prog.funcNamed "commonplace/commonplacelaw24.RebaseNone" =some f) (hfn:Tryz.pinned.checked.prog.funcs[f]? = some fn) :
  true=Tryz.pinned.checked.prog.looks []/\∀(j:Nat) t,fn.params[j]? = some t->Tryz.pinned.checked.prog.wantsStandIn t=false:=by
 obtain rfl:f=7:=Option.some.inj ((show Tryz.prog.funcNamed "commonplace/commonplacelaw24.RebaseNone" =some 7 by kernel_rfl).symm.trans hf) |>.symm
 obtain rfl:fn=Tryz.f7:=(Option.some.inj (Tryz.func7.symm.trans hfn)).symm;refine⟨by kernel_rfl,λj t ht=>?_⟩;have hall:(Tryz.f7.params.toList.all λt=>!Tryz.prog.wantsStandIn t)=true:=by kernel_rfl
 have hm:t∈Tryz.f7.params.toList:=Array.mem_toList_iff.2 (Array.mem_of_getElem? ht);have h1:=List.all_eq_true.1 hall t hm;show Tryz.prog.wantsStandIn t=false;simpa using h1
theorem rebaseNone_upto:Rows.RebaseNoneUptoCardSaid:=
 Claim7.holds_tied_plain_at .later [] _ _ _ _ rebaseNone_said (λ_ h=>by cases h) (by kernel_rfl) (λ_ h=>by cases h) rebaseNoneUpto_row_tie rfl ⟨rfl,rfl⟩ (by kernel_rfl) rfl rebaseNone_plain (by kernel_rfl)
#print axioms rebaseNone_upto
end Go.Proofs.YtdiecmkpbadgjaaGreatDoor
