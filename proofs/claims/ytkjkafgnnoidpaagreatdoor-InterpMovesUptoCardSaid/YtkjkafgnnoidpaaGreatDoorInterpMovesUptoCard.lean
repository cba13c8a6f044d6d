/- The statement InterpMoves (of what is of bulk at most 1048576), and its tied card. -/
import Derived.Test.YtkjkafgnnoidpaaGreatDoorCards
import Derived.Test.YtkjkafgnnoidpaaGreatDoorTie
import Derived.Test.YtkjkafgnnoidpaaGreatDoorPhFacts
import Derived.Test.YtkjkafgnnoidpaaGreatDoorPht
import Derived.Test.YtkjkafgnnoidpaaGreatDoorPhu
import Derived.Test.YtkjkafgnnoidpaaGreatDoorPhv
import Derived.ShutString
import Derived.Deep.DeepHandedRow
import Derived.Deep.CondSized
namespace Go.Proofs.YtkjkafgnnoidpaaGreatDoor
open Go.ChangeShapes Go.WideShapes Go.ChangeAt Go.RowKit
open Go.ChangeMaps (open_string shut_string)
set_option linter.unusedVariables false
set_option linter.unusedSimpArgs false
set_option linter.unnecessarySimpa false
set_option maxRecDepth 100000
theorem interpMoves_k0:(Rows.interpMovesUptoRow.wf (OpenSpec.ofChange Rows.interpMovesSpec))=true:=by kernel_rfl
theorem interpMoves_k1:(laidOutB Tryz.prog)=true:=by kernel_rfl
theorem interpMoves_k2:(mapsRowed Tryz.prog)=true:=by kernel_rfl
theorem interpMoves_k3:(Tryz.f6.params.all (Tryz.prog.readableRec ·))=true:=by kernel_rfl
theorem interpMoves_k4:(namedTie Tryz.prog Rows.interpMovesUptoRow.named Rows.interpMovesSpec.vars)=true:=by kernel_rfl
theorem interpMoves_k5:((Rows.interpMovesUptoRow.stops==[]))=true:=by kernel_rfl
theorem interpMoves_k6:((Tryz.prog.stops==[]))=true:=by kernel_rfl
theorem interpMoves_k7:((Rows.interpMovesUptoRow.knobs==[]))=true:=by kernel_rfl
theorem interpMoves_k8:((Tryz.prog.stopKnobs==[]))=true:=by kernel_rfl
theorem interpMoves_k9:((Rows.interpMovesUptoRow.inPlace==Tryz.prog.inPlace 6))=true:=by kernel_rfl
theorem interpMoves_k10:((Rows.interpMovesUptoRow.unfollowed==Tryz.prog.unfollowed 6))=true:=by kernel_rfl
theorem interpMoves_k11:((Rows.interpMovesUptoRow.recurses==Tryz.prog.recurses 6))=true:=by kernel_rfl
theorem interpMoves_k12:((Rows.interpMovesUptoRow.named==Tryz.prog.varsNamed 6))=true:=by kernel_rfl
theorem interpMoves_k13:((Rows.interpMovesUptoRow.maps ==(Tryz.f6.params.toList++Rows.interpMovesSpec.plain.varTypes Tryz.prog).any (Tryz.prog.mapsRec ·)))=true:=by kernel_rfl
theorem interpMoves_k14:((Rows.interpMovesUptoRow.ifaces ==(Tryz.f6.params.toList++Rows.interpMovesSpec.plain.varTypes Tryz.prog).any (Tryz.prog.ifacesRec ·)))=true:=by kernel_rfl
theorem interpMoves_k15:((Rows.interpMovesUptoRow.mapsOut==Tryz.prog.mapsAmong Tryz.f6.resultTypes.toList))=true:=by kernel_rfl
theorem interpMoves_k16:((Rows.interpMovesUptoRow.loops ==(Tryz.f6.params.toList++Rows.interpMovesSpec.plain.varTypes Tryz.prog).any (Tryz.prog.loopsFrom ·)))=true:=by kernel_rfl
theorem interpMoves_k17:((Rows.interpMovesUptoRow.wideKeys ==(Tryz.f6.params.toList++Rows.interpMovesSpec.plain.varTypes Tryz.prog++Tryz.f6.resultTypes.toList).any (Tryz.prog.wideKeysFrom ·)))=true:=by kernel_rfl
theorem interpMoves_k18:(Rows.interpMovesSpec.vars.all (Tryz.prog.varReadable ·))=true:=by kernel_rfl
theorem interpMoves_k19:(Tryz.f6.resultTypes.all (λt=>Tryz.prog.readableRec t&&decide (t<Tryz.prog.types.size)))=true:=by kernel_rfl
theorem interpMoves_k20:((Rows.interpMovesUptoRow.ifacesOut==Tryz.f6.resultTypes.toList.any (Tryz.prog.ifacesRec ·)))=true:=by kernel_rfl
theorem interpMoves_k21:((Rows.interpMovesUptoRow.loopsOut==Tryz.f6.resultTypes.toList.any (Tryz.prog.loopsFrom ·)))=true:=by kernel_rfl
theorem interpMoves_k22:((Rows.interpMovesUptoRow.plainKeys==Tryz.prog.plainKeys))=true:=by kernel_rfl
theorem interpMoves_k23:(Rows.interpMovesUptoRow.shortTexts.isNone)=true:=by kernel_rfl
theorem interpMoves_k24:(Tryz.prog.stopsHeard)=true:=by kernel_rfl
theorem interpMoves_k25:(Tryz.prog.mayEnter)=true:=mayEnter_of Tryz.prog (behindMainWord (wordsSigns initSigns)) (congrArg (λl=>behindMainWord (wordsSigns l)) initL) initStrip1 initStrip2 initLays initReflect initDoors
theorem interpMoves_k26:((Rows.interpMovesUptoRow.lifted==Tryz.prog.liftsFinal))=true:=beq_of (liftsFinal_of Tryz.prog (behindMainWord (wordsSigns initSigns)) (congrArg (λl=>behindMainWord (wordsSigns l)) initL) initStrip1 initHead)
theorem interpMoves_k27:((Tryz.prog.make==some Rows.interpMovesUptoRow.make))=true:=by rw[make_of Tryz.prog (behindMainWord (wordsSigns initSigns)) (congrArg (λl=>behindMainWord (wordsSigns l)) initL) initHead];rfl
theorem interpMoves_k28:((Rows.interpMovesUptoRow.kinds==[]))=true:=by kernel_rfl
theorem interpMoves_k29:((Rows.interpMovesUptoRow.pinned==Rows.interpMovesUptoRow.pinnedBy))=true:=by kernel_rfl
theorem interpMoves_k30:((Rows.interpMovesUptoRow.veiled ==(Tryz.f6.params.toList++Rows.interpMovesSpec.plain.varTypes Tryz.prog++Tryz.f6.resultTypes.toList).any (Tryz.prog.veiledRec ·)))=true:=by kernel_rfl
theorem interpMoves_k31:(Rows.interpMovesUptoRow.veiledFits Tryz.prog Tryz.f6.params.toList (Tryz.f6.params.toList++Rows.interpMovesSpec.plain.varTypes Tryz.prog++Tryz.f6.resultTypes.toList))=true:=by kernel_rfl
theorem interpMoves_dom:(Rows.interpMovesUptoRow.domain.isEmpty)=true:=by kernel_rfl
theorem interpMoves_join:joinedFacts Tryz.prog 6 Tryz.f6 Rows.interpMovesSpec Rows.interpMovesUptoRow=true:=
 join_of interpMoves_dom interpMoves_k0 interpMoves_k1 interpMoves_k2 interpMoves_k3 interpMoves_k4 interpMoves_k5 interpMoves_k6 interpMoves_k7 interpMoves_k8 interpMoves_k9 interpMoves_k10 interpMoves_k11 interpMoves_k12 interpMoves_k13 interpMoves_k14 interpMoves_k15 interpMoves_k16 interpMoves_k17 interpMoves_k18 interpMoves_k19 interpMoves_k20 interpMoves_k21 interpMoves_k22 interpMoves_k23 interpMoves_k24 interpMoves_k25 interpMoves_k26 interpMoves_k27 interpMoves_k28 interpMoves_k29 interpMoves_k30 interpMoves_k31
/-- A variable's cells, as they are laid. -/
def layAt(h:Array Obj)(i:Nat)(cs:Array Value):Array Obj:=h.modify i λ
 |.cells _ t z=>.cells cs t z
 |o=>o
def interpMoves_t4:Array Value:=#[.int .u8 0,.int .u8 1,.int .u8 28,.int .u8 2,.int .u8 29,.int .u8 14,.int .u8 24,.int .u8 3,.int .u8 30,.int .u8 22,.int .u8 20,.int .u8 15,.int .u8 25,.int .u8 17,.int .u8 4,.int .u8 8,.int .u8 31,.int .u8 27,.int .u8 13,.int .u8 23,.int .u8 21,.int .u8 19,.int .u8 16,.int .u8 7,.int .u8 26,.int .u8 12,.int .u8 18,.int .u8 6,.int .u8 11,.int .u8 5,.int .u8 10,.int .u8 9]
def interpMoves_t5:Array Value:=#[.int .u8 0,.int .u8 1,.int .u8 56,.int .u8 2,.int .u8 57,.int .u8 49,.int .u8 28,.int .u8 3,.int .u8 61,.int .u8 58,.int .u8 42,.int .u8 50,.int .u8 38,.int .u8 29,.int .u8 17,.int .u8 4,.int .u8 62,.int .u8 47,.int .u8 59,.int .u8 36,.int .u8 45,.int .u8 43,.int .u8 51,.int .u8 22,.int .u8 53,.int .u8 39,.int .u8 33,.int .u8 30,.int .u8 24,.int .u8 18,.int .u8 12,.int .u8 5,.int .u8 63,.int .u8 55,.int .u8 48,.int .u8 27,.int .u8 60,.int .u8 41,.int .u8 37,.int .u8 16,.int .u8 46,.int .u8 35,.int .u8 44,.int .u8 21,.int .u8 52,.int .u8 32,.int .u8 23,.int .u8 11,.int .u8 54,.int .u8 26,.int .u8 40,.int .u8 15,.int .u8 34,.int .u8 20,.int .u8 31,.int .u8 10,.int .u8 25,.int .u8 14,.int .u8 19,.int .u8 9,.int .u8 13,.int .u8 8,.int .u8 7,.int .u8 6]
def interpMoves_t3:Array Value:=#[.int .u64 1,.int .u64 10,.int .u64 100,.int .u64 1000,.int .u64 10000,.int .u64 100000,.int .u64 1000000,.int .u64 10000000,.int .u64 100000000,.int .u64 1000000000,.int .u64 10000000000,.int .u64 100000000000,.int .u64 1000000000000,.int .u64 10000000000000,.int .u64 100000000000000,.int .u64 1000000000000000,.int .u64 10000000000000000,.int .u64 100000000000000000,.int .u64 1000000000000000000,.int .u64 10000000000000000000]
def interpMoves_t1:Array Value:=#[.int .u8 128,.int .u8 191,.int .u8 160,.int .u8 191,.int .u8 128,.int .u8 159,.int .u8 144,.int .u8 191,.int .u8 128,.int .u8 143,.int .u8 0,.int .u8 0,.int .u8 0,.int .u8 0,.int .u8 0,.int .u8 0,.int .u8 0,.int .u8 0,.int .u8 0,.int .u8 0,.int .u8 0,.int .u8 0,.int .u8 0,.int .u8 0,.int .u8 0,.int .u8 0,.int .u8 0,.int .u8 0,.int .u8 0,.int .u8 0,.int .u8 0,.int .u8 0]
def interpMoves_t0:Array Value:=(Go.Pinned.utf8FirstZ.map λ(z:Nat)=>Value.int .u8 (z:Int)).toArray
noncomputable def interpMoves_world (os:Os):World:={ World.holding Tryz.prog os ⟨#[],#[],[]⟩with heap:=layAt (layAt (layAt (layAt (layAt ((World.holding Tryz.prog os ⟨#[],#[],[]⟩).heap) 4 interpMoves_t4) 5 interpMoves_t5) 3 interpMoves_t3) 1 interpMoves_t1) 0 interpMoves_t0 }
theorem interpMoves_met(os:Os):laidMet Tryz.prog Rows.interpMovesUptoRow.laid ((interpMoves_world os).forCall (λ_ _=>0) ⟨#[],#[.slice none 0 0,.string ByteArray.empty,.string ByteArray.empty],[]⟩).memory:=
 laidMet_of_run' 8 (by kernel_rfl) (by kernel_rfl)
theorem interpMoves_reads0(os:Os){H:Type}(enc:TypeId × Value->H):∃places,DataW.whole enc Tryz.prog ((interpMoves_world os).forCall (λ_ _=>0) ⟨#[],#[.slice none 0 0,.string ByteArray.empty,.string ByteArray.empty],[]⟩).memory Tryz.f6.params.toList (Rows.OpenSpec.upto Rows.interpMovesSpec).vars false (#[.slice none 0 0,.string ByteArray.empty,.string ByteArray.empty]:Array Value).toList 8=some ([.nil,.lit (.string []),.lit (.string [])],[],places):=
 ⟨[],by kernel_rfl⟩
theorem interpMoves_reads:∀t∈Tryz.f6.params.toList,Tryz.prog.readableRec t=true/\t<Tryz.prog.types.size:=by
 have h:(Tryz.f6.params.toList.all λt=>Tryz.prog.readableRec t&&decide (t<Tryz.prog.types.size))=true:=by kernel_rfl
 intro t ht;simpa using List.all_eq_true.1 h t ht
theorem interpMoves_lifted(os:Os)(started:os.Started)(H:Type)(enc:TypeId × Value->H)(F:Stop.Interp) :
  ReturnsInHanded {} Tryz.checked os 6 .any ((Rows.OpenSpec.upto Rows.interpMovesSpec).preRow enc Tryz.prog Tryz.f6 Rows.interpMovesUptoRow.domain false Rows.interpMovesUptoRow.laid) (((Rows.OpenSpec.upto Rows.interpMovesSpec).at F).post enc Tryz.prog Tryz.f6 false true false false):=by
 obtain⟨places,hx⟩:=interpMoves_reads0 os enc;refine returnsInHanded_of_row (C:=Tryz.checked) (s:=Rows.OpenSpec.upto Rows.interpMovesSpec) ownNone started (by kernel_rfl) Tryz.func6
  (witness_row_at (enc:=enc) (C:=Tryz.checked) false (interpMoves_world os) #[.slice none 0 0,.string ByteArray.empty,.string ByteArray.empty] rfl (by kernel_rfl) (by kernel_rfl) (by kernel_rfl)
    (OpenSpec.preRow_of_cond 8 hx (by kernel_rfl) (λk hk=>by cases hk;kernel_rfl) (by kernel_rfl) (interpMoves_met os))) ?_
 intro W base args ds gs before hval0 hW _ hcond hwt hL _ _;have hk:Rows.uptoSmall H (ds++gs)=true:=hcond _ rfl;have hval:∀(j:Nat) t v,Tryz.f6.params[j]? = some t->args[j]? = some v->Value.okWide Tryz.prog W .any base t v:=hval0;have hW':=hW;obtain⟨p,q,hA0,hV,rfl,hfz,hnd⟩:=hW;have hA:DataW.TrodAll enc Tryz.prog W 0 (λ_=>true) true Tryz.f6.params.toList args.toList ds p:=hA0;have hA1:=hA;rw[Tryz.params6]at hA hval;obtain⟨v0,vs0,d0,ds0,p0,q0,hargs,rfl,rfl,h0,r0⟩:=trodAll_cons hA;obtain⟨v1,vs1,d1,ds1,p1,q1,rfl,rfl,rfl,h1,r1⟩:=trodAll_cons r0;obtain⟨v2,vs2,d2,ds2,p2,q2,rfl,rfl,rfl,h2,r2⟩:=trodAll_cons r1;obtain⟨rfl,rfl,rfl⟩:=trodAll_nil r2;obtain rfl:args=#[v0,v1,v2]:=by cases args;simp_all
 obtain⟨rfl,rfl⟩:=trodVars_none hV;clear hA0 hval0 hargs;have w0:WOk Tryz.prog 22 d0:=weightsEach_at hwt 0 _ _ (by kernel_rfl) rfl;obtain⟨fuel0,f0⟩:=h0;have hb0:Rows.uptoBulk d0<=1048576:=by
   have hB:Rows.uptoBulkAll _<=1048576:=of_decide_eq_true hk;simp only[Rows.uptoBulkAll,List.append_nil,List.cons_append,List.nil_append]at hB;omega
 obtain⟨s0,xs0,hc0,hr0⟩:=esB_of_trod f0 w0 hb0;obtain⟨ad0,n0,c0,rfl⟩:=okWide_slice Tryz.underlying22 (hval 0 22 v0 rfl rfl);have e0:Value.slice ad0 n0 c0=.slice s0.a xs0.length s0.c:=by simpa[Value.cells]using hc0
 rw[e0]at hA1 hW' ⊢;obtain⟨a1,rfl,rfl,rfl,hr1⟩:=open_string Tryz.underlying9 (hval 1 9 v1 rfl rfl) h1;obtain⟨a2,rfl,rfl,rfl,hr2⟩:=open_string Tryz.underlying9 (hval 2 9 v2 rfl rfl) h2;have hQ:a1.size+a2.size<=1048576:=by
   have hB:Rows.uptoBulkAll _<=1048576:=of_decide_eq_true hk;simp only[Rows.uptoBulkAll,List.append_nil,List.cons_append,List.nil_append]at hB;simp only[Rows.uptoBulk,Array.length_toList]at hB;show a1.data.size+a2.data.size<=_;omega
 refine(moves13 hr0.1 hr0.2 hQ (libq_of hL)).mono λe W' ⟨he,hg⟩=>?_
 subst he;have hB:Below W.heap.size W W':=⟨hg.os,hg.tape,hg.output,hg.size,λb hb=>hg.block b hb λh=>h⟩;have hlt:=DataW.Whole.lt hW';exact⟨_,rfl,post_of_below (pv:=[]) hW' (λ_ _ _=>(trodAll_cons_mk (shut_bool Tryz.underlying4 _) trodAll_mk0)) (λsp hsp=>trodAll_stays interpMoves_k1 hB sp interpMoves_reads hA1 (λz hz=>hlt z (by simpa using hz)) (λz hz=>hsp z (by simpa using hz))) (λ_ _=>rfl) rfl
  hB (ok_one (by kernel_rfl) rfl (okWide_bool_mk Tryz.underlying4 _))⟩
theorem interpMoves_said:Rows.InterpMovesUptoSaid:=
 OpenClaim.holds_of_cond 6 Tryz.f6 rfl rfl rfl rfl rfl rfl rfl ⟨rfl,rfl,rfl,rfl,rfl⟩ rfl rfl rfl rfl rfl (by kernel_rfl) Tryz.func6 interpMoves_join
  (of_decide_eq_true (by kernel_rfl)) (by unfold Func.isWrapper;first |(rw[if_pos (by decide +kernel)];kernel_rfl) |(rw[if_neg (by decide +kernel)];exact⟨rfl,rfl⟩))
  (λos started H enc _ F=>by rw[OpenClaim.pre_eq_preRow];exact interpMoves_lifted os started H enc F)
theorem interpMoves_plain(f:FuncId)(fn:Func)(hf:Tryz.pinned.checked.prog.funcNamed "commonplace/commonplacelaw13.InterpMoves" =some f) (hfn:Tryz.pinned.checked.prog.funcs[f]? = some fn) :
  true=Tryz.pinned.checked.prog.looks []/\∀(j:Nat) t,fn.params[j]? = some t->Tryz.pinned.checked.prog.wantsStandIn t=false:=by
 obtain rfl:f=6:=Option.some.inj ((show Tryz.prog.funcNamed "commonplace/commonplacelaw13.InterpMoves" =some 6 by kernel_rfl).symm.trans hf) |>.symm
 obtain rfl:fn=Tryz.f6:=(Option.some.inj (Tryz.func6.symm.trans hfn)).symm;refine⟨by kernel_rfl,λj t ht=>?_⟩;have hall:(Tryz.f6.params.toList.all λt=>!Tryz.prog.wantsStandIn t)=true:=by kernel_rfl
 have hm:t∈Tryz.f6.params.toList:=Array.mem_toList_iff.2 (Array.mem_of_getElem? ht);have h1:=List.all_eq_true.1 hall t hm;show Tryz.prog.wantsStandIn t=false;simpa using h1
theorem interpMoves_upto:Rows.InterpMovesUptoCardSaid:=
 Claim7.holds_tied_plain_at .later [] _ _ _ _ interpMoves_said (λ_ h=>by cases h) (by kernel_rfl) (λ_ h=>by cases h) interpMovesUpto_row_tie rfl ⟨rfl,rfl⟩ (by kernel_rfl) rfl interpMoves_plain (by kernel_rfl)
#print axioms interpMoves_upto
end Go.Proofs.YtkjkafgnnoidpaaGreatDoor
