/- The statement RebaseOnto (of what is of bulk at most 1048576), and its tied card. -/
import Derived.Test.YtahhllcdbjbpbaaGreatDoorCards
import Derived.Test.YtahhllcdbjbpbaaGreatDoorTie
import Derived.Test.YtahhllcdbjbpbaaGreatDoorPqFacts
import Derived.Test.YtahhllcdbjbpbaaGreatDoorPql
import Derived.ShutString
import Derived.Deep.DeepHandedRow
import Derived.Deep.CondSized
namespace Go.Proofs.YtahhllcdbjbpbaaGreatDoor
open Go.ChangeShapes Go.WideShapes Go.ChangeAt Go.RowKit
open Go.ChangeMaps (open_string shut_string)
set_option linter.unusedVariables false
set_option linter.unusedSimpArgs false
set_option linter.unnecessarySimpa false
set_option maxRecDepth 100000
theorem rebaseOnto_k0:(Rows.rebaseOntoUptoRow.wf (OpenSpec.ofChange Rows.rebaseOntoSpec))=true:=by kernel_rfl
theorem rebaseOnto_k1:(laidOutB Tryz.prog)=true:=by kernel_rfl
theorem rebaseOnto_k2:(mapsRowed Tryz.prog)=true:=by kernel_rfl
theorem rebaseOnto_k3:(Tryz.f3.params.all (Tryz.prog.readableRec ·))=true:=by kernel_rfl
theorem rebaseOnto_k4:(namedTie Tryz.prog Rows.rebaseOntoUptoRow.named Rows.rebaseOntoSpec.vars)=true:=by kernel_rfl
theorem rebaseOnto_k5:((Rows.rebaseOntoUptoRow.stops==[]))=true:=by kernel_rfl
theorem rebaseOnto_k6:((Tryz.prog.stops==[]))=true:=by kernel_rfl
theorem rebaseOnto_k7:((Rows.rebaseOntoUptoRow.knobs==[]))=true:=by kernel_rfl
theorem rebaseOnto_k8:((Tryz.prog.stopKnobs==[]))=true:=by kernel_rfl
theorem rebaseOnto_k9:((Rows.rebaseOntoUptoRow.inPlace==Tryz.prog.inPlace 3))=true:=by kernel_rfl
theorem rebaseOnto_k10:((Rows.rebaseOntoUptoRow.unfollowed==Tryz.prog.unfollowed 3))=true:=by kernel_rfl
theorem rebaseOnto_k11:((Rows.rebaseOntoUptoRow.recurses==Tryz.prog.recurses 3))=true:=by kernel_rfl
theorem rebaseOnto_k12:((Rows.rebaseOntoUptoRow.named==Tryz.prog.varsNamed 3))=true:=by kernel_rfl
theorem rebaseOnto_k13:((Rows.rebaseOntoUptoRow.maps ==(Tryz.f3.params.toList++Rows.rebaseOntoSpec.plain.varTypes Tryz.prog).any (Tryz.prog.mapsRec ·)))=true:=by kernel_rfl
theorem rebaseOnto_k14:((Rows.rebaseOntoUptoRow.ifaces ==(Tryz.f3.params.toList++Rows.rebaseOntoSpec.plain.varTypes Tryz.prog).any (Tryz.prog.ifacesRec ·)))=true:=by kernel_rfl
theorem rebaseOnto_k15:((Rows.rebaseOntoUptoRow.mapsOut==Tryz.prog.mapsAmong Tryz.f3.resultTypes.toList))=true:=by kernel_rfl
theorem rebaseOnto_k16:((Rows.rebaseOntoUptoRow.loops ==(Tryz.f3.params.toList++Rows.rebaseOntoSpec.plain.varTypes Tryz.prog).any (Tryz.prog.loopsFrom ·)))=true:=by kernel_rfl
theorem rebaseOnto_k17:((Rows.rebaseOntoUptoRow.wideKeys ==(Tryz.f3.params.toList++Rows.rebaseOntoSpec.plain.varTypes Tryz.prog++Tryz.f3.resultTypes.toList).any (Tryz.prog.wideKeysFrom ·)))=true:=by kernel_rfl
theorem rebaseOnto_k18:(Rows.rebaseOntoSpec.vars.all (Tryz.prog.varReadable ·))=true:=by kernel_rfl
theorem rebaseOnto_k19:(Tryz.f3.resultTypes.all (λt=>Tryz.prog.readableRec t&&decide (t<Tryz.prog.types.size)))=true:=by kernel_rfl
theorem rebaseOnto_k20:((Rows.rebaseOntoUptoRow.ifacesOut==Tryz.f3.resultTypes.toList.any (Tryz.prog.ifacesRec ·)))=true:=by kernel_rfl
theorem rebaseOnto_k21:((Rows.rebaseOntoUptoRow.loopsOut==Tryz.f3.resultTypes.toList.any (Tryz.prog.loopsFrom ·)))=true:=by kernel_rfl
theorem rebaseOnto_k22:((Rows.rebaseOntoUptoRow.plainKeys==Tryz.prog.plainKeys))=true:=by kernel_rfl
theorem rebaseOnto_k23:(Rows.rebaseOntoUptoRow.shortTexts.isNone)=true:=by kernel_rfl
theorem rebaseOnto_k24:(Tryz.prog.stopsHeard)=true:=by kernel_rfl
theorem rebaseOnto_k25:(Tryz.prog.mayEnter)=true:=mayEnter_of Tryz.prog (behindMainWord (wordsSigns initSigns)) (congrArg (λl=>behindMainWord (wordsSigns l)) initL) initStrip1 initStrip2 initLays initReflect initDoors
theorem rebaseOnto_k26:((Rows.rebaseOntoUptoRow.lifted==Tryz.prog.liftsFinal))=true:=beq_of (liftsFinal_of Tryz.prog (behindMainWord (wordsSigns initSigns)) (congrArg (λl=>behindMainWord (wordsSigns l)) initL) initStrip1 initHead)
theorem rebaseOnto_k27:((Tryz.prog.make==some Rows.rebaseOntoUptoRow.make))=true:=by rw[make_of Tryz.prog (behindMainWord (wordsSigns initSigns)) (congrArg (λl=>behindMainWord (wordsSigns l)) initL) initHead];rfl
theorem rebaseOnto_k28:((Rows.rebaseOntoUptoRow.kinds==[]))=true:=by kernel_rfl
theorem rebaseOnto_k29:((Rows.rebaseOntoUptoRow.pinned==Rows.rebaseOntoUptoRow.pinnedBy))=true:=by kernel_rfl
theorem rebaseOnto_k30:((Rows.rebaseOntoUptoRow.veiled ==(Tryz.f3.params.toList++Rows.rebaseOntoSpec.plain.varTypes Tryz.prog++Tryz.f3.resultTypes.toList).any (Tryz.prog.veiledRec ·)))=true:=by kernel_rfl
theorem rebaseOnto_k31:(Rows.rebaseOntoUptoRow.veiledFits Tryz.prog Tryz.f3.params.toList (Tryz.f3.params.toList++Rows.rebaseOntoSpec.plain.varTypes Tryz.prog++Tryz.f3.resultTypes.toList))=true:=by kernel_rfl
theorem rebaseOnto_dom:(Rows.rebaseOntoUptoRow.domain.isEmpty)=true:=by kernel_rfl
theorem rebaseOnto_join:joinedFacts Tryz.prog 3 Tryz.f3 Rows.rebaseOntoSpec Rows.rebaseOntoUptoRow=true:=
 join_of rebaseOnto_dom rebaseOnto_k0 rebaseOnto_k1 rebaseOnto_k2 rebaseOnto_k3 rebaseOnto_k4 rebaseOnto_k5 rebaseOnto_k6 rebaseOnto_k7 rebaseOnto_k8 rebaseOnto_k9 rebaseOnto_k10 rebaseOnto_k11 rebaseOnto_k12 rebaseOnto_k13 rebaseOnto_k14 rebaseOnto_k15 rebaseOnto_k16 rebaseOnto_k17 rebaseOnto_k18 rebaseOnto_k19 rebaseOnto_k20 rebaseOnto_k21 rebaseOnto_k22 rebaseOnto_k23 rebaseOnto_k24 rebaseOnto_k25 rebaseOnto_k26 rebaseOnto_k27 rebaseOnto_k28 rebaseOnto_k29 rebaseOnto_k30 rebaseOnto_k31
/-- A variable's cells, as they are laid. -/
def layAt(h:Array Obj)(i:Nat)(cs:Array Value):Array Obj:=h.modify i λ
 |.cells _ t z=>.cells cs t z
 |o=>o
def rebaseOnto_t4:Array Value:=#[.int .u8 0,.int .u8 1,.int .u8 28,.int .u8 2,.int .u8 29,.int .u8 14,.int .u8 24,.int .u8 3,.int .u8 30,.int .u8 22,.int .u8 20,.int .u8 15,.int .u8 25,.int .u8 17,.int .u8 4,.int .u8 8,.int .u8 31,.int .u8 27,.int .u8 13,.int .u8 23,.int .u8 21,.int .u8 19,.int .u8 16,.int .u8 7,.int .u8 26,.int .u8 12,.int .u8 18,.int .u8 6,.int .u8 11,.int .u8 5,.int .u8 10,.int .u8 9]
def rebaseOnto_t5:Array Value:=#[.int .u8 0,.int .u8 1,.int .u8 56,.int .u8 2,.int .u8 57,.int .u8 49,.int .u8 28,.int .u8 3,.int .u8 61,.int .u8 58,.int .u8 42,.int .u8 50,.int .u8 38,.int .u8 29,.int .u8 17,.int .u8 4,.int .u8 62,.int .u8 47,.int .u8 59,.int .u8 36,.int .u8 45,.int .u8 43,.int .u8 51,.int .u8 22,.int .u8 53,.int .u8 39,.int .u8 33,.int .u8 30,.int .u8 24,.int .u8 18,.int .u8 12,.int .u8 5,.int .u8 63,.int .u8 55,.int .u8 48,.int .u8 27,.int .u8 60,.int .u8 41,.int .u8 37,.int .u8 16,.int .u8 46,.int .u8 35,.int .u8 44,.int .u8 21,.int .u8 52,.int .u8 32,.int .u8 23,.int .u8 11,.int .u8 54,.int .u8 26,.int .u8 40,.int .u8 15,.int .u8 34,.int .u8 20,.int .u8 31,.int .u8 10,.int .u8 25,.int .u8 14,.int .u8 19,.int .u8 9,.int .u8 13,.int .u8 8,.int .u8 7,.int .u8 6]
def rebaseOnto_t3:Array Value:=#[.int .u64 1,.int .u64 10,.int .u64 100,.int .u64 1000,.int .u64 10000,.int .u64 100000,.int .u64 1000000,.int .u64 10000000,.int .u64 100000000,.int .u64 1000000000,.int .u64 10000000000,.int .u64 100000000000,.int .u64 1000000000000,.int .u64 10000000000000,.int .u64 100000000000000,.int .u64 1000000000000000,.int .u64 10000000000000000,.int .u64 100000000000000000,.int .u64 1000000000000000000,.int .u64 10000000000000000000]
def rebaseOnto_t2:Array Value:=#[.int .u8 128,.int .u8 191,.int .u8 160,.int .u8 191,.int .u8 128,.int .u8 159,.int .u8 144,.int .u8 191,.int .u8 128,.int .u8 143,.int .u8 0,.int .u8 0,.int .u8 0,.int .u8 0,.int .u8 0,.int .u8 0,.int .u8 0,.int .u8 0,.int .u8 0,.int .u8 0,.int .u8 0,.int .u8 0,.int .u8 0,.int .u8 0,.int .u8 0,.int .u8 0,.int .u8 0,.int .u8 0,.int .u8 0,.int .u8 0,.int .u8 0,.int .u8 0]
def rebaseOnto_t1:Array Value:=(Go.Pinned.utf8FirstZ.map λ(z:Nat)=>Value.int .u8 (z:Int)).toArray
noncomputable def rebaseOnto_world (os:Os):World:={ World.holding Tryz.prog os ⟨#[],#[],[]⟩with heap:=layAt (layAt (layAt (layAt (layAt ((World.holding Tryz.prog os ⟨#[],#[],[]⟩).heap) 4 rebaseOnto_t4) 5 rebaseOnto_t5) 3 rebaseOnto_t3) 2 rebaseOnto_t2) 1 rebaseOnto_t1 }
theorem rebaseOnto_met(os:Os):laidMet Tryz.prog Rows.rebaseOntoUptoRow.laid ((rebaseOnto_world os).forCall (λ_ _=>0) ⟨#[],#[.slice none 0 0,.slice none 0 0,.slice none 0 0,.int .u64 0],[]⟩).memory:=
 laidMet_of_run' 8 (by kernel_rfl) (by kernel_rfl)
theorem rebaseOnto_reads0(os:Os){H:Type}(enc:TypeId × Value->H):∃places,DataW.whole enc Tryz.prog ((rebaseOnto_world os).forCall (λ_ _=>0) ⟨#[],#[.slice none 0 0,.slice none 0 0,.slice none 0 0,.int .u64 0],[]⟩).memory Tryz.f3.params.toList (Rows.OpenSpec.upto Rows.rebaseOntoSpec).vars false (#[.slice none 0 0,.slice none 0 0,.slice none 0 0,.int .u64 0]:Array Value).toList 8=some ([.nil,.nil,.nil,.lit (.int .u64 0)],[],places):=
 ⟨[],by kernel_rfl⟩
theorem rebaseOnto_reads:∀t∈Tryz.f3.params.toList,Tryz.prog.readableRec t=true/\t<Tryz.prog.types.size:=by
 have h:(Tryz.f3.params.toList.all λt=>Tryz.prog.readableRec t&&decide (t<Tryz.prog.types.size))=true:=by kernel_rfl
 intro t ht;simpa using List.all_eq_true.1 h t ht
theorem rebaseOnto_lifted(os:Os)(started:os.Started)(H:Type)(enc:TypeId × Value->H)(F:Stop.Interp) :
  ReturnsInHanded {} Tryz.checked os 3 .any ((Rows.OpenSpec.upto Rows.rebaseOntoSpec).preRow enc Tryz.prog Tryz.f3 Rows.rebaseOntoUptoRow.domain false Rows.rebaseOntoUptoRow.laid) (((Rows.OpenSpec.upto Rows.rebaseOntoSpec).at F).post enc Tryz.prog Tryz.f3 false true false false):=by
 obtain⟨places,hx⟩:=rebaseOnto_reads0 os enc;refine returnsInHanded_of_row (C:=Tryz.checked) (s:=Rows.OpenSpec.upto Rows.rebaseOntoSpec) ownNone started (by kernel_rfl) Tryz.func3
  (witness_row_at (enc:=enc) (C:=Tryz.checked) false (rebaseOnto_world os) #[.slice none 0 0,.slice none 0 0,.slice none 0 0,.int .u64 0] rfl (by kernel_rfl) (by kernel_rfl) (by kernel_rfl)
    (OpenSpec.preRow_of_cond 8 hx (by kernel_rfl) (λk hk=>by cases hk;kernel_rfl) (by kernel_rfl) (rebaseOnto_met os))) ?_
 intro W base args ds gs before hval0 hW _ hcond hwt hL _ _;have hk:Rows.uptoSmall H (ds++gs)=true:=hcond _ rfl;have hval:∀(j:Nat) t v,Tryz.f3.params[j]? = some t->args[j]? = some v->Value.okWide Tryz.prog W .any base t v:=hval0;have hW':=hW;obtain⟨p,q,hA0,hV,rfl,hfz,hnd⟩:=hW;have hA:DataW.TrodAll enc Tryz.prog W 0 (λ_=>true) true Tryz.f3.params.toList args.toList ds p:=hA0;have hA1:=hA;rw[Tryz.params3]at hA hval;obtain⟨v0,vs0,d0,ds0,p0,q0,hargs,rfl,rfl,h0,r0⟩:=trodAll_cons hA;obtain⟨v1,vs1,d1,ds1,p1,q1,rfl,rfl,rfl,h1,r1⟩:=trodAll_cons r0;obtain⟨v2,vs2,d2,ds2,p2,q2,rfl,rfl,rfl,h2,r2⟩:=trodAll_cons r1;obtain⟨v3,vs3,d3,ds3,p3,q3,rfl,rfl,rfl,h3,r3⟩:=trodAll_cons r2;obtain⟨rfl,rfl,rfl⟩:=trodAll_nil r3;obtain rfl:args=#[v0,v1,v2,v3]:=by cases args;simp_all
 obtain⟨rfl,rfl⟩:=trodVars_none hV;clear hA0 hval0 hargs;have w0:WOk Tryz.prog 22 d0:=weightsEach_at hwt 0 _ _ (by kernel_rfl) rfl;obtain⟨fuel0,f0⟩:=h0;have hb0:Rows.uptoBulk d0<=1048576:=by
   have hB:Rows.uptoBulkAll _<=1048576:=of_decide_eq_true hk;simp only[Rows.uptoBulkAll,List.append_nil,List.cons_append,List.nil_append]at hB;omega
 obtain⟨s0,xs0,hc0,hr0⟩:=esB_of_trod f0 w0 hb0;obtain⟨ad0,n0,c0,rfl⟩:=okWide_slice Tryz.underlying22 (hval 0 22 v0 rfl rfl);have e0:Value.slice ad0 n0 c0=.slice s0.a xs0.length s0.c:=by simpa[Value.cells]using hc0
 rw[e0]at hA1 hW' ⊢;have w1:WOk Tryz.prog 22 d1:=weightsEach_at hwt 1 _ _ (by kernel_rfl) rfl;obtain⟨fuel1,f1⟩:=h1;have hb1:Rows.uptoBulk d1<=1048576:=by
   have hB:Rows.uptoBulkAll _<=1048576:=of_decide_eq_true hk;simp only[Rows.uptoBulkAll,List.append_nil,List.cons_append,List.nil_append]at hB;omega
 obtain⟨s1,xs1,hc1,hr1⟩:=esB_of_trod f1 w1 hb1;obtain⟨ad1,n1,c1,rfl⟩:=okWide_slice Tryz.underlying22 (hval 1 22 v1 rfl rfl);have e1:Value.slice ad1 n1 c1=.slice s1.a xs1.length s1.c:=by simpa[Value.cells]using hc1
 rw[e1]at hA1 hW' ⊢;have w2:WOk Tryz.prog 23 d2:=weightsEach_at hwt 2 _ _ (by kernel_rfl) rfl;obtain⟨fuel2,f2⟩:=h2;have hb2:Rows.uptoBulk d2<=1048576:=by
   have hB:Rows.uptoBulkAll _<=1048576:=of_decide_eq_true hk;simp only[Rows.uptoBulkAll,List.append_nil,List.cons_append,List.nil_append]at hB;omega
 obtain⟨s2,xs2,hc2,hr2⟩:=nums_of_trod f2 w2;obtain⟨ad2,n2,c2,rfl⟩:=okWide_slice Tryz.underlying23 (hval 2 23 v2 rfl rfl);have e2:Value.slice ad2 n2 c2=.slice s2.a xs2.length s2.c:=by simpa[Value.cells]using hc2
 rw[e2]at hA1 hW' ⊢;obtain⟨a3,rfl,rfl,rfl,hr3⟩:=open_int Tryz.underlying24 (hval 3 24 v3 rfl rfl) h3;refine(ontoL hr0.1 hr0.2 hr1.1 hr1.2 hr2.1 (Nat.le_trans hr2.2 hb2) hr3 (libq_of hL)).mono λe W' ⟨he,hg⟩=>?_
 subst he;have hB:Below W.heap.size W W':=⟨hg.os,hg.tape,hg.output,hg.size,λb hb=>hg.block b hb λh=>h⟩;have hlt:=DataW.Whole.lt hW';exact⟨_,rfl,post_of_below (pv:=[]) hW' (λ_ _ _=>(trodAll_cons_mk (shut_bool Tryz.underlying4 _) trodAll_mk0)) (λsp hsp=>trodAll_stays rebaseOnto_k1 hB sp rebaseOnto_reads hA1 (λz hz=>hlt z (by simpa using hz)) (λz hz=>hsp z (by simpa using hz))) (λ_ _=>rfl) rfl
  hB (ok_one (by kernel_rfl) rfl (okWide_bool_mk Tryz.underlying4 _))⟩
theorem rebaseOnto_said:Rows.RebaseOntoUptoSaid:=
 OpenClaim.holds_of_cond 3 Tryz.f3 rfl rfl rfl rfl rfl rfl rfl ⟨rfl,rfl,rfl,rfl,rfl⟩ rfl rfl rfl rfl rfl (by kernel_rfl) Tryz.func3 rebaseOnto_join
  (of_decide_eq_true (by kernel_rfl)) (by unfold Func.isWrapper;first |(rw[if_pos (by decide +kernel)];kernel_rfl) |(rw[if_neg (by decide +kernel)];exact⟨rfl,rfl⟩))
  (λos started H enc _ F=>by rw[OpenClaim.pre_eq_preRow];exact rebaseOnto_lifted os started H enc F)
theorem rebaseOnto_plain(f:FuncId)(fn:Func)(hf:Tryz.pinned.checked.prog.funcNamed "commonplace/commonplacelaw24.RebaseOnto" =some f) (hfn:Tryz.pinned.checked.prog.funcs[f]? = some fn) :
  true=Tryz.pinned.checked.prog.looks []/\∀(j:Nat) t,fn.params[j]? = some t->Tryz.pinned.checked.prog.wantsStandIn t=false:=by
 obtain rfl:f=3:=Option.some.inj ((show Tryz.prog.funcNamed "commonplace/commonplacelaw24.RebaseOnto" =some 3 by kernel_rfl).symm.trans hf) |>.symm
 obtain rfl:fn=Tryz.f3:=(Option.some.inj (Tryz.func3.symm.trans hfn)).symm;refine⟨by kernel_rfl,λj t ht=>?_⟩;have hall:(Tryz.f3.params.toList.all λt=>!Tryz.prog.wantsStandIn t)=true:=by kernel_rfl
 have hm:t∈Tryz.f3.params.toList:=Array.mem_toList_iff.2 (Array.mem_of_getElem? ht);have h1:=List.all_eq_true.1 hall t hm;show Tryz.prog.wantsStandIn t=false;simpa using h1
theorem rebaseOnto_upto:Rows.RebaseOntoUptoCardSaid:=
 Claim7.holds_tied_plain_at .later [] _ _ _ _ rebaseOnto_said (λ_ h=>by cases h) (by kernel_rfl) (λ_ h=>by cases h) rebaseOntoUpto_row_tie rfl ⟨rfl,rfl⟩ (by kernel_rfl) rfl rebaseOnto_plain (by kernel_rfl)
#print axioms rebaseOnto_upto
end Go.Proofs.YtahhllcdbjbpbaaGreatDoor
