/- The closed facts of the program's making, and how a row's closed facts are joined; no condition. -/
import Derived.Test.YtahhllcdbjbpbaaGreatDoorRows
import Derived.ProofKit
import Derived.OpenShut
import Derived.Test.YtahhllcdbjbpbaaGreatDoorPqa
namespace Go.Proofs.YtahhllcdbjbpbaaGreatDoor
open Go.ChangeShapes Go.WideShapes Go.ChangeAt Go.RowKit
set_option linter.unusedVariables false
set_option linter.unusedSimpArgs false
set_option maxRecDepth 100000
def initSigns:List Char:=([104,97,114,110,101,115,115,32,50,102,102,50,97,50,102,99,99,54,50,97,102,54,48,102,55,49,53,100,99,97,49,98,50,57,52,49,99,49,56,50,55,98,53,101,53,51,100,49,101,51,51,99,49,53,97,56,52,54,53,100,55,101,97,48,53,101,97,54,48,99,50,54,32,99,117,116,32,97,116,32,99,111,109,109,111,110,112,108,97,99,101,47,99,111,109,109,111,110,112,108,97,99,101,108,97,119,50,52,46,82,101,98,97,115,101,79,110,116,111]:List Nat).map Char.ofNat
theorem initO:Tryz.prog.initOrder=String.ofList initSigns:=by kernel_rfl
theorem initL:Tryz.prog.initOrder.toList=initSigns:=by rw[initO,String.toList_ofList]
theorem initLays:Tryz.prog.laysLater=false:=by kernel_rfl
theorem initReflect:Tryz.prog.bearsReflect=false:=by kernel_rfl
theorem initDoors:Tryz.prog.doorFits []=true:=by kernel_rfl
theorem initStrip1:(stripLifts liftWords (behindMainWord (wordsSigns initSigns))).1=[]:=by kernel_rfl
theorem initStrip2:((stripLifts liftWords (behindMainWord (wordsSigns initSigns))).2.head?==some "cut".toList)=true:=by kernel_rfl
theorem mayEnter_of(P:Program)(W:List (List Char))(hW:behindMainWord (wordsSigns P.initOrder.toList)=W)(h1:(stripLifts liftWords W).1=[])(h2:((stripLifts liftWords W).2.head?==some "cut".toList)=true)
  (h3:P.laysLater=false) (h4:P.bearsReflect=false) (h5:P.doorFits []=true):P.mayEnter=true:=by
 unfold Program.mayEnter;rw[hW];cases W with
 |nil=>simp[stripLifts,liftWords]at h2
 | cons c rest=>
   simp only[h1,h2,h3,h4,h5];simp
theorem initHead:((behindMainWord (wordsSigns initSigns)).head?==some "cut".toList)=true:=by kernel_rfl
theorem headLifts_of(P:Program)(W:List (List Char))(hW:behindMainWord (wordsSigns P.initOrder.toList)=W)(h1:(stripLifts liftWords W).1=[]):P.headLifts=[]:=by
 unfold Program.headLifts;rw[hW];simp only[h1];split<;>rfl
theorem liftsFinal_of(P:Program)(W:List (List Char))(hW:behindMainWord (wordsSigns P.initOrder.toList)=W)(h1:(stripLifts liftWords W).1=[])(h2:(W.head?==some "cut".toList)=true):P.liftsFinal=false:=by
 unfold Program.liftsFinal;rw[headLifts_of P W hW h1,hW];have e:=eq_of_beq h2;simp only[e];have:(some "cut".toList==some "carried".toList)=false:=by decide
 simp[this]
theorem make_of(P:Program)(W:List (List Char))(hW:behindMainWord (wordsSigns P.initOrder.toList)=W)(h2:(W.head?==some "cut".toList)=true):P.make=some .cut:=by
 unfold Program.make;rw[hW];have e:=eq_of_beq h2;cases W with
 |nil=>cases e
 | cons c rest=>
   simp only[List.head?_cons,Option.some.injEq]at e;subst e;have h1:("cut".toList == "gc".toList)=false:=by decide
   have h2:("cut".toList == "spec".toList)=false:=by decide
   have h3:("cut".toList == "cut".toList)=true:=by decide
   simp[h1,h2,h3]
theorem beq_of{a:Bool}(h:a=false):(false==a)=true:=by rw[h];rfl
theorem and_both{a b:Bool}(ha:a=true)(hb:b=true):(a&&b)=true:=by rw[ha,hb];rfl
theorem join_of{P:Program}{f:FuncId}{fn:Func}{s:ChangeSpec}{c:OpenClaim}(hdom:c.domain.isEmpty=true)
  (k0:(c.wf (OpenSpec.ofChange s))=true)
  (k1:(laidOutB P)=true)
  (k2:(mapsRowed P)=true)
  (k3:(fn.params.all (P.readableRec ·))=true)
  (k4:(namedTie P c.named s.vars)=true)
  (k5:((c.stops==[]))=true)
  (k6:((P.stops==[]))=true)
  (k7:((c.knobs==[]))=true)
  (k8:((P.stopKnobs==[]))=true)
  (k9:((c.inPlace==P.inPlace f))=true)
  (k10:((c.unfollowed==P.unfollowed f))=true)
  (k11:((c.recurses==P.recurses f))=true)
  (k12:((c.named==P.varsNamed f))=true)
  (k13:((c.maps ==(fn.params.toList++s.plain.varTypes P).any (P.mapsRec ·)))=true)
  (k14:((c.ifaces ==(fn.params.toList++s.plain.varTypes P).any (P.ifacesRec ·)))=true)
  (k15:((c.mapsOut==P.mapsAmong fn.resultTypes.toList))=true)
  (k16:((c.loops ==(fn.params.toList++s.plain.varTypes P).any (P.loopsFrom ·)))=true)
  (k17:((c.wideKeys ==(fn.params.toList++s.plain.varTypes P++fn.resultTypes.toList).any (P.wideKeysFrom ·)))=true)
  (k18:(s.vars.all (P.varReadable ·))=true)
  (k19:(fn.resultTypes.all (λt=>P.readableRec t&&decide (t<P.types.size)))=true)
  (k20:((c.ifacesOut==fn.resultTypes.toList.any (P.ifacesRec ·)))=true)
  (k21:((c.loopsOut==fn.resultTypes.toList.any (P.loopsFrom ·)))=true)
  (k22:((c.plainKeys==P.plainKeys))=true)
  (k23:(c.shortTexts.isNone)=true)
  (k24:(P.stopsHeard)=true)
  (k25:(P.mayEnter)=true)
  (k26:((c.lifted==P.liftsFinal))=true)
  (k27:((P.make==some c.make))=true)
  (k28:((c.kinds==[]))=true)
  (k29:((c.pinned==c.pinnedBy))=true)
  (k30:((c.veiled ==(fn.params.toList++s.plain.varTypes P++fn.resultTypes.toList).any (P.veiledRec ·)))=true)
  (k31:(c.veiledFits P fn.params.toList (fn.params.toList++s.plain.varTypes P++fn.resultTypes.toList))=true)
  :joinedFacts P f fn s c=true:=by
 simp only[joinedFacts,hdom,if_true,k0,k1,k2,k3,k4,k5,k6,k7,k8,k9,k10,k11,k12,k13,k14,k15,k16,k17,k18,k19,k20,k21,k22,k23,k24,k25,k26,k27,k28,k29,k30,k31,Bool.and_true]
theorem Ext.froze{w w':World}(h:Ext w w'):∀a,w'.frozen? a=w.frozen? a:=λa=>by
 have e:∀W:World,W.frozen? a=W.frozen? ⟨a.block,a.off,none⟩:=λW=>rfl
 rw[e,e];by_cases hl:a.block<w.heap.size
 .exact h.frozen hl
 rw[h.free _ _ (by omega),frozen_none (by omega)]
theorem post_of_below{P:Program}{H:Type}{enc:TypeId × Value->H}{f:Func}{s:ChangeSpec}{apart fresh handsOn again:Bool}{W W':World}{args:Array Value}{v:Value}{ds gs:List (DataW H)}{before pa pv:List MemPlace}
  (hW:DataW.Whole enc P f.params.toList s.vars apart W args.toList ds gs before)
  (hres:∀(b:Nat) (sp:Nat->Bool) (hd:Bool),DataW.TrodAll enc P W' b sp hd f.resultTypes.toList (v.resultList f.resultTypes.size) (s.fn H (ds++gs)).results [])
  (hargs:∀sp:Nat->Bool,(∀p∈before,sp p.block=true)->DataW.TrodAll enc P W' 0 sp true f.params.toList args.toList (s.fn H (ds++gs)).args pa)
  (hvars:∀sp:Nat->Bool,(∀p∈before,sp p.block=true)->DataW.TrodVars enc P W' sp s.vars (s.fn H (ds++gs)).vars pv)
  (hps:before=pa++pv) (hx:Below W.heap.size W W')
  (hok:∀(j:Nat) (t:TypeId) (r:Value),f.resultTypes[j]? = some t->(v.resultList f.resultTypes.size)[j]? = some r->Value.okWide P W' .any 0 t r) :
  s.post enc P f apart fresh handsOn again W args v W':=by
 have hlt:∀p∈before,p.block<W.heap.size:=λp hp=>hW.lt p hp
 have hsp:∀p∈before,(λb=>decide (b<W.heap.size)) p.block=true:=λp hp=>decide_eq_true (hlt p hp)
 have hall:∀p∈before,(λ_:Nat=>true) p.block=true:=λ_ _=>rfl
 have hin:∀p,p∈([]++pa)++pv->p∈before:=λp hp=>by rw[hps];simpa using hp
 refine⟨ds,gs,before,[],pa,pv,hW,hres _ _ _,hargs _ hsp,hvars _ hsp,World.keptBut_mono (λp hp=>⟨hp,Or.inr (by rw[hps]at hp;simpa using hp)⟩) (hx.frame (·∈before)),λ_=>?_⟩;have hz:=hW.choose_spec.choose_spec.2.2.2.1;have hn:=hW.choose_spec.choose_spec.2.2.2.2;refine⟨hok,_,_,([]++pa)++pv,⟨[]++pa,pv,trodAll_append (hargs _ hall) (hres _ _ _),hvars _ hall,rfl,λb off hp=>?_,λha=>?_⟩,λp hp _=>by rw[hps];simpa using hp⟩
 .exact (hx.frozen (p:=⟨b,off,none⟩) (hlt _ (hin _ hp))).trans (hz b off (hin _ hp))
 simpa[hps]using hn ha
theorem ownNone:ownKnob Tryz.prog.godebug=none:=by kernel_rfl
end Go.Proofs.YtahhllcdbjbpbaaGreatDoor
