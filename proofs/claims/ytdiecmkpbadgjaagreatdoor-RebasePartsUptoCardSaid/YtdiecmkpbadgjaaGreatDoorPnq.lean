/- What the theorem needs of the texts Cod24, PartsP: no condition of its own. -/
import Derived.Test.YtdiecmkpbadgjaaGreatDoorPno
set_option linter.unusedVariables false
set_option linter.unusedSimpArgs false
set_option linter.unnecessarySimpa false
set_option maxRecDepth 100000
namespace Go.Proofs.YtdiecmkpbadgjaaGreatDoor
open Go.Proofs.Tryz
open Go.RowKit Go.Maps Go.Shelf
variable{w:World}{F G:Nat->Prop}{T:RT}{s:Sl}
theorem QwL{l:List Nm}(h:Qey w F G T s l)(hl:l.length<=1000) :
  Calls prog 20 #[Qao T,.slice s.a l.length s.c] w λe w'=>∃sc:Sl,e=.returned (.slice sc.a l.length sc.c)/\w'.ownsRow w.heap.size 71 1 (.slice sc.a l.length sc.c) l.length ((QbD (Qe6 l) (Qaa T)).1.map (.int .i64))/\Nw w w':=by
 obtain⟨p,hp⟩:=Qaj T;obtain⟨N,I⟩:∃c,(QbD (Qe6 l) (Qaa T)).1=c:=⟨_,rfl⟩;have a1:N.length=l.length:=by
  have:=QgA (Qe6 l) (Qaa T) l.length (by rw[aq];exact ao _);rwa[aO (by rw[aq];exact ao _),I]at this
 obtain⟨i0,hi,b6,c2,b7⟩:=eE Tryz.QjL;have c4:∀W,(Instr.makeSlice 58 (.int .i64 0) (.int .i64 (l.length:Int))).run prog W=.ok (.slice (some ⟨W,0,none⟩) 0 l.length) (W.alloc (.cells (madeCells (Value.int .i64 0).cells (l.length*i0.size)) 71)):=λW=>QbG (P:=prog) 58 71 i0 _ underlying58 hi b6 .i64 .i64 0 l.length (aA _) (by rw[b7];omega) oM W
 obtain⟨a0,HF,HG⟩:=Yc (λW (hW:Ext w W) B D0 (hB:w.heap.size+1<=B) h0 hD=>Qkp (h.ext (fJ hW)) (Qoe (n:=w+1) (B:=B) (by rw[I,a1];exact hl) hB) (D0:=D0) h0 hD) h.old h.rowOld;have c0:=h.lib.lib.big;rw[Qao,hp,I]at a0;rw[Qao,hp];obtain⟨b9,b4⟩:=Yb a1 I;clear hp h I a1;go_in;go_upto_region 2 with fail;generalize a4:World.alloc _ _=W3;obtain⟨a2,c1,a6,a7,b0⟩:=Qal w _ _ _ _ _ _ W3 a4;have a5:QlL (w.heap.size+1) (w.heap.size+1+1) N 0 (λb=>b=w.heap.size+1+1\/some (w.heap.size+1)=some b) W3:=
  ⟨⟨some ⟨w+1,0,none⟩,l.length⟩,b0,⟨sM,.inr ⟨w+1,l.length,_,rfl,ao _,a7,aA _,by unfold maxLen;omega,by rw [fm,dd],sM⟩⟩,fun e=>by
    have e:some (w.heap.size+1)=some (w.heap.size+1+1):=e;injection e with e;omega,λb=>Iff.rfl⟩
 have HC:=hY (a0.o W3 a2 (w.heap.size+1+1) _ oM a5 λb hb=>by
  have c3:w<=b:=by
   rcases hb with hb|hb
   .omega
   injection hb with hb;omega
  exact⟨oM,λe=>by have:=(HF.o b e).2;omega,λe=>by have:=HG.o b e;omega⟩)
 have q0:W3.cell? ⟨w,0,none⟩=some (.pointer p):=a6.cell 0;have b5:=hY a2;clear a4 a2 a6 a7 b0 a5;go_wp2_with fail;refine HC.o.mono ?_;rintro e w4 ⟨T',D,rfl,-,-,-,-,hS,a9,-,-⟩;obtain⟨p',a8⟩:=Qaj T';rw[Qao,a8];obtain⟨sc,a3,Z,-,-⟩:=hS;have q4:w4.cell? ⟨w+1+1,0,none⟩=some (.slice sc.a l.length sc.c):=a3.cell 0;obtain⟨b3,b8⟩:=Yb Z a9;clear a3 Z a9 q0 a8;go_wp2_with fail;go_ret;refine⟨sc,rfl,?_,(fJ b5.o).comp b8.o λi hi e=>?_⟩
 ·have h:=b3.o
  rw[aO (by rw[b9.o];exact ao _)]at h;rw[b4.o];exact QiO h oM
 rcases e with e|e
 .omega
 injection e with e;omega
theorem Qyb(l:List Mu):∀(c:List Int) (M:List Ent),l.foldl (λp m=>(p.1++[(runM p.2 m).1],(runM p.2 m).2)) (c,M)=(c++(QbD l M).1,(QbD l M).2):=by
 induction l with
 |nil=>intro c M;simp[QbD]
 | cons m r ih=>
   intro c M;unfold QbD;rw[cS,cS,ih,ih ([]++_)];simp
theorem Qxd(a b:List Mu)(M:List Ent):QbD (a++b) M=((QbD a M).1++(QbD b (QbD a M).2).1,(QbD b (QbD a M).2).2):=by
 have h:=Qyb b (QbD a M).1 (QbD a M).2;rw[<-h];show List.foldl _ _ (a++b)=_;rw[dw];rfl
theorem Qwy:∀(l:List Mu) (k:Nat),Qcc (l.take k)<=Qcc l
 |[],k=>sM
 |m::r,0=>by simp[Qcc]
 |m::r,k+1=>by have:=Qwy r k;simp only[List.take_succ_cons,Qcc];omega
theorem Qw0:∀(l:List Mu) (k:Nat),Qcc (l.drop k)<=Qcc l
 |[],k=>sM
 |m::r,0=>ao _
 |m::r,k+1=>by have:=Qw0 r k;simp only[List.drop_succ_cons,Qcc];omega
theorem Qa7.take{l:List Nm}(h:Qa7 w F s l){k:Nat}(hk:k<=l.length):Qa7 w F s (l.take k):=by
 obtain⟨b,o,c,hs,a0,hr⟩:=h.ex;have Z:=h.len;have N:(l.take k).length=k:=by rw[av];omega
 refine⟨⟨b,o,c,?_,λj n I=>?_,λj n I=>?_⟩,λn hn=>h.wf n (ba hn),by rw[N];exact an (bR 272 hk) Z⟩
 ·rw [N]
  generalize l.length=n at hs hk;cases hs with
  | nil=>
    obtain rfl:k=0:=oM
    exact .nil _ _
  |some _ cc _ _ h1 h2 h3=>exact .some _ _ _ _ oM h2 h3
  | zero a=>
    obtain rfl:k=0:=oM
    exact .zero _ _ _
 .exact a0 j n (by rw[be]at I;split at I<;>simp_all)
 exact hr j n (by rw[be]at I;split at I<;>simp_all)
theorem Qa7.caps{l:List Nm}(h:Qa7 w F s l){k:Nat}(I:k<=l.length):k<=s.c:=by
 obtain⟨b,o,c,hs,-,-⟩:=h.ex;generalize l.length=n at hs I;cases hs with
 |nil=>omega
 |some _ cc _ _ h1 h2 h3=>exact an I h1
 |zero a=>omega
variable{a:Act}{K:Act->World->Prop}{Q:Exit->Act->World->Prop}
theorem Qx7{o:Oper}(s x:Operand)(ho:o.op=.call { callee:=.builtin .append,args:=#[s,x],argTypes:=#[58,58] })(d:Option Tmp)(hd:o.dst=d)
  (base a0:Nat) (Z sd:Sl) (n m:Nat) (xs ys:List Value) (hs:a.eval s=.slice Z.a n Z.c) (hx:a.eval x=.slice sd.a m sd.c) (I:w.ownsRow base 71 1 (.slice Z.a n Z.c) n xs) (N:w.ownsRow a0 71 1 (.slice sd.a m sd.c) m ys)
  (hn:n+m<=1000) (a1:base<=w.heap.size) (h1:∀u∈ys,u.oneCell'=true)
  (h:∀(sv:Sl) w',w'.ownsRow base 71 1 (.slice sv.a (n+m) sv.c) (n+m) (xs++ys)->w.grownBy w' (Value.slice Z.a n Z.c).ownBlock->K (a.put d (.slice sv.a (n+m) sv.c)) w'):o.wp prog a w K Q:=by
 subst hd;obtain⟨i0,hi,a5,a7,a6⟩:=eE Tryz.QjL;have b3:=N.1;rcases N.2 with⟨hv,hm⟩ |⟨g,b0,a4,hv,hb,hg,b4,b5,b6,a8⟩
 ·subst hm
  injection hv with hva _ hvc;rw[hva,hvc]at hx;obtain rfl:ys=[]:=ar oM;have a3:=run_append_owned_none (P:=prog) (w:=w) base 58 o.type 71 i0 1 underlying58 hi _ n xs I;unfold Oper.wp;simp[execOp,ho,resolve,invoke,builtin,hs,hx,a3,Result.andThen];have:=h Z w (by simpa using I) (World.grownBy.refl _ _);rw[bX]at this;exact this
 injection hv with hva _ hvc;rw[hva]at hx;refine wp_append_own w s x 58 ho base 71 i0 _ 1 8 underlying58 hi a5 a7 a6 rfl oN _ n xs hs I _ m _ ys hx oM (λj u hu=>?_) h1 (by unfold maxLen;omega) oM a1 λv' w' h2 h3 h4=>?_
 ·rw [←a8] at hu
  rw[be]at hu;split at hu
  ·rw [Qbc,aD,Blk.cell (show Blk w g 71 a4 from hg),←bJ]
   exact hu
  cases hu
 rcases h2.2 with⟨rfl,h0⟩ |⟨g',a2,a9,rfl,-⟩
 ·have h5:=h Sl.none w'
  rw[h0]at h5 h2;exact h5 h2 h3
 exact h ⟨some ⟨g',0,none⟩,a2⟩ w' h2 h3
end Go.Proofs.YtdiecmkpbadgjaaGreatDoor
