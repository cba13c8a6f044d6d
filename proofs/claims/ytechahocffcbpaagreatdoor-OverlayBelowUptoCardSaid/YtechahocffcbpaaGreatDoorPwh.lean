/- What the theorem needs of the texts At01, Val01, Bare02: no condition of its own. -/
import Derived.Laws.IdiomStrings
import Derived.WalkArith
import Derived.Test.YtechahocffcbpaaGreatDoorPwa
import Derived.Test.YtechahocffcbpaaGreatDoorPwb
import Derived.Test.YtechahocffcbpaaGreatDoorPwc
import Derived.Test.YtechahocffcbpaaGreatDoorPwd
import Derived.Test.YtechahocffcbpaaGreatDoorPwe
import Derived.Test.YtechahocffcbpaaGreatDoorPwf
import Derived.Test.YtechahocffcbpaaGreatDoorPwg
set_option maxRecDepth 100000
set_option maxHeartbeats 2000000
namespace Go.Proofs.YtechahocffcbpaaGreatDoor
open Go.RowKit Go.Maps Go.Shelf
set_option linter.unusedVariables false
set_option linter.unusedSimpArgs false
def runA (s:ByteArray) (i:Nat):Nat→Nat→Nat→Option Nat
 | 0,_,r=>some r
 | m+1,j,r=>if (s.get! (i+j)).toNat<128∨192≤(s.get! (i+j)).toNat then none else runA s i m (j+1) (64*r+(s.get! (i+j)).toNat - 128)
def endA (n least:Nat) (r:Option Nat):Nat × Nat:=match r with
 | none=>(0,0)
 | some r=>if r<least∨1114111<r∨(55296≤r∧r<57344) then (0,0) else (r,n)
def lateA (s:ByteArray) (i n base least:Nat):Nat × Nat:=if s.size<i+n then (0,0) else endA n least (runA s i (n - 1) 1 ((s.get! i).toNat - base))
def refA (s:ByteArray) (i:Nat):Nat × Nat:=
 if s.size≤i then (0,0) else if (s.get! i).toNat<128 then ((s.get! i).toNat,1)
 else if 192≤(s.get! i).toNat∧(s.get! i).toNat<224 then lateA s i 2 192 128
 else if 224≤(s.get! i).toNat∧(s.get! i).toNat<240 then lateA s i 3 224 2048
 else if 240≤(s.get! i).toNat∧(s.get! i).toNat<248 then lateA s i 4 240 65536 else (0,0)
theorem byte_lt (b:UInt8):b.toNat<256:=b.toNat_lt
theorem fin_bad:(if ((65533,1):Nat × Nat)=(65533,1) then ((0,0):Nat × Nat) else (65533,1))=(0,0):=if_pos rfl
theorem fin_ok {v m:Nat} (h:m≠1):(if ((v,m):Nat × Nat)=(65533,1) then ((0,0):Nat × Nat) else (v,m))=(v,m):=if_neg (by intro e;injection e with _ e;exact h e)
theorem dec2 (n b0 b1 b2 b3:Nat) (h0:192≤b0∧b0<224) (h1:b1<256):Lib.decodeN n b0 b1 b2 b3=if n<2∨(b1<128∨192≤b1)∨64*(b0 - 192)+b1 - 128<128 then (65533,1) else (64*(b0 - 192)+b1 - 128,2):=by
 unfold Lib.decodeN
 repeat' split
 all_goals first | (exfalso;omega) | (rw [Prod.mk.injEq];omega)
theorem dec3 (n b0 b1 b2 b3:Nat) (h0:224≤b0∧b0<240) (h1:b1<256) (h2:b2<256):Lib.decodeN n b0 b1 b2 b3=if n<3∨(b1<128∨192≤b1)∨(b2<128∨192≤b2)∨(64*(64*(b0 - 224)+b1 - 128)+b2 - 128<2048∨(55296≤64*(64*(b0 - 224)+b1 - 128)+b2 - 128∧64*(64*(b0 - 224)+b1 - 128)+b2 - 128<57344)) then (65533,1) else (64*(64*(b0 - 224)+b1 - 128)+b2 - 128,3):=by
 unfold Lib.decodeN
 repeat' split
 all_goals first | (exfalso;omega) | (rw [Prod.mk.injEq];omega)
theorem dec4 (n b0 b1 b2 b3:Nat) (h0:240≤b0∧b0<248) (h1:b1<256) (h2:b2<256) (h3:b3<256):Lib.decodeN n b0 b1 b2 b3=if n<4∨(b1<128∨192≤b1)∨(b2<128∨192≤b2)∨(b3<128∨192≤b3)∨(64*(64*(64*(b0 - 240)+b1 - 128)+b2 - 128)+b3 - 128<65536∨1114111<64*(64*(64*(b0 - 240)+b1 - 128)+b2 - 128)+b3 - 128) then (65533,1) else (64*(64*(64*(b0 - 240)+b1 - 128)+b2 - 128)+b3 - 128,4):=by
 unfold Lib.decodeN
 repeat' split
 all_goals first | (exfalso;omega) | (rw [Prod.mk.injEq];omega)
theorem dec0 (n b0 b1 b2 b3:Nat) (h0:128≤b0) (h2:¬(192≤b0∧b0<224)) (h3:¬(224≤b0∧b0<240)) (h4:¬(240≤b0∧b0<248)):Lib.decodeN n b0 b1 b2 b3=(65533,1):=by
 unfold Lib.decodeN
 repeat' split
 all_goals first | (exfalso;omega) | (rw [Prod.mk.injEq];omega)
/-- The document's decoder is the model's. -/
theorem refA_eq (s:ByteArray) (i:Nat):refA s i=if s.size≤i∨Utf8.decode s i=(65533,1) then (0,0) else Utf8.decode s i:=by
 unfold refA
 by_cases hi:s.size≤i
 ·rw [if_pos hi,if_pos (.inl hi)]
 rw [if_neg hi]
 simp only [hi,false_or]
 rw [Lib.decode_at]
 unfold lateA endA
 have e1:∀ m j r,runA s i (m+1) j r=if (s.get! (i+j)).toNat<128∨192≤(s.get! (i+j)).toNat then none else runA s i m (j+1) (64*r+(s.get! (i+j)).toNat - 128):=fun _ _ _=>rfl
 have e0:∀ j r,runA s i 0 j r=some r:=fun _ _=>rfl
 have h0:=byte_lt (s.get! i)
 have h1:=byte_lt (s.get! (i+1))
 have h2:=byte_lt (s.get! (i+2))
 have h3:=byte_lt (s.get! (i+3))
 simp only [Nat.reduceSub,e1,e0,Nat.reduceAdd]
 generalize (s.get! i).toNat=b0 at *
 generalize (s.get! (i+1)).toNat=b1 at *
 generalize (s.get! (i+2)).toNat=b2 at *
 generalize (s.get! (i+3)).toNat=b3 at *
 generalize hn:s.size - i=n
 have hc2:(s.size<i+2)=(n<2):=propext ⟨fun h=>by omega,fun h=>by omega⟩
 have hc3:(s.size<i+3)=(n<3):=propext ⟨fun h=>by omega,fun h=>by omega⟩
 have hc4:(s.size<i+4)=(n<4):=propext ⟨fun h=>by omega,fun h=>by omega⟩
 simp only [hc2,hc3,hc4]
 clear hc2 hc3 hc4 e1 e0 hn hi
 by_cases c1:b0<128
 ·rw [if_pos c1,Lib.decodeN_ascii n b0 b1 b2 b3 c1,if_neg (by intro e;injection e with e;omega)]
 rw [if_neg c1]
 by_cases c2:192≤b0∧b0<224
 ·rw [if_pos c2]
  have hd:=dec2 n b0 b1 b2 b3 c2 h1
  by_cases q1:n<2
  ·rw [if_pos (.inl q1)] at hd
   rw [if_pos q1,hd,fin_bad]
  by_cases q2:b1<128∨192≤b1
  ·rw [if_pos (.inr (.inl q2))] at hd
   rw [if_neg q1,if_pos q2,hd,fin_bad]
  by_cases q3:64*(b0 - 192)+b1 - 128<128
  ·rw [if_pos (.inr (.inr q3))] at hd
   rw [if_neg q1,if_neg q2,hd,fin_bad]
   show (if _ then _ else _)=_
   rw [if_pos (.inl q3)]
  rw [if_neg (by omega)] at hd
  rw [if_neg q1,if_neg q2,hd,fin_ok (by decide)]
  show (if _ then _ else _)=_
  rw [if_neg (by omega)]
 rw [if_neg c2]
 by_cases c3:224≤b0∧b0<240
 ·rw [if_pos c3]
  have hd:=dec3 n b0 b1 b2 b3 c3 h1 h2
  by_cases q1:n<3
  ·rw [if_pos (.inl q1)] at hd
   rw [if_pos q1,hd,fin_bad]
  by_cases q2:b1<128∨192≤b1
  ·rw [if_pos (.inr (.inl q2))] at hd
   rw [if_neg q1,if_pos q2,hd,fin_bad]
  by_cases q3:b2<128∨192≤b2
  ·rw [if_pos (.inr (.inr (.inl q3)))] at hd
   rw [if_neg q1,if_neg q2,if_pos q3,hd,fin_bad]
  by_cases q4:64*(64*(b0 - 224)+b1 - 128)+b2 - 128<2048∨(55296≤64*(64*(b0 - 224)+b1 - 128)+b2 - 128∧64*(64*(b0 - 224)+b1 - 128)+b2 - 128<57344)
  ·rw [if_pos (.inr (.inr (.inr q4)))] at hd
   rw [if_neg q1,if_neg q2,if_neg q3,hd,fin_bad]
   show (if _ then _ else _)=_
   rw [if_pos (by omega)]
  rw [if_neg (by omega)] at hd
  rw [if_neg q1,if_neg q2,if_neg q3,hd,fin_ok (by decide)]
  show (if _ then _ else _)=_
  rw [if_neg (by omega)]
 rw [if_neg c3]
 by_cases c4:240≤b0∧b0<248
 ·rw [if_pos c4]
  have hd:=dec4 n b0 b1 b2 b3 c4 h1 h2 h3
  by_cases q1:n<4
  ·rw [if_pos (.inl q1)] at hd
   rw [if_pos q1,hd,fin_bad]
  by_cases q2:b1<128∨192≤b1
  ·rw [if_pos (.inr (.inl q2))] at hd
   rw [if_neg q1,if_pos q2,hd,fin_bad]
  by_cases q3:b2<128∨192≤b2
  ·rw [if_pos (.inr (.inr (.inl q3)))] at hd
   rw [if_neg q1,if_neg q2,if_pos q3,hd,fin_bad]
  by_cases q5:b3<128∨192≤b3
  ·rw [if_pos (.inr (.inr (.inr (.inl q5))))] at hd
   rw [if_neg q1,if_neg q2,if_neg q3,if_pos q5,hd,fin_bad]
  by_cases q4:64*(64*(64*(b0 - 240)+b1 - 128)+b2 - 128)+b3 - 128<65536∨1114111<64*(64*(64*(b0 - 240)+b1 - 128)+b2 - 128)+b3 - 128
  ·rw [if_pos (.inr (.inr (.inr (.inr q4))))] at hd
   rw [if_neg q1,if_neg q2,if_neg q3,if_neg q5,hd,fin_bad]
   show (if _ then _ else _)=_
   rw [if_pos (by omega)]
  rw [if_neg (by omega)] at hd
  rw [if_neg q1,if_neg q2,if_neg q3,if_neg q5,hd,fin_ok (by decide)]
  show (if _ then _ else _)=_
  rw [if_neg (by omega)]
 rw [if_neg c4,dec0 n b0 b1 b2 b3 (by omega) c2 c3 c4,fin_bad]
theorem get_bang (s:ByteArray) (i:Nat) (h:i<s.size):s.get! i=s[i]'h:=by
 cases s with
 | mk d=>exact getElem!_pos d i h
theorem pow_small {r j:Nat} (hj:j≤4) (h:r<64 ^ j):r<16777216:=Nat.lt_of_lt_of_le h (Nat.le_trans (Nat.pow_le_pow_right (by decide) hj) (by decide))
theorem pow_step {r d j:Nat} (h:r<64 ^ j) (hd:d<192):64*r+d - 128<64 ^ (j+1):=by
 rw [Nat.pow_succ];omega
theorem runA_step (s:ByteArray) (i m j r:Nat) (hm:0<m):runA s i m j r=if (s.get! (i+j)).toNat<128∨192≤(s.get! (i+j)).toNat then none else runA s i (m - 1) (j+1) (64*r+(s.get! (i+j)).toNat - 128):=by
 cases m with
 | zero=>omega
 | succ m=>rfl
theorem at01_any (w:World) (s:ByteArray) (i:Nat) (hs:s.size≤1000000000000):Calls Tryz.prog 115 #[.string s,.int .i64 (i:Int)] w fun e w'=>e=.returned (.tuple #[.int .i64 ((refA s i).1:Int),.int .i64 ((refA s i).2:Int)])∧w'=w:=by
 by_cases hi:s.size≤i
 ·have g0:decide ((s.size:Int)≤(i:Int))=true:=decide_eq_true (by omega)
  have HR:=Lib.hid (show refA s i=(0,0) by unfold refA;rw [if_pos hi])
  go_enter Tryz.func115,Tryz.ntmps115
  go_wp2_with fail
  go_ret2
  exact ⟨by rw [HR.out];rfl,rfl⟩
 have g0:decide ((s.size:Int)≤(i:Int))=false:=decide_eq_false (by omega)
 have z0:(0:Int)≤(i:Int):=by omega
 have z1:(i:Int)<(s.size:Int):=by omega
 obtain ⟨c,hcg⟩:∃ c,(s.get! i).toNat=c:=⟨_,rfl⟩
 have hc:(s[i]'(by omega)).toNat=c:=by rw [←hcg,get_bang s i (by omega)]
 have hc256:c<256:=by rw [←hcg];exact byte_lt _
 have HCG:=Lib.hid hcg
 clear hcg
 by_cases h1:c<128
 ·have d128l:decide ((c:Int)<128)=true:=decide_eq_true (by omega)
  have HR:=Lib.hid (show refA s i=(c,1) by unfold refA;rw [if_neg hi,HCG.out,if_pos h1])
  clear h1
  go_enter Tryz.func115,Tryz.ntmps115
  go_wp2_with fail
  go_ret2
  exact ⟨by rw [HR.out];rfl,rfl⟩
 have d128l:decide ((c:Int)<128)=false:=decide_eq_false (by omega)
 have hg:¬(s.get! i).toNat<128:=by rw [HCG.out];exact h1
 by_cases h192:c<192
 ·have hg2:¬(192≤(s.get! i).toNat∧(s.get! i).toNat<224):=by rw [HCG.out];omega
  have hg3:¬(224≤(s.get! i).toNat∧(s.get! i).toNat<240):=by rw [HCG.out];omega
  have hg4:¬(240≤(s.get! i).toNat∧(s.get! i).toNat<248):=by rw [HCG.out];omega
  have d192g:decide ((192:Int)≤(c:Int))=false:=decide_eq_false (by omega)
  have d224g:decide ((224:Int)≤(c:Int))=false:=decide_eq_false (by omega)
  have d240g:decide ((240:Int)≤(c:Int))=false:=decide_eq_false (by omega)
  have HR:=Lib.hid (show refA s i=(0,0) by unfold refA;rw [if_neg hi,if_neg hg,if_neg hg2,if_neg hg3,if_neg hg4])
  go_enter Tryz.func115,Tryz.ntmps115
  go_wp2_with fail
  go_ret2
  exact ⟨by rw [HR.out];rfl,rfl⟩
 have d192g:decide ((192:Int)≤(c:Int))=true:=decide_eq_true (by omega)
 by_cases h224:c<224
 ·have hcl:192≤(s.get! i).toNat∧(s.get! i).toNat<224:=by rw [HCG.out];omega
  have d224l:decide ((c:Int)<224)=true:=decide_eq_true (by omega)
  go_enter Tryz.func115,Tryz.ntmps115
  have hR0:refA s i=lateA s i 2 192 128:=by
   unfold refA
   rw [if_neg hi,if_neg hg,if_pos hcl]
  have HR0:=Lib.hid hR0
  clear hR0
  have w0:IntKind.i64.wrap ((i:Int)+2)=(i:Int)+2:=by rw [IntKind.wrap_i64];omega
  by_cases hn:s.size<i+2
  ·have p0:decide ((s.size:Int)<(i:Int)+2)=true:=decide_eq_true (by omega)
   have HR:=Lib.hid (show refA s i=(0,0) by rw [HR0.out,lateA,if_pos hn])
   clear hn
   go_wp2_with fail
   go_ret2
   exact ⟨by rw [HR.out];rfl,rfl⟩
  have p0:decide ((s.size:Int)<(i:Int)+2)=false:=decide_eq_false (by omega)
  obtain ⟨X,hX⟩:∃ X,runA s i 1 1 (c - 192)=X:=⟨_,rfl⟩
  have HR:=Lib.hid (show refA s i=endA 2 128 X by rw [HR0.out,lateA,if_neg hn,HCG.out,hX])
  have HX:=Lib.hid hX
  have w1:IntKind.i64.wrap ((c:Int) - 192)=((c - 192:Nat):Int):=by rw [IntKind.wrap_i64];omega
  clear hX HR0
  go_wp2_with fail
  go_loopw [8,10] (fun rv jv wr=>∃ j r:Nat,rv=.int .i64 (r:Int)∧jv=.int .i64 (j:Int)∧1≤j∧j≤2∧Hid (r<64 ^ j∧runA s i (2 - j) j r=X)∧wr=w) (fun _ jv _=>2 - (intOf jv).toNat)
  case atStart=>exact ⟨1,c - 192,rfl,rfl,Nat.le_refl _,by decide,Lib.hid ⟨by omega,HX.out⟩,rfl⟩
  obtain ⟨j,r,rfl,rfl,hj1,hjn,HJ,rfl⟩:=hrel
  have hr:=pow_small (show j≤4 by omega) HJ.out.1
  by_cases hlt:j<2
  ·have e1:decide ((j:Int)<2)=true:=decide_eq_true (by omega)
   have v0:IntKind.i64.wrap ((i:Int)+(j:Int))=(i:Int)+(j:Int):=by rw [IntKind.wrap_i64];omega
   have v1:(0:Int)≤(i:Int)+(j:Int):=by omega
   have v2:(i:Int)+(j:Int)<(s.size:Int):=by omega
   have v3:((i:Int)+(j:Int)).toNat=i+j:=by omega
   obtain ⟨d,hd⟩:∃ d,(s.get! (i+j)).toNat=d:=⟨_,rfl⟩
   have hd2:(s[i+j]'(by omega)).toNat=d:=by rw [←hd,get_bang s (i+j) (by omega)]
   have hd256:d<256:=by rw [←hd];exact byte_lt _
   have hstep:=runA_step s i (2 - j) j r (by omega)
   rw [HJ.out.2,hd] at hstep
   have HST:=Lib.hid hstep
   clear hstep hd
   by_cases q1:d<128
   ·have e2:decide ((d:Int)<128)=true:=decide_eq_true (by omega)
    have HE:=Lib.hid (show refA s i=(0,0) by rw [HR.out,HST.out,if_pos (.inl q1)];rfl)
    clear q1
    go_wp2_with fail
    go_ret2
    exact ⟨by rw [HE.out];rfl,rfl⟩
   have e2:decide ((d:Int)<128)=false:=decide_eq_false (by omega)
   by_cases q2:192≤d
   ·have e3:decide ((192:Int)≤(d:Int))=true:=decide_eq_true (by omega)
    have HE:=Lib.hid (show refA s i=(0,0) by rw [HR.out,HST.out,if_pos (.inr q2)];rfl)
    clear q1 q2
    go_wp2_with fail
    go_ret2
    exact ⟨by rw [HE.out];rfl,rfl⟩
   have e3:decide ((192:Int)≤(d:Int))=false:=decide_eq_false (by omega)
   have u0:IntKind.i64.wrap (64*(r:Int))=64*(r:Int):=by rw [IntKind.wrap_i64];omega
   have u1:IntKind.i64.wrap (64*(r:Int)+(d:Int))=64*(r:Int)+(d:Int):=by rw [IntKind.wrap_i64];omega
   have u2:IntKind.i64.wrap (64*(r:Int)+(d:Int) - 128)=((64*r+d - 128:Nat):Int):=by rw [IntKind.wrap_i64];omega
   have HN:=Lib.hid (show 64*r+d - 128<64 ^ (j+1)∧runA s i (2 - (j+1)) (j+1) (64*r+d - 128)=X from ⟨pow_step HJ.out.1 (by omega),by rw [HST.out,if_neg (by omega)];rfl⟩)
   clear HST q1 q2
   go_wp2_with fail
   go_roundw
   case rel=>exact ⟨j+1,64*r+d - 128,by rfl,by go_num,by omega,by omega,HN,trivial⟩
   simp [intOf];omega
  obtain rfl:j=2:=by omega
  have HE:=Lib.hid (show refA s i=if r<128∨1114111<r∨(55296≤r∧r<57344) then (0,0) else (r,2) by
   have:X=some r:=by rw [←HJ.out.2];rfl
   rw [HR.out,this];rfl)
  have e1:decide ((2:Int)<2)=false:=by decide
  clear hlt HJ HR HX
  by_cases q1:r<128
  ·have e2:decide ((r:Int)<128)=true:=decide_eq_true (by omega)
   have HF:=Lib.hid (show refA s i=(0,0) by rw [HE.out,if_pos (.inl q1)])
   clear q1
   go_wp2_with fail
   go_ret2
   exact ⟨by rw [HF.out];rfl,rfl⟩
  have e2:decide ((r:Int)<128)=false:=decide_eq_false (by omega)
  by_cases q2:1114111<r
  ·have e3:decide ((1114111:Int)<(r:Int))=true:=decide_eq_true (by omega)
   have HF:=Lib.hid (show refA s i=(0,0) by rw [HE.out,if_pos (.inr (.inl q2))])
   clear q1 q2
   go_wp2_with fail
   go_ret2
   exact ⟨by rw [HF.out];rfl,rfl⟩
  have e3:decide ((1114111:Int)<(r:Int))=false:=decide_eq_false (by omega)
  by_cases q3:55296≤r
  ·have e4:decide ((55296:Int)≤(r:Int))=true:=decide_eq_true (by omega)
   by_cases q4:r<57344
   ·have e5:decide ((r:Int)<57344)=true:=decide_eq_true (by omega)
    have HF:=Lib.hid (show refA s i=(0,0) by rw [HE.out,if_pos (.inr (.inr ⟨q3,q4⟩))])
    clear q1 q2 q3 q4
    go_wp2_with fail
    go_ret2
    exact ⟨by rw [HF.out];rfl,rfl⟩
   have e5:decide ((r:Int)<57344)=false:=decide_eq_false (by omega)
   have HF:=Lib.hid (show refA s i=(r,2) by rw [HE.out,if_neg (by omega)])
   clear q1 q2 q3 q4
   go_wp2_with fail
   go_ret2
   exact ⟨by rw [HF.out];rfl,rfl⟩
  have e4:decide ((55296:Int)≤(r:Int))=false:=decide_eq_false (by omega)
  have HF:=Lib.hid (show refA s i=(r,2) by rw [HE.out,if_neg (by omega)])
  clear q1 q2 q3
  go_wp2_with fail
  go_ret2
  exact ⟨by rw [HF.out];rfl,rfl⟩
 have hg2:¬(192≤(s.get! i).toNat∧(s.get! i).toNat<224):=by rw [HCG.out];omega
 have d224l:decide ((c:Int)<224)=false:=decide_eq_false (by omega)
 have d224g:decide ((224:Int)≤(c:Int))=true:=decide_eq_true (by omega)
 by_cases h240:c<240
 ·have hcl:224≤(s.get! i).toNat∧(s.get! i).toNat<240:=by rw [HCG.out];omega
  have d240l:decide ((c:Int)<240)=true:=decide_eq_true (by omega)
  go_enter Tryz.func115,Tryz.ntmps115
  have hR0:refA s i=lateA s i 3 224 2048:=by
   unfold refA
   rw [if_neg hi,if_neg hg,if_neg hg2,if_pos hcl]
  have HR0:=Lib.hid hR0
  clear hR0
  have w0:IntKind.i64.wrap ((i:Int)+3)=(i:Int)+3:=by rw [IntKind.wrap_i64];omega
  by_cases hn:s.size<i+3
  ·have p0:decide ((s.size:Int)<(i:Int)+3)=true:=decide_eq_true (by omega)
   have HR:=Lib.hid (show refA s i=(0,0) by rw [HR0.out,lateA,if_pos hn])
   clear hn
   go_wp2_with fail
   go_ret2
   exact ⟨by rw [HR.out];rfl,rfl⟩
  have p0:decide ((s.size:Int)<(i:Int)+3)=false:=decide_eq_false (by omega)
  obtain ⟨X,hX⟩:∃ X,runA s i 2 1 (c - 224)=X:=⟨_,rfl⟩
  have HR:=Lib.hid (show refA s i=endA 3 2048 X by rw [HR0.out,lateA,if_neg hn,HCG.out,hX])
  have HX:=Lib.hid hX
  have w1:IntKind.i64.wrap ((c:Int) - 224)=((c - 224:Nat):Int):=by rw [IntKind.wrap_i64];omega
  clear hX HR0
  go_wp2_with fail
  go_loopw [8,10] (fun rv jv wr=>∃ j r:Nat,rv=.int .i64 (r:Int)∧jv=.int .i64 (j:Int)∧1≤j∧j≤3∧Hid (r<64 ^ j∧runA s i (3 - j) j r=X)∧wr=w) (fun _ jv _=>3 - (intOf jv).toNat)
  case atStart=>exact ⟨1,c - 224,rfl,rfl,Nat.le_refl _,by decide,Lib.hid ⟨by omega,HX.out⟩,rfl⟩
  obtain ⟨j,r,rfl,rfl,hj1,hjn,HJ,rfl⟩:=hrel
  have hr:=pow_small (show j≤4 by omega) HJ.out.1
  by_cases hlt:j<3
  ·have e1:decide ((j:Int)<3)=true:=decide_eq_true (by omega)
   have v0:IntKind.i64.wrap ((i:Int)+(j:Int))=(i:Int)+(j:Int):=by rw [IntKind.wrap_i64];omega
   have v1:(0:Int)≤(i:Int)+(j:Int):=by omega
   have v2:(i:Int)+(j:Int)<(s.size:Int):=by omega
   have v3:((i:Int)+(j:Int)).toNat=i+j:=by omega
   obtain ⟨d,hd⟩:∃ d,(s.get! (i+j)).toNat=d:=⟨_,rfl⟩
   have hd2:(s[i+j]'(by omega)).toNat=d:=by rw [←hd,get_bang s (i+j) (by omega)]
   have hd256:d<256:=by rw [←hd];exact byte_lt _
   have hstep:=runA_step s i (3 - j) j r (by omega)
   rw [HJ.out.2,hd] at hstep
   have HST:=Lib.hid hstep
   clear hstep hd
   by_cases q1:d<128
   ·have e2:decide ((d:Int)<128)=true:=decide_eq_true (by omega)
    have HE:=Lib.hid (show refA s i=(0,0) by rw [HR.out,HST.out,if_pos (.inl q1)];rfl)
    clear q1
    go_wp2_with fail
    go_ret2
    exact ⟨by rw [HE.out];rfl,rfl⟩
   have e2:decide ((d:Int)<128)=false:=decide_eq_false (by omega)
   by_cases q2:192≤d
   ·have e3:decide ((192:Int)≤(d:Int))=true:=decide_eq_true (by omega)
    have HE:=Lib.hid (show refA s i=(0,0) by rw [HR.out,HST.out,if_pos (.inr q2)];rfl)
    clear q1 q2
    go_wp2_with fail
    go_ret2
    exact ⟨by rw [HE.out];rfl,rfl⟩
   have e3:decide ((192:Int)≤(d:Int))=false:=decide_eq_false (by omega)
   have u0:IntKind.i64.wrap (64*(r:Int))=64*(r:Int):=by rw [IntKind.wrap_i64];omega
   have u1:IntKind.i64.wrap (64*(r:Int)+(d:Int))=64*(r:Int)+(d:Int):=by rw [IntKind.wrap_i64];omega
   have u2:IntKind.i64.wrap (64*(r:Int)+(d:Int) - 128)=((64*r+d - 128:Nat):Int):=by rw [IntKind.wrap_i64];omega
   have HN:=Lib.hid (show 64*r+d - 128<64 ^ (j+1)∧runA s i (3 - (j+1)) (j+1) (64*r+d - 128)=X from ⟨pow_step HJ.out.1 (by omega),by rw [HST.out,if_neg (by omega)];rfl⟩)
   clear HST q1 q2
   go_wp2_with fail
   go_roundw
   case rel=>exact ⟨j+1,64*r+d - 128,by rfl,by go_num,by omega,by omega,HN,trivial⟩
   simp [intOf];omega
  obtain rfl:j=3:=by omega
  have HE:=Lib.hid (show refA s i=if r<2048∨1114111<r∨(55296≤r∧r<57344) then (0,0) else (r,3) by
   have:X=some r:=by rw [←HJ.out.2];rfl
   rw [HR.out,this];rfl)
  have e1:decide ((3:Int)<3)=false:=by decide
  clear hlt HJ HR HX
  by_cases q1:r<2048
  ·have e2:decide ((r:Int)<2048)=true:=decide_eq_true (by omega)
   have HF:=Lib.hid (show refA s i=(0,0) by rw [HE.out,if_pos (.inl q1)])
   clear q1
   go_wp2_with fail
   go_ret2
   exact ⟨by rw [HF.out];rfl,rfl⟩
  have e2:decide ((r:Int)<2048)=false:=decide_eq_false (by omega)
  by_cases q2:1114111<r
  ·have e3:decide ((1114111:Int)<(r:Int))=true:=decide_eq_true (by omega)
   have HF:=Lib.hid (show refA s i=(0,0) by rw [HE.out,if_pos (.inr (.inl q2))])
   clear q1 q2
   go_wp2_with fail
   go_ret2
   exact ⟨by rw [HF.out];rfl,rfl⟩
  have e3:decide ((1114111:Int)<(r:Int))=false:=decide_eq_false (by omega)
  by_cases q3:55296≤r
  ·have e4:decide ((55296:Int)≤(r:Int))=true:=decide_eq_true (by omega)
   by_cases q4:r<57344
   ·have e5:decide ((r:Int)<57344)=true:=decide_eq_true (by omega)
    have HF:=Lib.hid (show refA s i=(0,0) by rw [HE.out,if_pos (.inr (.inr ⟨q3,q4⟩))])
    clear q1 q2 q3 q4
    go_wp2_with fail
    go_ret2
    exact ⟨by rw [HF.out];rfl,rfl⟩
   have e5:decide ((r:Int)<57344)=false:=decide_eq_false (by omega)
   have HF:=Lib.hid (show refA s i=(r,3) by rw [HE.out,if_neg (by omega)])
   clear q1 q2 q3 q4
   go_wp2_with fail
   go_ret2
   exact ⟨by rw [HF.out];rfl,rfl⟩
  have e4:decide ((55296:Int)≤(r:Int))=false:=decide_eq_false (by omega)
  have HF:=Lib.hid (show refA s i=(r,3) by rw [HE.out,if_neg (by omega)])
  clear q1 q2 q3
  go_wp2_with fail
  go_ret2
  exact ⟨by rw [HF.out];rfl,rfl⟩
 have hg3:¬(224≤(s.get! i).toNat∧(s.get! i).toNat<240):=by rw [HCG.out];omega
 have d240l:decide ((c:Int)<240)=false:=decide_eq_false (by omega)
 have d240g:decide ((240:Int)≤(c:Int))=true:=decide_eq_true (by omega)
 by_cases h248:c<248
 ·have hcl:240≤(s.get! i).toNat∧(s.get! i).toNat<248:=by rw [HCG.out];omega
  have d248l:decide ((c:Int)<248)=true:=decide_eq_true (by omega)
  go_enter Tryz.func115,Tryz.ntmps115
  have hR0:refA s i=lateA s i 4 240 65536:=by
   unfold refA
   rw [if_neg hi,if_neg hg,if_neg hg2,if_neg hg3,if_pos hcl]
  have HR0:=Lib.hid hR0
  clear hR0
  have w0:IntKind.i64.wrap ((i:Int)+4)=(i:Int)+4:=by rw [IntKind.wrap_i64];omega
  by_cases hn:s.size<i+4
  ·have p0:decide ((s.size:Int)<(i:Int)+4)=true:=decide_eq_true (by omega)
   have HR:=Lib.hid (show refA s i=(0,0) by rw [HR0.out,lateA,if_pos hn])
   clear hn
   go_wp2_with fail
   go_ret2
   exact ⟨by rw [HR.out];rfl,rfl⟩
  have p0:decide ((s.size:Int)<(i:Int)+4)=false:=decide_eq_false (by omega)
  obtain ⟨X,hX⟩:∃ X,runA s i 3 1 (c - 240)=X:=⟨_,rfl⟩
  have HR:=Lib.hid (show refA s i=endA 4 65536 X by rw [HR0.out,lateA,if_neg hn,HCG.out,hX])
  have HX:=Lib.hid hX
  have w1:IntKind.i64.wrap ((c:Int) - 240)=((c - 240:Nat):Int):=by rw [IntKind.wrap_i64];omega
  clear hX HR0
  go_wp2_with fail
  go_loopw [8,10] (fun rv jv wr=>∃ j r:Nat,rv=.int .i64 (r:Int)∧jv=.int .i64 (j:Int)∧1≤j∧j≤4∧Hid (r<64 ^ j∧runA s i (4 - j) j r=X)∧wr=w) (fun _ jv _=>4 - (intOf jv).toNat)
  case atStart=>exact ⟨1,c - 240,rfl,rfl,Nat.le_refl _,by decide,Lib.hid ⟨by omega,HX.out⟩,rfl⟩
  obtain ⟨j,r,rfl,rfl,hj1,hjn,HJ,rfl⟩:=hrel
  have hr:=pow_small (show j≤4 by omega) HJ.out.1
  by_cases hlt:j<4
  ·have e1:decide ((j:Int)<4)=true:=decide_eq_true (by omega)
   have v0:IntKind.i64.wrap ((i:Int)+(j:Int))=(i:Int)+(j:Int):=by rw [IntKind.wrap_i64];omega
   have v1:(0:Int)≤(i:Int)+(j:Int):=by omega
   have v2:(i:Int)+(j:Int)<(s.size:Int):=by omega
   have v3:((i:Int)+(j:Int)).toNat=i+j:=by omega
   obtain ⟨d,hd⟩:∃ d,(s.get! (i+j)).toNat=d:=⟨_,rfl⟩
   have hd2:(s[i+j]'(by omega)).toNat=d:=by rw [←hd,get_bang s (i+j) (by omega)]
   have hd256:d<256:=by rw [←hd];exact byte_lt _
   have hstep:=runA_step s i (4 - j) j r (by omega)
   rw [HJ.out.2,hd] at hstep
   have HST:=Lib.hid hstep
   clear hstep hd
   by_cases q1:d<128
   ·have e2:decide ((d:Int)<128)=true:=decide_eq_true (by omega)
    have HE:=Lib.hid (show refA s i=(0,0) by rw [HR.out,HST.out,if_pos (.inl q1)];rfl)
    clear q1
    go_wp2_with fail
    go_ret2
    exact ⟨by rw [HE.out];rfl,rfl⟩
   have e2:decide ((d:Int)<128)=false:=decide_eq_false (by omega)
   by_cases q2:192≤d
   ·have e3:decide ((192:Int)≤(d:Int))=true:=decide_eq_true (by omega)
    have HE:=Lib.hid (show refA s i=(0,0) by rw [HR.out,HST.out,if_pos (.inr q2)];rfl)
    clear q1 q2
    go_wp2_with fail
    go_ret2
    exact ⟨by rw [HE.out];rfl,rfl⟩
   have e3:decide ((192:Int)≤(d:Int))=false:=decide_eq_false (by omega)
   have u0:IntKind.i64.wrap (64*(r:Int))=64*(r:Int):=by rw [IntKind.wrap_i64];omega
   have u1:IntKind.i64.wrap (64*(r:Int)+(d:Int))=64*(r:Int)+(d:Int):=by rw [IntKind.wrap_i64];omega
   have u2:IntKind.i64.wrap (64*(r:Int)+(d:Int) - 128)=((64*r+d - 128:Nat):Int):=by rw [IntKind.wrap_i64];omega
   have HN:=Lib.hid (show 64*r+d - 128<64 ^ (j+1)∧runA s i (4 - (j+1)) (j+1) (64*r+d - 128)=X from ⟨pow_step HJ.out.1 (by omega),by rw [HST.out,if_neg (by omega)];rfl⟩)
   clear HST q1 q2
   go_wp2_with fail
   go_roundw
   case rel=>exact ⟨j+1,64*r+d - 128,by rfl,by go_num,by omega,by omega,HN,trivial⟩
   simp [intOf];omega
  obtain rfl:j=4:=by omega
  have HE:=Lib.hid (show refA s i=if r<65536∨1114111<r∨(55296≤r∧r<57344) then (0,0) else (r,4) by
   have:X=some r:=by rw [←HJ.out.2];rfl
   rw [HR.out,this];rfl)
  have e1:decide ((4:Int)<4)=false:=by decide
  clear hlt HJ HR HX
  by_cases q1:r<65536
  ·have e2:decide ((r:Int)<65536)=true:=decide_eq_true (by omega)
   have HF:=Lib.hid (show refA s i=(0,0) by rw [HE.out,if_pos (.inl q1)])
   clear q1
   go_wp2_with fail
   go_ret2
   exact ⟨by rw [HF.out];rfl,rfl⟩
  have e2:decide ((r:Int)<65536)=false:=decide_eq_false (by omega)
  by_cases q2:1114111<r
  ·have e3:decide ((1114111:Int)<(r:Int))=true:=decide_eq_true (by omega)
   have HF:=Lib.hid (show refA s i=(0,0) by rw [HE.out,if_pos (.inr (.inl q2))])
   clear q1 q2
   go_wp2_with fail
   go_ret2
   exact ⟨by rw [HF.out];rfl,rfl⟩
  have e3:decide ((1114111:Int)<(r:Int))=false:=decide_eq_false (by omega)
  by_cases q3:55296≤r
  ·have e4:decide ((55296:Int)≤(r:Int))=true:=decide_eq_true (by omega)
   by_cases q4:r<57344
   ·have e5:decide ((r:Int)<57344)=true:=decide_eq_true (by omega)
    have HF:=Lib.hid (show refA s i=(0,0) by rw [HE.out,if_pos (.inr (.inr ⟨q3,q4⟩))])
    clear q1 q2 q3 q4
    go_wp2_with fail
    go_ret2
    exact ⟨by rw [HF.out];rfl,rfl⟩
   have e5:decide ((r:Int)<57344)=false:=decide_eq_false (by omega)
   have HF:=Lib.hid (show refA s i=(r,4) by rw [HE.out,if_neg (by omega)])
   clear q1 q2 q3 q4
   go_wp2_with fail
   go_ret2
   exact ⟨by rw [HF.out];rfl,rfl⟩
  have e4:decide ((55296:Int)≤(r:Int))=false:=decide_eq_false (by omega)
  have HF:=Lib.hid (show refA s i=(r,4) by rw [HE.out,if_neg (by omega)])
  clear q1 q2 q3
  go_wp2_with fail
  go_ret2
  exact ⟨by rw [HF.out];rfl,rfl⟩
 have hg4:¬(240≤(s.get! i).toNat∧(s.get! i).toNat<248):=by rw [HCG.out];omega
 have d248l:decide ((c:Int)<248)=false:=decide_eq_false (by omega)
 have HR:=Lib.hid (show refA s i=(0,0) by unfold refA;rw [if_neg hi,if_neg hg,if_neg hg2,if_neg hg3,if_neg hg4])
 go_enter Tryz.func115,Tryz.ntmps115
 go_wp2_with fail
 go_ret2
 exact ⟨by rw [HR.out];rfl,rfl⟩
theorem valid_step {s:ByteArray} {p f:Nat} (hp:p<s.size) (hf:s.size≤p+f):Lib.validGoD f (s.data.toList.drop p)=if Utf8.decode s p=(65533,1) then false else Lib.validGoD (f - 1) (s.data.toList.drop (p+(Utf8.decode s p).2)):=by
 cases f with
 | zero=>omega
 | succ f=>
   have hl:s.data.toList.length=s.size:=by rw [Array.length_toList];rfl
   have hne:s.data.toList.drop p≠[]:=by
    intro e
    have:=congrArg List.length e
    rw [List.length_drop,hl] at this
    simp at this;omega
   rw [Lib.validGoD,if_neg hne,Lib.decodeL_drop,List.drop_drop]
   by_cases hb:Utf8.decode s p=(65533,1)
   ·rw [if_pos hb,if_pos (by rw [hb];exact ⟨rfl,rfl⟩)]
   rw [if_neg hb,if_neg (fun h=>hb (Prod.ext h.1 h.2))]
   rfl
theorem valid_stop {s:ByteArray} {p f:Nat} (hp:s.size≤p):Lib.validGoD f (s.data.toList.drop p)=true:=by
 have hl:s.data.toList.length=s.size:=by rw [Array.length_toList];rfl
 rw [List.drop_eq_nil_of_le (by omega)]
 cases f <;> rfl
theorem valid01_any (w:World) (s:ByteArray) (hs:s.size≤1000000000000):Calls Tryz.prog 76 #[.string s] w fun e w'=>e=.returned (.bool (Lib.validD s.data.toList))∧w'=w:=by
 obtain ⟨V,hV⟩:∃ V,Lib.validD s.data.toList=V:=⟨_,rfl⟩
 rw [hV]
 have hl:s.data.toList.length=s.size:=by rw [Array.length_toList];rfl
 have hat:=fun (p:Nat)=>at01_any w s p hs
 have HAT:=Lib.hid hat
 have HV:=Lib.hid hV
 have HLL:=Lib.hid hl
 clear hat hV hl
 go_enter Tryz.func76,Tryz.ntmps76
 go_wp2_with fail
 go_loopw [3] (fun v wr=>∃ p f:Nat,v=.int .i64 (p:Int)∧p≤s.size∧Hid (Lib.validGoD f (s.data.toList.drop p)=V∧s.size≤p+f)∧wr=w) (fun v _=>s.size - (intOf v).toNat)
 case atStart=>exact ⟨0,s.size,rfl,Nat.zero_le _,Lib.hid ⟨by rw [List.drop_zero,←HLL.out];exact HV.out,by omega⟩,rfl⟩
 obtain ⟨p,f,rfl,hp,HS,rfl⟩:=hrel
 by_cases hlt:p<s.size
 ·have e1:decide ((p:Int)<(s.size:Int))=true:=decide_eq_true (by omega)
  have hst:=valid_step hlt HS.out.2
  rw [HS.out.1] at hst
  obtain ⟨hz1,hz2,hr⟩:=decode_fits hlt
  have hre:=refA_eq s p
  go_wp2_with fail
  refine (HAT.out p).mono ?_
  rintro e w2 ⟨rfl,rfl⟩
  obtain ⟨r,z,hd⟩:∃ r z,Utf8.decode s p=(r,z):=⟨_,_,rfl⟩
  by_cases hb:Utf8.decode s p=(65533,1)
  ·rw [if_pos (.inr hb)] at hre
   rw [if_pos hb] at hst
   rw [hre]
   have HST:=Lib.hid hst
   clear hre hst hb hd hz1 hz2 hr
   go_wp2_with fail
   go_ret
   exact ⟨by rw [HST.out];rfl,rfl⟩
  rw [if_neg (fun h=>h.elim (fun h=>absurd h (by omega)) hb)] at hre
  rw [if_neg hb] at hst
  rw [hre]
  rw [hd] at hst hz1 hz2 ⊢
  dsimp only at hst hz1 hz2 ⊢
  have e2:((z:Int) == 0)=false:=beq_eq_false_iff_ne.2 (by omega)
  have e3:IntKind.i64.wrap ((p:Int)+(z:Int))=(p:Int)+(z:Int):=by rw [IntKind.wrap_i64];omega
  have HST:=Lib.hid hst.symm
  have HF:=HS.out.2
  have HZ1:=Lib.hid hz1
  clear hre hst hb hd hr hz1
  go_wp2_with fail
  go_roundw
  case rel=>exact ⟨p+z,f - 1,by go_num,hz2,Lib.hid ⟨HST.out,by have:=HZ1.out;omega⟩,trivial⟩
  have:=HZ1.out;simp [intOf];omega
 obtain rfl:p=s.size:=by omega
 have e1:decide ((s.size:Int)<(s.size:Int))=false:=decide_eq_false (by omega)
 have HE:=Lib.hid (show V=true by rw [←HS.out.1];exact valid_stop (Nat.le_refl _))
 go_wp2_with fail
 go_ret
 exact ⟨by rw [HE.out];rfl,rfl⟩
theorem may05_any (w:World) (k:ByteArray) (hk:k.size≤maxLen):Calls Tryz.prog 44 #[.string k] w fun e w'=>e=.returned (.int .i64 (mayK k))∧w'=w:=by
 obtain ⟨r,hr⟩:∃ r,mayK k=r:=⟨_,rfl⟩
 rw [hr]
 unfold mayK at hr
 by_cases h0:k.size=0
 ·rw [if_pos h0] at hr
  subst hr
  have e0:((k.size:Int) == 0)=true:=by rw [h0];rfl
  clear h0
  go_enter Tryz.func44,Tryz.ntmps44
  go_wp2_with fail
  go_ret
  exact ⟨rfl,rfl⟩
 rw [if_neg h0] at hr
 have e0:((k.size:Int) == 0)=false:=beq_eq_false_iff_ne.2 (by omega)
 by_cases h1:64<k.size
 ·rw [if_pos h1] at hr
  subst hr
  have e1:decide ((64:Int)<(k.size:Int))=true:=decide_eq_true (by omega)
  go_enter Tryz.func44,Tryz.ntmps44
  go_wp2_with fail
  go_ret
  exact ⟨rfl,rfl⟩
 rw [if_neg h1] at hr
 have e1:decide ((64:Int)<(k.size:Int))=false:=decide_eq_false (by omega)
 have HV:=Lib.hid (valid01_any w k (by omega))
 cases hv:Lib.validD k.data.toList with
 | true=>
   rw [hv,if_pos rfl] at hr
   rw [hv] at HV
   subst hr
   go_enter Tryz.func44,Tryz.ntmps44
   go_wp2_with fail
   refine HV.out.mono ?_
   rintro e w1 ⟨rfl,rfl⟩
   go_wp2_with fail
   go_ret
   exact ⟨rfl,rfl⟩
 | false=>
   rw [hv,if_neg (by decide)] at hr
   rw [hv] at HV
   subst hr
   go_enter Tryz.func44,Tryz.ntmps44
   go_wp2_with fail
   refine HV.out.mono ?_
   rintro e w1 ⟨rfl,rfl⟩
   go_wp2_with fail
   go_ret
   exact ⟨rfl,rfl⟩
theorem bare_any (w:World) (v:Val) (sl so:Sl):Calls Tryz.prog 166 #[aggV v sl so] w fun e w'=>e=.returned (.bool (!oddV v))∧Ext w w':=by
 obtain ⟨k,b,i,t,l,ok,ov⟩:=v
 show Calls _ _ #[.agg #[.int .i64 k,.bool b,.int .i64 i,.string t,.slice sl.a l.length sl.c,.slice so.a ok.length so.c]] _ fun e w'=>e=.returned (.bool (!oddS k b i t l.length ok.length))∧Ext w w'
 by_cases hz:ok.length=0
 ·have hn:((ok.length:Int) == 0)=true:=by rw [hz];rfl
  go_enter Tryz.func166,Tryz.ntmps166
  go_wp2_with fail
  all_goals
   go_ret
   refine ⟨?_,(Ext.refl w).alloc _ _⟩
   refine congrArg (fun x=>Ending.returned (Value.bool x)) ?_
   unfold oddS
   first
    | (simp [*];done)
    | (rw [if_neg (by omega)];simp [*];done)
    | (rw [if_neg (by omega),show k=1 by omega];simp [*])
 have hn:((ok.length:Int) == 0)=false:=beq_eq_false_iff_ne.2 (by omega)
 go_enter Tryz.func166,Tryz.ntmps166
 go_wp2_with fail
 all_goals
  go_ret
  refine ⟨?_,(Ext.refl w).alloc _ _⟩
  refine congrArg (fun x=>Ending.returned (Value.bool x)) ?_
  unfold oddS
  first
   | (simp [*];done)
   | (rw [if_neg (by omega)];simp [*];done)
   | (rw [if_neg (by omega),show k=1 by omega];simp [*])
end Go.Proofs.YtechahocffcbpaaGreatDoor
