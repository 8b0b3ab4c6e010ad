/-
  OF5, OF6, OF7, OF8, OF9, OF10, OF11, OF12 (merged for the claim).
-/
import Derived.Test.YtnohfmdlaajpbaaGreatOF4
set_option linter.unusedSimpArgs false
set_option linter.unusedVariables false
namespace Go.Proofs.YtnohfmdlaajpbaaGreat
open Go.Vl Go.RowKit Go.Dg
set_option maxRecDepth 100000 in
set_option maxHeartbeats 4000000 in
theorem Zqy (v:V3) (m:Mv) (at_ len:Int):Qaf Tryz.prog 88 [v3PV v,mvV m,.int .i64 at_,.int .i64 len] (.tup [pV (mvP v m at_ len),.int .i64 (mvE v m at_ len)]):=by
 have h1:=Qfh v;have h2:=Qo0 len;have h3:=Qo0 at_;have bad: ¬(ptB v=true∧1≤len∧len≤3600000∧tB at_=true∧mvB v m len=true)→(.tup [pV (mvP v m at_ len),.int .i64 (mvE v m at_ len)]:PV)= .tup [.slc [],.int .i64 2]:=by
  intro hc;have e:mvE v m at_ len=2:=if_neg hc;unfold mvP;rw [e];rfl
 have hE:mvE v m at_ len=if ptB v=true∧1≤len∧len≤3600000∧tB at_=true∧mvB v m len=true then(if at_+len≤3600000 then 0 else 3)else 2:=rfl;cases e1:ptB v with
 |false=>
  rw [bad (by rw [e1];simp)];rw [e1]at h1;unfold v3PV at h1 ⊢;unfold mvV;refine Qab (tb:=[]) 46 [.tmp 8,.tmp 9] [0,1,2,3,4,5,8,9,10,35] mixed Tryz.func88 rfl (by kernel_rfl) ?_;repeat (first|simp -implicitDefEqProofs only [go_sem,seval,Bool.not_false]|(with_reducible refine Qaa h1 ?_ ?_ ?_);rfl;rfl)
 |true=>
 by_cases e2:1≤len
 case neg=>
  rw [bad (by omega)];rw [e1]at h1;have e2':(len<1)=True:=eq_true (by omega);unfold v3PV at h1 ⊢;unfold mvV;refine Qab (tb:=[]) 46 [.tmp 8,.tmp 9] [0,1,2,3,4,5,8,9,10,35] mixed Tryz.func88 rfl (by kernel_rfl) ?_;repeat (first|simp -implicitDefEqProofs only [go_sem,seval,Bool.not_true,e2',decide_true]|(with_reducible refine Qaa h1 ?_ ?_ ?_);rfl;rfl)
 have e2':(len<1)=False:=eq_false (by omega);cases e3:tB len with
 |false=>
  rw [bad (by intro h;have:tB len=true:=Qey.2 (by omega);rw [e3]at this;cases this)];rw [e1]at h1;rw [e3]at h2;unfold v3PV at h1 ⊢;unfold mvV;refine Qab (tb:=[]) 46 [.tmp 8,.tmp 9] [0,1,2,3,4,5,8,9,10,35] mixed Tryz.func88 rfl (by kernel_rfl) ?_;repeat (first|simp -implicitDefEqProofs only [go_sem,seval,Bool.not_true,Bool.not_false,e2',decide_false]|(with_reducible refine Qaa h1 ?_ ?_ ?_);rfl;rfl|(with_reducible refine Qaa h2 ?_ ?_ ?_);rfl;rfl)
 |true=>
 have t3:=Qey.1 e3;cases e4:tB at_ with
 |false=>
  rw [bad (by rw [e4];simp)];rw [e1]at h1;rw [e3]at h2;rw [e4]at h3;unfold v3PV at h1 ⊢;unfold mvV;refine Qab (tb:=[]) 46 [.tmp 8,.tmp 9] [0,1,2,3,4,5,8,9,10,35] mixed Tryz.func88 rfl (by kernel_rfl) ?_;repeat (first|simp -implicitDefEqProofs only [go_sem,seval,Bool.not_true,Bool.not_false,e2',decide_false]|(with_reducible refine Qaa h1 ?_ ?_ ?_);rfl;rfl|(with_reducible refine Qaa h2 ?_ ?_ ?_);rfl;rfl|(with_reducible refine Qaa h3 ?_ ?_ ?_);rfl;rfl)
 |true=>
 have t4:=Qey.1 e4;have h4:=Ze2 v m len e1;cases e5:mvB v m len with
 |false=>
  rw [bad (by rw [e5];simp)];rw [e1]at h1;rw [e3]at h2;rw [e4]at h3;rw [e5]at h4;unfold v3PV at h1 h4 ⊢;unfold mvV at h4 ⊢;refine Qab (tb:=[]) 46 [.tmp 8,.tmp 9] [0,1,2,3,4,5,8,9,10,35] mixed Tryz.func88 rfl (by kernel_rfl) ?_;repeat (first|simp -implicitDefEqProofs only [go_sem,seval,Bool.not_true,Bool.not_false,e2',decide_false]|(with_reducible refine Qaa h1 ?_ ?_ ?_);rfl;rfl|(with_reducible refine Qaa h2 ?_ ?_ ?_);rfl;rfl|(with_reducible refine Qaa h3 ?_ ?_ ?_);rfl;rfl|(with_reducible refine Qaa h4 ?_ ?_ ?_);rfl;rfl)
 |true=>
 have hE2:mvE v m at_ len=if at_+len≤3600000 then 0 else 3:=by rw [hE,if_pos ⟨e1,e2,t3.2,e4,e5⟩]
 have h5:=Qo0 (at_+len);have w:IntKind.i64.wrap (at_+len)=at_+len:=Qag (by omega) (by omega);by_cases e6:at_+len≤3600000
 ·rw [if_pos e6]at hE2;have h6:=Zyf v m at_ len e1 e5 t4.1 e6;have hP:mvP v m at_ len=mvL v m at_ len:=if_pos hE2;rw [hP,hE2];have e7:tB (at_+len)=true:=Qey.2 (by omega);rw [e1]at h1;rw [e3]at h2;rw [e4]at h3;rw [e5]at h4;rw [e7]at h5;generalize mvL v m at_ len=S at*;unfold pV at h6 ⊢;unfold v3PV at h1 h4 h6 ⊢;unfold mvV at h4 h6 ⊢;refine Qab (tb:=[]) 46 [.tmp 8,.tmp 9] [0,1,2,3,4,5,8,9,10,35] mixed Tryz.func88 rfl (by kernel_rfl) ?_;repeat (first|simp -implicitDefEqProofs only [go_sem,seval,Bool.not_true,e2',w,decide_false]|(with_reducible refine Qaa h1 ?_ ?_ ?_);rfl;rfl|(with_reducible refine Qaa h2 ?_ ?_ ?_);rfl;rfl|(with_reducible refine Qaa h3 ?_ ?_ ?_);rfl;rfl|(with_reducible refine Qaa h4 ?_ ?_ ?_);rfl;rfl|(with_reducible refine Qaa h5 ?_ ?_ ?_);rfl;rfl|(with_reducible refine Qaa h6 ?_ ?_ ?_);rfl;rfl)
 ·rw [if_neg e6]at hE2;have hP:mvP v m at_ len=[]:=if_neg (by rw [hE2];decide);rw [hP,hE2];have e7:tB (at_+len)=false:=by
   cases h:tB (at_+len)with
   |false=>rfl
   |true=>have:=Qey.1 h;omega
  rw [e1]at h1;rw [e3]at h2;rw [e4]at h3;rw [e5]at h4;rw [e7]at h5;unfold pV;unfold v3PV at h1 h4 ⊢;unfold mvV at h4 ⊢;refine Qab (tb:=[]) 46 [.tmp 8,.tmp 9] [0,1,2,3,4,5,8,9,10,35] mixed Tryz.func88 rfl (by kernel_rfl) ?_;repeat (first|simp -implicitDefEqProofs only [go_sem,seval,Bool.not_true,Bool.not_false,e2',w,decide_false,List.map_nil]|(with_reducible refine Qaa h1 ?_ ?_ ?_);rfl;rfl|(with_reducible refine Qaa h2 ?_ ?_ ?_);rfl;rfl|(with_reducible refine Qaa h3 ?_ ?_ ?_);rfl;rfl|(with_reducible refine Qaa h4 ?_ ?_ ?_);rfl;rfl|(with_reducible refine Qaa h5 ?_ ?_ ?_);rfl;rfl)
theorem Zqz {s:ByteArray} {i:Nat} (h:i<s.size):s[i]? =some (UInt8.ofNat (bAt s i))∧bAt s i<256:=by
 have hl:i<s.data.toList.length:=by simpa using h
 have e:bAt s i=(s.data.toList[i]'hl).toNat:=by unfold bAt;rw [List.getD_eq_getElem?_getD,List.getElem?_eq_getElem hl];rfl
 refine⟨?_,by rw [e];exact UInt8.toNat_lt _⟩;rw [e,UInt8.ofNat_toNat];rw [getElem?_pos s i h];congr 1
theorem Ze3 {n:Nat} (h:n<256):(UInt8.ofNat n).toNat=n:=by simp [UInt8.toNat_ofNat];omega
set_option maxRecDepth 100000 in
set_option maxHeartbeats 4000000 in
theorem Zoo (s:ByteArray) (hs:s.size≤9223372036854775806):Qaf Tryz.prog 63 [.str s] (.bool (Qul s)):=by
 have fin:Qul s=(Qib s s.size&&(decide (1≤s.size)&&decide (s.size≤32))):=rfl;refine Qab (tb:=[]) 56 [.tmp 2] [0,2,3,4,6,7,8,13,28] mixed Tryz.func63 rfl (by kernel_rfl) ?_;repeat simp -implicitDefEqProofs only [go_sem,seval]
 refine Qas mixed (fun k:{k:Nat // k≤s.size∧Qib s k=true}=>St.of [(0,.str s),(2,.bool false),(6,.int .i64 (s.size:Int)),(7,.int .i64 (k.1:Int))] []) (fun k=>s.size-k.1) ⟨0,Nat.zero_le _,rfl⟩ ?_ ?_
 ·exact Qa0 (by simp [Qac,lkp,ren1,ren0,Qah])
 ·rintro⟨k,hk,hall⟩;simp only;by_cases hA:k<s.size
  ·have hA':=lt_T hA;have n0:=nn_T k;obtain⟨hg,hc⟩:=Zqz hA;have hu:=Ze3 hc;have hwk:=wr_1 (n:=k) (by omega);have hnx:=Ql3 s k;rw [hall,Bool.true_and]at hnx;have hno:chB k (bAt s k)=false→Qul s=false:=fun h=>by
    rw [fin,Q35 (by rw [hnx];exact h:Qib s (k+1)=false) hA];rfl
   generalize bAt s k=c at*;have hcl:(0≤c∧c≤44)∨(c=45)∨(46≤c∧c≤47)∨(48≤c∧c≤57)∨(58≤c∧c≤64)∨(65≤c∧c≤90)∨(91≤c∧c≤94)∨(c=95)∨(c=96)∨(97≤c∧c≤122)∨(123≤c∧c≤255):=by omega
   rcases hcl with h|h|h|h|h|h|h|h|h|h|h
   ·have a1:(97≤(c:Int))=False:=eq_false (by omega);have a2:((c:Int)≤122)=True:=eq_true (by omega);have a3:(65≤(c:Int))=False:=eq_false (by omega);have a4:((c:Int)≤90)=True:=eq_true (by omega);have a5:(48≤(c:Int))=False:=eq_false (by omega);have a6:((c:Int)≤57)=True:=eq_true (by omega);have a7:((c:Int)==45)=false:=by simp;omega
    have a8:((c:Int)==95)=false:=by simp;omega
    by_cases h0:0<k
    ·have z:((0:Int)<(k:Int))=True:=eq_true (by omega);rw [hno (by simp [chB];omega)];repeat simp -implicitDefEqProofs only [go_sem,seval,hA',n0,hg,hu,Int.toNat_natCast,a1,a3,a5,a7,a8,z,decide_true,decide_false]
    ·have z:((0:Int)<(k:Int))=False:=eq_false (by omega);rw [hno (by simp [chB];omega)];repeat simp -implicitDefEqProofs only [go_sem,seval,hA',n0,hg,hu,Int.toNat_natCast,a1,a3,z,decide_true,decide_false]
   ·have a1:(97≤(c:Int))=False:=eq_false (by omega);have a2:((c:Int)≤122)=True:=eq_true (by omega);have a3:(65≤(c:Int))=False:=eq_false (by omega);have a4:((c:Int)≤90)=True:=eq_true (by omega);have a5:(48≤(c:Int))=False:=eq_false (by omega);have a6:((c:Int)≤57)=True:=eq_true (by omega);have a7:((c:Int)==45)=true:=by simp;omega
    have a8:((c:Int)==95)=false:=by simp;omega
    by_cases h0:0<k
    ·have z:((0:Int)<(k:Int))=True:=eq_true (by omega);repeat simp -implicitDefEqProofs only [go_sem,seval,hA',n0,hg,hu,hwk,Int.toNat_natCast,a1,a3,a5,a7,z,decide_true,decide_false]
     refine⟨⟨k+1,hA,?_⟩,by simp only;omega,?_⟩
     ·rw [hnx];simp [chB];omega
     ·exact Qa0 (by simp [Qac,lkp,ren1,ren0,Qah])
    ·have z:((0:Int)<(k:Int))=False:=eq_false (by omega);rw [hno (by simp [chB];omega)];repeat simp -implicitDefEqProofs only [go_sem,seval,hA',n0,hg,hu,Int.toNat_natCast,a1,a3,z,decide_true,decide_false]
   ·have a1:(97≤(c:Int))=False:=eq_false (by omega);have a2:((c:Int)≤122)=True:=eq_true (by omega);have a3:(65≤(c:Int))=False:=eq_false (by omega);have a4:((c:Int)≤90)=True:=eq_true (by omega);have a5:(48≤(c:Int))=False:=eq_false (by omega);have a6:((c:Int)≤57)=True:=eq_true (by omega);have a7:((c:Int)==45)=false:=by simp;omega
    have a8:((c:Int)==95)=false:=by simp;omega
    by_cases h0:0<k
    ·have z:((0:Int)<(k:Int))=True:=eq_true (by omega);rw [hno (by simp [chB];omega)];repeat simp -implicitDefEqProofs only [go_sem,seval,hA',n0,hg,hu,Int.toNat_natCast,a1,a3,a5,a7,a8,z,decide_true,decide_false]
    ·have z:((0:Int)<(k:Int))=False:=eq_false (by omega);rw [hno (by simp [chB];omega)];repeat simp -implicitDefEqProofs only [go_sem,seval,hA',n0,hg,hu,Int.toNat_natCast,a1,a3,z,decide_true,decide_false]
   ·have a1:(97≤(c:Int))=False:=eq_false (by omega);have a2:((c:Int)≤122)=True:=eq_true (by omega);have a3:(65≤(c:Int))=False:=eq_false (by omega);have a4:((c:Int)≤90)=True:=eq_true (by omega);have a5:(48≤(c:Int))=True:=eq_true (by omega);have a6:((c:Int)≤57)=True:=eq_true (by omega);have a7:((c:Int)==45)=false:=by simp;omega
    have a8:((c:Int)==95)=false:=by simp;omega
    by_cases h0:0<k
    ·have z:((0:Int)<(k:Int))=True:=eq_true (by omega);repeat simp -implicitDefEqProofs only [go_sem,seval,hA',n0,hg,hu,hwk,Int.toNat_natCast,a1,a3,a5,a6,z,decide_true,decide_false]
     refine⟨⟨k+1,hA,?_⟩,by simp only;omega,?_⟩
     ·rw [hnx];simp [chB];omega
     ·exact Qa0 (by simp [Qac,lkp,ren1,ren0,Qah])
    ·have z:((0:Int)<(k:Int))=False:=eq_false (by omega);rw [hno (by simp [chB];omega)];repeat simp -implicitDefEqProofs only [go_sem,seval,hA',n0,hg,hu,Int.toNat_natCast,a1,a3,z,decide_true,decide_false]
   ·have a1:(97≤(c:Int))=False:=eq_false (by omega);have a2:((c:Int)≤122)=True:=eq_true (by omega);have a3:(65≤(c:Int))=False:=eq_false (by omega);have a4:((c:Int)≤90)=True:=eq_true (by omega);have a5:(48≤(c:Int))=True:=eq_true (by omega);have a6:((c:Int)≤57)=False:=eq_false (by omega);have a7:((c:Int)==45)=false:=by simp;omega
    have a8:((c:Int)==95)=false:=by simp;omega
    by_cases h0:0<k
    ·have z:((0:Int)<(k:Int))=True:=eq_true (by omega);rw [hno (by simp [chB];omega)];repeat simp -implicitDefEqProofs only [go_sem,seval,hA',n0,hg,hu,Int.toNat_natCast,a1,a3,a5,a6,a7,a8,z,decide_true,decide_false]
    ·have z:((0:Int)<(k:Int))=False:=eq_false (by omega);rw [hno (by simp [chB];omega)];repeat simp -implicitDefEqProofs only [go_sem,seval,hA',n0,hg,hu,Int.toNat_natCast,a1,a3,z,decide_true,decide_false]
   ·have a1:(97≤(c:Int))=False:=eq_false (by omega);have a2:((c:Int)≤122)=True:=eq_true (by omega);have a3:(65≤(c:Int))=True:=eq_true (by omega);have a4:((c:Int)≤90)=True:=eq_true (by omega);have a5:(48≤(c:Int))=True:=eq_true (by omega);have a6:((c:Int)≤57)=False:=eq_false (by omega);have a7:((c:Int)==45)=false:=by simp;omega
    have a8:((c:Int)==95)=false:=by simp;omega
    repeat simp -implicitDefEqProofs only [go_sem,seval,hA',n0,hg,hu,hwk,Int.toNat_natCast,a1,a3,a4,decide_true,decide_false]
    refine⟨⟨k+1,hA,?_⟩,by simp only;omega,?_⟩
    ·rw [hnx];simp [chB];omega
    ·exact Qa0 (by simp [Qac,lkp,ren1,ren0,Qah])
   ·have a1:(97≤(c:Int))=False:=eq_false (by omega);have a2:((c:Int)≤122)=True:=eq_true (by omega);have a3:(65≤(c:Int))=True:=eq_true (by omega);have a4:((c:Int)≤90)=False:=eq_false (by omega);have a5:(48≤(c:Int))=True:=eq_true (by omega);have a6:((c:Int)≤57)=False:=eq_false (by omega);have a7:((c:Int)==45)=false:=by simp;omega
    have a8:((c:Int)==95)=false:=by simp;omega
    by_cases h0:0<k
    ·have z:((0:Int)<(k:Int))=True:=eq_true (by omega);rw [hno (by simp [chB];omega)];repeat simp -implicitDefEqProofs only [go_sem,seval,hA',n0,hg,hu,Int.toNat_natCast,a1,a3,a4,a5,a6,a7,a8,z,decide_true,decide_false]
    ·have z:((0:Int)<(k:Int))=False:=eq_false (by omega);rw [hno (by simp [chB];omega)];repeat simp -implicitDefEqProofs only [go_sem,seval,hA',n0,hg,hu,Int.toNat_natCast,a1,a3,a4,z,decide_true,decide_false]
   ·have a1:(97≤(c:Int))=False:=eq_false (by omega);have a2:((c:Int)≤122)=True:=eq_true (by omega);have a3:(65≤(c:Int))=True:=eq_true (by omega);have a4:((c:Int)≤90)=False:=eq_false (by omega);have a5:(48≤(c:Int))=True:=eq_true (by omega);have a6:((c:Int)≤57)=False:=eq_false (by omega);have a7:((c:Int)==45)=false:=by simp;omega
    have a8:((c:Int)==95)=true:=by simp;omega
    by_cases h0:0<k
    ·have z:((0:Int)<(k:Int))=True:=eq_true (by omega);repeat simp -implicitDefEqProofs only [go_sem,seval,hA',n0,hg,hu,hwk,Int.toNat_natCast,a1,a3,a4,a5,a6,a7,a8,z,decide_true,decide_false]
     refine⟨⟨k+1,hA,?_⟩,by simp only;omega,?_⟩
     ·rw [hnx];simp [chB];omega
     ·exact Qa0 (by simp [Qac,lkp,ren1,ren0,Qah])
    ·have z:((0:Int)<(k:Int))=False:=eq_false (by omega);rw [hno (by simp [chB];omega)];repeat simp -implicitDefEqProofs only [go_sem,seval,hA',n0,hg,hu,Int.toNat_natCast,a1,a3,a4,z,decide_true,decide_false]
   ·have a1:(97≤(c:Int))=False:=eq_false (by omega);have a2:((c:Int)≤122)=True:=eq_true (by omega);have a3:(65≤(c:Int))=True:=eq_true (by omega);have a4:((c:Int)≤90)=False:=eq_false (by omega);have a5:(48≤(c:Int))=True:=eq_true (by omega);have a6:((c:Int)≤57)=False:=eq_false (by omega);have a7:((c:Int)==45)=false:=by simp;omega
    have a8:((c:Int)==95)=false:=by simp;omega
    by_cases h0:0<k
    ·have z:((0:Int)<(k:Int))=True:=eq_true (by omega);rw [hno (by simp [chB];omega)];repeat simp -implicitDefEqProofs only [go_sem,seval,hA',n0,hg,hu,Int.toNat_natCast,a1,a3,a4,a5,a6,a7,a8,z,decide_true,decide_false]
    ·have z:((0:Int)<(k:Int))=False:=eq_false (by omega);rw [hno (by simp [chB];omega)];repeat simp -implicitDefEqProofs only [go_sem,seval,hA',n0,hg,hu,Int.toNat_natCast,a1,a3,a4,z,decide_true,decide_false]
   ·have a1:(97≤(c:Int))=True:=eq_true (by omega);have a2:((c:Int)≤122)=True:=eq_true (by omega);have a3:(65≤(c:Int))=True:=eq_true (by omega);have a4:((c:Int)≤90)=False:=eq_false (by omega);have a5:(48≤(c:Int))=True:=eq_true (by omega);have a6:((c:Int)≤57)=False:=eq_false (by omega);have a7:((c:Int)==45)=false:=by simp;omega
    have a8:((c:Int)==95)=false:=by simp;omega
    repeat simp -implicitDefEqProofs only [go_sem,seval,hA',n0,hg,hu,hwk,Int.toNat_natCast,a1,a2,decide_true]
    refine⟨⟨k+1,hA,?_⟩,by simp only;omega,?_⟩
    ·rw [hnx];simp [chB];omega
    ·exact Qa0 (by simp [Qac,lkp,ren1,ren0,Qah])
   ·have a1:(97≤(c:Int))=True:=eq_true (by omega);have a2:((c:Int)≤122)=False:=eq_false (by omega);have a3:(65≤(c:Int))=True:=eq_true (by omega);have a4:((c:Int)≤90)=False:=eq_false (by omega);have a5:(48≤(c:Int))=True:=eq_true (by omega);have a6:((c:Int)≤57)=False:=eq_false (by omega);have a7:((c:Int)==45)=false:=by simp;omega
    have a8:((c:Int)==95)=false:=by simp;omega
    by_cases h0:0<k
    ·have z:((0:Int)<(k:Int))=True:=eq_true (by omega);rw [hno (by simp [chB];omega)];repeat simp -implicitDefEqProofs only [go_sem,seval,hA',n0,hg,hu,Int.toNat_natCast,a1,a2,a3,a4,a5,a6,a7,a8,z,decide_true,decide_false]
    ·have z:((0:Int)<(k:Int))=False:=eq_false (by omega);rw [hno (by simp [chB];omega)];repeat simp -implicitDefEqProofs only [go_sem,seval,hA',n0,hg,hu,Int.toNat_natCast,a1,a2,a3,a4,z,decide_true,decide_false]
  ·have hA':=lt_F hA;obtain rfl:k=s.size:=by omega
   rw [fin,hall,Bool.true_and];by_cases h1:1≤s.size
   ·have h1':((1:Int)≤(s.size:Int))=True:=eq_true (by omega);by_cases h2:s.size≤32
    ·have h2':((s.size:Int)≤32)=True:=eq_true (by omega);rw [decide_eq_true h1,decide_eq_true h2];repeat simp -implicitDefEqProofs only [go_sem,seval,hA',h1',h2',decide_true,Bool.and_self]
    ·have h2':((s.size:Int)≤32)=False:=eq_false (by omega);rw [decide_eq_true h1,decide_eq_false h2];repeat simp -implicitDefEqProofs only [go_sem,seval,hA',h1',h2',decide_true,decide_false,Bool.and_false]
   ·have h1':((1:Int)≤(s.size:Int))=False:=eq_false (by omega);rw [decide_eq_false h1];repeat simp -implicitDefEqProofs only [go_sem,seval,hA',h1',decide_false,Bool.false_and]
def acV (a:Ac):PV:= .agg [.str a.nm,.int .i64 a.ln,.slc (a.mv.map mvV)]
def pgV (p:Pg):PV:= .agg [.slc (p.ns.map PV.str),.slc (p.hs.map v3PV),.slc (p.as_.map acV)]
theorem T_n1:Qn7 Tryz.prog 174=some (9,4):=by kernel_rfl
theorem T_n2:Qwf Tryz.prog 9=some [2]:=by kernel_rfl
theorem T_n3:Qa8 Tryz.prog 9=false:=by kernel_rfl
theorem T_n4:Qar Tryz.prog 4=some (.bool false):=by kernel_rfl
theorem T_p1:Qn7 Tryz.prog 175=some (52,4):=by kernel_rfl
theorem T_p2:Qwf Tryz.prog 52=some [1,1,1]:=by kernel_rfl
theorem T_p3:Qa8 Tryz.prog 52=true:=by kernel_rfl
theorem Zop {p:Pg} {i:Nat} (h:i<p.ns.length):(p.ns.map PV.str)[i]? =some (.str (nmAt p i)):=by
 unfold nmAt;rw [List.getElem?_map,List.getElem?_eq_getElem h,List.getD_eq_getElem?_getD,List.getElem?_eq_getElem h];rfl
theorem Zyg {p:Pg} {i:Nat} (h:i<p.hs.length):(p.hs.map v3PV)[i]? =some (.agg [.int .i64 (hmAt p i).x,.int .i64 (hmAt p i).y,.int .i64 (hmAt p i).z]):=Qsn p.hs i h
theorem Zq0 {p:Pg} {i:Nat} (h:i<p.ns.length):p.ns.take (i+1)=p.ns.take i++[nmAt p i]:=by
 rw [Qjz _ _ h];unfold nmAt;rw [List.getD_eq_getElem?_getD,List.getElem?_eq_getElem h];rfl
theorem Zq1 {p:Pg} {i:Nat} (h:i<p.hs.length):p.hs.take (i+1)=p.hs.take i++[hmAt p i]:=by
 rw [Qjz _ _ h];unfold hmAt;rw [List.getD_eq_getElem?_getD,List.getElem?_eq_getElem h];rfl
def okPg (p:Pg):Prop:= ∀i,(nmAt p i).size≤9223372036854775806
set_option maxRecDepth 100000 in
set_option maxHeartbeats 4000000 in
theorem Zyh (p:Pg) (hp:okPg p) (hn:p.ns.length≤maxLen):Qaf Tryz.prog 62 [pgV p] (.bool (Qn2 p)):=by
 have hm:p.ns.length≤9223372036854775807:=by unfold maxLen at hn;exact hn
 unfold Qn2;by_cases e1:1≤p.ns.length
 case neg=>
  have e1':((p.ns.length:Int)<1)=True:=eq_true (by omega);rw [decide_eq_false e1];refine Qab (tb:=[]) 71 [.tmp 2] [0,1,2,3,4,5,6,7,23,27,28,29,30,59] mixed Tryz.func62 rfl (by kernel_rfl) ?_;repeat simp -implicitDefEqProofs only [go_sem,seval,pgV,e1',decide_true,List.length_map,Bool.false_and]
 have e1':((p.ns.length:Int)<1)=False:=eq_false (by omega);by_cases e2:p.ns.length≤64
 case neg=>
  have e2':((64:Int)<(p.ns.length:Int))=True:=eq_true (by omega);rw [decide_eq_false e2];refine Qab (tb:=[]) 71 [.tmp 2] [0,1,2,3,4,5,6,7,23,27,28,29,30,59] mixed Tryz.func62 rfl (by kernel_rfl) ?_;repeat simp -implicitDefEqProofs only [go_sem,seval,pgV,e1',e2',decide_true,decide_false,List.length_map,Bool.false_and,Bool.and_false]
 have e2':((64:Int)<(p.ns.length:Int))=False:=eq_false (by omega);by_cases e3:p.hs.length=p.ns.length
 case neg=>
  have e3':((p.hs.length:Int) != (p.ns.length:Int))=true:=by simp;omega
  rw [decide_eq_false e3];refine Qab (tb:=[]) 71 [.tmp 2] [0,1,2,3,4,5,6,7,23,27,28,29,30,59] mixed Tryz.func62 rfl (by kernel_rfl) ?_;repeat simp -implicitDefEqProofs only [go_sem,seval,pgV,e1',e2',e3',decide_true,decide_false,List.length_map,Bool.false_and,Bool.and_false]
 have e3':((p.hs.length:Int) != (p.ns.length:Int))=false:=by simp;omega
 rw [decide_eq_true e1,decide_eq_true e2,decide_eq_true e3,Bool.true_and,Bool.true_and,Bool.true_and];refine Qab (tb:=[]) 71 [.tmp 2] [0,1,2,3,4,5,6,7,23,27,28,29,30,59] mixed Tryz.func62 rfl (by kernel_rfl) ?_;repeat simp -implicitDefEqProofs only [go_sem,seval,T_n1,T_p1,pgV,e1',e2',e3',decide_true,decide_false,List.length_map]
 refine Qas mixed (fun k:{k:Nat // k≤p.ns.length∧Qic p k=true}=>St.of [(1,.bp 0 3 0 0),(2,.bool false),(3,.int .i64 (p.ns.length:Int)),(4,.mp 400),(5,.mp 401),(27,.slc (p.ns.map PV.str)),(28,.int .i64 (p.ns.length:Int)),(29,.int .i64 (k.1:Int))]
  [(0,{els:=[pgV p],esz:=3,ety:=26,fro:=0,live:=true,arr:=false}),(400,{els:=[],esz:=1,ety:=174,fro:=0,live:=true,arr:=true,mp:=some (Qid (p.ns.take k.1))}),(401,{els:=[],esz:=1,ety:=175,fro:=0,live:=true,arr:=true,mp:=some (Qdi (p.hs.take k.1))})]) (fun k=>p.ns.length-k.1) ⟨0,Nat.zero_le _,rfl⟩ ?_ ?_
 ·refine Qaj (θ:=[(0,0),(400,400),(401,401)]) rfl ?_ ?_
  ·simp [Qac,lkp,ren1,ren0,Qah,pgV]
  ·exact⟨⟨rfl,rfl,rfl,rfl,rfl,.inr ⟨rfl,_,_,rfl,rfl,rfl,rfl⟩⟩,⟨rfl,rfl,rfl,rfl,rfl,.inl ⟨rfl,rfl⟩⟩,⟨rfl,rfl,rfl,rfl,rfl,.inl ⟨rfl,rfl⟩⟩,trivial⟩
 ·rintro⟨k,hk,hall⟩;simp only;by_cases hA:k<p.ns.length
  ·have hA':=lt_T hA;have n0:=nn_T k;have hB:k<p.hs.length:=by omega
   have g1:=Zop hA;have g2:=Zyg hB;have hwk:=wr_1 (n:=k) (by omega);have hnx:=Ql4 p k;rw [hall,Bool.true_and]at hnx;unfold Q36 at hnx;have hno: ∀b,Qic p (k+1)=b→b=false→Qic p p.ns.length=false:=fun b h e=>Q37 (h.trans e) hA;have c1:=Zoo (nmAt p k) (hp k);have c2:=Qfh (hmAt p k);have sN:=Zq0 hA;have sP:=Zq1 hB;have hN:=Qum (p.ns.take k) (nmAt p k);have hP:=Qr2 (p.hs.take k) (hmAt p k);rw [←sN]at hN;rw [←sP]at hP;cases b1:Qul (nmAt p k)with
   |false=>
    rw [b1]at c1 hnx;rw [hno _ hnx rfl];generalize nmAt p k=s at*;repeat (first|simp -implicitDefEqProofs only [go_sem,seval,T_n3,hA',n0,g1,Int.toNat_natCast,Bool.not_false,pgV]|(with_reducible refine Qaa c1 ?_ ?_ ?_);rfl;rfl)
   |true=>
   rw [b1,Bool.true_and]at hnx;rw [b1]at c1;cases b2:memN (nmAt p k) (p.ns.take k)with
   |true=>
    rw [b2]at hnx;rw [hno _ hnx rfl];have f1:=Qpv b2;generalize nmAt p k=s at*;repeat (first|simp -implicitDefEqProofs only [go_sem,seval,T_n1,T_n2,T_n3,T_n4,hA',n0,g1,f1,Int.toNat_natCast,Bool.not_true,pgV]|(with_reducible refine Qaa c1 ?_ ?_ ?_);rfl;rfl)
   |false=>
   have f1:=Qr1 b2;rw [b2,Bool.not_false,Bool.true_and]at hnx;cases b3:ptB (hmAt p k)with
   |false=>
    rw [b3]at hnx c2;rw [hno _ hnx rfl];generalize nmAt p k=s at*;generalize hmAt p k=v at*;unfold v3PV at c2;repeat (first|simp -implicitDefEqProofs only [go_sem,seval,T_n1,T_n2,T_n3,T_n4,T_p3,hA',n0,g1,g2,f1,Int.toNat_natCast,Bool.not_true,Bool.not_false,pgV]|(with_reducible refine Qaa c1 ?_ ?_ ?_);rfl;rfl|(with_reducible refine Qaa c2 ?_ ?_ ?_);rfl;rfl)
   |true=>
   rw [b3]at c2;rw [b3,Bool.true_and]at hnx;cases b4:memP (hmAt p k) (p.hs.take k)with
   |true=>
    rw [b4]at hnx;rw [hno _ hnx rfl];have f2:=Qn3 b4;generalize nmAt p k=s at*;generalize hmAt p k=v at*;unfold v3PV at c2;repeat (first|simp -implicitDefEqProofs only [go_sem,seval,T_n1,T_n2,T_n3,T_n4,T_p1,T_p2,T_p3,hA',n0,g1,g2,f1,f2,Int.toNat_natCast,Bool.not_true,pgV]|(with_reducible refine Qaa c1 ?_ ?_ ?_);rfl;rfl|(with_reducible refine Qaa c2 ?_ ?_ ?_);rfl;rfl)
   |false=>
    have f2:=Qpw b4;rw [b4]at hnx;have hln:((Qdi (p.hs.take k)).length:Int)<(((Qdi (p.hs.take k))++[((.agg [.int .i64 (hmAt p k).x,.int .i64 (hmAt p k).y,.int .i64 (hmAt p k).z]:PV),(.bool false:PV))]).length:Int):=by simp;omega
    have hln':=eq_true hln;have n1:=nn_T (Qdi (p.hs.take k)).length;generalize nmAt p k=s at*;generalize hmAt p k=v at*;generalize hTN:Qid (p.ns.take k)=TN at*;generalize hTP:Qdi (p.hs.take k)=TP at*;unfold v3PV at c2;repeat (first|simp -implicitDefEqProofs only [go_sem,seval,T_n1,T_n2,T_n3,T_n4,T_p1,T_p2,T_p3,hA',n0,n1,g1,g2,f1,f2,hwk,hln',Int.toNat_natCast,Bool.not_true,pgV]|(with_reducible refine Qaa c1 ?_ ?_ ?_);rfl;rfl|(with_reducible refine Qaa c2 ?_ ?_ ?_);rfl;rfl)
    refine⟨⟨k+1,hA,hnx⟩,by simp only;omega,?_⟩;simp only [←hN,←hP];refine Qaj (θ:=[(0,0),(400,400),(401,401)]) rfl ?_ ?_
    ·simp [Qac,lkp,ren1,ren0,Qah,pgV]
    ·exact⟨⟨rfl,rfl,rfl,rfl,rfl,.inr ⟨rfl,_,_,rfl,rfl,rfl,rfl⟩⟩,⟨rfl,rfl,rfl,rfl,rfl,.inl ⟨rfl,rfl⟩⟩,⟨rfl,rfl,rfl,rfl,rfl,.inl ⟨rfl,rfl⟩⟩,trivial⟩
  ·have hA':=lt_F hA;obtain rfl:k=p.ns.length:=by omega
   rw [hall];repeat simp -implicitDefEqProofs only [go_sem,seval,hA']
theorem Zyi (l:List V3):((l.map v3PV).all fun e=>e.cells.length==3&&e.cells.all PV.okCell)=true:=by
 rw [List.all_map,List.all_eq_true];intro _ _;rfl
theorem Zoq (l:List V3):(((l.map v3PV).flatMap PV.cells).all PV.okCell)=true:=by
 rw [List.all_flatMap,List.all_map,List.all_eq_true];intro _ _;rfl
theorem Ze4 (l:List V3) (hl:l≠ []) (hl2:l.length≤100000):Qaf Tryz.prog 111 [psV l] (psV l):=by
 have h0:(l.map v3PV).isEmpty=false:=by cases l with|nil=>exact absurd rfl hl|cons=>rfl
 have h1:(l.length*24≤140737488355328)=True:=eq_true (by omega);have h2:(l.length≤maxLen)=True:=eq_true (by unfold maxLen;omega);have h3:(l.map v3PV).take l.length=l.map v3PV:=List.take_of_length_le (by simp);have h4:=Zoq l;have h5:=Zyi l;unfold psV;refine Qab (tb:=[]) 8 [.tmp 2] [0,2,4] mixed Tryz.func111 rfl (by kernel_rfl) ?_;repeat simp -implicitDefEqProofs only [go_sem,seval,h0,List.length_map,h1,h2,h3,h5]
theorem Qmk {p:Pg} {i:Nat} (h:i<p.as_.length):(p.as_.map acV)[i]? =some (.agg [.str (p.as_.getD i ac0).nm,.int .i64 (p.as_.getD i ac0).ln,.slc ((p.as_.getD i ac0).mv.map mvV)]):=by
 rw [List.getElem?_map,List.getElem?_eq_getElem h,List.getD_eq_getElem?_getD,List.getElem?_eq_getElem h];rfl
theorem Zor {l:List Mv} {i:Nat} (h:i<l.length):(l.map mvV)[i]? =some (.agg [.int .i64 (l.getD i mv0).to.x,.int .i64 (l.getD i mv0).to.y,.int .i64 (l.getD i mv0).to.z,.int .i64 (l.getD i mv0).w,.int .i64 (l.getD i mv0).f,.int .i64 (l.getD i mv0).r]):=by
 rw [List.getElem?_map,List.getElem?_eq_getElem h,List.getD_eq_getElem?_getD,List.getElem?_eq_getElem h];rfl
theorem Zq2 {l:List Mv} {i:Nat} (h:i<l.length):((l.take (i+1)).map Mv.to).map v3PV=((l.take i).map Mv.to).map v3PV++[.agg [.int .i64 (l.getD i mv0).to.x,.int .i64 (l.getD i mv0).to.y,.int .i64 (l.getD i mv0).to.z]]:=by
 rw [Qjz _ _ h,List.map_append,List.map_append,List.getD_eq_getElem?_getD,List.getElem?_eq_getElem h];rfl
set_option maxRecDepth 100000 in
set_option maxHeartbeats 2000000 in
theorem Zyj (p:Pg) (k:Nat) (hk:k≤p.as_.length) (h0:p.hs≠ []) (hh:p.hs.length≤100000) (hm: ∀i,(p.as_.getD i ac0).mv.length≤100000) (hl:p.as_.length≤100000):Qaf Tryz.prog 87 [pgV p,.int .i64 (k:Int)] (psV (Qcg p k)):=by
 have hc:=Ze4 p.hs h0 hh;unfold psV at hc;cases k with
 |zero=>
  have e:Qcg p 0=p.hs:=rfl;have e0:(((0:Nat):Int)==0)=true:=rfl;rw [e];unfold psV pgV;refine Qab (tb:=[]) 32 [.tmp 4] [0,1,2,4,5,7,9,19,20,21,22] mixed Tryz.func87 rfl (by kernel_rfl) ?_;repeat (first|simp -implicitDefEqProofs only [go_sem,seval,e0]|(with_reducible refine Qaa hc ?_ ?_ ?_);rfl;rfl)
 |succ k=>
  have e:Qcg p (k+1)=(p.as_.getD k ac0).mv.map Mv.to:=rfl;have e0:(((k+1:Nat):Int)==0)=false:=by simp;omega
  have wk:IntKind.i64.wrap (((k+1:Nat):Int)-1)=(k:Int):=by rw [Qag (by omega) (by omega)];omega
  have n0:=nn_T k;have ga:=Qmk (p:=p) (i:=k) (by omega);have hml:=hm k;rw [e];generalize p.as_.getD k ac0=a at*;unfold psV pgV;refine Qab (tb:=[]) 32 [.tmp 4] [0,1,2,4,5,7,9,19,20,21,22] mixed Tryz.func87 rfl (by kernel_rfl) ?_;repeat simp -implicitDefEqProofs only [go_sem,seval,e0,wk,n0,ga,Int.toNat_natCast,List.length_map]
  refine Qas mixed (fun i:{i:Nat // i≤a.mv.length}=>St.of [(5,.bs 7 3 0 i.1),(19,.slc (a.mv.map mvV)),(20,.int .i64 (a.mv.length:Int)),(21,.int .i64 (i.1:Int))]
   [(7,{els:=((a.mv.take i.1).map Mv.to).map v3PV,esz:=3,ety:=52,fro:=0,live:=true,arr:=true})]) (fun i=>a.mv.length-i.1) ⟨0,Nat.zero_le _⟩ ?_ ?_
  ·refine Qnw 5 7 3 52 rfl rfl rfl (by decide) [(7,7)] rfl ?_ ?_
   ·simp [Qac,lkp,ren1,ren0,Qah]
   ·exact⟨⟨rfl,rfl,rfl,rfl,rfl,.inl ⟨rfl,rfl⟩⟩,trivial⟩
  ·rintro⟨i,hi⟩;simp only;by_cases hA:i<a.mv.length
   ·have hA':=lt_T hA;have n1:=nn_T i;have gm:=Zor hA;have hwk:=wr_1 (n:=i) (by omega);have hlt:(((a.mv.take i).map Mv.to).map v3PV).length=i:=by simp;omega
    have hok:=Zoq ((a.mv.take i).map Mv.to);have k1:((i+1)*24≤140737488355328)=True:=eq_true (by omega);have k2:(i+1≤maxLen)=True:=eq_true (by unfold maxLen;omega);have hts:=Zq2 hA;generalize ((a.mv.take i).map Mv.to).map v3PV=T at*;generalize a.mv.getD i mv0=m at*;repeat simp -implicitDefEqProofs only [go_sem,seval,hA',n1,gm,hwk,hlt,hok,k1,k2,Int.toNat_natCast]
    refine⟨⟨i+1,hA⟩,by simp only;omega,Qaj (θ:=[(7,704)]) rfl ?_ ?_⟩
    ·simp [Qac,lkp,ren1,ren0,Qah]
    ·simp only [hts];exact⟨⟨rfl,rfl,rfl,rfl,rfl,.inl ⟨rfl,rfl⟩⟩,trivial⟩
   ·have hA':=lt_F hA;obtain rfl:i=a.mv.length:=by omega
    have ht:a.mv.take a.mv.length=a.mv:=List.take_length;have hlt:((a.mv.map Mv.to).map v3PV).length=a.mv.length:=by simp
    have htk:((a.mv.map Mv.to).map v3PV).take a.mv.length=(a.mv.map Mv.to).map v3PV:=List.take_of_length_le (by simp);simp only [ht];generalize (a.mv.map Mv.to).map v3PV=T at*;repeat simp -implicitDefEqProofs only [go_sem,seval,hA',hlt,htk]
theorem Q57 (p:Pg) (k:Nat) (t:Int):Qaf Tryz.prog 64 [pgV p,.int .i64 (k:Int),.int .i64 t] (.fn 86 [] [.rp (pgV p).cells,.rp [.int .i64 (k:Int)],.rp [.int .i64 t]]):=by
 unfold pgV;refine Qab (tb:=[]) 8 [.tmp 6] [0,1,2,3,4,5,6] mixed Tryz.func64 rfl (by kernel_rfl) ?_;repeat simp -implicitDefEqProofs only [go_sem,seval]
def pthO (fr:List V3) (ms:List Mv) (at_ ln:Int) (i:Nat):List PV:=[pV (mvP (fr.getD i v0) (ms.getD i mv0) at_ ln),.int .i64 (mvE (fr.getD i v0) (ms.getD i mv0) at_ ln)]
def Qla (fr:List V3) (ms:List Mv) (at_ ln:Int):List (List PV):=(List.range fr.length).map (pthO fr ms at_ ln)
theorem Qml (fr:List V3) (ms:List Mv) (at_ ln:Int):(Qla fr ms at_ ln).length=fr.length:=by simp [Qla]
theorem Qmm (fr:List V3) (ms:List Mv) (at_ ln:Int) {i:Nat} (h:i<fr.length):(Qla fr ms at_ ln)[i]? =some (pthO fr ms at_ ln i):=by simp [Qla,h]
set_option maxRecDepth 100000 in
set_option maxHeartbeats 4000000 in
theorem Qyi (p:Pg) (k:Nat) (t:Int) (hk:k<p.as_.length) (h0:p.hs≠ []) (hh:p.hs.length≤100000) (hm: ∀i,(p.as_.getD i ac0).mv.length≤100000) (hl:p.as_.length≤100000) (hn:(Qcg p k).length≤(p.as_.getD k ac0).mv.length):
  Qf3 Tryz.prog 86 [.rp (pgV p).cells,.rp [.int .i64 (k:Int)],.rp [.int .i64 t]] (Qla (Qcg p k) (p.as_.getD k ac0).mv t (p.as_.getD k ac0).ln):=by
 have hf:=Zyj p k (by omega) h0 hh hm hl;have n0:=nn_T k;have ga:=Qmk hk;have hml:=hm k;have hlO:=Qml (Qcg p k) (p.as_.getD k ac0).mv t (p.as_.getD k ac0).ln;have hgO:=fun i h=>Qmm (Qcg p k) (p.as_.getD k ac0).mv t (p.as_.getD k ac0).ln (i:=i) h;unfold psV pgV at hf;unfold pgV;simp only [PV.cells];generalize p.as_.getD k ac0=a at*;generalize Qcg p k=F at*;generalize hOO:Qla F a.mv t a.ln=OO at*;refine Qnx (tb:=[]) 38 [0,1,2,3,5,6,7,15,16,17,18,36] mixed Tryz.func86 rfl (by kernel_rfl) (by kernel_rfl) (by kernel_rfl) (by kernel_rfl) fun l stop=> ?_;repeat (first|simp -implicitDefEqProofs only [go_sem,seval,n0,ga,Int.toNat_natCast,List.length_map]|(with_reducible refine Qaa hf ?_ ?_ ?_);rfl;rfl)
 refine Qas mixed (fun i:{i:Nat // i≤F.length∧i≤stop}=>St.ofG [(0,.yld l stop),(1,.rp [.slc (p.ns.map PV.str),.slc (p.hs.map v3PV),.slc (p.as_.map acV)]),(2,.rp [.int .i64 (k:Int)]),(3,.rp [.int .i64 t]),(5,.bp 5 3 0 0),(15,.slc (F.map v3PV)),(16,.int .i64 (F.length:Int)),(17,.int .i64 (i.1:Int))]
  [(5,{els:=[.agg [.str a.nm,.int .i64 a.ln,.slc (a.mv.map mvV)]],esz:=3,ety:=89,fro:=0,live:=true,arr:=false})] (OO.take i.1) (some (l,stop,OO))) (fun i=>F.length-i.1) ⟨0,Nat.zero_le _,Nat.zero_le _⟩ ?_ ?_
 ·refine Qaj (θ:=[(5,5)]) rfl ?_ ?_
  ·simp [Qac,lkp,ren1,ren0,Qah]
  ·exact⟨⟨rfl,rfl,rfl,rfl,rfl,.inr ⟨rfl,_,_,rfl,rfl,rfl,rfl⟩⟩,trivial⟩
 ·rintro⟨i,hi,hst⟩;simp only;have hlen:(OO.take i).length=i:=by rw [List.length_take];omega
  by_cases hA:i<F.length
  ·have hA':=lt_T hA;have n1:=nn_T i;have g1:=Qsn F i hA;have g2:=Zor (l:=a.mv) (i:=i) (by omega);have hwk:=wr_1 (n:=i) (by omega);have hP:=Zqy (F.getD i v0) (a.mv.getD i mv0) t a.ln;have hgt:=hgO i hA;have htk:OO.take (i+1)=OO.take i++[pthO F a.mv t a.ln i]:=by rw [List.take_add_one,hgt];rfl
   unfold pthO at hgt htk;generalize mvP (F.getD i v0) (a.mv.getD i mv0) t a.ln=S at*;generalize mvE (F.getD i v0) (a.mv.getD i mv0) t a.ln=E at*;generalize F.getD i v0=va at*;generalize a.mv.getD i mv0=m at*;unfold v3PV mvV at hP;unfold pV at hP hgt htk;have hst':(i≤stop)=True:=eq_true hst;by_cases hlt:i<stop
   ·have hlt':(i<stop)=True:=eq_true hlt;repeat (first|simp -implicitDefEqProofs only [go_sem,seval,hA',n1,g1,g2,hwk,hlen,hgt,hst',hlt',Int.toNat_natCast]|(with_reducible refine Qaa hP ?_ ?_ ?_);rfl;rfl|(with_reducible refine And.intro (Qad _ _ (by kernel_rfl)) ?_))
    refine⟨⟨i+1,hA,hlt⟩,by simp only;omega,?_⟩;simp only [htk];refine Qaj (θ:=[(5,5)]) rfl ?_ ?_
    ·simp [Qac,lkp,ren1,ren0,Qah]
    ·exact⟨⟨rfl,rfl,rfl,rfl,rfl,.inr ⟨rfl,_,_,rfl,rfl,rfl,rfl⟩⟩,trivial⟩
   ·have hlt':(i<stop)=False:=eq_false hlt;obtain rfl:i=stop:=by omega
    repeat (first|simp -implicitDefEqProofs only [go_sem,seval,hA',n1,g1,g2,hlen,hgt,hst',hlt',Qh5,htk,Int.toNat_natCast]|(with_reducible refine Qaa hP ?_ ?_ ?_);rfl;rfl|(with_reducible exact Qad _ _ (by kernel_rfl)))
  ·have hA':=lt_F hA;have e1:OO.take i=OO:=List.take_of_length_le (by omega);have e2:OO.take (stop+1)=OO:=List.take_of_length_le (by omega);rw [e1];repeat simp -implicitDefEqProofs only [go_sem,seval,hA',Qh5,e2]
structure okP (p:Pg):Prop where
 n:p.ns.length≤100000
 h:p.hs.length≤100000
 a:p.as_.length≤100000
 s: ∀i,(nmAt p i).size≤100000
 m: ∀i,(p.as_.getD i ac0).mv.length≤100000∧(p.as_.getD i ac0).nm.size≤100000
def vB (p:Pg) (a:Ac) (n:Nat) (L:List Int) (i:Nat):List (Nat×Box):=[(1000000,{els:=[.bs 1000001 1 0 n],esz:=1,ety:=139,fro:=0,live:=true,arr:=false}),(1000001,{els:=L.map (PV.int .i64),esz:=1,ety:=3,fro:=0,live:=true,arr:=true}),(1000002,{els:=[.int .i64 (i:Int)],esz:=1,ety:=3,fro:=0,live:=true,arr:=false}),(1000003,{els:=[.bool false],esz:=1,ety:=4,fro:=0,live:=true,arr:=false}),
 (1000004,{els:=[.agg [.slc (p.ns.map PV.str),.slc (p.hs.map v3PV),.slc (p.as_.map acV)]],esz:=3,ety:=26,fro:=0,live:=true,arr:=false}),(1000005,{els:=[.agg [.str a.nm,.int .i64 a.ln,.slc (a.mv.map mvV)]],esz:=3,ety:=89,fro:=0,live:=true,arr:=false})]
theorem vB_N (p:Pg) (a:Ac) (n:Nat) (L:List Int) (i:Nat): ∀b∈ [1000000,1000001,1000002,1000003,1000004,1000005],(lkp (vB p a n L i) b).isSome=true:=by
 simp [vB,lkp]
def vC (p:Pg) (a:Ac) (n:Nat) (F:List V3) (t:Int) (many:List Int) (m j:Nat):List (Nat×Box):=if j=m+1 then vB p a n (Qbe F a.mv t a.ln many (m+1)) m else vB p a n (Qbe F a.mv t a.ln many j) j
def vI (n:Nat) (p:Pg) (q:Nat×Int×List Int):Prop:=q.1≤p.as_.length∧goB n (Qcg p q.1) q.2.1 q.2.2 (p.as_.drop q.1)=goB n p.hs 0 (List.replicate n 0) p.as_∧(0≤q.2.1∧q.2.1≤3600000)∧q.2.2.length=n∧(∀i,0≤q.2.2.getD i 0∧q.2.2.getD i 0≤256)∧(Qcg p q.1).length=n
theorem Zq3 {n:Nat} {p:Pg} (h:p.hs.length=n):vI n p (0,0,List.replicate n 0):=by
 refine⟨Nat.zero_le _,rfl,⟨Int.le_refl _,(show(0:Int)≤3600000 by decide)⟩,by simp,fun i=> ?_,h⟩;rw [List.getD_eq_getElem?_getD,List.getElem?_replicate];split<;>simp
theorem Q58 {fr:List V3} {ms:List Mv} {t ln:Int} {many:List Int} {k:Nat} (hb: ∀i,0≤many.getD i 0∧many.getD i 0≤256) (hok:okTo fr ms t ln many k=true) (i:Nat):0≤(Qbe fr ms t ln many k).getD i 0∧(Qbe fr ms t ln many k).getD i 0≤256:=by
 rw [List.getD_eq_getElem?_getD];by_cases hi:i<many.length
 ·rw [Qb9 hi];by_cases hk:i<k
  ·rw [if_pos hk];have:=List.all_eq_true.1 hok i (List.mem_range.2 hk);unfold okAt at this;simp only [Bool.and_eq_true,decide_eq_true_eq]at this;have h0:=(hb i).1;simp only [Option.getD_some];unfold Qdb at*;omega
  ·rw [if_neg hk];exact hb i
 ·rw [List.getElem?_eq_none (by rw [Qbx];omega)];simp
theorem Zq4 {n:Nat} {p:Pg} {k:Nat} {t:Int} {many:List Int} (h:vI n p (k,t,many)) (hk:k<p.as_.length) (ha:actB n t (p.as_.getD k ac0)=true) (hok:okTo (Qcg p k) (p.as_.getD k ac0).mv t (p.as_.getD k ac0).ln many n=true):
  vI n p (k+1,t+(p.as_.getD k ac0).ln,Qbe (Qcg p k) (p.as_.getD k ac0).mv t (p.as_.getD k ac0).ln many n):=by
 obtain⟨h1,h2,h3,h4,h5,h6⟩:=h;simp only at h1 h2 h3 h4 h5 h6;have hd:p.as_.drop k=p.as_.getD k ac0::p.as_.drop (k+1):=by
  rw [List.drop_eq_getElem_cons hk,List.getD_eq_getElem?_getD,List.getElem?_eq_getElem hk];rfl
 have hf:Qcg p (k+1)=(p.as_.getD k ac0).mv.map Mv.to:=rfl;unfold actB at ha;simp only [Bool.and_eq_true,decide_eq_true_eq]at ha;obtain⟨a1,a2,a3,a4⟩:=ha;refine⟨hk,?_,⟨by simp only;omega,by simp only;omega⟩,by simp only;rw [Qbx];exact h4,fun i=>Q58 h5 hok i,by simp only;rw [hf];simpa using a4⟩;rw [←h2,hd];simp only [goB,h6,hok,hf];have:actB n t (p.as_.getD k ac0)=true:=by unfold actB;simp only [Bool.and_eq_true,decide_eq_true_eq];exact⟨a1,a2,a3,a4⟩
 rw [this];rfl
theorem Zyk {n:Nat} {p:Pg} {k:Nat} {t:Int} {many:List Int} (h:vI n p (k,t,many)) (hk:k<p.as_.length) (hb:(actB n t (p.as_.getD k ac0)&&okTo (Qcg p k) (p.as_.getD k ac0).mv t (p.as_.getD k ac0).ln many n)=false):goB n p.hs 0 (List.replicate n 0) p.as_=false:=by
 obtain⟨h1,h2,h3,h4,h5,h6⟩:=h;simp only at h1 h2 h3 h4 h5 h6;have hd:p.as_.drop k=p.as_.getD k ac0::p.as_.drop (k+1):=by
  rw [List.drop_eq_getElem_cons hk,List.getD_eq_getElem?_getD,List.getElem?_eq_getElem hk];rfl
 rw [←h2,hd];simp only [goB,h6];rw [←Bool.and_assoc,hb,Bool.false_and]
theorem Ze5 {fr:List V3} {ms:List Mv} {t ln:Int} {many:List Int} {n:Nat} (h:okTo fr ms t ln many n=false): ∃m,m<n∧okTo fr ms t ln many m=true∧okAt fr ms t ln many m=false:=by
 induction n with
 |zero=>cases h
 |succ n ih=>
  cases e:okTo fr ms t ln many n with
  |true=>
   rw [Q38,e,Bool.true_and]at h;exact⟨n,by omega,e,h⟩
  |false=>obtain⟨m,h1,h2⟩:=ih e;exact⟨m,by omega,h2⟩
set_option maxRecDepth 100000 in
set_option maxHeartbeats 8000000 in
theorem Qgc (p:Pg) (hp:okP p):Qaf Tryz.prog 39 [pgV p] (.bool (Qbd p)):=by
 have hpn:=hp.n;have hph:=hp.h;have hpa:=hp.a;have hcr:=Zyh p (fun i=>by have:=hp.s i;omega) (by unfold maxLen;omega);unfold Qbd;unfold pgV at hcr ⊢;cases e1:Qn2 p with
 |false=>
  rw [e1]at hcr;refine Qab (tb:=[]) 86 [.cell 2 4] [0,1,2,3,4,5,6,7,8,9,18,24,25,26,27,55,59,60,61,78] mixed Tryz.func39 rfl (by kernel_rfl) ?_;repeat (first|simp -implicitDefEqProofs only [go_sem,Nat.reduceAdd,Nat.reduceMul,Nat.reduceEqDiff,Nat.reduceLT,Nat.reduceLeDiff,reduceCtorEq,Bool.not_false,Bool.false_and]|(with_reducible refine Qaa hcr ?_ ?_ ?_);rfl;rfl)
 |true=>
 rw [e1]at hcr;by_cases e2:p.as_.length≤60
 case neg=>
  have e2':((60:Int)<(p.as_.length:Int))=True:=eq_true (by omega);rw [decide_eq_false e2];refine Qab (tb:=[]) 86 [.cell 2 4] [0,1,2,3,4,5,6,7,8,9,18,24,25,26,27,55,59,60,61,78] mixed Tryz.func39 rfl (by kernel_rfl) ?_;repeat (first|simp -implicitDefEqProofs only [go_sem,Nat.reduceAdd,Nat.reduceMul,Nat.reduceEqDiff,Nat.reduceLT,Nat.reduceLeDiff,reduceCtorEq,Bool.not_true,e2',decide_true,List.length_map,Bool.false_and,Bool.and_false]|(with_reducible refine Qaa hcr ?_ ?_ ?_);rfl;rfl)
 have e2':((60:Int)<(p.as_.length:Int))=False:=eq_false (by omega);rw [decide_eq_true e2,Bool.true_and,Bool.true_and];obtain⟨z1,z2,z3⟩:1≤p.ns.length∧p.ns.length≤64∧p.hs.length=p.ns.length:=by
  unfold Qn2 at e1;simp only [Bool.and_eq_true,decide_eq_true_eq]at e1;exact⟨e1.1,e1.2.1,e1.2.2.1⟩
 have hne:p.hs≠ []:=by intro h;rw [h]at z3;simp at z3;omega
 obtain⟨n,hn⟩: ∃n,p.ns.length=n:=⟨_,rfl⟩;rw [hn];rw [hn]at z1 z2 z3;have mk1:(((8:Nat):Int)*(n:Int)≤281474976710656)=True:=eq_true (by omega);have mk2:((n:Int)≤9223372036854775807)=True:=eq_true (by omega);have n00:=nn_T n;refine Qab (tb:=[]) 86 [.cell 2 4] [0,1,2,3,4,5,6,7,8,9,18,24,25,26,27,55,59,60,61,78] mixed Tryz.func39 rfl (by kernel_rfl) ?_;repeat (first|simp -implicitDefEqProofs only [go_sem,Nat.reduceAdd,Nat.reduceMul,Nat.reduceEqDiff,Nat.reduceLT,Nat.reduceLeDiff,reduceCtorEq,Bool.not_true,e2',hn,mk1,mk2,n00,decide_false,decide_true,Int.toNat_natCast,List.length_map]|(with_reducible refine Qaa hcr ?_ ?_ ?_);rfl;rfl)
 refine Qas mixed (fun q:{q:Nat×Int×List Int // vI n p q}=>St.of [(1,.bp 0 3 0 0),(2,.bp 1 1 0 0),(3,.int .i64 q.1.2.1),(4,.bp 404 1 0 0),(24,.slc (p.as_.map acV)),(25,.int .i64 (p.as_.length:Int)),(26,.int .i64 (q.1.1:Int))]
  [(0,{els:=[.agg [.slc (p.ns.map PV.str),.slc (p.hs.map v3PV),.slc (p.as_.map acV)]],esz:=3,ety:=26,fro:=0,live:=true,arr:=false}),(1,{els:=[.bool false],esz:=1,ety:=4,fro:=0,live:=true,arr:=false}),(404,{els:=[.bs 403 1 0 n],esz:=1,ety:=139,fro:=0,live:=true,arr:=false}),(403,{els:=q.1.2.2.map (PV.int .i64),esz:=1,ety:=3,fro:=0,live:=true,arr:=true})]) (fun q=>p.as_.length-q.1.1) ⟨(0,0,List.replicate n 0),Zq3 z3⟩ ?_ ?_
 ·refine Qaj (θ:=[(0,0),(1,1),(404,404),(403,403)]) rfl ?_ ?_
  ·simp [Qac,lkp,ren1,ren0,Qah]
  ·simp only [List.map_replicate];exact⟨⟨rfl,rfl,rfl,rfl,rfl,.inr ⟨rfl,_,_,rfl,rfl,rfl,rfl⟩⟩,⟨rfl,rfl,rfl,rfl,rfl,.inr ⟨rfl,_,_,rfl,rfl,rfl,rfl⟩⟩,⟨rfl,rfl,rfl,rfl,rfl,.inr ⟨rfl,_,_,rfl,rfl,rfl,rfl⟩⟩,⟨rfl,rfl,rfl,rfl,rfl,.inl ⟨rfl,rfl⟩⟩,trivial⟩
 ·rintro⟨⟨k,t,many⟩,hI⟩;simp only;have hI1:k≤p.as_.length:=hI.1;have hI3:0≤t∧t≤3600000:=hI.2.2.1;have hI4:many.length=n:=hI.2.2.2.1;have hI5: ∀i,0≤many.getD i 0∧many.getD i 0≤256:=hI.2.2.2.2.1;have hI6:(Qcg p k).length=n:=hI.2.2.2.2.2;by_cases hA:k<p.as_.length
  case neg=>
   have hA':=lt_F hA;have hg:goB n p.hs 0 (List.replicate n 0) p.as_=true:=by
    rw [←hI.2.1];have:p.as_.drop k=[]:=List.drop_eq_nil_of_le (by omega);simp only [this,goB]
   rw [hg];repeat simp -implicitDefEqProofs only [go_sem,Nat.reduceAdd,Nat.reduceMul,Nat.reduceEqDiff,Nat.reduceLT,Nat.reduceLeDiff,reduceCtorEq,hA']
  have hA':=lt_T hA;have nk:=nn_T k;have ga:=Qmk hA;have hwk:=wr_1 (n:=k) (by omega);have hbad:=fun h=>Zyk hI hA h;have hstep:=fun h1 h2=>Zq4 hI hA h1 h2;obtain⟨ma,mb⟩:=hp.m k;have hpt:=Q57 p k t;have hY:=fun hl=>Qyi p k t hA hne hph (fun i=>(hp.m i).1) hpa hl;have hnm:=Zoo (p.as_.getD k ac0).nm (by omega);unfold pgV at hpt hY;simp only [PV.cells]at hpt hY;generalize p.as_.getD k ac0=a at*;generalize Qcg p k=F at*;have hw3:IntKind.i64.wrap (3600000-t)=3600000-t:=Qag (by omega) (by omega);cases b1:Qul a.nm with
  |false=>
   rw [hbad (by unfold actB;rw [b1];rfl)];rw [b1]at hnm;repeat (first|simp -implicitDefEqProofs only [go_sem,Nat.reduceAdd,Nat.reduceMul,Nat.reduceEqDiff,Nat.reduceLT,Nat.reduceLeDiff,reduceCtorEq,hA',nk,ga,Bool.not_false,Int.toNat_natCast]|(with_reducible refine Qaa hnm ?_ ?_ ?_);rfl;rfl)
  |true=>
  rw [b1]at hnm;by_cases b2:1≤a.ln
  case neg=>
   have b2':(a.ln<1)=True:=eq_true (by omega);rw [hbad (by unfold actB;rw [decide_eq_false b2];simp)];repeat (first|simp -implicitDefEqProofs only [go_sem,Nat.reduceAdd,Nat.reduceMul,Nat.reduceEqDiff,Nat.reduceLT,Nat.reduceLeDiff,reduceCtorEq,hA',nk,ga,b2',Bool.not_true,decide_true,Int.toNat_natCast]|(with_reducible refine Qaa hnm ?_ ?_ ?_);rfl;rfl)
  have b2':(a.ln<1)=False:=eq_false (by omega);by_cases b3:a.ln≤3600000-t
  case neg=>
   have b3':(3600000-t<a.ln)=True:=eq_true (by omega);rw [hbad (by unfold actB;rw [decide_eq_false b3];simp)];repeat (first|simp -implicitDefEqProofs only [go_sem,Nat.reduceAdd,Nat.reduceMul,Nat.reduceEqDiff,Nat.reduceLT,Nat.reduceLeDiff,reduceCtorEq,hA',nk,ga,b2',b3',hw3,Bool.not_true,decide_true,decide_false,Int.toNat_natCast]|(with_reducible refine Qaa hnm ?_ ?_ ?_);rfl;rfl)
  have b3':(3600000-t<a.ln)=False:=eq_false (by omega);by_cases b4:a.mv.length=n
  case neg=>
   have b4':((a.mv.length:Int) != (n:Int))=true:=by simp;omega
   rw [hbad (by unfold actB;rw [decide_eq_false b4];simp)];repeat (first|simp -implicitDefEqProofs only [go_sem,Nat.reduceAdd,Nat.reduceMul,Nat.reduceEqDiff,Nat.reduceLT,Nat.reduceLeDiff,reduceCtorEq,hA',nk,ga,b2',b3',b4',hw3,hn,Bool.not_true,decide_true,decide_false,Int.toNat_natCast,List.length_map]|(with_reducible refine Qaa hnm ?_ ?_ ?_);rfl;rfl)
  have b4':((a.mv.length:Int) != (n:Int))=false:=by simp;omega
  have hact:actB n t a=true:=by unfold actB;rw [b1,decide_eq_true b2,decide_eq_true b3,decide_eq_true b4];rfl
  have hY:=hY (by omega);have hlO:=Qml F a.mv t a.ln;have hgO:=fun i h=>Qmm F a.mv t a.ln (i:=i) h;have hw4:IntKind.i64.wrap (t+a.ln)=t+a.ln:=Qag (by omega) (by omega);repeat (first|simp -implicitDefEqProofs only [go_sem,Nat.reduceAdd,Nat.reduceMul,Nat.reduceEqDiff,Nat.reduceLT,Nat.reduceLeDiff,reduceCtorEq,hA',nk,ga,b2',b3',b4',hw3,hn,Bool.not_true,decide_true,decide_false,Int.toNat_natCast,List.length_map]|(with_reducible refine Qaa hnm ?_ ?_ ?_);rfl;rfl|(with_reducible refine Qaa hpt ?_ ?_ ?_);rfl;rfl)
  cases b5:okTo F a.mv t a.ln many n with
  |true=>
   have hokj: ∀j,j<n→okAt F a.mv t a.ln many j=true:=fun j hj=>List.all_eq_true.1 b5 j (List.mem_range.2 hj);have hmin:min (Qla F a.mv t a.ln).length (n+1)=n:=by omega
   refine Qh6 mixed hY rfl rfl _ rfl [(1000000,404),(1000001,403),(1000002,1000),(1000003,1),(1000004,0),(1000005,703)] [1000000,1000001,1000002,1000003,1000004,1000005] rfl
    [(1,.bp 1000004 3 0 0),(2,.bp 1000003 1 0 0),(3,.int .i64 t),(4,.bp 1000000 1 0 0),(6,.bp 1000005 3 0 0),(7,.bp 1000002 1 0 0),(24,.slc (p.as_.map acV)),(25,.int .i64 (p.as_.length:Int)),(26,.int .i64 (k:Int))]
    (fun j=>vB p a n (Qbe F a.mv t a.ln many j) j) rfl rfl ?_ ?_ ?_ n .normal (fun h=>by omega) (fun j _ _=>vB_N _ _ _ _ _) ?_ rfl ?_
    [(1,1000003),(0,1000004),(404,1000000),(403,1000001),(703,1000005)]
    [(1,.bp 0 3 0 0),(2,.bp 1 1 0 0),(3,.int .i64 t),(4,.bp 404 1 0 0),(6,.bp 703 3 0 0),(24,.slc (p.as_.map acV)),(25,.int .i64 (p.as_.length:Int)),(26,.int .i64 (k:Int))]
    [(0,{els:=[.agg [.slc (p.ns.map PV.str),.slc (p.hs.map v3PV),.slc (p.as_.map acV)]],esz:=3,ety:=26,fro:=0,live:=true,arr:=false}),(1,{els:=[.bool false],esz:=1,ety:=4,fro:=0,live:=true,arr:=false}),(404,{els:=[.bs 403 1 0 n],esz:=1,ety:=139,fro:=0,live:=true,arr:=false}),(403,{els:=(Qbe F a.mv t a.ln many n).map (PV.int .i64),esz:=1,ety:=3,fro:=0,live:=true,arr:=true}),(703,{els:=[.agg [.str a.nm,.int .i64 a.ln,.slc (a.mv.map mvV)]],esz:=3,ety:=89,fro:=0,live:=true,arr:=false})] rfl rfl ?_ ?_ (fun _=> ?_) (fun h=>by omega)
   ·simp [Qac,lkp,ren1,ren0,Qah]
   ·simp only [Ql5,vB];exact⟨⟨rfl,rfl,rfl,rfl,rfl,.inr ⟨rfl,_,_,rfl,rfl,rfl,rfl⟩⟩,⟨rfl,rfl,rfl,rfl,rfl,.inl ⟨rfl,rfl⟩⟩,⟨rfl,rfl,rfl,rfl,rfl,.inr ⟨rfl,_,_,rfl,rfl,rfl,rfl⟩⟩,⟨rfl,rfl,rfl,rfl,rfl,.inr ⟨rfl,_,_,rfl,rfl,rfl,rfl⟩⟩,⟨rfl,rfl,rfl,rfl,rfl,.inr ⟨rfl,_,_,rfl,rfl,rfl,rfl⟩⟩,⟨rfl,rfl,rfl,rfl,rfl,.inr ⟨rfl,_,_,rfl,rfl,rfl,rfl⟩⟩,trivial⟩
   ·simp [Qac,lkp,ren1,ren0,Qah,Qki]
   ·intro j args h;simp only [Qla,List.getElem?_map,Option.map_eq_some_iff]at h;obtain⟨x, -,rfl⟩:=h;rfl
   ·rintro j args hja hjs;have hj:j<n:=by have:=(List.getElem?_eq_some_iff.1 hja).1;omega
    rw [hgO j (by omega)]at hja;cases hja;have hok:=hokj j hj;unfold okAt at hok;simp only [Bool.and_eq_true,decide_eq_true_eq]at hok;obtain⟨o1,o2⟩:=hok;have o1':(mvE (F.getD j v0) (a.mv.getD j mv0) t a.ln != 0)=false:=by rw [o1];rfl
    have o2':(256<Qdb F a.mv t a.ln many j)=False:=eq_false (by omega);simp only [vB];have hsn:=Qg1 (fr:=F) (ms:=a.mv) (at_:=t) (ln:=a.ln) (many:=many) (k:=j) (by omega);have hgj:((Qbe F a.mv t a.ln many j).map (PV.int .i64))[j]? =some (.int .i64 (many.getD j 0)):=by rw [List.getElem?_map,Qb9 (by omega),if_neg (Nat.lt_irrefl _)];rfl
    have hgj2:((Qbe F a.mv t a.ln many (j+1)).map (PV.int .i64))[j]? =some (.int .i64 (Qdb F a.mv t a.ln many j)):=by rw [List.getElem?_map,Qb9 (by omega),if_pos (Nat.lt_succ_self _)];rfl
    have hset:((Qbe F a.mv t a.ln many j).map (PV.int .i64)).set j (.int .i64 (Qdb F a.mv t a.ln many j))=(Qbe F a.mv t a.ln many (j+1)).map (PV.int .i64):=by rw [←hsn,List.map_set]
    have hml:(Qbe F a.mv t a.ln many j).length=many.length:=Qbx _ _ _ _ _ _;have hmb:=hI5 j;have hPl:=Qec (F.getD j v0) (a.mv.getD j mv0) t a.ln;have hcn:Qdb F a.mv t a.ln many j=many.getD j 0+((mvP (F.getD j v0) (a.mv.getD j mv0) t a.ln).length:Int):=rfl;have hwc:IntKind.i64.wrap (many.getD j 0+((mvP (F.getD j v0) (a.mv.getD j mv0) t a.ln).length:Int))=Qdb F a.mv t a.ln many j:=by rw [hcn];exact Qag (by omega) (by omega)
    have hjT:=lt_T hj;have n1:=nn_T j;have hwj:=wr_1 (n:=j) (by omega);unfold pthO;generalize hMM:(Qbe F a.mv t a.ln many (j+1)).map (PV.int .i64)=MM at*;generalize (Qbe F a.mv t a.ln many j).map (PV.int .i64)=M0 at*;generalize Qdb F a.mv t a.ln many j=c at*;generalize mvP (F.getD j v0) (a.mv.getD j mv0) t a.ln=S at*;generalize mvE (F.getD j v0) (a.mv.getD j mv0) t a.ln=E at*;unfold pV;repeat simp -implicitDefEqProofs only [go_sem,Nat.reduceAdd,Nat.reduceMul,Nat.reduceEqDiff,Nat.reduceLT,Nat.reduceLeDiff,reduceCtorEq,pvars,List.toList_toArray]
    refine⟨by simp [lkp],?_⟩;repeat simp -implicitDefEqProofs only [go_sem,Nat.reduceAdd,Nat.reduceMul,Nat.reduceEqDiff,Nat.reduceLT,Nat.reduceLeDiff,reduceIte,reduceCtorEq,hjT,n1,hgj,hgj2,hset,hwc,hwj,Int.toNat_natCast,List.length_map,o1',o2',decide_false]
    refine⟨hj,?_⟩;refine Qaj (θ:=[(1000000,1000000),(1000001,1000001),(1000002,1000002),(1000003,1000003),(1000004,1000004),(1000005,1000005)]) rfl ?_ ?_
    ·simp [Qac,lkp,ren1,ren0,Qah]
    ·simp only [hMM];exact⟨⟨rfl,rfl,rfl,rfl,rfl,.inr ⟨rfl,_,_,rfl,rfl,rfl,rfl⟩⟩,⟨rfl,rfl,rfl,rfl,rfl,.inl ⟨rfl,rfl⟩⟩,⟨rfl,rfl,rfl,rfl,rfl,.inr ⟨rfl,_,_,rfl,rfl,rfl,rfl⟩⟩,⟨rfl,rfl,rfl,rfl,rfl,.inr ⟨rfl,_,_,rfl,rfl,rfl,rfl⟩⟩,⟨rfl,rfl,rfl,rfl,rfl,.inr ⟨rfl,_,_,rfl,rfl,rfl,rfl⟩⟩,⟨rfl,rfl,rfl,rfl,rfl,.inr ⟨rfl,_,_,rfl,rfl,rfl,rfl⟩⟩,trivial⟩
   ·simp [Qac,lkp,ren1,ren0,Qah]
   ·rw [hmin];simp only [vB];exact⟨⟨rfl,rfl,rfl,rfl,rfl,.inr ⟨rfl,_,_,rfl,rfl,rfl,rfl⟩⟩,⟨rfl,rfl,rfl,rfl,rfl,.inr ⟨rfl,_,_,rfl,rfl,rfl,rfl⟩⟩,⟨rfl,rfl,rfl,rfl,rfl,.inr ⟨rfl,_,_,rfl,rfl,rfl,rfl⟩⟩,⟨rfl,rfl,rfl,rfl,rfl,.inl ⟨rfl,rfl⟩⟩,⟨rfl,rfl,rfl,rfl,rfl,.inr ⟨rfl,_,_,rfl,rfl,rfl,rfl⟩⟩,trivial⟩
   ·repeat simp -implicitDefEqProofs only [go_sem,Nat.reduceAdd,Nat.reduceMul,Nat.reduceEqDiff,Nat.reduceLT,Nat.reduceLeDiff,reduceCtorEq,hw4,hwk]
    refine⟨⟨(k+1,t+a.ln,Qbe F a.mv t a.ln many n),hstep hact b5⟩,by simp only;omega,?_⟩;refine Qaj (θ:=[(0,0),(1,1),(404,404),(403,403)]) rfl ?_ ?_
    ·simp [Qac,lkp,ren1,ren0,Qah]
    ·exact⟨⟨rfl,rfl,rfl,rfl,rfl,.inr ⟨rfl,_,_,rfl,rfl,rfl,rfl⟩⟩,⟨rfl,rfl,rfl,rfl,rfl,.inr ⟨rfl,_,_,rfl,rfl,rfl,rfl⟩⟩,⟨rfl,rfl,rfl,rfl,rfl,.inr ⟨rfl,_,_,rfl,rfl,rfl,rfl⟩⟩,⟨rfl,rfl,rfl,rfl,rfl,.inl ⟨rfl,rfl⟩⟩,trivial⟩
  |false=>
   obtain⟨m,hm,c1,c2⟩:=Ze5 b5;rw [hbad (by rw [hact,b5];rfl)];have hokj: ∀j,j<m→okAt F a.mv t a.ln many j=true:=fun j hj=>List.all_eq_true.1 c1 j (List.mem_range.2 hj);have hmin:min (Qla F a.mv t a.ln).length (m+1)=m+1:=by omega
   have hB1: ∀j,j≤m→vC p a n F t many m j=vB p a n (Qbe F a.mv t a.ln many j) j:=fun j h=>if_neg (by omega);have hB2:vC p a n F t many m (m+1)=vB p a n (Qbe F a.mv t a.ln many (m+1)) m:=if_pos rfl;refine Qh6 mixed hY rfl rfl _ rfl [(1000000,404),(1000001,403),(1000002,1000),(1000003,1),(1000004,0),(1000005,703)] [1000000,1000001,1000002,1000003,1000004,1000005] rfl
    [(1,.bp 1000004 3 0 0),(2,.bp 1000003 1 0 0),(3,.int .i64 t),(4,.bp 1000000 1 0 0),(6,.bp 1000005 3 0 0),(7,.bp 1000002 1 0 0),(24,.slc (p.as_.map acV)),(25,.int .i64 (p.as_.length:Int)),(26,.int .i64 (k:Int))]
    (vC p a n F t many m) rfl (by rw [hB1 0 (Nat.zero_le _)];rfl) ?_ ?_ ?_ m .ret (fun _=>rfl) (fun j _ _=>by unfold vC;split<;>exact vB_N _ _ _ _ _) ?_ rfl ?_
    [(1,1000003)] [(2,.bp 1 1 0 0)] [(1,{els:=[.bool false],esz:=1,ety:=4,fro:=0,live:=true,arr:=false})] rfl rfl ?_ ?_ (fun h=>by omega) (fun _=> ?_)
   ·simp [Qac,lkp,ren1,ren0,Qah]
   ·rw [hB1 0 (Nat.zero_le _)];simp only [Ql5,vB];exact⟨⟨rfl,rfl,rfl,rfl,rfl,.inr ⟨rfl,_,_,rfl,rfl,rfl,rfl⟩⟩,⟨rfl,rfl,rfl,rfl,rfl,.inl ⟨rfl,rfl⟩⟩,⟨rfl,rfl,rfl,rfl,rfl,.inr ⟨rfl,_,_,rfl,rfl,rfl,rfl⟩⟩,⟨rfl,rfl,rfl,rfl,rfl,.inr ⟨rfl,_,_,rfl,rfl,rfl,rfl⟩⟩,⟨rfl,rfl,rfl,rfl,rfl,.inr ⟨rfl,_,_,rfl,rfl,rfl,rfl⟩⟩,⟨rfl,rfl,rfl,rfl,rfl,.inr ⟨rfl,_,_,rfl,rfl,rfl,rfl⟩⟩,trivial⟩
   ·simp [Qac,lkp,ren1,ren0,Qah,Qki]
   ·intro j args h;simp only [Qla,List.getElem?_map,Option.map_eq_some_iff]at h;obtain⟨x, -,rfl⟩:=h;rfl
   ·rintro j args hja hjs;have hj:j<n:=by have:=(List.getElem?_eq_some_iff.1 hja).1;omega
    rw [hgO j (by omega)]at hja;cases hja;by_cases hjm:j<m
    ·have hok:=hokj j hjm;unfold okAt at hok;simp only [Bool.and_eq_true,decide_eq_true_eq]at hok;obtain⟨o1,o2⟩:=hok;have o1':(mvE (F.getD j v0) (a.mv.getD j mv0) t a.ln != 0)=false:=by rw [o1];rfl
     have o2':(256<Qdb F a.mv t a.ln many j)=False:=eq_false (by omega);have hBn:=hB1 (j+1) (by omega);rw [hB1 j (by omega)];simp only [vB]at hBn ⊢;have hsn:=Qg1 (fr:=F) (ms:=a.mv) (at_:=t) (ln:=a.ln) (many:=many) (k:=j) (by omega);have hgj:((Qbe F a.mv t a.ln many j).map (PV.int .i64))[j]? =some (.int .i64 (many.getD j 0)):=by rw [List.getElem?_map,Qb9 (by omega),if_neg (Nat.lt_irrefl _)];rfl
     have hgj2:((Qbe F a.mv t a.ln many (j+1)).map (PV.int .i64))[j]? =some (.int .i64 (Qdb F a.mv t a.ln many j)):=by rw [List.getElem?_map,Qb9 (by omega),if_pos (Nat.lt_succ_self _)];rfl
     have hset:((Qbe F a.mv t a.ln many j).map (PV.int .i64)).set j (.int .i64 (Qdb F a.mv t a.ln many j))=(Qbe F a.mv t a.ln many (j+1)).map (PV.int .i64):=by rw [←hsn,List.map_set]
     have hml:(Qbe F a.mv t a.ln many j).length=many.length:=Qbx _ _ _ _ _ _;have hmb:=hI5 j;have hPl:=Qec (F.getD j v0) (a.mv.getD j mv0) t a.ln;have hcn:Qdb F a.mv t a.ln many j=many.getD j 0+((mvP (F.getD j v0) (a.mv.getD j mv0) t a.ln).length:Int):=rfl;have hwc:IntKind.i64.wrap (many.getD j 0+((mvP (F.getD j v0) (a.mv.getD j mv0) t a.ln).length:Int))=Qdb F a.mv t a.ln many j:=by rw [hcn];exact Qag (by omega) (by omega)
     have hjT:=lt_T hj;have n1:=nn_T j;have hwj:=wr_1 (n:=j) (by omega);unfold pthO;generalize hMM:(Qbe F a.mv t a.ln many (j+1)).map (PV.int .i64)=MM at*;generalize (Qbe F a.mv t a.ln many j).map (PV.int .i64)=M0 at*;generalize Qdb F a.mv t a.ln many j=c at*;generalize mvP (F.getD j v0) (a.mv.getD j mv0) t a.ln=S at*;generalize mvE (F.getD j v0) (a.mv.getD j mv0) t a.ln=E at*;unfold pV;repeat simp -implicitDefEqProofs only [go_sem,Nat.reduceAdd,Nat.reduceMul,Nat.reduceEqDiff,Nat.reduceLT,Nat.reduceLeDiff,reduceCtorEq,pvars,List.toList_toArray]
     refine⟨by simp [lkp],?_⟩;repeat simp -implicitDefEqProofs only [go_sem,Nat.reduceAdd,Nat.reduceMul,Nat.reduceEqDiff,Nat.reduceLT,Nat.reduceLeDiff,reduceIte,reduceCtorEq,hjT,n1,hgj,hgj2,hset,hwc,hwj,Int.toNat_natCast,List.length_map,o1',o2',decide_false]
     refine⟨hjm,?_⟩;rw [hBn];refine Qaj (θ:=[(1000000,1000000),(1000001,1000001),(1000002,1000002),(1000003,1000003),(1000004,1000004),(1000005,1000005)]) rfl ?_ ?_
     ·simp [Qac,lkp,ren1,ren0,Qah]
     ·exact⟨⟨rfl,rfl,rfl,rfl,rfl,.inr ⟨rfl,_,_,rfl,rfl,rfl,rfl⟩⟩,⟨rfl,rfl,rfl,rfl,rfl,.inl ⟨rfl,rfl⟩⟩,⟨rfl,rfl,rfl,rfl,rfl,.inr ⟨rfl,_,_,rfl,rfl,rfl,rfl⟩⟩,⟨rfl,rfl,rfl,rfl,rfl,.inr ⟨rfl,_,_,rfl,rfl,rfl,rfl⟩⟩,⟨rfl,rfl,rfl,rfl,rfl,.inr ⟨rfl,_,_,rfl,rfl,rfl,rfl⟩⟩,⟨rfl,rfl,rfl,rfl,rfl,.inr ⟨rfl,_,_,rfl,rfl,rfl,rfl⟩⟩,trivial⟩
    ·obtain rfl:j=m:=by omega
     have hok:=c2;unfold okAt at hok;rw [hB1 j (by omega)];simp only [vB]at hB2 ⊢;by_cases o1:mvE (F.getD j v0) (a.mv.getD j mv0) t a.ln=0
     ·have o1':(mvE (F.getD j v0) (a.mv.getD j mv0) t a.ln != 0)=false:=by rw [o1];rfl
      rw [decide_eq_true o1,Bool.true_and,decide_eq_false_iff_not]at hok;have o2':(256<Qdb F a.mv t a.ln many j)=True:=eq_true (by omega);have hsn:=Qg1 (fr:=F) (ms:=a.mv) (at_:=t) (ln:=a.ln) (many:=many) (k:=j) (by omega);have hgj:((Qbe F a.mv t a.ln many j).map (PV.int .i64))[j]? =some (.int .i64 (many.getD j 0)):=by rw [List.getElem?_map,Qb9 (by omega),if_neg (Nat.lt_irrefl _)];rfl
      have hgj2:((Qbe F a.mv t a.ln many (j+1)).map (PV.int .i64))[j]? =some (.int .i64 (Qdb F a.mv t a.ln many j)):=by rw [List.getElem?_map,Qb9 (by omega),if_pos (Nat.lt_succ_self _)];rfl
      have hset:((Qbe F a.mv t a.ln many j).map (PV.int .i64)).set j (.int .i64 (Qdb F a.mv t a.ln many j))=(Qbe F a.mv t a.ln many (j+1)).map (PV.int .i64):=by rw [←hsn,List.map_set]
      have hml:(Qbe F a.mv t a.ln many j).length=many.length:=Qbx _ _ _ _ _ _;have hmb:=hI5 j;have hPl:=Qec (F.getD j v0) (a.mv.getD j mv0) t a.ln;have hcn:Qdb F a.mv t a.ln many j=many.getD j 0+((mvP (F.getD j v0) (a.mv.getD j mv0) t a.ln).length:Int):=rfl;have hwc:IntKind.i64.wrap (many.getD j 0+((mvP (F.getD j v0) (a.mv.getD j mv0) t a.ln).length:Int))=Qdb F a.mv t a.ln many j:=by rw [hcn];exact Qag (by omega) (by omega)
      have hjT:=lt_T hj;have n1:=nn_T j;have hwj:=wr_1 (n:=j) (by omega);unfold pthO;generalize hMM:(Qbe F a.mv t a.ln many (j+1)).map (PV.int .i64)=MM at*;generalize (Qbe F a.mv t a.ln many j).map (PV.int .i64)=M0 at*;generalize Qdb F a.mv t a.ln many j=c at*;generalize mvP (F.getD j v0) (a.mv.getD j mv0) t a.ln=S at*;generalize mvE (F.getD j v0) (a.mv.getD j mv0) t a.ln=E at*;unfold pV;repeat simp -implicitDefEqProofs only [go_sem,Nat.reduceAdd,Nat.reduceMul,Nat.reduceEqDiff,Nat.reduceLT,Nat.reduceLeDiff,reduceCtorEq,pvars,List.toList_toArray]
      refine⟨by simp [lkp],?_⟩;repeat simp -implicitDefEqProofs only [go_sem,Nat.reduceAdd,Nat.reduceMul,Nat.reduceEqDiff,Nat.reduceLT,Nat.reduceLeDiff,reduceIte,reduceCtorEq,hjT,n1,hgj,hgj2,hset,hwc,Int.toNat_natCast,List.length_map,o1',o2',decide_true]
      refine⟨rfl,rfl,?_⟩;rw [hB2];refine Qaj (θ:=[(1000000,1000000),(1000001,1000001),(1000002,1000002),(1000003,1000003),(1000004,1000004),(1000005,1000005)]) rfl ?_ ?_
      ·simp [Qac,lkp,ren1,ren0,Qah]
      ·exact⟨⟨rfl,rfl,rfl,rfl,rfl,.inr ⟨rfl,_,_,rfl,rfl,rfl,rfl⟩⟩,⟨rfl,rfl,rfl,rfl,rfl,.inl ⟨rfl,rfl⟩⟩,⟨rfl,rfl,rfl,rfl,rfl,.inr ⟨rfl,_,_,rfl,rfl,rfl,rfl⟩⟩,⟨rfl,rfl,rfl,rfl,rfl,.inr ⟨rfl,_,_,rfl,rfl,rfl,rfl⟩⟩,⟨rfl,rfl,rfl,rfl,rfl,.inr ⟨rfl,_,_,rfl,rfl,rfl,rfl⟩⟩,⟨rfl,rfl,rfl,rfl,rfl,.inr ⟨rfl,_,_,rfl,rfl,rfl,rfl⟩⟩,trivial⟩
     ·have o1':(mvE (F.getD j v0) (a.mv.getD j mv0) t a.ln != 0)=true:=bne_iff_ne.2 o1;have hsn:=Qg1 (fr:=F) (ms:=a.mv) (at_:=t) (ln:=a.ln) (many:=many) (k:=j) (by omega);have hgj:((Qbe F a.mv t a.ln many j).map (PV.int .i64))[j]? =some (.int .i64 (many.getD j 0)):=by rw [List.getElem?_map,Qb9 (by omega),if_neg (Nat.lt_irrefl _)];rfl
      have hgj2:((Qbe F a.mv t a.ln many (j+1)).map (PV.int .i64))[j]? =some (.int .i64 (Qdb F a.mv t a.ln many j)):=by rw [List.getElem?_map,Qb9 (by omega),if_pos (Nat.lt_succ_self _)];rfl
      have hset:((Qbe F a.mv t a.ln many j).map (PV.int .i64)).set j (.int .i64 (Qdb F a.mv t a.ln many j))=(Qbe F a.mv t a.ln many (j+1)).map (PV.int .i64):=by rw [←hsn,List.map_set]
      have hml:(Qbe F a.mv t a.ln many j).length=many.length:=Qbx _ _ _ _ _ _;have hmb:=hI5 j;have hPl:=Qec (F.getD j v0) (a.mv.getD j mv0) t a.ln;have hcn:Qdb F a.mv t a.ln many j=many.getD j 0+((mvP (F.getD j v0) (a.mv.getD j mv0) t a.ln).length:Int):=rfl;have hwc:IntKind.i64.wrap (many.getD j 0+((mvP (F.getD j v0) (a.mv.getD j mv0) t a.ln).length:Int))=Qdb F a.mv t a.ln many j:=by rw [hcn];exact Qag (by omega) (by omega)
      have hjT:=lt_T hj;have n1:=nn_T j;have hwj:=wr_1 (n:=j) (by omega);unfold pthO;generalize hMM:(Qbe F a.mv t a.ln many (j+1)).map (PV.int .i64)=MM at*;generalize (Qbe F a.mv t a.ln many j).map (PV.int .i64)=M0 at*;generalize Qdb F a.mv t a.ln many j=c at*;generalize mvP (F.getD j v0) (a.mv.getD j mv0) t a.ln=S at*;generalize mvE (F.getD j v0) (a.mv.getD j mv0) t a.ln=E at*;unfold pV;repeat simp -implicitDefEqProofs only [go_sem,Nat.reduceAdd,Nat.reduceMul,Nat.reduceEqDiff,Nat.reduceLT,Nat.reduceLeDiff,reduceCtorEq,pvars,List.toList_toArray]
      refine⟨by simp [lkp],?_⟩;repeat simp -implicitDefEqProofs only [go_sem,Nat.reduceAdd,Nat.reduceMul,Nat.reduceEqDiff,Nat.reduceLT,Nat.reduceLeDiff,reduceIte,reduceCtorEq,hjT,n1,hgj,hset,hwc,Int.toNat_natCast,List.length_map,o1']
      refine⟨rfl,rfl,?_⟩;rw [hB2];refine Qaj (θ:=[(1000000,1000000),(1000001,1000001),(1000002,1000002),(1000003,1000003),(1000004,1000004),(1000005,1000005)]) rfl ?_ ?_
      ·simp [Qac,lkp,ren1,ren0,Qah]
      ·exact⟨⟨rfl,rfl,rfl,rfl,rfl,.inr ⟨rfl,_,_,rfl,rfl,rfl,rfl⟩⟩,⟨rfl,rfl,rfl,rfl,rfl,.inl ⟨rfl,rfl⟩⟩,⟨rfl,rfl,rfl,rfl,rfl,.inr ⟨rfl,_,_,rfl,rfl,rfl,rfl⟩⟩,⟨rfl,rfl,rfl,rfl,rfl,.inr ⟨rfl,_,_,rfl,rfl,rfl,rfl⟩⟩,⟨rfl,rfl,rfl,rfl,rfl,.inr ⟨rfl,_,_,rfl,rfl,rfl,rfl⟩⟩,⟨rfl,rfl,rfl,rfl,rfl,.inr ⟨rfl,_,_,rfl,rfl,rfl,rfl⟩⟩,trivial⟩
   ·simp [Qac,lkp,ren1,ren0,Qah]
   ·rw [hmin,hB2];simp only [vB];exact⟨⟨rfl,rfl,rfl,rfl,rfl,.inr ⟨rfl,_,_,rfl,rfl,rfl,rfl⟩⟩,trivial⟩
   ·rw [Z07];repeat simp -implicitDefEqProofs only [go_sem]
theorem Q59 {n:Nat}: ∀(l:List Ac) (fr:List V3) (t:Int) (many:List Int),goB n fr t many l=true→0≤t→t≤3600000→(∀a∈l,1≤a.ln∧a.mv.length=n)∧t+(l.map Ac.ln).sum≤3600000
 | [],fr,t,many,_,h0,h1=>⟨by simp,by simpa using h1⟩
 |a::l,fr,t,many,h,h0,h1=>by
  simp only [goB,Bool.and_eq_true]at h;obtain⟨ha, -,hr⟩:=h;unfold actB at ha;simp only [Bool.and_eq_true,decide_eq_true_eq]at ha;obtain⟨i1,i2⟩:=Q59 l _ _ _ hr (by omega) (by omega);refine⟨fun b hb=> ?_,by simp only [List.map_cons,List.sum_cons];omega⟩;rcases List.mem_cons.1 hb with rfl|hb
  ·exact⟨ha.2.1,ha.2.2.2⟩
  ·exact i1 b hb
theorem Qc8 {p:Pg} (h:Qbd p=true):Qn2 p=true∧p.as_.length≤60∧(∀a∈p.as_,1≤a.ln∧a.mv.length=p.ns.length)∧begT p p.as_.length≤3600000:=by
 unfold Qbd at h;simp only [Bool.and_eq_true,decide_eq_true_eq]at h;obtain⟨h1,h2,h3⟩:=h;obtain⟨i1,i2⟩:=Q59 p.as_ _ _ _ h3 (by decide) (by decide);refine⟨h1,h2,i1,?_⟩;unfold begT;rw [List.take_length];omega
theorem Qim {p:Pg} {k:Nat} (h:k<p.as_.length):begT p (k+1)=begT p k+(p.as_.getD k ac0).ln:=by
 unfold begT;rw [Qjz _ _ h,List.getD_eq_getElem?_getD,List.getElem?_eq_getElem h];simp only [List.map_append,List.map_cons,List.map_nil,List.sum_append,List.sum_cons,List.sum_nil,Option.getD_some];omega
theorem Qmn {p:Pg} (h:Qbd p=true) {k:Nat}: ∀m,k≤m→m≤p.as_.length→begT p k+(m-k:Nat)≤begT p m
 |0,h1,_=>by
    obtain rfl:k=0:=by omega
    simp
 |m+1,h1,h2=>by
  by_cases e:k=m+1
  ·subst e;simp
  ·have i:=Qmn h (k:=k) m (by omega) (by omega);have hs:=Qim (p:=p) (k:=m) (by omega);have hl:=((Qc8 h).2.2.1 (p.as_.getD m ac0) (by rw [List.getD_eq_getElem?_getD,List.getElem?_eq_getElem (by omega)];exact List.getElem_mem _)).1;omega
theorem Qd3 {p:Pg} (h:Qbd p=true) {k:Nat} (hk:k≤p.as_.length):(k:Int)≤begT p k∧begT p k≤3600000:=by
 have h1:=Qmn h (k:=0) k (Nat.zero_le _) hk;have h2:=Qmn h (k:=k) p.as_.length hk (Nat.le_refl _);have h3:=(Qc8 h).2.2.2;have h0:begT p 0=0:=rfl;omega
theorem Q6a (p:Pg) (h:Qbd p=true) (m:Nat) (hm:m≤p.as_.length) (x:Int) (hx:x=(m:Int)-1):Qaf Tryz.prog 26 [pgV p,.int .i64 x] (.int .i64 (begT p m)):=by
 have hpa:=(Qc8 h).2.1;unfold pgV;refine Qab (tb:=[]) 21 [.tmp 4] [0,1,2,4,5,6,9] mixed Tryz.func26 rfl (by kernel_rfl) ?_;repeat simp -implicitDefEqProofs only [go_sem,seval]
 refine Qas mixed (fun k:{k:Nat // k≤m}=>St.of [(1,.int .i64 x),(2,.bp 0 3 0 0),(5,.int .i64 (begT p k.1)),(6,.int .i64 (k.1:Int))] [(0,{els:=[.agg [.slc (p.ns.map PV.str),.slc (p.hs.map v3PV),.slc (p.as_.map acV)]],esz:=3,ety:=26,fro:=0,live:=true,arr:=false})]) (fun k=>m-k.1) ⟨0,Nat.zero_le _⟩ ?_ ?_
 ·refine Qaj (θ:=[(0,0)]) rfl ?_ ?_
  ·simp [Qac,lkp,ren1,ren0,Qah,begT,List.take_zero,List.map_nil,List.sum_nil]
  ·exact⟨⟨rfl,rfl,rfl,rfl,rfl,.inr ⟨rfl,_,_,rfl,rfl,rfl,rfl⟩⟩,trivial⟩
 ·rintro⟨k,hk⟩;simp only;by_cases hA:k<m
  ·have hA':((k:Int)≤x)=True:=eq_true (by omega);have n0:=nn_T k;have ga:=Qmk (p:=p) (i:=k) (by omega);have hwk:=wr_1 (n:=k) (by omega);have hs:=Qim (p:=p) (k:=k) (by omega);have b0:=Qd3 h (k:=k) (by omega);have b1:=Qd3 h (k:=k+1) (by omega);have hw:IntKind.i64.wrap (begT p k+(p.as_.getD k ac0).ln)=begT p (k+1):=by rw [hs];exact Qag (by omega) (by omega)
   repeat simp -implicitDefEqProofs only [go_sem,seval,hA',n0,ga,hwk,hw,Int.toNat_natCast]
   refine⟨⟨k+1,hA⟩,by simp only;omega,?_⟩;refine Qaj (θ:=[(0,0)]) rfl ?_ ?_
   ·simp [Qac,lkp,ren1,ren0,Qah]
   ·exact⟨⟨rfl,rfl,rfl,rfl,rfl,.inr ⟨rfl,_,_,rfl,rfl,rfl,rfl⟩⟩,trivial⟩
  ·have hA':((k:Int)≤x)=False:=eq_false (by omega);obtain rfl:k=m:=by omega
   repeat simp -implicitDefEqProofs only [go_sem,seval,hA']
theorem Zon (p:Pg):begT p 0=0:=rfl
theorem Qqd (p:Pg) (hp:okP p) (v:Qbd p=true):Qaf Tryz.prog 49 [pgV p] (.tup [.int .i64 (begT p p.as_.length),.int .i64 0]):=by
 have hV:=Qgc p hp;rw [v]at hV;have hpa:=(Qc8 v).2.1;unfold pgV at hV ⊢;refine Qab (tb:=[]) 23 [.tmp 2,.tmp 3] [0,1,2,3,4,6,9,11,12,13,14] mixed Tryz.func49 rfl (by kernel_rfl) ?_;repeat (first|simp -implicitDefEqProofs only [go_sem,seval,Bool.not_true,List.length_map]|(with_reducible refine Qaa hV ?_ ?_ ?_);rfl;rfl)
 refine Qas mixed (fun k:{k:Nat // k≤p.as_.length}=>St.of [(1,.bp 0 3 0 0),(2,.int .i64 0),(3,.int .i64 0),(4,.int .i64 (begT p k.1)),(11,.slc (p.as_.map acV)),(12,.int .i64 (p.as_.length:Int)),(13,.int .i64 (k.1:Int))] [(0,{els:=[.agg [.slc (p.ns.map PV.str),.slc (p.hs.map v3PV),.slc (p.as_.map acV)]],esz:=3,ety:=26,fro:=0,live:=true,arr:=false})]) (fun k=>p.as_.length-k.1) ⟨0,Nat.zero_le _⟩ ?_ ?_
 ·refine Qaj (θ:=[(0,0)]) rfl ?_ ?_
  ·simp [Qac,lkp,ren1,ren0,Qah,Zon]
  ·exact⟨⟨rfl,rfl,rfl,rfl,rfl,.inr ⟨rfl,_,_,rfl,rfl,rfl,rfl⟩⟩,trivial⟩
 ·rintro⟨k,hk⟩;simp only;by_cases hA:k<p.as_.length
  ·have hA':=lt_T hA;have n0:=nn_T k;have ga:=Qmk (p:=p) (i:=k) (by omega);have hwk:=wr_1 (n:=k) (by omega);have hs:=Qim (p:=p) (k:=k) (by omega);have b0:=Qd3 v (k:=k) (by omega);have b1:=Qd3 v (k:=k+1) (by omega);have hw:IntKind.i64.wrap (begT p k+(p.as_.getD k ac0).ln)=begT p (k+1):=by rw [hs];exact Qag (by omega) (by omega)
   repeat simp -implicitDefEqProofs only [go_sem,seval,hA',n0,ga,hwk,hw,Int.toNat_natCast]
   refine⟨⟨k+1,hA⟩,by simp only;omega,?_⟩;refine Qaj (θ:=[(0,0)]) rfl ?_ ?_
   ·simp [Qac,lkp,ren1,ren0,Qah]
   ·exact⟨⟨rfl,rfl,rfl,rfl,rfl,.inr ⟨rfl,_,_,rfl,rfl,rfl,rfl⟩⟩,trivial⟩
  ·have hA':=lt_F hA;obtain rfl:k=p.as_.length:=by omega
   repeat simp -implicitDefEqProofs only [go_sem,seval,hA']
def FewP (p:Pg):Prop:=p.ns.length≤5∧p.hs.length≤5∧p.as_.length≤5∧(∀i,i<p.ns.length→(nmAt p i).size≤60)∧(∀i,i<p.as_.length→(p.as_.getD i ac0).nm.size≤60∧(p.as_.getD i ac0).mv.length≤5)
instance (p:Pg):Decidable (FewP p):=by unfold FewP;infer_instance
theorem Qgb {p:Pg} (h:FewP p):okP p:=by
 obtain⟨h1,h2,h3,h4,h5⟩:=h;refine⟨by omega,by omega,by omega,fun i=> ?_,fun i=> ?_⟩
 ·by_cases hi:i<p.ns.length
  ·have:=h4 i hi;omega
  ·unfold nmAt;rw [List.getD_eq_getElem?_getD,List.getElem?_eq_none (by omega)];exact Nat.zero_le _
 ·by_cases hi:i<p.as_.length
  ·have:=h5 i hi;omega
  ·rw [List.getD_eq_getElem?_getD,List.getElem?_eq_none (by omega)];exact⟨Nat.zero_le _,Nat.zero_le _⟩
end Go.Proofs.YtnohfmdlaajpbaaGreat
