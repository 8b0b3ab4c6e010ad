/-
  NT8, NT9 (merged for the claim).
-/
import Derived.Test.YtapjnenbofmliaaGreatDoorNT4
import Derived.Test.YtapjnenbofmliaaGreatDoorNR30
import Derived.Test.YtapjnenbofmliaaGreatDoorNP1
import Derived.Test.YtapjnenbofmliaaGreatDoorDe3
set_option linter.unusedSimpArgs false
set_option linter.unusedVariables false
namespace Go.Proofs.YtapjnenbofmliaaGreatDoor
open Go.Vl Go.RowKit Go.Dg Go.Lib
abbrev tx (x:Int):List UInt8:=txt (decide (x<0)) x.natAbs
theorem Q87 {x:Int} (hx:x.natAbs<2^65536):Qaf Tryz.prog 8 [wPV x] (.tup [.str ⟨(tx x).toArray⟩,.int .i64 0]):=by
 have h:=Qw9 (decide (x<0)) (magL x.natAbs) (by have:=Qcb hx;simpa using this) (by have:=Qc0 hx;rw [Qbz]at this;exact this)
 rwa [Qov]at h
theorem Qxe (m:Nat) (h:0<m):pneg (decDigits m)=false∧badD false (decDigits m)=false∧badD true (decDigits m)=false:=by
 obtain⟨c,r,e,hc⟩:=Qr9 m h;have hD:=Qwn m;rw [e]at hD ⊢;simp only [List.all_cons,Bool.and_eq_true]at hD;have h1:=Qjx.1 hD.1;refine⟨decide_eq_false fun e=> ?_,by simp [badD,hc],by simp [badD,hc]⟩;subst e;have:(45:UInt8).toNat=45:=rfl;omega
theorem Qt1 (x:Int):okD (tx x)=true∧sv (pneg (tx x)) (dval (pdig (tx x)))=x:=by
 unfold tx okD;by_cases h0:x.natAbs=0
 ·obtain rfl:x=0:=by omega
  exact⟨rfl,rfl⟩
 ·obtain⟨d1,d2,d3⟩:=Qxe x.natAbs (by omega);have hD:=Qwn x.natAbs;have hv:=Q2i x.natAbs;by_cases hn:x<0
  ·have e:txt (decide (x<0)) x.natAbs=45::decDigits x.natAbs:=by rw [txt,if_neg h0,decide_eq_true hn,if_pos rfl]
   have p1:pneg (45::decDigits x.natAbs)=true:=rfl;have p2:pdig (45::decDigits x.natAbs)=decDigits x.natAbs:=by unfold pdig;rw [if_pos p1];rfl
   rw [e,p1,p2,hD,d3,hv];exact⟨rfl,by simp [sv];omega⟩
  ·have e:txt (decide (x<0)) x.natAbs=decDigits x.natAbs:=by rw [txt,if_neg h0,decide_eq_false hn,if_neg Bool.false_ne_true]
   have p2:pdig (decDigits x.natAbs)=decDigits x.natAbs:=by unfold pdig;rw [if_neg (by rw [d1];decide)]
   rw [e,d1,p2,hD,d2,hv];exact⟨rfl,by simp [sv];omega⟩
theorem Zco {x:Int} {k:Nat} (h:x.natAbs<10^(k+1)):(tx x).length≤k+2:=by
 have:=Qc7 k x.natAbs h;unfold tx txt;split
 ·simp
 ·split
  ·rw [List.length_cons];omega
  ·omega
theorem Q2x {x:Int} (h:(tx x).length≤21845):Qaf Tryz.prog 12 [.str ⟨(tx x).toArray⟩] (Qe6 x):=by
 obtain⟨h1,h2⟩:=Qt1 x;have:=Qsi (tx x) h;unfold Qge at this
 rwa [if_pos h1,h2]at this
theorem p480 {neg:Bool} {s:ByteArray} {k:Nat} (h:s.size≤k):(wnum neg s).natAbs<2^(8*k):=by
 have:=Zaq neg s k h;rw [show(256:Nat)=2^8 from rfl,←Nat.pow_mul]at this;exact this
theorem p_up {x:Int} {a b:Nat} (h:x.natAbs<2^a) (hab:a≤b):x.natAbs<2^b:=Nat.lt_of_lt_of_le h (Nat.pow_le_pow_right (by decide) hab)
theorem Qct {x:Int} {a:Nat} (h:x.natAbs<2^a) (hab:a≤65536):x.natAbs<2^65536:=p_up (b:=65536) h hab
theorem Zep {x:Int} {a:Nat} (h:x.natAbs<2^a):x.natAbs<10^(a+1):=
 Nat.lt_of_lt_of_le h (Nat.le_trans (Nat.pow_le_pow_left (show 2≤10 by decide) a) (Nat.pow_le_pow_right (by decide) (by omega)))
set_option maxHeartbeats 8000000 in
set_option maxRecDepth 100000 in
theorem Qql (n1 n2 n3:Bool) (s1 s2 s3:ByteArray):Qaf Tryz.prog 5 [.agg [.bool n1,.str s1],.agg [.bool n2,.str s2],.agg [.bool n3,.str s3]] (.bool true):=by
 have hs:=Qww [(n1,s1),(n2,s2),(n3,s3)] (by simp);have hv:=Qwx [(n1,s1),(n2,s2),(n3,s3)] (by simp);simp only [List.map_cons,List.map_nil,wA,List.all_cons,List.all_nil,Bool.and_true]at hs hv;have hk:=Qwv;cases hS:(decide (s1.size≤60)&&(decide (s2.size≤60)&&decide (s3.size≤60)))with
 |false=>
  rw [hS]at hs;refine Qac (tb:=[]) 221 [.tmp 6] [0,1,2,3,4,5,6,7,8,9,10,11,12,13,14,15,16,17,18,19,20,21,22,23,24,25,26,40,89,132,145,148,167] mixed Tryz.func5 rfl (by kernel_rfl) (by kernel_rfl) (by kernel_rfl) (by kernel_rfl) ?_;repeat (first|(simp -implicitDefEqProofs only [go_sem,seval,Bool.not_false])|((with_reducible refine Qaa hs ?_ ?_ ?_);rfl;rfl)|((with_reducible refine Qaa hk ?_ ?_ ?_);rfl;rfl))
 |true=>
 rw [hS]at hs;cases hV:(Qa2 n1 s1.data.toList&&(Qa2 n2 s2.data.toList&&Qa2 n3 s3.data.toList))with
 |false=>
  rw [hV]at hv;refine Qac (tb:=[]) 221 [.tmp 6] [0,1,2,3,4,5,6,7,8,9,10,11,12,13,14,15,16,17,18,19,20,21,22,23,24,25,26,40,89,132,145,148,167] mixed Tryz.func5 rfl (by kernel_rfl) (by kernel_rfl) (by kernel_rfl) (by kernel_rfl) ?_;repeat (first|(simp -implicitDefEqProofs only [go_sem,seval,Bool.not_false,Bool.not_true])|((with_reducible refine Qaa hs ?_ ?_ ?_);rfl;rfl)|((with_reducible refine Qaa hv ?_ ?_ ?_);rfl;rfl)|((with_reducible refine Qaa hk ?_ ?_ ?_);rfl;rfl))
 |true=>
 rw [hV]at hv;simp only [Bool.and_eq_true,decide_eq_true_eq]at hS hV;have q1:=Qm6 n1 s1 hV.1;have q2:=Qm6 n2 s2 hV.2.1;have q3:=Qm6 n3 s3 hV.2.2;obtain⟨K,hK⟩: ∃K:Nat,K=60:=⟨_,rfl⟩;rw [←hK]at hS;have x1:=p480 (neg:=n1) hS.1;have x2:=p480 (neg:=n2) hS.2.1;have x3:=p480 (neg:=n3) hS.2.2;rw [←q1,←q2,←q3]at hs hv ⊢;clear q1 q2 q3 hS hV;generalize wnum n1 s1=x at*;generalize wnum n2 s2=y at*;generalize wnum n3 s3=z at*;have xb:=Qct x1 (by omega);have yb:=Qct x2 (by omega);have zb:=Qct x3 (by omega);have a1:=Qwz x1 x2;have m1:=Qsd x1 x2;have m2:=Qsd a1 x3;have m3:=Qsd x1 x3;have m4:=Qsd x2 x3;have a2:=Qwz x1 x3;have a3:=Qwz x2 x3;have c1:=Qom xb yb;have c2:=Qom yb xb;have c3:=Qol xb yb;have c4:=Qol yb xb;have c5:=Qol (Qct a1 (by omega)) zb;have c6:=Qol xb zb;have c7:=Qol yb zb;have c8:=Qom (Qct m3 (by omega)) (Qct m4 (by omega));have c9:=Zce (Qct a1 (by omega)) yb;have c10:=Qw0 yb;have c12:=Q87 xb;have c13:=Q2x (x:=x) (Nat.le_trans (Zco (Zep x1)) (by omega));have c14:=Qom xb zb;have c15:=Qom yb zb;have c16:=Qlw (Qct a2 (by omega)) (Qct a3 (by omega));have c17:=Qlw xb yb;rw [Int.add_comm y x]at c2;rw [Int.mul_comm y x]at c4;rw [←Int.add_mul]at c8;rw [show x+y-y=x by omega]at c9;rw [show x+z-(y+z)=x-y by omega]at c16;rw [Qdt (Qct a1 (by omega))]at c1 c2;rw [Qdt (Qct m1 (by omega))]at c3 c4;rw [Qdt (Qct m2 (by omega))]at c5 c8;rw [Qdt (Qct m3 (by omega))]at c6;rw [Qdt (Qct m4 (by omega))]at c7;rw [Qdt xb]at c9 c13;rw [Qdt (Qct a2 (by omega))]at c14;rw [Qdt (Qct a3 (by omega))]at c15
 have b1: ∀b:Bool,(b==b)=true:=fun b=>by cases b<;>rfl
 have b2: ∀b:ByteArray,(b==b)=true:=Qwy;have b3: ∀b:Int,(b==b)=true:=fun b=>beq_self_eq_true b;have z0:((0:Int)==0)=true:=rfl;have n0:((0:Int) != 0)=false:=rfl;by_cases hy:y=0
 ·have g1:(y.sign != 0)=false:=by rw [hy];rfl
  generalize (x-y).sign=SG at*;generalize y.sign=SY at*;generalize (x+y)*z=W at*;generalize x+y=AB at*;generalize x*y=M at*;generalize x*z=Y2 at*;generalize y*z=Z2 at*;generalize x+z=AC at*;generalize y+z=BC at*;generalize tx x=TX at*;unfold wPV at*;refine Qac (tb:=[]) 221 [.tmp 6] [0,1,2,3,4,5,6,7,8,9,10,11,12,13,14,15,16,17,18,19,20,21,22,23,24,25,26,40,89,132,145,148,167] mixed Tryz.func5 rfl (by kernel_rfl) (by kernel_rfl) (by kernel_rfl) (by kernel_rfl) ?_
  repeat (first|(simp -implicitDefEqProofs only [go_sem,seval,Bool.not_true,b1,b2,b3,n0,g1])|((with_reducible refine Qaa hs ?_ ?_ ?_);rfl;rfl)|((with_reducible refine Qaa hv ?_ ?_ ?_);rfl;rfl)|((with_reducible refine Qaa hk ?_ ?_ ?_);rfl;rfl)|((with_reducible refine Qaa c1 ?_ ?_ ?_);rfl;rfl)|((with_reducible refine Qaa c2 ?_ ?_ ?_);rfl;rfl)|((with_reducible refine Qaa c3 ?_ ?_ ?_);rfl;rfl)|((with_reducible refine Qaa c4 ?_ ?_ ?_);rfl;rfl)|((with_reducible refine Qaa c5 ?_ ?_ ?_);rfl;rfl)|((with_reducible refine Qaa c6 ?_ ?_ ?_);rfl;rfl)|((with_reducible refine Qaa c7 ?_ ?_ ?_);rfl;rfl)|((with_reducible refine Qaa c8 ?_ ?_ ?_);rfl;rfl)|((with_reducible refine Qaa c9 ?_ ?_ ?_);rfl;rfl)|((with_reducible refine Qaa c10 ?_ ?_ ?_);rfl;rfl)|((with_reducible refine Qaa c12 ?_ ?_ ?_);rfl;rfl)|((with_reducible refine Qaa c13 ?_ ?_ ?_);rfl;rfl)|((with_reducible refine Qaa c14 ?_ ?_ ?_);rfl;rfl)|((with_reducible refine Qaa c15 ?_ ?_ ?_);rfl;rfl)|((with_reducible refine Qaa c16 ?_ ?_ ?_);rfl;rfl)|((with_reducible refine Qaa c17 ?_ ?_ ?_);rfl;rfl)|(with_reducible exact Qah _ _ (by kernel_rfl)))
 ·have g1:(y.sign != 0)=true:=by
   rw [bne_iff_ne];exact fun e=>hy (Int.sign_eq_zero_iff_zero.1 e)
  have c11:=Zcf (Qct m1 (by omega)) yb hy;have c18:=Qw0 (x:=0) (Qct (a:=0) (by decide) (Nat.zero_le _));unfold Q6x at c11;rw [Int.mul_ediv_cancel x hy,Int.mul_emod_left]at c11;have o1:outN x=x:=by unfold outN;rw [if_neg (Nat.not_lt.2 (Qcy 65536 _ xb))]
  have o2:outN 0=0:=by unfold outN;split<;>rfl
  rw [o1,o2]at c11;have s0:(0:Int).sign=0:=rfl;rw [s0]at c18;generalize (x-y).sign=SG at*;generalize y.sign=SY at*;generalize (x+y)*z=W at*;generalize x+y=AB at*;generalize x*y=M at*;generalize x*z=Y2 at*;generalize y*z=Z2 at*;generalize x+z=AC at*;generalize y+z=BC at*;generalize tx x=TX at*;unfold wPV at*;refine Qac (tb:=[]) 221 [.tmp 6] [0,1,2,3,4,5,6,7,8,9,10,11,12,13,14,15,16,17,18,19,20,21,22,23,24,25,26,40,89,132,145,148,167] mixed Tryz.func5 rfl (by kernel_rfl) (by kernel_rfl) (by kernel_rfl) (by kernel_rfl) ?_
  repeat (first|(simp -implicitDefEqProofs only [go_sem,seval,Bool.not_true,b1,b2,b3,n0,g1])|((with_reducible refine Qaa hs ?_ ?_ ?_);rfl;rfl)|((with_reducible refine Qaa hv ?_ ?_ ?_);rfl;rfl)|((with_reducible refine Qaa hk ?_ ?_ ?_);rfl;rfl)|((with_reducible refine Qaa c1 ?_ ?_ ?_);rfl;rfl)|((with_reducible refine Qaa c2 ?_ ?_ ?_);rfl;rfl)|((with_reducible refine Qaa c3 ?_ ?_ ?_);rfl;rfl)|((with_reducible refine Qaa c4 ?_ ?_ ?_);rfl;rfl)|((with_reducible refine Qaa c5 ?_ ?_ ?_);rfl;rfl)|((with_reducible refine Qaa c6 ?_ ?_ ?_);rfl;rfl)|((with_reducible refine Qaa c7 ?_ ?_ ?_);rfl;rfl)|((with_reducible refine Qaa c8 ?_ ?_ ?_);rfl;rfl)|((with_reducible refine Qaa c9 ?_ ?_ ?_);rfl;rfl)|((with_reducible refine Qaa c10 ?_ ?_ ?_);rfl;rfl)|((with_reducible refine Qaa c11 ?_ ?_ ?_);rfl;rfl)|((with_reducible refine Qaa c12 ?_ ?_ ?_);rfl;rfl)|((with_reducible refine Qaa c13 ?_ ?_ ?_);rfl;rfl)|((with_reducible refine Qaa c14 ?_ ?_ ?_);rfl;rfl)|((with_reducible refine Qaa c15 ?_ ?_ ?_);rfl;rfl)|((with_reducible refine Qaa c16 ?_ ?_ ?_);rfl;rfl)|((with_reducible refine Qaa c17 ?_ ?_ ?_);rfl;rfl)|((with_reducible refine Qaa c18 ?_ ?_ ?_);rfl;rfl)|(with_reducible exact Qah _ _ (by kernel_rfl)))
end Go.Proofs.YtapjnenbofmliaaGreatDoor
