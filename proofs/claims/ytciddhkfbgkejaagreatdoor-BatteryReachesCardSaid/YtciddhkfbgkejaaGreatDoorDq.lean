/-
  HW31, HW32, HA11, HA12, HA13, Dq (merged for the claim).
-/
import Derived.Test.YtciddhkfbgkejaaGreatDoorHW30
import Derived.Test.YtciddhkfbgkejaaGreatDoorHW2
import Derived.Test.YtciddhkfbgkejaaGreatDoorHW19
set_option linter.unusedSimpArgs false
set_option linter.unusedVariables false
namespace Go.Proofs.YtciddhkfbgkejaaGreatDoor
open Go.Vl Go.RowKit Go.Dg
def vRat (n:Bool) (s:ByteArray) (m:Bool) (t:ByteArray):Bool:=Qbl n s.data.toList&&(Qbl m t.data.toList&&(!m&& !(t.data.toList== [])))
theorem Qf2 {n:Bool} {l:List UInt8} (h:Qbl n l=true) (h0:l≠ []):0<bnum l:=by
 cases l with
 |nil=>exact absurd rfl h0
 |cons c r=>
  simp only [Qbl,Bool.and_eq_true]at h
  have hc:c.toNat≠0:=fun e=>by
   have:c≠0:=by simpa using h.2
   exact this (UInt8.toNat_inj.1 (by simpa using e))
  rw [Qmo]
  have hp:0<c.toNat*256^r.length:=Nat.mul_pos (Nat.pos_of_ne_zero hc) (Nat.pow_pos (by decide))
  omega
theorem Q7m {m:Bool} {t:ByteArray} (h:Qbl m t.data.toList=true):decide (0<(wnum m t).sign)=(!m&& !(t.data.toList== [])):=by
 by_cases h0:t.data.toList=[]
 ·have e:wnum m t=0:=by unfold wnum sv;rw [h0];cases m<;>rfl
  rw [e,h0];simp
 ·have hb:=Qf2 h h0
  rw [Qlk h0]
  unfold wnum sv
  cases m with
  |false=>simp only [Bool.false_eq_true,if_false,Bool.not_false,Bool.and_self];rw [Int.sign_eq_one_of_pos (by omega)];rfl
  |true=>simp only [if_true,Bool.not_true,Bool.false_and];rw [Int.sign_eq_neg_one_of_neg (by omega)];rfl
theorem Qf3 (n:Bool) (s:ByteArray) (m:Bool) (t:ByteArray) (ht:t.size≤100000):Qad Tryz.prog 201 [.agg [.bool n,.str s,.bool m,.str t]] (.bool (vRat n s m t)):=by
 have hb:=Qmt n m s t
 unfold vRat
 cases h1:Qbl n s.data.toList with
 |false=>
  rw [h1,Bool.false_and]at hb
  rw [Bool.false_and]
  refine Qac (tb:=[]) 14 [.tmp 2] [0,1,2] mixed Tryz.func201 rfl (by kernel_rfl) (by kernel_rfl) (by kernel_rfl) (by kernel_rfl) ?_
  repeat (first|(simp -implicitDefEqProofs only [go_sem,Nat.reduceAdd,Nat.reduceMul,Nat.reduceEqDiff,Nat.reduceLT,Nat.reduceLeDiff,reduceCtorEq])|((with_reducible refine Qab (hb) ?_ ?_ ?_);(with_reducible rfl);rfl))
 |true=>
  rw [h1,Bool.true_and]at hb
  rw [Bool.true_and]
  cases h2:Qbl m t.data.toList with
  |false=>
   rw [h2]at hb
   rw [Bool.false_and]
   refine Qac (tb:=[]) 14 [.tmp 2] [0,1,2] mixed Tryz.func201 rfl (by kernel_rfl) (by kernel_rfl) (by kernel_rfl) (by kernel_rfl) ?_
   repeat (first|(simp -implicitDefEqProofs only [go_sem,Nat.reduceAdd,Nat.reduceMul,Nat.reduceEqDiff,Nat.reduceLT,Nat.reduceLeDiff,reduceCtorEq])|((with_reducible refine Qab (hb) ?_ ?_ ?_);(with_reducible rfl);rfl))
  |true=>
   rw [h2]at hb
   have hs:=Zno m t h2 ht
   rw [Bool.true_and,←Q7m h2]
   refine Qac (tb:=[]) 14 [.tmp 2] [0,1,2] mixed Tryz.func201 rfl (by kernel_rfl) (by kernel_rfl) (by kernel_rfl) (by kernel_rfl) ?_
   repeat (first|(simp -implicitDefEqProofs only [go_sem,Nat.reduceAdd,Nat.reduceMul,Nat.reduceEqDiff,Nat.reduceLT,Nat.reduceLeDiff,reduceCtorEq])|((with_reducible refine Qab (hb) ?_ ?_ ?_);(with_reducible rfl);rfl)|((with_reducible refine Qab (hs) ?_ ?_ ?_);(with_reducible rfl);rfl))
theorem Q7n (n1 m1 n2 m2:Bool) (s1 t1 s2 t2:ByteArray) (h1:t1.size≤100000) (h2:t2.size≤100000):Qad Tryz.prog 197 [.agg [.bool n1,.str s1,.bool m1,.str t1],.agg [.bool n2,.str s2,.bool m2,.str t2]] (.bool (vRat n1 s1 m1 t1&&vRat n2 s2 m2 t2)):=by
 have a1:=Qf3 n1 s1 m1 t1 h1
 have a2:=Qf3 n2 s2 m2 t2 h2
 cases hv:vRat n1 s1 m1 t1 with
 |false=>
  rw [hv]at a1
  rw [Bool.false_and]
  refine Qac (tb:=[]) 11 [.tmp 4] [0,1,2,3,4] mixed Tryz.func197 rfl (by kernel_rfl) (by kernel_rfl) (by kernel_rfl) (by kernel_rfl) ?_
  repeat (first|(simp -implicitDefEqProofs only [go_sem,Nat.reduceAdd,Nat.reduceMul,Nat.reduceEqDiff,Nat.reduceLT,Nat.reduceLeDiff,reduceCtorEq])|((with_reducible refine Qab (a1) ?_ ?_ ?_);(with_reducible rfl);rfl))
 |true=>
  rw [hv]at a1
  rw [Bool.true_and]
  refine Qac (tb:=[]) 11 [.tmp 4] [0,1,2,3,4] mixed Tryz.func197 rfl (by kernel_rfl) (by kernel_rfl) (by kernel_rfl) (by kernel_rfl) ?_
  repeat (first|(simp -implicitDefEqProofs only [go_sem,Nat.reduceAdd,Nat.reduceMul,Nat.reduceEqDiff,Nat.reduceLT,Nat.reduceLeDiff,reduceCtorEq])|((with_reducible refine Qab (a1) ?_ ?_ ?_);(with_reducible rfl);rfl)|((with_reducible refine Qab (a2) ?_ ?_ ?_);(with_reducible rfl);rfl))
def gN (x y:Int):Int:=if y<0 then -((Nat.gcd x.natAbs y.natAbs:Nat):Int)else((Nat.gcd x.natAbs y.natAbs:Nat):Int)
def lowN (x y:Int):Int:=x/gN x y
def lowD (x y:Int):Int:=y/gN x y
def Qdp (x y:Int):PV:= .agg [.bool (decide (x<0)),.str ⟨(magL x.natAbs).toArray⟩,.bool (decide (y<0)),.str ⟨(magL y.natAbs).toArray⟩]
def big (x y:Int):Bool:=decide (65536<blen x.natAbs)||decide (65536<blen y.natAbs)
def Qqi (e:Int):PV:= .tup [.agg [.bool false,.str ⟨#[]⟩,.bool false,.str ⟨#[]⟩],.int .i64 e]
def outQ (x y:Int):PV:=if big x y=true then Qqi 7 else .tup [Qdp x y,.int .i64 0]
theorem Qoo {x y:Int} (h:big x y=true):outQ x y=Qqi 7:=by rw [outQ,if_pos h]
theorem Qop {x y:Int} (h:big x y=false):outQ x y= .tup [Qdp x y,.int .i64 0]:=by rw [outQ,if_neg (by rw [h];decide)]
theorem Q7o (n:Bool) (m:Nat):(sv n m).natAbs=m:=by cases n<;>simp [sv]
theorem Zqy {n:Bool} {m:Nat} (h:0<m):(sv n m<0)=(n=true):=by cases n<;>simp [sv]<;>omega
theorem Zs0 (xn yn:Bool) (a b:Nat) (hb:0<b):gN (sv xn a) (sv yn b)=sv yn (Nat.gcd a b):=by
 unfold gN
 rw [Q7o,Q7o]
 simp only [Zqy hb]
 cases yn<;>rfl
theorem Qqj {n:Int} (h:65536<blen n.natAbs):Qe8 n= .tup [.agg [.bool false,.str ⟨#[]⟩],.int .i64 7]:=by rw [Qe8,if_pos h,Qv8]
theorem Qmr {n:Int} (h: ¬65536<blen n.natAbs):Qe8 n= .tup [.agg [.bool (decide (n<0)),.str ⟨(magL n.natAbs).toArray⟩],.int .i64 0]:=by rw [Qe8,if_neg h];rfl
theorem Qms (xn yn:Bool) (a b:Nat) (hb:0<b) (ha:(digs BW a).length≤900000) (hbl:(digs BW b).length≤900000):
  Qad Tryz.prog 199 [nP xn a,nP yn b] (outQ (lowN (sv xn a) (sv yn b)) (lowD (sv xn a) (sv yn b))):=by
 have hg:=Zh6 a b (by omega) (by omega)
 have hgp:0<Nat.gcd a b:=Nat.gcd_pos_of_pos_right _ hb
 have hgl:(digs BW (Nat.gcd a b)).length≤900000:=Nat.le_trans (Qf1 (Nat.gcd_le_right _ hb)) hbl
 have d1:=Qw0 xn yn a (Nat.gcd a b) hgp (by omega) (by omega)
 have d2:=Qw0 yn yn b (Nat.gcd a b) hgp (by omega) (by omega)
 have w1:=Qf0 (!(xn==yn)) (nqn xn a (Nat.gcd a b)) (Nat.le_trans (Qf1 (Qw1 _ _ _)) (Nat.le_trans (Qqh _) (by omega)))
 have w2:=Qf0 (!(yn==yn)) (nqn yn b (Nat.gcd a b)) (Nat.le_trans (Qf1 (Qw1 _ _ _)) (Nat.le_trans (Qqh _) (by omega)))
 rw [(Qwz xn yn a _ hgp).1]at w1
 rw [(Qwz yn yn b _ hgp).1]at w2
 have e0:(!(yn==yn))=false:=by cases yn<;>rfl
 rw [e0]at d2 w2
 unfold lowN lowD
 rw [Zs0 _ _ _ _ hb]
 generalize sv xn a/sv yn (Nat.gcd a b)=n at*
 generalize sv yn b/sv yn (Nat.gcd a b)=d at*
 generalize nqn xn a (Nat.gcd a b)=q1 at*
 generalize nqn yn b (Nat.gcd a b)=q2 at*
 generalize nrn xn a (Nat.gcd a b)=r1 at*
 generalize nrn yn b (Nat.gcd a b)=r2 at*
 generalize Nat.gcd a b=g at*
 generalize (!(xn==yn))=s at*
 have z1:((7:Int) != 0)=true:=rfl
 have z0:((0:Int) != 0)=false:=rfl
 by_cases h1:65536<blen n.natAbs
 ·rw [Qoo (by simp [big,h1])]
  rw [Qqj h1]at w1
  by_cases h2:65536<blen d.natAbs
  ·rw [Qqj h2]at w2
   refine Qac (tb:=[]) 51 [.cell 4 219,.tmp 5] [0,1,2,3,4,5,6,7,8,9,10,46] mixed Tryz.func199 rfl (by kernel_rfl) (by kernel_rfl) (by kernel_rfl) (by kernel_rfl) ?_
   repeat (first|(simp -implicitDefEqProofs only [go_sem,Nat.reduceAdd,Nat.reduceMul,Nat.reduceEqDiff,Nat.reduceLT,Nat.reduceLeDiff,reduceCtorEq,nP,dw,z1,z0,Qqi])|((with_reducible refine Qab (hg) ?_ ?_ ?_);(with_reducible rfl);rfl)|((with_reducible refine Qab (d1) ?_ ?_ ?_);(with_reducible rfl);rfl)|((with_reducible refine Qab (d2) ?_ ?_ ?_);(with_reducible rfl);rfl)|((with_reducible refine Qab (w1) ?_ ?_ ?_);(with_reducible rfl);rfl)|((with_reducible refine Qab (w2) ?_ ?_ ?_);(with_reducible rfl);rfl)|(with_reducible exact Qaa _ _ (by kernel_rfl))|(with_reducible refine And.intro (Qaa _ _ (by kernel_rfl)) ?_))
  ·rw [Qmr h2]at w2
   refine Qac (tb:=[]) 51 [.cell 4 219,.tmp 5] [0,1,2,3,4,5,6,7,8,9,10,46] mixed Tryz.func199 rfl (by kernel_rfl) (by kernel_rfl) (by kernel_rfl) (by kernel_rfl) ?_
   repeat (first|(simp -implicitDefEqProofs only [go_sem,Nat.reduceAdd,Nat.reduceMul,Nat.reduceEqDiff,Nat.reduceLT,Nat.reduceLeDiff,reduceCtorEq,nP,dw,z1,z0,Qqi])|((with_reducible refine Qab (hg) ?_ ?_ ?_);(with_reducible rfl);rfl)|((with_reducible refine Qab (d1) ?_ ?_ ?_);(with_reducible rfl);rfl)|((with_reducible refine Qab (d2) ?_ ?_ ?_);(with_reducible rfl);rfl)|((with_reducible refine Qab (w1) ?_ ?_ ?_);(with_reducible rfl);rfl)|((with_reducible refine Qab (w2) ?_ ?_ ?_);(with_reducible rfl);rfl)|(with_reducible exact Qaa _ _ (by kernel_rfl))|(with_reducible refine And.intro (Qaa _ _ (by kernel_rfl)) ?_))
 ·rw [Qmr h1]at w1
  by_cases h2:65536<blen d.natAbs
  ·rw [Qoo (by simp [big,h2])]
   rw [Qqj h2]at w2
   refine Qac (tb:=[]) 51 [.cell 4 219,.tmp 5] [0,1,2,3,4,5,6,7,8,9,10,46] mixed Tryz.func199 rfl (by kernel_rfl) (by kernel_rfl) (by kernel_rfl) (by kernel_rfl) ?_
   repeat (first|(simp -implicitDefEqProofs only [go_sem,Nat.reduceAdd,Nat.reduceMul,Nat.reduceEqDiff,Nat.reduceLT,Nat.reduceLeDiff,reduceCtorEq,nP,dw,z1,z0,Qqi])|((with_reducible refine Qab (hg) ?_ ?_ ?_);(with_reducible rfl);rfl)|((with_reducible refine Qab (d1) ?_ ?_ ?_);(with_reducible rfl);rfl)|((with_reducible refine Qab (d2) ?_ ?_ ?_);(with_reducible rfl);rfl)|((with_reducible refine Qab (w1) ?_ ?_ ?_);(with_reducible rfl);rfl)|((with_reducible refine Qab (w2) ?_ ?_ ?_);(with_reducible rfl);rfl)|(with_reducible exact Qaa _ _ (by kernel_rfl))|(with_reducible refine And.intro (Qaa _ _ (by kernel_rfl)) ?_))
  ·rw [Qop (by simp only [big,h1,h2,decide_false,Bool.or_self])]
   rw [Qmr h2]at w2
   refine Qac (tb:=[]) 51 [.cell 4 219,.tmp 5] [0,1,2,3,4,5,6,7,8,9,10,46] mixed Tryz.func199 rfl (by kernel_rfl) (by kernel_rfl) (by kernel_rfl) (by kernel_rfl) ?_
   repeat (first|(simp -implicitDefEqProofs only [go_sem,Nat.reduceAdd,Nat.reduceMul,Nat.reduceEqDiff,Nat.reduceLT,Nat.reduceLeDiff,reduceCtorEq,nP,dw,z1,z0,Qdp])|((with_reducible refine Qab (hg) ?_ ?_ ?_);(with_reducible rfl);rfl)|((with_reducible refine Qab (d1) ?_ ?_ ?_);(with_reducible rfl);rfl)|((with_reducible refine Qab (d2) ?_ ?_ ?_);(with_reducible rfl);rfl)|((with_reducible refine Qab (w1) ?_ ?_ ?_);(with_reducible rfl);rfl)|((with_reducible refine Qab (w2) ?_ ?_ ?_);(with_reducible rfl);rfl)|(with_reducible exact Qaa _ _ (by kernel_rfl))|(with_reducible refine And.intro (Qaa _ _ (by kernel_rfl)) ?_))
theorem Zf7 (an bn:Bool) (a b:ByteArray) (h1:Qbl an a.data.toList=true) (h2:Qbl bn b.data.toList=true) (h0:b.data.toList≠ []) (ha:a.size≤100000) (hb:b.size≤100000):
  Qad Tryz.prog 196 [.agg [.bool an,.str a],.agg [.bool bn,.str b]] (outQ (lowN (wnum an a) (wnum bn b)) (lowD (wnum an a) (wnum bn b))):=by
 have hv:=Qmt an bn a b
 rw [h1,h2,Bool.true_and]at hv
 have hL1:=Qcg a ha
 have hL2:=Qcg b hb
 have hoa:=Qez an a h1 (by omega)
 have hob:=Qez bn b h2 (by omega)
 have he:=Qlk h0
 have hl:=Qms an bn _ _ (Qf2 h2 h0) (by omega:(digs BW (bnum a.data.toList)).length≤900000) (by omega)
 unfold wnum
 generalize lowN (sv an (bnum a.data.toList)) (sv bn (bnum b.data.toList))=N at*
 generalize lowD (sv an (bnum a.data.toList)) (sv bn (bnum b.data.toList))=D at*
 cases hB:big N D with
 |true=>
  rw [Qoo hB]at hl ⊢
  refine Qac (tb:=[]) 22 [.cell 4 219,.tmp 5] [0,1,2,3,4,5,9,13] mixed Tryz.func196 rfl (by kernel_rfl) (by kernel_rfl) (by kernel_rfl) (by kernel_rfl) ?_
  repeat (first|(simp -implicitDefEqProofs only [go_sem,Nat.reduceAdd,Nat.reduceMul,Nat.reduceEqDiff,Nat.reduceLT,Nat.reduceLeDiff,reduceCtorEq,he,nP,dw,Qqi])|((with_reducible refine Qab (hv) ?_ ?_ ?_);(with_reducible rfl);rfl)|((with_reducible refine Qab (hoa) ?_ ?_ ?_);(with_reducible rfl);rfl)|((with_reducible refine Qab (hob) ?_ ?_ ?_);(with_reducible rfl);rfl)|((with_reducible refine Qab (hl) ?_ ?_ ?_);(with_reducible rfl);rfl)|(with_reducible exact Qaa _ _ (by kernel_rfl))|(with_reducible refine And.intro (Qaa _ _ (by kernel_rfl)) ?_))
 |false=>
  rw [Qop hB]at hl ⊢
  refine Qac (tb:=[]) 22 [.cell 4 219,.tmp 5] [0,1,2,3,4,5,9,13] mixed Tryz.func196 rfl (by kernel_rfl) (by kernel_rfl) (by kernel_rfl) (by kernel_rfl) ?_
  repeat (first|(simp -implicitDefEqProofs only [go_sem,Nat.reduceAdd,Nat.reduceMul,Nat.reduceEqDiff,Nat.reduceLT,Nat.reduceLeDiff,reduceCtorEq,he,nP,dw,Qdp])|((with_reducible refine Qab (hv) ?_ ?_ ?_);(with_reducible rfl);rfl)|((with_reducible refine Qab (hoa) ?_ ?_ ?_);(with_reducible rfl);rfl)|((with_reducible refine Qab (hob) ?_ ?_ ?_);(with_reducible rfl);rfl)|((with_reducible refine Qab (hl) ?_ ?_ ?_);(with_reducible rfl);rfl)|(with_reducible exact Qaa _ _ (by kernel_rfl))|(with_reducible refine And.intro (Qaa _ _ (by kernel_rfl)) ?_))
end Go.Proofs.YtciddhkfbgkejaaGreatDoor

namespace Go.Proofs.YtciddhkfbgkejaaGreatDoor
open Go.Vl Go.RowKit Go.Dg
theorem Qll (n:Int):(magL n.natAbs=[])↔n=0:=by
 have h:=Qdm n.natAbs
 constructor
 ·intro e
  rw [e]at h
  have:=(Qbj (B:=256) (by decide)).1 (List.length_eq_zero_iff.1 h.symm)
  omega
 ·rintro rfl;simp [magL,Qay]
theorem Qzs (n d:Int) (h1: -9223372036854775808≤n) (h2:n≤9223372036854775807) (h3: -9223372036854775808≤d) (h4:d≤9223372036854775807) (h0:d≠0):Qad Tryz.prog 163 [.int .i64 n,.int .i64 d] (outQ (lowN n d) (lowD n d)):=by
 have o1:=Qhs n h1 h2
 have o2:=Qhs d h3 h4
 have hL1:(digs 256 n.natAbs).length≤8:=(Qal (by decide) _ 8).2 (by simp only [Nat.reducePow];omega)
 have hL2:(digs 256 d.natAbs).length≤8:=(Qal (by decide) _ 8).2 (by simp only [Nat.reducePow];omega)
 have hr:=Zf7 (decide (n<0)) (decide (d<0)) ⟨(magL n.natAbs).toArray⟩ ⟨(magL d.natAbs).toArray⟩ (Qic n (by omega)) (Qic d (by omega)) (fun e=>h0 ((Qll d).1 e)) (by rw [Qma];omega) (by rw [Qma];omega)
 rw [Qbi,Qbi]at hr
 generalize lowN n d=N at*
 generalize lowD n d=D at*
 cases hB:big N D with
 |true=>
  rw [Qoo hB]at hr ⊢
  refine Qac (tb:=[]) 13 [.cell 4 219,.tmp 5] [0,1,4,5] mixed Tryz.func163 rfl (by kernel_rfl) (by kernel_rfl) (by kernel_rfl) (by kernel_rfl) ?_
  repeat (first|(simp -implicitDefEqProofs only [go_sem,Nat.reduceAdd,Nat.reduceMul,Nat.reduceEqDiff,Nat.reduceLT,Nat.reduceLeDiff,reduceCtorEq,wPV,Qqi])|((with_reducible refine Qab (o1) ?_ ?_ ?_);(with_reducible rfl);rfl)|((with_reducible refine Qab (o2) ?_ ?_ ?_);(with_reducible rfl);rfl)|((with_reducible refine Qab (hr) ?_ ?_ ?_);(with_reducible rfl);rfl))
 |false=>
  rw [Qop hB]at hr ⊢
  refine Qac (tb:=[]) 13 [.cell 4 219,.tmp 5] [0,1,4,5] mixed Tryz.func163 rfl (by kernel_rfl) (by kernel_rfl) (by kernel_rfl) (by kernel_rfl) ?_
  repeat (first|(simp -implicitDefEqProofs only [go_sem,Nat.reduceAdd,Nat.reduceMul,Nat.reduceEqDiff,Nat.reduceLT,Nat.reduceLeDiff,reduceCtorEq,wPV,Qdp])|((with_reducible refine Qab (o1) ?_ ?_ ?_);(with_reducible rfl);rfl)|((with_reducible refine Qab (o2) ?_ ?_ ?_);(with_reducible rfl);rfl)|((with_reducible refine Qab (hr) ?_ ?_ ?_);(with_reducible rfl);rfl))
theorem Qdq {n m:Bool} {s t:ByteArray} (h:vRat n s m t=true):Qbl n s.data.toList=true∧Qbl m t.data.toList=true∧m=false∧t.data.toList≠ []:=by
 simp only [vRat,Bool.and_eq_true]at h
 refine⟨h.1,h.2.1,by simpa using h.2.2.1,by simpa using h.2.2.2⟩
theorem sumL (x y m:Nat) (hm:m≤x+y) (k:Nat) (h1:(digs BW x).length≤k) (h2:(digs BW y).length≤k):(digs BW m).length≤k+1:=Zhz x y m k hm h1 h2
theorem Qzt (n1 m1 n2 m2:Bool) (s1 t1 s2 t2:ByteArray) (hv1:vRat n1 s1 m1 t1=true) (hv2:vRat n2 s2 m2 t2=true) (a1:s1.size≤100000) (a2:t1.size≤100000) (a3:s2.size≤100000) (a4:t2.size≤100000):
  Qad Tryz.prog 198 [.agg [.bool n1,.str s1,.bool m1,.str t1],.agg [.bool n2,.str s2,.bool m2,.str t2]]
   (.tup [nP (!(n1==m2)) (bnum s1.data.toList*bnum t2.data.toList),nP (!(n2==m1)) (bnum s2.data.toList*bnum t1.data.toList),nP (!(m1==m2)) (bnum t1.data.toList*bnum t2.data.toList)]):=by
 obtain⟨p1,p2,_,_⟩:=Qdq hv1
 obtain⟨p3,p4,_,_⟩:=Qdq hv2
 have o1:=Qez n1 s1 p1 (by omega)
 have o2:=Qez m1 t1 p2 (by omega)
 have o3:=Qez n2 s2 p3 (by omega)
 have o4:=Qez m2 t2 p4 (by omega)
 have l1:=Qcg s1 a1
 have l2:=Qcg t1 a2
 have l3:=Qcg s2 a3
 have l4:=Qcg t2 a4
 have x1:=Qom n1 m2 (bnum s1.data.toList) (bnum t2.data.toList) (by omega)
 have x2:=Qom n2 m1 (bnum s2.data.toList) (bnum t1.data.toList) (by omega)
 have x3:=Qom m1 m2 (bnum t1.data.toList) (bnum t2.data.toList) (by omega)
 generalize (!(n1==m2))=b1 at*
 generalize (!(n2==m1))=b2 at*
 generalize (!(m1==m2))=b3 at*
 refine Qac (tb:=[]) 28 [.cell 4 160,.cell 5 160,.cell 6 160] [0,1,2,3,4,5,6] mixed Tryz.func198 rfl (by kernel_rfl) (by kernel_rfl) (by kernel_rfl) (by kernel_rfl) ?_
 repeat (first|(simp -implicitDefEqProofs only [go_sem,Nat.reduceAdd,Nat.reduceMul,Nat.reduceEqDiff,Nat.reduceLT,Nat.reduceLeDiff,reduceCtorEq,nP,dw])|((with_reducible refine Qab (o1) ?_ ?_ ?_);(with_reducible rfl);rfl)|((with_reducible refine Qab (o2) ?_ ?_ ?_);(with_reducible rfl);rfl)|((with_reducible refine Qab (o3) ?_ ?_ ?_);(with_reducible rfl);rfl)|((with_reducible refine Qab (o4) ?_ ?_ ?_);(with_reducible rfl);rfl)|((with_reducible refine Qab (x1) ?_ ?_ ?_);(with_reducible rfl);rfl)|((with_reducible refine Qab (x2) ?_ ?_ ?_);(with_reducible rfl);rfl)|((with_reducible refine Qab (x3) ?_ ?_ ?_);(with_reducible rfl);rfl)|(with_reducible exact Qaa _ _ (by kernel_rfl))|(with_reducible refine And.intro (Qaa _ _ (by kernel_rfl)) ?_))
def Qus (a b c d:Int):Int:=lowN (a*d+c*b) (b*d)
def Qut (a b c d:Int):Int:=lowD (a*d+c*b) (b*d)
theorem Quu (n1 m1 n2 m2:Bool) (s1 t1 s2 t2:ByteArray) (hv1:vRat n1 s1 m1 t1=true) (hv2:vRat n2 s2 m2 t2=true) (a1:s1.size≤100000) (a2:t1.size≤100000) (a3:s2.size≤100000) (a4:t2.size≤100000):
  Qad Tryz.prog 164 [.agg [.bool n1,.str s1,.bool m1,.str t1],.agg [.bool n2,.str s2,.bool m2,.str t2]] (outQ (Qus (wnum n1 s1) (wnum m1 t1) (wnum n2 s2) (wnum m2 t2)) (Qut (wnum n1 s1) (wnum m1 t1) (wnum n2 s2) (wnum m2 t2))):=by
 have hp:=Q7n n1 m1 n2 m2 s1 t1 s2 t2 a2 a4
 rw [hv1,hv2,Bool.true_and]at hp
 have hc:=Qzt n1 m1 n2 m2 s1 t1 s2 t2 hv1 hv2 a1 a2 a3 a4
 obtain⟨p1,p2,_,p5⟩:=Qdq hv1
 obtain⟨p3,p4,_,p6⟩:=Qdq hv2
 have l1:=Qcg s1 a1
 have l2:=Qcg t1 a2
 have l3:=Qcg s2 a3
 have l4:=Qcg t2 a4
 have q1:=mulL (bnum s1.data.toList) (bnum t2.data.toList)
 have q2:=mulL (bnum s2.data.toList) (bnum t1.data.toList)
 have q3:=mulL (bnum t1.data.toList) (bnum t2.data.toList)
 obtain⟨n,m,hs,e,hm⟩:=Q7q (!(n1==m2)) (!(n2==m1)) (bnum s1.data.toList*bnum t2.data.toList) (bnum s2.data.toList*bnum t1.data.toList) (by omega) (by omega)
 have hml:=sumL _ _ m hm 200000 (by omega) (by omega)
 have hlo:=Qms n (!(m1==m2)) m (bnum t1.data.toList*bnum t2.data.toList) (Nat.mul_pos (Qf2 p2 p5) (Qf2 p4 p6)) (by omega) (by omega)
 rw [Qon,e,Qon,Qon]at hlo
 unfold Qus Qut
 show Qad Tryz.prog 164 _ (outQ (lowN (sv n1 (bnum s1.data.toList)*sv m2 (bnum t2.data.toList)+sv n2 (bnum s2.data.toList)*sv m1 (bnum t1.data.toList)) (sv m1 (bnum t1.data.toList)*sv m2 (bnum t2.data.toList))) (lowD (sv n1 (bnum s1.data.toList)*sv m2 (bnum t2.data.toList)+sv n2 (bnum s2.data.toList)*sv m1 (bnum t1.data.toList)) (sv m1 (bnum t1.data.toList)*sv m2 (bnum t2.data.toList))))
 generalize lowN (sv n1 (bnum s1.data.toList)*sv m2 (bnum t2.data.toList)+sv n2 (bnum s2.data.toList)*sv m1 (bnum t1.data.toList)) (sv m1 (bnum t1.data.toList)*sv m2 (bnum t2.data.toList))=N at*
 generalize lowD (sv n1 (bnum s1.data.toList)*sv m2 (bnum t2.data.toList)+sv n2 (bnum s2.data.toList)*sv m1 (bnum t1.data.toList)) (sv m1 (bnum t1.data.toList)*sv m2 (bnum t2.data.toList))=D at*
 generalize (!(n1==m2))=b1 at*
 generalize (!(n2==m1))=b2 at*
 generalize (!(m1==m2))=b3 at*
 cases hB:big N D with
 |true=>
  rw [Qoo hB]at hlo ⊢
  refine Qac (tb:=[]) 28 [.cell 4 219,.tmp 5] [0,1,2,3,4,5,6,7,8,12] mixed Tryz.func164 rfl (by kernel_rfl) (by kernel_rfl) (by kernel_rfl) (by kernel_rfl) ?_
  repeat (first|(simp -implicitDefEqProofs only [go_sem,Nat.reduceAdd,Nat.reduceMul,Nat.reduceEqDiff,Nat.reduceLT,Nat.reduceLeDiff,reduceCtorEq,nP,dw,Qqi])|((with_reducible refine Qab (hp) ?_ ?_ ?_);(with_reducible rfl);rfl)|((with_reducible refine Qab (hc) ?_ ?_ ?_);(with_reducible rfl);rfl)|((with_reducible refine Qab (hs) ?_ ?_ ?_);(with_reducible rfl);rfl)|((with_reducible refine Qab (hlo) ?_ ?_ ?_);(with_reducible rfl);rfl)|(with_reducible exact Qaa _ _ (by kernel_rfl))|(with_reducible refine And.intro (Qaa _ _ (by kernel_rfl)) ?_))
 |false=>
  rw [Qop hB]at hlo ⊢
  refine Qac (tb:=[]) 28 [.cell 4 219,.tmp 5] [0,1,2,3,4,5,6,7,8,12] mixed Tryz.func164 rfl (by kernel_rfl) (by kernel_rfl) (by kernel_rfl) (by kernel_rfl) ?_
  repeat (first|(simp -implicitDefEqProofs only [go_sem,Nat.reduceAdd,Nat.reduceMul,Nat.reduceEqDiff,Nat.reduceLT,Nat.reduceLeDiff,reduceCtorEq,nP,dw,Qdp])|((with_reducible refine Qab (hp) ?_ ?_ ?_);(with_reducible rfl);rfl)|((with_reducible refine Qab (hc) ?_ ?_ ?_);(with_reducible rfl);rfl)|((with_reducible refine Qab (hs) ?_ ?_ ?_);(with_reducible rfl);rfl)|((with_reducible refine Qab (hlo) ?_ ?_ ?_);(with_reducible rfl);rfl)|(with_reducible exact Qaa _ _ (by kernel_rfl))|(with_reducible refine And.intro (Qaa _ _ (by kernel_rfl)) ?_))
def Znr (a b c d:Int):Int:=lowN (a*d-c*b) (b*d)
def Zns (a b c d:Int):Int:=lowD (a*d-c*b) (b*d)
theorem Quv (n1 m1 n2 m2:Bool) (s1 t1 s2 t2:ByteArray) (hv1:vRat n1 s1 m1 t1=true) (hv2:vRat n2 s2 m2 t2=true) (a1:s1.size≤100000) (a2:t1.size≤100000) (a3:s2.size≤100000) (a4:t2.size≤100000):
  Qad Tryz.prog 165 [.agg [.bool n1,.str s1,.bool m1,.str t1],.agg [.bool n2,.str s2,.bool m2,.str t2]] (outQ (lowN (wnum n1 s1*wnum n2 s2) (wnum m1 t1*wnum m2 t2)) (lowD (wnum n1 s1*wnum n2 s2) (wnum m1 t1*wnum m2 t2))):=by
 have hp:=Q7n n1 m1 n2 m2 s1 t1 s2 t2 a2 a4
 rw [hv1,hv2,Bool.true_and]at hp
 obtain⟨p1,p2,_,p5⟩:=Qdq hv1
 obtain⟨p3,p4,_,p6⟩:=Qdq hv2
 have o1:=Qez n1 s1 p1 (by omega)
 have o2:=Qez m1 t1 p2 (by omega)
 have o3:=Qez n2 s2 p3 (by omega)
 have o4:=Qez m2 t2 p4 (by omega)
 have l1:=Qcg s1 a1
 have l2:=Qcg t1 a2
 have l3:=Qcg s2 a3
 have l4:=Qcg t2 a4
 have q1:=mulL (bnum s1.data.toList) (bnum s2.data.toList)
 have q3:=mulL (bnum t1.data.toList) (bnum t2.data.toList)
 have x1:=Qom n1 n2 (bnum s1.data.toList) (bnum s2.data.toList) (by omega)
 have x2:=Qom m1 m2 (bnum t1.data.toList) (bnum t2.data.toList) (by omega)
 have hlo:=Qms (!(n1==n2)) (!(m1==m2)) (bnum s1.data.toList*bnum s2.data.toList) (bnum t1.data.toList*bnum t2.data.toList) (Nat.mul_pos (Qf2 p2 p5) (Qf2 p4 p6)) (by omega) (by omega)
 rw [Qon,Qon]at hlo
 unfold wnum
 generalize lowN (sv n1 (bnum s1.data.toList)*sv n2 (bnum s2.data.toList)) (sv m1 (bnum t1.data.toList)*sv m2 (bnum t2.data.toList))=N at*
 generalize lowD (sv n1 (bnum s1.data.toList)*sv n2 (bnum s2.data.toList)) (sv m1 (bnum t1.data.toList)*sv m2 (bnum t2.data.toList))=D at*
 generalize (!(n1==n2))=b1 at*
 generalize (!(m1==m2))=b3 at*
 cases hB:big N D with
 |true=>
  rw [Qoo hB]at hlo ⊢
  refine Qac (tb:=[]) 28 [.cell 4 219,.tmp 5] [0,1,2,3,4,5,9] mixed Tryz.func165 rfl (by kernel_rfl) (by kernel_rfl) (by kernel_rfl) (by kernel_rfl) ?_
  repeat (first|(simp -implicitDefEqProofs only [go_sem,Nat.reduceAdd,Nat.reduceMul,Nat.reduceEqDiff,Nat.reduceLT,Nat.reduceLeDiff,reduceCtorEq,nP,dw,Qqi])|((with_reducible refine Qab (hp) ?_ ?_ ?_);(with_reducible rfl);rfl)|((with_reducible refine Qab (o1) ?_ ?_ ?_);(with_reducible rfl);rfl)|((with_reducible refine Qab (o2) ?_ ?_ ?_);(with_reducible rfl);rfl)|((with_reducible refine Qab (o3) ?_ ?_ ?_);(with_reducible rfl);rfl)|((with_reducible refine Qab (o4) ?_ ?_ ?_);(with_reducible rfl);rfl)|((with_reducible refine Qab (x1) ?_ ?_ ?_);(with_reducible rfl);rfl)|((with_reducible refine Qab (x2) ?_ ?_ ?_);(with_reducible rfl);rfl)|((with_reducible refine Qab (hlo) ?_ ?_ ?_);(with_reducible rfl);rfl)|(with_reducible exact Qaa _ _ (by kernel_rfl))|(with_reducible refine And.intro (Qaa _ _ (by kernel_rfl)) ?_))
 |false=>
  rw [Qop hB]at hlo ⊢
  refine Qac (tb:=[]) 28 [.cell 4 219,.tmp 5] [0,1,2,3,4,5,9] mixed Tryz.func165 rfl (by kernel_rfl) (by kernel_rfl) (by kernel_rfl) (by kernel_rfl) ?_
  repeat (first|(simp -implicitDefEqProofs only [go_sem,Nat.reduceAdd,Nat.reduceMul,Nat.reduceEqDiff,Nat.reduceLT,Nat.reduceLeDiff,reduceCtorEq,nP,dw,Qdp])|((with_reducible refine Qab (hp) ?_ ?_ ?_);(with_reducible rfl);rfl)|((with_reducible refine Qab (o1) ?_ ?_ ?_);(with_reducible rfl);rfl)|((with_reducible refine Qab (o2) ?_ ?_ ?_);(with_reducible rfl);rfl)|((with_reducible refine Qab (o3) ?_ ?_ ?_);(with_reducible rfl);rfl)|((with_reducible refine Qab (o4) ?_ ?_ ?_);(with_reducible rfl);rfl)|((with_reducible refine Qab (x1) ?_ ?_ ?_);(with_reducible rfl);rfl)|((with_reducible refine Qab (x2) ?_ ?_ ?_);(with_reducible rfl);rfl)|((with_reducible refine Qab (hlo) ?_ ?_ ?_);(with_reducible rfl);rfl)|(with_reducible exact Qaa _ _ (by kernel_rfl))|(with_reducible refine And.intro (Qaa _ _ (by kernel_rfl)) ?_))
theorem Zf8 (n m:Bool) (s t:ByteArray) (hv:vRat n s m t=true) (a1:s.size≤100000) (a2:t.size≤100000):Qad Tryz.prog 166 [.agg [.bool n,.str s,.bool m,.str t]] (Qe8 (wnum n s/wnum m t)):=by
 have hp:=Qf3 n s m t a2
 rw [hv]at hp
 obtain⟨p1,p2,_,p5⟩:=Qdq hv
 have o1:=Qez n s p1 (by omega)
 have o2:=Qez m t p2 (by omega)
 have l1:=Qcg s a1
 have l2:=Qcg t a2
 have hb:=Qf2 p2 p5
 have hd:=Qw0 n m (bnum s.data.toList) (bnum t.data.toList) hb (by omega) (by omega)
 have hw:=Qf0 (!(n==m)) (nqn n (bnum s.data.toList) (bnum t.data.toList)) (Nat.le_trans (Qf1 (Qw1 _ _ _)) (Nat.le_trans (Qqh _) (by omega)))
 rw [(Qwz n m _ _ hb).1,Qe2]at hw
 rw [Qe2]
 show Qad Tryz.prog 166 _ (.tup [wPV (outN (sv n (bnum s.data.toList)/sv m (bnum t.data.toList))),.int .i64 (outE (sv n (bnum s.data.toList)/sv m (bnum t.data.toList)))])
 generalize sv n (bnum s.data.toList)/sv m (bnum t.data.toList)=q at*
 generalize (!(n==m))=b1 at*
 refine Qac (tb:=[]) 24 [.cell 2 71,.tmp 3] [0,1,2,3,4,8] mixed Tryz.func166 rfl (by kernel_rfl) (by kernel_rfl) (by kernel_rfl) (by kernel_rfl) ?_
 repeat (first|(simp -implicitDefEqProofs only [go_sem,Nat.reduceAdd,Nat.reduceMul,Nat.reduceEqDiff,Nat.reduceLT,Nat.reduceLeDiff,reduceCtorEq,nP,dw,wPV])|((with_reducible refine Qab (hp) ?_ ?_ ?_);(with_reducible rfl);rfl)|((with_reducible refine Qab (o1) ?_ ?_ ?_);(with_reducible rfl);rfl)|((with_reducible refine Qab (o2) ?_ ?_ ?_);(with_reducible rfl);rfl)|((with_reducible refine Qab (hd) ?_ ?_ ?_);(with_reducible rfl);rfl)|((with_reducible refine Qab (hw) ?_ ?_ ?_);(with_reducible rfl);rfl)|(with_reducible exact Qaa _ _ (by kernel_rfl))|(with_reducible refine And.intro (Qaa _ _ (by kernel_rfl)) ?_))
end Go.Proofs.YtciddhkfbgkejaaGreatDoor

namespace Go.Proofs.YtciddhkfbgkejaaGreatDoor
open Go.Vl Go.RowKit Go.Dg
theorem Zi5 (r d:Nat) (hd:d<E9):Qdj (d::digs E9 r)=digs E9 (r*E9+d):=by
 rw [Qph E9_2 (d::digs E9 r) (by
  intro x hx
  rcases List.mem_cons.1 hx with rfl|hx
  ·exact hd
  ·exact Ql1 E9_2 hx)]
 congr 1
 simp only [val,Qpf E9_2]
 rw [Nat.mul_comm,Nat.add_comm]
theorem Q9z (V N i:Nat) (hi:i<N) (h:V/E9^i%E9=0):mix E9 0 V N (i+1)=mix E9 0 V N i:=by
 have h1:=Qin (B:=E9) (V:=0) (S:=V) (N:=N) (i:=i) (d:=0) hi h
 rw [←h1]
 apply List.ext_getElem?
 intro j
 rw [List.getElem?_set]
 by_cases e:i=j
 ·subst e
  simp only [if_true]
  rw [if_pos (by rw [Qbf];exact hi),Qcx _ _ _ _ _ hi,if_pos (by omega)]
  simp
 ·simp [e]
theorem app1 (d:Nat) (D:List PV) (bx:Bx) (hb:bx 606=none) (h4:bx 604=some {els:=[.int .i64 (d:Int)],esz:=1,ety:=3,fro:=0,live:=true,arr:=true}) (hD:D.length≤1000000000) (hok:D.all (fun e=>e.cells.length==1&&e.cells.all PV.okCell)=true):
  Qa6 Tryz.prog [] 606 (.call ⟨.builtin .append, #[.tmp 26,.tmp 27], #[27,27]⟩) [.bs 604 1 0 1,.slc D] bx=
   some (.done (.bs 606 1 0 (1+D.length)) [.kill 604,.new 606 {els:= .int .i64 (d:Int)::D,esz:=1,ety:=3,fro:=0,live:=true,arr:=true}],[(606,true),(604,true)]):=by
 have c1:((1+D.length)*8≤140737488355328)=True:=by simp only [eq_iff_iff,iff_true];omega
 have c2:(1+D.length≤maxLen)=True:=by simp only [eq_iff_iff,iff_true];unfold maxLen;omega
 skip
 simp -implicitDefEqProofs only [go_sem,Nat.reduceAdd,Nat.reduceLT,hok,c1,c2,hb,h4]
theorem Zi6 {P:Program} (id:Nat) (bx:Bx) (fo:Operand) (as0:Array Operand) (ts:Array TypeId) (f b esz len:Nat) (B:Box) (xs:List PV) (hB:bx b=some B) (ha:B.arr=true) (he:B.esz=esz) (hx:B.els=xs) (hl:len=xs.length):
  Qa6 P [] id (.call ⟨.value fo,as0,ts⟩) [.fn f [] [],.bs b esz 0 len] bx=some (.call f [.slc xs] [.fro b len],[(b,false),(b,false)]):=by
 subst hx;subst hl;subst he
 rw [Q81]
 have e1:(true&&B.soft.esz==B.esz&&decide (B.els.length≤B.soft.els.length))=true:=by simp [Box.soft,ha]
 have hs:B.soft.arr=true:=by simp [Box.soft,ha]
 have e2:(List.drop 0 B.soft.els).take B.els.length=B.els:=by rw [List.drop_zero];exact List.take_of_length_le (Nat.le_refl _)
 have h0:esc0 (.bs b B.esz 0 B.els.length) bx=some ((.slc B.els,[.fro b B.els.length]),[(b,false),(b,false)]):=by
  simp only [esc0,escS,M.bind,M.soft,hB,hs,M.ok,Nat.zero_add,e1,if_true,M.pure,List.nil_append,List.append_nil,e2,List.cons_append]
 have h1:Qf5 [.bs b B.esz 0 B.els.length] bx=some (([.slc B.els],[.fro b B.els.length]),[(b,false),(b,false)]):=by
  simp only [Qf5,esc1,escC,M.bind,h0,M.pure,List.nil_append,List.append_nil]
 simp only [M.bind,Qgl,M.pure,h1,List.nil_append,List.append_nil]
set_option maxHeartbeats 1000000 in
theorem Q15 (a b:Nat) (hb:0<b) (ha:(digs E9 a).length≤10000000) (hbl:(digs E9 b).length≤10000000):Qad Tryz.prog 154 [di (digs E9 a),di (digs E9 b)] (.tup [di (digs E9 (a/b)),di (digs E9 (a%b))]):=by
 refine Qac (tb:=[]) 63 [.tmp 4,.tmp 5] [0,1,4,5,6,7,8,9,10,11,19,33,36,47] mixed Tryz.func154 rfl (by kernel_rfl) (by kernel_rfl) (by kernel_rfl) (by kernel_rfl) ?_
 have hn0:((0:Int)≤((digs E9 a).length:Int))=True:=by simp
 have hn1:((8:Nat):Int)*((digs E9 a).length:Int)≤281474976710656:=by omega
 have hn2:((digs E9 a).length:Int)≤9223372036854775807:=by omega
 have hlt:a<E9^(digs E9 a).length:=Qav E9_2 a
 have hw:IntKind.i64.wrap (((digs E9 a).length:Int)-1)=((digs E9 a).length:Int)-1:=Qah (by omega) (by omega)
 simp -implicitDefEqProofs only [go_sem,Nat.reduceAdd,Nat.reduceMul,Nat.reduceEqDiff,Nat.reduceLT,Nat.reduceLeDiff,reduceCtorEq,di,List.length_map,hn0,hn1,hn2,Int.toNat_natCast,hw]
 generalize hN:(digs E9 a).length=N at*
 have hrep:List.replicate N (PV.int .i64 0)=(mix E9 0 (a/b) N N).map fI:=by rw [Qld,Qrp];simp
 rw [hrep]
 refine Qar mixed (fun i:{i:Nat // i≤N}=>St.of [(0,di (digs E9 a)),(1,di (digs E9 b)),(6,.bs 102 1 0 N),(7,di (digs E9 (a/E9^i.1%b))),(8,.int .i64 ((i.1:Int)-1))]
  [(102,{els:=(mix E9 0 (a/b) N i.1).map fI,esz:=1,ety:=3,fro:=0,live:=true,arr:=true})]) (fun i=>i.1) ⟨N,Nat.le_refl _⟩ ?_ ?_
 ·refine Le.trans (Q9a 7 rfl) (Qak (θ:=[(102,102)]) rfl ?_ ?_)
  ·simp [Qaf,lkp,ren1,ren0,di,Nat.div_eq_of_lt hlt,Qay]
  ·simp [Qam,lkp,Box.renames]
 ·rintro⟨i,hi⟩
  cases i with
  |zero=>
   have h1:((0:Int)≤((0:Nat):Int)-1)=False:=by simp
   have hll:=Qai (B:=E9) (a/b) N
   have htk:((lows E9 (a/b) N).map fI).take N=(lows E9 (a/b) N).map fI:=List.take_of_length_le (by simp [hll])
   have e0:a/E9^0%b=a%b:=by rw [Nat.pow_zero,Nat.div_one]
   simp -implicitDefEqProofs only [go_sem,Nat.reduceAdd,Nat.reduceMul,Nat.reduceEqDiff,Nat.reduceLT,Nat.reduceLeDiff,reduceIte,reduceCtorEq,h1,Qg8,List.length_map,hll,htk]
   refine Qag _ _ _ _ _ _ _ _ _ (Qju (lows E9 (a/b) N) (by rw [hll];simp [maxLen];omega)) ?_
   simp -implicitDefEqProofs only [go_sem,Nat.reduceAdd,Nat.reduceEqDiff,Nat.reduceLT,reduceCtorEq,di,e0]
   rw [Qbo E9_2,Nat.mod_eq_of_lt (Nat.lt_of_le_of_lt (Nat.div_le_self _ _) hlt)]
  |succ i=>
   have hs:(((i+1:Nat):Int)-1)=(i:Int):=by omega
   have h1:((0:Int)≤(i:Int))=True:=by simp
   have h2:((i:Int)<(N:Int))=True:=by simp;omega
   have hga:=Qao E9_2 (show i<(digs E9 a).length by omega)
   have e0:a/E9^(i+1)=a/E9^i/E9:=by rw [Nat.pow_succ,Nat.div_div_eq_div_mul]
   obtain⟨s1,s2⟩:=Qn7 (a/E9^i) b E9 (by decide) hb
   have e1:a/E9^i/b=a/b/E9^i:=by rw [Nat.div_div_eq_div_mul,Nat.div_div_eq_div_mul,Nat.mul_comm]
   rw [←e0]at s1 s2
   rw [e1]at s1
   have hset:=Qin (B:=E9) (V:=0) (S:=a/b) (N:=N) (i:=i) (d:=a/b/E9^i%E9) (by omega) rfl
   have hsame:=Q9z (a/b) N i (by omega)
   have hml:=Qbf (B:=E9) 0 (a/b) N (i+1)
   obtain⟨e,hgo⟩: ∃e:Nat,((mix E9 0 (a/b) N (i+1)).map fI)[i]? =some (PV.int .i64 (e:Int)):=⟨_,by rw [List.getElem?_map,Qcx _ _ _ _ _ (by omega)];rfl⟩
   have hdl:a/E9^i%E9<E9:=Nat.mod_lt _ (by decide)
   have hrl:a/E9^(i+1)%b<b:=Nat.mod_lt _ hb
   have hup:=Zi5 (a/E9^(i+1)%b) (a/E9^i%E9) hdl
   have hL1:(digs E9 (a/E9^(i+1)%b)).length≤10000000:=Nat.le_trans (Qog (Nat.le_of_lt hrl)) hbl
   have w4:IntKind.i64.wrap ((i:Int)-1)=(i:Int)-1:=Qah (by omega) (by omega)
   generalize a/E9^i%E9=d at*
   generalize a/E9^(i+1)%b=ρ at*
   have ht:=Qju (d::digs E9 ρ) (by rw [List.length_cons];unfold maxLen;omega)
   rw [hup,di,List.map_cons]at ht
   have hL2:(digs E9 (ρ*E9+d)).length≤10000001:=by
    refine Nat.le_trans ((Qal E9_2 _ ((digs E9 b).length+1)).2 ?_) (Nat.succ_le_succ hbl)
    have h5:=Nat.mul_le_mul_right E9 (show ρ+1≤b from hrl)
    have h6:=Nat.mul_lt_mul_of_pos_right (Qav E9_2 b) (show 0<E9 by decide)
    rw [Nat.add_mul,Nat.one_mul]at h5
    rw [Nat.pow_succ]
    exact Nat.lt_trans (Nat.lt_of_lt_of_le (Nat.add_lt_add_left hdl _) h5) h6
   have c1:((1+(digs E9 ρ).length)*8≤140737488355328)=True:=by simp only [eq_iff_iff,iff_true];omega
   have c2:(1+(digs E9 ρ).length≤maxLen)=True:=by simp only [eq_iff_iff,iff_true];unfold maxLen;omega
   have hok:((digs E9 ρ).map fI).all (fun e=>e.cells.length==1&&e.cells.all PV.okCell)=true:=by rw [List.all_map,List.all_eq_true];intro _ _;rfl
   have hor:=Qpt (ρ*E9+d) b (by omega)
   have c3:(1+(digs E9 ρ).length≤(digs E9 ρ).length+1)=True:=by simp only [eq_iff_iff,iff_true];omega
   have c4:List.take (1+(digs E9 ρ).length) (PV.int .i64 (d:Int)::(digs E9 ρ).map fI)=PV.int .i64 (d:Int)::(digs E9 ρ).map fI:=List.take_of_length_le (by rw [List.length_cons,List.length_map,Nat.add_comm];exact Nat.le_refl _)
   generalize hR:ρ*E9+d=R at*
   generalize digs E9 ρ=D at*
   have hap:=fun(bx:Bx) h1 h2=>app1 d (D.map fI) bx h1 h2 (by rw [List.length_map];omega) hok
   rw [List.length_map]at hap
   have hca:=fun(bx:Bx) hB=>Zi6 (P:=Tryz.prog) 607 bx (.func 136) #[.tmp 28] #[27] 136 606 1 (1+D.length) {els:= .int .i64 (d:Int)::D.map fI,esz:=1,ety:=3,fro:=0,live:=true,arr:=true} (.int .i64 (d:Int)::D.map fI) hB rfl rfl rfl (by rw [List.length_cons,List.length_map,Nat.add_comm])
   simp -implicitDefEqProofs only [go_sem,Nat.reduceAdd,Nat.reduceMul,Nat.reduceEqDiff,Nat.reduceLT,Nat.reduceLeDiff,reduceCtorEq,di,hs,h1,h2,Qep,hga,Int.toNat_natCast,List.length_map,hap,hca]
   refine Qag _ _ _ _ _ _ _ _ _ ht ?_
   simp -implicitDefEqProofs only [go_sem,Nat.reduceAdd,Nat.reduceMul,Nat.reduceEqDiff,Nat.reduceLT,Nat.reduceLeDiff,reduceCtorEq,di]
   refine Qag _ _ _ _ _ _ _ _ _ hor ?_
   by_cases hc:R<b
   ·have hc':(cmpN R b<0)=True:=by rw [Qpj hc];simp
    have hq0:R/b=0:=Nat.div_eq_of_lt hc
    rw [hq0]at s1
    rw [Nat.mod_eq_of_lt hc]at s2
    simp -implicitDefEqProofs only [go_sem,Nat.reduceAdd,Nat.reduceMul,Nat.reduceEqDiff,Nat.reduceLT,Nat.reduceLeDiff,reduceIte,reduceCtorEq,hc',w4]
    refine⟨⟨i,by omega⟩,by simp only;omega,Qak (θ:=[(102,102)]) rfl ?_ ?_⟩
    ·simp [Qaf,lkp,ren1,ren0,di,←s2]
    ·simp [Qam,lkp,Box.renames,hsame s1.symm]
   ·have hc':(cmpN R b<0)=False:=by simp [cmpN];omega
    have hQ:R/b<E9:=by
     rw [Nat.div_lt_iff_lt_mul hb,←hR,Nat.mul_comm E9]
     have:=Nat.mul_le_mul_right E9 (show ρ+1≤b from hrl)
     rw [Nat.add_mul]at this
     omega
    simp -implicitDefEqProofs only [go_sem,Nat.reduceAdd,Nat.reduceMul,Nat.reduceEqDiff,Nat.reduceLT,Nat.reduceLeDiff,reduceCtorEq,hc']
    refine Qar mixed (fun p:{p:Nat×Nat // p.1≤R/b∧R/b≤p.2∧p.2<E9}=>St.of [(0,di (digs E9 a)),(1,di (digs E9 b)),(6,.bs 102 1 0 N),(7,di (digs E9 R)),(8,.int .i64 (i:Int)),(9,.int .i64 (p.1.1:Int)),(10,.int .i64 (p.1.2:Int))]
     [(102,{els:=(mix E9 0 (a/b) N (i+1)).map fI,esz:=1,ety:=3,fro:=0,live:=true,arr:=true})]) (fun p=>p.1.2-p.1.1) ⟨(0,999999999),Nat.zero_le _,by simp only [E9]at hQ;omega,by decide⟩ ?_ ?_
    ·refine Qak (θ:=[(102,102)]) rfl ?_ ?_
     ·simp [Qaf,lkp,ren1,ren0,di]
     ·simp [Qam,lkp,Box.renames]
    ·rintro⟨⟨lo,hi⟩,p1,p2,p3⟩
     simp only at p1 p2 p3 ⊢
     simp only [E9]at p3
     by_cases hlh:lo<hi
     ·have g1:((lo:Int)<(hi:Int))=True:=by simp;omega
      have w1:=Qcm (a:=lo) (b:=hi) (by omega)
      have w2:=Qaj (a:=lo+hi) (by omega)
      have t2:Int.tdiv ((lo+hi+1:Nat):Int) 2=(((lo+hi+1)/2:Nat):Int):=rfl
      have w3:=wrapn (n:=(lo+hi+1)/2) (by omega)
      generalize hmid:(lo+hi+1)/2=mid at*
      have hsm:=Qwd b mid (by simp only [E9];omega) (by omega)
      have hLb:(digs E9 (b*mid)).length≤1000000000:=by
       refine Nat.le_trans ((Qal E9_2 _ ((digs E9 b).length+1)).2 ?_) (show(digs E9 b).length+1≤1000000000 by omega)
       rw [Nat.pow_succ]
       exact Nat.mul_lt_mul_of_lt_of_le (Qav E9_2 b) (show mid≤E9 by simp only [E9];omega) (by decide)
      have ho:=Qpt (b*mid) R hLb
      have hiff:b*mid≤R↔mid≤R/b:=by rw [Nat.le_div_iff_mul_le hb,Nat.mul_comm]
      simp -implicitDefEqProofs only [go_sem,Nat.reduceAdd,Nat.reduceMul,Nat.reduceEqDiff,Nat.reduceLT,Nat.reduceLeDiff,reduceCtorEq,Int.reduceEq,di,g1,w1,w2,t2,w3]
      refine Qag _ _ _ _ _ _ _ _ _ hsm ?_
      simp -implicitDefEqProofs only [go_sem,Nat.reduceAdd,Nat.reduceEqDiff,Nat.reduceLT,reduceCtorEq,di]
      refine Qag _ _ _ _ _ _ _ _ _ ho ?_
      by_cases hm:b*mid≤R
      ·have g2:(cmpN (b*mid) R≤0)=True:=by simp [cmpN];omega
       have hm2:=hiff.1 hm
       simp -implicitDefEqProofs only [go_sem,Nat.reduceAdd,Nat.reduceMul,Nat.reduceEqDiff,Nat.reduceLT,Nat.reduceLeDiff,reduceCtorEq,g2]
       refine⟨⟨(mid,hi),hm2,p2,by simp only [E9];omega⟩,by simp only;omega,Qak (θ:=[(102,102)]) rfl ?_ ?_⟩
       ·simp [Qaf,lkp,ren1,ren0,di]
       ·simp [Qam,lkp,Box.renames]
      ·have g2:(cmpN (b*mid) R≤0)=False:=by simp [cmpN];omega
       have hm2:=mt hiff.2 hm
       have w5:IntKind.i64.wrap ((mid:Int)-1)=((mid-1:Nat):Int):=by rw [Qah (by omega) (by omega)];omega
       simp -implicitDefEqProofs only [go_sem,Nat.reduceAdd,Nat.reduceMul,Nat.reduceEqDiff,Nat.reduceLT,Nat.reduceLeDiff,reduceCtorEq,g2,w5]
       refine⟨⟨(lo,mid-1),p1,by simp only;omega,by simp only [E9];omega⟩,by simp only;omega,Qak (θ:=[(102,102)]) rfl ?_ ?_⟩
       ·simp [Qaf,lkp,ren1,ren0,di]
       ·simp [Qam,lkp,Box.renames]
     ·have g1:((lo:Int)<(hi:Int))=False:=by simp;omega
      obtain rfl:lo=R/b:=by omega
      have hsm:=Qwd b (R/b) hQ (by omega)
      have hle:b*(R/b)≤R:=Nat.mul_div_le R b
      have hmi:=Qpu R (b*(R/b)) hle (by omega)
      have e3:R-b*(R/b)=R%b:=by have:=Nat.div_add_mod R b;omega
      rw [e3,s2]at hmi
      rw [←s1]at hset
      simp -implicitDefEqProofs only [go_sem,Nat.reduceAdd,Nat.reduceMul,Nat.reduceEqDiff,Nat.reduceLT,Nat.reduceLeDiff,reduceIte,reduceCtorEq,g1,di,hs,h1,h2,Int.toNat_natCast,List.length_map,hml,hgo]
      refine Qag _ _ _ _ _ _ _ _ _ hsm ?_
      simp -implicitDefEqProofs only [go_sem,Nat.reduceAdd,Nat.reduceEqDiff,Nat.reduceLT,reduceCtorEq,di]
      refine Qag _ _ _ _ _ _ _ _ _ hmi ?_
      simp -implicitDefEqProofs only [go_sem,Nat.reduceAdd,Nat.reduceMul,Nat.reduceEqDiff,Nat.reduceLT,Nat.reduceLeDiff,reduceCtorEq,di,w4]
      refine⟨⟨i,by omega⟩,by simp only;omega,Qak (θ:=[(102,102)]) rfl ?_ ?_⟩
      ·simp [Qaf,lkp,ren1,ren0,di]
      ·rw [Qwa,hset]
       simp [Qam,lkp,Box.renames]
end Go.Proofs.YtciddhkfbgkejaaGreatDoor

namespace Go.Proofs.YtciddhkfbgkejaaGreatDoor
open Go.Vl Go.RowKit Go.Dg
theorem Q16 (a b:Nat):(digs E9 (a*b)).length≤(digs E9 a).length+(digs E9 b).length:=by
 refine(Qal E9_2 _ _).2 ?_
 rw [Nat.pow_add]
 exact Nat.mul_lt_mul'' (Qav E9_2 _) (Qav E9_2 _)
theorem Qmb (a b k:Nat) (h1:(digs E9 a).length≤k) (h2:(digs E9 b).length≤k):(digs E9 (a+b)).length≤k+1:=by
 rw [Qal E9_2]at h1 h2 ⊢
 rw [Nat.pow_succ]
 generalize E9^k=K at*
 simp only [E9]
 omega
theorem Zi7 (x y:Int) (hy:y≠0):(0≤x-Int.tdiv x y*y→Int.tdiv x y=x/y∧x-Int.tdiv x y*y=x%y)∧
  (x-Int.tdiv x y*y<0→(if 0<y then Int.tdiv x y-1 else Int.tdiv x y+1)=x/y∧x-(if 0<y then Int.tdiv x y-1 else Int.tdiv x y+1)*y=x%y):=by
 have h1:y*Int.tdiv x y+Int.tmod x y=x:=Int.mul_tdiv_add_tmod x y
 have h2:=Int.natAbs_tmod x y
 have h3:=Nat.mod_lt x.natAbs (show 0<y.natAbs by omega)
 rw [←h2]at h3
 generalize Int.tdiv x y=q at*
 generalize Int.tmod x y=r at*
 have e:q*y=y*q:=Int.mul_comm _ _
 have key: ∀q' r':Int,r'+y*q'=x→0≤r'→r'<y.natAbs→q'=x/y∧r'=x%y:=by
  intro q' r' a1 a2 a3
  rcases Int.lt_or_gt_of_ne hy with hn|hp
  ·have:=(Int.ediv_emod_unique' (a:=x) (b:=y) (r:=r') (q:=q') hn).2 ⟨a1,a2,by omega⟩
   exact⟨this.1.symm,this.2.symm⟩
  ·have:=(Int.ediv_emod_unique (a:=x) (b:=y) (r:=r') (q:=q') hp).2 ⟨a1,a2,by omega⟩
   exact⟨this.1.symm,this.2.symm⟩
 rw [e]
 constructor
 ·intro h0
  exact key q (x-y*q) (by omega) h0 (by omega)
 ·intro h0
  by_cases hp:0<y
  ·rw [if_pos hp]
   have e2:(q-1)*y=y*q-y:=by rw [Int.sub_mul,Int.one_mul,e]
   have e3:y*(q-1)=y*q-y:=by rw [Int.mul_comm,e2]
   exact key (q-1) (x-(q-1)*y) (by omega) (by omega) (by omega)
  ·rw [if_neg hp]
   have e2:(q+1)*y=y*q+y:=by rw [Int.add_mul,Int.one_mul,e]
   have e3:y*(q+1)=y*q+y:=by rw [Int.mul_comm,e2]
   exact key (q+1) (x-(q+1)*y) (by omega) (by omega) (by omega)
theorem Zi8 {a b:Nat} (h:a≤b):(digs E9 a).length≤(digs E9 b).length:=Qog h
theorem Qx6 (x y:Int):(if(!(decide (x<0)==decide (y<0)))=true then -((x.natAbs/y.natAbs:Nat):Int)else((x.natAbs/y.natAbs:Nat):Int))=Int.tdiv x y:=by
 cases x with
 |ofNat m=>cases y with
  |ofNat n=>
   have h1: ¬Int.ofNat m<0:=by simp
   have h2: ¬Int.ofNat n<0:=by simp
   simp only [h1,h2,decide_false,beq_self_eq_true,Bool.not_true,Bool.false_eq_true,if_false];rfl
  |negSucc n=>
   have h1: ¬Int.ofNat m<0:=by simp
   have h2:Int.negSucc n<0:=Int.negSucc_lt_zero n
   simp only [h1,h2,decide_false,decide_true,Bool.false_beq,Bool.not_true,Bool.not_false,if_true];rfl
 |negSucc m=>cases y with
  |ofNat n=>
   have h1:Int.negSucc m<0:=Int.negSucc_lt_zero m
   have h2: ¬Int.ofNat n<0:=by simp
   simp only [h1,h2,decide_false,decide_true,Bool.true_beq,Bool.not_false,if_true];rfl
  |negSucc n=>
   have h1:Int.negSucc m<0:=Int.negSucc_lt_zero m
   have h2:Int.negSucc n<0:=Int.negSucc_lt_zero n
   simp only [h1,h2,decide_true,beq_self_eq_true,Bool.not_true,Bool.false_eq_true,if_false];rfl
set_option maxHeartbeats 1000000 in
theorem Q17 (x y:Int) (hy:y≠0) (hx:(digs E9 x.natAbs).length≤1000000) (hyl:(digs E9 y.natAbs).length≤1000000):Qad Tryz.prog 125 [rI x,rI y] (.tup [rI (x/y),rI (x%y)]):=by
 have ho:=Q15 x.natAbs y.natAbs (by omega) (by omega) (by omega)
 have hm:=Qfw (!(decide (x<0)==decide (y<0))) (x.natAbs/y.natAbs)
 rw [Qx6]at hm
 have hql:(digs E9 (Int.tdiv x y).natAbs).length≤1000000:=by
  rw [Int.natAbs_tdiv];exact Nat.le_trans (Zi8 (Nat.div_le_self _ _)) hx
 have h1l:(digs E9 1).length≤1000000:=Nat.le_trans (Q18 (by decide)) (by decide)
 obtain⟨f1,f2⟩:=Zi7 x y hy
 have hnum:=Qcj 1 (by decide) (by decide)
 generalize hq:Int.tdiv x y=q at*
 have hmq:(digs E9 (q*y).natAbs).length≤2000000:=by rw [Int.natAbs_mul];have:=Q16 q.natAbs y.natAbs;omega
 have m1:=Qge q y (by omega)
 have s1:=Qmd x (q*y) (Nat.le_trans (Qmb _ _ 2000000 (by omega) hmq) (by decide))
 have g1:=Qmc (x-q*y)
 have g2:=Qmc y
 by_cases h0:x-q*y<0
 ·have c1:((x-q*y).sign<0)=True:=by simp only [eq_iff_iff,iff_true];rw [Int.sign_eq_neg_one_of_neg h0];decide
  obtain⟨e1,e2⟩:=f2 h0
  by_cases hp:0<y
  ·have c2:(0<y.sign)=True:=by simp only [eq_iff_iff,iff_true];rw [Int.sign_eq_one_of_pos hp];decide
   rw [if_pos hp]at e1 e2
   have s2:=Qmd q 1 (Nat.le_trans (Qmb _ _ 1000000 hql h1l) (by decide))
   have hq2:(digs E9 (q-1).natAbs).length≤1000001:=Nat.le_trans (Zi8 (show(q-1).natAbs≤q.natAbs+1 by omega)) (Qmb _ _ 1000000 hql h1l)
   have m2:=Qge (q-1) y (by omega)
   have hmq2:(digs E9 ((q-1)*y).natAbs).length≤2000001:=by rw [Int.natAbs_mul];have:=Q16 (q-1).natAbs y.natAbs;omega
   have s3:=Qmd x ((q-1)*y) (Nat.le_trans (Qmb _ _ 2000001 (by omega) hmq2) (by decide))
   rw [e1]at s2 m2 s3
   rw [e1]at e2
   rw [e2]at s3
   generalize x-q*y=r at*
   generalize q*y=p at*
   generalize x/y*y=p2 at*
   generalize x/y=Q at*
   generalize x%y=R at*
   generalize x.natAbs/y.natAbs=n1 at*
   generalize x.natAbs%y.natAbs=n2 at*
   refine Qac (tb:=[]) 50 [.cell 4 76,.cell 5 76] [0,1,2,3,4,5,6,7,8,9,32,35] mixed Tryz.func125 rfl (by kernel_rfl) (by kernel_rfl) (by kernel_rfl) (by kernel_rfl) ?_
   repeat (first|(simp -implicitDefEqProofs only [go_sem,Nat.reduceAdd,Nat.reduceMul,Nat.reduceEqDiff,Nat.reduceLT,Nat.reduceLeDiff,reduceCtorEq,Int.reduceLT,rI,di,c1,c2])|((with_reducible refine Qab (ho) ?_ ?_ ?_);(with_reducible rfl);rfl)|((with_reducible refine Qab (hm) ?_ ?_ ?_);(with_reducible rfl);rfl)|((with_reducible refine Qab (m1) ?_ ?_ ?_);(with_reducible rfl);rfl)|((with_reducible refine Qab (s1) ?_ ?_ ?_);(with_reducible rfl);rfl)|((with_reducible refine Qab (g1) ?_ ?_ ?_);(with_reducible rfl);rfl)|((with_reducible refine Qab (g2) ?_ ?_ ?_);(with_reducible rfl);rfl)|((with_reducible refine Qab (hnum) ?_ ?_ ?_);(with_reducible rfl);rfl)|((with_reducible refine Qab (s2) ?_ ?_ ?_);(with_reducible rfl);rfl)|((with_reducible refine Qab (m2) ?_ ?_ ?_);(with_reducible rfl);rfl)|((with_reducible refine Qab (s3) ?_ ?_ ?_);(with_reducible rfl);rfl)|(with_reducible exact Qaa _ _ (by kernel_rfl))|(with_reducible refine And.intro (Qaa _ _ (by kernel_rfl)) ?_))
  ·have c2:(0<y.sign)=False:=by simp only [eq_iff_iff,iff_false];rw [Int.sign_eq_neg_one_of_neg (by omega)];decide
   rw [if_neg hp]at e1 e2
   have s2:=Qwe q 1 (Nat.le_trans (Qmb _ _ 1000000 hql h1l) (by decide))
   have hq2:(digs E9 (q+1).natAbs).length≤1000001:=Nat.le_trans (Zi8 (show(q+1).natAbs≤q.natAbs+1 by omega)) (Qmb _ _ 1000000 hql h1l)
   have m2:=Qge (q+1) y (by omega)
   have hmq2:(digs E9 ((q+1)*y).natAbs).length≤2000001:=by rw [Int.natAbs_mul];have:=Q16 (q+1).natAbs y.natAbs;omega
   have s3:=Qmd x ((q+1)*y) (Nat.le_trans (Qmb _ _ 2000001 (by omega) hmq2) (by decide))
   rw [e1]at s2 m2 s3
   rw [e1]at e2
   rw [e2]at s3
   generalize x-q*y=r at*
   generalize q*y=p at*
   generalize x/y*y=p2 at*
   generalize x/y=Q at*
   generalize x%y=R at*
   generalize x.natAbs/y.natAbs=n1 at*
   generalize x.natAbs%y.natAbs=n2 at*
   refine Qac (tb:=[]) 50 [.cell 4 76,.cell 5 76] [0,1,2,3,4,5,6,7,8,9,32,35] mixed Tryz.func125 rfl (by kernel_rfl) (by kernel_rfl) (by kernel_rfl) (by kernel_rfl) ?_
   repeat (first|(simp -implicitDefEqProofs only [go_sem,Nat.reduceAdd,Nat.reduceMul,Nat.reduceEqDiff,Nat.reduceLT,Nat.reduceLeDiff,reduceCtorEq,Int.reduceLT,rI,di,c1,c2])|((with_reducible refine Qab (ho) ?_ ?_ ?_);(with_reducible rfl);rfl)|((with_reducible refine Qab (hm) ?_ ?_ ?_);(with_reducible rfl);rfl)|((with_reducible refine Qab (m1) ?_ ?_ ?_);(with_reducible rfl);rfl)|((with_reducible refine Qab (s1) ?_ ?_ ?_);(with_reducible rfl);rfl)|((with_reducible refine Qab (g1) ?_ ?_ ?_);(with_reducible rfl);rfl)|((with_reducible refine Qab (g2) ?_ ?_ ?_);(with_reducible rfl);rfl)|((with_reducible refine Qab (hnum) ?_ ?_ ?_);(with_reducible rfl);rfl)|((with_reducible refine Qab (s2) ?_ ?_ ?_);(with_reducible rfl);rfl)|((with_reducible refine Qab (m2) ?_ ?_ ?_);(with_reducible rfl);rfl)|((with_reducible refine Qab (s3) ?_ ?_ ?_);(with_reducible rfl);rfl)|(with_reducible exact Qaa _ _ (by kernel_rfl))|(with_reducible refine And.intro (Qaa _ _ (by kernel_rfl)) ?_))
 ·have c1:((x-q*y).sign<0)=False:=by simp only [eq_iff_iff,iff_false];have:=Int.sign_nonneg_iff.2 (show 0≤x-q*y by omega);omega
  obtain⟨e1,e2⟩:=f1 (by omega)
  rw [e2]at s1 g1 c1
  rw [e1]at hm m1 s1
  generalize q*y=p at*
  generalize x/y*y=p2 at*
  generalize x/y=Q at*
  generalize x%y=R at*
  generalize x.natAbs/y.natAbs=n1 at*
  generalize x.natAbs%y.natAbs=n2 at*
  refine Qac (tb:=[]) 50 [.cell 4 76,.cell 5 76] [0,1,2,3,4,5,6,7,8,9,32,35] mixed Tryz.func125 rfl (by kernel_rfl) (by kernel_rfl) (by kernel_rfl) (by kernel_rfl) ?_
  repeat (first|(simp -implicitDefEqProofs only [go_sem,Nat.reduceAdd,Nat.reduceMul,Nat.reduceEqDiff,Nat.reduceLT,Nat.reduceLeDiff,reduceCtorEq,rI,di,c1])|((with_reducible refine Qab (ho) ?_ ?_ ?_);(with_reducible rfl);rfl)|((with_reducible refine Qab (hm) ?_ ?_ ?_);(with_reducible rfl);rfl)|((with_reducible refine Qab (m1) ?_ ?_ ?_);(with_reducible rfl);rfl)|((with_reducible refine Qab (s1) ?_ ?_ ?_);(with_reducible rfl);rfl)|((with_reducible refine Qab (g1) ?_ ?_ ?_);(with_reducible rfl);rfl)|(with_reducible exact Qaa _ _ (by kernel_rfl))|(with_reducible refine And.intro (Qaa _ _ (by kernel_rfl)) ?_))
theorem Zhg (x y:Int) (hx:(digs E9 x.natAbs).length≤1000000) (hyl:(digs E9 y.natAbs).length≤1000000):Qad Tryz.prog 103 [rI x,rI y] (rI ((Nat.gcd x.natAbs y.natAbs:Nat):Int)):=by
 have hm:=Qfw false (Nat.gcd x.natAbs y.natAbs)
 simp only [Bool.false_eq_true,if_false]at hm
 refine Qac (tb:=[]) 26 [.cell 4 76] [0,1,2,3,4,5,6,8,15] mixed Tryz.func103 rfl (by kernel_rfl) (by kernel_rfl) (by kernel_rfl) (by kernel_rfl) ?_
 repeat (first|(simp -implicitDefEqProofs only [go_sem,Nat.reduceAdd,Nat.reduceMul,Nat.reduceEqDiff,Nat.reduceLT,Nat.reduceLeDiff,reduceCtorEq,rI,di])|((with_reducible refine Qab (hm) ?_ ?_ ?_);(with_reducible rfl);rfl)|(with_reducible exact Qaa _ _ (by kernel_rfl))|(with_reducible refine And.intro (Qaa _ _ (by kernel_rfl)) ?_))
 refine Qar mixed (fun p:{p:Nat×Nat // Nat.gcd p.1 p.2=Nat.gcd x.natAbs y.natAbs∧(digs E9 p.1).length≤1000000∧(digs E9 p.2).length≤1000000}=>St.of [(4,.bp 2 2 0 0),(5,di (digs E9 p.1.1)),(6,di (digs E9 p.1.2))]
  [(2,{els:=[.agg [.bool false,.nilS]],esz:=2,ety:=76,fro:=0,live:=true,arr:=false})]) (fun p=>p.1.2) ⟨(x.natAbs,y.natAbs),rfl,hx,hyl⟩ ?_ ?_
 ·refine Qak (θ:=[(2,2)]) rfl ?_ ?_
  ·simp [Qaf,lkp,ren1,ren0,di]
  ·refine⟨⟨rfl,rfl,rfl,rfl,rfl,.inr ⟨rfl,_,_,rfl,rfl,rfl,rfl⟩⟩,trivial⟩
 ·rintro⟨⟨u,v⟩,h1,h2,h3⟩
  simp only at h1 h2 h3 ⊢
  by_cases hv:v=0
  ·subst hv
   have g1:((0:Int)<((0:Nat):Int))=False:=by simp
   rw [Nat.gcd_zero_right]at h1
   subst h1
   repeat (first|(simp -implicitDefEqProofs only [go_sem,Nat.reduceAdd,Nat.reduceMul,Nat.reduceEqDiff,Nat.reduceLT,Nat.reduceLeDiff,reduceCtorEq,rI,di,Qay,List.map_nil,List.length_nil,g1])|((with_reducible refine Qab (hm) ?_ ?_ ?_);(with_reducible rfl);rfl)|(with_reducible exact Qaa _ _ (by kernel_rfl))|(with_reducible refine And.intro (Qaa _ _ (by kernel_rfl)) ?_))
  ·have hp:0<(digs E9 v).length:=Q90 hv
   have g1:((0:Int)<((digs E9 v).length:Int))=True:=by simp only [eq_iff_iff,iff_true];omega
   have hd:=Q15 u v (Nat.pos_of_ne_zero hv) (by omega) (by omega)
   have hr:=Nat.mod_lt u (Nat.pos_of_ne_zero hv)
   repeat (first|(simp -implicitDefEqProofs only [go_sem,Nat.reduceAdd,Nat.reduceMul,Nat.reduceEqDiff,Nat.reduceLT,Nat.reduceLeDiff,reduceCtorEq,di,List.length_map,g1])|((with_reducible refine Qab (hd) ?_ ?_ ?_);(with_reducible rfl);rfl)|(with_reducible exact Qaa _ _ (by kernel_rfl))|(with_reducible refine And.intro (Qaa _ _ (by kernel_rfl)) ?_))
   refine⟨⟨(v,u%v),by rw [←h1,Nat.gcd_comm u v,Nat.gcd_rec v u,Nat.gcd_comm],h3,Nat.le_trans (Qog (Nat.le_of_lt hr)) h3⟩,by simp only;exact hr,Qak (θ:=[(2,2)]) rfl ?_ ?_⟩
   ·simp [Qaf,lkp,ren1,ren0,di]
   ·refine⟨⟨rfl,rfl,rfl,rfl,rfl,.inr ⟨rfl,_,_,rfl,rfl,rfl,rfl⟩⟩,trivial⟩
end Go.Proofs.YtciddhkfbgkejaaGreatDoor

namespace Go.Proofs.YtciddhkfbgkejaaGreatDoor
open Go.Vl Go.RowKit Go.Dg
def rQ (x y:Int):PV:= .agg [.bool (decide (x<0)),di (digs E9 x.natAbs),.bool (decide (y<0)),di (digs E9 y.natAbs)]
theorem Qgd {x y:Int} {k l:Nat} (hx:x.natAbs<256^k) (hy:y.natAbs<256^l):(x*y).natAbs<256^(k+l):=by
 rw [Int.natAbs_mul,Nat.pow_add];exact Nat.mul_lt_mul'' hx hy
theorem mod_lt {y:Int} {k:Nat} (x:Int) (h0:y≠0) (hy:y.natAbs<256^k):(x%y).natAbs<256^k:=by
 have h1:=Int.emod_nonneg x h0
 have h2:=Int.emod_lt x h0
 omega
theorem Zo7 {x y:Nat} {k:Nat} (hx:x<256^k) (hy:y<256^k):((Nat.gcd x y:Nat):Int).natAbs<256^k:=by
 rw [Int.natAbs_natCast]
 rcases Nat.eq_zero_or_pos x with h0|h0
 ·rw [h0,Nat.gcd_zero_left];exact hy
 ·exact Nat.lt_of_le_of_lt (Nat.gcd_le_left _ h0) hx
theorem Qv9 {m k l:Nat} (h:m<256^k) (hkl:k≤l):m<256^l:=Nat.lt_of_lt_of_le h (Nat.pow_le_pow_right (by decide) hkl)
theorem Zo8 {x y:Int} (h:y≠0):gN x y≠0:=by
 have:=Nat.gcd_pos_of_pos_right x.natAbs (show 0<y.natAbs by omega)
 unfold gN;split<;>omega
theorem Zo9 {x y:Int} {k:Nat} (hx:x.natAbs<256^k) (hy:y.natAbs<256^k):(gN x y).natAbs<256^k:=by
 have:=Zo7 hx hy
 unfold gN;split
 ·rw [Int.natAbs_neg];exact this
 ·exact this
theorem Qiq (x y:Int) (h:y≠0) (k:Nat) (hk:k≤100000) (hx:x.natAbs<256^k) (hy:y.natAbs<256^k):Qad Tryz.prog 132 [rI x,rI y] (rQ (lowN x y) (lowD x y)):=by
 have hg:=Zhg x y (Nat.le_trans (Qbp _ k hx).1 (by omega)) (Nat.le_trans (Qbp _ k hy).1 (by omega))
 have rs:=Qmc y
 have hq1:=Q17 x (gN x y) (Zo8 h) (Nat.le_trans (Qbp _ k hx).1 (by omega)) (Nat.le_trans (Qbp _ k (Zo9 hx hy)).1 (by omega))
 have hq2:=Q17 y (gN x y) (Zo8 h) (Nat.le_trans (Qbp _ k hy).1 (by omega)) (Nat.le_trans (Qbp _ k (Zo9 hx hy)).1 (by omega))
 have hn:=Qrq ((Nat.gcd x.natAbs y.natAbs:Nat):Int)
 unfold lowN lowD
 by_cases hs:y<0
 ·have e:gN x y= -((Nat.gcd x.natAbs y.natAbs:Nat):Int):=by unfold gN;rw [if_pos hs]
  have g1:(y.sign<0)=True:=by simp only [eq_iff_iff,iff_true];rw [Int.sign_eq_neg_one_of_neg hs];decide
  rw [←e]at hn
  generalize gN x y=G at*
  generalize x/G=A at*
  generalize y/G=B at*
  generalize x%G=C at*
  generalize y%G=D at*
  generalize ((Nat.gcd x.natAbs y.natAbs:Nat):Int)=H at*
  refine Qac (tb:=[]) 33 [.cell 4 118] [0,1,2,3,4,5,6,8,15] mixed Tryz.func132 rfl (by kernel_rfl) (by kernel_rfl) (by kernel_rfl) (by kernel_rfl) ?_
  repeat (first|(simp -implicitDefEqProofs only [go_sem,Nat.reduceAdd,Nat.reduceMul,Nat.reduceEqDiff,Nat.reduceLT,Nat.reduceLeDiff,reduceCtorEq,g1,rI,di,rQ])|((with_reducible refine Qab (hg) ?_ ?_ ?_);(with_reducible rfl);rfl)|((with_reducible refine Qab (rs) ?_ ?_ ?_);(with_reducible rfl);rfl)|((with_reducible refine Qab (hn) ?_ ?_ ?_);(with_reducible rfl);rfl)|((with_reducible refine Qab (hq1) ?_ ?_ ?_);(with_reducible rfl);rfl)|((with_reducible refine Qab (hq2) ?_ ?_ ?_);(with_reducible rfl);rfl))
 ·have e:gN x y=((Nat.gcd x.natAbs y.natAbs:Nat):Int):=by unfold gN;rw [if_neg hs]
  have g1:(y.sign<0)=False:=by simp only [eq_iff_iff,iff_false];have:=Int.sign_nonneg_iff.2 (show 0≤y by omega);omega
  rw [←e]at hg
  generalize gN x y=G at*
  generalize x/G=A at*
  generalize y/G=B at*
  generalize x%G=C at*
  generalize y%G=D at*
  refine Qac (tb:=[]) 33 [.cell 4 118] [0,1,2,3,4,5,6,8,15] mixed Tryz.func132 rfl (by kernel_rfl) (by kernel_rfl) (by kernel_rfl) (by kernel_rfl) ?_
  repeat (first|(simp -implicitDefEqProofs only [go_sem,Nat.reduceAdd,Nat.reduceMul,Nat.reduceEqDiff,Nat.reduceLT,Nat.reduceLeDiff,reduceCtorEq,g1,rI,di,rQ])|((with_reducible refine Qab (hg) ?_ ?_ ?_);(with_reducible rfl);rfl)|((with_reducible refine Qab (rs) ?_ ?_ ?_);(with_reducible rfl);rfl)|((with_reducible refine Qab (hq1) ?_ ?_ ?_);(with_reducible rfl);rfl)|((with_reducible refine Qab (hq2) ?_ ?_ ?_);(with_reducible rfl);rfl))
section
variable (a b c d:Int) (k:Nat) (hk:k≤10000) (ha:a.natAbs<256^k) (hb:b.natAbs<256^k) (hc:c.natAbs<256^k) (hd:d.natAbs<256^k)
include hk ha hb hc hd
theorem Zi9 (h1:b≠0) (h2:d≠0):Qad Tryz.prog 129 [rQ a b,rQ c d] (rQ (Qus a b c d) (Qut a b c d)):=by
 have m1:=Qge a d (by have:=(Qbp _ k ha).1;have:=(Qbp _ k hd).1;omega)
 have m2:=Qge c b (by have:=(Qbp _ k hc).1;have:=(Qbp _ k hb).1;omega)
 have m3:=Qge b d (by have:=(Qbp _ k hb).1;have:=(Qbp _ k hd).1;omega)
 have hr:=Qwe (a*d) (c*b) (Qww (k:=k+k) (by omega) (Qgd ha hd) (Qgd hc hb))
 have hl:=Qiq (a*d+c*b) (b*d) (Int.mul_ne_zero h1 h2) (k+k+1) (by omega) (Zh0 (Qgd ha hd) (Qgd hc hb)) (Qv9 (Qgd hb hd) (by omega))
 unfold Qus Qut
 generalize a*d=X at*
 generalize c*b=Y at*
 generalize b*d=Z at*
 generalize lowN (X+Y) Z=N at*
 generalize lowD (X+Y) Z=D at*
 generalize X+Y=W at*
 refine Qac (tb:=[]) 22 [.cell 4 118] [0,1,2,3,4] mixed Tryz.func129 rfl (by kernel_rfl) (by kernel_rfl) (by kernel_rfl) (by kernel_rfl) ?_
 repeat (first|(simp -implicitDefEqProofs only [go_sem,Nat.reduceAdd,Nat.reduceMul,Nat.reduceEqDiff,Nat.reduceLT,Nat.reduceLeDiff,reduceCtorEq,rQ,rI,di])|((with_reducible refine Qab (m1) ?_ ?_ ?_);(with_reducible rfl);rfl)|((with_reducible refine Qab (m2) ?_ ?_ ?_);(with_reducible rfl);rfl)|((with_reducible refine Qab (m3) ?_ ?_ ?_);(with_reducible rfl);rfl)|((with_reducible refine Qab (hr) ?_ ?_ ?_);(with_reducible rfl);rfl)|((with_reducible refine Qab (hl) ?_ ?_ ?_);(with_reducible rfl);rfl)|(with_reducible exact Qaa _ _ (by kernel_rfl))|(with_reducible refine And.intro (Qaa _ _ (by kernel_rfl)) ?_))
theorem Zja (h1:b≠0) (h2:d≠0):Qad Tryz.prog 133 [rQ a b,rQ c d] (rQ (Znr a b c d) (Zns a b c d)):=by
 have m1:=Qge a d (by have:=(Qbp _ k ha).1;have:=(Qbp _ k hd).1;omega)
 have m2:=Qge c b (by have:=(Qbp _ k hc).1;have:=(Qbp _ k hb).1;omega)
 have m3:=Qge b d (by have:=(Qbp _ k hb).1;have:=(Qbp _ k hd).1;omega)
 have hr:=Qmd (a*d) (c*b) (Qww (k:=k+k) (by omega) (Qgd ha hd) (Qgd hc hb))
 have hl:=Qiq (a*d-c*b) (b*d) (Int.mul_ne_zero h1 h2) (k+k+1) (by omega) (by rw [Int.sub_eq_add_neg];exact Zh0 (Qgd ha hd) (by rw [Int.natAbs_neg];exact Qgd hc hb)) (Qv9 (Qgd hb hd) (by omega))
 unfold Znr Zns
 generalize a*d=X at*
 generalize c*b=Y at*
 generalize b*d=Z at*
 generalize lowN (X-Y) Z=N at*
 generalize lowD (X-Y) Z=D at*
 generalize X-Y=W at*
 refine Qac (tb:=[]) 22 [.cell 4 118] [0,1,2,3,4] mixed Tryz.func133 rfl (by kernel_rfl) (by kernel_rfl) (by kernel_rfl) (by kernel_rfl) ?_
 repeat (first|(simp -implicitDefEqProofs only [go_sem,Nat.reduceAdd,Nat.reduceMul,Nat.reduceEqDiff,Nat.reduceLT,Nat.reduceLeDiff,reduceCtorEq,rQ,rI,di])|((with_reducible refine Qab (m1) ?_ ?_ ?_);(with_reducible rfl);rfl)|((with_reducible refine Qab (m2) ?_ ?_ ?_);(with_reducible rfl);rfl)|((with_reducible refine Qab (m3) ?_ ?_ ?_);(with_reducible rfl);rfl)|((with_reducible refine Qab (hr) ?_ ?_ ?_);(with_reducible rfl);rfl)|((with_reducible refine Qab (hl) ?_ ?_ ?_);(with_reducible rfl);rfl)|(with_reducible exact Qaa _ _ (by kernel_rfl))|(with_reducible refine And.intro (Qaa _ _ (by kernel_rfl)) ?_))
theorem Zjb (h1:b≠0) (h2:d≠0):Qad Tryz.prog 130 [rQ a b,rQ c d] (rQ (lowN (a*c) (b*d)) (lowD (a*c) (b*d))):=by
 have m1:=Qge a c (by have:=(Qbp _ k ha).1;have:=(Qbp _ k hc).1;omega)
 have m3:=Qge b d (by have:=(Qbp _ k hb).1;have:=(Qbp _ k hd).1;omega)
 have hl:=Qiq (a*c) (b*d) (Int.mul_ne_zero h1 h2) (k+k) (by omega) (Qgd ha hc) (Qgd hb hd)
 generalize a*c=X at*
 generalize b*d=Z at*
 generalize lowN X Z=N at*
 generalize lowD X Z=D at*
 refine Qac (tb:=[]) 16 [.cell 4 118] [0,1,2,3,4] mixed Tryz.func130 rfl (by kernel_rfl) (by kernel_rfl) (by kernel_rfl) (by kernel_rfl) ?_
 repeat (first|(simp -implicitDefEqProofs only [go_sem,Nat.reduceAdd,Nat.reduceMul,Nat.reduceEqDiff,Nat.reduceLT,Nat.reduceLeDiff,reduceCtorEq,rQ,rI,di])|((with_reducible refine Qab (m1) ?_ ?_ ?_);(with_reducible rfl);rfl)|((with_reducible refine Qab (m3) ?_ ?_ ?_);(with_reducible rfl);rfl)|((with_reducible refine Qab (hl) ?_ ?_ ?_);(with_reducible rfl);rfl)|(with_reducible exact Qaa _ _ (by kernel_rfl))|(with_reducible refine And.intro (Qaa _ _ (by kernel_rfl)) ?_))
end
end Go.Proofs.YtciddhkfbgkejaaGreatDoor

namespace Go.Dg

/-! ### sums -/
/-- The sum of the first n values. -/
def sm (f:Nat→Int):Nat→Int
  |0=>0
  |n+1=>sm f n+f n
theorem Qcf {f g:Nat→Int}: ∀(n:Nat),(∀i,i<n→f i=g i)→sm f n=sm g n
  |0,_=>rfl
  |n+1,h=>by rw [sm,sm,Qcf n (fun i hi=>h i (Nat.lt_succ_of_lt hi)),h n (Nat.lt_succ_self n)]
theorem Q1n (f g:Nat→Int): ∀n,sm (fun i=>f i+g i) n=sm f n+sm g n
  |0=>rfl
  |n+1=>by simp only [sm,Q1n f g n];omega
theorem Qen (c:Int) (f:Nat→Int): ∀n,sm (fun i=>c*f i) n=c*sm f n
  |0=>by simp [sm]
  |n+1=>by simp only [sm,Qen c f n,Int.mul_add]
theorem Qlf (f:Nat→Int): ∀n,sm f (n+1)=f 0+sm (fun i=>f (i+1)) n
  |0=>by simp [sm]
  |n+1=>by rw [sm,Qlf f n,sm];omega
theorem Ziu (f:Nat→Int) {n m:Nat} (h:n≤m) (hz: ∀i,n≤i→i<m→f i=0):sm f m=sm f n:=by
  induction m with
  |zero=>
        obtain rfl:n=0:=by omega
        rfl
  |succ m ih=>
    rcases Nat.lt_or_eq_of_le h with h1|h1
    · rw [sm,ih (by omega) (fun i a b=>hz i a (by omega)),hz m (by omega) (by omega),Int.add_zero]
    · rw [h1]
theorem Zhd (g:Nat→Nat→Int): ∀n,sm (fun j=>sm (fun i=>g i j) (j+1)) n=sm (fun i=>sm (fun k=>g i (i+k)) (n-i)) n
  |0=>rfl
  |n+1=>by
    rw [sm,Zhd g n]
    have h1:sm (fun i=>sm (fun k=>g i (i+k)) (n+1-i)) n=sm (fun i=>sm (fun k=>g i (i+k)) (n-i)+g i n) n:=
      Qcf n fun i hi=>by
        have e:n+1-i=(n-i)+1:=by omega
        have e2:i+(n-i)=n:=by omega
        rw [e,sm,e2]
    have e3:n+1-n=1:=by omega
    rw [sm,sm,h1,Q1n,e3]
    simp only [sm,Nat.add_zero,Int.zero_add]
    omega
theorem Ziv {f g:Nat→Int}: ∀(n:Nat),(∀i,i<n→f i≤g i)→sm f n≤sm g n
  |0,_=>Int.le_refl 0
  |n+1,h=>Int.add_le_add (Ziv n fun i hi=>h i (Nat.lt_succ_of_lt hi)) (h n (Nat.lt_succ_self n))

/-! ### binomials -/
/-- The number of ways to choose k of n elements. -/
def bin:Nat→Nat→Nat
  |_,0=>1
  |0,_+1=>0
  |n+1,k+1=>bin n k+bin n (k+1)
theorem Qfu (n:Nat):bin n 0=1:=by cases n<;>rfl
theorem Q1o: ∀{n k:Nat},n<k→bin n k=0
  |0,0,h=>absurd h (Nat.lt_irrefl 0)
  |0,_+1,_=>rfl
  |n+1,0,h=>absurd h (Nat.not_lt_zero _)
  |n+1,k+1,h=>by rw [bin,Q1o (by omega),Q1o (by omega)]
/-- The next one of a row. -/
theorem Qlg: ∀(n k:Nat),(bin n (k+1):Int)*((k:Int)+1)=(bin n k:Int)*((n:Int)-(k:Int))
  |0,0=>by simp [bin]
  |0,k+1=>by simp [bin]
  |n+1,0=>by
    have h:=Qlg n 0
    rw [Qfu]at h ⊢
    rw [bin,Qfu]
    simp only [Int.natCast_add,Int.natCast_zero,Int.zero_add,Int.mul_one,Int.sub_zero,Int.one_mul]at h ⊢
    omega
  |n+1,k+1=>by
    have h1:=Qlg n k
    have h2:=Qlg n (k+1)
    rw [bin,bin]
    simp only [Int.natCast_add]at h1 h2 ⊢
    generalize (bin n k:Int)=a at*
    generalize (bin n (k+1):Int)=b at*
    generalize (bin n (k+1+1):Int)=c at*
    generalize (n:Int)=N at*
    generalize (k:Int)=K at*
    simp only [Int.mul_add,Int.add_mul,Int.mul_sub,Int.sub_mul]at h1 h2 ⊢
    simp only [Int.mul_one]at h1 h2 ⊢
    omega
theorem Qtq: ∀{n k:Nat},k≤n→0<bin n k
  |_,0,_=>by rw [Qfu];decide
  |0,k+1,h=>absurd h (by omega)
  |n+1,k+1,h=>by rw [bin];have:=Qtq (n:=n) (k:=k) (by omega);omega
theorem Qg9: ∀(n k:Nat),bin n k≤2^n
  |0,0=>by decide
  |0,_+1=>by simp [bin]
  |n+1,0=>by rw [Qfu];exact Nat.pow_pos (by decide)
  |n+1,k+1=>by rw [bin,Nat.pow_succ];have:=Qg9 n k;have:=Qg9 n (k+1);omega
theorem Qri (x:Int) (n:Nat):x^(n+1)=x*x^n:=by rw [Int.pow_succ,Int.mul_comm]
/-- The power of a sum. -/
theorem Qtr (a b:Int): ∀n,sm (fun k=>(bin n k:Int)*(a^k*b^(n-k))) (n+1)=(a+b)^n
  |0=>by simp [sm,bin]
  |n+1=>by
    have ih:=Qtr a b n
    rw [Qlf]
    have h1:sm (fun k=>(bin (n+1) (k+1):Int)*(a^(k+1)*b^(n+1-(k+1)))) (n+1)
        =sm (fun k=>a*((bin n k:Int)*(a^k*b^(n-k)))+(bin n (k+1):Int)*(a^(k+1)*b^(n-k))) (n+1):=
      Qcf _ fun k _=>by
        have e:n+1-(k+1)=n-k:=by omega
        rw [e,bin,Int.natCast_add,Int.add_mul,Qri]
        congr 1
        rw [Int.mul_assoc,Int.mul_left_comm]
    rw [h1,Q1n,Qen,ih]
    have h2:sm (fun k=>(bin n (k+1):Int)*(a^(k+1)*b^(n-k))) (n+1)=sm (fun k=>b*((bin n (k+1):Int)*(a^(k+1)*b^(n-(k+1))))) n:=by
      rw [sm,Q1o (Nat.lt_succ_self n),Int.natCast_zero,Int.zero_mul,Int.add_zero]
      refine Qcf _ fun k hk=> ?_
      have e:n-k=(n-(k+1))+1:=by omega
      rw [e,Qri b]
      simp only [Int.mul_comm,Int.mul_left_comm,Int.mul_assoc]
    have h3:=Qlf (fun k=>(bin n k:Int)*(a^k*b^(n-k))) n
    rw [ih]at h3
    rw [h2,Qen,Qfu]
    rw [Qfu]at h3
    simp only [Int.pow_zero,Int.one_mul,Nat.sub_zero,Int.natCast_one]at h3 ⊢
    rw [Qri,Qri,Int.add_mul,h3]
    simp only [Int.mul_add]
    omega

/-! ### polynomials by their values -/
/-- A polynomial at x/y,times y to the power of its degree. -/
def hev:List Int→Int→Int→Int
  | [],_,_=>0
  |c::r,x,y=>c*y^r.length+x*hev r x y
theorem Qrj: ∀(p:List Int) (x y:Int),hev p x y=sm (fun i=>p.getD i 0*(x^i*y^(p.length-1-i))) p.length
  | [],_,_=>rfl
  |c::r,x,y=>by
    rw [hev,List.length_cons,Qlf,Qrj r x y,←Qen]
    congr 1
    · simp
    · refine Qcf _ fun i hi=> ?_
      have e:r.length+1-1-(i+1)=r.length-1-i:=by omega
      rw [e,Qri,List.getD_cons_succ]
      simp only [Int.mul_comm,Int.mul_left_comm,Int.mul_assoc]
/-- A list of sums of products,at two values. -/
theorem Q9q (F:Nat→Int) (n:Nat) (x y:Int):hev ((List.range (n+1)).map F) x y=sm (fun j=>F j*(x^j*y^(n-j))) (n+1):=by
  rw [Qrj]
  simp only [List.length_map,List.length_range]
  refine Qcf _ fun j hj=> ?_
  rw [List.getD_eq_getElem?_getD]
  simp [hj]

/-- The list whose value at x,y is the sum of f i x^i (c x+y)^(n-i). -/
def trans (f:List Int) (c:Int) (n:Nat):List Int:=(List.range (n+1)).map fun j=>sm (fun i=>f.getD i 0*(c^(j-i)*(bin (n-i) (j-i):Int))) (j+1)
theorem Qrk (f:List Int) (c:Int) (n:Nat):(trans f c n).length=n+1:=by simp [trans]
theorem Qv3 (a b:Int): ∀n:Nat,(a*b)^n=a^n*b^n
  |0=>by simp
  |n+1=>by rw [Qri,Qri,Qri,Qv3 a b n];simp only [Int.mul_comm,Int.mul_left_comm,Int.mul_assoc]
theorem Ziw (c:Int) (f:Nat→Int) (n:Nat):sm (fun i=>f i*c) n=sm f n*c:=by
  rw [Int.mul_comm,←Qen];exact Qcf n fun i _=>Int.mul_comm _ _
theorem Q1p (f:List Int) (c:Int) (n:Nat) (x y:Int):hev (trans f c n) x y=sm (fun i=>f.getD i 0*(x^i*(c*x+y)^(n-i))) (n+1):=by
  rw [trans,Q9q]
  have h1:sm (fun j=>sm (fun i=>f.getD i 0*(c^(j-i)*(bin (n-i) (j-i):Int))) (j+1)*(x^j*y^(n-j))) (n+1)
      =sm (fun j=>sm (fun i=>f.getD i 0*(c^(j-i)*(bin (n-i) (j-i):Int))*(x^j*y^(n-j))) (j+1)) (n+1):=
    Qcf _ fun j _=>(Ziw _ _ _).symm
  rw [h1,Zhd (fun i j=>f.getD i 0*(c^(j-i)*(bin (n-i) (j-i):Int))*(x^j*y^(n-j)))]
  refine Qcf _ fun i hi=> ?_
  have e:n+1-i=(n-i)+1:=by omega
  rw [←Qtr (c*x) y (n-i),e,←Qen,←Qen]
  refine Qcf _ fun k hk=> ?_
  have e1:i+k-i=k:=by omega
  have e2:n-(i+k)=n-i-k:=by omega
  rw [e1,e2,Qv3,Int.pow_add]
  simp only [Int.mul_comm,Int.mul_left_comm,Int.mul_assoc]
theorem Zix {f:List Int} {n:Nat} (h:f.length≤n+1) (x s:Int):sm (fun i=>f.getD i 0*(x^i*s^(n-i))) (n+1)=s^(n+1-f.length)*hev f x s:=by
  rw [Ziu _ h (fun i h1 _=>by rw [List.getD_eq_getElem?_getD,List.getElem?_eq_none h1];simp),Qrj,←Qen]
  refine Qcf _ fun i hi=> ?_
  have e:n-i=(n+1-f.length)+(f.length-1-i):=by omega
  rw [e,Int.pow_add]
  simp only [Int.mul_comm,Int.mul_left_comm,Int.mul_assoc]
theorem Qx2 {f:List Int} {n:Nat} (h:f.length≤n+1) (c x y:Int):hev (trans f c n) x y=(c*x+y)^(n+1-f.length)*hev f x (c*x+y):=by
  rw [Q1p,Zix h]
theorem Qx3 {f:List Int} {n:Nat} (h:f.length=n+1) (c x y:Int):hev (trans f c n) x y=hev f x (c*x+y):=by
  rw [Qx2 (by omega),h,Nat.sub_self,Int.pow_zero,Int.one_mul]
end Go.Dg
