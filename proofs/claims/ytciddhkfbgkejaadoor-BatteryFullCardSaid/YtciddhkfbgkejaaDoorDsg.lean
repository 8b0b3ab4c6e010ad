/-
  XW31, XW32, XA11, XA12, XA13, Dq, XP1, XP2, Dbr, XB1, Dr, XN1, Bn, XN2, Ds, XP3, Du, XP4, Dsg (merged for the claim).
-/
import Derived.Test.YtciddhkfbgkejaaDoorXW30
import Derived.Test.YtciddhkfbgkejaaDoorXW1
import Derived.Test.YtciddhkfbgkejaaDoorUS3
set_option linter.unusedSimpArgs false
set_option linter.unusedVariables false
namespace Go.Proofs.YtciddhkfbgkejaaDoor
open Go.Vl Go.RowKit Go.Dg
def vRat (n:Bool) (s:ByteArray) (m:Bool) (t:ByteArray):Bool:=Qbb n s.data.toList&&(Qbb m t.data.toList&&(!m&& !(t.data.toList== [])))
theorem Qe9 {n:Bool} {l:List UInt8} (h:Qbb n l=true) (h0:l≠ []):0<bnum l:=by
 cases l with
 |nil=>exact absurd rfl h0
 |cons c r=>
  simp only [Qbb,Bool.and_eq_true]at h
  have hc:c.toNat≠0:=fun e=>by
   have:c≠0:=by simpa using h.2
   exact this (UInt8.toNat_inj.1 (by simpa using e))
  rw [Qlc]
  have hp:0<c.toNat*256^r.length:=Nat.mul_pos (Nat.pos_of_ne_zero hc) (Nat.pow_pos (by decide))
  omega
theorem Q2p {m:Bool} {t:ByteArray} (h:Qbb m t.data.toList=true):decide (0<(wnum m t).sign)=(!m&& !(t.data.toList== [])):=by
 by_cases h0:t.data.toList=[]
 ·have e:wnum m t=0:=by unfold wnum sv;rw [h0];cases m<;>rfl
  rw [e,h0];simp
 ·have hb:=Qe9 h h0
  rw [Qjt h0]
  unfold wnum sv
  cases m with
  |false=>simp only [Bool.false_eq_true,if_false,Bool.not_false,Bool.and_self];rw [Int.sign_eq_one_of_pos (by omega)];rfl
  |true=>simp only [if_true,Bool.not_true,Bool.false_and];rw [Int.sign_eq_neg_one_of_neg (by omega)];rfl
theorem Qfa (n:Bool) (s:ByteArray) (m:Bool) (t:ByteArray) (ht:t.size≤100000):Qae Tryd.prog 67 [.agg [.bool n,.str s,.bool m,.str t]] (.bool (vRat n s m t)):=by
 have hb:=Qlh n m s t
 unfold vRat
 cases h1:Qbb n s.data.toList with
 |false=>
  rw [h1,Bool.false_and]at hb
  rw [Bool.false_and]
  refine Qac (tb:=[]) 14 [.tmp 2] [0,1,2] mixed Tryd.func67 rfl (by kernel_rfl) (by kernel_rfl) (by kernel_rfl) (by kernel_rfl) ?_
  repeat (first|(simp -implicitDefEqProofs only [go_sem,Nat.reduceAdd,Nat.reduceMul,Nat.reduceEqDiff,Nat.reduceLT,Nat.reduceLeDiff,Nat.reduceSub,Nat.reduceBEq,reduceIte,reduceCtorEq,Int.reduceEq,Int.reduceNe,Nat.reduceBneDiff,Int.reduceLE,Int.reduceLT,Int.reduceToNat,Int.reduceAdd,Int.reduceSub,Int.reduceMul,Int.reduceNeg])|((with_reducible refine Qab (hb) ?_ ?_ ?_);(with_reducible rfl);rfl))
 |true=>
  rw [h1,Bool.true_and]at hb
  rw [Bool.true_and]
  cases h2:Qbb m t.data.toList with
  |false=>
   rw [h2]at hb
   rw [Bool.false_and]
   refine Qac (tb:=[]) 14 [.tmp 2] [0,1,2] mixed Tryd.func67 rfl (by kernel_rfl) (by kernel_rfl) (by kernel_rfl) (by kernel_rfl) ?_
   repeat (first|(simp -implicitDefEqProofs only [go_sem,Nat.reduceAdd,Nat.reduceMul,Nat.reduceEqDiff,Nat.reduceLT,Nat.reduceLeDiff,Nat.reduceSub,Nat.reduceBEq,reduceIte,reduceCtorEq,Int.reduceEq,Int.reduceNe,Nat.reduceBneDiff,Int.reduceLE,Int.reduceLT,Int.reduceToNat,Int.reduceAdd,Int.reduceSub,Int.reduceMul,Int.reduceNeg])|((with_reducible refine Qab (hb) ?_ ?_ ?_);(with_reducible rfl);rfl))
  |true=>
   rw [h2]at hb
   have hs:=Zhm m t h2 ht
   rw [Bool.true_and,←Q2p h2]
   refine Qac (tb:=[]) 14 [.tmp 2] [0,1,2] mixed Tryd.func67 rfl (by kernel_rfl) (by kernel_rfl) (by kernel_rfl) (by kernel_rfl) ?_
   repeat (first|(simp -implicitDefEqProofs only [go_sem,Nat.reduceAdd,Nat.reduceMul,Nat.reduceEqDiff,Nat.reduceLT,Nat.reduceLeDiff,Nat.reduceSub,Nat.reduceBEq,reduceIte,reduceCtorEq,Int.reduceEq,Int.reduceNe,Nat.reduceBneDiff,Int.reduceLE,Int.reduceLT,Int.reduceToNat,Int.reduceAdd,Int.reduceSub,Int.reduceMul,Int.reduceNeg])|((with_reducible refine Qab (hb) ?_ ?_ ?_);(with_reducible rfl);rfl)|((with_reducible refine Qab (hs) ?_ ?_ ?_);(with_reducible rfl);rfl))
theorem Q2q (n1 m1 n2 m2:Bool) (s1 t1 s2 t2:ByteArray) (h1:t1.size≤100000) (h2:t2.size≤100000):Qae Tryd.prog 63 [.agg [.bool n1,.str s1,.bool m1,.str t1],.agg [.bool n2,.str s2,.bool m2,.str t2]] (.bool (vRat n1 s1 m1 t1&&vRat n2 s2 m2 t2)):=by
 have a1:=Qfa n1 s1 m1 t1 h1
 have a2:=Qfa n2 s2 m2 t2 h2
 cases hv:vRat n1 s1 m1 t1 with
 |false=>
  rw [hv]at a1
  rw [Bool.false_and]
  refine Qac (tb:=[]) 11 [.tmp 4] [0,1,2,3,4] mixed Tryd.func63 rfl (by kernel_rfl) (by kernel_rfl) (by kernel_rfl) (by kernel_rfl) ?_
  repeat (first|(simp -implicitDefEqProofs only [go_sem,Nat.reduceAdd,Nat.reduceMul,Nat.reduceEqDiff,Nat.reduceLT,Nat.reduceLeDiff,Nat.reduceSub,Nat.reduceBEq,reduceIte,reduceCtorEq,Int.reduceEq,Int.reduceNe,Nat.reduceBneDiff,Int.reduceLE,Int.reduceLT,Int.reduceToNat,Int.reduceAdd,Int.reduceSub,Int.reduceMul,Int.reduceNeg])|((with_reducible refine Qab (a1) ?_ ?_ ?_);(with_reducible rfl);rfl))
 |true=>
  rw [hv]at a1
  rw [Bool.true_and]
  refine Qac (tb:=[]) 11 [.tmp 4] [0,1,2,3,4] mixed Tryd.func63 rfl (by kernel_rfl) (by kernel_rfl) (by kernel_rfl) (by kernel_rfl) ?_
  repeat (first|(simp -implicitDefEqProofs only [go_sem,Nat.reduceAdd,Nat.reduceMul,Nat.reduceEqDiff,Nat.reduceLT,Nat.reduceLeDiff,Nat.reduceSub,Nat.reduceBEq,reduceIte,reduceCtorEq,Int.reduceEq,Int.reduceNe,Nat.reduceBneDiff,Int.reduceLE,Int.reduceLT,Int.reduceToNat,Int.reduceAdd,Int.reduceSub,Int.reduceMul,Int.reduceNeg])|((with_reducible refine Qab (a1) ?_ ?_ ?_);(with_reducible rfl);rfl)|((with_reducible refine Qab (a2) ?_ ?_ ?_);(with_reducible rfl);rfl))
def gN (x y:Int):Int:=if y<0 then -((Nat.gcd x.natAbs y.natAbs:Nat):Int)else((Nat.gcd x.natAbs y.natAbs:Nat):Int)
def lowN (x y:Int):Int:=x/gN x y
def lowD (x y:Int):Int:=y/gN x y
def Qda (x y:Int):PV:= .agg [.bool (decide (x<0)),.str ⟨(magL x.natAbs).toArray⟩,.bool (decide (y<0)),.str ⟨(magL y.natAbs).toArray⟩]
def big (x y:Int):Bool:=decide (65536<blen x.natAbs)||decide (65536<blen y.natAbs)
def Qod (e:Int):PV:= .tup [.agg [.bool false,.str ⟨#[]⟩,.bool false,.str ⟨#[]⟩],.int .i64 e]
def outQ (x y:Int):PV:=if big x y=true then Qod 7 else .tup [Qda x y,.int .i64 0]
theorem Qmv {x y:Int} (h:big x y=true):outQ x y=Qod 7:=by rw [outQ,if_pos h]
theorem Qmw {x y:Int} (h:big x y=false):outQ x y= .tup [Qda x y,.int .i64 0]:=by rw [outQ,if_neg (by rw [h];decide)]
theorem Q2r (n:Bool) (m:Nat):(sv n m).natAbs=m:=by cases n<;>simp [sv]
theorem Zk0 {n:Bool} {m:Nat} (h:0<m):(sv n m<0)=(n=true):=by cases n<;>simp [sv]<;>omega
theorem Znc (xn yn:Bool) (a b:Nat) (hb:0<b):gN (sv xn a) (sv yn b)=sv yn (Nat.gcd a b):=by
 unfold gN
 rw [Q2r,Q2r]
 simp only [Zk0 hb]
 cases yn<;>rfl
theorem Qoe {n:Int} (h:65536<blen n.natAbs):Qei n= .tup [.agg [.bool false,.str ⟨#[]⟩],.int .i64 7]:=by rw [Qei,if_pos h,Qtm]
theorem Qlf {n:Int} (h: ¬65536<blen n.natAbs):Qei n= .tup [.agg [.bool (decide (n<0)),.str ⟨(magL n.natAbs).toArray⟩],.int .i64 0]:=by rw [Qei,if_neg h];rfl
theorem Qlg (xn yn:Bool) (a b:Nat) (hb:0<b) (ha:(digs BW a).length≤900000) (hbl:(digs BW b).length≤900000):
  Qae Tryd.prog 65 [nP xn a,nP yn b] (outQ (lowN (sv xn a) (sv yn b)) (lowD (sv xn a) (sv yn b))):=by
 have hg:=Zan a b (by omega) (by omega)
 have hgp:0<Nat.gcd a b:=Nat.gcd_pos_of_pos_right _ hb
 have hgl:(digs BW (Nat.gcd a b)).length≤900000:=Nat.le_trans (Qe8 (Nat.gcd_le_right _ hb)) hbl
 have d1:=Qt3 xn yn a (Nat.gcd a b) hgp (by omega) (by omega)
 have d2:=Qt3 yn yn b (Nat.gcd a b) hgp (by omega) (by omega)
 have w1:=Qe7 (!(xn==yn)) (nqn xn a (Nat.gcd a b)) (Nat.le_trans (Qe8 (Qt4 _ _ _)) (Nat.le_trans (Qoc _) (by omega)))
 have w2:=Qe7 (!(yn==yn)) (nqn yn b (Nat.gcd a b)) (Nat.le_trans (Qe8 (Qt4 _ _ _)) (Nat.le_trans (Qoc _) (by omega)))
 rw [(Qt2 xn yn a _ hgp).1]at w1
 rw [(Qt2 yn yn b _ hgp).1]at w2
 have e0:(!(yn==yn))=false:=by cases yn<;>rfl
 rw [e0]at d2 w2
 unfold lowN lowD
 rw [Znc _ _ _ _ hb]
 generalize sv xn a/sv yn (Nat.gcd a b)=n at*
 generalize sv yn b/sv yn (Nat.gcd a b)=d at*
 generalize nqn xn a (Nat.gcd a b)=q1 at*
 generalize nqn yn b (Nat.gcd a b)=q2 at*
 generalize nrn xn a (Nat.gcd a b)=r1 at*
 generalize nrn yn b (Nat.gcd a b)=r2 at*
 generalize Nat.gcd a b=g at*
 generalize (!(xn==yn))=s at*
 have z1:((7:Int) != 0)=true:=rfl
 have z0:((0:Int) != 0)=false:=rfl
 by_cases h1:65536<blen n.natAbs
 ·rw [Qmv (by simp [big,h1])]
  rw [Qoe h1]at w1
  by_cases h2:65536<blen d.natAbs
  ·rw [Qoe h2]at w2
   refine Qac (tb:=[]) 51 [.cell 4 86,.tmp 5] [0,1,2,3,4,5,6,7,8,9,10,46] mixed Tryd.func65 rfl (by kernel_rfl) (by kernel_rfl) (by kernel_rfl) (by kernel_rfl) ?_
   repeat (first|(simp -implicitDefEqProofs only [go_sem,Nat.reduceAdd,Nat.reduceMul,Nat.reduceEqDiff,Nat.reduceLT,Nat.reduceLeDiff,Nat.reduceSub,Nat.reduceBEq,reduceIte,reduceCtorEq,Int.reduceEq,Int.reduceNe,Nat.reduceBneDiff,Int.reduceLE,Int.reduceLT,Int.reduceToNat,Int.reduceAdd,Int.reduceSub,Int.reduceMul,Int.reduceNeg,nP,dw,z1,z0,Qod])|((with_reducible refine Qab (hg) ?_ ?_ ?_);(with_reducible rfl);rfl)|((with_reducible refine Qab (d1) ?_ ?_ ?_);(with_reducible rfl);rfl)|((with_reducible refine Qab (d2) ?_ ?_ ?_);(with_reducible rfl);rfl)|((with_reducible refine Qab (w1) ?_ ?_ ?_);(with_reducible rfl);rfl)|((with_reducible refine Qab (w2) ?_ ?_ ?_);(with_reducible rfl);rfl)|(with_reducible exact Qaa _ _ (by kernel_rfl))|(with_reducible refine And.intro (Qaa _ _ (by kernel_rfl)) ?_))
  ·rw [Qlf h2]at w2
   refine Qac (tb:=[]) 51 [.cell 4 86,.tmp 5] [0,1,2,3,4,5,6,7,8,9,10,46] mixed Tryd.func65 rfl (by kernel_rfl) (by kernel_rfl) (by kernel_rfl) (by kernel_rfl) ?_
   repeat (first|(simp -implicitDefEqProofs only [go_sem,Nat.reduceAdd,Nat.reduceMul,Nat.reduceEqDiff,Nat.reduceLT,Nat.reduceLeDiff,Nat.reduceSub,Nat.reduceBEq,reduceIte,reduceCtorEq,Int.reduceEq,Int.reduceNe,Nat.reduceBneDiff,Int.reduceLE,Int.reduceLT,Int.reduceToNat,Int.reduceAdd,Int.reduceSub,Int.reduceMul,Int.reduceNeg,nP,dw,z1,z0,Qod])|((with_reducible refine Qab (hg) ?_ ?_ ?_);(with_reducible rfl);rfl)|((with_reducible refine Qab (d1) ?_ ?_ ?_);(with_reducible rfl);rfl)|((with_reducible refine Qab (d2) ?_ ?_ ?_);(with_reducible rfl);rfl)|((with_reducible refine Qab (w1) ?_ ?_ ?_);(with_reducible rfl);rfl)|((with_reducible refine Qab (w2) ?_ ?_ ?_);(with_reducible rfl);rfl)|(with_reducible exact Qaa _ _ (by kernel_rfl))|(with_reducible refine And.intro (Qaa _ _ (by kernel_rfl)) ?_))
 ·rw [Qlf h1]at w1
  by_cases h2:65536<blen d.natAbs
  ·rw [Qmv (by simp [big,h2])]
   rw [Qoe h2]at w2
   refine Qac (tb:=[]) 51 [.cell 4 86,.tmp 5] [0,1,2,3,4,5,6,7,8,9,10,46] mixed Tryd.func65 rfl (by kernel_rfl) (by kernel_rfl) (by kernel_rfl) (by kernel_rfl) ?_
   repeat (first|(simp -implicitDefEqProofs only [go_sem,Nat.reduceAdd,Nat.reduceMul,Nat.reduceEqDiff,Nat.reduceLT,Nat.reduceLeDiff,Nat.reduceSub,Nat.reduceBEq,reduceIte,reduceCtorEq,Int.reduceEq,Int.reduceNe,Nat.reduceBneDiff,Int.reduceLE,Int.reduceLT,Int.reduceToNat,Int.reduceAdd,Int.reduceSub,Int.reduceMul,Int.reduceNeg,nP,dw,z1,z0,Qod])|((with_reducible refine Qab (hg) ?_ ?_ ?_);(with_reducible rfl);rfl)|((with_reducible refine Qab (d1) ?_ ?_ ?_);(with_reducible rfl);rfl)|((with_reducible refine Qab (d2) ?_ ?_ ?_);(with_reducible rfl);rfl)|((with_reducible refine Qab (w1) ?_ ?_ ?_);(with_reducible rfl);rfl)|((with_reducible refine Qab (w2) ?_ ?_ ?_);(with_reducible rfl);rfl)|(with_reducible exact Qaa _ _ (by kernel_rfl))|(with_reducible refine And.intro (Qaa _ _ (by kernel_rfl)) ?_))
  ·rw [Qmw (by simp only [big,h1,h2,decide_false,Bool.or_self])]
   rw [Qlf h2]at w2
   refine Qac (tb:=[]) 51 [.cell 4 86,.tmp 5] [0,1,2,3,4,5,6,7,8,9,10,46] mixed Tryd.func65 rfl (by kernel_rfl) (by kernel_rfl) (by kernel_rfl) (by kernel_rfl) ?_
   repeat (first|(simp -implicitDefEqProofs only [go_sem,Nat.reduceAdd,Nat.reduceMul,Nat.reduceEqDiff,Nat.reduceLT,Nat.reduceLeDiff,Nat.reduceSub,Nat.reduceBEq,reduceIte,reduceCtorEq,Int.reduceEq,Int.reduceNe,Nat.reduceBneDiff,Int.reduceLE,Int.reduceLT,Int.reduceToNat,Int.reduceAdd,Int.reduceSub,Int.reduceMul,Int.reduceNeg,nP,dw,z1,z0,Qda])|((with_reducible refine Qab (hg) ?_ ?_ ?_);(with_reducible rfl);rfl)|((with_reducible refine Qab (d1) ?_ ?_ ?_);(with_reducible rfl);rfl)|((with_reducible refine Qab (d2) ?_ ?_ ?_);(with_reducible rfl);rfl)|((with_reducible refine Qab (w1) ?_ ?_ ?_);(with_reducible rfl);rfl)|((with_reducible refine Qab (w2) ?_ ?_ ?_);(with_reducible rfl);rfl)|(with_reducible exact Qaa _ _ (by kernel_rfl))|(with_reducible refine And.intro (Qaa _ _ (by kernel_rfl)) ?_))
theorem Q9r (an bn:Bool) (a b:ByteArray) (h1:Qbb an a.data.toList=true) (h2:Qbb bn b.data.toList=true) (h0:b.data.toList≠ []) (ha:a.size≤100000) (hb:b.size≤100000):
  Qae Tryd.prog 62 [.agg [.bool an,.str a],.agg [.bool bn,.str b]] (outQ (lowN (wnum an a) (wnum bn b)) (lowD (wnum an a) (wnum bn b))):=by
 have hv:=Qlh an bn a b
 rw [h1,h2,Bool.true_and]at hv
 have hL1:=Qb4 a ha
 have hL2:=Qb4 b hb
 have hoa:=Qea an a h1 (by omega)
 have hob:=Qea bn b h2 (by omega)
 have he:=Qjt h0
 have hl:=Qlg an bn _ _ (Qe9 h2 h0) (by omega:(digs BW (bnum a.data.toList)).length≤900000) (by omega)
 unfold wnum
 generalize lowN (sv an (bnum a.data.toList)) (sv bn (bnum b.data.toList))=N at*
 generalize lowD (sv an (bnum a.data.toList)) (sv bn (bnum b.data.toList))=D at*
 cases hB:big N D with
 |true=>
  rw [Qmv hB]at hl ⊢
  refine Qac (tb:=[]) 22 [.cell 4 86,.tmp 5] [0,1,2,3,4,5,9,13] mixed Tryd.func62 rfl (by kernel_rfl) (by kernel_rfl) (by kernel_rfl) (by kernel_rfl) ?_
  repeat (first|(simp -implicitDefEqProofs only [go_sem,Nat.reduceAdd,Nat.reduceMul,Nat.reduceEqDiff,Nat.reduceLT,Nat.reduceLeDiff,Nat.reduceSub,Nat.reduceBEq,reduceIte,reduceCtorEq,Int.reduceEq,Int.reduceNe,Nat.reduceBneDiff,Int.reduceLE,Int.reduceLT,Int.reduceToNat,Int.reduceAdd,Int.reduceSub,Int.reduceMul,Int.reduceNeg,he,nP,dw,Qod])|((with_reducible refine Qab (hv) ?_ ?_ ?_);(with_reducible rfl);rfl)|((with_reducible refine Qab (hoa) ?_ ?_ ?_);(with_reducible rfl);rfl)|((with_reducible refine Qab (hob) ?_ ?_ ?_);(with_reducible rfl);rfl)|((with_reducible refine Qab (hl) ?_ ?_ ?_);(with_reducible rfl);rfl)|(with_reducible exact Qaa _ _ (by kernel_rfl))|(with_reducible refine And.intro (Qaa _ _ (by kernel_rfl)) ?_))
 |false=>
  rw [Qmw hB]at hl ⊢
  refine Qac (tb:=[]) 22 [.cell 4 86,.tmp 5] [0,1,2,3,4,5,9,13] mixed Tryd.func62 rfl (by kernel_rfl) (by kernel_rfl) (by kernel_rfl) (by kernel_rfl) ?_
  repeat (first|(simp -implicitDefEqProofs only [go_sem,Nat.reduceAdd,Nat.reduceMul,Nat.reduceEqDiff,Nat.reduceLT,Nat.reduceLeDiff,Nat.reduceSub,Nat.reduceBEq,reduceIte,reduceCtorEq,Int.reduceEq,Int.reduceNe,Nat.reduceBneDiff,Int.reduceLE,Int.reduceLT,Int.reduceToNat,Int.reduceAdd,Int.reduceSub,Int.reduceMul,Int.reduceNeg,he,nP,dw,Qda])|((with_reducible refine Qab (hv) ?_ ?_ ?_);(with_reducible rfl);rfl)|((with_reducible refine Qab (hoa) ?_ ?_ ?_);(with_reducible rfl);rfl)|((with_reducible refine Qab (hob) ?_ ?_ ?_);(with_reducible rfl);rfl)|((with_reducible refine Qab (hl) ?_ ?_ ?_);(with_reducible rfl);rfl)|(with_reducible exact Qaa _ _ (by kernel_rfl))|(with_reducible refine And.intro (Qaa _ _ (by kernel_rfl)) ?_))
end Go.Proofs.YtciddhkfbgkejaaDoor

namespace Go.Proofs.YtciddhkfbgkejaaDoor
open Go.Vl Go.RowKit Go.Dg
theorem Qju (n:Int):(magL n.natAbs=[])↔n=0:=by
 have h:=Qc8 n.natAbs
 constructor
 ·intro e
  rw [e]at h
  have:=(Qbg (B:=256) (by decide)).1 (List.length_eq_zero_iff.1 h.symm)
  omega
 ·rintro rfl;simp [magL,Qa8]
theorem Qwt (n d:Int) (h1: -9223372036854775808≤n) (h2:n≤9223372036854775807) (h3: -9223372036854775808≤d) (h4:d≤9223372036854775807) (h0:d≠0):Qae Tryd.prog 40 [.int .i64 n,.int .i64 d] (outQ (lowN n d) (lowD n d)):=by
 have o1:=Qgj n h1 h2
 have o2:=Qgj d h3 h4
 have hL1:(digs 256 n.natAbs).length≤8:=(Qam (by decide) _ 8).2 (by simp only [Nat.reducePow];omega)
 have hL2:(digs 256 d.natAbs).length≤8:=(Qam (by decide) _ 8).2 (by simp only [Nat.reducePow];omega)
 have hr:=Q9r (decide (n<0)) (decide (d<0)) ⟨(magL n.natAbs).toArray⟩ ⟨(magL d.natAbs).toArray⟩ (Qg3 n (by omega)) (Qg3 d (by omega)) (fun e=>h0 ((Qju d).1 e)) (by rw [Qk3];omega) (by rw [Qk3];omega)
 rw [Qba,Qba]at hr
 generalize lowN n d=N at*
 generalize lowD n d=D at*
 cases hB:big N D with
 |true=>
  rw [Qmv hB]at hr ⊢
  refine Qac (tb:=[]) 13 [.cell 4 86,.tmp 5] [0,1,4,5] mixed Tryd.func40 rfl (by kernel_rfl) (by kernel_rfl) (by kernel_rfl) (by kernel_rfl) ?_
  repeat (first|(simp -implicitDefEqProofs only [go_sem,Nat.reduceAdd,Nat.reduceMul,Nat.reduceEqDiff,Nat.reduceLT,Nat.reduceLeDiff,Nat.reduceSub,Nat.reduceBEq,reduceIte,reduceCtorEq,Int.reduceEq,Int.reduceNe,Nat.reduceBneDiff,Int.reduceLE,Int.reduceLT,Int.reduceToNat,Int.reduceAdd,Int.reduceSub,Int.reduceMul,Int.reduceNeg,wPV,Qod])|((with_reducible refine Qab (o1) ?_ ?_ ?_);(with_reducible rfl);rfl)|((with_reducible refine Qab (o2) ?_ ?_ ?_);(with_reducible rfl);rfl)|((with_reducible refine Qab (hr) ?_ ?_ ?_);(with_reducible rfl);rfl))
 |false=>
  rw [Qmw hB]at hr ⊢
  refine Qac (tb:=[]) 13 [.cell 4 86,.tmp 5] [0,1,4,5] mixed Tryd.func40 rfl (by kernel_rfl) (by kernel_rfl) (by kernel_rfl) (by kernel_rfl) ?_
  repeat (first|(simp -implicitDefEqProofs only [go_sem,Nat.reduceAdd,Nat.reduceMul,Nat.reduceEqDiff,Nat.reduceLT,Nat.reduceLeDiff,Nat.reduceSub,Nat.reduceBEq,reduceIte,reduceCtorEq,Int.reduceEq,Int.reduceNe,Nat.reduceBneDiff,Int.reduceLE,Int.reduceLT,Int.reduceToNat,Int.reduceAdd,Int.reduceSub,Int.reduceMul,Int.reduceNeg,wPV,Qda])|((with_reducible refine Qab (o1) ?_ ?_ ?_);(with_reducible rfl);rfl)|((with_reducible refine Qab (o2) ?_ ?_ ?_);(with_reducible rfl);rfl)|((with_reducible refine Qab (hr) ?_ ?_ ?_);(with_reducible rfl);rfl))
theorem Qdb {n m:Bool} {s t:ByteArray} (h:vRat n s m t=true):Qbb n s.data.toList=true∧Qbb m t.data.toList=true∧m=false∧t.data.toList≠ []:=by
 simp only [vRat,Bool.and_eq_true]at h
 refine⟨h.1,h.2.1,by simpa using h.2.2.1,by simpa using h.2.2.2⟩
theorem sumL (x y m:Nat) (hm:m≤x+y) (k:Nat) (h1:(digs BW x).length≤k) (h2:(digs BW y).length≤k):(digs BW m).length≤k+1:=Zah x y m k hm h1 h2
theorem Qwu (n1 m1 n2 m2:Bool) (s1 t1 s2 t2:ByteArray) (hv1:vRat n1 s1 m1 t1=true) (hv2:vRat n2 s2 m2 t2=true) (a1:s1.size≤100000) (a2:t1.size≤100000) (a3:s2.size≤100000) (a4:t2.size≤100000):
  Qae Tryd.prog 64 [.agg [.bool n1,.str s1,.bool m1,.str t1],.agg [.bool n2,.str s2,.bool m2,.str t2]]
   (.tup [nP (!(n1==m2)) (bnum s1.data.toList*bnum t2.data.toList),nP (!(n2==m1)) (bnum s2.data.toList*bnum t1.data.toList),nP (!(m1==m2)) (bnum t1.data.toList*bnum t2.data.toList)]):=by
 obtain⟨p1,p2,_,_⟩:=Qdb hv1
 obtain⟨p3,p4,_,_⟩:=Qdb hv2
 have o1:=Qea n1 s1 p1 (by omega)
 have o2:=Qea m1 t1 p2 (by omega)
 have o3:=Qea n2 s2 p3 (by omega)
 have o4:=Qea m2 t2 p4 (by omega)
 have l1:=Qb4 s1 a1
 have l2:=Qb4 t1 a2
 have l3:=Qb4 s2 a3
 have l4:=Qb4 t2 a4
 have x1:=Qmt n1 m2 (bnum s1.data.toList) (bnum t2.data.toList) (by omega)
 have x2:=Qmt n2 m1 (bnum s2.data.toList) (bnum t1.data.toList) (by omega)
 have x3:=Qmt m1 m2 (bnum t1.data.toList) (bnum t2.data.toList) (by omega)
 generalize (!(n1==m2))=b1 at*
 generalize (!(n2==m1))=b2 at*
 generalize (!(m1==m2))=b3 at*
 refine Qac (tb:=[]) 28 [.cell 4 79,.cell 5 79,.cell 6 79] [0,1,2,3,4,5,6] mixed Tryd.func64 rfl (by kernel_rfl) (by kernel_rfl) (by kernel_rfl) (by kernel_rfl) ?_
 repeat (first|(simp -implicitDefEqProofs only [go_sem,Nat.reduceAdd,Nat.reduceMul,Nat.reduceEqDiff,Nat.reduceLT,Nat.reduceLeDiff,Nat.reduceSub,Nat.reduceBEq,reduceIte,reduceCtorEq,Int.reduceEq,Int.reduceNe,Nat.reduceBneDiff,Int.reduceLE,Int.reduceLT,Int.reduceToNat,Int.reduceAdd,Int.reduceSub,Int.reduceMul,Int.reduceNeg,nP,dw])|((with_reducible refine Qab (o1) ?_ ?_ ?_);(with_reducible rfl);rfl)|((with_reducible refine Qab (o2) ?_ ?_ ?_);(with_reducible rfl);rfl)|((with_reducible refine Qab (o3) ?_ ?_ ?_);(with_reducible rfl);rfl)|((with_reducible refine Qab (o4) ?_ ?_ ?_);(with_reducible rfl);rfl)|((with_reducible refine Qab (x1) ?_ ?_ ?_);(with_reducible rfl);rfl)|((with_reducible refine Qab (x2) ?_ ?_ ?_);(with_reducible rfl);rfl)|((with_reducible refine Qab (x3) ?_ ?_ ?_);(with_reducible rfl);rfl)|(with_reducible exact Qaa _ _ (by kernel_rfl))|(with_reducible refine And.intro (Qaa _ _ (by kernel_rfl)) ?_))
def Q9s (a b c d:Int):Int:=lowN (a*d+c*b) (b*d)
def Q9t (a b c d:Int):Int:=lowD (a*d+c*b) (b*d)
theorem Qr6 (n1 m1 n2 m2:Bool) (s1 t1 s2 t2:ByteArray) (hv1:vRat n1 s1 m1 t1=true) (hv2:vRat n2 s2 m2 t2=true) (a1:s1.size≤100000) (a2:t1.size≤100000) (a3:s2.size≤100000) (a4:t2.size≤100000):
  Qae Tryd.prog 41 [.agg [.bool n1,.str s1,.bool m1,.str t1],.agg [.bool n2,.str s2,.bool m2,.str t2]] (outQ (Q9s (wnum n1 s1) (wnum m1 t1) (wnum n2 s2) (wnum m2 t2)) (Q9t (wnum n1 s1) (wnum m1 t1) (wnum n2 s2) (wnum m2 t2))):=by
 have hp:=Q2q n1 m1 n2 m2 s1 t1 s2 t2 a2 a4
 rw [hv1,hv2,Bool.true_and]at hp
 have hc:=Qwu n1 m1 n2 m2 s1 t1 s2 t2 hv1 hv2 a1 a2 a3 a4
 obtain⟨p1,p2,_,p5⟩:=Qdb hv1
 obtain⟨p3,p4,_,p6⟩:=Qdb hv2
 have l1:=Qb4 s1 a1
 have l2:=Qb4 t1 a2
 have l3:=Qb4 s2 a3
 have l4:=Qb4 t2 a4
 have q1:=mulL (bnum s1.data.toList) (bnum t2.data.toList)
 have q2:=mulL (bnum s2.data.toList) (bnum t1.data.toList)
 have q3:=mulL (bnum t1.data.toList) (bnum t2.data.toList)
 obtain⟨n,m,hs,e,hm⟩:=Q2t (!(n1==m2)) (!(n2==m1)) (bnum s1.data.toList*bnum t2.data.toList) (bnum s2.data.toList*bnum t1.data.toList) (by omega) (by omega)
 have hml:=sumL _ _ m hm 200000 (by omega) (by omega)
 have hlo:=Qlg n (!(m1==m2)) m (bnum t1.data.toList*bnum t2.data.toList) (Nat.mul_pos (Qe9 p2 p5) (Qe9 p4 p6)) (by omega) (by omega)
 rw [Qmu,e,Qmu,Qmu]at hlo
 unfold Q9s Q9t
 show Qae Tryd.prog 41 _ (outQ (lowN (sv n1 (bnum s1.data.toList)*sv m2 (bnum t2.data.toList)+sv n2 (bnum s2.data.toList)*sv m1 (bnum t1.data.toList)) (sv m1 (bnum t1.data.toList)*sv m2 (bnum t2.data.toList))) (lowD (sv n1 (bnum s1.data.toList)*sv m2 (bnum t2.data.toList)+sv n2 (bnum s2.data.toList)*sv m1 (bnum t1.data.toList)) (sv m1 (bnum t1.data.toList)*sv m2 (bnum t2.data.toList))))
 generalize lowN (sv n1 (bnum s1.data.toList)*sv m2 (bnum t2.data.toList)+sv n2 (bnum s2.data.toList)*sv m1 (bnum t1.data.toList)) (sv m1 (bnum t1.data.toList)*sv m2 (bnum t2.data.toList))=N at*
 generalize lowD (sv n1 (bnum s1.data.toList)*sv m2 (bnum t2.data.toList)+sv n2 (bnum s2.data.toList)*sv m1 (bnum t1.data.toList)) (sv m1 (bnum t1.data.toList)*sv m2 (bnum t2.data.toList))=D at*
 generalize (!(n1==m2))=b1 at*
 generalize (!(n2==m1))=b2 at*
 generalize (!(m1==m2))=b3 at*
 cases hB:big N D with
 |true=>
  rw [Qmv hB]at hlo ⊢
  refine Qac (tb:=[]) 28 [.cell 4 86,.tmp 5] [0,1,2,3,4,5,6,7,8,12] mixed Tryd.func41 rfl (by kernel_rfl) (by kernel_rfl) (by kernel_rfl) (by kernel_rfl) ?_
  repeat (first|(simp -implicitDefEqProofs only [go_sem,Nat.reduceAdd,Nat.reduceMul,Nat.reduceEqDiff,Nat.reduceLT,Nat.reduceLeDiff,Nat.reduceSub,Nat.reduceBEq,reduceIte,reduceCtorEq,Int.reduceEq,Int.reduceNe,Nat.reduceBneDiff,Int.reduceLE,Int.reduceLT,Int.reduceToNat,Int.reduceAdd,Int.reduceSub,Int.reduceMul,Int.reduceNeg,nP,dw,Qod])|((with_reducible refine Qab (hp) ?_ ?_ ?_);(with_reducible rfl);rfl)|((with_reducible refine Qab (hc) ?_ ?_ ?_);(with_reducible rfl);rfl)|((with_reducible refine Qab (hs) ?_ ?_ ?_);(with_reducible rfl);rfl)|((with_reducible refine Qab (hlo) ?_ ?_ ?_);(with_reducible rfl);rfl)|(with_reducible exact Qaa _ _ (by kernel_rfl))|(with_reducible refine And.intro (Qaa _ _ (by kernel_rfl)) ?_))
 |false=>
  rw [Qmw hB]at hlo ⊢
  refine Qac (tb:=[]) 28 [.cell 4 86,.tmp 5] [0,1,2,3,4,5,6,7,8,12] mixed Tryd.func41 rfl (by kernel_rfl) (by kernel_rfl) (by kernel_rfl) (by kernel_rfl) ?_
  repeat (first|(simp -implicitDefEqProofs only [go_sem,Nat.reduceAdd,Nat.reduceMul,Nat.reduceEqDiff,Nat.reduceLT,Nat.reduceLeDiff,Nat.reduceSub,Nat.reduceBEq,reduceIte,reduceCtorEq,Int.reduceEq,Int.reduceNe,Nat.reduceBneDiff,Int.reduceLE,Int.reduceLT,Int.reduceToNat,Int.reduceAdd,Int.reduceSub,Int.reduceMul,Int.reduceNeg,nP,dw,Qda])|((with_reducible refine Qab (hp) ?_ ?_ ?_);(with_reducible rfl);rfl)|((with_reducible refine Qab (hc) ?_ ?_ ?_);(with_reducible rfl);rfl)|((with_reducible refine Qab (hs) ?_ ?_ ?_);(with_reducible rfl);rfl)|((with_reducible refine Qab (hlo) ?_ ?_ ?_);(with_reducible rfl);rfl)|(with_reducible exact Qaa _ _ (by kernel_rfl))|(with_reducible refine And.intro (Qaa _ _ (by kernel_rfl)) ?_))
theorem Qr7 (n1 m1 n2 m2:Bool) (s1 t1 s2 t2:ByteArray) (hv1:vRat n1 s1 m1 t1=true) (hv2:vRat n2 s2 m2 t2=true) (a1:s1.size≤100000) (a2:t1.size≤100000) (a3:s2.size≤100000) (a4:t2.size≤100000):
  Qae Tryd.prog 42 [.agg [.bool n1,.str s1,.bool m1,.str t1],.agg [.bool n2,.str s2,.bool m2,.str t2]] (outQ (lowN (wnum n1 s1*wnum n2 s2) (wnum m1 t1*wnum m2 t2)) (lowD (wnum n1 s1*wnum n2 s2) (wnum m1 t1*wnum m2 t2))):=by
 have hp:=Q2q n1 m1 n2 m2 s1 t1 s2 t2 a2 a4
 rw [hv1,hv2,Bool.true_and]at hp
 obtain⟨p1,p2,_,p5⟩:=Qdb hv1
 obtain⟨p3,p4,_,p6⟩:=Qdb hv2
 have o1:=Qea n1 s1 p1 (by omega)
 have o2:=Qea m1 t1 p2 (by omega)
 have o3:=Qea n2 s2 p3 (by omega)
 have o4:=Qea m2 t2 p4 (by omega)
 have l1:=Qb4 s1 a1
 have l2:=Qb4 t1 a2
 have l3:=Qb4 s2 a3
 have l4:=Qb4 t2 a4
 have q1:=mulL (bnum s1.data.toList) (bnum s2.data.toList)
 have q3:=mulL (bnum t1.data.toList) (bnum t2.data.toList)
 have x1:=Qmt n1 n2 (bnum s1.data.toList) (bnum s2.data.toList) (by omega)
 have x2:=Qmt m1 m2 (bnum t1.data.toList) (bnum t2.data.toList) (by omega)
 have hlo:=Qlg (!(n1==n2)) (!(m1==m2)) (bnum s1.data.toList*bnum s2.data.toList) (bnum t1.data.toList*bnum t2.data.toList) (Nat.mul_pos (Qe9 p2 p5) (Qe9 p4 p6)) (by omega) (by omega)
 rw [Qmu,Qmu]at hlo
 unfold wnum
 generalize lowN (sv n1 (bnum s1.data.toList)*sv n2 (bnum s2.data.toList)) (sv m1 (bnum t1.data.toList)*sv m2 (bnum t2.data.toList))=N at*
 generalize lowD (sv n1 (bnum s1.data.toList)*sv n2 (bnum s2.data.toList)) (sv m1 (bnum t1.data.toList)*sv m2 (bnum t2.data.toList))=D at*
 generalize (!(n1==n2))=b1 at*
 generalize (!(m1==m2))=b3 at*
 cases hB:big N D with
 |true=>
  rw [Qmv hB]at hlo ⊢
  refine Qac (tb:=[]) 28 [.cell 4 86,.tmp 5] [0,1,2,3,4,5,9] mixed Tryd.func42 rfl (by kernel_rfl) (by kernel_rfl) (by kernel_rfl) (by kernel_rfl) ?_
  repeat (first|(simp -implicitDefEqProofs only [go_sem,Nat.reduceAdd,Nat.reduceMul,Nat.reduceEqDiff,Nat.reduceLT,Nat.reduceLeDiff,Nat.reduceSub,Nat.reduceBEq,reduceIte,reduceCtorEq,Int.reduceEq,Int.reduceNe,Nat.reduceBneDiff,Int.reduceLE,Int.reduceLT,Int.reduceToNat,Int.reduceAdd,Int.reduceSub,Int.reduceMul,Int.reduceNeg,nP,dw,Qod])|((with_reducible refine Qab (hp) ?_ ?_ ?_);(with_reducible rfl);rfl)|((with_reducible refine Qab (o1) ?_ ?_ ?_);(with_reducible rfl);rfl)|((with_reducible refine Qab (o2) ?_ ?_ ?_);(with_reducible rfl);rfl)|((with_reducible refine Qab (o3) ?_ ?_ ?_);(with_reducible rfl);rfl)|((with_reducible refine Qab (o4) ?_ ?_ ?_);(with_reducible rfl);rfl)|((with_reducible refine Qab (x1) ?_ ?_ ?_);(with_reducible rfl);rfl)|((with_reducible refine Qab (x2) ?_ ?_ ?_);(with_reducible rfl);rfl)|((with_reducible refine Qab (hlo) ?_ ?_ ?_);(with_reducible rfl);rfl)|(with_reducible exact Qaa _ _ (by kernel_rfl))|(with_reducible refine And.intro (Qaa _ _ (by kernel_rfl)) ?_))
 |false=>
  rw [Qmw hB]at hlo ⊢
  refine Qac (tb:=[]) 28 [.cell 4 86,.tmp 5] [0,1,2,3,4,5,9] mixed Tryd.func42 rfl (by kernel_rfl) (by kernel_rfl) (by kernel_rfl) (by kernel_rfl) ?_
  repeat (first|(simp -implicitDefEqProofs only [go_sem,Nat.reduceAdd,Nat.reduceMul,Nat.reduceEqDiff,Nat.reduceLT,Nat.reduceLeDiff,Nat.reduceSub,Nat.reduceBEq,reduceIte,reduceCtorEq,Int.reduceEq,Int.reduceNe,Nat.reduceBneDiff,Int.reduceLE,Int.reduceLT,Int.reduceToNat,Int.reduceAdd,Int.reduceSub,Int.reduceMul,Int.reduceNeg,nP,dw,Qda])|((with_reducible refine Qab (hp) ?_ ?_ ?_);(with_reducible rfl);rfl)|((with_reducible refine Qab (o1) ?_ ?_ ?_);(with_reducible rfl);rfl)|((with_reducible refine Qab (o2) ?_ ?_ ?_);(with_reducible rfl);rfl)|((with_reducible refine Qab (o3) ?_ ?_ ?_);(with_reducible rfl);rfl)|((with_reducible refine Qab (o4) ?_ ?_ ?_);(with_reducible rfl);rfl)|((with_reducible refine Qab (x1) ?_ ?_ ?_);(with_reducible rfl);rfl)|((with_reducible refine Qab (x2) ?_ ?_ ?_);(with_reducible rfl);rfl)|((with_reducible refine Qab (hlo) ?_ ?_ ?_);(with_reducible rfl);rfl)|(with_reducible exact Qaa _ _ (by kernel_rfl))|(with_reducible refine And.intro (Qaa _ _ (by kernel_rfl)) ?_))
theorem Q9u (n m:Bool) (s t:ByteArray) (hv:vRat n s m t=true) (a1:s.size≤100000) (a2:t.size≤100000):Qae Tryd.prog 43 [.agg [.bool n,.str s,.bool m,.str t]] (Qei (wnum n s/wnum m t)):=by
 have hp:=Qfa n s m t a2
 rw [hv]at hp
 obtain⟨p1,p2,_,p5⟩:=Qdb hv
 have o1:=Qea n s p1 (by omega)
 have o2:=Qea m t p2 (by omega)
 have l1:=Qb4 s a1
 have l2:=Qb4 t a2
 have hb:=Qe9 p2 p5
 have hd:=Qt3 n m (bnum s.data.toList) (bnum t.data.toList) hb (by omega) (by omega)
 have hw:=Qe7 (!(n==m)) (nqn n (bnum s.data.toList) (bnum t.data.toList)) (Nat.le_trans (Qe8 (Qt4 _ _ _)) (Nat.le_trans (Qoc _) (by omega)))
 rw [(Qt2 n m _ _ hb).1,Qee]at hw
 rw [Qee]
 show Qae Tryd.prog 43 _ (.tup [wPV (outN (sv n (bnum s.data.toList)/sv m (bnum t.data.toList))),.int .i64 (outE (sv n (bnum s.data.toList)/sv m (bnum t.data.toList)))])
 generalize sv n (bnum s.data.toList)/sv m (bnum t.data.toList)=q at*
 generalize (!(n==m))=b1 at*
 refine Qac (tb:=[]) 24 [.cell 2 52,.tmp 3] [0,1,2,3,4,8] mixed Tryd.func43 rfl (by kernel_rfl) (by kernel_rfl) (by kernel_rfl) (by kernel_rfl) ?_
 repeat (first|(simp -implicitDefEqProofs only [go_sem,Nat.reduceAdd,Nat.reduceMul,Nat.reduceEqDiff,Nat.reduceLT,Nat.reduceLeDiff,Nat.reduceSub,Nat.reduceBEq,reduceIte,reduceCtorEq,Int.reduceEq,Int.reduceNe,Nat.reduceBneDiff,Int.reduceLE,Int.reduceLT,Int.reduceToNat,Int.reduceAdd,Int.reduceSub,Int.reduceMul,Int.reduceNeg,nP,dw,wPV])|((with_reducible refine Qab (hp) ?_ ?_ ?_);(with_reducible rfl);rfl)|((with_reducible refine Qab (o1) ?_ ?_ ?_);(with_reducible rfl);rfl)|((with_reducible refine Qab (o2) ?_ ?_ ?_);(with_reducible rfl);rfl)|((with_reducible refine Qab (hd) ?_ ?_ ?_);(with_reducible rfl);rfl)|((with_reducible refine Qab (hw) ?_ ?_ ?_);(with_reducible rfl);rfl)|(with_reducible exact Qaa _ _ (by kernel_rfl))|(with_reducible refine And.intro (Qaa _ _ (by kernel_rfl)) ?_))
end Go.Proofs.YtciddhkfbgkejaaDoor

namespace Go.Proofs.YtciddhkfbgkejaaDoor
open Go.Vl Go.RowKit Go.Dg
end Go.Proofs.YtciddhkfbgkejaaDoor

namespace Go.Proofs.YtciddhkfbgkejaaDoor
open Go.Vl Go.RowKit Go.Dg
end Go.Proofs.YtciddhkfbgkejaaDoor

namespace Go.Proofs.YtciddhkfbgkejaaDoor
open Go.Vl Go.RowKit Go.Dg
theorem mod_lt {y:Int} {k:Nat} (x:Int) (h0:y≠0) (hy:y.natAbs<256^k):(x%y).natAbs<256^k:=by
 have h1:=Int.emod_nonneg x h0
 have h2:=Int.emod_lt x h0
 omega
section
variable (a b c d:Int) (k:Nat) (hk:k≤10000) (ha:a.natAbs<256^k) (hb:b.natAbs<256^k) (hc:c.natAbs<256^k) (hd:d.natAbs<256^k)
include hk ha hb hc hd
end
end Go.Proofs.YtciddhkfbgkejaaDoor

namespace Go.Dg

/-! ### sums -/
/-- The sum of the first n values. -/
def sm (f:Nat→Int):Nat→Int
  |0=>0
  |n+1=>sm f n+f n
theorem Qb9 {f g:Nat→Int}: ∀(n:Nat),(∀i,i<n→f i=g i)→sm f n=sm g n
  |0,_=>rfl
  |n+1,h=>by rw [sm,sm,Qb9 n (fun i hi=>h i (Nat.lt_succ_of_lt hi)),h n (Nat.lt_succ_self n)]
theorem Qxh (f g:Nat→Int): ∀n,sm (fun i=>f i+g i) n=sm f n+sm g n
  |0=>rfl
  |n+1=>by simp only [sm,Qxh f g n];omega
theorem Qd2 (c:Int) (f:Nat→Int): ∀n,sm (fun i=>c*f i) n=c*sm f n
  |0=>by simp [sm]
  |n+1=>by simp only [sm,Qd2 c f n,Int.mul_add]
theorem Qji (f:Nat→Int): ∀n,sm f (n+1)=f 0+sm (fun i=>f (i+1)) n
  |0=>by simp [sm]
  |n+1=>by rw [sm,Qji f n,sm];omega
theorem Zbb (f:Nat→Int) {n m:Nat} (h:n≤m) (hz: ∀i,n≤i→i<m→f i=0):sm f m=sm f n:=by
  induction m with
  |zero=>
        obtain rfl:n=0:=by omega
        rfl
  |succ m ih=>
    rcases Nat.lt_or_eq_of_le h with h1|h1
    · rw [sm,ih (by omega) (fun i a b=>hz i a (by omega)),hz m (by omega) (by omega),Int.add_zero]
    · rw [h1]
theorem Q91 (g:Nat→Nat→Int): ∀n,sm (fun j=>sm (fun i=>g i j) (j+1)) n=sm (fun i=>sm (fun k=>g i (i+k)) (n-i)) n
  |0=>rfl
  |n+1=>by
    rw [sm,Q91 g n]
    have h1:sm (fun i=>sm (fun k=>g i (i+k)) (n+1-i)) n=sm (fun i=>sm (fun k=>g i (i+k)) (n-i)+g i n) n:=
      Qb9 n fun i hi=>by
        have e:n+1-i=(n-i)+1:=by omega
        have e2:i+(n-i)=n:=by omega
        rw [e,sm,e2]
    have e3:n+1-n=1:=by omega
    rw [sm,sm,h1,Qxh,e3]
    simp only [sm,Nat.add_zero,Int.zero_add]
    omega
theorem Zbc {f g:Nat→Int}: ∀(n:Nat),(∀i,i<n→f i≤g i)→sm f n≤sm g n
  |0,_=>Int.le_refl 0
  |n+1,h=>Int.add_le_add (Zbc n fun i hi=>h i (Nat.lt_succ_of_lt hi)) (h n (Nat.lt_succ_self n))

/-! ### binomials -/
/-- The number of ways to choose k of n elements. -/
def bin:Nat→Nat→Nat
  |_,0=>1
  |0,_+1=>0
  |n+1,k+1=>bin n k+bin n (k+1)
theorem Qjj (n:Nat):bin n 0=1:=by cases n<;>rfl
theorem Qxi: ∀{n k:Nat},n<k→bin n k=0
  |0,0,h=>absurd h (Nat.lt_irrefl 0)
  |0,_+1,_=>rfl
  |n+1,0,h=>absurd h (Nat.not_lt_zero _)
  |n+1,k+1,h=>by rw [bin,Qxi (by omega),Qxi (by omega)]
theorem Qxj: ∀{n k:Nat},k≤n→0<bin n k
  |_,0,_=>by rw [Qjj];decide
  |0,k+1,h=>absurd h (by omega)
  |n+1,k+1,h=>by rw [bin];have:=Qxj (n:=n) (k:=k) (by omega);omega
theorem Qh6: ∀(n k:Nat),bin n k≤2^n
  |0,0=>by decide
  |0,_+1=>by simp [bin]
  |n+1,0=>by rw [Qjj];exact Nat.pow_pos (by decide)
  |n+1,k+1=>by rw [bin,Nat.pow_succ];have:=Qh6 n k;have:=Qh6 n (k+1);omega
theorem Qos (x:Int) (n:Nat):x^(n+1)=x*x^n:=by rw [Int.pow_succ,Int.mul_comm]
/-- The power of a sum. -/
theorem Qqo (a b:Int): ∀n,sm (fun k=>(bin n k:Int)*(a^k*b^(n-k))) (n+1)=(a+b)^n
  |0=>by simp [sm,bin]
  |n+1=>by
    have ih:=Qqo a b n
    rw [Qji]
    have h1:sm (fun k=>(bin (n+1) (k+1):Int)*(a^(k+1)*b^(n+1-(k+1)))) (n+1)
        =sm (fun k=>a*((bin n k:Int)*(a^k*b^(n-k)))+(bin n (k+1):Int)*(a^(k+1)*b^(n-k))) (n+1):=
      Qb9 _ fun k _=>by
        have e:n+1-(k+1)=n-k:=by omega
        rw [e,bin,Int.natCast_add,Int.add_mul,Qos]
        congr 1
        rw [Int.mul_assoc,Int.mul_left_comm]
    rw [h1,Qxh,Qd2,ih]
    have h2:sm (fun k=>(bin n (k+1):Int)*(a^(k+1)*b^(n-k))) (n+1)=sm (fun k=>b*((bin n (k+1):Int)*(a^(k+1)*b^(n-(k+1))))) n:=by
      rw [sm,Qxi (Nat.lt_succ_self n),Int.natCast_zero,Int.zero_mul,Int.add_zero]
      refine Qb9 _ fun k hk=> ?_
      have e:n-k=(n-(k+1))+1:=by omega
      rw [e,Qos b]
      simp only [Int.mul_comm,Int.mul_left_comm,Int.mul_assoc]
    have h3:=Qji (fun k=>(bin n k:Int)*(a^k*b^(n-k))) n
    rw [ih]at h3
    rw [h2,Qd2,Qjj]
    rw [Qjj]at h3
    simp only [Int.pow_zero,Int.one_mul,Nat.sub_zero,Int.natCast_one]at h3 ⊢
    rw [Qos,Qos,Int.add_mul,h3]
    simp only [Int.mul_add]
    omega

/-! ### polynomials by their values -/
/-- A polynomial at x/y,times y to the power of its degree. -/
def hev:List Int→Int→Int→Int
  | [],_,_=>0
  |c::r,x,y=>c*y^r.length+x*hev r x y
theorem Qot: ∀(p:List Int) (x y:Int),hev p x y=sm (fun i=>p.getD i 0*(x^i*y^(p.length-1-i))) p.length
  | [],_,_=>rfl
  |c::r,x,y=>by
    rw [hev,List.length_cons,Qji,Qot r x y,←Qd2]
    congr 1
    · simp
    · refine Qb9 _ fun i hi=> ?_
      have e:r.length+1-1-(i+1)=r.length-1-i:=by omega
      rw [e,Qos,List.getD_cons_succ]
      simp only [Int.mul_comm,Int.mul_left_comm,Int.mul_assoc]
/-- A list of sums of products,at two values. -/
theorem Q29 (F:Nat→Int) (n:Nat) (x y:Int):hev ((List.range (n+1)).map F) x y=sm (fun j=>F j*(x^j*y^(n-j))) (n+1):=by
  rw [Qot]
  simp only [List.length_map,List.length_range]
  refine Qb9 _ fun j hj=> ?_
  rw [List.getD_eq_getElem?_getD]
  simp [hj]

/-- The list whose value at x,y is the sum of f i x^i (c x+y)^(n-i). -/
def trans (f:List Int) (c:Int) (n:Nat):List Int:=(List.range (n+1)).map fun j=>sm (fun i=>f.getD i 0*(c^(j-i)*(bin (n-i) (j-i):Int))) (j+1)
theorem Qou (f:List Int) (c:Int) (n:Nat):(trans f c n).length=n+1:=by simp [trans]
theorem Qss (a b:Int): ∀n:Nat,(a*b)^n=a^n*b^n
  |0=>by simp
  |n+1=>by rw [Qos,Qos,Qos,Qss a b n];simp only [Int.mul_comm,Int.mul_left_comm,Int.mul_assoc]
theorem Zbd (c:Int) (f:Nat→Int) (n:Nat):sm (fun i=>f i*c) n=sm f n*c:=by
  rw [Int.mul_comm,←Qd2];exact Qb9 n fun i _=>Int.mul_comm _ _
theorem Qxk (f:List Int) (c:Int) (n:Nat) (x y:Int):hev (trans f c n) x y=sm (fun i=>f.getD i 0*(x^i*(c*x+y)^(n-i))) (n+1):=by
  rw [trans,Q29]
  have h1:sm (fun j=>sm (fun i=>f.getD i 0*(c^(j-i)*(bin (n-i) (j-i):Int))) (j+1)*(x^j*y^(n-j))) (n+1)
      =sm (fun j=>sm (fun i=>f.getD i 0*(c^(j-i)*(bin (n-i) (j-i):Int))*(x^j*y^(n-j))) (j+1)) (n+1):=
    Qb9 _ fun j _=>(Zbd _ _ _).symm
  rw [h1,Q91 (fun i j=>f.getD i 0*(c^(j-i)*(bin (n-i) (j-i):Int))*(x^j*y^(n-j)))]
  refine Qb9 _ fun i hi=> ?_
  have e:n+1-i=(n-i)+1:=by omega
  rw [←Qqo (c*x) y (n-i),e,←Qd2,←Qd2]
  refine Qb9 _ fun k hk=> ?_
  have e1:i+k-i=k:=by omega
  have e2:n-(i+k)=n-i-k:=by omega
  rw [e1,e2,Qss,Int.pow_add]
  simp only [Int.mul_comm,Int.mul_left_comm,Int.mul_assoc]
theorem Zbe {f:List Int} {n:Nat} (h:f.length≤n+1) (x s:Int):sm (fun i=>f.getD i 0*(x^i*s^(n-i))) (n+1)=s^(n+1-f.length)*hev f x s:=by
  rw [Zbb _ h (fun i h1 _=>by rw [List.getD_eq_getElem?_getD,List.getElem?_eq_none h1];simp),Qot,←Qd2]
  refine Qb9 _ fun i hi=> ?_
  have e:n-i=(n+1-f.length)+(f.length-1-i):=by omega
  rw [e,Int.pow_add]
  simp only [Int.mul_comm,Int.mul_left_comm,Int.mul_assoc]
theorem Que {f:List Int} {n:Nat} (h:f.length≤n+1) (c x y:Int):hev (trans f c n) x y=(c*x+y)^(n+1-f.length)*hev f x (c*x+y):=by
  rw [Qxk,Zbe h]
theorem Quf {f:List Int} {n:Nat} (h:f.length=n+1) (c x y:Int):hev (trans f c n) x y=hev f x (c*x+y):=by
  rw [Que (by omega),h,Nat.sub_self,Int.pow_zero,Int.one_mul]
end Go.Dg

namespace Go.Proofs.YtciddhkfbgkejaaDoor
open Go.Vl Go.RowKit Go.Dg
theorem Qms {x y:Int} {B:Nat} (hx:x.natAbs<2^B) (hy:y.natAbs<2^B):(x+y).natAbs<2^(B+1):=by
 rw [Nat.pow_succ];generalize 2^B=K at*;omega
theorem Qz4 {x y:Int} {B C:Nat} (hx:x.natAbs<2^B) (hy:y.natAbs<2^C):(x*y).natAbs<2^(B+C):=by
 rw [Int.natAbs_mul,Nat.pow_add];exact Nat.mul_lt_mul'' hx hy
theorem Zaf {x:Int} (h:x.natAbs<2^65536):(digs 256 x.natAbs).length≤8192:=(Qam (by decide) x.natAbs 8192).2 (Zh9 (k:=8192) h (by decide))
theorem Qjq {n:Int} (h:n.natAbs<2^65536):Qei n= .tup [wPV n,.int .i64 0]:=by
 rw [Qei,if_neg (Nat.not_lt.2 (Qcx 65536 _ h))]
abbrev mB (x:Int):ByteArray:=⟨(magL x.natAbs).toArray⟩
theorem Qb1 {x:Int} (h:x.natAbs<2^65536):(mB x).size≤100000:=by rw [Qk3];have:=Zaf h;omega
theorem Qcn {x:Int} (h:x.natAbs<2^65536):Qbb (decide (x<0)) (mB x).data.toList=true:=Qg3 x (Zaf h)
theorem Qn7 (x:Int):(bnum (mB x).data.toList)=x.natAbs:=by
 have h:=Qba x
 unfold wnum at h
 have h2:=congrArg Int.natAbs h
 rwa [Q2r]at h2
theorem Zjt {x y:Int} (hx:x.natAbs<2^65536) (hy:y.natAbs<2^65536):Qae Tryd.prog 53 [wPV x,wPV y] (Qei (x*y)):=by
 have h:=Zkw (decide (x<0)) (decide (y<0)) (mB x) (mB y) (Qcn hx) (Qcn hy) (Qb1 hx) (Qb1 hy)
 rwa [Qba,Qba]at h
theorem Zju {x y:Int} (hx:x.natAbs<2^65536) (hy:y.natAbs<2^65536):Qae Tryd.prog 54 [wPV x,wPV y] (Qei (x+y)):=by
 have h:=Zks (decide (x<0)) (decide (y<0)) (mB x) (mB y) (Qcn hx) (Qcn hy) (Qb1 hx) (Qb1 hy)
 rwa [Qba,Qba]at h
theorem Zjv {x y:Int} (hx:x.natAbs<2^65536) (hy:y.natAbs<2^65536):Qae Tryd.prog 39 [wPV x,wPV y] (Qei ((Nat.gcd x.natAbs y.natAbs:Nat):Int)):=by
 have h:=Zkx (decide (x<0)) (decide (y<0)) (mB x) (mB y) (Qcn hx) (Qcn hy) (Qb1 hx) (Qb1 hy)
 rwa [Qn7,Qn7]at h
theorem Qty {x:Int} (hx:x.natAbs<2^65536):Qae Tryd.prog 44 [wPV x] (Qev x):=by
 have h:=Zku (decide (x<0)) (mB x) (Qcn hx) (Qb1 hx)
 rwa [Qba]at h
theorem Qvr {x y:Int} (hx:x.natAbs<2^65536) (hy:y.natAbs<2^65536):Qae Tryd.prog 38 [wPV x,wPV y] (.int .i64 (x-y).sign):=by
 have h:=Qwr (decide (x<0)) (decide (y<0)) (mB x) (mB y) (Qcn hx) (Qcn hy) (Qb1 hx) (Qb1 hy)
 rwa [Qba,Qba]at h
theorem Zjw {x:Int} (h:x≠0):(mB x).data.toList≠ []:=fun e=>h ((Qju x).1 e)
theorem Zjx {x y:Int} (hx:x.natAbs<2^65536) (hy:y.natAbs<2^65536) (h0:y≠0):Qae Tryd.prog 86 [wPV x,wPV y] (Q9q x y):=by
 have h:=Zkz (decide (x<0)) (decide (y<0)) (mB x) (mB y) (Qcn hx) (Qcn hy) (Zjw h0) (Qb1 hx) (Qb1 hy)
 rwa [Qba,Qba]at h
theorem Qp7 {x y:Int} (hx:x.natAbs<2^65536) (hy:y.natAbs<2^65536) (h0:0<y):vRat (decide (x<0)) (mB x) (decide (y<0)) (mB y)=true:=by
 unfold vRat
 rw [Qcn hx,Qcn hy,Qjt (Zjw (show y≠0 by omega))]
 have:decide (y<0)=false:=by simp;omega
 rw [this];rfl
theorem Qru {a b c d:Int} (ha:a.natAbs<2^65536) (hb:b.natAbs<2^65536) (hc:c.natAbs<2^65536) (hd:d.natAbs<2^65536) (b0:0<b) (d0:0<d):
  Qae Tryd.prog 41 [Qda a b,Qda c d] (outQ (Q9s a b c d) (Q9t a b c d)):=by
 have h:=Qr6 (decide (a<0)) (decide (b<0)) (decide (c<0)) (decide (d<0)) (mB a) (mB b) (mB c) (mB d) (Qp7 ha hb b0) (Qp7 hc hd d0) (Qb1 ha) (Qb1 hb) (Qb1 hc) (Qb1 hd)
 rwa [Qba,Qba,Qba,Qba]at h
theorem Qrv {a b c d:Int} (ha:a.natAbs<2^65536) (hb:b.natAbs<2^65536) (hc:c.natAbs<2^65536) (hd:d.natAbs<2^65536) (b0:0<b) (d0:0<d):
  Qae Tryd.prog 42 [Qda a b,Qda c d] (outQ (lowN (a*c) (b*d)) (lowD (a*c) (b*d))):=by
 have h:=Qr7 (decide (a<0)) (decide (b<0)) (decide (c<0)) (decide (d<0)) (mB a) (mB b) (mB c) (mB d) (Qp7 ha hb b0) (Qp7 hc hd d0) (Qb1 ha) (Qb1 hb) (Qb1 hc) (Qb1 hd)
 rwa [Qba,Qba,Qba,Qba]at h
theorem Q4v {a b:Int} (ha:a.natAbs<2^65536) (hb:b.natAbs<2^65536) (b0:0<b):Qae Tryd.prog 43 [Qda a b] (Qei (a/b)):=by
 have h:=Q9u (decide (a<0)) (decide (b<0)) (mB a) (mB b) (Qp7 ha hb b0) (Qb1 ha) (Qb1 hb)
 rwa [Qba,Qba]at h
end Go.Proofs.YtciddhkfbgkejaaDoor

namespace Go.Proofs.YtciddhkfbgkejaaDoor
open Go.Vl Go.RowKit Go.Dg
theorem Zjy (a b:ByteArray):(a==b)=(a.data==b.data):=rfl
theorem Zcy {α:Type} {p:α→Bool} {l:List α} {i:Nat} (hi:i<l.length) (hp:p l[i]=false):l.all p=false:=by
 rw [List.all_eq_false];exact⟨l[i],List.getElem_mem hi,by simp [hp]⟩
theorem Qc2 {α:Type} (l:List α) (i:Nat) (hi:i<l.length):l.take (i+1)=l.take i++[l[i]]:=by rw [List.take_add_one];simp [hi]
theorem ltT {i n:Nat} (h:i<n):((i:Int)<(n:Int))=True:=by simp only [eq_iff_iff,iff_true];omega
theorem ltF {i n:Nat} (h: ¬i<n):((i:Int)<(n:Int))=False:=by simp only [eq_iff_iff,iff_false];omega
theorem nnT (i:Nat):((0:Int)≤(i:Int))=True:=by simp
end Go.Proofs.YtciddhkfbgkejaaDoor

namespace Go.Dg
def fitQ (k:Nat) (q:Rat):Prop:=q.num.natAbs<2^k∧q.den<2^k
theorem fitQ.mono {k l:Nat} {q:Rat} (h:fitQ k q) (hk:k≤l):fitQ l q:=
 ⟨Nat.lt_of_lt_of_le h.1 (Nat.pow_le_pow_right (by decide) hk),Nat.lt_of_lt_of_le h.2 (Nat.pow_le_pow_right (by decide) hk)⟩
theorem Q9y {k:Nat} {n:Int} {d:Nat} (h1:n.natAbs<2^k) (h2:d<2^k) (hd:d≠0):fitQ k (mkRat n d):=by
 refine⟨?_,?_⟩
 ·rw [Rat.num_mkRat,if_neg hd]
  exact Nat.lt_of_le_of_lt (Int.natAbs_ediv_le_natAbs _ _) h1
 ·rw [Rat.den_mkRat,if_neg hd]
  exact Nat.lt_of_le_of_lt (Nat.div_le_self _ _) h2
theorem Qmx {k:Nat} {n d:Int} (h1:n.natAbs<2^k) (h2:d.natAbs<2^k) (hd:d≠0):fitQ k ((n:Rat)/(d:Rat)):=by
 rw [←Rat.divInt_eq_div]
 refine⟨?_,?_⟩
 ·rw [Rat.num_divInt]
  refine Nat.lt_of_le_of_lt (Int.natAbs_ediv_le_natAbs _ _) (Nat.lt_of_le_of_lt ?_ h1)
  rw [Int.natAbs_mul]
  have:d.sign.natAbs≤1:=by
    rcases Int.lt_trichotomy d 0 with h|h|h
    ·rw [Int.sign_eq_neg_one_of_neg h];decide
    ·exact absurd h hd
    ·rw [Int.sign_eq_one_of_pos h];decide
  calc d.sign.natAbs*n.natAbs≤1*n.natAbs:=Nat.mul_le_mul_right _ this
   _=n.natAbs:=Nat.one_mul _
 ·rw [Rat.den_divInt,if_neg hd]
  exact Nat.lt_of_le_of_lt (Nat.div_le_self _ _) h2
theorem Qcr {k l:Nat} {x y:Rat} (h1:fitQ k x) (h2:fitQ l y):fitQ (k+l) (x*y):=by
 rw [Rat.mul_def']
 refine Q9y ?_ ?_ (Nat.mul_ne_zero x.den_nz y.den_nz)
 ·rw [Int.natAbs_mul,Nat.pow_add];exact Nat.mul_lt_mul'' h1.1 h2.1
 ·rw [Nat.pow_add];exact Nat.mul_lt_mul'' h1.2 h2.2
theorem Zax {k l:Nat} {x y:Rat} {n:Int} (hn:n.natAbs≤x.num.natAbs*y.den+y.num.natAbs*x.den) (h1:fitQ k x) (h2:fitQ l y):fitQ (k+l+1) (mkRat n (x.den*y.den)):=by
 refine Q9y ?_ ?_ (Nat.mul_ne_zero x.den_nz y.den_nz)
 ·have e1:x.num.natAbs*y.den<2^(k+l):=by rw [Nat.pow_add];exact Nat.mul_lt_mul'' h1.1 h2.2
  have e2:y.num.natAbs*x.den<2^(k+l):=by rw [Nat.pow_add,Nat.mul_comm (2^k)];exact Nat.mul_lt_mul'' h2.1 h1.2
  rw [Nat.pow_succ];omega
 ·have e2:x.den*y.den<2^(k+l):=by rw [Nat.pow_add];exact Nat.mul_lt_mul'' h1.2 h2.2
  rw [Nat.pow_succ];omega
theorem Qfh {k l:Nat} {x y:Rat} (h1:fitQ k x) (h2:fitQ l y):fitQ (k+l+1) (x+y):=by
 rw [Rat.add_def']
 refine Zax ?_ h1 h2
 refine Nat.le_trans (Int.natAbs_add_le _ _) ?_
 rw [Int.natAbs_mul,Int.natAbs_mul];simp
def qs (f:Nat→Rat):Nat→Rat
 |0=>0
 |n+1=>qs f n+f n
theorem Qse {k:Nat} {f:Nat→Rat}: ∀(n:Nat),(∀i,i<n→fitQ k (f i))→fitQ (n*(k+1)+1) (qs f n)
 |0,_=>⟨by show(0:Int).natAbs<2^(0*(k+1)+1);simp,by show 1<2^(0*(k+1)+1);simp⟩
 |n+1,h=>(Qfh (Qse n fun i hi=>h i (by omega)) (h n (Nat.lt_succ_self _))).mono (by rw [Nat.succ_mul];omega)
def upQ (x:Rat):Int:= -((-x).num/((-x).den:Int))
theorem Qc5 (x:Rat):0≤x*x:=by
 rcases Rat.le_total (a:=0) (b:=x)with h|h
 ·exact Rat.mul_nonneg h h
 ·have:=Rat.neg_le_neg h
  have:=Rat.mul_nonneg (a:= -x) (b:= -x) (by simpa using this) (by simpa using this)
  grind
theorem Qgg {x K:Rat} (h1: -K≤x) (h2:x≤K):x*x≤K*K:=by
 have e1:0≤K-x:=by grind
 have e2:0≤K+x:=by grind
 have:=Rat.mul_nonneg e1 e2
 grind
theorem Qok (x1 x2 x3 x4 x5:Rat):(x1+x2+x3+x4+x5)*(x1+x2+x3+x4+x5)≤
  x1*x1+x2*x2*(4/3)+x3*x3*(9/5)+x4*x4*(16/7)+x5*x5*(25/9)+2*(x1*x2+x1*x3+x1*x4+x1*x5)+x2*x3*3+x2*x4*(16/5)+x2*x5*(10/3)
   +x3*x4*4+x3*x5*(30/7)+x4*x5*5:=by
 have h1:=Qc5 (2*x2+3*x3+18/5*x4+4*x5)
 have h2:=Qc5 (3*x3+6*x4+60/7*x5)
 have h3:=Qc5 (4*x4+10*x5)
 have h4:=Qc5 (5*x5)
 grind
theorem Zhs {a1 d0 K:Rat} (e0:d0=a1*1) (h0: -K≤d0∧d0≤K):a1*a1*1≤1*(K*K):=by
 have s0:=Qgg h0.1 h0.2
 have key:a1*a1*1+(0)=1*(d0*d0):=by subst e0;grind
 clear e0 h0
 grind
theorem Zht {a1 a2 d0 d1 K:Rat} (e0:d0=a1*(1/2)) (e1:d1=a1*(1/2)+a2*1) (h0: -K≤d0∧d0≤K) (h1: -K≤d1∧d1≤K):a1*a1*1+a1*a2*1+a2*a1*1+a2*a2*(4/3)≤4*(K*K):=by
 have s0:=Qgg h0.1 h0.2
 have s1:=Qgg h1.1 h1.2
 have q01:=Qc5 (d0-d1)
 have key:a1*a1*1+a1*a2*1+a2*a1*1+a2*a2*(4/3)+((2/3)*((d0-d1)*(d0-d1)))=2*(d0*d0+d1*d1):=by subst e0 e1;grind
 clear e0 h0 e1 h1
 grind
theorem Zhu {a1 a2 a3 d0 d1 d2 K:Rat} (e0:d0=a1*(1/3)) (e1:d1=a1*(1/3)+a2*(1/3)) (e2:d2=a1*(1/3)+a2*(2/3)+a3*1) (h0: -K≤d0∧d0≤K) (h1: -K≤d1∧d1≤K) (h2: -K≤d2∧d2≤K):a1*a1*1+a1*a2*1+a1*a3*1+a2*a1*1+a2*a2*(4/3)+a2*a3*(3/2)+a3*a1*1+a3*a2*(3/2)+a3*a3*(9/5)≤9*(K*K):=by
 have s0:=Qgg h0.1 h0.2
 have s1:=Qgg h1.1 h1.2
 have s2:=Qgg h2.1 h2.2
 have q01:=Qc5 (d0-d1)
 have q02:=Qc5 (d0-d2)
 have q12:=Qc5 (d1-d2)
 have key:a1*a1*1+a1*a2*1+a1*a3*1+a2*a1*1+a2*a2*(4/3)+a2*a3*(3/2)+a3*a1*1+a3*a2*(3/2)+a3*a3*(9/5)+((9/10)*((d0-d1)*(d0-d1))+(3/10)*((d0-d2)*(d0-d2))+(9/10)*((d1-d2)*(d1-d2)))=3*(d0*d0+d1*d1+d2*d2):=by subst e0 e1 e2;grind
 clear e0 h0 e1 h1 e2 h2
 grind
theorem Zhv {a1 a2 a3 a4 d0 d1 d2 d3 K:Rat} (e0:d0=a1*(1/4)) (e1:d1=a1*(1/4)+a2*(1/6)) (e2:d2=a1*(1/4)+a2*(1/3)+a3*(1/4)) (e3:d3=a1*(1/4)+a2*(1/2)+a3*(3/4)+a4*1) (h0: -K≤d0∧d0≤K) (h1: -K≤d1∧d1≤K) (h2: -K≤d2∧d2≤K) (h3: -K≤d3∧d3≤K):a1*a1*1+a1*a2*1+a1*a3*1+a1*a4*1+a2*a1*1+a2*a2*(4/3)+a2*a3*(3/2)+a2*a4*(8/5)+a3*a1*1+a3*a2*(3/2)+a3*a3*(9/5)+a3*a4*2+a4*a1*1+a4*a2*(8/5)+a4*a3*2+a4*a4*(16/7)≤16*(K*K):=by
 have s0:=Qgg h0.1 h0.2
 have s1:=Qgg h1.1 h1.2
 have s2:=Qgg h2.1 h2.2
 have s3:=Qgg h3.1 h3.2
 have q01:=Qc5 (d0-d1)
 have q02:=Qc5 (d0-d2)
 have q03:=Qc5 (d0-d3)
 have q12:=Qc5 (d1-d2)
 have q13:=Qc5 (d1-d3)
 have q23:=Qc5 (d2-d3)
 have key:a1*a1*1+a1*a2*1+a1*a3*1+a1*a4*1+a2*a1*1+a2*a2*(4/3)+a2*a3*(3/2)+a2*a4*(8/5)+a3*a1*1+a3*a2*(3/2)+a3*a3*(9/5)+a3*a4*2+a4*a1*1+a4*a2*(8/5)+a4*a3*2+a4*a4*(16/7)+((8/7)*((d0-d1)*(d0-d1))+(16/35)*((d0-d2)*(d0-d2))+(4/35)*((d0-d3)*(d0-d3))+(36/35)*((d1-d2)*(d1-d2))+(16/35)*((d1-d3)*(d1-d3))+(8/7)*((d2-d3)*(d2-d3)))=4*(d0*d0+d1*d1+d2*d2+d3*d3):=by subst e0 e1 e2 e3;grind
 clear e0 h0 e1 h1 e2 h2 e3 h3
 grind
theorem Zhw {a1 a2 a3 a4 a5 d0 d1 d2 d3 d4 K:Rat} (e0:d0=a1*(1/5)) (e1:d1=a1*(1/5)+a2*(1/10)) (e2:d2=a1*(1/5)+a2*(1/5)+a3*(1/10)) (e3:d3=a1*(1/5)+a2*(3/10)+a3*(3/10)+a4*(1/5)) (e4:d4=a1*(1/5)+a2*(2/5)+a3*(3/5)+a4*(4/5)+a5*1) (h0: -K≤d0∧d0≤K) (h1: -K≤d1∧d1≤K) (h2: -K≤d2∧d2≤K) (h3: -K≤d3∧d3≤K) (h4: -K≤d4∧d4≤K):a1*a1*1+a1*a2*1+a1*a3*1+a1*a4*1+a1*a5*1+a2*a1*1+a2*a2*(4/3)+a2*a3*(3/2)+a2*a4*(8/5)+a2*a5*(5/3)+a3*a1*1+a3*a2*(3/2)+a3*a3*(9/5)+a3*a4*2+a3*a5*(15/7)+a4*a1*1+a4*a2*(8/5)+a4*a3*2+a4*a4*(16/7)+a4*a5*(5/2)+a5*a1*1+a5*a2*(5/3)+a5*a3*(15/7)+a5*a4*(5/2)+a5*a5*(25/9)≤25*(K*K):=by
 have s0:=Qgg h0.1 h0.2
 have s1:=Qgg h1.1 h1.2
 have s2:=Qgg h2.1 h2.2
 have s3:=Qgg h3.1 h3.2
 have s4:=Qgg h4.1 h4.2
 have q01:=Qc5 (d0-d1)
 have q02:=Qc5 (d0-d2)
 have q03:=Qc5 (d0-d3)
 have q04:=Qc5 (d0-d4)
 have q12:=Qc5 (d1-d2)
 have q13:=Qc5 (d1-d3)
 have q14:=Qc5 (d1-d4)
 have q23:=Qc5 (d2-d3)
 have q24:=Qc5 (d2-d4)
 have q34:=Qc5 (d3-d4)
 have key:a1*a1*1+a1*a2*1+a1*a3*1+a1*a4*1+a1*a5*1+a2*a1*1+a2*a2*(4/3)+a2*a3*(3/2)+a2*a4*(8/5)+a2*a5*(5/3)+a3*a1*1+a3*a2*(3/2)+a3*a3*(9/5)+a3*a4*2+a3*a5*(15/7)+a4*a1*1+a4*a2*(8/5)+a4*a3*2+a4*a4*(16/7)+a4*a5*(5/2)+a5*a1*1+a5*a2*(5/3)+a5*a3*(15/7)+a5*a4*(5/2)+a5*a5*(25/9)+((25/18)*((d0-d1)*(d0-d1))+(25/42)*((d0-d2)*(d0-d2))+(25/126)*((d0-d3)*(d0-d3))+(5/126)*((d0-d4)*(d0-d4))+(25/21)*((d1-d2)*(d1-d2))+(40/63)*((d1-d3)*(d1-d3))+(25/126)*((d1-d4)*(d1-d4))+(25/21)*((d2-d3)*(d2-d3))+(25/42)*((d2-d4)*(d2-d4))+(25/18)*((d3-d4)*(d3-d4)))=5*(d0*d0+d1*d1+d2*d2+d3*d3+d4*d4):=by subst e0 e1 e2 e3 e4;grind
 clear e0 h0 e1 h1 e2 h2 e3 h3 e4 h4
 grind
end Go.Dg

namespace Go.Proofs.YtciddhkfbgkejaaDoor
open Go.Vl Go.RowKit Go.Dg
theorem Zce {n d:Int} (hd:d≠0):lowN n d=((n:Rat)/(d:Rat)).num∧lowD n d=(((n:Rat)/(d:Rat)).den:Int):=by
 rw [←Rat.divInt_eq_div,Rat.num_divInt,Rat.den_divInt,if_neg hd]
 have hc:d.gcd n=Nat.gcd n.natAbs d.natAbs:=Nat.gcd_comm _ _
 rw [hc]
 have d1:((Nat.gcd n.natAbs d.natAbs:Nat):Int)∣n:=Int.ofNat_dvd_left.2 (Nat.gcd_dvd_left _ _)
 have d2:((Nat.gcd n.natAbs d.natAbs:Nat):Int)∣d:=Int.ofNat_dvd_left.2 (Nat.gcd_dvd_right _ _)
 unfold lowN lowD gN
 generalize Nat.gcd n.natAbs d.natAbs=g at*
 by_cases h:d<0
 ·rw [if_pos h,Int.sign_eq_neg_one_of_neg h,Int.ediv_neg,Int.ediv_neg,←Int.neg_ediv_of_dvd d1,←Int.neg_ediv_of_dvd d2]
  refine⟨by rw [Int.neg_mul,Int.one_mul],?_⟩
  rw [Int.natCast_ediv]
  congr 1
  omega
 ·rw [if_neg h,Int.sign_eq_one_of_pos (by omega)]
  refine⟨by rw [Int.one_mul],?_⟩
  rw [Int.natCast_ediv]
  congr 1
  omega
def ratQ (q:Rat):PV:=Qda q.num (q.den:Int)
theorem Qnx {n d:Int} {k:Nat} (hd:d≠0) (h:fitQ k ((n:Rat)/(d:Rat))) (hk:k≤65536):outQ (lowN n d) (lowD n d)= .tup [ratQ ((n:Rat)/(d:Rat)),.int .i64 0]:=by
 obtain⟨e1,e2⟩:=Zce (n:=n) hd
 rw [e1,e2]
 refine Qmw ?_
 unfold big
 have h1:=Qcx k _ h.1
 have h2:=Qcx k _ h.2
 simp only [Int.natAbs_natCast,Bool.or_eq_false_iff,decide_eq_false_iff_not]
 omega
theorem Qzh {n:Int} (h1: -9223372036854775808≤n) (h2:n≤9223372036854775807):n.natAbs<2^64:=by omega
theorem Zmr (n d:Int) (h1: -9223372036854775808≤n) (h2:n≤9223372036854775807) (h3: -9223372036854775808≤d) (h4:d≤9223372036854775807) (h0:d≠0):
  Qae Tryd.prog 40 [.int .i64 n,.int .i64 d] (.tup [ratQ ((n:Rat)/(d:Rat)),.int .i64 0]):=by
 have h:=Qwt n d h1 h2 h3 h4 h0
 rwa [Qnx h0 (Qmx (Qzh h1 h2) (Qzh h3 h4) h0) (by decide)]at h
theorem den0 (x:Rat):(0:Int)<(x.den:Int):=by have:=x.den_pos;omega
theorem Q98 (x y:Rat):(x.den:Int)*(y.den:Int)≠0:=Int.ne_of_gt (Int.mul_pos (den0 x) (den0 y))
theorem Zcf (x y:Rat):((x.num*(y.den:Int)+y.num*(x.den:Int):Int):Rat)/((((x.den:Int)*(y.den:Int):Int)):Rat)=x+y:=by
 rw [Rat.add_def',Rat.mkRat_eq_div,←Rat.intCast_natCast,Int.natCast_mul]
theorem Zcg (x y:Rat):((x.num*y.num:Int):Rat)/((((x.den:Int)*(y.den:Int):Int)):Rat)=x*y:=by
 rw [Rat.mul_def',Rat.mkRat_eq_div,←Rat.intCast_natCast,Int.natCast_mul]
theorem Qzi {k:Nat} {x:Rat} (h:fitQ k x) (hk:k≤65536):x.num.natAbs<2^65536∧((x.den:Int)).natAbs<2^65536:=
 ⟨Qaw h.1 hk,by rw [Int.natAbs_natCast];exact Qaw h.2 hk⟩
theorem Zi7 {k l:Nat} {x y:Rat} (hx:fitQ k x) (hy:fitQ l y) (hk:k+l+1≤65536):Qae Tryd.prog 41 [ratQ x,ratQ y] (.tup [ratQ (x+y),.int .i64 0]):=by
 obtain⟨a1,a2⟩:=Qzi hx (by omega)
 obtain⟨b1,b2⟩:=Qzi hy (by omega)
 have h:=Qru a1 a2 b1 b2 (den0 x) (den0 y)
 unfold Q9s Q9t at h
 have e:=Zcf x y
 rw [Qnx (k:=k+l+1) (Q98 x y) (by rw [e];exact Qfh hx hy) hk,e]at h
 exact h
theorem Qzj {k l:Nat} {x y:Rat} (hx:fitQ k x) (hy:fitQ l y) (hk:k+l≤65536):Qae Tryd.prog 42 [ratQ x,ratQ y] (.tup [ratQ (x*y),.int .i64 0]):=by
 obtain⟨a1,a2⟩:=Qzi hx (by omega)
 obtain⟨b1,b2⟩:=Qzi hy (by omega)
 have h:=Qrv a1 a2 b1 b2 (den0 x) (den0 y)
 have e:=Zcg x y
 rw [Qnx (k:=k+l) (Q98 x y) (by rw [e];exact Qcr hx hy) hk,e]at h
 exact h
theorem Q4g {k:Nat} {x:Rat} (hx:fitQ k x) (hk:k+1≤65536):Qae Tryd.prog 43 [ratQ x] (.tup [wPV (x.num/(x.den:Int)),.int .i64 0]):=by
 obtain⟨a1,a2⟩:=Qzi hx (by omega)
 have h:=Q4v a1 a2 (den0 x)
 rwa [Qjq (Nat.lt_of_le_of_lt (Int.natAbs_ediv_le_natAbs _ _) a1)]at h
end Go.Proofs.YtciddhkfbgkejaaDoor

namespace Go.Dg
theorem Q92 {f:Nat→Int} {C:Nat}: ∀(m:Nat),(∀i,i<m→(f i).natAbs≤C)→(sm f m).natAbs≤m*C
 |0,_=>by simp [sm]
 |m+1,h=>by
  have h1:=Q92 m (fun i hi=>h i (by omega))
  have h2:=h m (Nat.lt_succ_self m)
  rw [sm,Nat.succ_mul]
  omega
theorem Q3a {xs:List Int} {B:Nat} (h: ∀x∈xs,x.natAbs<2^B) (i:Nat):(xs.getD i 0).natAbs<2^B:=by
 rw [List.getD_eq_getElem?_getD]
 cases e:xs[i]? with
 |none=>exact Nat.pow_pos (by decide)
 |some x=>exact h x (List.mem_of_getElem? e)
end Go.Dg

namespace Go.Proofs.YtciddhkfbgkejaaDoor
open Go.Vl Go.RowKit Go.Dg
end Go.Proofs.YtciddhkfbgkejaaDoor

namespace Go.Vl
def Qil:PV→PV
 | .nilS=> .slc []
 |v=>v
def Zap:PV→PV
 | .agg cs=> .agg (cs.map Qil)
 |v=>Qil v
theorem Qjw (v:PV):(Zap v).cells=v.cells.map Qil:=by
 cases v<;>rfl
theorem Qlw (l:List PV):(l.map Zap).flatMap PV.cells=(l.flatMap PV.cells).map Qil:=by
 induction l with
 |nil=>rfl
 |cons v l ih=>simp only [List.map_cons,List.flatMap_cons,List.map_append,Qjw,ih]
theorem Rep.up {w:World} {im:Im} {v:PV} {u:Value} (h:Rep w im v u):Rep w im (Qil v) u:=by
 cases v with
 |nilS=>cases h;exact .slcNil 0 (Nat.zero_le _)
 |_=>exact h
theorem LR.up {w:World} {im:Im} {ρ:Rho} {v:PV} {u:Value} (h:LR w im ρ v u):LR w im ρ (Qil v) u:=by
 cases v with
 |nilS=>rw [h.nilS_inv];exact .ext _ _ (.slcNil 0 (Nat.zero_le _))
 |_=>exact h
theorem RepL.up {w:World} {im:Im}: ∀{vs:List PV} {us:List Value},RepL w im vs us→RepL w im (vs.map Qil) us
 |_,_,.nil=> .nil
 |_,_,.cons _ _ _ _ h t=> .cons _ _ _ _ h.up t.up
theorem LRL.up {w:World} {im:Im} {ρ:Rho}: ∀{vs:List PV} {us:List Value},LRL w im ρ vs us→LRL w im ρ (vs.map Qil) us
 |_,_,.nil=> .nil
 |_,_,.cons _ _ _ _ h t=> .cons _ _ _ _ h.up t.up
theorem Qc7.up {own:Nat→Prop} {w:World} {im:Im} {ρ:Rho} {B:Box} {x:Option Nat} (h:Qc7 own w im ρ B x):Qc7 own w im ρ {B with els:=B.els.map Zap} x:=by
 cases x with
 |none=>obtain⟨h1,h2,h3,h4⟩:=h;exact⟨by simp [h1],h2,h3,h4⟩
 |some g=>
  obtain⟨h1,h2,h3,h4,cur,us,rest,h5,h6,h7,h8,h9,h10,h11⟩:=h
  refine⟨h1,by simpa using h2,h3,?_,cur,us,rest,h5,h6,?_,?_,h9,h10,h11⟩
  ·intro e he
   obtain⟨v,hv,rfl⟩:=List.mem_map.1 he
   rw [Qjw,List.length_map];exact h4 v hv
  ·simp only [Qlw];exact h7.up
  ·intro ha;simp only [Qlw];exact(h8 ha).up
end Go.Vl

namespace Go.Proofs.YtciddhkfbgkejaaDoor
open Go.Vl Go.RowKit Go.Dg
theorem Qk9 {xs:List Int} {i:Nat} (h:i<xs.length):xs.getD i 0=xs[i]:=by rw [List.getD_eq_getElem?_getD,List.getElem?_eq_getElem h];rfl
end Go.Proofs.YtciddhkfbgkejaaDoor

namespace Go.Dg
def ev:List Int→Int→Int
 | [],_=>0
 |c::r,u=>c+u*ev r u
theorem Qxl (F:Nat→Int) (N i:Nat):((List.range N).map F).getD i 0=if i<N then F i else 0:=by
 rw [List.getD_eq_getElem?_getD,List.getElem?_map]
 by_cases h:i<N
 ·simp [h]
 ·rw [List.getElem?_eq_none (by simpa using h),if_neg h];rfl
def conv (p q:List Int):List Int:=(List.range (p.length+q.length-1)).map fun i=>sm (fun k=>p.getD k 0*q.getD (i-k) 0) (i+1)
def bd (B:Nat) (p:List Int):Prop:= ∀x∈p,x.natAbs<2^B
theorem Q93 {B:Nat} {p:List Int} (h:bd B p) (i:Nat):(p.getD i 0).natAbs<2^B:=Q3a h i
theorem Qxm {f:Nat→Int} {B m:Nat} (hm:m≤64) (h: ∀i,i<m→(f i).natAbs<2^B):(sm f m).natAbs<2^(B+7):=by
 have h1:=Q92 m (fun i hi=>Nat.le_of_lt (h i hi))
 have h2:m*2^B≤64*2^B:=Nat.mul_le_mul_right _ hm
 have hp:0<2^B:=Nat.pow_pos (by decide)
 rw [Nat.pow_add,show(2:Nat)^7=128 from rfl]
 omega
end Go.Dg

namespace Go.Proofs.YtciddhkfbgkejaaDoor
open Go.Vl Go.RowKit Go.Dg
theorem Qjr {n:Nat} (h:0<n) (hn:n<9223372036854775808):IntKind.i64.wrap ((n:Int)-1)=((n-1:Nat):Int):=by rw [Qai (by omega) (by omega)];omega
def Qa9 (l:List Int):PV:= .slc (l.map (PV.int .i64))
theorem Qe6 (l:List Int) (i:Nat) (h:i<l.length):(l.map (PV.int .i64))[i]? =some (.int .i64 l[i]):=by rw [List.getElem?_map,List.getElem?_eq_getElem h];rfl
theorem map_take {α β:Type} (f:α→β) (l:List α) (i:Nat) (hi:i<l.length):(l.take (i+1)).map f=(l.take i).map f++[f l[i]]:=by rw [Qc2 l i hi,List.map_append];rfl
end Go.Proofs.YtciddhkfbgkejaaDoor

namespace Go.Dg
theorem Qf5 {d:Int} {D:Nat} (h:d.natAbs<2^D) (k:Nat):(d^k).natAbs<2^(D*k+1):=by
 rw [Int.natAbs_pow]
 have h1:d.natAbs^k≤(2^D)^k:=Nat.pow_le_pow_left (Nat.le_of_lt h) k
 rw [←Nat.pow_mul]at h1
 rw [Nat.pow_succ]
 have:=Nat.pow_pos (n:=D*k) (show 0<2 by decide)
 omega
end Go.Dg

namespace Go.Proofs.YtciddhkfbgkejaaDoor
open Go.Vl Go.RowKit Go.Dg
end Go.Proofs.YtciddhkfbgkejaaDoor

namespace Go.Dg

structure Sg where
  f:Int
  t:Int
  o:Int
  x:List Int
  y:List Int
  z:List Int

/-- The weight of a coefficient in a control value,times 60. -/
def cw (n j k:Nat):Nat:=60/bin n k*bin j k
def ctl (c:List Int) (j:Nat):Int:=sm (fun k=>c.getD k 0*(cw (c.length-1) j k:Int)) (j+1)
/-- The first j control values are within the bounds. -/
def Qel (c:List Int) (o:Int) (j:Nat):Bool:=(List.range j).all fun j=>decide (((ctl c j).natAbs:Int)≤62914560*o)
def Qov (c:List Int):Bool:=decide (1≤c.length)&&(decide (c.length≤6)&&(decide (c.length≤1)|| !(c.getD (c.length-1) 0==0)))
def axOK (c:List Int) (o:Int):Bool:=Qov c&&Qel c o c.length
def gcdL (g:Nat) (c:List Int):Nat:=c.foldl (fun g x=>Nat.gcd g x.natAbs) g
def Sg.ax (s:Sg):List (List Int):=[s.x,s.y,s.z]
def rngS (s:Sg):Bool:=decide (0≤s.f)&&(decide (s.f<s.t)&&(decide (s.t≤3600000)&&(decide (1≤s.o)&&decide (s.o≤4294967296))))
def Qbd (s:Sg):Bool:=rngS s&&((s.ax.all fun c=>axOK c s.o)&&(s.ax.foldl gcdL s.o.natAbs==1))

theorem Qj4 (g:Nat) (c:List Int) (x:Int):gcdL g (c++[x])=Nat.gcd (gcdL g c) x.natAbs:=by simp [gcdL]
theorem Qm5 {g:Nat} (c:List Int) {K:Nat} (hg:g<K) (hc: ∀x∈c,x.natAbs<K):gcdL g c<K:=by
  induction c generalizing g with
  |nil=>exact hg
  |cons x c ih=>
    refine ih (g:=Nat.gcd g x.natAbs) ?_ fun y hy=>hc y (by simp [hy])
    rcases Nat.eq_zero_or_pos g with h|h
    · subst h;rw [Nat.gcd_zero_left];exact hc x (by simp)
    · exact Nat.lt_of_le_of_lt (Nat.le_of_dvd h (Nat.gcd_dvd_left _ _)) hg
theorem Qf4 (c:List Int) (o:Int) (j:Nat):Qel c o (j+1)=(Qel c o j&&decide (((ctl c j).natAbs:Int)≤62914560*o)):=by
  simp [Qel,List.range_succ]
theorem Q3b {c:List Int} {o:Int} {j m:Nat} (h:Qel c o j=false) (hm:j≤m):Qel c o m=false:=by
  induction m with
  |zero=>
        obtain rfl:j=0:=by omega
        exact h
  |succ m ih=>
    rw [Qf4]
    by_cases e:j=m+1
    · subst e;rw [Qf4]at h;exact h
    · rw [ih (by omega)];rfl
theorem Zia (n j k:Nat) (hj:j≤5):cw n j k≤1920:=by
  unfold cw
  have h1:60/bin n k≤60:=Nat.div_le_self _ _
  have h2:=Qh6 j k
  have h3:2^j≤2^5:=Nat.pow_le_pow_right (by decide) hj
  have h4:=Nat.mul_le_mul h1 (Nat.le_trans h2 h3)
  omega
theorem Qm6 {c:List Int} {B n j:Nat} (hc:bd B c) (hj:j≤5) (m:Nat) (hm:m≤6):(sm (fun k=>c.getD k 0*(cw n j k:Int)) m).natAbs<2^(B+11+7):=by
  refine Qxm (by omega) fun i hi=> ?_
  rw [Int.natAbs_mul,Nat.pow_add]
  refine Nat.mul_lt_mul'' (Q93 hc i) ?_
  rw [Int.natAbs_natCast]
  have:=Zia n j i hj
  omega
/-- A coordinate at a/d,times the denominator to the power of 5. -/
def plcT (c:List Int) (a d:Int) (k:Nat):Int:=c.getD k 0*(a^k*d^(5-k))
def plc (c:List Int) (a d:Int):Int:=sm (plcT c a d) c.length
def plP (s:Sg) (a d:Int) (i:Nat):Int:=plc (s.ax.getD i []) a d
def plG (s:Sg) (a d:Int) (i:Nat):Nat:=gcdL (s.o*d^5).natAbs ((List.range i).map (plP s a d))
def at3 (P:Nat→Int) (i m:Nat):Int:=if m<i then P m else 0
theorem Qew (s:Sg) (a d:Int) (i:Nat):plG s a d (i+1)=Nat.gcd (plG s a d i) (plP s a d i).natAbs:=by
  unfold plG;rw [List.range_succ,List.map_append];exact Qj4 _ _ _
theorem Qm7 {c:List Int} {a d:Int} {B:Nat} (hc:bd B c) (ha:a.natAbs<2^B) (hd:d.natAbs<2^B) (k:Nat) (hk:k≤5):
    (a^k).natAbs<2^(B*5+1)∧(d^(5-k)).natAbs<2^(B*5+1)∧(a^k*d^(5-k)).natAbs<2^(B*5+1+(B*5+1))∧(plcT c a d k).natAbs<2^(B+(B*5+1+(B*5+1))):=by
  have h1:(a^k).natAbs<2^(B*5+1):=Nat.lt_of_lt_of_le (Qf5 ha k) (Nat.pow_le_pow_right (by decide) (by have:=Nat.mul_le_mul_left B hk;omega))
  have h2:(d^(5-k)).natAbs<2^(B*5+1):=Nat.lt_of_lt_of_le (Qf5 hd (5-k)) (Nat.pow_le_pow_right (by decide) (by have:=Nat.mul_le_mul_left B (show 5-k≤5 by omega);omega))
  have h3:(a^k*d^(5-k)).natAbs<2^(B*5+1+(B*5+1)):=by rw [Int.natAbs_mul,Nat.pow_add];exact Nat.mul_lt_mul'' h1 h2
  refine⟨h1,h2,h3,?_⟩
  unfold plcT
  rw [Int.natAbs_mul,Nat.pow_add _ B]
  exact Nat.mul_lt_mul'' (Q93 hc k) h3
theorem Qex {c:List Int} {a d:Int} {B:Nat} (hc:bd B c) (ha:a.natAbs<2^B) (hd:d.natAbs<2^B) (m:Nat) (hm:m≤6):(sm (plcT c a d) m).natAbs<2^(B+(B*5+1+(B*5+1))+7):=
  Qxm (by omega) fun i hi=>(Qm7 hc ha hd i (by omega)).2.2.2
theorem Qqp {s:Sg} {a d:Int} (ho:1≤s.o) (hd:1≤d) (i:Nat):0<plG s a d i:=by
  induction i with
  |zero=>
    show 0<(s.o*d^5).natAbs
    have h:0<s.o*d^5:=Int.mul_pos (by omega) (Int.pow_pos (by omega))
    omega
  |succ i ih=>rw [Qew];exact Nat.gcd_pos_of_pos_left _ ih
theorem Zbf {s:Sg} {d:Int} {B:Nat} (ho:s.o.natAbs<2^B) (hd:d.natAbs<2^B):(s.o*d^5).natAbs<2^(B+(B*5+1)):=by
  rw [Int.natAbs_mul,Nat.pow_add _ B]
  exact Nat.mul_lt_mul'' ho (Qf5 hd 5)
theorem Qxn {s:Sg} {a d:Int} {B:Nat} (hc: ∀c∈s.ax,bd B c) (h6: ∀c∈s.ax,c.length≤6) (ha:a.natAbs<2^B) (hd:d.natAbs<2^B) (i:Nat) (hi:i<3):
    (plP s a d i).natAbs<2^(B+(B*5+1+(B*5+1))+7):=by
  have hi':i<s.ax.length:=hi
  have hm:s.ax.getD i []=s.ax[i]:=by rw [List.getD_eq_getElem?_getD,List.getElem?_eq_getElem hi'];rfl
  unfold plP plc
  rw [hm]
  exact Qex (hc _ (List.getElem_mem hi')) ha hd _ (h6 _ (List.getElem_mem hi'))
theorem Zib {s:Sg} {a d:Int} {B:Nat} (hc: ∀c∈s.ax,bd B c) (h6: ∀c∈s.ax,c.length≤6) (ho:s.o.natAbs<2^B) (ha:a.natAbs<2^B) (hd:d.natAbs<2^B) (i:Nat) (hi:i≤3):
    ((plG s a d i:Nat):Int).natAbs<2^(B+(B*5+1+(B*5+1))+7):=by
  rw [Int.natAbs_natCast]
  refine Qm5 _ (Nat.lt_of_lt_of_le (Zbf ho hd) (Nat.pow_le_pow_right (by decide) (by omega))) ?_
  intro x hx
  simp only [List.mem_map,List.mem_range]at hx
  obtain⟨m,hm,rfl⟩:=hx
  exact Qxn hc h6 ha hd m (by omega)
end Go.Dg
