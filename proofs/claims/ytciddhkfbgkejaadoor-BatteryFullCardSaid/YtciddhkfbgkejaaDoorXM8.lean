/-
  XB4, XM4, XB5, By, XB6, Dbe, XM5, XM6, XM7, XM8 (merged for the claim).
-/
import Derived.Test.YtciddhkfbgkejaaDoorXB3
import Derived.Test.YtciddhkfbgkejaaDoorDsn
import Derived.Test.YtciddhkfbgkejaaDoorDsg
set_option linter.unusedSimpArgs false
set_option linter.unusedVariables false
namespace Go.Proofs.YtciddhkfbgkejaaDoor
open Go.Vl Go.RowKit Go.Dg
def baPV (B:Bat):PV:= .agg [.int .i64 B.base,.int .i64 B.climb,.int .i64 B.drag,.int .i64 B.cap,.int .i64 B.res]
attribute [go_sem] baPV
structure okBat (B:Bat):Prop where
 base:i64 B.base
 climb:i64 B.climb
 drag:i64 B.drag
 cap:i64 B.cap
 res:i64 B.res
theorem Qro {c:List Int} (h: ∀x∈c,i64 x):ok64 c:=fun i=>by
 by_cases hi:i<c.length
 ·exact Qbs (Qrn h hi)
 ·rw [List.getD_eq_getElem?_getD,List.getElem?_eq_none (by omega)];decide
theorem Qgd {c:List Int} {o t b:Int} {k:Nat} {D:Rat} (hD:fitQ k D) (hk:k≤20000) (hc: ∀x∈c,i64 x) (h1:1≤c.length) (h6:c.length≤6) (ho:i64 o) (h0:o≠0) (ht:0<t) (ht2:t≤3600000) (hb: -40000≤b∧b≤40000):
  ∃q1 q2 q3 q4 q5 q6 q7 q8 q9 q10 q11:Rat,
   Qae Tryd.prog 27 [.slc (c.map (PV.int .i64)),.int .i64 o] (ratQ q1)∧Qae Tryd.prog 23 [.int .i64 1000,.int .i64 t] (ratQ q2)∧Qae Tryd.prog 26 [ratQ q1,.slc [ratQ q2]] (ratQ q3)∧Qae Tryd.prog 25 [ratQ D,ratQ q3] (ratQ q4)∧
   Qae Tryd.prog 24 [.slc (c.map (PV.int .i64)),.int .i64 o] (ratQ q5)∧Qae Tryd.prog 23 [.int .i64 (-2*b),.int .i64 1] (ratQ q6)∧Qae Tryd.prog 26 [ratQ q5,.slc [ratQ q6]] (ratQ q7)∧Qae Tryd.prog 25 [ratQ q4,ratQ q7] (ratQ q8)∧
   Qae Tryd.prog 23 [.int .i64 (b*b),.int .i64 1] (ratQ q9)∧Qae Tryd.prog 23 [.int .i64 t,.int .i64 1000] (ratQ q10)∧Qae Tryd.prog 26 [ratQ q9,.slc [ratQ q10]] (ratQ q11)∧Qae Tryd.prog 25 [ratQ q8,ratQ q11] (ratQ (axQ D c o t b))∧fitQ (k+5421) (axQ D c o t b):=by
 have ok:=Qro hc
 have oa:=Qbs ho
 have hbb:0≤b*b∧b*b≤1600000000:=by
  have h1:=Int.mul_le_mul (a:=(b.natAbs:Int)) (b:=(b.natAbs:Int)) (c:=40000) (d:=40000) (by omega) (by omega) (by omega) (by omega)
  have h2:(b.natAbs:Int)*(b.natAbs:Int)=b*b:=Int.natAbs_mul_self' b
  rw [h2]at h1
  have h3:0≤b*b:=by rw [←h2];exact Int.mul_nonneg (by omega) (by omega)
  omega
 have t1:fitQ 4836 (sqQ c o):=Qw6 ok oa h0 h6 (by omega)
 have t2:fitQ 64 (fr 1000 t):=Qim (by decide) (by omega) (by omega)
 have t5:fitQ 326 (wayQ c o):=Qqh ok oa h0 (by omega)
 have t6:fitQ 64 (fr (-2*b) 1):=Qim (by omega) (by decide) (by decide)
 have t9:fitQ 64 (fr (b*b) 1):=Qim (by omega) (by decide) (by decide)
 have t10:fitQ 64 (fr t 1000):=Qim (by omega) (by decide) (by decide)
 have s1:=Qfh hD (Qcr t1 t2)
 have s2:=Qfh s1 (Qcr t5 t6)
 have s3:=Qfh s2 (Qcr t9 t10)
 exact⟨sqQ c o,fr 1000 t,_,_,wayQ c o,fr (-2*b) 1,_,_,fr (b*b) 1,fr t 1000,_,
  Zmt c o hc h1 h6 ho h0 ok,Qg0 1000 t (by unfold i64;omega) (by unfold i64;omega) (by omega),Qgc t1 t2 (by omega),Qg1 hD (Qcr t1 t2) (by omega),
  Q99 c o hc h1 h6 ho h0 ok,Qg0 (-2*b) 1 (by unfold i64;omega) (by unfold i64;omega) (by decide),Qgc t5 t6 (by omega),Qg1 s1 (Qcr t5 t6) (by omega),
  Qg0 (b*b) 1 (by unfold i64;omega) (by unfold i64;omega) (by decide),Qg0 t 1000 (by unfold i64;omega) (by unfold i64;omega) (by decide),Qgc t9 t10 (by omega),Qg1 s2 (Qcr t9 t10) (by omega),s3.mono (by omega)⟩
def drN (s:Sg) (x y z:Int):Nat→Rat
 |0=>fr 0 1
 |1=>axQ (fr 0 1) s.x s.o (s.t-s.f) x
 |2=>axQ (axQ (fr 0 1) s.x s.o (s.t-s.f) x) s.y s.o (s.t-s.f) y
 |_=>drQ s x y z
theorem Qn0:((0:Nat):Int)=0:=rfl
theorem Qn1:((1:Nat):Int)=1:=rfl
theorem Qn2:((2:Nat):Int)=2:=rfl
theorem Qcw:((3:Nat):Int)=3:=rfl
theorem Qcz:IntKind.i64.wrap 1=1:=rfl
theorem Qc0:IntKind.i64.wrap 2=2:=rfl
theorem Qc1:IntKind.i64.wrap 3=3:=rfl
theorem Zch {b:Int} (hb: -40000≤b∧b≤40000):0≤b*b∧b*b≤1600000000:=by
 have h1:=Int.mul_le_mul (a:=(b.natAbs:Int)) (b:=(b.natAbs:Int)) (c:=40000) (d:=40000) (by omega) (by omega) (by omega) (by omega)
 have h2:(b.natAbs:Int)*(b.natAbs:Int)=b*b:=Int.natAbs_mul_self' b
 rw [h2]at h1
 have h3:0≤b*b:=by rw [←h2];exact Int.mul_nonneg (by omega) (by omega)
 omega
set_option maxHeartbeats 16000000 in
set_option maxRecDepth 100000 in
theorem Qzm (s:Sg) (B:Bat) (x y z:Int) (hs:okSg s) (hv:Qbd s=true) (hB:Qax B=true) (hx: -40000≤x∧x≤40000) (hy: -40000≤y∧y≤40000) (hz: -40000≤z∧z≤40000):
  Qae Tryd.prog 14 [sgPV s,baPV B,.agg [.int .i64 x,.int .i64 y,.int .i64 z]] (.tup [.int .i64 (Qfi s B x y z),.bool (decide (Qfi s B x y z≤1125899906842624))]):=by
 obtain⟨⟨v1,v2,v3,v4,v5⟩,hax, -⟩:=Qb6 hv
 have hvx:=hax s.x (by simp [Sg.ax])
 have hvy:=hax s.y (by simp [Sg.ax])
 have hvz:=hax s.z (by simp [Sg.ax])
 have hcx:=hs.c s.x (by simp [Sg.ax])
 have hcy:=hs.c s.y (by simp [Sg.ax])
 have hcz:=hs.c s.z (by simp [Sg.ax])
 have hbx:=Zch hx
 have hby:=Zch hy
 have hbz:=Zch hz
 obtain⟨B1,B2,B3, -⟩:=Qcp hB
 have hwt:IntKind.i64.wrap (s.t-s.f)=s.t-s.f:=Qai (by omega) (by omega)
 have hbt:0≤B.base*(s.t-s.f)∧B.base*(s.t-s.f)≤1000000*3600000:=⟨Int.mul_nonneg B1.1 (by omega),Int.mul_le_mul B1.2 (by omega) (by omega) (by decide)⟩
 have hwbt:IntKind.i64.wrap (B.base*(s.t-s.f))=B.base*(s.t-s.f):=Qai (by omega) (by omega)
 have g1:=Qg0 (B.base*(s.t-s.f)) 1000 (by unfold i64;omega) (by unfold i64;omega) (by decide)
 have g2:=Q99 s.z s.o hcz (Qbf hvz).1 (Qbf hvz).2.1 hs.o (by omega) (Qro hcz)
 have g3:=Qg0 B.climb 100 (by unfold i64;omega) (by unfold i64;omega) (by decide)
 have ft1:fitQ 64 (fr (B.base*(s.t-s.f)) 1000):=Qim (by omega) (by decide) (by decide)
 have ft2:fitQ 326 (wayQ s.z s.o):=Qqh (Qro hcz) (Qbs hs.o) (by omega) (by have:=(Qbf hvz).2.1;omega)
 have ft3:fitQ 64 (fr B.climb 100):=Qim (by omega) (by decide) (by decide)
 have g4:=Qgc ft2 ft3 (by decide)
 have g5:=Qg1 ft1 (Qcr ft2 ft3) (by decide)
 have g6:=Qg0 0 1 (by unfold i64;omega) (by unfold i64;omega) (by decide)
 have ft6:fitQ 64 (fr 0 1):=Qim (by decide) (by decide) (by decide)
 have ftb:fitQ 455 (baQ s B):=by
  unfold baQ
  split
  ·exact ft1.mono (by decide)
  ·exact Qfh ft1 (Qcr ft2 ft3)
 have hD1:fitQ 5485 (drN s x y z 1):=(Qgd ft6 (by decide) hcx (Qbf hvx).1 (Qbf hvx).2.1 hs.o (by omega) (show 0<s.t-s.f by omega) (by omega) hx).elim fun _ h=>by obtain⟨_,_,_,_,_,_,_,_,_,_,_,_,_,_,_,_,_,_,_,_,_,_,h⟩:=h;exact h
 have hD2:fitQ 10906 (drN s x y z 2):=(Qgd hD1 (by decide) hcy (Qbf hvy).1 (Qbf hvy).2.1 hs.o (by omega) (show 0<s.t-s.f by omega) (by omega) hy).elim fun _ h=>by obtain⟨_,_,_,_,_,_,_,_,_,_,_,_,_,_,_,_,_,_,_,_,_,_,h⟩:=h;exact h
 have hD3:fitQ 16327 (drQ s x y z):=(Qgd hD2 (by decide) hcz (Qbf hvz).1 (Qbf hvz).2.1 hs.o (by omega) (show 0<s.t-s.f by omega) (by omega) hz).elim fun _ h=>by obtain⟨_,_,_,_,_,_,_,_,_,_,_,_,_,_,_,_,_,_,_,_,_,_,h⟩:=h;exact h
 have g7:=Qg0 B.drag 1000000 (by unfold i64;omega) (by unfold i64;omega) (by decide)
 have ft7:fitQ 64 (fr B.drag 1000000):=Qim (by omega) (by decide) (by decide)
 have g8:=Qgc hD3 ft7 (by decide)
 have g9:=Qg1 ftb (Qcr hD3 ft7) (by decide)
 obtain⟨c1,c2⟩:=Qsh (by unfold rngS;simp only [Bool.and_eq_true,decide_eq_true_eq];omega) hvx hvy hvz hB hx hy hz
 have eC:baQ s B+drQ s x y z*fr B.drag 1000000=Qt5 s B x y z:=rfl
 have ftC:=Qfh ftb (Qcr hD3 ft7)
 rw [eC]at g9 ftC
 have g10:=up_v ftC (by decide) c1 (by unfold Qfi at c2;omega)
 have eI:upQ (Qt5 s B x y z)=Qfi s B x y z:=rfl
 rw [eI]at g10
 have d3:drN s x y z 3=drQ s x y z:=rfl
 have d0:drN s x y z 0=fr 0 1:=rfl
 have hsg:sgPV s= .agg [.int .i64 s.f,.int .i64 s.t,.int .i64 s.o,.slc (s.x.map (PV.int .i64)),.slc (s.y.map (PV.int .i64)),.slc (s.z.map (PV.int .i64))]:=rfl
 refine Zi5 109 [.tmp 6,.tmp 7] Tryd.func14 rfl (by kernel_rfl) (by kernel_rfl) (by kernel_rfl) (by kernel_rfl) ?_
 refine Zca mixed [] [0,1,2,3,4,5,6,7,8,9,10,11,13,32,57,58,59] 4 rfl (St.of [(3,.bp 0 6 0 0),(4,.bp 1 5 0 0),(5,.bp 2 3 0 0),(8,.int .i64 (s.t-s.f)),(9,.bp 205 4 0 0)] [(0,{els:=[sgPV s],esz:=6,ety:=26,fro:=0,live:=true,arr:=false}),(1,{els:=[baPV B],esz:=5,ety:=23,fro:=0,live:=true,arr:=false}),(2,{els:=[.agg [.int .i64 x,.int .i64 y,.int .i64 z]],esz:=3,ety:=29,fro:=0,live:=true,arr:=false}),(205,raB (baQ s B))]) ?_ ?_
 ·simp only [codes,Qk0,List.take_succ_cons,List.take_zero,List.drop_succ_cons,List.drop_zero,List.foldr_cons,List.foldr_nil]
  clear hD1 hD2 hD3 g6 g7 g8 g9 g10 ftC eC
  unfold baQ
  by_cases hn:(wayQ s.z s.o).num<0
  ·rw [if_pos hn]
   have hn':=decide_eq_true hn
   generalize wayQ s.z s.o=W at*
   generalize fr (B.base*(s.t-s.f)) 1000=E1 at*
   unfold ratQ Qda at g1 g2
   simp only [hn']at g2
   repeat (first|(simp -implicitDefEqProofs only [go_sem,Nat.reduceAdd,Nat.reduceMul,Nat.reduceEqDiff,Nat.reduceLT,Nat.reduceLeDiff,Nat.reduceSub,Nat.reduceBEq,reduceIte,reduceCtorEq,Int.reduceEq,Int.reduceNe,Nat.reduceBneDiff,Int.reduceLE,Int.reduceLT,Int.reduceToNat,Int.reduceAdd,Int.reduceSub,Int.reduceMul,Int.reduceNeg,hwt,hwbt,hn'])|((with_reducible refine Qab (g1) ?_ ?_ ?_);(with_reducible rfl);rfl)|((with_reducible refine Qab (g2) ?_ ?_ ?_);(with_reducible rfl);rfl)|(with_reducible exact Qaa _ _ (by kernel_rfl))|(with_reducible refine And.intro (Qaa _ _ (by kernel_rfl)) ?_))
   refine Qap (θ:=[(0,0),(1,1),(2,2),(205,205)]) rfl ?_ ?_
   ·simp [Qaf,lkp,ren1,ren0,Qav]
   ·simp only [raB,ratQ,Qda]
    exact⟨⟨rfl,rfl,rfl,rfl,rfl,.inr ⟨rfl,_,_,rfl,rfl,rfl,rfl⟩⟩,⟨rfl,rfl,rfl,rfl,rfl,.inr ⟨rfl,_,_,rfl,rfl,rfl,rfl⟩⟩,⟨rfl,rfl,rfl,rfl,rfl,.inr ⟨rfl,_,_,rfl,rfl,rfl,rfl⟩⟩,⟨rfl,rfl,rfl,rfl,rfl,.inr ⟨rfl,_,_,rfl,rfl,rfl,rfl⟩⟩,trivial⟩
  ·rw [if_neg hn]
   have hn':=decide_eq_false hn
   generalize fr (B.base*(s.t-s.f)) 1000+wayQ s.z s.o*fr B.climb 100=E3 at*
   generalize wayQ s.z s.o*fr B.climb 100=E2 at*
   generalize wayQ s.z s.o=W at*
   generalize fr (B.base*(s.t-s.f)) 1000=E1 at*
   generalize fr B.climb 100=E4 at*
   unfold ratQ Qda at g1 g2 g3 g4 g5
   simp only [hn']at g2 g4
   repeat (first|(simp -implicitDefEqProofs only [go_sem,Nat.reduceAdd,Nat.reduceMul,Nat.reduceEqDiff,Nat.reduceLT,Nat.reduceLeDiff,Nat.reduceSub,Nat.reduceBEq,reduceIte,reduceCtorEq,Int.reduceEq,Int.reduceNe,Nat.reduceBneDiff,Int.reduceLE,Int.reduceLT,Int.reduceToNat,Int.reduceAdd,Int.reduceSub,Int.reduceMul,Int.reduceNeg,hwt,hwbt,hn'])|((with_reducible refine Qab (g1) ?_ ?_ ?_);(with_reducible rfl);rfl)|((with_reducible refine Qab (g2) ?_ ?_ ?_);(with_reducible rfl);rfl)|((with_reducible refine Qab (g3) ?_ ?_ ?_);(with_reducible rfl);rfl)|((with_reducible refine Qab (g4) ?_ ?_ ?_);(with_reducible rfl);rfl)|((with_reducible refine Qab (g5) ?_ ?_ ?_);(with_reducible rfl);rfl)|(with_reducible exact Qaa _ _ (by kernel_rfl))|(with_reducible refine And.intro (Qaa _ _ (by kernel_rfl)) ?_))
   refine Qap (θ:=[(0,0),(1,1),(2,2),(205,205)]) rfl ?_ ?_
   ·simp [Qaf,lkp,ren1,ren0,Qav]
   ·simp only [raB,ratQ,Qda]
    exact⟨⟨rfl,rfl,rfl,rfl,rfl,.inr ⟨rfl,_,_,rfl,rfl,rfl,rfl⟩⟩,⟨rfl,rfl,rfl,rfl,rfl,.inr ⟨rfl,_,_,rfl,rfl,rfl,rfl⟩⟩,⟨rfl,rfl,rfl,rfl,rfl,.inr ⟨rfl,_,_,rfl,rfl,rfl,rfl⟩⟩,⟨rfl,rfl,rfl,rfl,rfl,.inr ⟨rfl,_,_,rfl,rfl,rfl,rfl⟩⟩,trivial⟩
 ·refine v_go (tb:=[]) (ks:=[0,1,2,3,4,5,6,7,8,9,10,11,13,32,57,58,59]) mixed ?_
  simp only [codes,Qk0,List.take_succ_cons,List.take_zero,List.drop_succ_cons,List.drop_zero,List.foldr_cons,List.foldr_nil]
  clear g1 g2 g3 g4 g5 ft1 ft2 ft3 hwbt
  rw [←d0]at g6 ft6
  generalize hE:baQ s B=E at*
  generalize hG:drN s x y z 0=G at*
  unfold ratQ Qda at g6
  simp only [raB]
  unfold ratQ Qda
  repeat (first|(simp -implicitDefEqProofs only [go_sem,Nat.reduceAdd,Nat.reduceMul,Nat.reduceEqDiff,Nat.reduceLT,Nat.reduceLeDiff,Nat.reduceSub,Nat.reduceBEq,reduceIte,reduceCtorEq,Int.reduceEq,Int.reduceNe,Nat.reduceBneDiff,Int.reduceLE,Int.reduceLT,Int.reduceToNat,Int.reduceAdd,Int.reduceSub,Int.reduceMul,Int.reduceNeg])|((with_reducible refine Qab (g6) ?_ ?_ ?_);(with_reducible rfl);rfl)|(with_reducible exact Qaa _ _ (by kernel_rfl))|(with_reducible refine And.intro (Qaa _ _ (by kernel_rfl)) ?_))
  refine Qa5 mixed (fun k:{k:Nat // k≤3}=>St.of [(3,.bp 0 6 0 0),(4,.bp 1 5 0 0),(8,.int .i64 (s.t-s.f)),(9,.bp 205 4 0 0),(11,.bp 601 4 0 0),(57,.agg [.slc (s.x.map (PV.int .i64)),.int .i64 x,.slc (s.y.map (PV.int .i64)),.int .i64 y,.slc (s.z.map (PV.int .i64)),.int .i64 z]),(58,.int .i64 (k.1:Int))] [(0,{els:=[sgPV s],esz:=6,ety:=26,fro:=0,live:=true,arr:=false}),(1,{els:=[baPV B],esz:=5,ety:=23,fro:=0,live:=true,arr:=false}),(205,raB E),(601,raB (drN s x y z k.1))]) (fun k=>3-k.1) ⟨0,Nat.zero_le _⟩ ?_ ?_
  ·refine Qap (θ:=[(0,0),(1,1),(205,205),(601,601)]) rfl ?_ ?_
   ·simp [Qaf,lkp,ren1,ren0,Qav]
   ·simp only [hG,raB,ratQ,Qda]
    exact⟨⟨rfl,rfl,rfl,rfl,rfl,.inr ⟨rfl,_,_,rfl,rfl,rfl,rfl⟩⟩,⟨rfl,rfl,rfl,rfl,rfl,.inr ⟨rfl,_,_,rfl,rfl,rfl,rfl⟩⟩,⟨rfl,rfl,rfl,rfl,rfl,.inr ⟨rfl,_,_,rfl,rfl,rfl,rfl⟩⟩,⟨rfl,rfl,rfl,rfl,rfl,.inr ⟨rfl,_,_,rfl,rfl,rfl,rfl⟩⟩,trivial⟩
  ·subst hG
   rintro⟨k,hk⟩
   rcases(show k=0∨k=1∨k=2∨k=3 by omega)with rfl|rfl|rfl|rfl
   ·skip
    have hA':((0:Int)<3)=True:=eq_true (by decide)
    obtain⟨q1,q2,q3,q4,q5,q6,q7,q8,q9,q10,q11,f1,f2,f3,f4,f5,f6,f7,f8,f9,f10,f11,f12,fD⟩:=Qgd (c:=s.x) (o:=s.o) (t:=s.t-s.f) (b:=x) (D:=drN s x y z 0) ft6 (by decide) hcx (Qbf hvx).1 (Qbf hvx).2.1 hs.o (by omega) (by omega) (by omega) (by omega)
    have eD:axQ (drN s x y z 0) s.x s.o (s.t-s.f) x=drN s x y z (0+1):=rfl
    rw [eD]at f12
    have hwb:IntKind.i64.wrap (-2*x)= -2*x:=Qai (by omega) (by omega)
    have hwc:IntKind.i64.wrap (x*x)=x*x:=by have:=hbx;exact Qai (by omega) (by omega)
    generalize hq0:drN s x y z 0=D0 at*
    generalize hq1:drN s x y z (0+1)=D1 at*
    simp only [raB]
    unfold ratQ Qda at f1 f2 f3 f4 f5 f6 f7 f8 f9 f10 f11 f12 ⊢
    repeat (first|(simp -implicitDefEqProofs only [go_sem,Nat.reduceAdd,Nat.reduceMul,Nat.reduceEqDiff,Nat.reduceLT,Nat.reduceLeDiff,Nat.reduceSub,Nat.reduceBEq,reduceIte,reduceCtorEq,Int.reduceEq,Int.reduceNe,Nat.reduceBneDiff,Int.reduceLE,Int.reduceLT,Int.reduceToNat,Int.reduceAdd,Int.reduceSub,Int.reduceMul,Int.reduceNeg,hA',hwt,hwb,hwc,Qcz,Qc0,Qc1,Qn0,Qn1,Qn2,Qcw])|((with_reducible refine Qab (f1) ?_ ?_ ?_);(with_reducible rfl);rfl)|((with_reducible refine Qab (f2) ?_ ?_ ?_);(with_reducible rfl);rfl)|((with_reducible refine Qab (f3) ?_ ?_ ?_);(with_reducible rfl);rfl)|((with_reducible refine Qab (f4) ?_ ?_ ?_);(with_reducible rfl);rfl)|(with_reducible exact Qaa _ _ (by kernel_rfl))|(with_reducible refine And.intro (Qaa _ _ (by kernel_rfl)) ?_))
    repeat (first|(simp -implicitDefEqProofs only [go_sem,Nat.reduceAdd,Nat.reduceMul,Nat.reduceEqDiff,Nat.reduceLT,Nat.reduceLeDiff,Nat.reduceSub,Nat.reduceBEq,reduceIte,reduceCtorEq,Int.reduceEq,Int.reduceNe,Nat.reduceBneDiff,Int.reduceLE,Int.reduceLT,Int.reduceToNat,Int.reduceAdd,Int.reduceSub,Int.reduceMul,Int.reduceNeg,hA',hwt,hwb,hwc,Qcz,Qc0,Qc1,Qn0,Qn1,Qn2,Qcw])|((with_reducible refine Qab (f5) ?_ ?_ ?_);(with_reducible rfl);rfl)|((with_reducible refine Qab (f6) ?_ ?_ ?_);(with_reducible rfl);rfl)|((with_reducible refine Qab (f7) ?_ ?_ ?_);(with_reducible rfl);rfl)|((with_reducible refine Qab (f8) ?_ ?_ ?_);(with_reducible rfl);rfl)|(with_reducible exact Qaa _ _ (by kernel_rfl))|(with_reducible refine And.intro (Qaa _ _ (by kernel_rfl)) ?_))
    repeat (first|(simp -implicitDefEqProofs only [go_sem,Nat.reduceAdd,Nat.reduceMul,Nat.reduceEqDiff,Nat.reduceLT,Nat.reduceLeDiff,Nat.reduceSub,Nat.reduceBEq,reduceIte,reduceCtorEq,Int.reduceEq,Int.reduceNe,Nat.reduceBneDiff,Int.reduceLE,Int.reduceLT,Int.reduceToNat,Int.reduceAdd,Int.reduceSub,Int.reduceMul,Int.reduceNeg,hA',hwt,hwb,hwc,Qcz,Qc0,Qc1,Qn0,Qn1,Qn2,Qcw])|((with_reducible refine Qab (f9) ?_ ?_ ?_);(with_reducible rfl);rfl)|((with_reducible refine Qab (f10) ?_ ?_ ?_);(with_reducible rfl);rfl)|((with_reducible refine Qab (f11) ?_ ?_ ?_);(with_reducible rfl);rfl)|((with_reducible refine Qab (f12) ?_ ?_ ?_);(with_reducible rfl);rfl)|(with_reducible exact Qaa _ _ (by kernel_rfl))|(with_reducible refine And.intro (Qaa _ _ (by kernel_rfl)) ?_))
    refine⟨⟨0+1,by omega⟩,by simp only;omega,Qap (θ:=[(0,0),(1,1),(205,205),(601,601)]) rfl ?_ ?_⟩
    ·simp [Qaf,lkp,ren1,ren0,Qav]
    ·have hq2:drN s x y z 1=D1:=hq1
     simp only [Nat.reduceAdd,hq2,raB,ratQ,Qda]
     exact⟨⟨rfl,rfl,rfl,rfl,rfl,.inr ⟨rfl,_,_,rfl,rfl,rfl,rfl⟩⟩,⟨rfl,rfl,rfl,rfl,rfl,.inr ⟨rfl,_,_,rfl,rfl,rfl,rfl⟩⟩,⟨rfl,rfl,rfl,rfl,rfl,.inr ⟨rfl,_,_,rfl,rfl,rfl,rfl⟩⟩,⟨rfl,rfl,rfl,rfl,rfl,.inr ⟨rfl,_,_,rfl,rfl,rfl,rfl⟩⟩,trivial⟩
   ·skip
    have hA':((1:Int)<3)=True:=eq_true (by decide)
    obtain⟨q1,q2,q3,q4,q5,q6,q7,q8,q9,q10,q11,f1,f2,f3,f4,f5,f6,f7,f8,f9,f10,f11,f12,fD⟩:=Qgd (c:=s.y) (o:=s.o) (t:=s.t-s.f) (b:=y) (D:=drN s x y z 1) hD1 (by decide) hcy (Qbf hvy).1 (Qbf hvy).2.1 hs.o (by omega) (by omega) (by omega) (by omega)
    have eD:axQ (drN s x y z 1) s.y s.o (s.t-s.f) y=drN s x y z (1+1):=rfl
    rw [eD]at f12
    have hwb:IntKind.i64.wrap (-2*y)= -2*y:=Qai (by omega) (by omega)
    have hwc:IntKind.i64.wrap (y*y)=y*y:=by have:=hby;exact Qai (by omega) (by omega)
    generalize hq0:drN s x y z 1=D0 at*
    generalize hq1:drN s x y z (1+1)=D1 at*
    simp only [raB]
    unfold ratQ Qda at f1 f2 f3 f4 f5 f6 f7 f8 f9 f10 f11 f12 ⊢
    repeat (first|(simp -implicitDefEqProofs only [go_sem,Nat.reduceAdd,Nat.reduceMul,Nat.reduceEqDiff,Nat.reduceLT,Nat.reduceLeDiff,Nat.reduceSub,Nat.reduceBEq,reduceIte,reduceCtorEq,Int.reduceEq,Int.reduceNe,Nat.reduceBneDiff,Int.reduceLE,Int.reduceLT,Int.reduceToNat,Int.reduceAdd,Int.reduceSub,Int.reduceMul,Int.reduceNeg,hA',hwt,hwb,hwc,Qcz,Qc0,Qc1,Qn0,Qn1,Qn2,Qcw])|((with_reducible refine Qab (f1) ?_ ?_ ?_);(with_reducible rfl);rfl)|((with_reducible refine Qab (f2) ?_ ?_ ?_);(with_reducible rfl);rfl)|((with_reducible refine Qab (f3) ?_ ?_ ?_);(with_reducible rfl);rfl)|((with_reducible refine Qab (f4) ?_ ?_ ?_);(with_reducible rfl);rfl)|(with_reducible exact Qaa _ _ (by kernel_rfl))|(with_reducible refine And.intro (Qaa _ _ (by kernel_rfl)) ?_))
    repeat (first|(simp -implicitDefEqProofs only [go_sem,Nat.reduceAdd,Nat.reduceMul,Nat.reduceEqDiff,Nat.reduceLT,Nat.reduceLeDiff,Nat.reduceSub,Nat.reduceBEq,reduceIte,reduceCtorEq,Int.reduceEq,Int.reduceNe,Nat.reduceBneDiff,Int.reduceLE,Int.reduceLT,Int.reduceToNat,Int.reduceAdd,Int.reduceSub,Int.reduceMul,Int.reduceNeg,hA',hwt,hwb,hwc,Qcz,Qc0,Qc1,Qn0,Qn1,Qn2,Qcw])|((with_reducible refine Qab (f5) ?_ ?_ ?_);(with_reducible rfl);rfl)|((with_reducible refine Qab (f6) ?_ ?_ ?_);(with_reducible rfl);rfl)|((with_reducible refine Qab (f7) ?_ ?_ ?_);(with_reducible rfl);rfl)|((with_reducible refine Qab (f8) ?_ ?_ ?_);(with_reducible rfl);rfl)|(with_reducible exact Qaa _ _ (by kernel_rfl))|(with_reducible refine And.intro (Qaa _ _ (by kernel_rfl)) ?_))
    repeat (first|(simp -implicitDefEqProofs only [go_sem,Nat.reduceAdd,Nat.reduceMul,Nat.reduceEqDiff,Nat.reduceLT,Nat.reduceLeDiff,Nat.reduceSub,Nat.reduceBEq,reduceIte,reduceCtorEq,Int.reduceEq,Int.reduceNe,Nat.reduceBneDiff,Int.reduceLE,Int.reduceLT,Int.reduceToNat,Int.reduceAdd,Int.reduceSub,Int.reduceMul,Int.reduceNeg,hA',hwt,hwb,hwc,Qcz,Qc0,Qc1,Qn0,Qn1,Qn2,Qcw])|((with_reducible refine Qab (f9) ?_ ?_ ?_);(with_reducible rfl);rfl)|((with_reducible refine Qab (f10) ?_ ?_ ?_);(with_reducible rfl);rfl)|((with_reducible refine Qab (f11) ?_ ?_ ?_);(with_reducible rfl);rfl)|((with_reducible refine Qab (f12) ?_ ?_ ?_);(with_reducible rfl);rfl)|(with_reducible exact Qaa _ _ (by kernel_rfl))|(with_reducible refine And.intro (Qaa _ _ (by kernel_rfl)) ?_))
    refine⟨⟨1+1,by omega⟩,by simp only;omega,Qap (θ:=[(0,0),(1,1),(205,205),(601,601)]) rfl ?_ ?_⟩
    ·simp [Qaf,lkp,ren1,ren0,Qav]
    ·have hq2:drN s x y z 2=D1:=hq1
     simp only [Nat.reduceAdd,hq2,raB,ratQ,Qda]
     exact⟨⟨rfl,rfl,rfl,rfl,rfl,.inr ⟨rfl,_,_,rfl,rfl,rfl,rfl⟩⟩,⟨rfl,rfl,rfl,rfl,rfl,.inr ⟨rfl,_,_,rfl,rfl,rfl,rfl⟩⟩,⟨rfl,rfl,rfl,rfl,rfl,.inr ⟨rfl,_,_,rfl,rfl,rfl,rfl⟩⟩,⟨rfl,rfl,rfl,rfl,rfl,.inr ⟨rfl,_,_,rfl,rfl,rfl,rfl⟩⟩,trivial⟩
   ·skip
    have hA':((2:Int)<3)=True:=eq_true (by decide)
    obtain⟨q1,q2,q3,q4,q5,q6,q7,q8,q9,q10,q11,f1,f2,f3,f4,f5,f6,f7,f8,f9,f10,f11,f12,fD⟩:=Qgd (c:=s.z) (o:=s.o) (t:=s.t-s.f) (b:=z) (D:=drN s x y z 2) hD2 (by decide) hcz (Qbf hvz).1 (Qbf hvz).2.1 hs.o (by omega) (by omega) (by omega) (by omega)
    have eD:axQ (drN s x y z 2) s.z s.o (s.t-s.f) z=drN s x y z (2+1):=rfl
    rw [eD]at f12
    have hwb:IntKind.i64.wrap (-2*z)= -2*z:=Qai (by omega) (by omega)
    have hwc:IntKind.i64.wrap (z*z)=z*z:=by have:=hbz;exact Qai (by omega) (by omega)
    generalize hq0:drN s x y z 2=D0 at*
    generalize hq1:drN s x y z (2+1)=D1 at*
    simp only [raB]
    unfold ratQ Qda at f1 f2 f3 f4 f5 f6 f7 f8 f9 f10 f11 f12 ⊢
    repeat (first|(simp -implicitDefEqProofs only [go_sem,Nat.reduceAdd,Nat.reduceMul,Nat.reduceEqDiff,Nat.reduceLT,Nat.reduceLeDiff,Nat.reduceSub,Nat.reduceBEq,reduceIte,reduceCtorEq,Int.reduceEq,Int.reduceNe,Nat.reduceBneDiff,Int.reduceLE,Int.reduceLT,Int.reduceToNat,Int.reduceAdd,Int.reduceSub,Int.reduceMul,Int.reduceNeg,hA',hwt,hwb,hwc,Qcz,Qc0,Qc1,Qn0,Qn1,Qn2,Qcw])|((with_reducible refine Qab (f1) ?_ ?_ ?_);(with_reducible rfl);rfl)|((with_reducible refine Qab (f2) ?_ ?_ ?_);(with_reducible rfl);rfl)|((with_reducible refine Qab (f3) ?_ ?_ ?_);(with_reducible rfl);rfl)|((with_reducible refine Qab (f4) ?_ ?_ ?_);(with_reducible rfl);rfl)|(with_reducible exact Qaa _ _ (by kernel_rfl))|(with_reducible refine And.intro (Qaa _ _ (by kernel_rfl)) ?_))
    repeat (first|(simp -implicitDefEqProofs only [go_sem,Nat.reduceAdd,Nat.reduceMul,Nat.reduceEqDiff,Nat.reduceLT,Nat.reduceLeDiff,Nat.reduceSub,Nat.reduceBEq,reduceIte,reduceCtorEq,Int.reduceEq,Int.reduceNe,Nat.reduceBneDiff,Int.reduceLE,Int.reduceLT,Int.reduceToNat,Int.reduceAdd,Int.reduceSub,Int.reduceMul,Int.reduceNeg,hA',hwt,hwb,hwc,Qcz,Qc0,Qc1,Qn0,Qn1,Qn2,Qcw])|((with_reducible refine Qab (f5) ?_ ?_ ?_);(with_reducible rfl);rfl)|((with_reducible refine Qab (f6) ?_ ?_ ?_);(with_reducible rfl);rfl)|((with_reducible refine Qab (f7) ?_ ?_ ?_);(with_reducible rfl);rfl)|((with_reducible refine Qab (f8) ?_ ?_ ?_);(with_reducible rfl);rfl)|(with_reducible exact Qaa _ _ (by kernel_rfl))|(with_reducible refine And.intro (Qaa _ _ (by kernel_rfl)) ?_))
    repeat (first|(simp -implicitDefEqProofs only [go_sem,Nat.reduceAdd,Nat.reduceMul,Nat.reduceEqDiff,Nat.reduceLT,Nat.reduceLeDiff,Nat.reduceSub,Nat.reduceBEq,reduceIte,reduceCtorEq,Int.reduceEq,Int.reduceNe,Nat.reduceBneDiff,Int.reduceLE,Int.reduceLT,Int.reduceToNat,Int.reduceAdd,Int.reduceSub,Int.reduceMul,Int.reduceNeg,hA',hwt,hwb,hwc,Qcz,Qc0,Qc1,Qn0,Qn1,Qn2,Qcw])|((with_reducible refine Qab (f9) ?_ ?_ ?_);(with_reducible rfl);rfl)|((with_reducible refine Qab (f10) ?_ ?_ ?_);(with_reducible rfl);rfl)|((with_reducible refine Qab (f11) ?_ ?_ ?_);(with_reducible rfl);rfl)|((with_reducible refine Qab (f12) ?_ ?_ ?_);(with_reducible rfl);rfl)|(with_reducible exact Qaa _ _ (by kernel_rfl))|(with_reducible refine And.intro (Qaa _ _ (by kernel_rfl)) ?_))
    refine⟨⟨2+1,by omega⟩,by simp only;omega,Qap (θ:=[(0,0),(1,1),(205,205),(601,601)]) rfl ?_ ?_⟩
    ·simp [Qaf,lkp,ren1,ren0,Qav]
    ·have hq2:drN s x y z 3=D1:=hq1
     simp only [Nat.reduceAdd,hq2,raB,ratQ,Qda]
     exact⟨⟨rfl,rfl,rfl,rfl,rfl,.inr ⟨rfl,_,_,rfl,rfl,rfl,rfl⟩⟩,⟨rfl,rfl,rfl,rfl,rfl,.inr ⟨rfl,_,_,rfl,rfl,rfl,rfl⟩⟩,⟨rfl,rfl,rfl,rfl,rfl,.inr ⟨rfl,_,_,rfl,rfl,rfl,rfl⟩⟩,⟨rfl,rfl,rfl,rfl,rfl,.inr ⟨rfl,_,_,rfl,rfl,rfl,rfl⟩⟩,trivial⟩
   ·have hA':((3:Int)<3)=False:=eq_false (by decide)
    simp only [d3]
    generalize baQ s B+drQ s x y z*fr B.drag 1000000=T at*
    generalize Qt5 s B x y z=T3 at*
    generalize drQ s x y z*fr B.drag 1000000=T2 at*
    generalize drQ s x y z=T1 at*
    generalize fr B.drag 1000000=T4 at*
    generalize Qfi s B x y z=I at*
    simp only [raB]
    unfold ratQ Qda at g7 g8 g9 g10 ⊢
    repeat (first|(simp -implicitDefEqProofs only [go_sem,Nat.reduceAdd,Nat.reduceMul,Nat.reduceEqDiff,Nat.reduceLT,Nat.reduceLeDiff,Nat.reduceSub,Nat.reduceBEq,reduceIte,reduceCtorEq,Int.reduceEq,Int.reduceNe,Nat.reduceBneDiff,Int.reduceLE,Int.reduceLT,Int.reduceToNat,Int.reduceAdd,Int.reduceSub,Int.reduceMul,Int.reduceNeg,hA',Qcw])|((with_reducible refine Qab (g7) ?_ ?_ ?_);(with_reducible rfl);rfl)|((with_reducible refine Qab (g8) ?_ ?_ ?_);(with_reducible rfl);rfl)|((with_reducible refine Qab (g9) ?_ ?_ ?_);(with_reducible rfl);rfl)|((with_reducible refine Qab (g10) ?_ ?_ ?_);(with_reducible rfl);rfl)|(with_reducible exact Qaa _ _ (by kernel_rfl))|(with_reducible refine And.intro (Qaa _ _ (by kernel_rfl)) ?_))
end Go.Proofs.YtciddhkfbgkejaaDoor

namespace Go.Proofs.YtciddhkfbgkejaaDoor
open Go.Vl Go.RowKit Go.Dg
end Go.Proofs.YtciddhkfbgkejaaDoor

namespace Go.Proofs.YtciddhkfbgkejaaDoor
open Go.Vl Go.RowKit Go.Dg
end Go.Proofs.YtciddhkfbgkejaaDoor

namespace Go.Vl
open Go.RowKit
end Go.Vl

namespace Go.Proofs.YtciddhkfbgkejaaDoor
open Go.Vl Go.RowKit Go.Dg
end Go.Proofs.YtciddhkfbgkejaaDoor

namespace Go.Dg
def mxE:Int:=1125899906842624
def preI (cs:List Int) (k:Nat):Int:=sm (fun i=>cs.getD i 0) k
theorem Qj0 (cs:List Int) (k:Nat):preI cs (k+1)=preI cs k+cs.getD k 0:=rfl
def okC (cs:List Int):Prop:= ∀c∈cs,0≤c∧c≤400000000000000000
theorem Qww {cs:List Int} (h:okC cs) (k:Nat):0≤cs.getD k 0∧cs.getD k 0≤400000000000000000:=by
 by_cases hk:k<cs.length
 ·rw [List.getD_eq_getElem?_getD,List.getElem?_eq_getElem hk];exact h _ (List.getElem_mem hk)
 ·rw [List.getD_eq_getElem?_getD,List.getElem?_eq_none (by omega)];decide
theorem Qoh {cs:List Int} (h:okC cs) {j k:Nat} (hjk:j≤k):preI cs j≤preI cs k:=by
 induction k with
 |zero=>
    obtain rfl:j=0:=by omega
    exact Int.le_refl _
 |succ k ih=>
  have:=(Qww h k).1
  rw [Qj0]
  by_cases e:j=k+1
  ·subst e;rw [Qj0];exact Int.le_refl _
  ·have:=ih (by omega);omega
theorem Qqe {cs:List Int} (h:okC cs) (k:Nat):0≤preI cs k:=by
 have:=Qoh h (Nat.zero_le k)
 exact this
def smL (cs:List Int) (k:Nat):List Int:=(List.range k).map fun j=>preI cs (j+1)
theorem Q2w (cs:List Int) (k:Nat):smL cs (k+1)=smL cs k++[preI cs (k+1)]:=by
 unfold smL;rw [List.range_succ,List.map_append];rfl
theorem Qdy (cs:List Int) (k:Nat):(smL cs k).length=k:=by simp [smL]
theorem Zar {cs:List Int} {k i:Nat} (h:i<k):(smL cs k).getD i 0=preI cs (i+1):=by simp [smL,h]
def cutE (cs:List Int):Nat:=(List.range cs.length).findIdx fun j=>decide (mxE<preI cs (j+1))
theorem Qsb {n i:Nat} {p:Nat→Bool} (h:i<n) (h1:p i=true) (h2: ∀j,j<i→p j=false):(List.range n).findIdx p=i:=by
 rw [List.findIdx_eq (by simpa using h)]
 exact⟨by simpa using h1,fun j hj=>by simpa using h2 j hj⟩
theorem Qoi {n:Nat} {p:Nat→Bool} (h2: ∀j,j<n→p j=false):(List.range n).findIdx p=n:=by
 have:=List.findIdx_eq_length_of_false (xs:=List.range n) (p:=p) (fun x hx=>h2 x (List.mem_range.1 hx))
 rwa [List.length_range]at this
theorem Qoj {cs:List Int} {i:Nat} (hi:i<cs.length) (h: ∀j,j<i→preI cs (j+1)≤mxE) (hs:mxE<preI cs (i+1)):cutE cs=i:=
 Qsb hi (decide_eq_true hs) fun j hj=>decide_eq_false (by have:=h j hj;omega)
theorem Qsc {cs:List Int} (h: ∀j,j<cs.length→preI cs (j+1)≤mxE):cutE cs=cs.length:=
 Qoi fun j hj=>decide_eq_false (by have:=h j hj;omega)
theorem Qwx {cs:List Int} (hc:okC cs) (hl:0<cs.length):(preI cs cs.length≤mxE→cutE cs=cs.length)∧(mxE<preI cs cs.length→cutE cs<cs.length):=by
 refine⟨fun h=>Qsc fun j hj=>Int.le_trans (Qoh hc hj) h,fun h=> ?_⟩
 have hlt:=List.findIdx_lt_length_of_exists (xs:=List.range cs.length) (p:=fun j=>decide (mxE<preI cs (j+1))) ⟨cs.length-1,List.mem_range.2 (by omega),decide_eq_true (by rw [Nat.sub_add_cancel hl];exact h)⟩
 rwa [List.length_range]at hlt
theorem Qwy (cs:List Int):cutE cs≤cs.length:=by
 have:=List.findIdx_le_length (xs:=List.range cs.length) (p:=fun j=>decide (mxE<preI cs (j+1)))
 rwa [List.length_range]at this
theorem Zas {cs:List Int} {j:Nat} (h:j<cutE cs):preI cs (j+1)≤mxE:=by
 have hl:=Qwy cs
 have:=List.not_of_lt_findIdx h
 simp at this
 exact this
theorem Zat {cs:List Int} (h:cutE cs<cs.length):mxE<preI cs (cutE cs+1):=by
 have:=List.findIdx_getElem (xs:=List.range cs.length) (p:=fun j=>decide (mxE<preI cs (j+1))) (w:=by rw [List.length_range];exact h)
 simp only [List.getElem_range,decide_eq_true_eq]at this
 exact this
def okE (cs:List Int) (B:Bat) (j:Nat):Bool:=decide (preI cs j≤mxE)&&decide (B.res≤B.cap-preI cs j)
def rcN (cs:List Int) (B:Bat):Nat:=(List.range cs.length).findIdx fun j=> !okE cs B (j+1)
theorem Qsd {cs:List Int} {B:Bat} {i:Nat} (hi:i<cs.length) (h: ∀j,j<i→okE cs B (j+1)=true) (hs:okE cs B (i+1)=false):rcN cs B=i:=
 Qsb hi (by rw [hs];rfl) fun j hj=>by rw [h j hj];rfl
theorem Zau {cs:List Int} {B:Bat} (h: ∀j,j<cs.length→okE cs B (j+1)=true):rcN cs B=cs.length:=Qoi fun j hj=>by rw [h j hj];rfl
theorem Q2x {cs:List Int} {B:Bat} {j:Nat} (h1:preI cs j≤mxE) (h2:B.res≤B.cap-preI cs j):okE cs B j=true:=by
 unfold okE;rw [decide_eq_true h1,decide_eq_true h2];rfl
theorem Zav {cs:List Int} {B:Bat} {j:Nat} (h1:mxE<preI cs j):okE cs B j=false:=by
 unfold okE;rw [decide_eq_false (by omega)];rfl
theorem Zaw {cs:List Int} {B:Bat} {j:Nat} (h2:B.cap-preI cs j<B.res):okE cs B j=false:=by
 unfold okE;rw [decide_eq_false (show¬B.res≤B.cap-preI cs j by omega),Bool.and_false]
end Go.Dg

namespace Go.Proofs.YtciddhkfbgkejaaDoor
open Go.Vl Go.RowKit Go.Dg
theorem Qtw {m B:Nat} (h:m<2^B) (hk:B≤65000):m<2^65000:=Qqn (C:=65000) h hk
def w3PV (x y z:Int):PV:= .agg [.bool (decide (x<0)),.str (mB x),.bool (decide (y<0)),.str (mB y),.bool (decide (z<0)),.str (mB z)]
def Qad (x y z o:Int):PV:= .agg [.bool (decide (x<0)),.str (mB x),.bool (decide (y<0)),.str (mB y),.bool (decide (z<0)),.str (mB z),.bool (decide (o<0)),.str (mB o)]
theorem nc0:((0:Nat):Int)=0:=rfl
theorem nc1:((1:Nat):Int)=1:=rfl
theorem nc2:((2:Nat):Int)=2:=rfl
theorem nc3:((3:Nat):Int)=3:=rfl
theorem wr1:IntKind.i64.wrap 1=1:=rfl
theorem wr2:IntKind.i64.wrap 2=2:=rfl
theorem wr3:IntKind.i64.wrap 3=3:=rfl
attribute [go_sem] w3PV Qad nc0 nc1 nc2 nc3 wr1 wr2 wr3
theorem mB_0:mB 0=⟨#[]⟩:=by unfold mB;rw [(Qju 0).2 rfl]
def sel (P:Nat→Int) (i m:Nat) (X:Int):Int:=if m=i then X else at3 P i m
def plV (s:Sg) (a d:Int):PV:=Qad (plP s a d 0/(plG s a d 3:Int)) (plP s a d 1/(plG s a d 3:Int)) (plP s a d 2/(plG s a d 3:Int)) (s.o*d^5/(plG s a d 3:Int))
set_option maxHeartbeats 2000000 in
theorem Qn6 (s:Sg) (a d:Int) (hs:okSg s) (h6: ∀c∈s.ax,c.length≤6) (ho:1≤s.o) (ha:i64 a) (hd:i64 d) (hd1:1≤d):
  Qae Tryd.prog 70 [sgPV s,.int .i64 a,.int .i64 d] (plV s a d):=by
 obtain⟨⟨a1,a2⟩,⟨a3,a4⟩,⟨a5,a6⟩,hc,hl⟩:=hs
 have ba:=Qbs ha
 have bd':=Qbs hd
 have bo:=Qbs ⟨a5,a6⟩
 have w1:=Qgj s.o a5 a6
 have p5:=Qe5 d 5 64 hd.1 hd.2 (by decide) (by decide) bd'
 have bd5:=Qzy bd' 5
 have bod:=Zbf (s:=s) bo bd'
 have m1:=Qgt (Qaw bo (by decide)) (Qaw bd5 (by decide)) (Qaw bod (by decide))
 have hax:=Zac s
 have hG0:(plG s a d 0:Int)=s.o*d^5:=by
  have h:0<s.o*d^5:=Int.mul_pos (by omega) (Int.pow_pos (by omega))
  show(((s.o*d^5).natAbs:Nat):Int)=_
  omega
 have hcB: ∀c∈s.ax,bd 64 c:=fun c hx x hx2=>Qbs (hc c hx x hx2)
 have bP:=Qxn hcB h6 ba bd'
 have bG:=Zib hcB h6 bo ba bd'
 generalize hO:s.o*d^5=O at*
 have hsg:sgPV s= .agg [.int .i64 s.f,.int .i64 s.t,.int .i64 s.o,.slc (s.x.map (PV.int .i64)),.slc (s.y.map (PV.int .i64)),.slc (s.z.map (PV.int .i64))]:=rfl
 rw [hsg]at hax ⊢
 refine Qac (tb:=[]) 74 [.cell 6 122] [0,1,2,3,6,7,8,9,10,11,12,13,22,23,24,27,28,29,30] mixed Tryd.func70 rfl (by kernel_rfl) (by kernel_rfl) (by kernel_rfl) (by kernel_rfl) ?_
 repeat (first|(simp -implicitDefEqProofs only [go_sem,Nat.reduceAdd,Nat.reduceMul,Nat.reduceEqDiff,Nat.reduceLT,Nat.reduceLeDiff,Nat.reduceSub,Nat.reduceBEq,reduceIte,reduceCtorEq,Int.reduceEq,Int.reduceNe,Nat.reduceBneDiff,Int.reduceLE,Int.reduceLT,Int.reduceToNat,Int.reduceAdd,Int.reduceSub,Int.reduceMul,Int.reduceNeg,wPV])|((with_reducible refine Qab (w1) ?_ ?_ ?_);(with_reducible rfl);rfl)|((with_reducible refine Qab (p5) ?_ ?_ ?_);(with_reducible rfl);rfl)|((with_reducible refine Qab (m1) ?_ ?_ ?_);(with_reducible rfl);rfl)|((with_reducible refine Qab (hax) ?_ ?_ ?_);(with_reducible rfl);rfl)|(with_reducible exact Qaa _ _ (by kernel_rfl))|(with_reducible refine And.intro (Qaa _ _ (by kernel_rfl)) ?_))
 refine Qa5 mixed (fun i:{i:Nat // i≤3}=>St.of [(1,.int .i64 a),(2,.int .i64 d),(6,.bp 1 8 0 0),(7,.bp 100 6 0 0),(8,.bp 206 2 0 0),(9,.bp 301 2 0 0),(22,.agg [Qa9 s.x,Qa9 s.y,Qa9 s.z]),(23,.int .i64 (i.1:Int))]
  [(1,{els:=[.agg [.bool false,.str ⟨#[]⟩,.bool false,.str ⟨#[]⟩,.bool false,.str ⟨#[]⟩,.bool false,.str ⟨#[]⟩]],esz:=8,ety:=122,fro:=0,live:=true,arr:=false}),(100,{els:=[w3PV (at3 (plP s a d) i.1 0) (at3 (plP s a d) i.1 1) (at3 (plP s a d) i.1 2)],esz:=6,ety:=127,fro:=0,live:=true,arr:=false}),(206,{els:=[wPV O],esz:=2,ety:=52,fro:=0,live:=true,arr:=false}),(301,{els:=[wPV ((plG s a d i.1:Nat):Int)],esz:=2,ety:=52,fro:=0,live:=true,arr:=false})]) (fun i=>3-i.1) ⟨0,Nat.zero_le _⟩ ?_ ?_
 ·refine Qap (θ:=[(1,1),(100,100),(206,206),(301,301)]) rfl ?_ ?_
  ·simp [Qaf,lkp,ren1,ren0,Qav,Qa9]
  ·refine⟨⟨rfl,rfl,rfl,rfl,rfl,.inr ⟨rfl,_,_,rfl,rfl,rfl,rfl⟩⟩,⟨rfl,rfl,rfl,rfl,rfl,.inr ⟨rfl,_,_,rfl,rfl,?_,rfl⟩⟩,⟨rfl,rfl,rfl,rfl,rfl,.inr ⟨rfl,_,_,rfl,rfl,rfl,rfl⟩⟩,⟨rfl,rfl,rfl,rfl,rfl,.inr ⟨rfl,_,_,rfl,rfl,?_,rfl⟩⟩,trivial⟩
   ·simp only [at3,Nat.not_lt_zero,if_false,w3PV,mB_0];rfl
   ·simp only [hG0];rfl
 ·rintro⟨i,hi⟩
  by_cases hA:i<3
  ·have hA':((i:Int)<3)=True:=eq_true (by omega)
   have hA2:=ltT hA
   have h0:=nnT i
   have hx:=Qz2 s i hA
   have hwk:=Qal (a:=i) (by omega)
   rcases(show i=0∨i=1∨i=2 by omega)with hi0|hi0|hi0
   ·skip
    obtain rfl:i=0:=hi0
    have hm:s.ax.getD 0 []=s.ax[0]'hA:=rfl
    have hP:plP s a d 0=sm (plcT (s.ax[0]'hA) a d) (s.ax[0]'hA).length:=rfl
    have hcx:=hc (s.ax[0]) (List.getElem_mem hA)
    have hlx:=h6 (s.ax[0]) (List.getElem_mem hA)
    have bPi:=bP 0 (by omega)
    have bGi:=bG 0 (by omega)
    have hGs:=Qew s a d 0
    generalize s.ax[0]'hA=c at*
    repeat (first|(simp -implicitDefEqProofs only [go_sem,Nat.reduceAdd,Nat.reduceMul,Nat.reduceEqDiff,Nat.reduceLT,Nat.reduceLeDiff,Nat.reduceSub,Nat.reduceBEq,reduceIte,reduceCtorEq,Int.reduceEq,Int.reduceNe,Nat.reduceBneDiff,Int.reduceLE,Int.reduceLT,Int.reduceToNat,Int.reduceAdd,Int.reduceSub,Int.reduceMul,Int.reduceNeg,hA',hx,Int.toNat_natCast,List.length_map,at3,Nat.reduceLT])|(with_reducible exact Qaa _ _ (by kernel_rfl))|(with_reducible refine And.intro (Qaa _ _ (by kernel_rfl)) ?_))
    refine Qa5 mixed (fun k:{k:Nat // k≤c.length}=>St.of [(1,.int .i64 a),(2,.int .i64 d),(6,.bp 1 8 0 0),(7,.bp 100 6 0 0),(8,.bp 206 2 0 0),(9,.bp 301 2 0 0),(22,.agg [Qa9 s.x,Qa9 s.y,Qa9 s.z]),(23,.int .i64 0),(10,.int .i64 0),(27,Qa9 c),(28,.int .i64 (c.length:Int)),(29,.int .i64 (k.1:Int))]
     [(1,{els:=[.agg [.bool false,.str ⟨#[]⟩,.bool false,.str ⟨#[]⟩,.bool false,.str ⟨#[]⟩,.bool false,.str ⟨#[]⟩]],esz:=8,ety:=122,fro:=0,live:=true,arr:=false}),(100,{els:=[w3PV (sel (plP s a d) 0 0 (sm (plcT c a d) k.1)) (sel (plP s a d) 0 1 (sm (plcT c a d) k.1)) (sel (plP s a d) 0 2 (sm (plcT c a d) k.1))],esz:=6,ety:=127,fro:=0,live:=true,arr:=false}),(206,{els:=[wPV O],esz:=2,ety:=52,fro:=0,live:=true,arr:=false}),(301,{els:=[wPV ((plG s a d 0:Nat):Int)],esz:=2,ety:=52,fro:=0,live:=true,arr:=false})]) (fun k=>c.length-k.1) ⟨0,Nat.zero_le _⟩ ?_ ?_
    ·refine Qap (θ:=[(1,1),(100,100),(206,206),(301,301)]) rfl ?_ ?_
     ·simp [Qaf,lkp,ren1,ren0,Qav,Qa9]
     ·refine⟨⟨rfl,rfl,rfl,rfl,rfl,.inr ⟨rfl,_,_,rfl,rfl,rfl,rfl⟩⟩,⟨rfl,rfl,rfl,rfl,rfl,.inr ⟨rfl,_,_,rfl,rfl,?_,rfl⟩⟩,⟨rfl,rfl,rfl,rfl,rfl,.inr ⟨rfl,_,_,rfl,rfl,rfl,rfl⟩⟩,⟨rfl,rfl,rfl,rfl,rfl,.inr ⟨rfl,_,_,rfl,rfl,rfl,rfl⟩⟩,trivial⟩
      simp only [sel,at3,sm]
      rfl
    ·rintro⟨k,hk⟩
     by_cases hB:k<c.length
     ·have hB':=ltT hB
      have n0:=nnT k
      have hgk:=Qe6 c k hB
      have hwk2:=Qal (a:=k) (by omega)
      have w5:IntKind.i64.wrap (5-(k:Int))=((5-k:Nat):Int):=by rw [Qai (by omega) (by omega)];omega
      obtain⟨k1,k2⟩:=hcx _ (List.getElem_mem hB)
      have hcb:bd 64 c:=fun x hx=>Qbs (hcx x hx)
      have x1:=hcb _ (List.getElem_mem hB)
      have o1:=Qgj c[k] k1 k2
      have q1:=Qe5 a k 64 ha.1 ha.2 (by omega) (by decide) ba
      have q2:=Qe5 d (5-k) 64 hd.1 hd.2 (by omega) (by decide) bd'
      obtain⟨t1,t2,t3,t4⟩:=Qm7 hcb ba bd' k (by omega)
      have mm1:=Qgt (Qaw t1 (by decide)) (Qaw t2 (by decide)) (Qaw t3 (by decide))
      have eT:plcT c a d k=c[k]*(a^k*d^(5-k)):=by unfold plcT;rw [Qk9 hB]
      rw [eT]at t4
      have mm2:=Qgt (Qaw x1 (by decide)) (Qaw t3 (by decide)) (Qaw t4 (by decide))
      rw [←eT]at mm2 t4
      have y1:=Qex hcb ba bd' k (by omega)
      have y2:=Qex hcb ba bd' (k+1) (by omega)
      have es:sm (plcT c a d) (k+1)=sm (plcT c a d) k+plcT c a d k:=rfl
      rw [es]at y2
      have a1:=Qf1 (Qaw y1 (by decide)) (Qaw t4 (by decide)) (Qaw y2 (by decide))
      rw [←es]at a1
      clear y1 y2 t1 t2 t3 t4 es eT hP
      generalize hX:sm (plcT c a d) (k+1)=X at*
      generalize sm (plcT c a d) k=Y at*
      generalize plcT c a d k=T at*
      generalize a^k*d^(5-k)=U at*
      generalize a^k=U1 at*
      generalize d^(5-k)=U2 at*
      repeat (first|(simp -implicitDefEqProofs only [go_sem,Nat.reduceAdd,Nat.reduceMul,Nat.reduceEqDiff,Nat.reduceLT,Nat.reduceLeDiff,Nat.reduceSub,Nat.reduceBEq,reduceIte,reduceCtorEq,Int.reduceEq,Int.reduceNe,Nat.reduceBneDiff,Int.reduceLE,Int.reduceLT,Int.reduceToNat,Int.reduceAdd,Int.reduceSub,Int.reduceMul,Int.reduceNeg,wPV,hB',n0,hgk,hwk2,w5,sel,at3,Nat.reduceLT,Int.toNat_natCast,List.length_map])|((with_reducible refine Qab (o1) ?_ ?_ ?_);(with_reducible rfl);rfl)|((with_reducible refine Qab (q1) ?_ ?_ ?_);(with_reducible rfl);rfl)|((with_reducible refine Qab (q2) ?_ ?_ ?_);(with_reducible rfl);rfl)|((with_reducible refine Qab (mm1) ?_ ?_ ?_);(with_reducible rfl);rfl)|((with_reducible refine Qab (mm2) ?_ ?_ ?_);(with_reducible rfl);rfl)|((with_reducible refine Qab (a1) ?_ ?_ ?_);(with_reducible rfl);rfl)|(with_reducible exact Qaa _ _ (by kernel_rfl))|(with_reducible refine And.intro (Qaa _ _ (by kernel_rfl)) ?_))
      refine⟨⟨k+1,hB⟩,by simp only;omega,Qap (θ:=[(1,1),(100,100),(206,206),(301,301)]) rfl ?_ ?_⟩
      ·simp [Qaf,lkp,ren1,ren0,Qav,Qa9]
      ·simp only [hX]
       exact⟨⟨rfl,rfl,rfl,rfl,rfl,.inr ⟨rfl,_,_,rfl,rfl,rfl,rfl⟩⟩,⟨rfl,rfl,rfl,rfl,rfl,.inr ⟨rfl,_,_,rfl,rfl,rfl,rfl⟩⟩,⟨rfl,rfl,rfl,rfl,rfl,.inr ⟨rfl,_,_,rfl,rfl,rfl,rfl⟩⟩,⟨rfl,rfl,rfl,rfl,rfl,.inr ⟨rfl,_,_,rfl,rfl,rfl,rfl⟩⟩,trivial⟩
     ·have hB':=ltF hB
      obtain rfl:k=c.length:=by omega
      have gg:=Qp5 (Qaw bGi (by decide)) (Qaw bPi (by decide))
      rw [Int.natAbs_natCast,←hGs]at gg
      rw [hP]at gg
      generalize hX:sm (plcT c a d) c.length=X at*
      repeat (first|(simp -implicitDefEqProofs only [go_sem,Nat.reduceAdd,Nat.reduceMul,Nat.reduceEqDiff,Nat.reduceLT,Nat.reduceLeDiff,Nat.reduceSub,Nat.reduceBEq,reduceIte,reduceCtorEq,Int.reduceEq,Int.reduceNe,Nat.reduceBneDiff,Int.reduceLE,Int.reduceLT,Int.reduceToNat,Int.reduceAdd,Int.reduceSub,Int.reduceMul,Int.reduceNeg,wPV,hB',sel,at3,Nat.reduceLT,List.length_map])|((with_reducible refine Qab (gg) ?_ ?_ ?_);(with_reducible rfl);rfl)|(with_reducible exact Qaa _ _ (by kernel_rfl))|(with_reducible refine And.intro (Qaa _ _ (by kernel_rfl)) ?_))
      refine⟨⟨0+1,hA⟩,by simp only;omega,Qap (θ:=[(1,1),(100,100),(206,206),(301,301)]) rfl ?_ ?_⟩
      ·simp [Qaf,lkp,ren1,ren0,Qav,Qa9]
      ·simp only [at3,hP,hX]
       exact⟨⟨rfl,rfl,rfl,rfl,rfl,.inr ⟨rfl,_,_,rfl,rfl,rfl,rfl⟩⟩,⟨rfl,rfl,rfl,rfl,rfl,.inr ⟨rfl,_,_,rfl,rfl,rfl,rfl⟩⟩,⟨rfl,rfl,rfl,rfl,rfl,.inr ⟨rfl,_,_,rfl,rfl,rfl,rfl⟩⟩,⟨rfl,rfl,rfl,rfl,rfl,.inr ⟨rfl,_,_,rfl,rfl,rfl,rfl⟩⟩,trivial⟩
   ·skip
    obtain rfl:i=1:=hi0
    have hm:s.ax.getD 1 []=s.ax[1]'hA:=rfl
    have hP:plP s a d 1=sm (plcT (s.ax[1]'hA) a d) (s.ax[1]'hA).length:=rfl
    have hcx:=hc (s.ax[1]) (List.getElem_mem hA)
    have hlx:=h6 (s.ax[1]) (List.getElem_mem hA)
    have bPi:=bP 1 (by omega)
    have bGi:=bG 1 (by omega)
    have hGs:=Qew s a d 1
    generalize s.ax[1]'hA=c at*
    repeat (first|(simp -implicitDefEqProofs only [go_sem,Nat.reduceAdd,Nat.reduceMul,Nat.reduceEqDiff,Nat.reduceLT,Nat.reduceLeDiff,Nat.reduceSub,Nat.reduceBEq,reduceIte,reduceCtorEq,Int.reduceEq,Int.reduceNe,Nat.reduceBneDiff,Int.reduceLE,Int.reduceLT,Int.reduceToNat,Int.reduceAdd,Int.reduceSub,Int.reduceMul,Int.reduceNeg,hA',hx,Int.toNat_natCast,List.length_map,at3,Nat.reduceLT])|(with_reducible exact Qaa _ _ (by kernel_rfl))|(with_reducible refine And.intro (Qaa _ _ (by kernel_rfl)) ?_))
    refine Qa5 mixed (fun k:{k:Nat // k≤c.length}=>St.of [(1,.int .i64 a),(2,.int .i64 d),(6,.bp 1 8 0 0),(7,.bp 100 6 0 0),(8,.bp 206 2 0 0),(9,.bp 301 2 0 0),(22,.agg [Qa9 s.x,Qa9 s.y,Qa9 s.z]),(23,.int .i64 1),(10,.int .i64 1),(27,Qa9 c),(28,.int .i64 (c.length:Int)),(29,.int .i64 (k.1:Int))]
     [(1,{els:=[.agg [.bool false,.str ⟨#[]⟩,.bool false,.str ⟨#[]⟩,.bool false,.str ⟨#[]⟩,.bool false,.str ⟨#[]⟩]],esz:=8,ety:=122,fro:=0,live:=true,arr:=false}),(100,{els:=[w3PV (sel (plP s a d) 1 0 (sm (plcT c a d) k.1)) (sel (plP s a d) 1 1 (sm (plcT c a d) k.1)) (sel (plP s a d) 1 2 (sm (plcT c a d) k.1))],esz:=6,ety:=127,fro:=0,live:=true,arr:=false}),(206,{els:=[wPV O],esz:=2,ety:=52,fro:=0,live:=true,arr:=false}),(301,{els:=[wPV ((plG s a d 1:Nat):Int)],esz:=2,ety:=52,fro:=0,live:=true,arr:=false})]) (fun k=>c.length-k.1) ⟨0,Nat.zero_le _⟩ ?_ ?_
    ·refine Qap (θ:=[(1,1),(100,100),(206,206),(301,301)]) rfl ?_ ?_
     ·simp [Qaf,lkp,ren1,ren0,Qav,Qa9]
     ·refine⟨⟨rfl,rfl,rfl,rfl,rfl,.inr ⟨rfl,_,_,rfl,rfl,rfl,rfl⟩⟩,⟨rfl,rfl,rfl,rfl,rfl,.inr ⟨rfl,_,_,rfl,rfl,?_,rfl⟩⟩,⟨rfl,rfl,rfl,rfl,rfl,.inr ⟨rfl,_,_,rfl,rfl,rfl,rfl⟩⟩,⟨rfl,rfl,rfl,rfl,rfl,.inr ⟨rfl,_,_,rfl,rfl,rfl,rfl⟩⟩,trivial⟩
      simp only [sel,at3,sm]
      rfl
    ·rintro⟨k,hk⟩
     by_cases hB:k<c.length
     ·have hB':=ltT hB
      have n0:=nnT k
      have hgk:=Qe6 c k hB
      have hwk2:=Qal (a:=k) (by omega)
      have w5:IntKind.i64.wrap (5-(k:Int))=((5-k:Nat):Int):=by rw [Qai (by omega) (by omega)];omega
      obtain⟨k1,k2⟩:=hcx _ (List.getElem_mem hB)
      have hcb:bd 64 c:=fun x hx=>Qbs (hcx x hx)
      have x1:=hcb _ (List.getElem_mem hB)
      have o1:=Qgj c[k] k1 k2
      have q1:=Qe5 a k 64 ha.1 ha.2 (by omega) (by decide) ba
      have q2:=Qe5 d (5-k) 64 hd.1 hd.2 (by omega) (by decide) bd'
      obtain⟨t1,t2,t3,t4⟩:=Qm7 hcb ba bd' k (by omega)
      have mm1:=Qgt (Qaw t1 (by decide)) (Qaw t2 (by decide)) (Qaw t3 (by decide))
      have eT:plcT c a d k=c[k]*(a^k*d^(5-k)):=by unfold plcT;rw [Qk9 hB]
      rw [eT]at t4
      have mm2:=Qgt (Qaw x1 (by decide)) (Qaw t3 (by decide)) (Qaw t4 (by decide))
      rw [←eT]at mm2 t4
      have y1:=Qex hcb ba bd' k (by omega)
      have y2:=Qex hcb ba bd' (k+1) (by omega)
      have es:sm (plcT c a d) (k+1)=sm (plcT c a d) k+plcT c a d k:=rfl
      rw [es]at y2
      have a1:=Qf1 (Qaw y1 (by decide)) (Qaw t4 (by decide)) (Qaw y2 (by decide))
      rw [←es]at a1
      clear y1 y2 t1 t2 t3 t4 es eT hP
      generalize hX:sm (plcT c a d) (k+1)=X at*
      generalize sm (plcT c a d) k=Y at*
      generalize plcT c a d k=T at*
      generalize a^k*d^(5-k)=U at*
      generalize a^k=U1 at*
      generalize d^(5-k)=U2 at*
      repeat (first|(simp -implicitDefEqProofs only [go_sem,Nat.reduceAdd,Nat.reduceMul,Nat.reduceEqDiff,Nat.reduceLT,Nat.reduceLeDiff,Nat.reduceSub,Nat.reduceBEq,reduceIte,reduceCtorEq,Int.reduceEq,Int.reduceNe,Nat.reduceBneDiff,Int.reduceLE,Int.reduceLT,Int.reduceToNat,Int.reduceAdd,Int.reduceSub,Int.reduceMul,Int.reduceNeg,wPV,hB',n0,hgk,hwk2,w5,sel,at3,Nat.reduceLT,Int.toNat_natCast,List.length_map])|((with_reducible refine Qab (o1) ?_ ?_ ?_);(with_reducible rfl);rfl)|((with_reducible refine Qab (q1) ?_ ?_ ?_);(with_reducible rfl);rfl)|((with_reducible refine Qab (q2) ?_ ?_ ?_);(with_reducible rfl);rfl)|((with_reducible refine Qab (mm1) ?_ ?_ ?_);(with_reducible rfl);rfl)|((with_reducible refine Qab (mm2) ?_ ?_ ?_);(with_reducible rfl);rfl)|((with_reducible refine Qab (a1) ?_ ?_ ?_);(with_reducible rfl);rfl)|(with_reducible exact Qaa _ _ (by kernel_rfl))|(with_reducible refine And.intro (Qaa _ _ (by kernel_rfl)) ?_))
      refine⟨⟨k+1,hB⟩,by simp only;omega,Qap (θ:=[(1,1),(100,100),(206,206),(301,301)]) rfl ?_ ?_⟩
      ·simp [Qaf,lkp,ren1,ren0,Qav,Qa9]
      ·simp only [hX]
       exact⟨⟨rfl,rfl,rfl,rfl,rfl,.inr ⟨rfl,_,_,rfl,rfl,rfl,rfl⟩⟩,⟨rfl,rfl,rfl,rfl,rfl,.inr ⟨rfl,_,_,rfl,rfl,rfl,rfl⟩⟩,⟨rfl,rfl,rfl,rfl,rfl,.inr ⟨rfl,_,_,rfl,rfl,rfl,rfl⟩⟩,⟨rfl,rfl,rfl,rfl,rfl,.inr ⟨rfl,_,_,rfl,rfl,rfl,rfl⟩⟩,trivial⟩
     ·have hB':=ltF hB
      obtain rfl:k=c.length:=by omega
      have gg:=Qp5 (Qaw bGi (by decide)) (Qaw bPi (by decide))
      rw [Int.natAbs_natCast,←hGs]at gg
      rw [hP]at gg
      generalize hX:sm (plcT c a d) c.length=X at*
      repeat (first|(simp -implicitDefEqProofs only [go_sem,Nat.reduceAdd,Nat.reduceMul,Nat.reduceEqDiff,Nat.reduceLT,Nat.reduceLeDiff,Nat.reduceSub,Nat.reduceBEq,reduceIte,reduceCtorEq,Int.reduceEq,Int.reduceNe,Nat.reduceBneDiff,Int.reduceLE,Int.reduceLT,Int.reduceToNat,Int.reduceAdd,Int.reduceSub,Int.reduceMul,Int.reduceNeg,wPV,hB',sel,at3,Nat.reduceLT,List.length_map])|((with_reducible refine Qab (gg) ?_ ?_ ?_);(with_reducible rfl);rfl)|(with_reducible exact Qaa _ _ (by kernel_rfl))|(with_reducible refine And.intro (Qaa _ _ (by kernel_rfl)) ?_))
      refine⟨⟨1+1,hA⟩,by simp only;omega,Qap (θ:=[(1,1),(100,100),(206,206),(301,301)]) rfl ?_ ?_⟩
      ·simp [Qaf,lkp,ren1,ren0,Qav,Qa9]
      ·simp only [at3,hP,hX]
       exact⟨⟨rfl,rfl,rfl,rfl,rfl,.inr ⟨rfl,_,_,rfl,rfl,rfl,rfl⟩⟩,⟨rfl,rfl,rfl,rfl,rfl,.inr ⟨rfl,_,_,rfl,rfl,rfl,rfl⟩⟩,⟨rfl,rfl,rfl,rfl,rfl,.inr ⟨rfl,_,_,rfl,rfl,rfl,rfl⟩⟩,⟨rfl,rfl,rfl,rfl,rfl,.inr ⟨rfl,_,_,rfl,rfl,rfl,rfl⟩⟩,trivial⟩
   ·skip
    obtain rfl:i=2:=hi0
    have hm:s.ax.getD 2 []=s.ax[2]'hA:=rfl
    have hP:plP s a d 2=sm (plcT (s.ax[2]'hA) a d) (s.ax[2]'hA).length:=rfl
    have hcx:=hc (s.ax[2]) (List.getElem_mem hA)
    have hlx:=h6 (s.ax[2]) (List.getElem_mem hA)
    have bPi:=bP 2 (by omega)
    have bGi:=bG 2 (by omega)
    have hGs:=Qew s a d 2
    generalize s.ax[2]'hA=c at*
    repeat (first|(simp -implicitDefEqProofs only [go_sem,Nat.reduceAdd,Nat.reduceMul,Nat.reduceEqDiff,Nat.reduceLT,Nat.reduceLeDiff,Nat.reduceSub,Nat.reduceBEq,reduceIte,reduceCtorEq,Int.reduceEq,Int.reduceNe,Nat.reduceBneDiff,Int.reduceLE,Int.reduceLT,Int.reduceToNat,Int.reduceAdd,Int.reduceSub,Int.reduceMul,Int.reduceNeg,hA',hx,Int.toNat_natCast,List.length_map,at3,Nat.reduceLT])|(with_reducible exact Qaa _ _ (by kernel_rfl))|(with_reducible refine And.intro (Qaa _ _ (by kernel_rfl)) ?_))
    refine Qa5 mixed (fun k:{k:Nat // k≤c.length}=>St.of [(1,.int .i64 a),(2,.int .i64 d),(6,.bp 1 8 0 0),(7,.bp 100 6 0 0),(8,.bp 206 2 0 0),(9,.bp 301 2 0 0),(22,.agg [Qa9 s.x,Qa9 s.y,Qa9 s.z]),(23,.int .i64 2),(10,.int .i64 2),(27,Qa9 c),(28,.int .i64 (c.length:Int)),(29,.int .i64 (k.1:Int))]
     [(1,{els:=[.agg [.bool false,.str ⟨#[]⟩,.bool false,.str ⟨#[]⟩,.bool false,.str ⟨#[]⟩,.bool false,.str ⟨#[]⟩]],esz:=8,ety:=122,fro:=0,live:=true,arr:=false}),(100,{els:=[w3PV (sel (plP s a d) 2 0 (sm (plcT c a d) k.1)) (sel (plP s a d) 2 1 (sm (plcT c a d) k.1)) (sel (plP s a d) 2 2 (sm (plcT c a d) k.1))],esz:=6,ety:=127,fro:=0,live:=true,arr:=false}),(206,{els:=[wPV O],esz:=2,ety:=52,fro:=0,live:=true,arr:=false}),(301,{els:=[wPV ((plG s a d 2:Nat):Int)],esz:=2,ety:=52,fro:=0,live:=true,arr:=false})]) (fun k=>c.length-k.1) ⟨0,Nat.zero_le _⟩ ?_ ?_
    ·refine Qap (θ:=[(1,1),(100,100),(206,206),(301,301)]) rfl ?_ ?_
     ·simp [Qaf,lkp,ren1,ren0,Qav,Qa9]
     ·refine⟨⟨rfl,rfl,rfl,rfl,rfl,.inr ⟨rfl,_,_,rfl,rfl,rfl,rfl⟩⟩,⟨rfl,rfl,rfl,rfl,rfl,.inr ⟨rfl,_,_,rfl,rfl,?_,rfl⟩⟩,⟨rfl,rfl,rfl,rfl,rfl,.inr ⟨rfl,_,_,rfl,rfl,rfl,rfl⟩⟩,⟨rfl,rfl,rfl,rfl,rfl,.inr ⟨rfl,_,_,rfl,rfl,rfl,rfl⟩⟩,trivial⟩
      simp only [sel,at3,sm]
      rfl
    ·rintro⟨k,hk⟩
     by_cases hB:k<c.length
     ·have hB':=ltT hB
      have n0:=nnT k
      have hgk:=Qe6 c k hB
      have hwk2:=Qal (a:=k) (by omega)
      have w5:IntKind.i64.wrap (5-(k:Int))=((5-k:Nat):Int):=by rw [Qai (by omega) (by omega)];omega
      obtain⟨k1,k2⟩:=hcx _ (List.getElem_mem hB)
      have hcb:bd 64 c:=fun x hx=>Qbs (hcx x hx)
      have x1:=hcb _ (List.getElem_mem hB)
      have o1:=Qgj c[k] k1 k2
      have q1:=Qe5 a k 64 ha.1 ha.2 (by omega) (by decide) ba
      have q2:=Qe5 d (5-k) 64 hd.1 hd.2 (by omega) (by decide) bd'
      obtain⟨t1,t2,t3,t4⟩:=Qm7 hcb ba bd' k (by omega)
      have mm1:=Qgt (Qaw t1 (by decide)) (Qaw t2 (by decide)) (Qaw t3 (by decide))
      have eT:plcT c a d k=c[k]*(a^k*d^(5-k)):=by unfold plcT;rw [Qk9 hB]
      rw [eT]at t4
      have mm2:=Qgt (Qaw x1 (by decide)) (Qaw t3 (by decide)) (Qaw t4 (by decide))
      rw [←eT]at mm2 t4
      have y1:=Qex hcb ba bd' k (by omega)
      have y2:=Qex hcb ba bd' (k+1) (by omega)
      have es:sm (plcT c a d) (k+1)=sm (plcT c a d) k+plcT c a d k:=rfl
      rw [es]at y2
      have a1:=Qf1 (Qaw y1 (by decide)) (Qaw t4 (by decide)) (Qaw y2 (by decide))
      rw [←es]at a1
      clear y1 y2 t1 t2 t3 t4 es eT hP
      generalize hX:sm (plcT c a d) (k+1)=X at*
      generalize sm (plcT c a d) k=Y at*
      generalize plcT c a d k=T at*
      generalize a^k*d^(5-k)=U at*
      generalize a^k=U1 at*
      generalize d^(5-k)=U2 at*
      repeat (first|(simp -implicitDefEqProofs only [go_sem,Nat.reduceAdd,Nat.reduceMul,Nat.reduceEqDiff,Nat.reduceLT,Nat.reduceLeDiff,Nat.reduceSub,Nat.reduceBEq,reduceIte,reduceCtorEq,Int.reduceEq,Int.reduceNe,Nat.reduceBneDiff,Int.reduceLE,Int.reduceLT,Int.reduceToNat,Int.reduceAdd,Int.reduceSub,Int.reduceMul,Int.reduceNeg,wPV,hB',n0,hgk,hwk2,w5,sel,at3,Nat.reduceLT,Int.toNat_natCast,List.length_map])|((with_reducible refine Qab (o1) ?_ ?_ ?_);(with_reducible rfl);rfl)|((with_reducible refine Qab (q1) ?_ ?_ ?_);(with_reducible rfl);rfl)|((with_reducible refine Qab (q2) ?_ ?_ ?_);(with_reducible rfl);rfl)|((with_reducible refine Qab (mm1) ?_ ?_ ?_);(with_reducible rfl);rfl)|((with_reducible refine Qab (mm2) ?_ ?_ ?_);(with_reducible rfl);rfl)|((with_reducible refine Qab (a1) ?_ ?_ ?_);(with_reducible rfl);rfl)|(with_reducible exact Qaa _ _ (by kernel_rfl))|(with_reducible refine And.intro (Qaa _ _ (by kernel_rfl)) ?_))
      refine⟨⟨k+1,hB⟩,by simp only;omega,Qap (θ:=[(1,1),(100,100),(206,206),(301,301)]) rfl ?_ ?_⟩
      ·simp [Qaf,lkp,ren1,ren0,Qav,Qa9]
      ·simp only [hX]
       exact⟨⟨rfl,rfl,rfl,rfl,rfl,.inr ⟨rfl,_,_,rfl,rfl,rfl,rfl⟩⟩,⟨rfl,rfl,rfl,rfl,rfl,.inr ⟨rfl,_,_,rfl,rfl,rfl,rfl⟩⟩,⟨rfl,rfl,rfl,rfl,rfl,.inr ⟨rfl,_,_,rfl,rfl,rfl,rfl⟩⟩,⟨rfl,rfl,rfl,rfl,rfl,.inr ⟨rfl,_,_,rfl,rfl,rfl,rfl⟩⟩,trivial⟩
     ·have hB':=ltF hB
      obtain rfl:k=c.length:=by omega
      have gg:=Qp5 (Qaw bGi (by decide)) (Qaw bPi (by decide))
      rw [Int.natAbs_natCast,←hGs]at gg
      rw [hP]at gg
      generalize hX:sm (plcT c a d) c.length=X at*
      repeat (first|(simp -implicitDefEqProofs only [go_sem,Nat.reduceAdd,Nat.reduceMul,Nat.reduceEqDiff,Nat.reduceLT,Nat.reduceLeDiff,Nat.reduceSub,Nat.reduceBEq,reduceIte,reduceCtorEq,Int.reduceEq,Int.reduceNe,Nat.reduceBneDiff,Int.reduceLE,Int.reduceLT,Int.reduceToNat,Int.reduceAdd,Int.reduceSub,Int.reduceMul,Int.reduceNeg,wPV,hB',sel,at3,Nat.reduceLT,List.length_map])|((with_reducible refine Qab (gg) ?_ ?_ ?_);(with_reducible rfl);rfl)|(with_reducible exact Qaa _ _ (by kernel_rfl))|(with_reducible refine And.intro (Qaa _ _ (by kernel_rfl)) ?_))
      refine⟨⟨2+1,hA⟩,by simp only;omega,Qap (θ:=[(1,1),(100,100),(206,206),(301,301)]) rfl ?_ ?_⟩
      ·simp [Qaf,lkp,ren1,ren0,Qav,Qa9]
      ·simp only [at3,hP,hX]
       exact⟨⟨rfl,rfl,rfl,rfl,rfl,.inr ⟨rfl,_,_,rfl,rfl,rfl,rfl⟩⟩,⟨rfl,rfl,rfl,rfl,rfl,.inr ⟨rfl,_,_,rfl,rfl,rfl,rfl⟩⟩,⟨rfl,rfl,rfl,rfl,rfl,.inr ⟨rfl,_,_,rfl,rfl,rfl,rfl⟩⟩,⟨rfl,rfl,rfl,rfl,rfl,.inr ⟨rfl,_,_,rfl,rfl,rfl,rfl⟩⟩,trivial⟩
  ·have hA':((i:Int)<3)=False:=eq_false (by omega)
   obtain rfl:i=3:=by omega
   have G0:=Qqp ho hd1 3 (s:=s) (d:=d) (a:=a)
   have bG3:=Qtw (bG 3 (by decide)) (by decide)
   have r0:=Qk5 (bP 0 (by decide)) (by decide) bG3 (by omega)
   have r1:=Qk5 (bP 1 (by decide)) (by decide) bG3 (by omega)
   have r2:=Qk5 (bP 2 (by decide)) (by decide) bG3 (by omega)
   have r3:=Qk5 bod (by decide) bG3 (by omega)
   unfold plV
   rw [hO]
   have z0:at3 (plP s a d) 3 0=plP s a d 0:=rfl
   have z1:at3 (plP s a d) 3 1=plP s a d 1:=rfl
   have z2:at3 (plP s a d) 3 2=plP s a d 2:=rfl
   simp only [z0,z1,z2]
   clear z0 z1 z2
   generalize plP s a d 0=X0 at*
   generalize plP s a d 1=X1 at*
   generalize plP s a d 2=X2 at*
   generalize ((plG s a d 3:Nat):Int)=G at*
   generalize X0/G=Y0 at*
   generalize X1/G=Y1 at*
   generalize X2/G=Y2 at*
   generalize O/G=Y3 at*
   repeat (first|(simp -implicitDefEqProofs only [go_sem,Nat.reduceAdd,Nat.reduceMul,Nat.reduceEqDiff,Nat.reduceLT,Nat.reduceLeDiff,Nat.reduceSub,Nat.reduceBEq,reduceIte,reduceCtorEq,Int.reduceEq,Int.reduceNe,Nat.reduceBneDiff,Int.reduceLE,Int.reduceLT,Int.reduceToNat,Int.reduceAdd,Int.reduceSub,Int.reduceMul,Int.reduceNeg,hA',wPV,at3,Nat.reduceLT])|((with_reducible refine Qab (r0) ?_ ?_ ?_);(with_reducible rfl);rfl)|((with_reducible refine Qab (r1) ?_ ?_ ?_);(with_reducible rfl);rfl)|((with_reducible refine Qab (r2) ?_ ?_ ?_);(with_reducible rfl);rfl)|((with_reducible refine Qab (r3) ?_ ?_ ?_);(with_reducible rfl);rfl)|(with_reducible exact Qaa _ _ (by kernel_rfl))|(with_reducible refine And.intro (Qaa _ _ (by kernel_rfl)) ?_))
end Go.Proofs.YtciddhkfbgkejaaDoor

namespace Go.Proofs.YtciddhkfbgkejaaDoor
open Go.Vl Go.RowKit Go.Dg
theorem ml1:(1≤maxLen)=True:=eq_true (by unfold maxLen;omega)
theorem ml2:(2≤maxLen)=True:=eq_true (by unfold maxLen;omega)
theorem ml3:(3≤maxLen)=True:=eq_true (by unfold maxLen;omega)
theorem ml4:(4≤maxLen)=True:=eq_true (by unfold maxLen;omega)
attribute [go_sem] ml1 ml2 ml3 ml4
end Go.Proofs.YtciddhkfbgkejaaDoor

namespace Go.Proofs.YtciddhkfbgkejaaDoor
open Go.Vl Go.RowKit Go.Dg
theorem Zad (s:Sg) (a d:Int):plV s a d=Qad (plQ s a d 0) (plQ s a d 1) (plQ s a d 2) (plO s a d):=rfl
theorem Zae {x y:Int} {B:Nat} (hx:x.natAbs<2^B) (hy:0<y):(x/y).natAbs<2^(B+1):=by
 rw [Nat.pow_succ]
 have h2:0<2^B:=Nat.two_pow_pos B
 rcases Qtu hx hy with h|h<;>omega
theorem Zjm {m B:Nat} (h:m<2^B) (hk:B≤2000):m<2^2000:=Qqn (C:=2000) h hk
theorem Zjn {s:Sg} {a d:Int} (hs:okSg s) (h6: ∀c∈s.ax,c.length≤6) (ho:1≤s.o) (ha:i64 a) (hd:i64 d) (hd1:1≤d):(∀i,i<3→(plQ s a d i).natAbs<2^2000)∧(plO s a d).natAbs<2^2000:=by
 have hcB: ∀c∈s.ax,bd 64 c:=fun c hx x hx2=>Qbs (hs.c c hx x hx2)
 have bP:=Qxn hcB h6 (Qbs ha) (Qbs hd)
 have bo:=Zbf (s:=s) (Qbs hs.o) (Qbs hd)
 have hg:=Qqp ho hd1 3 (s:=s) (a:=a)
 exact⟨fun i hi=>Zjm (Zae (bP i hi) (by omega)) (by decide),Zjm (Zae bo (by omega)) (by decide)⟩
theorem Qz3 (x y z o x' y' z' o':Int):(decide (x<0)==decide (x'<0)&&(mB x==mB x'&&(decide (y<0)==decide (y'<0)&&(mB y==mB y'&&(decide (z<0)==decide (z'<0)&&(mB z==mB z'&&(decide (o<0)==decide (o'<0)&&mB o==mB o')))))))=
  (decide (x=x')&&(decide (y=y')&&(decide (z=z')&&decide (o=o')))):=by
 rw [←Qk6 x x',←Qk6 y y',←Qk6 z z',←Qk6 o o']
 simp only [Bool.and_assoc]
theorem Q4q (a b:Sg) (ha:okSg a) (hb:okSg b) (va:Qbd a=true) (vb:Qbd b=true):Qae Tryd.prog 45 [sgPV a,sgPV b] (.bool (Qio a b)):=by
 have o1:i64 1:=by unfold i64;omega
 have o0:i64 0:=by unfold i64;omega
 have t1:=Qn6 a 1 1 ha (Qg8 va) (Qg9 va) o1 o1 (by decide)
 have t2:=Qn6 b 0 1 hb (Qg8 vb) (Qg9 vb) o0 o1 (by decide)
 rw [Zad]at t1 t2
 unfold Qio Q94
 generalize plQ a 1 1 0=x0 at*
 generalize plQ a 1 1 1=x1 at*
 generalize plQ a 1 1 2=x2 at*
 generalize plO a 1 1=x3 at*
 generalize plQ b 0 1 0=y0 at*
 generalize plQ b 0 1 1=y1 at*
 generalize plQ b 0 1 2=y2 at*
 generalize plO b 0 1=y3 at*
 by_cases h:a.t=b.f
 ·have h':(a.t==b.f)=true:=by rw [h];exact beq_self_eq_true _
  rw [decide_eq_true h,Bool.true_and]
  refine Qac (tb:=[]) 17 [.tmp 4] [0,1,2,3,4] mixed Tryd.func45 rfl (by kernel_rfl) (by kernel_rfl) (by kernel_rfl) (by kernel_rfl) ?_
  repeat (first|(simp -implicitDefEqProofs only [go_sem,Nat.reduceAdd,Nat.reduceMul,Nat.reduceEqDiff,Nat.reduceLT,Nat.reduceLeDiff,Nat.reduceSub,Nat.reduceBEq,reduceIte,reduceCtorEq,Int.reduceEq,Int.reduceNe,Nat.reduceBneDiff,Int.reduceLE,Int.reduceLT,Int.reduceToNat,Int.reduceAdd,Int.reduceSub,Int.reduceMul,Int.reduceNeg,h',Qz3])|((with_reducible refine Qab (t1) ?_ ?_ ?_);(with_reducible rfl);rfl)|((with_reducible refine Qab (t2) ?_ ?_ ?_);(with_reducible rfl);rfl)|(with_reducible exact Qaa _ _ (by kernel_rfl))|(with_reducible refine And.intro (Qaa _ _ (by kernel_rfl)) ?_))
 ·have h':(a.t==b.f)=false:=beq_eq_false_iff_ne.2 h
  rw [decide_eq_false h,Bool.false_and]
  refine Qac (tb:=[]) 17 [.tmp 4] [0,1,2,3,4] mixed Tryd.func45 rfl (by kernel_rfl) (by kernel_rfl) (by kernel_rfl) (by kernel_rfl) ?_
  repeat (first|(simp -implicitDefEqProofs only [go_sem,Nat.reduceAdd,Nat.reduceMul,Nat.reduceEqDiff,Nat.reduceLT,Nat.reduceLeDiff,Nat.reduceSub,Nat.reduceBEq,reduceIte,reduceCtorEq,Int.reduceEq,Int.reduceNe,Nat.reduceBneDiff,Int.reduceLE,Int.reduceLT,Int.reduceToNat,Int.reduceAdd,Int.reduceSub,Int.reduceMul,Int.reduceNeg,h'])|(with_reducible exact Qaa _ _ (by kernel_rfl))|(with_reducible refine And.intro (Qaa _ _ (by kernel_rfl)) ?_))
def Qc4 (p:List Sg):PV:= .slc (p.map sgPV)
attribute [go_sem] Qc4
theorem Qf2 (p:List Sg) (i:Nat) (h:i<p.length):(p.map sgPV)[i]? =some (.agg [.int .i64 p[i].f,.int .i64 p[i].t,.int .i64 p[i].o,.slc (p[i].x.map (PV.int .i64)),.slc (p[i].y.map (PV.int .i64)),.slc (p[i].z.map (PV.int .i64))]):=by
 rw [List.getElem?_map,List.getElem?_eq_getElem h];rfl
set_option maxHeartbeats 1000000 in
theorem Qf3 (p:List Sg) (hp: ∀s∈p,okSg s) (hl:p.length≤1000000):Qae Tryd.prog 29 [Qc4 p] (.bool (Qbq p)):=by
 refine Qac (tb:=[]) 38 [.tmp 2] [0,2,3,4,5,6,7,8,28] mixed Tryd.func29 rfl (by kernel_rfl) (by kernel_rfl) (by kernel_rfl) (by kernel_rfl) ?_
 repeat (first|(simp -implicitDefEqProofs only [go_sem,Nat.reduceAdd,Nat.reduceMul,Nat.reduceEqDiff,Nat.reduceLT,Nat.reduceLeDiff,Nat.reduceSub,Nat.reduceBEq,reduceIte,reduceCtorEq,Int.reduceEq,Int.reduceNe,Nat.reduceBneDiff,Int.reduceLE,Int.reduceLT,Int.reduceToNat,Int.reduceAdd,Int.reduceSub,Int.reduceMul,Int.reduceNeg,List.length_map])|(with_reducible exact Qaa _ _ (by kernel_rfl))|(with_reducible refine And.intro (Qaa _ _ (by kernel_rfl)) ?_))
 have z0:0≤p.length∧vpTo p 0=true:=⟨Nat.zero_le _,rfl⟩
 refine Qa5 mixed (fun i:{i:Nat // i≤p.length∧vpTo p i=true}=>St.of [(0,Qc4 p),(2,.bool false),(5,Qc4 p),(6,.int .i64 (p.length:Int)),(7,.int .i64 (i.1:Int))] []) (fun i=>p.length-i.1) ⟨0,z0⟩ ?_ ?_
 ·exact Qbl (by simp [Qaf,lkp,ren1,ren0,Qc4])
 ·rintro⟨i,hi,hall⟩
  by_cases hA:i<p.length
  ·have hA':=ltT hA
   have n0:=nnT i
   have hg:=Qf2 p i hA
   have hwk:=Qal (a:=i) (by omega)
   have ok1:=hp _ (List.getElem_mem hA)
   have hv:=Qtv p[i] ok1
   have hgD:=sgD hA
   cases hV:Qbd p[i]with
   |false=>
    have e:Qbq p=false:=Ql3 (j:=i) (by unfold vpAt;rw [hgD,hV];rfl) hA
    rw [hV]at hv
    unfold sgPV Qa9 at hv
    repeat (first|(simp -implicitDefEqProofs only [go_sem,Nat.reduceAdd,Nat.reduceMul,Nat.reduceEqDiff,Nat.reduceLT,Nat.reduceLeDiff,Nat.reduceSub,Nat.reduceBEq,reduceIte,reduceCtorEq,Int.reduceEq,Int.reduceNe,Nat.reduceBneDiff,Int.reduceLE,Int.reduceLT,Int.reduceToNat,Int.reduceAdd,Int.reduceSub,Int.reduceMul,Int.reduceNeg,hA',n0,hg,Int.toNat_natCast,List.length_map,e])|((with_reducible refine Qab (hv) ?_ ?_ ?_);(with_reducible rfl);rfl)|(with_reducible exact Qaa _ _ (by kernel_rfl))|(with_reducible refine And.intro (Qaa _ _ (by kernel_rfl)) ?_))
   |true=>
    rw [hV]at hv
    unfold sgPV Qa9 at hv
    by_cases hz:i=0
    ·have hz':((0:Int)<(i:Int))=False:=eq_false (by omega)
     have hn:vpTo p (i+1)=true:=by rw [Qow,hall];unfold vpAt;rw [hgD,hV,decide_eq_true hz];rfl
     repeat (first|(simp -implicitDefEqProofs only [go_sem,Nat.reduceAdd,Nat.reduceMul,Nat.reduceEqDiff,Nat.reduceLT,Nat.reduceLeDiff,Nat.reduceSub,Nat.reduceBEq,reduceIte,reduceCtorEq,Int.reduceEq,Int.reduceNe,Nat.reduceBneDiff,Int.reduceLE,Int.reduceLT,Int.reduceToNat,Int.reduceAdd,Int.reduceSub,Int.reduceMul,Int.reduceNeg,hA',n0,hg,hwk,hz',Int.toNat_natCast,List.length_map])|((with_reducible refine Qab (hv) ?_ ?_ ?_);(with_reducible rfl);rfl)|(with_reducible exact Qaa _ _ (by kernel_rfl))|(with_reducible refine And.intro (Qaa _ _ (by kernel_rfl)) ?_))
     refine⟨⟨i+1,hA,hn⟩,by simp only;omega,Qbl (by simp [Qaf,lkp,ren1,ren0,Qc4])⟩
    ·have hz':((0:Int)<(i:Int))=True:=eq_true (by omega)
     have hA1:i-1<p.length:=by omega
     have n1:=nnT (i-1)
     have hg1:=Qf2 p (i-1) hA1
     have w1:IntKind.i64.wrap ((i:Int)-1)=((i-1:Nat):Int):=by rw [Qai (by omega) (by omega)];omega
     have hV1:Qbd p[i-1]=true:=by have:=Ql4 hall (j:=i-1) (by omega);rwa [sgD hA1]at this
     have hm:=Q4q p[i-1] p[i] (hp _ (List.getElem_mem hA1)) ok1 hV1 hV
     have ev:vpAt p i=Qio p[i-1] p[i]:=by unfold vpAt;rw [hgD,sgD hA1,hV,decide_eq_false hz];simp
     cases hM:Qio p[i-1] p[i]with
     |false=>
      have e:Qbq p=false:=Ql3 (j:=i) (ev.trans hM) hA
      rw [hM]at hm
      unfold sgPV Qa9 at hm
      repeat (first|(simp -implicitDefEqProofs only [go_sem,Nat.reduceAdd,Nat.reduceMul,Nat.reduceEqDiff,Nat.reduceLT,Nat.reduceLeDiff,Nat.reduceSub,Nat.reduceBEq,reduceIte,reduceCtorEq,Int.reduceEq,Int.reduceNe,Nat.reduceBneDiff,Int.reduceLE,Int.reduceLT,Int.reduceToNat,Int.reduceAdd,Int.reduceSub,Int.reduceMul,Int.reduceNeg,hA',n0,hg,hz',w1,n1,hg1,Int.toNat_natCast,List.length_map,e])|((with_reducible refine Qab (hv) ?_ ?_ ?_);(with_reducible rfl);rfl)|((with_reducible refine Qab (hm) ?_ ?_ ?_);(with_reducible rfl);rfl)|(with_reducible exact Qaa _ _ (by kernel_rfl))|(with_reducible refine And.intro (Qaa _ _ (by kernel_rfl)) ?_))
     |true=>
      have hn:vpTo p (i+1)=true:=by rw [Qow,hall,ev,hM];rfl
      rw [hM]at hm
      unfold sgPV Qa9 at hm
      repeat (first|(simp -implicitDefEqProofs only [go_sem,Nat.reduceAdd,Nat.reduceMul,Nat.reduceEqDiff,Nat.reduceLT,Nat.reduceLeDiff,Nat.reduceSub,Nat.reduceBEq,reduceIte,reduceCtorEq,Int.reduceEq,Int.reduceNe,Nat.reduceBneDiff,Int.reduceLE,Int.reduceLT,Int.reduceToNat,Int.reduceAdd,Int.reduceSub,Int.reduceMul,Int.reduceNeg,hA',n0,hg,hwk,hz',w1,n1,hg1,Int.toNat_natCast,List.length_map])|((with_reducible refine Qab (hv) ?_ ?_ ?_);(with_reducible rfl);rfl)|((with_reducible refine Qab (hm) ?_ ?_ ?_);(with_reducible rfl);rfl)|(with_reducible exact Qaa _ _ (by kernel_rfl))|(with_reducible refine And.intro (Qaa _ _ (by kernel_rfl)) ?_))
      refine⟨⟨i+1,hA,hn⟩,by simp only;omega,Qbl (by simp [Qaf,lkp,ren1,ren0,Qc4])⟩
  ·have hA':=ltF hA
   obtain rfl:i=p.length:=by omega
   have e0:Qbq p=(decide (1≤p.length)&&decide (p.length≤256)):=by unfold Qbq;rw [hall,Bool.true_and]
   rw [e0]
   by_cases c1:1≤p.length
   ·have c1':((1:Int)≤(p.length:Int))=True:=eq_true (by omega)
    have c2':decide ((p.length:Int)≤256)=decide (p.length≤256):=by rw [decide_eq_decide];omega
    rw [decide_eq_true c1,Bool.true_and]
    repeat (first|(simp -implicitDefEqProofs only [go_sem,Nat.reduceAdd,Nat.reduceMul,Nat.reduceEqDiff,Nat.reduceLT,Nat.reduceLeDiff,Nat.reduceSub,Nat.reduceBEq,reduceIte,reduceCtorEq,Int.reduceEq,Int.reduceNe,Nat.reduceBneDiff,Int.reduceLE,Int.reduceLT,Int.reduceToNat,Int.reduceAdd,Int.reduceSub,Int.reduceMul,Int.reduceNeg,hA',c1',c2',List.length_map])|(with_reducible exact Qaa _ _ (by kernel_rfl))|(with_reducible refine And.intro (Qaa _ _ (by kernel_rfl)) ?_))
   ·have c1':((1:Int)≤(p.length:Int))=False:=eq_false (by omega)
    rw [decide_eq_false c1,Bool.false_and]
    repeat (first|(simp -implicitDefEqProofs only [go_sem,Nat.reduceAdd,Nat.reduceMul,Nat.reduceEqDiff,Nat.reduceLT,Nat.reduceLeDiff,Nat.reduceSub,Nat.reduceBEq,reduceIte,reduceCtorEq,Int.reduceEq,Int.reduceNe,Nat.reduceBneDiff,Int.reduceLE,Int.reduceLT,Int.reduceToNat,Int.reduceAdd,Int.reduceSub,Int.reduceMul,Int.reduceNeg,hA',c1',List.length_map])|(with_reducible exact Qaa _ _ (by kernel_rfl))|(with_reducible refine And.intro (Qaa _ _ (by kernel_rfl)) ?_))
end Go.Proofs.YtciddhkfbgkejaaDoor

namespace Go.Proofs.YtciddhkfbgkejaaDoor
open Go.Vl Go.RowKit Go.Dg
end Go.Proofs.YtciddhkfbgkejaaDoor
