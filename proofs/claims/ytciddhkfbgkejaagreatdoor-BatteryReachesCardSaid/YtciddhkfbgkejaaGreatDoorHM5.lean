/-
  HB6, Dbe, HM5 (merged for the claim).
-/
import Derived.Test.YtciddhkfbgkejaaGreatDoorHB4
import Derived.Test.YtciddhkfbgkejaaGreatDoorBy
import Derived.Test.YtciddhkfbgkejaaGreatDoorDbv
set_option linter.unusedSimpArgs false
set_option linter.unusedVariables false
namespace Go.Proofs.YtciddhkfbgkejaaGreatDoor
open Go.Vl Go.RowKit Go.Dg
theorem Zjl {o:Int} (h1:1≤o) (h2:o≤4294967296):fitQ 128 (fr 1 (o*o)):=by
 refine Qh5 (by decide) ?_ ?_
 ·have h:o.natAbs<2^33:=by omega
  exact Zjk (Qhw h h) (by decide)
 ·exact Int.ne_of_gt (Int.mul_pos (by omega) (by omega))
theorem Qfk {c:List Int} {o t b:Int} {k:Nat} {D:Rat} (hD:fitQ k D) (hk:k≤20000) (hc: ∀x∈c,i64 x) (h1:1≤c.length) (h6:c.length≤6) (ho:i64 o) (ho1:1≤o) (ho2:o≤4294967296) (ht:0<t) (ht2:t≤3600000) (hb: -40000≤b∧b≤40000):
  ∃q1 q2 q3 q4 q5 q6 q7 q8 q9 q10 q11 q12 q13:Rat,∃z1 z2:Int,
   Qad Tryz.prog 126 [.int .i64 1000,.int .i64 t] (rQq q1)∧Qad Tryz.prog 131 [.slc (c.map (PV.int .i64))] (rQq q2)∧Qad Tryz.prog 78 [.int .i64 1] (rI z1)∧Qad Tryz.prog 84 [rI o,rI o] (rI z2)∧
   Qad Tryz.prog 132 [rI z1,rI z2] (rQq q3)∧Qad Tryz.prog 130 [rQq q2,rQq q3] (rQq q4)∧Qad Tryz.prog 130 [rQq q1,rQq q4] (rQq q5)∧Qad Tryz.prog 129 [rQq D,rQq q5] (rQq q6)∧
   Qad Tryz.prog 126 [.int .i64 (2*b),.int .i64 1] (rQq q7)∧Qad Tryz.prog 127 [.slc (c.map (PV.int .i64)),.int .i64 o] (rQq q8)∧Qad Tryz.prog 130 [rQq q7,rQq q8] (rQq q9)∧Qad Tryz.prog 133 [rQq q6,rQq q9] (rQq q10)∧
   Qad Tryz.prog 126 [.int .i64 (b*b),.int .i64 1] (rQq q11)∧Qad Tryz.prog 126 [.int .i64 t,.int .i64 1000] (rQq q12)∧Qad Tryz.prog 130 [rQq q11,rQq q12] (rQq q13)∧Qad Tryz.prog 129 [rQq q10,rQq q13] (rQq (axR D c o t b))∧fitQ (k+4000) (axR D c o t b):=by
 have ok:=Qjy hc
 have oa:=Qa1 ho
 have hbb:=Qty hb
 have t1:fitQ 64 (fr 1000 t):=Qd7 (by decide) (by omega) (by omega)
 have t2:fitQ 3386 (rsQ c):=Q1b ok h6 (by omega)
 have t3:fitQ 128 (fr 1 (o*o)):=Zjl ho1 ho2
 have t4:=Qb5 t2 t3
 have t5:=Qb5 t1 t4
 have t6:=Qdk hD t5
 have t7:fitQ 64 (fr (2*b) 1):=Qd7 (by omega) (by decide) (by decide)
 have t8:fitQ 70 (wayR c o):=Qvy ok oa (by omega) h6
 have t9:=Qb5 t7 t8
 have t10:=Zii t6 t9
 have t11:fitQ 64 (fr (b*b) 1):=Qd7 (by omega) (by decide) (by decide)
 have t12:fitQ 64 (fr t 1000):=Qd7 (by omega) (by decide) (by decide)
 have t13:=Qb5 t11 t12
 have t14:=Qdk t10 t13
 have o33:o.natAbs<2^33:=by omega
 have oo:=Qhw o33 o33
 exact⟨fr 1000 t,rsQ c,fr 1 (o*o),_,_,_,fr (2*b) 1,wayR c o,_,_,fr (b*b) 1,fr t 1000,_,1,o*o,
  Qeb 1000 t (by unfold i64;omega) (by unfold i64;omega) (by omega),Zsh c hc h1 h6 ok,Qcj 1 (by decide) (by decide),Qe1 (Qbe o33 (by decide)) (Qbe o33 (by decide)),
  Q94 1 (o*o) 16 (by decide) (p2_k (k:=1) (by decide) (by decide)) (p2_k oo (by decide)) (Int.ne_of_gt (Int.mul_pos (by omega) (by omega))),Qjv (k:=5000) (t2.mono (by decide)) (t3.mono (by decide)) (by decide),Qjv (k:=5000) (t1.mono (by decide)) (t4.mono (by decide)) (by decide),Qmf (k:=40000) (hD.mono (by omega)) (t5.mono (by decide)) (by decide),
  Qeb (2*b) 1 (by unfold i64;omega) (by unfold i64;omega) (by decide),Zhm c o hc h1 h6 ho (by omega) ok,Qjv (k:=5000) (t7.mono (by decide)) (t8.mono (by decide)) (by decide),Zjh (k:=40000) (t6.mono (by omega)) (t9.mono (by decide)) (by decide),
  Qeb (b*b) 1 (by unfold i64;omega) (by unfold i64;omega) (by decide),Qeb t 1000 (by unfold i64;omega) (by unfold i64;omega) (by decide),Qjv (k:=5000) (t11.mono (by decide)) (t12.mono (by decide)) (by decide),Qmf (k:=40000) (t10.mono (by omega)) (t13.mono (by decide)) (by decide),t14.mono (by omega)⟩
def rdN (s:Sg) (x y z:Int):Nat→Rat
 |0=>fr 0 1
 |1=>axR (fr 0 1) s.x s.o (s.t-s.f) x
 |2=>axR (axR (fr 0 1) s.x s.o (s.t-s.f) x) s.y s.o (s.t-s.f) y
 |_=>drR s x y z
set_option maxHeartbeats 16000000 in
set_option maxRecDepth 100000 in
theorem Q98 (s:Sg) (B:Bat) (x y z:Int) (hs:okSg s) (hv:Qa2 s=true) (hB:Qat B=true) (hx: -40000≤x∧x≤40000) (hy: -40000≤y∧y≤40000) (hz: -40000≤z∧z≤40000):
  Qad Tryz.prog 76 [sgPV s,baPV B,.agg [.int .i64 x,.int .i64 y,.int .i64 z]] (rQq (Qxv s B x y z))∧fitQ 20000 (Qxv s B x y z):=by
 obtain⟨⟨v1,v2,v3,v4,v5⟩,hax, -⟩:=Qbu hv
 have hvx:=hax s.x (by simp [Sg.ax])
 have hvy:=hax s.y (by simp [Sg.ax])
 have hvz:=hax s.z (by simp [Sg.ax])
 have hcx:=hs.c s.x (by simp [Sg.ax])
 have hcy:=hs.c s.y (by simp [Sg.ax])
 have hcz:=hs.c s.z (by simp [Sg.ax])
 have hbx:=Qty hx
 have hby:=Qty hy
 have hbz:=Qty hz
 obtain⟨B1,B2,B3, -⟩:=Qb9 hB
 have hwt:IntKind.i64.wrap (s.t-s.f)=s.t-s.f:=Qah (by omega) (by omega)
 have hbt:0≤B.base*(s.t-s.f)∧B.base*(s.t-s.f)≤1000000*3600000:=⟨Int.mul_nonneg B1.1 (by omega),Int.mul_le_mul B1.2 (by omega) (by omega) (by decide)⟩
 have hwbt:IntKind.i64.wrap (B.base*(s.t-s.f))=B.base*(s.t-s.f):=Qah (by omega) (by omega)
 have g1:=Qeb (B.base*(s.t-s.f)) 1000 (by unfold i64;omega) (by unfold i64;omega) (by decide)
 have g2:=Zhm s.z s.o hcz (Qaw hvz).1 (Qaw hvz).2.1 hs.o (by omega) (Qjy hcz)
 have g3:=Qeb B.climb 100 (by unfold i64;omega) (by unfold i64;omega) (by decide)
 have ft1:fitQ 64 (fr (B.base*(s.t-s.f)) 1000):=Qd7 (by omega) (by decide) (by decide)
 have ft2:fitQ 70 (wayR s.z s.o):=Qvy (Qjy hcz) (Qa1 hs.o) (by omega) (Qaw hvz).2.1
 have ft3:fitQ 64 (fr B.climb 100):=Qd7 (by omega) (by decide) (by decide)
 have g4:=Qjv (k:=5000) (ft3.mono (by decide)) (ft2.mono (by decide)) (by decide)
 have g5:=Qmf (k:=5000) (ft1.mono (by decide)) ((Qb5 ft3 ft2).mono (by decide)) (by decide)
 have gs:=Qmc (wayR s.z s.o).num
 have g6:=Qeb 0 1 (by unfold i64;omega) (by unfold i64;omega) (by decide)
 have ft6:fitQ 64 (fr 0 1):=Qd7 (by decide) (by decide) (by decide)
 have ftb:fitQ 455 (baR s B):=by
  unfold baR
  split
  ·exact(Qdk ft1 (Qb5 ft3 ft2)).mono (by decide)
  ·exact ft1.mono (by decide)
 have hD1:fitQ 4064 (rdN s x y z 1):=by obtain⟨_,_,_,_,_,_,_,_,_,_,_,_,_,_,_,_,_,_,_,_,_,_,_,_,_,_,_,_,_,_,_,h⟩:=Qfk ft6 (by decide) hcx (Qaw hvx).1 (Qaw hvx).2.1 hs.o v4 v5 (show 0<s.t-s.f by omega) (by omega) hx;exact h
 have hD2:fitQ 8064 (rdN s x y z 2):=by obtain⟨_,_,_,_,_,_,_,_,_,_,_,_,_,_,_,_,_,_,_,_,_,_,_,_,_,_,_,_,_,_,_,h⟩:=Qfk hD1 (by decide) hcy (Qaw hvy).1 (Qaw hvy).2.1 hs.o v4 v5 (show 0<s.t-s.f by omega) (by omega) hy;exact h
 have hD3:fitQ 12064 (drR s x y z):=by obtain⟨_,_,_,_,_,_,_,_,_,_,_,_,_,_,_,_,_,_,_,_,_,_,_,_,_,_,_,_,_,_,_,h⟩:=Qfk hD2 (by decide) hcz (Qaw hvz).1 (Qaw hvz).2.1 hs.o v4 v5 (show 0<s.t-s.f by omega) (by omega) hz;exact h
 have g7:=Qeb B.drag 1000000 (by unfold i64;omega) (by unfold i64;omega) (by decide)
 have ft7:fitQ 64 (fr B.drag 1000000):=Qd7 (by omega) (by decide) (by decide)
 have g8:=Qjv (k:=20000) (ft7.mono (by decide)) (hD3.mono (by decide)) (by decide)
 have ftd:=Qb5 ft7 hD3
 have g9:=Qmf (k:=20000) (ftb.mono (by decide)) (ftd.mono (by decide)) (by decide)
 have eC:baR s B+fr B.drag 1000000*drR s x y z=Qxv s B x y z:=rfl
 have ftC:=Qdk ftb ftd
 rw [eC]at g9 ftC
 have go:=Qcj s.o hs.o.1 hs.o.2
 have hco:=Qt2 s
 refine⟨?_,ftC.mono (by decide)⟩
 clear ftC eC ftd
 have d3:rdN s x y z 3=drR s x y z:=rfl
 have d0:rdN s x y z 0=fr 0 1:=rfl
 have hsg:sgPV s= .agg [.int .i64 s.f,.int .i64 s.t,.int .i64 s.o,.slc (s.x.map (PV.int .i64)),.slc (s.y.map (PV.int .i64)),.slc (s.z.map (PV.int .i64))]:=rfl
 refine Zib 112 [.cell 6 118] Tryz.func76 rfl (by kernel_rfl) (by kernel_rfl) (by kernel_rfl) (by kernel_rfl) ?_
 refine Q85 mixed [] [0,1,2,3,4,5,6,7,8,9,10,11,12,13,14,33,55] 5 rfl (St.of [(3,.bp 0 6 0 0),(4,.bp 1 5 0 0),(5,.bp 2 3 0 0),(6,.bp 3 4 0 0),(7,.int .i64 (s.t-s.f)),(8,.bp 205 4 0 0)] [(0,{els:=[sgPV s],esz:=6,ety:=56,fro:=0,live:=true,arr:=false}),(1,{els:=[baPV B],esz:=5,ety:=59,fro:=0,live:=true,arr:=false}),(2,{els:=[.agg [.int .i64 x,.int .i64 y,.int .i64 z]],esz:=3,ety:=26,fro:=0,live:=true,arr:=false}),(3,{els:=[zRQ],esz:=4,ety:=118,fro:=0,live:=true,arr:=false}),(205,rqB (baR s B))]) ?_ ?_
 ·simp only [codes,Qkd,List.take_succ_cons,List.take_zero,List.drop_succ_cons,List.drop_zero,List.foldr_cons,List.foldr_nil]
  clear hD1 hD2 hD3 g6 g7 g8 g9 hco go
  unfold baR
  by_cases hn:0<(wayR s.z s.o).num
  ·rw [if_pos hn]
   have hn':(0<(wayR s.z s.o).num.sign)=True:=eq_true (by rw [Int.sign_eq_one_of_pos hn];decide)
   generalize fr (B.base*(s.t-s.f)) 1000+fr B.climb 100*wayR s.z s.o=E3 at*
   generalize fr B.climb 100*wayR s.z s.o=E2 at*
   generalize wayR s.z s.o=W at*
   generalize fr (B.base*(s.t-s.f)) 1000=E1 at*
   generalize fr B.climb 100=E4 at*
   unfold rI di at gs
   unfold rQq rQ di at g1 g2 g3 g4 g5
   repeat (first|(simp -implicitDefEqProofs only [go_sem,Nat.reduceAdd,Nat.reduceMul,Nat.reduceEqDiff,Nat.reduceLT,Nat.reduceLeDiff,reduceCtorEq,hwt,hwbt,hn'])|((with_reducible refine Qab (g1) ?_ ?_ ?_);(with_reducible rfl);rfl)|((with_reducible refine Qab (g2) ?_ ?_ ?_);(with_reducible rfl);rfl)|((with_reducible refine Qab (g3) ?_ ?_ ?_);(with_reducible rfl);rfl)|((with_reducible refine Qab (g4) ?_ ?_ ?_);(with_reducible rfl);rfl)|((with_reducible refine Qab (g5) ?_ ?_ ?_);(with_reducible rfl);rfl)|((with_reducible refine Qab (gs) ?_ ?_ ?_);(with_reducible rfl);rfl)|(with_reducible exact Qaa _ _ (by kernel_rfl))|(with_reducible refine And.intro (Qaa _ _ (by kernel_rfl)) ?_))
   refine Qak (θ:=[(0,0),(1,1),(2,2),(3,3),(205,205)]) rfl ?_ ?_
   ·simp [Qaf,lkp,ren1,ren0,Qap]
   ·simp only [rqB,rQq,rQ,di]
    exact⟨⟨rfl,rfl,rfl,rfl,rfl,.inr ⟨rfl,_,_,rfl,rfl,rfl,rfl⟩⟩,⟨rfl,rfl,rfl,rfl,rfl,.inr ⟨rfl,_,_,rfl,rfl,rfl,rfl⟩⟩,⟨rfl,rfl,rfl,rfl,rfl,.inr ⟨rfl,_,_,rfl,rfl,rfl,rfl⟩⟩,⟨rfl,rfl,rfl,rfl,rfl,.inr ⟨rfl,_,_,rfl,rfl,rfl,rfl⟩⟩,⟨rfl,rfl,rfl,rfl,rfl,.inr ⟨rfl,_,_,rfl,rfl,rfl,rfl⟩⟩,trivial⟩
  ·rw [if_neg hn]
   have hn':(0<(wayR s.z s.o).num.sign)=False:=eq_false (by
    rcases Int.lt_trichotomy (wayR s.z s.o).num 0 with h|h|h
    ·rw [Int.sign_eq_neg_one_of_neg h];decide
    ·rw [h];decide
    ·exact(hn h).elim)
   generalize wayR s.z s.o=W at*
   generalize fr (B.base*(s.t-s.f)) 1000=E1 at*
   unfold rI di at gs
   unfold rQq rQ di at g1 g2
   repeat (first|(simp -implicitDefEqProofs only [go_sem,Nat.reduceAdd,Nat.reduceMul,Nat.reduceEqDiff,Nat.reduceLT,Nat.reduceLeDiff,reduceCtorEq,hwt,hwbt,hn'])|((with_reducible refine Qab (g1) ?_ ?_ ?_);(with_reducible rfl);rfl)|((with_reducible refine Qab (g2) ?_ ?_ ?_);(with_reducible rfl);rfl)|((with_reducible refine Qab (gs) ?_ ?_ ?_);(with_reducible rfl);rfl)|(with_reducible exact Qaa _ _ (by kernel_rfl))|(with_reducible refine And.intro (Qaa _ _ (by kernel_rfl)) ?_))
   refine Qak (θ:=[(0,0),(1,1),(2,2),(3,3),(205,205)]) rfl ?_ ?_
   ·simp [Qaf,lkp,ren1,ren0,Qap]
   ·simp only [rqB,rQq,rQ,di]
    exact⟨⟨rfl,rfl,rfl,rfl,rfl,.inr ⟨rfl,_,_,rfl,rfl,rfl,rfl⟩⟩,⟨rfl,rfl,rfl,rfl,rfl,.inr ⟨rfl,_,_,rfl,rfl,rfl,rfl⟩⟩,⟨rfl,rfl,rfl,rfl,rfl,.inr ⟨rfl,_,_,rfl,rfl,rfl,rfl⟩⟩,⟨rfl,rfl,rfl,rfl,rfl,.inr ⟨rfl,_,_,rfl,rfl,rfl,rfl⟩⟩,⟨rfl,rfl,rfl,rfl,rfl,.inr ⟨rfl,_,_,rfl,rfl,rfl,rfl⟩⟩,trivial⟩
 ·refine v_go (tb:=[]) (ks:=[0,1,2,3,4,5,6,7,8,9,10,11,12,13,14,33,55]) mixed ?_
  simp only [codes,Qkd,List.take_succ_cons,List.take_zero,List.drop_succ_cons,List.drop_zero,List.foldr_cons,List.foldr_nil]
  clear g1 g2 g3 g4 g5 gs ft1 ft2 ft3 hwbt
  rw [←d0]at g6 ft6
  generalize hE:baR s B=E at*
  generalize hG:rdN s x y z 0=G at*
  unfold rQq rQ di at g6
  unfold rI di at go
  unfold sgPV Qas at hco
  simp only [rqB]
  unfold rQq rQ di
  repeat (first|(simp -implicitDefEqProofs only [go_sem,Nat.reduceAdd,Nat.reduceMul,Nat.reduceEqDiff,Nat.reduceLT,Nat.reduceLeDiff,reduceCtorEq])|((with_reducible refine Qab (g6) ?_ ?_ ?_);(with_reducible rfl);rfl)|((with_reducible refine Qab (go) ?_ ?_ ?_);(with_reducible rfl);rfl)|((with_reducible refine Qab (hco) ?_ ?_ ?_);(with_reducible rfl);rfl)|(with_reducible exact Qaa _ _ (by kernel_rfl))|(with_reducible refine And.intro (Qaa _ _ (by kernel_rfl)) ?_))
  refine Qar mixed (fun k:{k:Nat // k≤3}=>St.of [(3,.bp 0 6 0 0),(4,.bp 1 5 0 0),(6,.bp 3 4 0 0),(7,.int .i64 (s.t-s.f)),(8,.bp 205 4 0 0),(10,.bp 603 2 0 0),(11,.bp 701 4 0 0),(12,.slc [.slc (s.x.map (PV.int .i64)),.slc (s.y.map (PV.int .i64)),.slc (s.z.map (PV.int .i64))]),(13,.slc [.int .i64 x,.int .i64 y,.int .i64 z]),(14,.int .i64 (k.1:Int))] [(0,{els:=[sgPV s],esz:=6,ety:=56,fro:=0,live:=true,arr:=false}),(1,{els:=[baPV B],esz:=5,ety:=59,fro:=0,live:=true,arr:=false}),(3,{els:=[zRQ],esz:=4,ety:=118,fro:=0,live:=true,arr:=false}),(205,rqB E),(603,{els:=[rI s.o],esz:=2,ety:=76,fro:=0,live:=true,arr:=false}),(701,rqB (rdN s x y z k.1))]) (fun k=>3-k.1) ⟨0,Nat.zero_le _⟩ ?_ ?_
  ·refine Le.trans (Zie 13 rfl rfl rfl rfl (by simp)) (Qak (θ:=[(0,0),(1,1),(3,3),(205,205),(603,603),(701,701)]) rfl ?_ ?_)
   ·simp [Qaf,lkp,ren1,ren0,Qap]
   ·simp only [hG,rqB,rQq,rQ,rI,di]
    exact⟨⟨rfl,rfl,rfl,rfl,rfl,.inr ⟨rfl,_,_,rfl,rfl,rfl,rfl⟩⟩,⟨rfl,rfl,rfl,rfl,rfl,.inr ⟨rfl,_,_,rfl,rfl,rfl,rfl⟩⟩,⟨rfl,rfl,rfl,rfl,rfl,.inr ⟨rfl,_,_,rfl,rfl,rfl,rfl⟩⟩,⟨rfl,rfl,rfl,rfl,rfl,.inr ⟨rfl,_,_,rfl,rfl,rfl,rfl⟩⟩,⟨rfl,rfl,rfl,rfl,rfl,.inr ⟨rfl,_,_,rfl,rfl,rfl,rfl⟩⟩,⟨rfl,rfl,rfl,rfl,rfl,.inr ⟨rfl,_,_,rfl,rfl,rfl,rfl⟩⟩,trivial⟩
  ·subst hG
   rintro⟨k,hk⟩
   rcases(show k=0∨k=1∨k=2∨k=3 by omega)with rfl|rfl|rfl|rfl
   ·skip
    have hA':((0:Int)<3)=True:=eq_true (by decide)
    obtain⟨q1,q2,q3,q4,q5,q6,q7,q8,q9,q10,q11,q12,q13,z1,z2,f1,f2,f3,f4,f5,f6,f7,f8,f9,f10,f11,f12,f13,f14,f15,f16,fD⟩:=Qfk (c:=s.x) (o:=s.o) (t:=s.t-s.f) (b:=x) (D:=rdN s x y z 0) ft6 (by decide) hcx (Qaw hvx).1 (Qaw hvx).2.1 hs.o v4 v5 (by omega) (by omega) (by omega)
    have eD:axR (rdN s x y z 0) s.x s.o (s.t-s.f) x=rdN s x y z (0+1):=rfl
    rw [eD]at f16
    have hwb:IntKind.i64.wrap (2*x)=2*x:=Qah (by omega) (by omega)
    have hwc:IntKind.i64.wrap (x*x)=x*x:=by have:=hbx;exact Qah (by omega) (by omega)
    generalize hq0:rdN s x y z 0=D0 at*
    generalize hq1:rdN s x y z (0+1)=D1 at*
    simp only [rqB]
    unfold rI di at f3 f4
    unfold rQq rQ rI di at f5
    unfold rQq rQ di at f1 f2 f6 f7 f8 f9 f10 f11 f12 f13 f14 f15 f16
    unfold rQq rQ rI di
    repeat (first|(simp -implicitDefEqProofs only [go_sem,Nat.reduceAdd,Nat.reduceMul,Nat.reduceEqDiff,Nat.reduceLT,Nat.reduceLeDiff,Nat.reduceSub,reduceCtorEq,hA',hwt,hwb,hwc,Qco,Qcp,Qcq,Qgh,Qgi,Qgj,Qci])|((with_reducible refine Qab (f1) ?_ ?_ ?_);(with_reducible rfl);rfl)|((with_reducible refine Qab (f2) ?_ ?_ ?_);(with_reducible rfl);rfl)|((with_reducible refine Qab (f3) ?_ ?_ ?_);(with_reducible rfl);rfl)|((with_reducible refine Qab (f4) ?_ ?_ ?_);(with_reducible rfl);rfl)|((with_reducible refine Qab (f5) ?_ ?_ ?_);(with_reducible rfl);rfl)|((with_reducible refine Qab (f6) ?_ ?_ ?_);(with_reducible rfl);rfl)|((with_reducible refine Qab (f7) ?_ ?_ ?_);(with_reducible rfl);rfl)|((with_reducible refine Qab (f8) ?_ ?_ ?_);(with_reducible rfl);rfl)|(with_reducible exact Qaa _ _ (by kernel_rfl))|(with_reducible refine And.intro (Qaa _ _ (by kernel_rfl)) ?_))
    repeat (first|(simp -implicitDefEqProofs only [go_sem,Nat.reduceAdd,Nat.reduceMul,Nat.reduceEqDiff,Nat.reduceLT,Nat.reduceLeDiff,reduceCtorEq,hA',hwt,hwb,hwc,Qco,Qcp,Qcq,Qgh,Qgi,Qgj,Qci])|((with_reducible refine Qab (f9) ?_ ?_ ?_);(with_reducible rfl);rfl)|((with_reducible refine Qab (f10) ?_ ?_ ?_);(with_reducible rfl);rfl)|((with_reducible refine Qab (f11) ?_ ?_ ?_);(with_reducible rfl);rfl)|((with_reducible refine Qab (f12) ?_ ?_ ?_);(with_reducible rfl);rfl)|(with_reducible exact Qaa _ _ (by kernel_rfl))|(with_reducible refine And.intro (Qaa _ _ (by kernel_rfl)) ?_))
    repeat (first|(simp -implicitDefEqProofs only [go_sem,Nat.reduceAdd,Nat.reduceMul,Nat.reduceEqDiff,Nat.reduceLT,Nat.reduceLeDiff,reduceCtorEq,Int.reduceAdd,hA',hwt,hwb,hwc,Qco,Qcp,Qcq,Qgh,Qgi,Qgj,Qci])|((with_reducible refine Qab (f13) ?_ ?_ ?_);(with_reducible rfl);rfl)|((with_reducible refine Qab (f14) ?_ ?_ ?_);(with_reducible rfl);rfl)|((with_reducible refine Qab (f15) ?_ ?_ ?_);(with_reducible rfl);rfl)|((with_reducible refine Qab (f16) ?_ ?_ ?_);(with_reducible rfl);rfl)|(with_reducible exact Qaa _ _ (by kernel_rfl))|(with_reducible refine And.intro (Qaa _ _ (by kernel_rfl)) ?_))
    refine⟨⟨0+1,by omega⟩,by simp only;omega,Qak (θ:=[(0,0),(1,1),(3,3),(205,205),(603,603),(701,701)]) rfl ?_ ?_⟩
    ·simp [Qaf,lkp,ren1,ren0,Qap]
    ·have hq2:rdN s x y z 1=D1:=hq1
     simp only [Nat.reduceAdd,hq2,rqB,rQq,rQ,rI,di]
     exact⟨⟨rfl,rfl,rfl,rfl,rfl,.inr ⟨rfl,_,_,rfl,rfl,rfl,rfl⟩⟩,⟨rfl,rfl,rfl,rfl,rfl,.inr ⟨rfl,_,_,rfl,rfl,rfl,rfl⟩⟩,⟨rfl,rfl,rfl,rfl,rfl,.inr ⟨rfl,_,_,rfl,rfl,rfl,rfl⟩⟩,⟨rfl,rfl,rfl,rfl,rfl,.inr ⟨rfl,_,_,rfl,rfl,rfl,rfl⟩⟩,⟨rfl,rfl,rfl,rfl,rfl,.inr ⟨rfl,_,_,rfl,rfl,rfl,rfl⟩⟩,⟨rfl,rfl,rfl,rfl,rfl,.inr ⟨rfl,_,_,rfl,rfl,rfl,rfl⟩⟩,trivial⟩
   ·skip
    have hA':((1:Int)<3)=True:=eq_true (by decide)
    obtain⟨q1,q2,q3,q4,q5,q6,q7,q8,q9,q10,q11,q12,q13,z1,z2,f1,f2,f3,f4,f5,f6,f7,f8,f9,f10,f11,f12,f13,f14,f15,f16,fD⟩:=Qfk (c:=s.y) (o:=s.o) (t:=s.t-s.f) (b:=y) (D:=rdN s x y z 1) hD1 (by decide) hcy (Qaw hvy).1 (Qaw hvy).2.1 hs.o v4 v5 (by omega) (by omega) (by omega)
    have eD:axR (rdN s x y z 1) s.y s.o (s.t-s.f) y=rdN s x y z (1+1):=rfl
    rw [eD]at f16
    have hwb:IntKind.i64.wrap (2*y)=2*y:=Qah (by omega) (by omega)
    have hwc:IntKind.i64.wrap (y*y)=y*y:=by have:=hby;exact Qah (by omega) (by omega)
    generalize hq0:rdN s x y z 1=D0 at*
    generalize hq1:rdN s x y z (1+1)=D1 at*
    simp only [rqB]
    unfold rI di at f3 f4
    unfold rQq rQ rI di at f5
    unfold rQq rQ di at f1 f2 f6 f7 f8 f9 f10 f11 f12 f13 f14 f15 f16
    unfold rQq rQ rI di
    repeat (first|(simp -implicitDefEqProofs only [go_sem,Nat.reduceAdd,Nat.reduceMul,Nat.reduceEqDiff,Nat.reduceLT,Nat.reduceLeDiff,Nat.reduceSub,reduceCtorEq,Int.reduceLE,Int.reduceToNat,hA',hwt,hwb,hwc,Qco,Qcp,Qcq,Qgh,Qgi,Qgj,Qci])|((with_reducible refine Qab (f1) ?_ ?_ ?_);(with_reducible rfl);rfl)|((with_reducible refine Qab (f2) ?_ ?_ ?_);(with_reducible rfl);rfl)|((with_reducible refine Qab (f3) ?_ ?_ ?_);(with_reducible rfl);rfl)|((with_reducible refine Qab (f4) ?_ ?_ ?_);(with_reducible rfl);rfl)|((with_reducible refine Qab (f5) ?_ ?_ ?_);(with_reducible rfl);rfl)|((with_reducible refine Qab (f6) ?_ ?_ ?_);(with_reducible rfl);rfl)|((with_reducible refine Qab (f7) ?_ ?_ ?_);(with_reducible rfl);rfl)|((with_reducible refine Qab (f8) ?_ ?_ ?_);(with_reducible rfl);rfl)|(with_reducible exact Qaa _ _ (by kernel_rfl))|(with_reducible refine And.intro (Qaa _ _ (by kernel_rfl)) ?_))
    repeat (first|(simp -implicitDefEqProofs only [go_sem,Nat.reduceAdd,Nat.reduceMul,Nat.reduceEqDiff,Nat.reduceLT,Nat.reduceLeDiff,reduceCtorEq,Int.reduceLE,Int.reduceToNat,hA',hwt,hwb,hwc,Qco,Qcp,Qcq,Qgh,Qgi,Qgj,Qci])|((with_reducible refine Qab (f9) ?_ ?_ ?_);(with_reducible rfl);rfl)|((with_reducible refine Qab (f10) ?_ ?_ ?_);(with_reducible rfl);rfl)|((with_reducible refine Qab (f11) ?_ ?_ ?_);(with_reducible rfl);rfl)|((with_reducible refine Qab (f12) ?_ ?_ ?_);(with_reducible rfl);rfl)|(with_reducible exact Qaa _ _ (by kernel_rfl))|(with_reducible refine And.intro (Qaa _ _ (by kernel_rfl)) ?_))
    repeat (first|(simp -implicitDefEqProofs only [go_sem,Nat.reduceAdd,Nat.reduceMul,Nat.reduceEqDiff,Nat.reduceLT,Nat.reduceLeDiff,reduceCtorEq,Int.reduceAdd,hA',hwt,hwb,hwc,Qco,Qcp,Qcq,Qgh,Qgi,Qgj,Qci])|((with_reducible refine Qab (f13) ?_ ?_ ?_);(with_reducible rfl);rfl)|((with_reducible refine Qab (f14) ?_ ?_ ?_);(with_reducible rfl);rfl)|((with_reducible refine Qab (f15) ?_ ?_ ?_);(with_reducible rfl);rfl)|((with_reducible refine Qab (f16) ?_ ?_ ?_);(with_reducible rfl);rfl)|(with_reducible exact Qaa _ _ (by kernel_rfl))|(with_reducible refine And.intro (Qaa _ _ (by kernel_rfl)) ?_))
    refine⟨⟨1+1,by omega⟩,by simp only;omega,Qak (θ:=[(0,0),(1,1),(3,3),(205,205),(603,603),(701,701)]) rfl ?_ ?_⟩
    ·simp [Qaf,lkp,ren1,ren0,Qap]
    ·have hq2:rdN s x y z 2=D1:=hq1
     simp only [Nat.reduceAdd,hq2,rqB,rQq,rQ,rI,di]
     exact⟨⟨rfl,rfl,rfl,rfl,rfl,.inr ⟨rfl,_,_,rfl,rfl,rfl,rfl⟩⟩,⟨rfl,rfl,rfl,rfl,rfl,.inr ⟨rfl,_,_,rfl,rfl,rfl,rfl⟩⟩,⟨rfl,rfl,rfl,rfl,rfl,.inr ⟨rfl,_,_,rfl,rfl,rfl,rfl⟩⟩,⟨rfl,rfl,rfl,rfl,rfl,.inr ⟨rfl,_,_,rfl,rfl,rfl,rfl⟩⟩,⟨rfl,rfl,rfl,rfl,rfl,.inr ⟨rfl,_,_,rfl,rfl,rfl,rfl⟩⟩,⟨rfl,rfl,rfl,rfl,rfl,.inr ⟨rfl,_,_,rfl,rfl,rfl,rfl⟩⟩,trivial⟩
   ·skip
    have hA':((2:Int)<3)=True:=eq_true (by decide)
    obtain⟨q1,q2,q3,q4,q5,q6,q7,q8,q9,q10,q11,q12,q13,z1,z2,f1,f2,f3,f4,f5,f6,f7,f8,f9,f10,f11,f12,f13,f14,f15,f16,fD⟩:=Qfk (c:=s.z) (o:=s.o) (t:=s.t-s.f) (b:=z) (D:=rdN s x y z 2) hD2 (by decide) hcz (Qaw hvz).1 (Qaw hvz).2.1 hs.o v4 v5 (by omega) (by omega) (by omega)
    have eD:axR (rdN s x y z 2) s.z s.o (s.t-s.f) z=rdN s x y z (2+1):=rfl
    rw [eD]at f16
    have hwb:IntKind.i64.wrap (2*z)=2*z:=Qah (by omega) (by omega)
    have hwc:IntKind.i64.wrap (z*z)=z*z:=by have:=hbz;exact Qah (by omega) (by omega)
    generalize hq0:rdN s x y z 2=D0 at*
    generalize hq1:rdN s x y z (2+1)=D1 at*
    simp only [rqB]
    unfold rI di at f3 f4
    unfold rQq rQ rI di at f5
    unfold rQq rQ di at f1 f2 f6 f7 f8 f9 f10 f11 f12 f13 f14 f15 f16
    unfold rQq rQ rI di
    repeat (first|(simp -implicitDefEqProofs only [go_sem,Nat.reduceAdd,Nat.reduceMul,Nat.reduceEqDiff,Nat.reduceLT,Nat.reduceLeDiff,Nat.reduceSub,reduceCtorEq,Int.reduceLE,Int.reduceToNat,hA',hwt,hwb,hwc,Qco,Qcp,Qcq,Qgh,Qgi,Qgj,Qci])|((with_reducible refine Qab (f1) ?_ ?_ ?_);(with_reducible rfl);rfl)|((with_reducible refine Qab (f2) ?_ ?_ ?_);(with_reducible rfl);rfl)|((with_reducible refine Qab (f3) ?_ ?_ ?_);(with_reducible rfl);rfl)|((with_reducible refine Qab (f4) ?_ ?_ ?_);(with_reducible rfl);rfl)|((with_reducible refine Qab (f5) ?_ ?_ ?_);(with_reducible rfl);rfl)|((with_reducible refine Qab (f6) ?_ ?_ ?_);(with_reducible rfl);rfl)|((with_reducible refine Qab (f7) ?_ ?_ ?_);(with_reducible rfl);rfl)|((with_reducible refine Qab (f8) ?_ ?_ ?_);(with_reducible rfl);rfl)|(with_reducible exact Qaa _ _ (by kernel_rfl))|(with_reducible refine And.intro (Qaa _ _ (by kernel_rfl)) ?_))
    repeat (first|(simp -implicitDefEqProofs only [go_sem,Nat.reduceAdd,Nat.reduceMul,Nat.reduceEqDiff,Nat.reduceLT,Nat.reduceLeDiff,reduceCtorEq,Int.reduceLE,Int.reduceToNat,hA',hwt,hwb,hwc,Qco,Qcp,Qcq,Qgh,Qgi,Qgj,Qci])|((with_reducible refine Qab (f9) ?_ ?_ ?_);(with_reducible rfl);rfl)|((with_reducible refine Qab (f10) ?_ ?_ ?_);(with_reducible rfl);rfl)|((with_reducible refine Qab (f11) ?_ ?_ ?_);(with_reducible rfl);rfl)|((with_reducible refine Qab (f12) ?_ ?_ ?_);(with_reducible rfl);rfl)|(with_reducible exact Qaa _ _ (by kernel_rfl))|(with_reducible refine And.intro (Qaa _ _ (by kernel_rfl)) ?_))
    repeat (first|(simp -implicitDefEqProofs only [go_sem,Nat.reduceAdd,Nat.reduceMul,Nat.reduceEqDiff,Nat.reduceLT,Nat.reduceLeDiff,reduceCtorEq,Int.reduceAdd,hA',hwt,hwb,hwc,Qco,Qcp,Qcq,Qgh,Qgi,Qgj,Qci])|((with_reducible refine Qab (f13) ?_ ?_ ?_);(with_reducible rfl);rfl)|((with_reducible refine Qab (f14) ?_ ?_ ?_);(with_reducible rfl);rfl)|((with_reducible refine Qab (f15) ?_ ?_ ?_);(with_reducible rfl);rfl)|((with_reducible refine Qab (f16) ?_ ?_ ?_);(with_reducible rfl);rfl)|(with_reducible exact Qaa _ _ (by kernel_rfl))|(with_reducible refine And.intro (Qaa _ _ (by kernel_rfl)) ?_))
    refine⟨⟨2+1,by omega⟩,by simp only;omega,Qak (θ:=[(0,0),(1,1),(3,3),(205,205),(603,603),(701,701)]) rfl ?_ ?_⟩
    ·simp [Qaf,lkp,ren1,ren0,Qap]
    ·have hq2:rdN s x y z 3=D1:=hq1
     simp only [Nat.reduceAdd,hq2,rqB,rQq,rQ,rI,di]
     exact⟨⟨rfl,rfl,rfl,rfl,rfl,.inr ⟨rfl,_,_,rfl,rfl,rfl,rfl⟩⟩,⟨rfl,rfl,rfl,rfl,rfl,.inr ⟨rfl,_,_,rfl,rfl,rfl,rfl⟩⟩,⟨rfl,rfl,rfl,rfl,rfl,.inr ⟨rfl,_,_,rfl,rfl,rfl,rfl⟩⟩,⟨rfl,rfl,rfl,rfl,rfl,.inr ⟨rfl,_,_,rfl,rfl,rfl,rfl⟩⟩,⟨rfl,rfl,rfl,rfl,rfl,.inr ⟨rfl,_,_,rfl,rfl,rfl,rfl⟩⟩,⟨rfl,rfl,rfl,rfl,rfl,.inr ⟨rfl,_,_,rfl,rfl,rfl,rfl⟩⟩,trivial⟩
   ·have hA':((3:Int)<3)=False:=eq_false (by decide)
    simp only [d3]
    generalize Qxv s B x y z=T3 at*
    generalize fr B.drag 1000000*drR s x y z=T2 at*
    generalize drR s x y z=T1 at*
    generalize fr B.drag 1000000=T4 at*
    simp only [rqB]
    unfold rQq rQ di at g7 g8 g9 ⊢
    repeat (first|(simp -implicitDefEqProofs only [go_sem,Nat.reduceAdd,Nat.reduceMul,Nat.reduceEqDiff,Nat.reduceLT,Nat.reduceLeDiff,Nat.reduceSub,reduceCtorEq,hA',Qci])|((with_reducible refine Qab (g7) ?_ ?_ ?_);(with_reducible rfl);rfl)|((with_reducible refine Qab (g8) ?_ ?_ ?_);(with_reducible rfl);rfl)|((with_reducible refine Qab (g9) ?_ ?_ ?_);(with_reducible rfl);rfl)|(with_reducible exact Qaa _ _ (by kernel_rfl))|(with_reducible refine And.intro (Qaa _ _ (by kernel_rfl)) ?_))
end Go.Proofs.YtciddhkfbgkejaaGreatDoor

namespace Go.Dg
def mxE:Int:=1125899906842624
def preI (cs:List Int) (k:Nat):Int:=sm (fun i=>cs.getD i 0) k
theorem Qij (cs:List Int) (k:Nat):preI cs (k+1)=preI cs k+cs.getD k 0:=rfl
def okC (cs:List Int):Prop:= ∀c∈cs,0≤c∧c≤400000000000000000
theorem Qth {cs:List Int} (h:okC cs) (k:Nat):0≤cs.getD k 0∧cs.getD k 0≤400000000000000000:=by
 by_cases hk:k<cs.length
 ·rw [List.getD_eq_getElem?_getD,List.getElem?_eq_getElem hk];exact h _ (List.getElem_mem hk)
 ·rw [List.getD_eq_getElem?_getD,List.getElem?_eq_none (by omega)];decide
theorem Qlx {cs:List Int} (h:okC cs) {j k:Nat} (hjk:j≤k):preI cs j≤preI cs k:=by
 induction k with
 |zero=>
    obtain rfl:j=0:=by omega
    exact Int.le_refl _
 |succ k ih=>
  have:=(Qth h k).1
  rw [Qij]
  by_cases e:j=k+1
  ·subst e;rw [Qij];exact Int.le_refl _
  ·have:=ih (by omega);omega
theorem Qly {cs:List Int} (h:okC cs) (k:Nat):0≤preI cs k:=by
 have:=Qlx h (Nat.zero_le k)
 exact this
def smL (cs:List Int) (k:Nat):List Int:=(List.range k).map fun j=>preI cs (j+1)
theorem Q9b (cs:List Int) (k:Nat):smL cs (k+1)=smL cs k++[preI cs (k+1)]:=by
 unfold smL;rw [List.range_succ,List.map_append];rfl
theorem Qek (cs:List Int) (k:Nat):(smL cs k).length=k:=by simp [smL]
theorem Zif {cs:List Int} {k i:Nat} (h:i<k):(smL cs k).getD i 0=preI cs (i+1):=by simp [smL,h]
def cutE (cs:List Int):Nat:=(List.range cs.length).findIdx fun j=>decide (mxE<preI cs (j+1))
theorem Qvt {n i:Nat} {p:Nat→Bool} (h:i<n) (h1:p i=true) (h2: ∀j,j<i→p j=false):(List.range n).findIdx p=i:=by
 rw [List.findIdx_eq (by simpa using h)]
 exact⟨by simpa using h1,fun j hj=>by simpa using h2 j hj⟩
theorem Qrb {n:Nat} {p:Nat→Bool} (h2: ∀j,j<n→p j=false):(List.range n).findIdx p=n:=by
 have:=List.findIdx_eq_length_of_false (xs:=List.range n) (p:=p) (fun x hx=>h2 x (List.mem_range.1 hx))
 rwa [List.length_range]at this
theorem Qrc {cs:List Int} {i:Nat} (hi:i<cs.length) (h: ∀j,j<i→preI cs (j+1)≤mxE) (hs:mxE<preI cs (i+1)):cutE cs=i:=
 Qvt hi (decide_eq_true hs) fun j hj=>decide_eq_false (by have:=h j hj;omega)
theorem Qvu {cs:List Int} (h: ∀j,j<cs.length→preI cs (j+1)≤mxE):cutE cs=cs.length:=
 Qrb fun j hj=>decide_eq_false (by have:=h j hj;omega)
theorem Q0w {cs:List Int} (hc:okC cs) (hl:0<cs.length):(preI cs cs.length≤mxE→cutE cs=cs.length)∧(mxE<preI cs cs.length→cutE cs<cs.length):=by
 refine⟨fun h=>Qvu fun j hj=>Int.le_trans (Qlx hc hj) h,fun h=> ?_⟩
 have hlt:=List.findIdx_lt_length_of_exists (xs:=List.range cs.length) (p:=fun j=>decide (mxE<preI cs (j+1))) ⟨cs.length-1,List.mem_range.2 (by omega),decide_eq_true (by rw [Nat.sub_add_cancel hl];exact h)⟩
 rwa [List.length_range]at hlt
theorem Q0x (cs:List Int):cutE cs≤cs.length:=by
 have:=List.findIdx_le_length (xs:=List.range cs.length) (p:=fun j=>decide (mxE<preI cs (j+1)))
 rwa [List.length_range]at this
theorem Zig {cs:List Int} {j:Nat} (h:j<cutE cs):preI cs (j+1)≤mxE:=by
 have hl:=Q0x cs
 have:=List.not_of_lt_findIdx h
 simp at this
 exact this
theorem Zih {cs:List Int} (h:cutE cs<cs.length):mxE<preI cs (cutE cs+1):=by
 have:=List.findIdx_getElem (xs:=List.range cs.length) (p:=fun j=>decide (mxE<preI cs (j+1))) (w:=by rw [List.length_range];exact h)
 simp only [List.getElem_range,decide_eq_true_eq]at this
 exact this
def okE (cs:List Int) (B:Bat) (j:Nat):Bool:=decide (preI cs j≤mxE)&&decide (B.res≤B.cap-preI cs j)
def rcN (cs:List Int) (B:Bat):Nat:=(List.range cs.length).findIdx fun j=> !okE cs B (j+1)
theorem Qk9 {cs:List Int} {B:Bat} {i:Nat} (hi:i<cs.length) (h: ∀j,j<i→okE cs B (j+1)=true) (hs:okE cs B (i+1)=false):rcN cs B=i:=
 Qvt hi (by rw [hs];rfl) fun j hj=>by rw [h j hj];rfl
theorem Q0y {cs:List Int} {B:Bat} (h: ∀j,j<cs.length→okE cs B (j+1)=true):rcN cs B=cs.length:=Qrb fun j hj=>by rw [h j hj];rfl
theorem Qvv {cs:List Int} {B:Bat} {j:Nat} (h1:preI cs j≤mxE) (h2:B.res≤B.cap-preI cs j):okE cs B j=true:=by
 unfold okE;rw [decide_eq_true h1,decide_eq_true h2];rfl
theorem Q0z {cs:List Int} {B:Bat} {j:Nat} (h1:mxE<preI cs j):okE cs B j=false:=by
 unfold okE;rw [decide_eq_false (by omega)];rfl
theorem Q00 {cs:List Int} {B:Bat} {j:Nat} (h2:B.cap-preI cs j<B.res):okE cs B j=false:=by
 unfold okE;rw [decide_eq_false (show¬B.res≤B.cap-preI cs j by omega),Bool.and_false]
theorem Q01 (cs:List Int) {j k:Nat} (h:j≤k):preI (cs.take k) j=preI cs j:=by
 unfold preI
 refine Qcf _ fun i hi=> ?_
 rw [List.getD_eq_getElem?_getD,List.getD_eq_getElem?_getD,List.getElem?_take_of_lt (by omega)]
end Go.Dg

namespace Go.Proofs.YtciddhkfbgkejaaGreatDoor
open Go.Vl Go.RowKit Go.Dg
theorem Qwp {m B:Nat} (h:m<2^B) (hk:B≤65000):m<2^65000:=Qjp (C:=65000) h hk
def w3PV (x y z:Int):PV:= .agg [.bool (decide (x<0)),.str (mB x),.bool (decide (y<0)),.str (mB y),.bool (decide (z<0)),.str (mB z)]
def Qae (x y z o:Int):PV:= .agg [.bool (decide (x<0)),.str (mB x),.bool (decide (y<0)),.str (mB y),.bool (decide (z<0)),.str (mB z),.bool (decide (o<0)),.str (mB o)]
theorem nc0:((0:Nat):Int)=0:=rfl
theorem nc1:((1:Nat):Int)=1:=rfl
theorem nc2:((2:Nat):Int)=2:=rfl
theorem nc3:((3:Nat):Int)=3:=rfl
theorem wr1:IntKind.i64.wrap 1=1:=rfl
theorem wr2:IntKind.i64.wrap 2=2:=rfl
theorem wr3:IntKind.i64.wrap 3=3:=rfl
attribute [go_sem] w3PV Qae nc0 nc1 nc2 nc3 wr1 wr2 wr3
theorem mB_0:mB 0=⟨#[]⟩:=by unfold mB;rw [(Qll 0).2 rfl]
def sel (P:Nat→Int) (i m:Nat) (X:Int):Int:=if m=i then X else at3 P i m
def plV (s:Sg) (a d:Int):PV:=Qae (plP s a d 0/(plG s a d 3:Int)) (plP s a d 1/(plG s a d 3:Int)) (plP s a d 2/(plG s a d 3:Int)) (s.o*d^5/(plG s a d 3:Int))
set_option maxHeartbeats 2000000 in
theorem Qp8 (s:Sg) (a d:Int) (hs:okSg s) (h6: ∀c∈s.ax,c.length≤6) (ho:1≤s.o) (ha:i64 a) (hd:i64 d) (hd1:1≤d):
  Qad Tryz.prog 109 [sgPV s,.int .i64 a,.int .i64 d] (plV s a d):=by
 obtain⟨⟨a1,a2⟩,⟨a3,a4⟩,⟨a5,a6⟩,hc,hl⟩:=hs
 have ba:=Qa1 ha
 have bd':=Qa1 hd
 have bo:=Qa1 ⟨a5,a6⟩
 have w1:=Qhs s.o a5 a6
 have p5:=Qfy d 5 64 hd.1 hd.2 (by decide) (by decide) bd'
 have bd5:=Qr0 bd' 5
 have bod:=Q9s (s:=s) bo bd'
 have m1:=Qhv (Qa4 bo (by decide)) (Qa4 bd5 (by decide)) (Qa4 bod (by decide))
 have hax:=Zhr s
 have hG0:(plG s a d 0:Int)=s.o*d^5:=by
  have h:0<s.o*d^5:=Int.mul_pos (by omega) (Int.pow_pos (by omega))
  show(((s.o*d^5).natAbs:Nat):Int)=_
  omega
 have hcB: ∀c∈s.ax,bd 64 c:=fun c hx x hx2=>Qa1 (hc c hx x hx2)
 have bP:=Qv4 hcB h6 ba bd'
 have bG:=Zo4 hcB h6 bo ba bd'
 generalize hO:s.o*d^5=O at*
 have hsg:sgPV s= .agg [.int .i64 s.f,.int .i64 s.t,.int .i64 s.o,.slc (s.x.map (PV.int .i64)),.slc (s.y.map (PV.int .i64)),.slc (s.z.map (PV.int .i64))]:=rfl
 rw [hsg]at hax ⊢
 refine Qac (tb:=[]) 74 [.cell 6 73] [0,1,2,3,6,7,8,9,10,11,12,13,22,23,24,27,28,29,30] mixed Tryz.func109 rfl (by kernel_rfl) (by kernel_rfl) (by kernel_rfl) (by kernel_rfl) ?_
 repeat (first|(simp -implicitDefEqProofs only [go_sem,Nat.reduceAdd,Nat.reduceMul,Nat.reduceEqDiff,Nat.reduceLT,Nat.reduceLeDiff,reduceCtorEq,wPV])|((with_reducible refine Qab (w1) ?_ ?_ ?_);(with_reducible rfl);rfl)|((with_reducible refine Qab (p5) ?_ ?_ ?_);(with_reducible rfl);rfl)|((with_reducible refine Qab (m1) ?_ ?_ ?_);(with_reducible rfl);rfl)|((with_reducible refine Qab (hax) ?_ ?_ ?_);(with_reducible rfl);rfl)|(with_reducible exact Qaa _ _ (by kernel_rfl))|(with_reducible refine And.intro (Qaa _ _ (by kernel_rfl)) ?_))
 refine Qar mixed (fun i:{i:Nat // i≤3}=>St.of [(1,.int .i64 a),(2,.int .i64 d),(6,.bp 1 8 0 0),(7,.bp 100 6 0 0),(8,.bp 206 2 0 0),(9,.bp 301 2 0 0),(22,.agg [Qas s.x,Qas s.y,Qas s.z]),(23,.int .i64 (i.1:Int))]
  [(1,{els:=[.agg [.bool false,.str ⟨#[]⟩,.bool false,.str ⟨#[]⟩,.bool false,.str ⟨#[]⟩,.bool false,.str ⟨#[]⟩]],esz:=8,ety:=73,fro:=0,live:=true,arr:=false}),(100,{els:=[w3PV (at3 (plP s a d) i.1 0) (at3 (plP s a d) i.1 1) (at3 (plP s a d) i.1 2)],esz:=6,ety:=109,fro:=0,live:=true,arr:=false}),(206,{els:=[wPV O],esz:=2,ety:=71,fro:=0,live:=true,arr:=false}),(301,{els:=[wPV ((plG s a d i.1:Nat):Int)],esz:=2,ety:=71,fro:=0,live:=true,arr:=false})]) (fun i=>3-i.1) ⟨0,Nat.zero_le _⟩ ?_ ?_
 ·refine Qak (θ:=[(1,1),(100,100),(206,206),(301,301)]) rfl ?_ ?_
  ·simp [Qaf,lkp,ren1,ren0,Qap,Qas]
  ·refine⟨⟨rfl,rfl,rfl,rfl,rfl,.inr ⟨rfl,_,_,rfl,rfl,rfl,rfl⟩⟩,⟨rfl,rfl,rfl,rfl,rfl,.inr ⟨rfl,_,_,rfl,rfl,?_,rfl⟩⟩,⟨rfl,rfl,rfl,rfl,rfl,.inr ⟨rfl,_,_,rfl,rfl,rfl,rfl⟩⟩,⟨rfl,rfl,rfl,rfl,rfl,.inr ⟨rfl,_,_,rfl,rfl,?_,rfl⟩⟩,trivial⟩
   ·simp only [at3,Nat.not_lt_zero,if_false,w3PV,mB_0];rfl
   ·simp only [hG0];rfl
 ·rintro⟨i,hi⟩
  by_cases hA:i<3
  ·have hA':((i:Int)<3)=True:=eq_true (by omega)
   have hA2:=ltT hA
   have h0:=nnT i
   have hx:=Q22 s i hA
   have hwk:=Qaj (a:=i) (by omega)
   rcases(show i=0∨i=1∨i=2 by omega)with hi0|hi0|hi0
   ·skip
    obtain rfl:i=0:=hi0
    have hm:s.ax.getD 0 []=s.ax[0]'hA:=rfl
    have hP:plP s a d 0=sm (plcT (s.ax[0]'hA) a d) (s.ax[0]'hA).length:=rfl
    have hcx:=hc (s.ax[0]) (List.getElem_mem hA)
    have hlx:=h6 (s.ax[0]) (List.getElem_mem hA)
    have bPi:=bP 0 (by omega)
    have bGi:=bG 0 (by omega)
    have hGs:=Qfv s a d 0
    generalize s.ax[0]'hA=c at*
    repeat (first|(simp -implicitDefEqProofs only [go_sem,Nat.reduceAdd,Nat.reduceMul,Nat.reduceEqDiff,Nat.reduceLT,Nat.reduceLeDiff,Nat.reduceSub,reduceCtorEq,Int.reduceLT,hA',hx,Int.toNat_natCast,List.length_map,at3,Nat.reduceLT])|(with_reducible exact Qaa _ _ (by kernel_rfl))|(with_reducible refine And.intro (Qaa _ _ (by kernel_rfl)) ?_))
    refine Qar mixed (fun k:{k:Nat // k≤c.length}=>St.of [(1,.int .i64 a),(2,.int .i64 d),(6,.bp 1 8 0 0),(7,.bp 100 6 0 0),(8,.bp 206 2 0 0),(9,.bp 301 2 0 0),(22,.agg [Qas s.x,Qas s.y,Qas s.z]),(23,.int .i64 0),(10,.int .i64 0),(27,Qas c),(28,.int .i64 (c.length:Int)),(29,.int .i64 (k.1:Int))]
     [(1,{els:=[.agg [.bool false,.str ⟨#[]⟩,.bool false,.str ⟨#[]⟩,.bool false,.str ⟨#[]⟩,.bool false,.str ⟨#[]⟩]],esz:=8,ety:=73,fro:=0,live:=true,arr:=false}),(100,{els:=[w3PV (sel (plP s a d) 0 0 (sm (plcT c a d) k.1)) (sel (plP s a d) 0 1 (sm (plcT c a d) k.1)) (sel (plP s a d) 0 2 (sm (plcT c a d) k.1))],esz:=6,ety:=109,fro:=0,live:=true,arr:=false}),(206,{els:=[wPV O],esz:=2,ety:=71,fro:=0,live:=true,arr:=false}),(301,{els:=[wPV ((plG s a d 0:Nat):Int)],esz:=2,ety:=71,fro:=0,live:=true,arr:=false})]) (fun k=>c.length-k.1) ⟨0,Nat.zero_le _⟩ ?_ ?_
    ·refine Qak (θ:=[(1,1),(100,100),(206,206),(301,301)]) rfl ?_ ?_
     ·simp [Qaf,lkp,ren1,ren0,Qap,Qas]
     ·refine⟨⟨rfl,rfl,rfl,rfl,rfl,.inr ⟨rfl,_,_,rfl,rfl,rfl,rfl⟩⟩,⟨rfl,rfl,rfl,rfl,rfl,.inr ⟨rfl,_,_,rfl,rfl,?_,rfl⟩⟩,⟨rfl,rfl,rfl,rfl,rfl,.inr ⟨rfl,_,_,rfl,rfl,rfl,rfl⟩⟩,⟨rfl,rfl,rfl,rfl,rfl,.inr ⟨rfl,_,_,rfl,rfl,rfl,rfl⟩⟩,trivial⟩
      simp only [sel,at3,sm]
      rfl
    ·rintro⟨k,hk⟩
     by_cases hB:k<c.length
     ·have hB':=ltT hB
      have n0:=nnT k
      have hgk:=Qct c k hB
      have hwk2:=Qaj (a:=k) (by omega)
      have w5:IntKind.i64.wrap (5-(k:Int))=((5-k:Nat):Int):=by rw [Qah (by omega) (by omega)];omega
      obtain⟨k1,k2⟩:=hcx _ (List.getElem_mem hB)
      have hcb:bd 64 c:=fun x hx=>Qa1 (hcx x hx)
      have x1:=hcb _ (List.getElem_mem hB)
      have o1:=Qhs c[k] k1 k2
      have q1:=Qfy a k 64 ha.1 ha.2 (by omega) (by decide) ba
      have q2:=Qfy d (5-k) 64 hd.1 hd.2 (by omega) (by decide) bd'
      obtain⟨t1,t2,t3,t4⟩:=Qh7 hcb ba bd' k (by omega)
      have mm1:=Qhv (Qa4 t1 (by decide)) (Qa4 t2 (by decide)) (Qa4 t3 (by decide))
      have eT:plcT c a d k=c[k]*(a^k*d^(5-k)):=by unfold plcT;rw [Qfa hB]
      rw [eT]at t4
      have mm2:=Qhv (Qa4 x1 (by decide)) (Qa4 t3 (by decide)) (Qa4 t4 (by decide))
      rw [←eT]at mm2 t4
      have y1:=Qdu hcb ba bd' k (by omega)
      have y2:=Qdu hcb ba bd' (k+1) (by omega)
      have es:sm (plcT c a d) (k+1)=sm (plcT c a d) k+plcT c a d k:=rfl
      rw [es]at y2
      have a1:=Qgs (Qa4 y1 (by decide)) (Qa4 t4 (by decide)) (Qa4 y2 (by decide))
      rw [←es]at a1
      clear y1 y2 t1 t2 t3 t4 es eT hP
      generalize hX:sm (plcT c a d) (k+1)=X at*
      generalize sm (plcT c a d) k=Y at*
      generalize plcT c a d k=T at*
      generalize a^k*d^(5-k)=U at*
      generalize a^k=U1 at*
      generalize d^(5-k)=U2 at*
      repeat (first|(simp -implicitDefEqProofs only [go_sem,Nat.reduceAdd,Nat.reduceMul,Nat.reduceEqDiff,Nat.reduceLT,Nat.reduceLeDiff,reduceCtorEq,Int.reduceLT,wPV,hB',n0,hgk,hwk2,w5,sel,at3,Nat.reduceLT,Int.toNat_natCast,List.length_map])|((with_reducible refine Qab (o1) ?_ ?_ ?_);(with_reducible rfl);rfl)|((with_reducible refine Qab (q1) ?_ ?_ ?_);(with_reducible rfl);rfl)|((with_reducible refine Qab (q2) ?_ ?_ ?_);(with_reducible rfl);rfl)|((with_reducible refine Qab (mm1) ?_ ?_ ?_);(with_reducible rfl);rfl)|((with_reducible refine Qab (mm2) ?_ ?_ ?_);(with_reducible rfl);rfl)|((with_reducible refine Qab (a1) ?_ ?_ ?_);(with_reducible rfl);rfl)|(with_reducible exact Qaa _ _ (by kernel_rfl))|(with_reducible refine And.intro (Qaa _ _ (by kernel_rfl)) ?_))
      refine⟨⟨k+1,hB⟩,by simp only;omega,Qak (θ:=[(1,1),(100,100),(206,206),(301,301)]) rfl ?_ ?_⟩
      ·simp [Qaf,lkp,ren1,ren0,Qap,Qas]
      ·simp only [hX]
       exact⟨⟨rfl,rfl,rfl,rfl,rfl,.inr ⟨rfl,_,_,rfl,rfl,rfl,rfl⟩⟩,⟨rfl,rfl,rfl,rfl,rfl,.inr ⟨rfl,_,_,rfl,rfl,rfl,rfl⟩⟩,⟨rfl,rfl,rfl,rfl,rfl,.inr ⟨rfl,_,_,rfl,rfl,rfl,rfl⟩⟩,⟨rfl,rfl,rfl,rfl,rfl,.inr ⟨rfl,_,_,rfl,rfl,rfl,rfl⟩⟩,trivial⟩
     ·have hB':=ltF hB
      obtain rfl:k=c.length:=by omega
      have gg:=Qrz (Qa4 bGi (by decide)) (Qa4 bPi (by decide))
      rw [Int.natAbs_natCast,←hGs]at gg
      rw [hP]at gg
      generalize hX:sm (plcT c a d) c.length=X at*
      repeat (first|(simp -implicitDefEqProofs only [go_sem,Nat.reduceAdd,Nat.reduceMul,Nat.reduceEqDiff,Nat.reduceLT,Nat.reduceLeDiff,reduceCtorEq,Int.reduceLT,Int.reduceAdd,wPV,hB',sel,at3,Nat.reduceLT,List.length_map])|((with_reducible refine Qab (gg) ?_ ?_ ?_);(with_reducible rfl);rfl)|(with_reducible exact Qaa _ _ (by kernel_rfl))|(with_reducible refine And.intro (Qaa _ _ (by kernel_rfl)) ?_))
      refine⟨⟨0+1,hA⟩,by simp only;omega,Qak (θ:=[(1,1),(100,100),(206,206),(301,301)]) rfl ?_ ?_⟩
      ·simp [Qaf,lkp,ren1,ren0,Qap,Qas]
      ·simp only [at3,hP,hX]
       exact⟨⟨rfl,rfl,rfl,rfl,rfl,.inr ⟨rfl,_,_,rfl,rfl,rfl,rfl⟩⟩,⟨rfl,rfl,rfl,rfl,rfl,.inr ⟨rfl,_,_,rfl,rfl,rfl,rfl⟩⟩,⟨rfl,rfl,rfl,rfl,rfl,.inr ⟨rfl,_,_,rfl,rfl,rfl,rfl⟩⟩,⟨rfl,rfl,rfl,rfl,rfl,.inr ⟨rfl,_,_,rfl,rfl,rfl,rfl⟩⟩,trivial⟩
   ·skip
    obtain rfl:i=1:=hi0
    have hm:s.ax.getD 1 []=s.ax[1]'hA:=rfl
    have hP:plP s a d 1=sm (plcT (s.ax[1]'hA) a d) (s.ax[1]'hA).length:=rfl
    have hcx:=hc (s.ax[1]) (List.getElem_mem hA)
    have hlx:=h6 (s.ax[1]) (List.getElem_mem hA)
    have bPi:=bP 1 (by omega)
    have bGi:=bG 1 (by omega)
    have hGs:=Qfv s a d 1
    generalize s.ax[1]'hA=c at*
    repeat (first|(simp -implicitDefEqProofs only [go_sem,Nat.reduceAdd,Nat.reduceMul,Nat.reduceEqDiff,Nat.reduceLT,Nat.reduceLeDiff,Nat.reduceSub,reduceCtorEq,Int.reduceLE,Int.reduceLT,Int.reduceToNat,hA',hx,Int.toNat_natCast,List.length_map,at3,Nat.reduceLT])|(with_reducible exact Qaa _ _ (by kernel_rfl))|(with_reducible refine And.intro (Qaa _ _ (by kernel_rfl)) ?_))
    refine Qar mixed (fun k:{k:Nat // k≤c.length}=>St.of [(1,.int .i64 a),(2,.int .i64 d),(6,.bp 1 8 0 0),(7,.bp 100 6 0 0),(8,.bp 206 2 0 0),(9,.bp 301 2 0 0),(22,.agg [Qas s.x,Qas s.y,Qas s.z]),(23,.int .i64 1),(10,.int .i64 1),(27,Qas c),(28,.int .i64 (c.length:Int)),(29,.int .i64 (k.1:Int))]
     [(1,{els:=[.agg [.bool false,.str ⟨#[]⟩,.bool false,.str ⟨#[]⟩,.bool false,.str ⟨#[]⟩,.bool false,.str ⟨#[]⟩]],esz:=8,ety:=73,fro:=0,live:=true,arr:=false}),(100,{els:=[w3PV (sel (plP s a d) 1 0 (sm (plcT c a d) k.1)) (sel (plP s a d) 1 1 (sm (plcT c a d) k.1)) (sel (plP s a d) 1 2 (sm (plcT c a d) k.1))],esz:=6,ety:=109,fro:=0,live:=true,arr:=false}),(206,{els:=[wPV O],esz:=2,ety:=71,fro:=0,live:=true,arr:=false}),(301,{els:=[wPV ((plG s a d 1:Nat):Int)],esz:=2,ety:=71,fro:=0,live:=true,arr:=false})]) (fun k=>c.length-k.1) ⟨0,Nat.zero_le _⟩ ?_ ?_
    ·refine Qak (θ:=[(1,1),(100,100),(206,206),(301,301)]) rfl ?_ ?_
     ·simp [Qaf,lkp,ren1,ren0,Qap,Qas]
     ·refine⟨⟨rfl,rfl,rfl,rfl,rfl,.inr ⟨rfl,_,_,rfl,rfl,rfl,rfl⟩⟩,⟨rfl,rfl,rfl,rfl,rfl,.inr ⟨rfl,_,_,rfl,rfl,?_,rfl⟩⟩,⟨rfl,rfl,rfl,rfl,rfl,.inr ⟨rfl,_,_,rfl,rfl,rfl,rfl⟩⟩,⟨rfl,rfl,rfl,rfl,rfl,.inr ⟨rfl,_,_,rfl,rfl,rfl,rfl⟩⟩,trivial⟩
      simp only [sel,at3,sm]
      rfl
    ·rintro⟨k,hk⟩
     by_cases hB:k<c.length
     ·have hB':=ltT hB
      have n0:=nnT k
      have hgk:=Qct c k hB
      have hwk2:=Qaj (a:=k) (by omega)
      have w5:IntKind.i64.wrap (5-(k:Int))=((5-k:Nat):Int):=by rw [Qah (by omega) (by omega)];omega
      obtain⟨k1,k2⟩:=hcx _ (List.getElem_mem hB)
      have hcb:bd 64 c:=fun x hx=>Qa1 (hcx x hx)
      have x1:=hcb _ (List.getElem_mem hB)
      have o1:=Qhs c[k] k1 k2
      have q1:=Qfy a k 64 ha.1 ha.2 (by omega) (by decide) ba
      have q2:=Qfy d (5-k) 64 hd.1 hd.2 (by omega) (by decide) bd'
      obtain⟨t1,t2,t3,t4⟩:=Qh7 hcb ba bd' k (by omega)
      have mm1:=Qhv (Qa4 t1 (by decide)) (Qa4 t2 (by decide)) (Qa4 t3 (by decide))
      have eT:plcT c a d k=c[k]*(a^k*d^(5-k)):=by unfold plcT;rw [Qfa hB]
      rw [eT]at t4
      have mm2:=Qhv (Qa4 x1 (by decide)) (Qa4 t3 (by decide)) (Qa4 t4 (by decide))
      rw [←eT]at mm2 t4
      have y1:=Qdu hcb ba bd' k (by omega)
      have y2:=Qdu hcb ba bd' (k+1) (by omega)
      have es:sm (plcT c a d) (k+1)=sm (plcT c a d) k+plcT c a d k:=rfl
      rw [es]at y2
      have a1:=Qgs (Qa4 y1 (by decide)) (Qa4 t4 (by decide)) (Qa4 y2 (by decide))
      rw [←es]at a1
      clear y1 y2 t1 t2 t3 t4 es eT hP
      generalize hX:sm (plcT c a d) (k+1)=X at*
      generalize sm (plcT c a d) k=Y at*
      generalize plcT c a d k=T at*
      generalize a^k*d^(5-k)=U at*
      generalize a^k=U1 at*
      generalize d^(5-k)=U2 at*
      repeat (first|(simp -implicitDefEqProofs only [go_sem,Nat.reduceAdd,Nat.reduceMul,Nat.reduceEqDiff,Nat.reduceLT,Nat.reduceLeDiff,reduceCtorEq,Int.reduceLE,Int.reduceLT,Int.reduceToNat,wPV,hB',n0,hgk,hwk2,w5,sel,at3,Nat.reduceLT,Int.toNat_natCast,List.length_map])|((with_reducible refine Qab (o1) ?_ ?_ ?_);(with_reducible rfl);rfl)|((with_reducible refine Qab (q1) ?_ ?_ ?_);(with_reducible rfl);rfl)|((with_reducible refine Qab (q2) ?_ ?_ ?_);(with_reducible rfl);rfl)|((with_reducible refine Qab (mm1) ?_ ?_ ?_);(with_reducible rfl);rfl)|((with_reducible refine Qab (mm2) ?_ ?_ ?_);(with_reducible rfl);rfl)|((with_reducible refine Qab (a1) ?_ ?_ ?_);(with_reducible rfl);rfl)|(with_reducible exact Qaa _ _ (by kernel_rfl))|(with_reducible refine And.intro (Qaa _ _ (by kernel_rfl)) ?_))
      refine⟨⟨k+1,hB⟩,by simp only;omega,Qak (θ:=[(1,1),(100,100),(206,206),(301,301)]) rfl ?_ ?_⟩
      ·simp [Qaf,lkp,ren1,ren0,Qap,Qas]
      ·simp only [hX]
       exact⟨⟨rfl,rfl,rfl,rfl,rfl,.inr ⟨rfl,_,_,rfl,rfl,rfl,rfl⟩⟩,⟨rfl,rfl,rfl,rfl,rfl,.inr ⟨rfl,_,_,rfl,rfl,rfl,rfl⟩⟩,⟨rfl,rfl,rfl,rfl,rfl,.inr ⟨rfl,_,_,rfl,rfl,rfl,rfl⟩⟩,⟨rfl,rfl,rfl,rfl,rfl,.inr ⟨rfl,_,_,rfl,rfl,rfl,rfl⟩⟩,trivial⟩
     ·have hB':=ltF hB
      obtain rfl:k=c.length:=by omega
      have gg:=Qrz (Qa4 bGi (by decide)) (Qa4 bPi (by decide))
      rw [Int.natAbs_natCast,←hGs]at gg
      rw [hP]at gg
      generalize hX:sm (plcT c a d) c.length=X at*
      repeat (first|(simp -implicitDefEqProofs only [go_sem,Nat.reduceAdd,Nat.reduceMul,Nat.reduceEqDiff,Nat.reduceLT,Nat.reduceLeDiff,reduceCtorEq,Int.reduceLE,Int.reduceLT,Int.reduceToNat,Int.reduceAdd,wPV,hB',sel,at3,Nat.reduceLT,List.length_map])|((with_reducible refine Qab (gg) ?_ ?_ ?_);(with_reducible rfl);rfl)|(with_reducible exact Qaa _ _ (by kernel_rfl))|(with_reducible refine And.intro (Qaa _ _ (by kernel_rfl)) ?_))
      refine⟨⟨1+1,hA⟩,by simp only;omega,Qak (θ:=[(1,1),(100,100),(206,206),(301,301)]) rfl ?_ ?_⟩
      ·simp [Qaf,lkp,ren1,ren0,Qap,Qas]
      ·simp only [at3,hP,hX]
       exact⟨⟨rfl,rfl,rfl,rfl,rfl,.inr ⟨rfl,_,_,rfl,rfl,rfl,rfl⟩⟩,⟨rfl,rfl,rfl,rfl,rfl,.inr ⟨rfl,_,_,rfl,rfl,rfl,rfl⟩⟩,⟨rfl,rfl,rfl,rfl,rfl,.inr ⟨rfl,_,_,rfl,rfl,rfl,rfl⟩⟩,⟨rfl,rfl,rfl,rfl,rfl,.inr ⟨rfl,_,_,rfl,rfl,rfl,rfl⟩⟩,trivial⟩
   ·skip
    obtain rfl:i=2:=hi0
    have hm:s.ax.getD 2 []=s.ax[2]'hA:=rfl
    have hP:plP s a d 2=sm (plcT (s.ax[2]'hA) a d) (s.ax[2]'hA).length:=rfl
    have hcx:=hc (s.ax[2]) (List.getElem_mem hA)
    have hlx:=h6 (s.ax[2]) (List.getElem_mem hA)
    have bPi:=bP 2 (by omega)
    have bGi:=bG 2 (by omega)
    have hGs:=Qfv s a d 2
    generalize s.ax[2]'hA=c at*
    repeat (first|(simp -implicitDefEqProofs only [go_sem,Nat.reduceAdd,Nat.reduceMul,Nat.reduceEqDiff,Nat.reduceLT,Nat.reduceLeDiff,Nat.reduceSub,reduceCtorEq,Int.reduceLE,Int.reduceLT,Int.reduceToNat,hA',hx,Int.toNat_natCast,List.length_map,at3,Nat.reduceLT])|(with_reducible exact Qaa _ _ (by kernel_rfl))|(with_reducible refine And.intro (Qaa _ _ (by kernel_rfl)) ?_))
    refine Qar mixed (fun k:{k:Nat // k≤c.length}=>St.of [(1,.int .i64 a),(2,.int .i64 d),(6,.bp 1 8 0 0),(7,.bp 100 6 0 0),(8,.bp 206 2 0 0),(9,.bp 301 2 0 0),(22,.agg [Qas s.x,Qas s.y,Qas s.z]),(23,.int .i64 2),(10,.int .i64 2),(27,Qas c),(28,.int .i64 (c.length:Int)),(29,.int .i64 (k.1:Int))]
     [(1,{els:=[.agg [.bool false,.str ⟨#[]⟩,.bool false,.str ⟨#[]⟩,.bool false,.str ⟨#[]⟩,.bool false,.str ⟨#[]⟩]],esz:=8,ety:=73,fro:=0,live:=true,arr:=false}),(100,{els:=[w3PV (sel (plP s a d) 2 0 (sm (plcT c a d) k.1)) (sel (plP s a d) 2 1 (sm (plcT c a d) k.1)) (sel (plP s a d) 2 2 (sm (plcT c a d) k.1))],esz:=6,ety:=109,fro:=0,live:=true,arr:=false}),(206,{els:=[wPV O],esz:=2,ety:=71,fro:=0,live:=true,arr:=false}),(301,{els:=[wPV ((plG s a d 2:Nat):Int)],esz:=2,ety:=71,fro:=0,live:=true,arr:=false})]) (fun k=>c.length-k.1) ⟨0,Nat.zero_le _⟩ ?_ ?_
    ·refine Qak (θ:=[(1,1),(100,100),(206,206),(301,301)]) rfl ?_ ?_
     ·simp [Qaf,lkp,ren1,ren0,Qap,Qas]
     ·refine⟨⟨rfl,rfl,rfl,rfl,rfl,.inr ⟨rfl,_,_,rfl,rfl,rfl,rfl⟩⟩,⟨rfl,rfl,rfl,rfl,rfl,.inr ⟨rfl,_,_,rfl,rfl,?_,rfl⟩⟩,⟨rfl,rfl,rfl,rfl,rfl,.inr ⟨rfl,_,_,rfl,rfl,rfl,rfl⟩⟩,⟨rfl,rfl,rfl,rfl,rfl,.inr ⟨rfl,_,_,rfl,rfl,rfl,rfl⟩⟩,trivial⟩
      simp only [sel,at3,sm]
      rfl
    ·rintro⟨k,hk⟩
     by_cases hB:k<c.length
     ·have hB':=ltT hB
      have n0:=nnT k
      have hgk:=Qct c k hB
      have hwk2:=Qaj (a:=k) (by omega)
      have w5:IntKind.i64.wrap (5-(k:Int))=((5-k:Nat):Int):=by rw [Qah (by omega) (by omega)];omega
      obtain⟨k1,k2⟩:=hcx _ (List.getElem_mem hB)
      have hcb:bd 64 c:=fun x hx=>Qa1 (hcx x hx)
      have x1:=hcb _ (List.getElem_mem hB)
      have o1:=Qhs c[k] k1 k2
      have q1:=Qfy a k 64 ha.1 ha.2 (by omega) (by decide) ba
      have q2:=Qfy d (5-k) 64 hd.1 hd.2 (by omega) (by decide) bd'
      obtain⟨t1,t2,t3,t4⟩:=Qh7 hcb ba bd' k (by omega)
      have mm1:=Qhv (Qa4 t1 (by decide)) (Qa4 t2 (by decide)) (Qa4 t3 (by decide))
      have eT:plcT c a d k=c[k]*(a^k*d^(5-k)):=by unfold plcT;rw [Qfa hB]
      rw [eT]at t4
      have mm2:=Qhv (Qa4 x1 (by decide)) (Qa4 t3 (by decide)) (Qa4 t4 (by decide))
      rw [←eT]at mm2 t4
      have y1:=Qdu hcb ba bd' k (by omega)
      have y2:=Qdu hcb ba bd' (k+1) (by omega)
      have es:sm (plcT c a d) (k+1)=sm (plcT c a d) k+plcT c a d k:=rfl
      rw [es]at y2
      have a1:=Qgs (Qa4 y1 (by decide)) (Qa4 t4 (by decide)) (Qa4 y2 (by decide))
      rw [←es]at a1
      clear y1 y2 t1 t2 t3 t4 es eT hP
      generalize hX:sm (plcT c a d) (k+1)=X at*
      generalize sm (plcT c a d) k=Y at*
      generalize plcT c a d k=T at*
      generalize a^k*d^(5-k)=U at*
      generalize a^k=U1 at*
      generalize d^(5-k)=U2 at*
      repeat (first|(simp -implicitDefEqProofs only [go_sem,Nat.reduceAdd,Nat.reduceMul,Nat.reduceEqDiff,Nat.reduceLT,Nat.reduceLeDiff,reduceCtorEq,Int.reduceLE,Int.reduceLT,Int.reduceToNat,wPV,hB',n0,hgk,hwk2,w5,sel,at3,Nat.reduceLT,Int.toNat_natCast,List.length_map])|((with_reducible refine Qab (o1) ?_ ?_ ?_);(with_reducible rfl);rfl)|((with_reducible refine Qab (q1) ?_ ?_ ?_);(with_reducible rfl);rfl)|((with_reducible refine Qab (q2) ?_ ?_ ?_);(with_reducible rfl);rfl)|((with_reducible refine Qab (mm1) ?_ ?_ ?_);(with_reducible rfl);rfl)|((with_reducible refine Qab (mm2) ?_ ?_ ?_);(with_reducible rfl);rfl)|((with_reducible refine Qab (a1) ?_ ?_ ?_);(with_reducible rfl);rfl)|(with_reducible exact Qaa _ _ (by kernel_rfl))|(with_reducible refine And.intro (Qaa _ _ (by kernel_rfl)) ?_))
      refine⟨⟨k+1,hB⟩,by simp only;omega,Qak (θ:=[(1,1),(100,100),(206,206),(301,301)]) rfl ?_ ?_⟩
      ·simp [Qaf,lkp,ren1,ren0,Qap,Qas]
      ·simp only [hX]
       exact⟨⟨rfl,rfl,rfl,rfl,rfl,.inr ⟨rfl,_,_,rfl,rfl,rfl,rfl⟩⟩,⟨rfl,rfl,rfl,rfl,rfl,.inr ⟨rfl,_,_,rfl,rfl,rfl,rfl⟩⟩,⟨rfl,rfl,rfl,rfl,rfl,.inr ⟨rfl,_,_,rfl,rfl,rfl,rfl⟩⟩,⟨rfl,rfl,rfl,rfl,rfl,.inr ⟨rfl,_,_,rfl,rfl,rfl,rfl⟩⟩,trivial⟩
     ·have hB':=ltF hB
      obtain rfl:k=c.length:=by omega
      have gg:=Qrz (Qa4 bGi (by decide)) (Qa4 bPi (by decide))
      rw [Int.natAbs_natCast,←hGs]at gg
      rw [hP]at gg
      generalize hX:sm (plcT c a d) c.length=X at*
      repeat (first|(simp -implicitDefEqProofs only [go_sem,Nat.reduceAdd,Nat.reduceMul,Nat.reduceEqDiff,Nat.reduceLT,Nat.reduceLeDiff,reduceCtorEq,Int.reduceLE,Int.reduceLT,Int.reduceToNat,Int.reduceAdd,wPV,hB',sel,at3,Nat.reduceLT,List.length_map])|((with_reducible refine Qab (gg) ?_ ?_ ?_);(with_reducible rfl);rfl)|(with_reducible exact Qaa _ _ (by kernel_rfl))|(with_reducible refine And.intro (Qaa _ _ (by kernel_rfl)) ?_))
      refine⟨⟨2+1,hA⟩,by simp only;omega,Qak (θ:=[(1,1),(100,100),(206,206),(301,301)]) rfl ?_ ?_⟩
      ·simp [Qaf,lkp,ren1,ren0,Qap,Qas]
      ·simp only [at3,hP,hX]
       exact⟨⟨rfl,rfl,rfl,rfl,rfl,.inr ⟨rfl,_,_,rfl,rfl,rfl,rfl⟩⟩,⟨rfl,rfl,rfl,rfl,rfl,.inr ⟨rfl,_,_,rfl,rfl,rfl,rfl⟩⟩,⟨rfl,rfl,rfl,rfl,rfl,.inr ⟨rfl,_,_,rfl,rfl,rfl,rfl⟩⟩,⟨rfl,rfl,rfl,rfl,rfl,.inr ⟨rfl,_,_,rfl,rfl,rfl,rfl⟩⟩,trivial⟩
  ·have hA':((i:Int)<3)=False:=eq_false (by omega)
   obtain rfl:i=3:=by omega
   have G0:=Qts ho hd1 3 (s:=s) (d:=d) (a:=a)
   have bG3:=Qwp (bG 3 (by decide)) (by decide)
   have r0:=Qmk (bP 0 (by decide)) (by decide) bG3 (by omega)
   have r1:=Qmk (bP 1 (by decide)) (by decide) bG3 (by omega)
   have r2:=Qmk (bP 2 (by decide)) (by decide) bG3 (by omega)
   have r3:=Qmk bod (by decide) bG3 (by omega)
   unfold plV
   rw [hO]
   have z0:at3 (plP s a d) 3 0=plP s a d 0:=rfl
   have z1:at3 (plP s a d) 3 1=plP s a d 1:=rfl
   have z2:at3 (plP s a d) 3 2=plP s a d 2:=rfl
   simp only [z0,z1,z2]
   clear z0 z1 z2
   generalize plP s a d 0=X0 at*
   generalize plP s a d 1=X1 at*
   generalize plP s a d 2=X2 at*
   generalize ((plG s a d 3:Nat):Int)=G at*
   generalize X0/G=Y0 at*
   generalize X1/G=Y1 at*
   generalize X2/G=Y2 at*
   generalize O/G=Y3 at*
   repeat (first|(simp -implicitDefEqProofs only [go_sem,Nat.reduceAdd,Nat.reduceMul,Nat.reduceEqDiff,Nat.reduceLT,Nat.reduceLeDiff,Nat.reduceSub,reduceCtorEq,Int.reduceLE,Int.reduceLT,Int.reduceToNat,hA',wPV,at3,Nat.reduceLT])|((with_reducible refine Qab (r0) ?_ ?_ ?_);(with_reducible rfl);rfl)|((with_reducible refine Qab (r1) ?_ ?_ ?_);(with_reducible rfl);rfl)|((with_reducible refine Qab (r2) ?_ ?_ ?_);(with_reducible rfl);rfl)|((with_reducible refine Qab (r3) ?_ ?_ ?_);(with_reducible rfl);rfl)|(with_reducible exact Qaa _ _ (by kernel_rfl))|(with_reducible refine And.intro (Qaa _ _ (by kernel_rfl)) ?_))
end Go.Proofs.YtciddhkfbgkejaaGreatDoor
