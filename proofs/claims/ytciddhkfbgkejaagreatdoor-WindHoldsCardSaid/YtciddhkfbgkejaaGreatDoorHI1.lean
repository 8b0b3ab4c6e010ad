/-
  HI1 (merged for the claim).
-/
import Derived.Test.YtciddhkfbgkejaaGreatDoorDwi
set_option linter.unusedSimpArgs false
set_option linter.unusedVariables false
namespace Go.Proofs.YtciddhkfbgkejaaGreatDoor
open Go.Vl Go.RowKit Go.Dg
def wdPV (w:Wd):PV:= .agg [.int .i64 w.lx,.int .i64 w.ly,.int .i64 w.lz,.int .i64 w.hx,.int .i64 w.hy,.int .i64 w.hz,.int .i64 w.f,.int .i64 w.t,.int .i64 w.ux,.int .i64 w.uy,.int .i64 w.uz]
attribute [go_sem] wdPV
abbrev wsPV (l:List Wd):PV:= .slc (l.map wdPV)
theorem wr_1:IntKind.i64.wrap 1=1:=rfl
theorem wr_2:IntKind.i64.wrap 2=2:=rfl
theorem wr_3:IntKind.i64.wrap 3=3:=rfl
theorem wr_4:IntKind.i64.wrap 4=4:=rfl
theorem nc_2:((2:Nat):Int)=2:=rfl
theorem nc_3:((3:Nat):Int)=3:=rfl
theorem nc_4:((4:Nat):Int)=4:=rfl
attribute [go_sem] wr_1 wr_2 wr_3 wr_4 nc_2 nc_3 nc_4
theorem Qoz (l:List Wd) (i:Nat) (h:i<l.length):(l.map wdPV)[i]? =some (wdPV l[i]):=by rw [List.getElem?_map,List.getElem?_eq_getElem h];rfl
theorem Qg3 {x y z:Int} (h:ptB x y z=false): ¬((-1048576≤x∧x≤1048576)∧(-1048576≤y∧y≤1048576)∧(-1048576≤z∧z≤1048576)):=of_decide_eq_false h
theorem Qji {x y z:Int} (h:ptB x y z=true):(-1048576≤x∧x≤1048576)∧(-1048576≤y∧y≤1048576)∧(-1048576≤z∧z≤1048576):=of_decide_eq_true h
theorem Qm1 {x:Int} (h:uB x=false): ¬(-5000≤x∧x≤5000):=of_decide_eq_false h
theorem Qqv {x:Int} (h:uB x=true): -5000≤x∧x≤5000:=of_decide_eq_true h
abbrev WdOk (w:Wd):Prop:=(-1048576≤w.lx∧w.lx≤1048576)∧(-1048576≤w.ly∧w.ly≤1048576)∧(-1048576≤w.lz∧w.lz≤1048576)∧(-1048576≤w.hx∧w.hx≤1048576)∧(-1048576≤w.hy∧w.hy≤1048576)∧(-1048576≤w.hz∧w.hz≤1048576)∧
  0≤w.f∧w.f<w.t∧w.t≤3600000∧w.lx≤w.hx∧w.ly≤w.hy∧w.lz≤w.hz∧(-5000≤w.ux∧w.ux≤5000)∧(-5000≤w.uy∧w.uy≤5000)∧(-5000≤w.uz∧w.uz≤5000)
theorem Qx0 {w:Wd} (h:WdOk w):vWd w=true:=by
 unfold WdOk at h
 simp only [vWd,ptB,uB,Bool.and_eq_true,decide_eq_true_eq]
 omega
theorem Ql3 {l:List Wd} {i:Nat} {h:i<l.length} (e: ¬WdOk l[i]):Qat l=false:=by
 cases e2:Qat l with
 |false=>rfl
 |true=>exact(e (Qg1 ((Qbi e2).1 _ (List.getElem_mem h)))).elim
theorem Qx1 {l:List Wd} {i:Nat} (h:i<l.length) (h1:(l.take i).all vWd=true) (h2:vWd l[i]=true):(l.take (i+1)).all vWd=true:=by
 rw [Qbo l i h,List.all_append,h1];simp [h2]
set_option maxRecDepth 100000 in
theorem Q4i (m:Int) (x y z:Int) (hm:0≤m) (hm2:m≤1000000000):Qag Tryz.prog 93 [.int .i64 m,.slc [.int .i64 x,.int .i64 y,.int .i64 z]] (.bool (decide ((-m≤x∧x≤m)∧(-m≤y∧y≤m)∧(-m≤z∧z≤m)))):=by
 have wm:IntKind.i64.wrap (0-m)= -m:=by rw [Qai (by omega) (by omega)];omega
 by_cases c0:x< -m
 ·have c0':=eq_true c0
  have e:decide ((-m≤x∧x≤m)∧(-m≤y∧y≤m)∧(-m≤z∧z≤m))=false:=decide_eq_false (by omega)
  refine Qad (tb:=[]) 23 [.tmp 4] [0,1,4,6,7,8,9,10,21] mixed Tryz.func93 rfl (by kernel_rfl) (by kernel_rfl) (by kernel_rfl) (by kernel_rfl) ?_
  repeat (first|(simp -implicitDefEqProofs only [go_sem,Nat.reduceAdd,Nat.reduceMul,Nat.reduceEqDiff,Nat.reduceLT,Nat.reduceLeDiff,reduceCtorEq]))
  refine Qee mixed [0,1,2,3] ?_
  repeat (first|(simp -implicitDefEqProofs only [go_sem,Nat.reduceAdd,Nat.reduceMul,Nat.reduceEqDiff,Nat.reduceLT,Nat.reduceLeDiff,reduceCtorEq,Int.reduceLT,wm,e,Bool.not_false,Bool.not_true,c0']))
 have c0':=eq_false c0
 by_cases c1:m<x
 ·have c1':=eq_true c1
  have e:decide ((-m≤x∧x≤m)∧(-m≤y∧y≤m)∧(-m≤z∧z≤m))=false:=decide_eq_false (by omega)
  refine Qad (tb:=[]) 23 [.tmp 4] [0,1,4,6,7,8,9,10,21] mixed Tryz.func93 rfl (by kernel_rfl) (by kernel_rfl) (by kernel_rfl) (by kernel_rfl) ?_
  repeat (first|(simp -implicitDefEqProofs only [go_sem,Nat.reduceAdd,Nat.reduceMul,Nat.reduceEqDiff,Nat.reduceLT,Nat.reduceLeDiff,reduceCtorEq]))
  refine Qee mixed [0,1,2,3] ?_
  repeat (first|(simp -implicitDefEqProofs only [go_sem,Nat.reduceAdd,Nat.reduceMul,Nat.reduceEqDiff,Nat.reduceLT,Nat.reduceLeDiff,reduceCtorEq,Int.reduceLT,wm,e,Bool.not_false,Bool.not_true,c0',c1']))
 have c1':=eq_false c1
 by_cases c2:y< -m
 ·have c2':=eq_true c2
  have e:decide ((-m≤x∧x≤m)∧(-m≤y∧y≤m)∧(-m≤z∧z≤m))=false:=decide_eq_false (by omega)
  refine Qad (tb:=[]) 23 [.tmp 4] [0,1,4,6,7,8,9,10,21] mixed Tryz.func93 rfl (by kernel_rfl) (by kernel_rfl) (by kernel_rfl) (by kernel_rfl) ?_
  repeat (first|(simp -implicitDefEqProofs only [go_sem,Nat.reduceAdd,Nat.reduceMul,Nat.reduceEqDiff,Nat.reduceLT,Nat.reduceLeDiff,reduceCtorEq]))
  refine Qee mixed [0,1,2,3] ?_
  repeat (first|(simp -implicitDefEqProofs only [go_sem,Nat.reduceAdd,Nat.reduceMul,Nat.reduceEqDiff,Nat.reduceLT,Nat.reduceLeDiff,reduceCtorEq,Int.reduceLE,Int.reduceLT,Int.reduceToNat,Int.reduceAdd,wm,e,Bool.not_false,Bool.not_true,c0',c1',c2']))
 have c2':=eq_false c2
 by_cases c3:m<y
 ·have c3':=eq_true c3
  have e:decide ((-m≤x∧x≤m)∧(-m≤y∧y≤m)∧(-m≤z∧z≤m))=false:=decide_eq_false (by omega)
  refine Qad (tb:=[]) 23 [.tmp 4] [0,1,4,6,7,8,9,10,21] mixed Tryz.func93 rfl (by kernel_rfl) (by kernel_rfl) (by kernel_rfl) (by kernel_rfl) ?_
  repeat (first|(simp -implicitDefEqProofs only [go_sem,Nat.reduceAdd,Nat.reduceMul,Nat.reduceEqDiff,Nat.reduceLT,Nat.reduceLeDiff,reduceCtorEq]))
  refine Qee mixed [0,1,2,3] ?_
  repeat (first|(simp -implicitDefEqProofs only [go_sem,Nat.reduceAdd,Nat.reduceMul,Nat.reduceEqDiff,Nat.reduceLT,Nat.reduceLeDiff,reduceCtorEq,Int.reduceLE,Int.reduceLT,Int.reduceToNat,Int.reduceAdd,wm,e,Bool.not_false,Bool.not_true,c0',c1',c2',c3']))
 have c3':=eq_false c3
 by_cases c4:z< -m
 ·have c4':=eq_true c4
  have e:decide ((-m≤x∧x≤m)∧(-m≤y∧y≤m)∧(-m≤z∧z≤m))=false:=decide_eq_false (by omega)
  refine Qad (tb:=[]) 23 [.tmp 4] [0,1,4,6,7,8,9,10,21] mixed Tryz.func93 rfl (by kernel_rfl) (by kernel_rfl) (by kernel_rfl) (by kernel_rfl) ?_
  repeat (first|(simp -implicitDefEqProofs only [go_sem,Nat.reduceAdd,Nat.reduceMul,Nat.reduceEqDiff,Nat.reduceLT,Nat.reduceLeDiff,reduceCtorEq]))
  refine Qee mixed [0,1,2,3] ?_
  repeat (first|(simp -implicitDefEqProofs only [go_sem,Nat.reduceAdd,Nat.reduceMul,Nat.reduceEqDiff,Nat.reduceLT,Nat.reduceLeDiff,reduceCtorEq,Int.reduceLE,Int.reduceLT,Int.reduceToNat,Int.reduceAdd,wm,e,Bool.not_false,Bool.not_true,c0',c1',c2',c3',c4']))
 have c4':=eq_false c4
 by_cases c5:m<z
 ·have c5':=eq_true c5
  have e:decide ((-m≤x∧x≤m)∧(-m≤y∧y≤m)∧(-m≤z∧z≤m))=false:=decide_eq_false (by omega)
  refine Qad (tb:=[]) 23 [.tmp 4] [0,1,4,6,7,8,9,10,21] mixed Tryz.func93 rfl (by kernel_rfl) (by kernel_rfl) (by kernel_rfl) (by kernel_rfl) ?_
  repeat (first|(simp -implicitDefEqProofs only [go_sem,Nat.reduceAdd,Nat.reduceMul,Nat.reduceEqDiff,Nat.reduceLT,Nat.reduceLeDiff,reduceCtorEq]))
  refine Qee mixed [0,1,2,3] ?_
  repeat (first|(simp -implicitDefEqProofs only [go_sem,Nat.reduceAdd,Nat.reduceMul,Nat.reduceEqDiff,Nat.reduceLT,Nat.reduceLeDiff,reduceCtorEq,Int.reduceLE,Int.reduceLT,Int.reduceToNat,Int.reduceAdd,wm,e,Bool.not_false,Bool.not_true,c0',c1',c2',c3',c4',c5']))
 have c5':=eq_false c5
 have e:decide ((-m≤x∧x≤m)∧(-m≤y∧y≤m)∧(-m≤z∧z≤m))=true:=decide_eq_true (by omega)
 refine Qad (tb:=[]) 23 [.tmp 4] [0,1,4,6,7,8,9,10,21] mixed Tryz.func93 rfl (by kernel_rfl) (by kernel_rfl) (by kernel_rfl) (by kernel_rfl) ?_
 repeat (first|(simp -implicitDefEqProofs only [go_sem,Nat.reduceAdd,Nat.reduceMul,Nat.reduceEqDiff,Nat.reduceLT,Nat.reduceLeDiff,reduceCtorEq]))
 refine Qee mixed [0,1,2,3] ?_
 repeat (first|(simp -implicitDefEqProofs only [go_sem,Nat.reduceAdd,Nat.reduceMul,Nat.reduceEqDiff,Nat.reduceLT,Nat.reduceLeDiff,reduceCtorEq,Int.reduceLE,Int.reduceLT,Int.reduceToNat,Int.reduceAdd,wm,e,Bool.not_false,Bool.not_true,c0',c1',c2',c3',c4',c5']))
theorem Qm2 (x y z:Int):Qag Tryz.prog 48 [.agg [.int .i64 x,.int .i64 y,.int .i64 z]] (.bool (ptB x y z)):=by
 have h:=Q4i 1048576 x y z (by decide) (by decide)
 have e:decide ((-1048576≤x∧x≤1048576)∧(-1048576≤y∧y≤1048576)∧(-1048576≤z∧z≤1048576))=ptB x y z:=rfl
 rw [e]at h
 generalize ptB x y z=b at*
 refine Qad (tb:=[]) 11 [.tmp 2] [0,1,2] mixed Tryz.func48 rfl (by kernel_rfl) (by kernel_rfl) (by kernel_rfl) (by kernel_rfl) ?_
 repeat (first|(simp -implicitDefEqProofs only [go_sem,Nat.reduceAdd,Nat.reduceMul,Nat.reduceEqDiff,Nat.reduceLT,Nat.reduceLeDiff,reduceIte,reduceCtorEq])|((with_reducible refine Qab (h) ?_ ?_ ?_);(with_reducible rfl);rfl))
theorem Qm3 (x:Int):Qag Tryz.prog 56 [.int .i64 x] (.bool (decide (-1048576≤x)&&decide (x≤1048576))):=by
 by_cases c: -1048576≤x
 ·have c':=eq_true c
  rw [decide_eq_true c]
  refine Qad (tb:=[]) 9 [.tmp 2] [0,2] mixed Tryz.func56 rfl (by kernel_rfl) (by kernel_rfl) (by kernel_rfl) (by kernel_rfl) ?_
  repeat (first|(simp -implicitDefEqProofs only [go_sem,Nat.reduceAdd,Nat.reduceMul,Nat.reduceEqDiff,Nat.reduceLT,Nat.reduceLeDiff,reduceCtorEq,Int.reduceNeg,c',Bool.true_and]))
 ·have c':=eq_false c
  rw [decide_eq_false c]
  refine Qad (tb:=[]) 9 [.tmp 2] [0,2] mixed Tryz.func56 rfl (by kernel_rfl) (by kernel_rfl) (by kernel_rfl) (by kernel_rfl) ?_
  repeat (first|(simp -implicitDefEqProofs only [go_sem,Nat.reduceAdd,Nat.reduceMul,Nat.reduceEqDiff,Nat.reduceLT,Nat.reduceLeDiff,reduceCtorEq,Int.reduceNeg,c',Bool.false_and]))
theorem Qjj (x y z:Int):Qag Tryz.prog 17 [.agg [.int .i64 x,.int .i64 y,.int .i64 z]] (.bool (ptB x y z)):=by
 have h1:=Qm3 x
 have h2:=Qm3 y
 have h3:=Qm3 z
 have e:ptB x y z=((decide (-1048576≤x)&&decide (x≤1048576))&&((decide (-1048576≤y)&&decide (y≤1048576))&&(decide (-1048576≤z)&&decide (z≤1048576)))):=by
  rw [ptB,Bool.eq_iff_iff];simp [Bool.and_eq_true]
 rw [e]
 clear e
 generalize (decide (-1048576≤x)&&decide (x≤1048576))=b1 at*
 generalize (decide (-1048576≤y)&&decide (y≤1048576))=b2 at*
 generalize (decide (-1048576≤z)&&decide (z≤1048576))=b3 at*
 cases b1 with
 |false=>
  refine Qad (tb:=[]) 16 [.tmp 2] [0,1,2] mixed Tryz.func17 rfl (by kernel_rfl) (by kernel_rfl) (by kernel_rfl) (by kernel_rfl) ?_
  repeat (first|(simp -implicitDefEqProofs only [go_sem,Nat.reduceAdd,Nat.reduceMul,Nat.reduceEqDiff,Nat.reduceLT,Nat.reduceLeDiff,reduceCtorEq,Bool.false_and])|((with_reducible refine Qab (h1) ?_ ?_ ?_);(with_reducible rfl);rfl))
 |true=>
 cases b2 with
 |false=>
  refine Qad (tb:=[]) 16 [.tmp 2] [0,1,2] mixed Tryz.func17 rfl (by kernel_rfl) (by kernel_rfl) (by kernel_rfl) (by kernel_rfl) ?_
  repeat (first|(simp -implicitDefEqProofs only [go_sem,Nat.reduceAdd,Nat.reduceMul,Nat.reduceEqDiff,Nat.reduceLT,Nat.reduceLeDiff,reduceCtorEq,Bool.false_and,Bool.true_and])|((with_reducible refine Qab (h1) ?_ ?_ ?_);(with_reducible rfl);rfl)|((with_reducible refine Qab (h2) ?_ ?_ ?_);(with_reducible rfl);rfl))
 |true=>
  refine Qad (tb:=[]) 16 [.tmp 2] [0,1,2] mixed Tryz.func17 rfl (by kernel_rfl) (by kernel_rfl) (by kernel_rfl) (by kernel_rfl) ?_
  repeat (first|(simp -implicitDefEqProofs only [go_sem,Nat.reduceAdd,Nat.reduceMul,Nat.reduceEqDiff,Nat.reduceLT,Nat.reduceLeDiff,reduceCtorEq,Bool.true_and])|((with_reducible refine Qab (h1) ?_ ?_ ?_);(with_reducible rfl);rfl)|((with_reducible refine Qab (h2) ?_ ?_ ?_);(with_reducible rfl);rfl)|((with_reducible refine Qab (h3) ?_ ?_ ?_);(with_reducible rfl);rfl))
theorem Qm4 (x:Int):Qag Tryz.prog 50 [.int .i64 x] (.bool (uB x)):=by
 by_cases c: -5000≤x
 ·have c':=eq_true c
  have e:uB x=decide (x≤5000):=by rw [uB,Bool.eq_iff_iff];simp [c]
  rw [e]
  refine Qad (tb:=[]) 9 [.tmp 2] [0,2] mixed Tryz.func50 rfl (by kernel_rfl) (by kernel_rfl) (by kernel_rfl) (by kernel_rfl) ?_
  repeat (first|(simp -implicitDefEqProofs only [go_sem,Nat.reduceAdd,Nat.reduceMul,Nat.reduceEqDiff,Nat.reduceLT,Nat.reduceLeDiff,reduceCtorEq,Int.reduceNeg,c']))
 ·have c':=eq_false c
  have e:uB x=false:=by rw [uB];exact decide_eq_false (by omega)
  rw [e]
  refine Qad (tb:=[]) 9 [.tmp 2] [0,2] mixed Tryz.func50 rfl (by kernel_rfl) (by kernel_rfl) (by kernel_rfl) (by kernel_rfl) ?_
  repeat (first|(simp -implicitDefEqProofs only [go_sem,Nat.reduceAdd,Nat.reduceMul,Nat.reduceEqDiff,Nat.reduceLT,Nat.reduceLeDiff,reduceCtorEq,Int.reduceNeg,c']))
theorem Qfh (x y z:Int):Qag Tryz.prog 49 [.agg [.int .i64 x,.int .i64 y,.int .i64 z]] (.agg [.int .i64 x,.int .i64 y,.int .i64 z]):=by
 refine Qad (tb:=[]) 10 [.cell 2 87] [0,1,2] mixed Tryz.func49 rfl (by kernel_rfl) (by kernel_rfl) (by kernel_rfl) (by kernel_rfl) ?_
 repeat (first|(simp -implicitDefEqProofs only [go_sem,Nat.reduceAdd,Nat.reduceMul,Nat.reduceEqDiff,Nat.reduceLT,Nat.reduceLeDiff,reduceCtorEq]))
set_option maxHeartbeats 8000000 in
set_option maxRecDepth 100000 in
theorem Qka (l:List Wd) (hl:l.length≤maxLen):Qag Tryz.prog 13 [wsPV l] (.bool (Qat l)):=by
 have hm:=Qg2
 refine Qad (tb:=[]) 75 [.tmp 2] [0,2,4,5,6,7,8,9,10,11,12,41,50,51,52,69] mixed Tryz.func13 rfl (by kernel_rfl) (by kernel_rfl) (by kernel_rfl) (by kernel_rfl) ?_
 repeat (first|(simp -implicitDefEqProofs only [go_sem,Nat.reduceAdd,Nat.reduceMul,Nat.reduceEqDiff,Nat.reduceLT,Nat.reduceLeDiff,reduceCtorEq,Int.reduceNeg])|(with_reducible exact Qaa _ _ (by kernel_rfl))|(with_reducible refine And.intro (Qaa _ _ (by kernel_rfl)) ?_))
 refine Qa0 mixed (fun i:{i:Nat // i≤l.length∧(l.take i).all vWd=true}=>St.of [(0,wsPV l),(9,wsPV l),(10,.int .i64 (l.length:Int)),(11,.int .i64 (i.1:Int))] []) (fun i=>l.length-i.1) ⟨0,Nat.zero_le _,rfl⟩ ?_ ?_
 ·refine Qax ?_
  simp [Qae,lkp,ren1,ren0,Qam,wsPV]
 rintro⟨i,hi,hall⟩
 simp only
 by_cases hA:i<l.length
 case neg=>
  have hA':=ltF hA
  have et:l.take i=l:=List.take_of_length_le (by omega)
  rw [et]at hall
  by_cases h8:l.length≤8
  ·have h8':((l.length:Int)≤8)=True:=eq_true (by omega)
   have e:Qat l=true:=by simp [Qat,hall,h8]
   repeat (first|(simp -implicitDefEqProofs only [go_sem,Nat.reduceAdd,Nat.reduceMul,Nat.reduceEqDiff,Nat.reduceLT,Nat.reduceLeDiff,reduceCtorEq,Int.reduceNeg,hA',h8',e,List.length_map,decide_true,decide_false])|(with_reducible exact Qaa _ _ (by kernel_rfl))|(with_reducible refine And.intro (Qaa _ _ (by kernel_rfl)) ?_))
  ·have h8':((l.length:Int)≤8)=False:=eq_false (by omega)
   have e:Qat l=false:=by simp [Qat,h8]
   repeat (first|(simp -implicitDefEqProofs only [go_sem,Nat.reduceAdd,Nat.reduceMul,Nat.reduceEqDiff,Nat.reduceLT,Nat.reduceLeDiff,reduceCtorEq,Int.reduceNeg,hA',h8',e,List.length_map,decide_true,decide_false])|(with_reducible exact Qaa _ _ (by kernel_rfl))|(with_reducible refine And.intro (Qaa _ _ (by kernel_rfl)) ?_))
 have hA':=ltT hA
 have n0:=nnT i
 have hg:=Qoz l i hA
 have hwk:=Qak (a:=i) (by omega)
 have hbad:=fun h=>Ql3 (h:=hA) h
 have hok:=Qx1 hA hall
 generalize l[i]=w at*
 have h0:=Qm2 w.lx w.ly w.lz
 have h1:=Qm2 w.hx w.hy w.hz
 have q0:=Qfh w.lx w.ly w.lz
 have q1:=Qfh w.hx w.hy w.hz
 have q2:=Qfh w.ux w.uy w.uz
 cases c0:ptB w.lx w.ly w.lz with
 |false=>
  rw [c0]at h0
  have c0:=Qg3 c0
  have e:Qat l=false:=hbad (by unfold WdOk;omega)
  repeat (first|(simp -implicitDefEqProofs only [go_sem,Nat.reduceAdd,Nat.reduceMul,Nat.reduceEqDiff,Nat.reduceLT,Nat.reduceLeDiff,reduceCtorEq,Int.reduceNeg,hA',n0,hg,hwk,e,Int.toNat_natCast,List.length_map,Bool.not_true,Bool.not_false,decide_true,decide_false])|((with_reducible refine Qab (h0) ?_ ?_ ?_);(with_reducible rfl);rfl)|((with_reducible refine Qab (h1) ?_ ?_ ?_);(with_reducible rfl);rfl)|(with_reducible exact Qaa _ _ (by kernel_rfl))|(with_reducible refine And.intro (Qaa _ _ (by kernel_rfl)) ?_))
 |true=>
 rw [c0]at h0
 have c0:=Qji c0
 cases c1:ptB w.hx w.hy w.hz with
 |false=>
  rw [c1]at h1
  have c1:=Qg3 c1
  have e:Qat l=false:=hbad (by unfold WdOk;omega)
  repeat (first|(simp -implicitDefEqProofs only [go_sem,Nat.reduceAdd,Nat.reduceMul,Nat.reduceEqDiff,Nat.reduceLT,Nat.reduceLeDiff,reduceCtorEq,Int.reduceNeg,hA',n0,hg,hwk,e,Int.toNat_natCast,List.length_map,Bool.not_true,Bool.not_false,decide_true,decide_false])|((with_reducible refine Qab (h0) ?_ ?_ ?_);(with_reducible rfl);rfl)|((with_reducible refine Qab (h1) ?_ ?_ ?_);(with_reducible rfl);rfl)|(with_reducible exact Qaa _ _ (by kernel_rfl))|(with_reducible refine And.intro (Qaa _ _ (by kernel_rfl)) ?_))
 |true=>
 rw [c1]at h1
 have c1:=Qji c1
 by_cases c2:w.f<0
 ·have c2':=eq_true c2
  have e:Qat l=false:=hbad (by unfold WdOk;omega)
  repeat (first|(simp -implicitDefEqProofs only [go_sem,Nat.reduceAdd,Nat.reduceMul,Nat.reduceEqDiff,Nat.reduceLT,Nat.reduceLeDiff,reduceCtorEq,Int.reduceNeg,hA',n0,hg,hwk,e,Int.toNat_natCast,List.length_map,Bool.not_true,Bool.not_false,decide_true,decide_false,c2'])|((with_reducible refine Qab (h0) ?_ ?_ ?_);(with_reducible rfl);rfl)|((with_reducible refine Qab (h1) ?_ ?_ ?_);(with_reducible rfl);rfl)|(with_reducible exact Qaa _ _ (by kernel_rfl))|(with_reducible refine And.intro (Qaa _ _ (by kernel_rfl)) ?_))
 have c2':=eq_false c2
 by_cases c3:w.t≤w.f
 ·have c3':=eq_true c3
  have e:Qat l=false:=hbad (by unfold WdOk;omega)
  repeat (first|(simp -implicitDefEqProofs only [go_sem,Nat.reduceAdd,Nat.reduceMul,Nat.reduceEqDiff,Nat.reduceLT,Nat.reduceLeDiff,reduceCtorEq,Int.reduceNeg,hA',n0,hg,hwk,e,Int.toNat_natCast,List.length_map,Bool.not_true,Bool.not_false,decide_true,decide_false,c2',c3'])|((with_reducible refine Qab (h0) ?_ ?_ ?_);(with_reducible rfl);rfl)|((with_reducible refine Qab (h1) ?_ ?_ ?_);(with_reducible rfl);rfl)|(with_reducible exact Qaa _ _ (by kernel_rfl))|(with_reducible refine And.intro (Qaa _ _ (by kernel_rfl)) ?_))
 have c3':=eq_false c3
 by_cases c4:3600000<w.t
 ·have c4':=eq_true c4
  have e:Qat l=false:=hbad (by unfold WdOk;omega)
  repeat (first|(simp -implicitDefEqProofs only [go_sem,Nat.reduceAdd,Nat.reduceMul,Nat.reduceEqDiff,Nat.reduceLT,Nat.reduceLeDiff,reduceCtorEq,Int.reduceNeg,hA',n0,hg,hwk,e,Int.toNat_natCast,List.length_map,Bool.not_true,Bool.not_false,decide_true,decide_false,c2',c3',c4'])|((with_reducible refine Qab (h0) ?_ ?_ ?_);(with_reducible rfl);rfl)|((with_reducible refine Qab (h1) ?_ ?_ ?_);(with_reducible rfl);rfl)|(with_reducible exact Qaa _ _ (by kernel_rfl))|(with_reducible refine And.intro (Qaa _ _ (by kernel_rfl)) ?_))
 have c4':=eq_false c4
 repeat (first|(simp -implicitDefEqProofs only [go_sem,Nat.reduceAdd,Nat.reduceMul,Nat.reduceEqDiff,Nat.reduceLT,Nat.reduceLeDiff,reduceCtorEq,Int.reduceNeg,hA',n0,hg,hwk,Int.toNat_natCast,List.length_map,Bool.not_true,Bool.not_false,decide_true,decide_false,c2',c3',c4'])|((with_reducible refine Qab (h0) ?_ ?_ ?_);(with_reducible rfl);rfl)|((with_reducible refine Qab (h1) ?_ ?_ ?_);(with_reducible rfl);rfl)|((with_reducible refine Qab (q0) ?_ ?_ ?_);(with_reducible rfl);rfl)|((with_reducible refine Qab (q1) ?_ ?_ ?_);(with_reducible rfl);rfl)|((with_reducible refine Qab (q2) ?_ ?_ ?_);(with_reducible rfl);rfl)|(with_reducible exact Qaa _ _ (by kernel_rfl))|(with_reducible refine And.intro (Qaa _ _ (by kernel_rfl)) ?_))
 refine Qee mixed [0,1,2,3] ?_
 by_cases c5:w.hx<w.lx
 ·have c5':=eq_true c5
  have e:Qat l=false:=hbad (by unfold WdOk;omega)
  repeat (first|(simp -implicitDefEqProofs only [go_sem,Nat.reduceAdd,Nat.reduceMul,Nat.reduceEqDiff,Nat.reduceLT,Nat.reduceLeDiff,reduceCtorEq,Int.reduceLT,Int.reduceNeg,hA',n0,hg,hwk,e,Int.toNat_natCast,List.length_map,Bool.not_true,Bool.not_false,decide_true,decide_false,c2',c3',c4',c5'])|(with_reducible exact Qaa _ _ (by kernel_rfl))|(with_reducible refine And.intro (Qaa _ _ (by kernel_rfl)) ?_))
 have c5':=eq_false c5
 by_cases c6:w.ux< -5000
 ·have c6':=eq_true c6
  have e:Qat l=false:=hbad (by unfold WdOk;omega)
  repeat (first|(simp -implicitDefEqProofs only [go_sem,Nat.reduceAdd,Nat.reduceMul,Nat.reduceEqDiff,Nat.reduceLT,Nat.reduceLeDiff,reduceCtorEq,Int.reduceLT,Int.reduceNeg,hA',n0,hg,hwk,e,Int.toNat_natCast,List.length_map,Bool.not_true,Bool.not_false,decide_true,decide_false,c2',c3',c4',c5',c6'])|(with_reducible exact Qaa _ _ (by kernel_rfl))|(with_reducible refine And.intro (Qaa _ _ (by kernel_rfl)) ?_))
 have c6':=eq_false c6
 by_cases c7:5000<w.ux
 ·have c7':=eq_true c7
  have e:Qat l=false:=hbad (by unfold WdOk;omega)
  repeat (first|(simp -implicitDefEqProofs only [go_sem,Nat.reduceAdd,Nat.reduceMul,Nat.reduceEqDiff,Nat.reduceLT,Nat.reduceLeDiff,reduceCtorEq,Int.reduceLT,Int.reduceNeg,hA',n0,hg,hwk,e,Int.toNat_natCast,List.length_map,Bool.not_true,Bool.not_false,decide_true,decide_false,c2',c3',c4',c5',c6',c7'])|(with_reducible exact Qaa _ _ (by kernel_rfl))|(with_reducible refine And.intro (Qaa _ _ (by kernel_rfl)) ?_))
 have c7':=eq_false c7
 by_cases c8:w.hy<w.ly
 ·have c8':=eq_true c8
  have e:Qat l=false:=hbad (by unfold WdOk;omega)
  repeat (first|(simp -implicitDefEqProofs only [go_sem,Nat.reduceAdd,Nat.reduceMul,Nat.reduceEqDiff,Nat.reduceLT,Nat.reduceLeDiff,reduceCtorEq,Int.reduceLE,Int.reduceLT,Int.reduceToNat,Int.reduceAdd,Int.reduceNeg,hA',n0,hg,hwk,e,Int.toNat_natCast,List.length_map,Bool.not_true,Bool.not_false,decide_true,decide_false,c2',c3',c4',c5',c6',c7',c8'])|(with_reducible exact Qaa _ _ (by kernel_rfl))|(with_reducible refine And.intro (Qaa _ _ (by kernel_rfl)) ?_))
 have c8':=eq_false c8
 by_cases c9:w.uy< -5000
 ·have c9':=eq_true c9
  have e:Qat l=false:=hbad (by unfold WdOk;omega)
  repeat (first|(simp -implicitDefEqProofs only [go_sem,Nat.reduceAdd,Nat.reduceMul,Nat.reduceEqDiff,Nat.reduceLT,Nat.reduceLeDiff,reduceCtorEq,Int.reduceLE,Int.reduceLT,Int.reduceToNat,Int.reduceAdd,Int.reduceNeg,hA',n0,hg,hwk,e,Int.toNat_natCast,List.length_map,Bool.not_true,Bool.not_false,decide_true,decide_false,c2',c3',c4',c5',c6',c7',c8',c9'])|(with_reducible exact Qaa _ _ (by kernel_rfl))|(with_reducible refine And.intro (Qaa _ _ (by kernel_rfl)) ?_))
 have c9':=eq_false c9
 by_cases c10:5000<w.uy
 ·have c10':=eq_true c10
  have e:Qat l=false:=hbad (by unfold WdOk;omega)
  repeat (first|(simp -implicitDefEqProofs only [go_sem,Nat.reduceAdd,Nat.reduceMul,Nat.reduceEqDiff,Nat.reduceLT,Nat.reduceLeDiff,reduceCtorEq,Int.reduceLE,Int.reduceLT,Int.reduceToNat,Int.reduceAdd,Int.reduceNeg,hA',n0,hg,hwk,e,Int.toNat_natCast,List.length_map,Bool.not_true,Bool.not_false,decide_true,decide_false,c2',c3',c4',c5',c6',c7',c8',c9',c10'])|(with_reducible exact Qaa _ _ (by kernel_rfl))|(with_reducible refine And.intro (Qaa _ _ (by kernel_rfl)) ?_))
 have c10':=eq_false c10
 by_cases c11:w.hz<w.lz
 ·have c11':=eq_true c11
  have e:Qat l=false:=hbad (by unfold WdOk;omega)
  repeat (first|(simp -implicitDefEqProofs only [go_sem,Nat.reduceAdd,Nat.reduceMul,Nat.reduceEqDiff,Nat.reduceLT,Nat.reduceLeDiff,reduceCtorEq,Int.reduceLE,Int.reduceLT,Int.reduceToNat,Int.reduceAdd,Int.reduceNeg,hA',n0,hg,hwk,e,Int.toNat_natCast,List.length_map,Bool.not_true,Bool.not_false,decide_true,decide_false,c2',c3',c4',c5',c6',c7',c8',c9',c10',c11'])|(with_reducible exact Qaa _ _ (by kernel_rfl))|(with_reducible refine And.intro (Qaa _ _ (by kernel_rfl)) ?_))
 have c11':=eq_false c11
 by_cases c12:w.uz< -5000
 ·have c12':=eq_true c12
  have e:Qat l=false:=hbad (by unfold WdOk;omega)
  repeat (first|(simp -implicitDefEqProofs only [go_sem,Nat.reduceAdd,Nat.reduceMul,Nat.reduceEqDiff,Nat.reduceLT,Nat.reduceLeDiff,reduceCtorEq,Int.reduceLE,Int.reduceLT,Int.reduceToNat,Int.reduceAdd,Int.reduceNeg,hA',n0,hg,hwk,e,Int.toNat_natCast,List.length_map,Bool.not_true,Bool.not_false,decide_true,decide_false,c2',c3',c4',c5',c6',c7',c8',c9',c10',c11',c12'])|(with_reducible exact Qaa _ _ (by kernel_rfl))|(with_reducible refine And.intro (Qaa _ _ (by kernel_rfl)) ?_))
 have c12':=eq_false c12
 by_cases c13:5000<w.uz
 ·have c13':=eq_true c13
  have e:Qat l=false:=hbad (by unfold WdOk;omega)
  repeat (first|(simp -implicitDefEqProofs only [go_sem,Nat.reduceAdd,Nat.reduceMul,Nat.reduceEqDiff,Nat.reduceLT,Nat.reduceLeDiff,reduceCtorEq,Int.reduceLE,Int.reduceLT,Int.reduceToNat,Int.reduceAdd,Int.reduceNeg,hA',n0,hg,hwk,e,Int.toNat_natCast,List.length_map,Bool.not_true,Bool.not_false,decide_true,decide_false,c2',c3',c4',c5',c6',c7',c8',c9',c10',c11',c12',c13'])|(with_reducible exact Qaa _ _ (by kernel_rfl))|(with_reducible refine And.intro (Qaa _ _ (by kernel_rfl)) ?_))
 have c13':=eq_false c13
 have e:=hok (Qx0 (by unfold WdOk;omega))
 repeat (first|(simp -implicitDefEqProofs only [go_sem,Nat.reduceAdd,Nat.reduceMul,Nat.reduceEqDiff,Nat.reduceLT,Nat.reduceLeDiff,reduceCtorEq,Int.reduceLE,Int.reduceLT,Int.reduceToNat,Int.reduceAdd,Int.reduceNeg,hA',n0,hg,hwk,Int.toNat_natCast,List.length_map,Bool.not_true,Bool.not_false,decide_true,decide_false,c2',c3',c4',c5',c6',c7',c8',c9',c10',c11',c12',c13'])|(with_reducible exact Qaa _ _ (by kernel_rfl))|(with_reducible refine And.intro (Qaa _ _ (by kernel_rfl)) ?_))
 refine⟨⟨i+1,hA,e⟩,by simp only;omega,Qan (θ:=[]) rfl ?_ trivial⟩
 simp [Qae,lkp,ren1,ren0,Qam,wsPV]
set_option maxHeartbeats 4000000 in
set_option maxRecDepth 100000 in
theorem Qg4 (l:List Wd) (hl:l.length≤maxLen):Qag Tryz.prog 14 [wsPV l] (.bool (Qat l)):=by
 have hm:=Qg2
 refine Qad (tb:=[]) 93 [.tmp 2] [0,2,3,4,8,89] mixed Tryz.func14 rfl (by kernel_rfl) (by kernel_rfl) (by kernel_rfl) (by kernel_rfl) ?_
 repeat (first|(simp -implicitDefEqProofs only [go_sem,Nat.reduceAdd,Nat.reduceMul,Nat.reduceEqDiff,Nat.reduceLT,Nat.reduceLeDiff,reduceCtorEq]))
 refine Qa0 mixed (fun i:{i:Nat // i≤l.length∧(l.take i).all vWd=true}=>St.of [(0,wsPV l),(3,.int .i64 (i.1:Int))] []) (fun i=>l.length-i.1) ⟨0,Nat.zero_le _,rfl⟩ ?_ ?_
 ·refine Qax ?_
  simp [Qae,lkp,ren1,ren0,Qam,wsPV]
 rintro⟨i,hi,hall⟩
 simp only
 by_cases hA:i<l.length
 case neg=>
  have hA':=ltF hA
  have et:l.take i=l:=List.take_of_length_le (by omega)
  rw [et]at hall
  by_cases h8:l.length≤8
  ·have h8':((l.length:Int)≤8)=True:=eq_true (by omega)
   have e:Qat l=true:=by simp [Qat,hall,h8]
   repeat (first|(simp -implicitDefEqProofs only [go_sem,Nat.reduceAdd,Nat.reduceMul,Nat.reduceEqDiff,Nat.reduceLT,Nat.reduceLeDiff,reduceCtorEq,hA',h8',e,List.length_map,decide_true,decide_false]))
  ·have h8':((l.length:Int)≤8)=False:=eq_false (by omega)
   have e:Qat l=false:=by simp [Qat,h8]
   repeat (first|(simp -implicitDefEqProofs only [go_sem,Nat.reduceAdd,Nat.reduceMul,Nat.reduceEqDiff,Nat.reduceLT,Nat.reduceLeDiff,reduceCtorEq,hA',h8',e,List.length_map,decide_true,decide_false]))
 have hA':=ltT hA
 have n0:=nnT i
 have hg:=Qoz l i hA
 have hwk:=Qak (a:=i) (by omega)
 have hbad:=fun h=>Ql3 (h:=hA) h
 have hok:=Qx1 hA hall
 generalize l[i]=w at*
 have h0:=Qjj w.lx w.ly w.lz
 have h1:=Qjj w.hx w.hy w.hz
 have h8:=Qm4 w.ux
 have h9:=Qm4 w.uy
 have h10:=Qm4 w.uz
 cases c0:ptB w.lx w.ly w.lz with
 |false=>
  rw [c0]at h0
  have c0:=Qg3 c0
  have e:Qat l=false:=hbad (by unfold WdOk;omega)
  repeat (first|(simp -implicitDefEqProofs only [go_sem,Nat.reduceAdd,Nat.reduceMul,Nat.reduceEqDiff,Nat.reduceLT,Nat.reduceLeDiff,reduceCtorEq,hA',n0,hg,hwk,e,Int.toNat_natCast,List.length_map,Bool.not_true,Bool.not_false,decide_true,decide_false])|((with_reducible refine Qab (h0) ?_ ?_ ?_);(with_reducible rfl);rfl)|((with_reducible refine Qab (h1) ?_ ?_ ?_);(with_reducible rfl);rfl)|((with_reducible refine Qab (h8) ?_ ?_ ?_);(with_reducible rfl);rfl)|((with_reducible refine Qab (h9) ?_ ?_ ?_);(with_reducible rfl);rfl)|((with_reducible refine Qab (h10) ?_ ?_ ?_);(with_reducible rfl);rfl))
 |true=>
 rw [c0]at h0
 have c0:=Qji c0
 cases c1:ptB w.hx w.hy w.hz with
 |false=>
  rw [c1]at h1
  have c1:=Qg3 c1
  have e:Qat l=false:=hbad (by unfold WdOk;omega)
  repeat (first|(simp -implicitDefEqProofs only [go_sem,Nat.reduceAdd,Nat.reduceMul,Nat.reduceEqDiff,Nat.reduceLT,Nat.reduceLeDiff,reduceCtorEq,hA',n0,hg,hwk,e,Int.toNat_natCast,List.length_map,Bool.not_true,Bool.not_false,decide_true,decide_false])|((with_reducible refine Qab (h0) ?_ ?_ ?_);(with_reducible rfl);rfl)|((with_reducible refine Qab (h1) ?_ ?_ ?_);(with_reducible rfl);rfl)|((with_reducible refine Qab (h8) ?_ ?_ ?_);(with_reducible rfl);rfl)|((with_reducible refine Qab (h9) ?_ ?_ ?_);(with_reducible rfl);rfl)|((with_reducible refine Qab (h10) ?_ ?_ ?_);(with_reducible rfl);rfl))
 |true=>
 rw [c1]at h1
 have c1:=Qji c1
 by_cases c2:w.hx<w.lx
 ·have c2':=eq_true c2
  have e:Qat l=false:=hbad (by unfold WdOk;omega)
  repeat (first|(simp -implicitDefEqProofs only [go_sem,Nat.reduceAdd,Nat.reduceMul,Nat.reduceEqDiff,Nat.reduceLT,Nat.reduceLeDiff,reduceCtorEq,hA',n0,hg,hwk,e,Int.toNat_natCast,List.length_map,Bool.not_true,Bool.not_false,decide_true,decide_false,c2'])|((with_reducible refine Qab (h0) ?_ ?_ ?_);(with_reducible rfl);rfl)|((with_reducible refine Qab (h1) ?_ ?_ ?_);(with_reducible rfl);rfl)|((with_reducible refine Qab (h8) ?_ ?_ ?_);(with_reducible rfl);rfl)|((with_reducible refine Qab (h9) ?_ ?_ ?_);(with_reducible rfl);rfl)|((with_reducible refine Qab (h10) ?_ ?_ ?_);(with_reducible rfl);rfl))
 have c2':=eq_false c2
 by_cases c3:w.hy<w.ly
 ·have c3':=eq_true c3
  have e:Qat l=false:=hbad (by unfold WdOk;omega)
  repeat (first|(simp -implicitDefEqProofs only [go_sem,Nat.reduceAdd,Nat.reduceMul,Nat.reduceEqDiff,Nat.reduceLT,Nat.reduceLeDiff,reduceCtorEq,hA',n0,hg,hwk,e,Int.toNat_natCast,List.length_map,Bool.not_true,Bool.not_false,decide_true,decide_false,c2',c3'])|((with_reducible refine Qab (h0) ?_ ?_ ?_);(with_reducible rfl);rfl)|((with_reducible refine Qab (h1) ?_ ?_ ?_);(with_reducible rfl);rfl)|((with_reducible refine Qab (h8) ?_ ?_ ?_);(with_reducible rfl);rfl)|((with_reducible refine Qab (h9) ?_ ?_ ?_);(with_reducible rfl);rfl)|((with_reducible refine Qab (h10) ?_ ?_ ?_);(with_reducible rfl);rfl))
 have c3':=eq_false c3
 by_cases c4:w.hz<w.lz
 ·have c4':=eq_true c4
  have e:Qat l=false:=hbad (by unfold WdOk;omega)
  repeat (first|(simp -implicitDefEqProofs only [go_sem,Nat.reduceAdd,Nat.reduceMul,Nat.reduceEqDiff,Nat.reduceLT,Nat.reduceLeDiff,reduceCtorEq,hA',n0,hg,hwk,e,Int.toNat_natCast,List.length_map,Bool.not_true,Bool.not_false,decide_true,decide_false,c2',c3',c4'])|((with_reducible refine Qab (h0) ?_ ?_ ?_);(with_reducible rfl);rfl)|((with_reducible refine Qab (h1) ?_ ?_ ?_);(with_reducible rfl);rfl)|((with_reducible refine Qab (h8) ?_ ?_ ?_);(with_reducible rfl);rfl)|((with_reducible refine Qab (h9) ?_ ?_ ?_);(with_reducible rfl);rfl)|((with_reducible refine Qab (h10) ?_ ?_ ?_);(with_reducible rfl);rfl))
 have c4':=eq_false c4
 by_cases c5:w.f<0
 ·have c5':=eq_true c5
  have e:Qat l=false:=hbad (by unfold WdOk;omega)
  repeat (first|(simp -implicitDefEqProofs only [go_sem,Nat.reduceAdd,Nat.reduceMul,Nat.reduceEqDiff,Nat.reduceLT,Nat.reduceLeDiff,reduceCtorEq,hA',n0,hg,hwk,e,Int.toNat_natCast,List.length_map,Bool.not_true,Bool.not_false,decide_true,decide_false,c2',c3',c4',c5'])|((with_reducible refine Qab (h0) ?_ ?_ ?_);(with_reducible rfl);rfl)|((with_reducible refine Qab (h1) ?_ ?_ ?_);(with_reducible rfl);rfl)|((with_reducible refine Qab (h8) ?_ ?_ ?_);(with_reducible rfl);rfl)|((with_reducible refine Qab (h9) ?_ ?_ ?_);(with_reducible rfl);rfl)|((with_reducible refine Qab (h10) ?_ ?_ ?_);(with_reducible rfl);rfl))
 have c5':=eq_false c5
 by_cases c6:w.t≤w.f
 ·have c6':=eq_true c6
  have e:Qat l=false:=hbad (by unfold WdOk;omega)
  repeat (first|(simp -implicitDefEqProofs only [go_sem,Nat.reduceAdd,Nat.reduceMul,Nat.reduceEqDiff,Nat.reduceLT,Nat.reduceLeDiff,reduceCtorEq,hA',n0,hg,hwk,e,Int.toNat_natCast,List.length_map,Bool.not_true,Bool.not_false,decide_true,decide_false,c2',c3',c4',c5',c6'])|((with_reducible refine Qab (h0) ?_ ?_ ?_);(with_reducible rfl);rfl)|((with_reducible refine Qab (h1) ?_ ?_ ?_);(with_reducible rfl);rfl)|((with_reducible refine Qab (h8) ?_ ?_ ?_);(with_reducible rfl);rfl)|((with_reducible refine Qab (h9) ?_ ?_ ?_);(with_reducible rfl);rfl)|((with_reducible refine Qab (h10) ?_ ?_ ?_);(with_reducible rfl);rfl))
 have c6':=eq_false c6
 by_cases c7:3600000<w.t
 ·have c7':=eq_true c7
  have e:Qat l=false:=hbad (by unfold WdOk;omega)
  repeat (first|(simp -implicitDefEqProofs only [go_sem,Nat.reduceAdd,Nat.reduceMul,Nat.reduceEqDiff,Nat.reduceLT,Nat.reduceLeDiff,reduceCtorEq,hA',n0,hg,hwk,e,Int.toNat_natCast,List.length_map,Bool.not_true,Bool.not_false,decide_true,decide_false,c2',c3',c4',c5',c6',c7'])|((with_reducible refine Qab (h0) ?_ ?_ ?_);(with_reducible rfl);rfl)|((with_reducible refine Qab (h1) ?_ ?_ ?_);(with_reducible rfl);rfl)|((with_reducible refine Qab (h8) ?_ ?_ ?_);(with_reducible rfl);rfl)|((with_reducible refine Qab (h9) ?_ ?_ ?_);(with_reducible rfl);rfl)|((with_reducible refine Qab (h10) ?_ ?_ ?_);(with_reducible rfl);rfl))
 have c7':=eq_false c7
 cases c8:uB w.ux with
 |false=>
  rw [c8]at h8
  have c8:=Qm1 c8
  have e:Qat l=false:=hbad (by unfold WdOk;omega)
  repeat (first|(simp -implicitDefEqProofs only [go_sem,Nat.reduceAdd,Nat.reduceMul,Nat.reduceEqDiff,Nat.reduceLT,Nat.reduceLeDiff,reduceCtorEq,hA',n0,hg,hwk,e,Int.toNat_natCast,List.length_map,Bool.not_true,Bool.not_false,decide_true,decide_false,c2',c3',c4',c5',c6',c7'])|((with_reducible refine Qab (h0) ?_ ?_ ?_);(with_reducible rfl);rfl)|((with_reducible refine Qab (h1) ?_ ?_ ?_);(with_reducible rfl);rfl)|((with_reducible refine Qab (h8) ?_ ?_ ?_);(with_reducible rfl);rfl)|((with_reducible refine Qab (h9) ?_ ?_ ?_);(with_reducible rfl);rfl)|((with_reducible refine Qab (h10) ?_ ?_ ?_);(with_reducible rfl);rfl))
 |true=>
 rw [c8]at h8
 have c8:=Qqv c8
 cases c9:uB w.uy with
 |false=>
  rw [c9]at h9
  have c9:=Qm1 c9
  have e:Qat l=false:=hbad (by unfold WdOk;omega)
  repeat (first|(simp -implicitDefEqProofs only [go_sem,Nat.reduceAdd,Nat.reduceMul,Nat.reduceEqDiff,Nat.reduceLT,Nat.reduceLeDiff,reduceCtorEq,hA',n0,hg,hwk,e,Int.toNat_natCast,List.length_map,Bool.not_true,Bool.not_false,decide_true,decide_false,c2',c3',c4',c5',c6',c7'])|((with_reducible refine Qab (h0) ?_ ?_ ?_);(with_reducible rfl);rfl)|((with_reducible refine Qab (h1) ?_ ?_ ?_);(with_reducible rfl);rfl)|((with_reducible refine Qab (h8) ?_ ?_ ?_);(with_reducible rfl);rfl)|((with_reducible refine Qab (h9) ?_ ?_ ?_);(with_reducible rfl);rfl)|((with_reducible refine Qab (h10) ?_ ?_ ?_);(with_reducible rfl);rfl))
 |true=>
 rw [c9]at h9
 have c9:=Qqv c9
 cases c10:uB w.uz with
 |false=>
  rw [c10]at h10
  have c10:=Qm1 c10
  have e:Qat l=false:=hbad (by unfold WdOk;omega)
  repeat (first|(simp -implicitDefEqProofs only [go_sem,Nat.reduceAdd,Nat.reduceMul,Nat.reduceEqDiff,Nat.reduceLT,Nat.reduceLeDiff,reduceCtorEq,hA',n0,hg,hwk,e,Int.toNat_natCast,List.length_map,Bool.not_true,Bool.not_false,decide_true,decide_false,c2',c3',c4',c5',c6',c7'])|((with_reducible refine Qab (h0) ?_ ?_ ?_);(with_reducible rfl);rfl)|((with_reducible refine Qab (h1) ?_ ?_ ?_);(with_reducible rfl);rfl)|((with_reducible refine Qab (h8) ?_ ?_ ?_);(with_reducible rfl);rfl)|((with_reducible refine Qab (h9) ?_ ?_ ?_);(with_reducible rfl);rfl)|((with_reducible refine Qab (h10) ?_ ?_ ?_);(with_reducible rfl);rfl))
 |true=>
 rw [c10]at h10
 have c10:=Qqv c10
 have e:=hok (Qx0 (by unfold WdOk;omega))
 repeat (first|(simp -implicitDefEqProofs only [go_sem,Nat.reduceAdd,Nat.reduceMul,Nat.reduceEqDiff,Nat.reduceLT,Nat.reduceLeDiff,reduceCtorEq,hA',n0,hg,hwk,Int.toNat_natCast,List.length_map,Bool.not_true,Bool.not_false,decide_true,decide_false,c2',c3',c4',c5',c6',c7'])|((with_reducible refine Qab (h0) ?_ ?_ ?_);(with_reducible rfl);rfl)|((with_reducible refine Qab (h1) ?_ ?_ ?_);(with_reducible rfl);rfl)|((with_reducible refine Qab (h8) ?_ ?_ ?_);(with_reducible rfl);rfl)|((with_reducible refine Qab (h9) ?_ ?_ ?_);(with_reducible rfl);rfl)|((with_reducible refine Qab (h10) ?_ ?_ ?_);(with_reducible rfl);rfl))
 refine⟨⟨i+1,hA,e⟩,by simp only;omega,Qax ?_⟩
 simp [Qae,lkp,ren1,ren0,Qam,wsPV]
end Go.Proofs.YtciddhkfbgkejaaGreatDoor
