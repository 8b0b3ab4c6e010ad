/-
  HI1, UY (merged for the claim).
-/
import Derived.Test.YtciddhkfbgkejaaGreatDoorHM2
import Derived.Test.YtciddhkfbgkejaaGreatDoorDbv
import Derived.Test.YtciddhkfbgkejaaGreatDoorDwi
import Derived.Test.YtciddhkfbgkejaaGreatDoorUV
import Derived.RangeFuncIn
set_option linter.unusedSimpArgs false
set_option linter.unusedVariables false
namespace Go.Proofs.YtciddhkfbgkejaaGreatDoor
open Go.Vl Go.RowKit Go.Dg
def wdPV (w:Wd):PV:= .agg [.int .i64 w.lx,.int .i64 w.ly,.int .i64 w.lz,.int .i64 w.hx,.int .i64 w.hy,.int .i64 w.hz,.int .i64 w.f,.int .i64 w.t,.int .i64 w.ux,.int .i64 w.uy,.int .i64 w.uz]
attribute [go_sem] wdPV
abbrev wsPV (l:List Wd):PV:= .slc (l.map wdPV)
theorem wr_1:IntKind.i64.wrap 1=1:=rfl
theorem wr_2:IntKind.i64.wrap 2=2:=rfl
theorem wr_3:IntKind.i64.wrap 3=3:=rfl
theorem wr_4:IntKind.i64.wrap 4=4:=rfl
theorem nc_2:((2:Nat):Int)=2:=rfl
theorem nc_3:((3:Nat):Int)=3:=rfl
theorem nc_4:((4:Nat):Int)=4:=rfl
attribute [go_sem] wr_1 wr_2 wr_3 wr_4 nc_2 nc_3 nc_4
theorem Qok (l:List Wd) (i:Nat) (h:i<l.length):(l.map wdPV)[i]? =some (wdPV l[i]):=by rw [List.getElem?_map,List.getElem?_eq_getElem h];rfl
theorem Qir {x y z:Int} (h:ptB x y z=false): ¬((-1048576≤x∧x≤1048576)∧(-1048576≤y∧y≤1048576)∧(-1048576≤z∧z≤1048576)):=of_decide_eq_false h
theorem Qlh {x y z:Int} (h:ptB x y z=true):(-1048576≤x∧x≤1048576)∧(-1048576≤y∧y≤1048576)∧(-1048576≤z∧z≤1048576):=of_decide_eq_true h
theorem Qp1 {x:Int} (h:uB x=false): ¬(-5000≤x∧x≤5000):=of_decide_eq_false h
theorem Qtz {x:Int} (h:uB x=true): -5000≤x∧x≤5000:=of_decide_eq_true h
abbrev WdOk (w:Wd):Prop:=(-1048576≤w.lx∧w.lx≤1048576)∧(-1048576≤w.ly∧w.ly≤1048576)∧(-1048576≤w.lz∧w.lz≤1048576)∧(-1048576≤w.hx∧w.hx≤1048576)∧(-1048576≤w.hy∧w.hy≤1048576)∧(-1048576≤w.hz∧w.hz≤1048576)∧
  0≤w.f∧w.f<w.t∧w.t≤3600000∧w.lx≤w.hx∧w.ly≤w.hy∧w.lz≤w.hz∧(-5000≤w.ux∧w.ux≤5000)∧(-5000≤w.uy∧w.uy≤5000)∧(-5000≤w.uz∧w.uz≤5000)
theorem Q2o {w:Wd} (h:WdOk w):vWd w=true:=by
 unfold WdOk at h
 simp only [vWd,ptB,uB,Bool.and_eq_true,decide_eq_true_eq]
 omega
theorem Qol {l:List Wd} {i:Nat} {h:i<l.length} (e: ¬WdOk l[i]):Qa8 l=false:=by
 cases e2:Qa8 l with
 |false=>rfl
 |true=>exact(e (Ql9 ((Qcy e2).1 _ (List.getElem_mem h)))).elim
theorem Q2p {l:List Wd} {i:Nat} (h:i<l.length) (h1:(l.take i).all vWd=true) (h2:vWd l[i]=true):(l.take (i+1)).all vWd=true:=by
 rw [Qb0 l i h,List.all_append,h1];simp [h2]
set_option maxRecDepth 100000 in
theorem Zaa (m:Int) (x y z:Int) (hm:0≤m) (hm2:m≤1000000000):Qad Tryz.prog 93 [.int .i64 m,.slc [.int .i64 x,.int .i64 y,.int .i64 z]] (.bool (decide ((-m≤x∧x≤m)∧(-m≤y∧y≤m)∧(-m≤z∧z≤m)))):=by
 have wm:IntKind.i64.wrap (0-m)= -m:=by rw [Qah (by omega) (by omega)];omega
 by_cases c0:x< -m
 ·have c0':=eq_true c0
  have e:decide ((-m≤x∧x≤m)∧(-m≤y∧y≤m)∧(-m≤z∧z≤m))=false:=decide_eq_false (by omega)
  refine Qac (tb:=[]) 23 [.tmp 4] [0,1,4,6,7,8,9,10,21] mixed Tryz.func93 rfl (by kernel_rfl) (by kernel_rfl) (by kernel_rfl) (by kernel_rfl) ?_
  repeat (first|(simp -implicitDefEqProofs only [go_sem,Nat.reduceAdd,Nat.reduceMul,Nat.reduceEqDiff,Nat.reduceLT,Nat.reduceLeDiff,reduceCtorEq]))
  refine Qbn mixed [0,1,2,3] ?_
  repeat (first|(simp -implicitDefEqProofs only [go_sem,Nat.reduceAdd,Nat.reduceMul,Nat.reduceEqDiff,Nat.reduceLT,Nat.reduceLeDiff,reduceCtorEq,Int.reduceLT,wm,e,Bool.not_false,Bool.not_true,c0']))
 have c0':=eq_false c0
 by_cases c1:m<x
 ·have c1':=eq_true c1
  have e:decide ((-m≤x∧x≤m)∧(-m≤y∧y≤m)∧(-m≤z∧z≤m))=false:=decide_eq_false (by omega)
  refine Qac (tb:=[]) 23 [.tmp 4] [0,1,4,6,7,8,9,10,21] mixed Tryz.func93 rfl (by kernel_rfl) (by kernel_rfl) (by kernel_rfl) (by kernel_rfl) ?_
  repeat (first|(simp -implicitDefEqProofs only [go_sem,Nat.reduceAdd,Nat.reduceMul,Nat.reduceEqDiff,Nat.reduceLT,Nat.reduceLeDiff,reduceCtorEq]))
  refine Qbn mixed [0,1,2,3] ?_
  repeat (first|(simp -implicitDefEqProofs only [go_sem,Nat.reduceAdd,Nat.reduceMul,Nat.reduceEqDiff,Nat.reduceLT,Nat.reduceLeDiff,reduceCtorEq,Int.reduceLT,wm,e,Bool.not_false,Bool.not_true,c0',c1']))
 have c1':=eq_false c1
 by_cases c2:y< -m
 ·have c2':=eq_true c2
  have e:decide ((-m≤x∧x≤m)∧(-m≤y∧y≤m)∧(-m≤z∧z≤m))=false:=decide_eq_false (by omega)
  refine Qac (tb:=[]) 23 [.tmp 4] [0,1,4,6,7,8,9,10,21] mixed Tryz.func93 rfl (by kernel_rfl) (by kernel_rfl) (by kernel_rfl) (by kernel_rfl) ?_
  repeat (first|(simp -implicitDefEqProofs only [go_sem,Nat.reduceAdd,Nat.reduceMul,Nat.reduceEqDiff,Nat.reduceLT,Nat.reduceLeDiff,reduceCtorEq]))
  refine Qbn mixed [0,1,2,3] ?_
  repeat (first|(simp -implicitDefEqProofs only [go_sem,Nat.reduceAdd,Nat.reduceMul,Nat.reduceEqDiff,Nat.reduceLT,Nat.reduceLeDiff,reduceCtorEq,Int.reduceLE,Int.reduceLT,Int.reduceToNat,Int.reduceAdd,wm,e,Bool.not_false,Bool.not_true,c0',c1',c2']))
 have c2':=eq_false c2
 by_cases c3:m<y
 ·have c3':=eq_true c3
  have e:decide ((-m≤x∧x≤m)∧(-m≤y∧y≤m)∧(-m≤z∧z≤m))=false:=decide_eq_false (by omega)
  refine Qac (tb:=[]) 23 [.tmp 4] [0,1,4,6,7,8,9,10,21] mixed Tryz.func93 rfl (by kernel_rfl) (by kernel_rfl) (by kernel_rfl) (by kernel_rfl) ?_
  repeat (first|(simp -implicitDefEqProofs only [go_sem,Nat.reduceAdd,Nat.reduceMul,Nat.reduceEqDiff,Nat.reduceLT,Nat.reduceLeDiff,reduceCtorEq]))
  refine Qbn mixed [0,1,2,3] ?_
  repeat (first|(simp -implicitDefEqProofs only [go_sem,Nat.reduceAdd,Nat.reduceMul,Nat.reduceEqDiff,Nat.reduceLT,Nat.reduceLeDiff,reduceCtorEq,Int.reduceLE,Int.reduceLT,Int.reduceToNat,Int.reduceAdd,wm,e,Bool.not_false,Bool.not_true,c0',c1',c2',c3']))
 have c3':=eq_false c3
 by_cases c4:z< -m
 ·have c4':=eq_true c4
  have e:decide ((-m≤x∧x≤m)∧(-m≤y∧y≤m)∧(-m≤z∧z≤m))=false:=decide_eq_false (by omega)
  refine Qac (tb:=[]) 23 [.tmp 4] [0,1,4,6,7,8,9,10,21] mixed Tryz.func93 rfl (by kernel_rfl) (by kernel_rfl) (by kernel_rfl) (by kernel_rfl) ?_
  repeat (first|(simp -implicitDefEqProofs only [go_sem,Nat.reduceAdd,Nat.reduceMul,Nat.reduceEqDiff,Nat.reduceLT,Nat.reduceLeDiff,reduceCtorEq]))
  refine Qbn mixed [0,1,2,3] ?_
  repeat (first|(simp -implicitDefEqProofs only [go_sem,Nat.reduceAdd,Nat.reduceMul,Nat.reduceEqDiff,Nat.reduceLT,Nat.reduceLeDiff,reduceCtorEq,Int.reduceLE,Int.reduceLT,Int.reduceToNat,Int.reduceAdd,wm,e,Bool.not_false,Bool.not_true,c0',c1',c2',c3',c4']))
 have c4':=eq_false c4
 by_cases c5:m<z
 ·have c5':=eq_true c5
  have e:decide ((-m≤x∧x≤m)∧(-m≤y∧y≤m)∧(-m≤z∧z≤m))=false:=decide_eq_false (by omega)
  refine Qac (tb:=[]) 23 [.tmp 4] [0,1,4,6,7,8,9,10,21] mixed Tryz.func93 rfl (by kernel_rfl) (by kernel_rfl) (by kernel_rfl) (by kernel_rfl) ?_
  repeat (first|(simp -implicitDefEqProofs only [go_sem,Nat.reduceAdd,Nat.reduceMul,Nat.reduceEqDiff,Nat.reduceLT,Nat.reduceLeDiff,reduceCtorEq]))
  refine Qbn mixed [0,1,2,3] ?_
  repeat (first|(simp -implicitDefEqProofs only [go_sem,Nat.reduceAdd,Nat.reduceMul,Nat.reduceEqDiff,Nat.reduceLT,Nat.reduceLeDiff,reduceCtorEq,Int.reduceLE,Int.reduceLT,Int.reduceToNat,Int.reduceAdd,wm,e,Bool.not_false,Bool.not_true,c0',c1',c2',c3',c4',c5']))
 have c5':=eq_false c5
 have e:decide ((-m≤x∧x≤m)∧(-m≤y∧y≤m)∧(-m≤z∧z≤m))=true:=decide_eq_true (by omega)
 refine Qac (tb:=[]) 23 [.tmp 4] [0,1,4,6,7,8,9,10,21] mixed Tryz.func93 rfl (by kernel_rfl) (by kernel_rfl) (by kernel_rfl) (by kernel_rfl) ?_
 repeat (first|(simp -implicitDefEqProofs only [go_sem,Nat.reduceAdd,Nat.reduceMul,Nat.reduceEqDiff,Nat.reduceLT,Nat.reduceLeDiff,reduceCtorEq]))
 refine Qbn mixed [0,1,2,3] ?_
 repeat (first|(simp -implicitDefEqProofs only [go_sem,Nat.reduceAdd,Nat.reduceMul,Nat.reduceEqDiff,Nat.reduceLT,Nat.reduceLeDiff,reduceCtorEq,Int.reduceLE,Int.reduceLT,Int.reduceToNat,Int.reduceAdd,wm,e,Bool.not_false,Bool.not_true,c0',c1',c2',c3',c4',c5']))
theorem Qwg (x y z:Int):Qad Tryz.prog 48 [.agg [.int .i64 x,.int .i64 y,.int .i64 z]] (.bool (ptB x y z)):=by
 have h:=Zaa 1048576 x y z (by decide) (by decide)
 have e:decide ((-1048576≤x∧x≤1048576)∧(-1048576≤y∧y≤1048576)∧(-1048576≤z∧z≤1048576))=ptB x y z:=rfl
 rw [e]at h
 generalize ptB x y z=b at*
 refine Qac (tb:=[]) 11 [.tmp 2] [0,1,2] mixed Tryz.func48 rfl (by kernel_rfl) (by kernel_rfl) (by kernel_rfl) (by kernel_rfl) ?_
 repeat (first|(simp -implicitDefEqProofs only [go_sem,Nat.reduceAdd,Nat.reduceMul,Nat.reduceEqDiff,Nat.reduceLT,Nat.reduceLeDiff,reduceIte,reduceCtorEq])|((with_reducible refine Qab (h) ?_ ?_ ?_);(with_reducible rfl);rfl))
theorem Qp2 (x:Int):Qad Tryz.prog 56 [.int .i64 x] (.bool (decide (-1048576≤x)&&decide (x≤1048576))):=by
 by_cases c: -1048576≤x
 ·have c':=eq_true c
  rw [decide_eq_true c]
  refine Qac (tb:=[]) 9 [.tmp 2] [0,2] mixed Tryz.func56 rfl (by kernel_rfl) (by kernel_rfl) (by kernel_rfl) (by kernel_rfl) ?_
  repeat (first|(simp -implicitDefEqProofs only [go_sem,Nat.reduceAdd,Nat.reduceMul,Nat.reduceEqDiff,Nat.reduceLT,Nat.reduceLeDiff,reduceCtorEq,Int.reduceNeg,c',Bool.true_and]))
 ·have c':=eq_false c
  rw [decide_eq_false c]
  refine Qac (tb:=[]) 9 [.tmp 2] [0,2] mixed Tryz.func56 rfl (by kernel_rfl) (by kernel_rfl) (by kernel_rfl) (by kernel_rfl) ?_
  repeat (first|(simp -implicitDefEqProofs only [go_sem,Nat.reduceAdd,Nat.reduceMul,Nat.reduceEqDiff,Nat.reduceLT,Nat.reduceLeDiff,reduceCtorEq,Int.reduceNeg,c',Bool.false_and]))
theorem Qwh (x y z:Int):Qad Tryz.prog 17 [.agg [.int .i64 x,.int .i64 y,.int .i64 z]] (.bool (ptB x y z)):=by
 have h1:=Qp2 x
 have h2:=Qp2 y
 have h3:=Qp2 z
 have e:ptB x y z=((decide (-1048576≤x)&&decide (x≤1048576))&&((decide (-1048576≤y)&&decide (y≤1048576))&&(decide (-1048576≤z)&&decide (z≤1048576)))):=by
  rw [ptB,Bool.eq_iff_iff];simp [Bool.and_eq_true]
 rw [e]
 clear e
 generalize (decide (-1048576≤x)&&decide (x≤1048576))=b1 at*
 generalize (decide (-1048576≤y)&&decide (y≤1048576))=b2 at*
 generalize (decide (-1048576≤z)&&decide (z≤1048576))=b3 at*
 cases b1 with
 |false=>
  refine Qac (tb:=[]) 16 [.tmp 2] [0,1,2] mixed Tryz.func17 rfl (by kernel_rfl) (by kernel_rfl) (by kernel_rfl) (by kernel_rfl) ?_
  repeat (first|(simp -implicitDefEqProofs only [go_sem,Nat.reduceAdd,Nat.reduceMul,Nat.reduceEqDiff,Nat.reduceLT,Nat.reduceLeDiff,reduceCtorEq,Bool.false_and])|((with_reducible refine Qab (h1) ?_ ?_ ?_);(with_reducible rfl);rfl))
 |true=>
 cases b2 with
 |false=>
  refine Qac (tb:=[]) 16 [.tmp 2] [0,1,2] mixed Tryz.func17 rfl (by kernel_rfl) (by kernel_rfl) (by kernel_rfl) (by kernel_rfl) ?_
  repeat (first|(simp -implicitDefEqProofs only [go_sem,Nat.reduceAdd,Nat.reduceMul,Nat.reduceEqDiff,Nat.reduceLT,Nat.reduceLeDiff,reduceCtorEq,Bool.false_and,Bool.true_and])|((with_reducible refine Qab (h1) ?_ ?_ ?_);(with_reducible rfl);rfl)|((with_reducible refine Qab (h2) ?_ ?_ ?_);(with_reducible rfl);rfl))
 |true=>
  refine Qac (tb:=[]) 16 [.tmp 2] [0,1,2] mixed Tryz.func17 rfl (by kernel_rfl) (by kernel_rfl) (by kernel_rfl) (by kernel_rfl) ?_
  repeat (first|(simp -implicitDefEqProofs only [go_sem,Nat.reduceAdd,Nat.reduceMul,Nat.reduceEqDiff,Nat.reduceLT,Nat.reduceLeDiff,reduceCtorEq,Bool.true_and])|((with_reducible refine Qab (h1) ?_ ?_ ?_);(with_reducible rfl);rfl)|((with_reducible refine Qab (h2) ?_ ?_ ?_);(with_reducible rfl);rfl)|((with_reducible refine Qab (h3) ?_ ?_ ?_);(with_reducible rfl);rfl))
theorem Qp3 (x:Int):Qad Tryz.prog 50 [.int .i64 x] (.bool (uB x)):=by
 by_cases c: -5000≤x
 ·have c':=eq_true c
  have e:uB x=decide (x≤5000):=by rw [uB,Bool.eq_iff_iff];simp [c]
  rw [e]
  refine Qac (tb:=[]) 9 [.tmp 2] [0,2] mixed Tryz.func50 rfl (by kernel_rfl) (by kernel_rfl) (by kernel_rfl) (by kernel_rfl) ?_
  repeat (first|(simp -implicitDefEqProofs only [go_sem,Nat.reduceAdd,Nat.reduceMul,Nat.reduceEqDiff,Nat.reduceLT,Nat.reduceLeDiff,reduceCtorEq,Int.reduceNeg,c']))
 ·have c':=eq_false c
  have e:uB x=false:=by rw [uB];exact decide_eq_false (by omega)
  rw [e]
  refine Qac (tb:=[]) 9 [.tmp 2] [0,2] mixed Tryz.func50 rfl (by kernel_rfl) (by kernel_rfl) (by kernel_rfl) (by kernel_rfl) ?_
  repeat (first|(simp -implicitDefEqProofs only [go_sem,Nat.reduceAdd,Nat.reduceMul,Nat.reduceEqDiff,Nat.reduceLT,Nat.reduceLeDiff,reduceCtorEq,Int.reduceNeg,c']))
theorem Qjz (x y z:Int):Qad Tryz.prog 49 [.agg [.int .i64 x,.int .i64 y,.int .i64 z]] (.agg [.int .i64 x,.int .i64 y,.int .i64 z]):=by
 refine Qac (tb:=[]) 10 [.cell 2 87] [0,1,2] mixed Tryz.func49 rfl (by kernel_rfl) (by kernel_rfl) (by kernel_rfl) (by kernel_rfl) ?_
 repeat (first|(simp -implicitDefEqProofs only [go_sem,Nat.reduceAdd,Nat.reduceMul,Nat.reduceEqDiff,Nat.reduceLT,Nat.reduceLeDiff,reduceCtorEq]))
set_option maxHeartbeats 8000000 in
set_option maxRecDepth 100000 in
theorem Qrw (l:List Wd) (hl:l.length≤maxLen):Qad Tryz.prog 13 [wsPV l] (.bool (Qa8 l)):=by
 have hm:=Qd0
 refine Qac (tb:=[]) 75 [.tmp 2] [0,2,4,5,6,7,8,9,10,11,12,41,50,51,52,69] mixed Tryz.func13 rfl (by kernel_rfl) (by kernel_rfl) (by kernel_rfl) (by kernel_rfl) ?_
 repeat (first|(simp -implicitDefEqProofs only [go_sem,Nat.reduceAdd,Nat.reduceMul,Nat.reduceEqDiff,Nat.reduceLT,Nat.reduceLeDiff,reduceCtorEq,Int.reduceNeg])|(with_reducible exact Qaa _ _ (by kernel_rfl))|(with_reducible refine And.intro (Qaa _ _ (by kernel_rfl)) ?_))
 refine Qar mixed (fun i:{i:Nat // i≤l.length∧(l.take i).all vWd=true}=>St.of [(0,wsPV l),(9,wsPV l),(10,.int .i64 (l.length:Int)),(11,.int .i64 (i.1:Int))] []) (fun i=>l.length-i.1) ⟨0,Nat.zero_le _,rfl⟩ ?_ ?_
 ·refine Qa9 ?_
  simp [Qaf,lkp,ren1,ren0,Qap,wsPV]
 rintro⟨i,hi,hall⟩
 simp only
 by_cases hA:i<l.length
 case neg=>
  have hA':=ltF hA
  have et:l.take i=l:=List.take_of_length_le (by omega)
  rw [et]at hall
  by_cases h8:l.length≤8
  ·have h8':((l.length:Int)≤8)=True:=eq_true (by omega)
   have e:Qa8 l=true:=by simp [Qa8,hall,h8]
   repeat (first|(simp -implicitDefEqProofs only [go_sem,Nat.reduceAdd,Nat.reduceMul,Nat.reduceEqDiff,Nat.reduceLT,Nat.reduceLeDiff,reduceCtorEq,Int.reduceNeg,hA',h8',e,List.length_map,decide_true,decide_false])|(with_reducible exact Qaa _ _ (by kernel_rfl))|(with_reducible refine And.intro (Qaa _ _ (by kernel_rfl)) ?_))
  ·have h8':((l.length:Int)≤8)=False:=eq_false (by omega)
   have e:Qa8 l=false:=by simp [Qa8,h8]
   repeat (first|(simp -implicitDefEqProofs only [go_sem,Nat.reduceAdd,Nat.reduceMul,Nat.reduceEqDiff,Nat.reduceLT,Nat.reduceLeDiff,reduceCtorEq,Int.reduceNeg,hA',h8',e,List.length_map,decide_true,decide_false])|(with_reducible exact Qaa _ _ (by kernel_rfl))|(with_reducible refine And.intro (Qaa _ _ (by kernel_rfl)) ?_))
 have hA':=ltT hA
 have n0:=nnT i
 have hg:=Qok l i hA
 have hwk:=Qaj (a:=i) (by omega)
 have hbad:=fun h=>Qol (h:=hA) h
 have hok:=Q2p hA hall
 generalize l[i]=w at*
 have h0:=Qwg w.lx w.ly w.lz
 have h1:=Qwg w.hx w.hy w.hz
 have q0:=Qjz w.lx w.ly w.lz
 have q1:=Qjz w.hx w.hy w.hz
 have q2:=Qjz w.ux w.uy w.uz
 cases c0:ptB w.lx w.ly w.lz with
 |false=>
  rw [c0]at h0
  have c0:=Qir c0
  have e:Qa8 l=false:=hbad (by unfold WdOk;omega)
  repeat (first|(simp -implicitDefEqProofs only [go_sem,Nat.reduceAdd,Nat.reduceMul,Nat.reduceEqDiff,Nat.reduceLT,Nat.reduceLeDiff,reduceCtorEq,Int.reduceNeg,hA',n0,hg,hwk,e,Int.toNat_natCast,List.length_map,Bool.not_true,Bool.not_false,decide_true,decide_false])|((with_reducible refine Qab (h0) ?_ ?_ ?_);(with_reducible rfl);rfl)|((with_reducible refine Qab (h1) ?_ ?_ ?_);(with_reducible rfl);rfl)|(with_reducible exact Qaa _ _ (by kernel_rfl))|(with_reducible refine And.intro (Qaa _ _ (by kernel_rfl)) ?_))
 |true=>
 rw [c0]at h0
 have c0:=Qlh c0
 cases c1:ptB w.hx w.hy w.hz with
 |false=>
  rw [c1]at h1
  have c1:=Qir c1
  have e:Qa8 l=false:=hbad (by unfold WdOk;omega)
  repeat (first|(simp -implicitDefEqProofs only [go_sem,Nat.reduceAdd,Nat.reduceMul,Nat.reduceEqDiff,Nat.reduceLT,Nat.reduceLeDiff,reduceCtorEq,Int.reduceNeg,hA',n0,hg,hwk,e,Int.toNat_natCast,List.length_map,Bool.not_true,Bool.not_false,decide_true,decide_false])|((with_reducible refine Qab (h0) ?_ ?_ ?_);(with_reducible rfl);rfl)|((with_reducible refine Qab (h1) ?_ ?_ ?_);(with_reducible rfl);rfl)|(with_reducible exact Qaa _ _ (by kernel_rfl))|(with_reducible refine And.intro (Qaa _ _ (by kernel_rfl)) ?_))
 |true=>
 rw [c1]at h1
 have c1:=Qlh c1
 by_cases c2:w.f<0
 ·have c2':=eq_true c2
  have e:Qa8 l=false:=hbad (by unfold WdOk;omega)
  repeat (first|(simp -implicitDefEqProofs only [go_sem,Nat.reduceAdd,Nat.reduceMul,Nat.reduceEqDiff,Nat.reduceLT,Nat.reduceLeDiff,reduceCtorEq,Int.reduceNeg,hA',n0,hg,hwk,e,Int.toNat_natCast,List.length_map,Bool.not_true,Bool.not_false,decide_true,decide_false,c2'])|((with_reducible refine Qab (h0) ?_ ?_ ?_);(with_reducible rfl);rfl)|((with_reducible refine Qab (h1) ?_ ?_ ?_);(with_reducible rfl);rfl)|(with_reducible exact Qaa _ _ (by kernel_rfl))|(with_reducible refine And.intro (Qaa _ _ (by kernel_rfl)) ?_))
 have c2':=eq_false c2
 by_cases c3:w.t≤w.f
 ·have c3':=eq_true c3
  have e:Qa8 l=false:=hbad (by unfold WdOk;omega)
  repeat (first|(simp -implicitDefEqProofs only [go_sem,Nat.reduceAdd,Nat.reduceMul,Nat.reduceEqDiff,Nat.reduceLT,Nat.reduceLeDiff,reduceCtorEq,Int.reduceNeg,hA',n0,hg,hwk,e,Int.toNat_natCast,List.length_map,Bool.not_true,Bool.not_false,decide_true,decide_false,c2',c3'])|((with_reducible refine Qab (h0) ?_ ?_ ?_);(with_reducible rfl);rfl)|((with_reducible refine Qab (h1) ?_ ?_ ?_);(with_reducible rfl);rfl)|(with_reducible exact Qaa _ _ (by kernel_rfl))|(with_reducible refine And.intro (Qaa _ _ (by kernel_rfl)) ?_))
 have c3':=eq_false c3
 by_cases c4:3600000<w.t
 ·have c4':=eq_true c4
  have e:Qa8 l=false:=hbad (by unfold WdOk;omega)
  repeat (first|(simp -implicitDefEqProofs only [go_sem,Nat.reduceAdd,Nat.reduceMul,Nat.reduceEqDiff,Nat.reduceLT,Nat.reduceLeDiff,reduceCtorEq,Int.reduceNeg,hA',n0,hg,hwk,e,Int.toNat_natCast,List.length_map,Bool.not_true,Bool.not_false,decide_true,decide_false,c2',c3',c4'])|((with_reducible refine Qab (h0) ?_ ?_ ?_);(with_reducible rfl);rfl)|((with_reducible refine Qab (h1) ?_ ?_ ?_);(with_reducible rfl);rfl)|(with_reducible exact Qaa _ _ (by kernel_rfl))|(with_reducible refine And.intro (Qaa _ _ (by kernel_rfl)) ?_))
 have c4':=eq_false c4
 repeat (first|(simp -implicitDefEqProofs only [go_sem,Nat.reduceAdd,Nat.reduceMul,Nat.reduceEqDiff,Nat.reduceLT,Nat.reduceLeDiff,reduceCtorEq,Int.reduceNeg,hA',n0,hg,hwk,Int.toNat_natCast,List.length_map,Bool.not_true,Bool.not_false,decide_true,decide_false,c2',c3',c4'])|((with_reducible refine Qab (h0) ?_ ?_ ?_);(with_reducible rfl);rfl)|((with_reducible refine Qab (h1) ?_ ?_ ?_);(with_reducible rfl);rfl)|((with_reducible refine Qab (q0) ?_ ?_ ?_);(with_reducible rfl);rfl)|((with_reducible refine Qab (q1) ?_ ?_ ?_);(with_reducible rfl);rfl)|((with_reducible refine Qab (q2) ?_ ?_ ?_);(with_reducible rfl);rfl)|(with_reducible exact Qaa _ _ (by kernel_rfl))|(with_reducible refine And.intro (Qaa _ _ (by kernel_rfl)) ?_))
 refine Qbn mixed [0,1,2,3] ?_
 by_cases c5:w.hx<w.lx
 ·have c5':=eq_true c5
  have e:Qa8 l=false:=hbad (by unfold WdOk;omega)
  repeat (first|(simp -implicitDefEqProofs only [go_sem,Nat.reduceAdd,Nat.reduceMul,Nat.reduceEqDiff,Nat.reduceLT,Nat.reduceLeDiff,reduceCtorEq,Int.reduceLT,Int.reduceNeg,hA',n0,hg,hwk,e,Int.toNat_natCast,List.length_map,Bool.not_true,Bool.not_false,decide_true,decide_false,c2',c3',c4',c5'])|(with_reducible exact Qaa _ _ (by kernel_rfl))|(with_reducible refine And.intro (Qaa _ _ (by kernel_rfl)) ?_))
 have c5':=eq_false c5
 by_cases c6:w.ux< -5000
 ·have c6':=eq_true c6
  have e:Qa8 l=false:=hbad (by unfold WdOk;omega)
  repeat (first|(simp -implicitDefEqProofs only [go_sem,Nat.reduceAdd,Nat.reduceMul,Nat.reduceEqDiff,Nat.reduceLT,Nat.reduceLeDiff,reduceCtorEq,Int.reduceLT,Int.reduceNeg,hA',n0,hg,hwk,e,Int.toNat_natCast,List.length_map,Bool.not_true,Bool.not_false,decide_true,decide_false,c2',c3',c4',c5',c6'])|(with_reducible exact Qaa _ _ (by kernel_rfl))|(with_reducible refine And.intro (Qaa _ _ (by kernel_rfl)) ?_))
 have c6':=eq_false c6
 by_cases c7:5000<w.ux
 ·have c7':=eq_true c7
  have e:Qa8 l=false:=hbad (by unfold WdOk;omega)
  repeat (first|(simp -implicitDefEqProofs only [go_sem,Nat.reduceAdd,Nat.reduceMul,Nat.reduceEqDiff,Nat.reduceLT,Nat.reduceLeDiff,reduceCtorEq,Int.reduceLT,Int.reduceNeg,hA',n0,hg,hwk,e,Int.toNat_natCast,List.length_map,Bool.not_true,Bool.not_false,decide_true,decide_false,c2',c3',c4',c5',c6',c7'])|(with_reducible exact Qaa _ _ (by kernel_rfl))|(with_reducible refine And.intro (Qaa _ _ (by kernel_rfl)) ?_))
 have c7':=eq_false c7
 by_cases c8:w.hy<w.ly
 ·have c8':=eq_true c8
  have e:Qa8 l=false:=hbad (by unfold WdOk;omega)
  repeat (first|(simp -implicitDefEqProofs only [go_sem,Nat.reduceAdd,Nat.reduceMul,Nat.reduceEqDiff,Nat.reduceLT,Nat.reduceLeDiff,reduceCtorEq,Int.reduceLE,Int.reduceLT,Int.reduceToNat,Int.reduceAdd,Int.reduceNeg,hA',n0,hg,hwk,e,Int.toNat_natCast,List.length_map,Bool.not_true,Bool.not_false,decide_true,decide_false,c2',c3',c4',c5',c6',c7',c8'])|(with_reducible exact Qaa _ _ (by kernel_rfl))|(with_reducible refine And.intro (Qaa _ _ (by kernel_rfl)) ?_))
 have c8':=eq_false c8
 by_cases c9:w.uy< -5000
 ·have c9':=eq_true c9
  have e:Qa8 l=false:=hbad (by unfold WdOk;omega)
  repeat (first|(simp -implicitDefEqProofs only [go_sem,Nat.reduceAdd,Nat.reduceMul,Nat.reduceEqDiff,Nat.reduceLT,Nat.reduceLeDiff,reduceCtorEq,Int.reduceLE,Int.reduceLT,Int.reduceToNat,Int.reduceAdd,Int.reduceNeg,hA',n0,hg,hwk,e,Int.toNat_natCast,List.length_map,Bool.not_true,Bool.not_false,decide_true,decide_false,c2',c3',c4',c5',c6',c7',c8',c9'])|(with_reducible exact Qaa _ _ (by kernel_rfl))|(with_reducible refine And.intro (Qaa _ _ (by kernel_rfl)) ?_))
 have c9':=eq_false c9
 by_cases c10:5000<w.uy
 ·have c10':=eq_true c10
  have e:Qa8 l=false:=hbad (by unfold WdOk;omega)
  repeat (first|(simp -implicitDefEqProofs only [go_sem,Nat.reduceAdd,Nat.reduceMul,Nat.reduceEqDiff,Nat.reduceLT,Nat.reduceLeDiff,reduceCtorEq,Int.reduceLE,Int.reduceLT,Int.reduceToNat,Int.reduceAdd,Int.reduceNeg,hA',n0,hg,hwk,e,Int.toNat_natCast,List.length_map,Bool.not_true,Bool.not_false,decide_true,decide_false,c2',c3',c4',c5',c6',c7',c8',c9',c10'])|(with_reducible exact Qaa _ _ (by kernel_rfl))|(with_reducible refine And.intro (Qaa _ _ (by kernel_rfl)) ?_))
 have c10':=eq_false c10
 by_cases c11:w.hz<w.lz
 ·have c11':=eq_true c11
  have e:Qa8 l=false:=hbad (by unfold WdOk;omega)
  repeat (first|(simp -implicitDefEqProofs only [go_sem,Nat.reduceAdd,Nat.reduceMul,Nat.reduceEqDiff,Nat.reduceLT,Nat.reduceLeDiff,reduceCtorEq,Int.reduceLE,Int.reduceLT,Int.reduceToNat,Int.reduceAdd,Int.reduceNeg,hA',n0,hg,hwk,e,Int.toNat_natCast,List.length_map,Bool.not_true,Bool.not_false,decide_true,decide_false,c2',c3',c4',c5',c6',c7',c8',c9',c10',c11'])|(with_reducible exact Qaa _ _ (by kernel_rfl))|(with_reducible refine And.intro (Qaa _ _ (by kernel_rfl)) ?_))
 have c11':=eq_false c11
 by_cases c12:w.uz< -5000
 ·have c12':=eq_true c12
  have e:Qa8 l=false:=hbad (by unfold WdOk;omega)
  repeat (first|(simp -implicitDefEqProofs only [go_sem,Nat.reduceAdd,Nat.reduceMul,Nat.reduceEqDiff,Nat.reduceLT,Nat.reduceLeDiff,reduceCtorEq,Int.reduceLE,Int.reduceLT,Int.reduceToNat,Int.reduceAdd,Int.reduceNeg,hA',n0,hg,hwk,e,Int.toNat_natCast,List.length_map,Bool.not_true,Bool.not_false,decide_true,decide_false,c2',c3',c4',c5',c6',c7',c8',c9',c10',c11',c12'])|(with_reducible exact Qaa _ _ (by kernel_rfl))|(with_reducible refine And.intro (Qaa _ _ (by kernel_rfl)) ?_))
 have c12':=eq_false c12
 by_cases c13:5000<w.uz
 ·have c13':=eq_true c13
  have e:Qa8 l=false:=hbad (by unfold WdOk;omega)
  repeat (first|(simp -implicitDefEqProofs only [go_sem,Nat.reduceAdd,Nat.reduceMul,Nat.reduceEqDiff,Nat.reduceLT,Nat.reduceLeDiff,reduceCtorEq,Int.reduceLE,Int.reduceLT,Int.reduceToNat,Int.reduceAdd,Int.reduceNeg,hA',n0,hg,hwk,e,Int.toNat_natCast,List.length_map,Bool.not_true,Bool.not_false,decide_true,decide_false,c2',c3',c4',c5',c6',c7',c8',c9',c10',c11',c12',c13'])|(with_reducible exact Qaa _ _ (by kernel_rfl))|(with_reducible refine And.intro (Qaa _ _ (by kernel_rfl)) ?_))
 have c13':=eq_false c13
 have e:=hok (Q2o (by unfold WdOk;omega))
 repeat (first|(simp -implicitDefEqProofs only [go_sem,Nat.reduceAdd,Nat.reduceMul,Nat.reduceEqDiff,Nat.reduceLT,Nat.reduceLeDiff,reduceCtorEq,Int.reduceLE,Int.reduceLT,Int.reduceToNat,Int.reduceAdd,Int.reduceNeg,hA',n0,hg,hwk,Int.toNat_natCast,List.length_map,Bool.not_true,Bool.not_false,decide_true,decide_false,c2',c3',c4',c5',c6',c7',c8',c9',c10',c11',c12',c13'])|(with_reducible exact Qaa _ _ (by kernel_rfl))|(with_reducible refine And.intro (Qaa _ _ (by kernel_rfl)) ?_))
 refine⟨⟨i+1,hA,e⟩,by simp only;omega,Qak (θ:=[]) rfl ?_ trivial⟩
 simp [Qaf,lkp,ren1,ren0,Qap,wsPV]
set_option maxHeartbeats 4000000 in
set_option maxRecDepth 100000 in
theorem Q2q (l:List Wd) (hl:l.length≤maxLen):Qad Tryz.prog 14 [wsPV l] (.bool (Qa8 l)):=by
 have hm:=Qd0
 refine Qac (tb:=[]) 93 [.tmp 2] [0,2,3,4,8,89] mixed Tryz.func14 rfl (by kernel_rfl) (by kernel_rfl) (by kernel_rfl) (by kernel_rfl) ?_
 repeat (first|(simp -implicitDefEqProofs only [go_sem,Nat.reduceAdd,Nat.reduceMul,Nat.reduceEqDiff,Nat.reduceLT,Nat.reduceLeDiff,reduceCtorEq]))
 refine Qar mixed (fun i:{i:Nat // i≤l.length∧(l.take i).all vWd=true}=>St.of [(0,wsPV l),(3,.int .i64 (i.1:Int))] []) (fun i=>l.length-i.1) ⟨0,Nat.zero_le _,rfl⟩ ?_ ?_
 ·refine Qa9 ?_
  simp [Qaf,lkp,ren1,ren0,Qap,wsPV]
 rintro⟨i,hi,hall⟩
 simp only
 by_cases hA:i<l.length
 case neg=>
  have hA':=ltF hA
  have et:l.take i=l:=List.take_of_length_le (by omega)
  rw [et]at hall
  by_cases h8:l.length≤8
  ·have h8':((l.length:Int)≤8)=True:=eq_true (by omega)
   have e:Qa8 l=true:=by simp [Qa8,hall,h8]
   repeat (first|(simp -implicitDefEqProofs only [go_sem,Nat.reduceAdd,Nat.reduceMul,Nat.reduceEqDiff,Nat.reduceLT,Nat.reduceLeDiff,reduceCtorEq,hA',h8',e,List.length_map,decide_true,decide_false]))
  ·have h8':((l.length:Int)≤8)=False:=eq_false (by omega)
   have e:Qa8 l=false:=by simp [Qa8,h8]
   repeat (first|(simp -implicitDefEqProofs only [go_sem,Nat.reduceAdd,Nat.reduceMul,Nat.reduceEqDiff,Nat.reduceLT,Nat.reduceLeDiff,reduceCtorEq,hA',h8',e,List.length_map,decide_true,decide_false]))
 have hA':=ltT hA
 have n0:=nnT i
 have hg:=Qok l i hA
 have hwk:=Qaj (a:=i) (by omega)
 have hbad:=fun h=>Qol (h:=hA) h
 have hok:=Q2p hA hall
 generalize l[i]=w at*
 have h0:=Qwh w.lx w.ly w.lz
 have h1:=Qwh w.hx w.hy w.hz
 have h8:=Qp3 w.ux
 have h9:=Qp3 w.uy
 have h10:=Qp3 w.uz
 cases c0:ptB w.lx w.ly w.lz with
 |false=>
  rw [c0]at h0
  have c0:=Qir c0
  have e:Qa8 l=false:=hbad (by unfold WdOk;omega)
  repeat (first|(simp -implicitDefEqProofs only [go_sem,Nat.reduceAdd,Nat.reduceMul,Nat.reduceEqDiff,Nat.reduceLT,Nat.reduceLeDiff,reduceCtorEq,hA',n0,hg,hwk,e,Int.toNat_natCast,List.length_map,Bool.not_true,Bool.not_false,decide_true,decide_false])|((with_reducible refine Qab (h0) ?_ ?_ ?_);(with_reducible rfl);rfl)|((with_reducible refine Qab (h1) ?_ ?_ ?_);(with_reducible rfl);rfl)|((with_reducible refine Qab (h8) ?_ ?_ ?_);(with_reducible rfl);rfl)|((with_reducible refine Qab (h9) ?_ ?_ ?_);(with_reducible rfl);rfl)|((with_reducible refine Qab (h10) ?_ ?_ ?_);(with_reducible rfl);rfl))
 |true=>
 rw [c0]at h0
 have c0:=Qlh c0
 cases c1:ptB w.hx w.hy w.hz with
 |false=>
  rw [c1]at h1
  have c1:=Qir c1
  have e:Qa8 l=false:=hbad (by unfold WdOk;omega)
  repeat (first|(simp -implicitDefEqProofs only [go_sem,Nat.reduceAdd,Nat.reduceMul,Nat.reduceEqDiff,Nat.reduceLT,Nat.reduceLeDiff,reduceCtorEq,hA',n0,hg,hwk,e,Int.toNat_natCast,List.length_map,Bool.not_true,Bool.not_false,decide_true,decide_false])|((with_reducible refine Qab (h0) ?_ ?_ ?_);(with_reducible rfl);rfl)|((with_reducible refine Qab (h1) ?_ ?_ ?_);(with_reducible rfl);rfl)|((with_reducible refine Qab (h8) ?_ ?_ ?_);(with_reducible rfl);rfl)|((with_reducible refine Qab (h9) ?_ ?_ ?_);(with_reducible rfl);rfl)|((with_reducible refine Qab (h10) ?_ ?_ ?_);(with_reducible rfl);rfl))
 |true=>
 rw [c1]at h1
 have c1:=Qlh c1
 by_cases c2:w.hx<w.lx
 ·have c2':=eq_true c2
  have e:Qa8 l=false:=hbad (by unfold WdOk;omega)
  repeat (first|(simp -implicitDefEqProofs only [go_sem,Nat.reduceAdd,Nat.reduceMul,Nat.reduceEqDiff,Nat.reduceLT,Nat.reduceLeDiff,reduceCtorEq,hA',n0,hg,hwk,e,Int.toNat_natCast,List.length_map,Bool.not_true,Bool.not_false,decide_true,decide_false,c2'])|((with_reducible refine Qab (h0) ?_ ?_ ?_);(with_reducible rfl);rfl)|((with_reducible refine Qab (h1) ?_ ?_ ?_);(with_reducible rfl);rfl)|((with_reducible refine Qab (h8) ?_ ?_ ?_);(with_reducible rfl);rfl)|((with_reducible refine Qab (h9) ?_ ?_ ?_);(with_reducible rfl);rfl)|((with_reducible refine Qab (h10) ?_ ?_ ?_);(with_reducible rfl);rfl))
 have c2':=eq_false c2
 by_cases c3:w.hy<w.ly
 ·have c3':=eq_true c3
  have e:Qa8 l=false:=hbad (by unfold WdOk;omega)
  repeat (first|(simp -implicitDefEqProofs only [go_sem,Nat.reduceAdd,Nat.reduceMul,Nat.reduceEqDiff,Nat.reduceLT,Nat.reduceLeDiff,reduceCtorEq,hA',n0,hg,hwk,e,Int.toNat_natCast,List.length_map,Bool.not_true,Bool.not_false,decide_true,decide_false,c2',c3'])|((with_reducible refine Qab (h0) ?_ ?_ ?_);(with_reducible rfl);rfl)|((with_reducible refine Qab (h1) ?_ ?_ ?_);(with_reducible rfl);rfl)|((with_reducible refine Qab (h8) ?_ ?_ ?_);(with_reducible rfl);rfl)|((with_reducible refine Qab (h9) ?_ ?_ ?_);(with_reducible rfl);rfl)|((with_reducible refine Qab (h10) ?_ ?_ ?_);(with_reducible rfl);rfl))
 have c3':=eq_false c3
 by_cases c4:w.hz<w.lz
 ·have c4':=eq_true c4
  have e:Qa8 l=false:=hbad (by unfold WdOk;omega)
  repeat (first|(simp -implicitDefEqProofs only [go_sem,Nat.reduceAdd,Nat.reduceMul,Nat.reduceEqDiff,Nat.reduceLT,Nat.reduceLeDiff,reduceCtorEq,hA',n0,hg,hwk,e,Int.toNat_natCast,List.length_map,Bool.not_true,Bool.not_false,decide_true,decide_false,c2',c3',c4'])|((with_reducible refine Qab (h0) ?_ ?_ ?_);(with_reducible rfl);rfl)|((with_reducible refine Qab (h1) ?_ ?_ ?_);(with_reducible rfl);rfl)|((with_reducible refine Qab (h8) ?_ ?_ ?_);(with_reducible rfl);rfl)|((with_reducible refine Qab (h9) ?_ ?_ ?_);(with_reducible rfl);rfl)|((with_reducible refine Qab (h10) ?_ ?_ ?_);(with_reducible rfl);rfl))
 have c4':=eq_false c4
 by_cases c5:w.f<0
 ·have c5':=eq_true c5
  have e:Qa8 l=false:=hbad (by unfold WdOk;omega)
  repeat (first|(simp -implicitDefEqProofs only [go_sem,Nat.reduceAdd,Nat.reduceMul,Nat.reduceEqDiff,Nat.reduceLT,Nat.reduceLeDiff,reduceCtorEq,hA',n0,hg,hwk,e,Int.toNat_natCast,List.length_map,Bool.not_true,Bool.not_false,decide_true,decide_false,c2',c3',c4',c5'])|((with_reducible refine Qab (h0) ?_ ?_ ?_);(with_reducible rfl);rfl)|((with_reducible refine Qab (h1) ?_ ?_ ?_);(with_reducible rfl);rfl)|((with_reducible refine Qab (h8) ?_ ?_ ?_);(with_reducible rfl);rfl)|((with_reducible refine Qab (h9) ?_ ?_ ?_);(with_reducible rfl);rfl)|((with_reducible refine Qab (h10) ?_ ?_ ?_);(with_reducible rfl);rfl))
 have c5':=eq_false c5
 by_cases c6:w.t≤w.f
 ·have c6':=eq_true c6
  have e:Qa8 l=false:=hbad (by unfold WdOk;omega)
  repeat (first|(simp -implicitDefEqProofs only [go_sem,Nat.reduceAdd,Nat.reduceMul,Nat.reduceEqDiff,Nat.reduceLT,Nat.reduceLeDiff,reduceCtorEq,hA',n0,hg,hwk,e,Int.toNat_natCast,List.length_map,Bool.not_true,Bool.not_false,decide_true,decide_false,c2',c3',c4',c5',c6'])|((with_reducible refine Qab (h0) ?_ ?_ ?_);(with_reducible rfl);rfl)|((with_reducible refine Qab (h1) ?_ ?_ ?_);(with_reducible rfl);rfl)|((with_reducible refine Qab (h8) ?_ ?_ ?_);(with_reducible rfl);rfl)|((with_reducible refine Qab (h9) ?_ ?_ ?_);(with_reducible rfl);rfl)|((with_reducible refine Qab (h10) ?_ ?_ ?_);(with_reducible rfl);rfl))
 have c6':=eq_false c6
 by_cases c7:3600000<w.t
 ·have c7':=eq_true c7
  have e:Qa8 l=false:=hbad (by unfold WdOk;omega)
  repeat (first|(simp -implicitDefEqProofs only [go_sem,Nat.reduceAdd,Nat.reduceMul,Nat.reduceEqDiff,Nat.reduceLT,Nat.reduceLeDiff,reduceCtorEq,hA',n0,hg,hwk,e,Int.toNat_natCast,List.length_map,Bool.not_true,Bool.not_false,decide_true,decide_false,c2',c3',c4',c5',c6',c7'])|((with_reducible refine Qab (h0) ?_ ?_ ?_);(with_reducible rfl);rfl)|((with_reducible refine Qab (h1) ?_ ?_ ?_);(with_reducible rfl);rfl)|((with_reducible refine Qab (h8) ?_ ?_ ?_);(with_reducible rfl);rfl)|((with_reducible refine Qab (h9) ?_ ?_ ?_);(with_reducible rfl);rfl)|((with_reducible refine Qab (h10) ?_ ?_ ?_);(with_reducible rfl);rfl))
 have c7':=eq_false c7
 cases c8:uB w.ux with
 |false=>
  rw [c8]at h8
  have c8:=Qp1 c8
  have e:Qa8 l=false:=hbad (by unfold WdOk;omega)
  repeat (first|(simp -implicitDefEqProofs only [go_sem,Nat.reduceAdd,Nat.reduceMul,Nat.reduceEqDiff,Nat.reduceLT,Nat.reduceLeDiff,reduceCtorEq,hA',n0,hg,hwk,e,Int.toNat_natCast,List.length_map,Bool.not_true,Bool.not_false,decide_true,decide_false,c2',c3',c4',c5',c6',c7'])|((with_reducible refine Qab (h0) ?_ ?_ ?_);(with_reducible rfl);rfl)|((with_reducible refine Qab (h1) ?_ ?_ ?_);(with_reducible rfl);rfl)|((with_reducible refine Qab (h8) ?_ ?_ ?_);(with_reducible rfl);rfl)|((with_reducible refine Qab (h9) ?_ ?_ ?_);(with_reducible rfl);rfl)|((with_reducible refine Qab (h10) ?_ ?_ ?_);(with_reducible rfl);rfl))
 |true=>
 rw [c8]at h8
 have c8:=Qtz c8
 cases c9:uB w.uy with
 |false=>
  rw [c9]at h9
  have c9:=Qp1 c9
  have e:Qa8 l=false:=hbad (by unfold WdOk;omega)
  repeat (first|(simp -implicitDefEqProofs only [go_sem,Nat.reduceAdd,Nat.reduceMul,Nat.reduceEqDiff,Nat.reduceLT,Nat.reduceLeDiff,reduceCtorEq,hA',n0,hg,hwk,e,Int.toNat_natCast,List.length_map,Bool.not_true,Bool.not_false,decide_true,decide_false,c2',c3',c4',c5',c6',c7'])|((with_reducible refine Qab (h0) ?_ ?_ ?_);(with_reducible rfl);rfl)|((with_reducible refine Qab (h1) ?_ ?_ ?_);(with_reducible rfl);rfl)|((with_reducible refine Qab (h8) ?_ ?_ ?_);(with_reducible rfl);rfl)|((with_reducible refine Qab (h9) ?_ ?_ ?_);(with_reducible rfl);rfl)|((with_reducible refine Qab (h10) ?_ ?_ ?_);(with_reducible rfl);rfl))
 |true=>
 rw [c9]at h9
 have c9:=Qtz c9
 cases c10:uB w.uz with
 |false=>
  rw [c10]at h10
  have c10:=Qp1 c10
  have e:Qa8 l=false:=hbad (by unfold WdOk;omega)
  repeat (first|(simp -implicitDefEqProofs only [go_sem,Nat.reduceAdd,Nat.reduceMul,Nat.reduceEqDiff,Nat.reduceLT,Nat.reduceLeDiff,reduceCtorEq,hA',n0,hg,hwk,e,Int.toNat_natCast,List.length_map,Bool.not_true,Bool.not_false,decide_true,decide_false,c2',c3',c4',c5',c6',c7'])|((with_reducible refine Qab (h0) ?_ ?_ ?_);(with_reducible rfl);rfl)|((with_reducible refine Qab (h1) ?_ ?_ ?_);(with_reducible rfl);rfl)|((with_reducible refine Qab (h8) ?_ ?_ ?_);(with_reducible rfl);rfl)|((with_reducible refine Qab (h9) ?_ ?_ ?_);(with_reducible rfl);rfl)|((with_reducible refine Qab (h10) ?_ ?_ ?_);(with_reducible rfl);rfl))
 |true=>
 rw [c10]at h10
 have c10:=Qtz c10
 have e:=hok (Q2o (by unfold WdOk;omega))
 repeat (first|(simp -implicitDefEqProofs only [go_sem,Nat.reduceAdd,Nat.reduceMul,Nat.reduceEqDiff,Nat.reduceLT,Nat.reduceLeDiff,reduceCtorEq,hA',n0,hg,hwk,Int.toNat_natCast,List.length_map,Bool.not_true,Bool.not_false,decide_true,decide_false,c2',c3',c4',c5',c6',c7'])|((with_reducible refine Qab (h0) ?_ ?_ ?_);(with_reducible rfl);rfl)|((with_reducible refine Qab (h1) ?_ ?_ ?_);(with_reducible rfl);rfl)|((with_reducible refine Qab (h8) ?_ ?_ ?_);(with_reducible rfl);rfl)|((with_reducible refine Qab (h9) ?_ ?_ ?_);(with_reducible rfl);rfl)|((with_reducible refine Qab (h10) ?_ ?_ ?_);(with_reducible rfl);rfl))
 refine⟨⟨i+1,hA,e⟩,by simp only;omega,Qa9 ?_⟩
 simp [Qaf,lkp,ren1,ren0,Qap,wsPV]
end Go.Proofs.YtciddhkfbgkejaaGreatDoor

namespace Go.Vl
open Go.RowKit
theorem Qdr.own {own own':Nat→Prop} {w:World} {im:Im} {ρ:Rho} {B:Box} {x:Option Nat} (h:Qdr own w im ρ B x) (ho: ∀g,x=some g→own' g):Qdr own' w im ρ B x:=by
 cases x with
 |none=>exact h
 |some g=>exact⟨ho g rfl,h.2⟩
structure Raw (nt:Nat) (st:St) (tm:Array Value) (w:World) (ρ:Rho) (im:Im):Prop where
 nt:tm.size=nt
 imc: ∀g j,im g j→ ∃u,w.cell? ⟨g,j,none⟩=some u
 var: ∀t v,st.var t=some v→LR w im ρ v (tm.getD t undef)
 rho: ∀b,ρ b=none↔st.box b=none
 box: ∀b x B,ρ b=some x→st.box b=some B→Qdr (Own ρ) w im ρ B x
 inj: ∀b b' g B B',ρ b=some (some g)→ρ b'=some (some g)→st.box b=some B→st.box b'=some B'→B.live=true→B'.live=true→b=b'
theorem Rel'.raw {C:Ctx} {st:St} {a:Act} {w:World} {ρ:Rho} {im:Im} (h:Rel' C st a w ρ im):Raw C.nt st a.tmps w ρ im:=
 ⟨h.nt,h.imc,h.var,h.rho,fun b x B hx hB=>(h.box b x B hx hB).own fun g e=>⟨b,by rw [hx,e]⟩,h.inj⟩
section
variable {nt:Nat} {st:St} {tm:Array Value} {w w':World} {ρ:Rho} {im im':Im}
theorem Raw.blk (h:Raw nt st tm w ρ im) {g:Nat} (hg:Own ρ g): ∃cur e,w.heap[g]? =some (Obj.cells cur e (0,0)):=by
 obtain⟨b,hb⟩:=hg
 cases hB:st.box b with
 |none=>rw [(h.rho b).2 hB]at hb;cases hb
 |some B=>
  obtain⟨_,_,_,_,cur,us,rest,h5,_⟩:=h.box b _ B hb hB
  exact⟨cur,_,h5⟩
theorem Raw.lt (h:Raw nt st tm w ρ im) {g:Nat} (hg:Own ρ g):g<w.heap.size:=
 let ⟨_,_,e⟩:=h.blk hg
 (Array.getElem?_eq_some_iff.1 e).1
theorem Raw.world (h:Raw nt st tm w ρ im) (hk:Keeps im w w') (ho: ∀g,Own ρ g→w'.heap[g]? =w.heap[g]?):Raw nt st tm w' ρ im where
 nt:=h.nt
 imc:=fun g j hi=>by rw [hk.cell g j hi];exact h.imc g j hi
 var:=fun t v hv=>(h.var t v hv).mono hk (fun _ _ x=>x) (fun _ _ x=>x)
 rho:=h.rho
 box:=fun b x B hx hB=>(h.box b x B hx hB).mono hk (fun _ _ x=>x) (fun _ _ _ _ x=>x) (fun _ _ x=>x) (fun _ g hg=>ho g ⟨b,by rw [hx,hg]⟩)
 inj:=h.inj
theorem Raw.grow (h:Raw nt st tm w ρ im) (hi: ∀g j,im g j→im' g j) (hn: ∀g j,im' g j→im g j∨((∃u,w.cell? ⟨g,j,none⟩=some u)∧ ¬Own ρ g)):Raw nt st tm w ρ im' where
 nt:=h.nt
 imc:=fun g j x=>(hn g j x).elim (h.imc g j) fun y=>y.1
 var:=fun t v hv=>(h.var t v hv).mono (Keeps.refl _ _) hi (fun _ _ x=>x)
 rho:=h.rho
 box:=fun b x B hx hB=>(h.box b x B hx hB).mono (Keeps.refl _ _) hi (fun _ g j e hh=>(hn g j hh).elim id fun y=>absurd ⟨b,by rw [hx,e]⟩ y.2) (fun _ _ x=>x) (fun _ _ _=>rfl)
 inj:=h.inj
end
def Qh4 (P:Program) (nt:Nat) (w:World) (im:Im) (ρ:Rho) (F:Nat) (hF:F≤w.heap.size) (hlay:Laid P F w) (hXF: ∀g,Own ρ g→F≤g):Ctx where
 P:=P
 w0:=w
 F:=F
 hF:=hF
 lay:=hlay
 hXF:=hXF
 im0:=im
 nt:=nt
 ρ0:=ρ
 X:=Own ρ
 hX:=fun _ h=>h
 J:=fun _ _ o _=>o.length=1
 hJ:=fun _ _ h=>h
 yl:=some (0,0,[])
 hY:=fun h _ _ _ o _ _ _ ho hj=>by cases h;simp at*
theorem Raw.rel {P:Program} {nt:Nat} {st:St} {tm:Array Value} {w:World} {ρ:Rho} {im:Im} {F:Nat} (h:Raw nt st tm w ρ im) (hF:F≤w.heap.size) (hlay:Laid P F w) (hXF: ∀g,Own ρ g→F≤g)
  (ho:st.out.length=1) (hy:st.yl=some (0,0,[])):Rel' (Qh4 P nt w im ρ F hF hlay hXF) st {tmps:=tm,defers:=[]} w ρ im where
 root:=⟨.refl _ _ _,Keeps.refl _ _,fun _ _ x=>x,fun _ _ x=> .inl x,fun b x x' _ h0 hx=>by rw [show(Qh4 P nt w im ρ F hF hlay hXF).ρ0 b=ρ b from rfl]at h0;rw [h0]at hx;exact(Option.some.inj hx).symm,ho,hy⟩
 nt:=h.nt
 dfr:=⟨fun _=>rfl,[],rfl,by simp,by simp⟩
 imc:=h.imc
 var:=h.var
 rho:=h.rho
 box:=fun b x B hx hB=>(h.box b x B hx hB).own fun g e=> .inr ⟨b,by rw [←e];exact hx⟩
 inj:=h.inj
def Qte (outs:List (List PV)) (stop:Nat):Exit→St→Prop
 | .normal,s| .ret,s=>s.out=outs.take (stop+1)
 |_,_=>False
theorem Raw.ren {nt:Nat} {tm:Array Value} {w:World} {ρ:Rho} {im:Im} {θ:List (Nat×Nat)} {vs vs':List (Nat×PV)} {bs bs':List (Nat×Box)} {o o':List (List PV)} {y y':Yl} (h:Raw nt (St.ofG vs bs o y) tm w ρ im)
  (hκ:Qk3 θ=true) (hall:(θ.all fun p=>(lkp bs' p.1).isSome)=true) (hv:Qaf θ vs vs') (hb:Qam θ bs bs'):Raw nt (St.ofG vs' bs' o' y') tm w (rhoC θ ρ) im:=by
 have hinj: ∀b1 b2 b0,lkp θ b1=some b0→lkp θ b2=some b0→b1=b2:=by
  intro b1 b2 b0 e1 e2
  have z1:=(Qb3 hκ).1 e1
  have z2:=(Qb3 hκ).1 e2
  rw [z1]at z2;exact Option.some.inj z2
 have hkey: ∀b b0,lkp θ b=some b0→(lkp bs' b).isSome=true:=fun b b0 e=>List.all_eq_true.1 hall _ (Qcc e)
 have hthere: ∀b B',lkp bs' b=some B'→ ∃b0 B x,lkp θ b=some b0∧lkp bs b0=some B∧Box.renames θ B' B∧ρ b0=some x:=by
  intro b B' hB'
  obtain⟨b0,B,e1,e2,e3⟩:=Qg3 hb hB'
  cases hx:ρ b0 with
  |none=>
   have:=(h.rho b0).1 hx
   simp only [Qnh]at this
   rw [e2]at this;cases this
  |some x=>exact⟨b0,B,x,e1,e2,e3,hx⟩
 have hρ: ∀b b0 x,lkp θ b=some b0→ρ b0=some x→rhoC θ ρ b=some x:=by
  intro b b0 x e1 e2;simp only [rhoC,e1];exact e2
 have hback: ∀b x,rhoC θ ρ b=some x→ ∃b0,lkp θ b=some b0∧ρ b0=some x:=by
  intro b x e
  simp only [rhoC]at e
  cases hb0:lkp θ b with
  |none=>rw [hb0]at e;cases e
  |some b0=>rw [hb0]at e;exact⟨b0,rfl,e⟩
 refine⟨h.nt,h.imc,?_,?_,?_,?_⟩
 ·intro t v hvt
  obtain⟨x,e1,e2⟩:=Qig hv hvt
  exact Qlr hρ e2 (h.var t x e1)
 ·intro b
  constructor
  ·intro e
   cases hB':lkp bs' b with
   |none=>exact hB'
   |some B'=>
    obtain⟨b0,B,x,e1,_,_,e4⟩:=hthere b B' hB'
    rw [hρ b b0 x e1 e4]at e;cases e
  ·intro e
   simp only [rhoC]
   cases hb0:lkp θ b with
   |none=>rfl
   |some b0=>have:=hkey b b0 hb0;simp only [Qnh]at e;rw [e]at this;cases this
 ·intro b x B' hx hB'
  obtain⟨b0,B,x0,e1,e2,⟨r1,r2,r3,r4,r5,r6⟩,e4⟩:=hthere b B' hB'
  have hown: ∀g,x=some g→Own (rhoC θ ρ) g:=fun g e=>⟨b,by rw [hx,e]⟩
  rw [hρ b b0 x0 e1 e4]at hx
  cases hx
  have hbox:=h.box b0 x B e4 e2
  cases x with
  |none=>
   obtain⟨z1,z2,z3,z4⟩:=hbox
   rcases r6 with⟨_,r6⟩|⟨q1,v,v',q2,q3,_⟩
   ·exact⟨by rw [←r6];exact z1,by rw [r5];exact z2,by rw [r3];exact z3,by rw [r1];exact z4⟩
   ·rw [q3]at z1;cases z1
  |some g=>
   obtain⟨h1,h2,h3,h4,cur,us,rest,h5,h6,h7,h8,h9,h10,h11⟩:=hbox
   replace h1:=hown g rfl
   rcases r6 with⟨ra,r6⟩|⟨q1,v,v',q2,q3,q4,q5⟩
   ·refine⟨h1,by rw [r3,←r6];exact h2,by rw [r1];exact h3,by rw [r1,←r6];exact h4,cur,us,rest,by rw [r2];exact h5,h6,?_,by rw [r5,←r6];exact h8,h9,by rw [r3,r1,r4];exact h10,by rw [r3,r1,r4];exact h11⟩
    rw [←r6]
    exact(h8 (by rw [←r5];exact ra)).toLRL
   ·obtain⟨k1,k2⟩:=Qo7 (w:=w) (im:=im) q4 q5
    rw [q3]at h2 h4 h7 h8
    simp only [List.flatMap_cons,List.flatMap_nil,List.append_nil]at h7 h8
    refine⟨h1,by rw [r3,q2];exact h2,by rw [r1];exact h3,?_,cur,us,rest,by rw [r2];exact h5,h6,?_,?_,h9,by rw [r3,r1,r4];exact h10,by rw [r3,r1,r4];exact h11⟩
    ·intro e he
     rw [q2]at he
     simp only [List.mem_singleton]at he
     subst he
     rw [k1,r1]
     exact h4 v (by simp)
    ·rw [q2];simpa using k2 ρ (rhoC θ ρ) hρ us h7
    ·intro ha;rw [q1]at ha;cases ha
 ·intro b1 b2 g B1 B2 p1 p2 e1 e2 l1 l2
  obtain⟨b01,t1,t2⟩:=hback b1 _ p1
  obtain⟨b02,t3,t4⟩:=hback b2 _ p2
  obtain⟨c01,D1,x1,u1,u2,⟨_,_,_,v1,_⟩,u4⟩:=hthere b1 B1 e1
  obtain⟨c02,D2,x2,u5,u6,⟨_,_,_,v2,_⟩,u8⟩:=hthere b2 B2 e2
  rw [t1]at u1;cases u1
  rw [t3]at u5;cases u5
  have:=h.inj b01 b02 g D1 D2 t2 t4 u2 u6 (by rw [←v1];exact l1) (by rw [←v2];exact l2)
  subst this
  exact hinj b1 b2 b01 t1 t3
theorem Qxs {θ:List (Nat×Nat)} {ρ:Rho} {g:Nat} (h:Own (rhoC θ ρ) g):Own ρ g:=by
 obtain⟨b,e⟩:=h
 simp only [rhoC]at e
 cases hb:lkp θ b with
 |none=>rw [hb]at e;cases e
 |some b0=>rw [hb]at e;exact⟨b0,e⟩
def pvars:List Tmp→List PV→List (Nat×PV)→List (Nat×PV)
 |t::ts,v::vs,acc=>pvars ts vs ((t,v)::acc)
 |_,_,acc=>acc
theorem Rel'.pvars {C:Ctx} {w:World} {ρ:Rho} {im:Im} {bs:List (Nat×Box)} {o:List (List PV)} {y:Yl}: ∀{ps:List Tmp} {args:List PV} {us:List Value} {vs:List (Nat×PV)} {tm:Array Value},ps.length=args.length→RepL w im args us→(∀t∈ps,t<C.nt)→
  Rel' C (St.ofG vs bs o y) {tmps:=tm,defers:=[]} w ρ im→Rel' C (St.ofG (Vl.pvars ps args vs) bs o y) {tmps:=(ps.zip us).foldl (fun t p=>t.setIfInBounds p.1 p.2) tm,defers:=[]} w ρ im
 | [],[],us,vs,tm,_,hr,_,h=>by simpa [Vl.pvars]using h
 |t::ps,v::args,_,vs,tm,hl,.cons _ u _ us hv hr,hp,h=>by
  have h1:=h.setVar (t:=t) (hp t (by simp)) (v:=v) (u:=u) (.ext _ _ hv)
  exact Rel'.pvars (ps:=ps) (args:=args) (us:=us) (by simpa using hl) hr (fun x hx=>hp x (by simp [hx])) h1
 | [],_::_,_,_,_,hl,_,_,_=>by simp at hl
 |_::_,[],_,_,_,hl,_,_,_=>by simp at hl
structure Going (nt:Nat) (w:World) (ρ:Rho) (im:Im) (tm:Array Value) (st:St) (r:Loop) (own:Nat→Prop) (imc:Im) (W:World) (ρb:Rho) (imb:Im):Prop where
 step:Step ρ im w ρb imb W
 raw:Raw nt st tm W ρb imb
 sub: ∀g j,imc g j→imb g j∨ ¬Own ρb g
 imcn: ∀g j,imc g j→im g j∨Own ρ g∨w.heap.size≤g
 apart: ∀g,own g→w.heap.size+2≤g∧ ¬Own ρb g
 out: ∀g j,imb g j→imc g j∨ ¬own g
 recd:W.heap[w.heap.size+1]? =some (.loop r)
 mark:W.heap[w.heap.size]? =some (.deferred (some []))
theorem Going.step' {nt:Nat} {w:World} {ρ:Rho} {im:Im} {tm:Array Value} {st:St} {r:Loop} {ρc ρc':Rho} {imc imc':Im} {W W':World} {ρb:Rho} {imb:Im} (h:Going nt w ρ im tm st r (Own ρc) imc W ρb imb) (s:Step ρc imc W ρc' imc' W'):
  Going nt w ρ im tm st r (Own ρc') imc' W' ρb imb:=by
 have hsz:w.heap.size+1<W.heap.size:=(Array.getElem?_eq_some_iff.1 h.recd).1
 have hown: ∀g,Own ρb g→W'.heap[g]? =W.heap[g]? :=fun g hg=>s.lent.block g (h.raw.lt hg) fun x=>(h.apart g x).2 hg
 have hk:Keeps imb W W':=⟨fun g j hi=>by
  rcases h.out g j hi with x|x
  ·exact s.keep.cell g j x
  ·obtain⟨u,hu⟩:=h.raw.imc g j hi
   have hlt:g<W.heap.size:=World.block_lt_of_cell? W _ hu
   exact World.cell?_of_block (w:=W) (a:=⟨g,j,none⟩) (s.lent.block g hlt x),s.keep.obj,s.keep.oth⟩
 have hno: ∀k,k<w.heap.size+2→ ¬Own ρc k:=fun k hk x=>by have:=(h.apart k x).1;omega
 refine⟨⟨h.step.lent.trans (s.lent.mono h.step.lent.size fun k hk x=>absurd x (hno k (by omega))),h.step.keep.trans hk h.step.mono,h.step.own,h.step.mono,h.step.imn⟩,h.raw.world hk hown,?_,?_,?_,?_,?_,?_⟩
 ·intro g j x
  rcases s.imn g j x with y|y|y
  ·exact h.sub g j y
  ·exact .inr (h.apart g y).2
  ·exact .inr fun z=>by have:=h.raw.lt z;omega
 ·intro g j x
  rcases s.imn g j x with y|y|y
  ·exact h.imcn g j y
  ·have:=(h.apart g y).1
   exact .inr (.inr (by omega))
  ·exact .inr (.inr (by omega))
 ·intro g x
  rcases s.own g x with y|y
  ·exact h.apart g y
  ·exact⟨by omega,fun z=>by have:=h.raw.lt z;omega⟩
 ·intro g j x
  rcases h.out g j x with y|y
  ·exact .inl (s.mono g j y)
  ·refine .inr fun z=> ?_
   rcases s.own g z with q|q
   ·exact y q
   ·obtain⟨u,hu⟩:=h.raw.imc g j x
    have hlt:g<W.heap.size:=World.block_lt_of_cell? W _ hu
    omega
 ·rw [s.lent.block _ hsz (hno _ (by omega))];exact h.recd
 ·rw [s.lent.block _ (by omega) (hno _ (by omega))];exact h.mark
theorem Qeg {im:Im} {W:World} {l:Nat} {r r':Loop} (h:W.heap[l]? =some (.loop r)):Keeps im W (W.putObj l (.loop r')):=by
 refine⟨fun g j _=> ?_,fun g cur e hg=>⟨cur,?_,rfl⟩,fun g o hg ho=> ?_⟩
 ·by_cases e:g=l
  ·subst e
   have h1:(W.putObj g (.loop r')).heap[g]? =some (.loop r'):=World.putObj_heap_same (Array.getElem?_eq_some_iff.1 h).1
   simp [World.cell?,h,h1]
  ·exact World.cell?_of_block (w:=W) (a:=⟨g,j,none⟩) (Qb7 W l _ g e)
 ·rw [Qb7 W l _ g (by rintro rfl;rw [h]at hg;cases hg)];exact hg
 ·rw [Qb7 W l _ g (by rintro rfl;rw [h]at hg;cases hg;cases ho)];exact hg
theorem Raw.putLoop {nt:Nat} {st:St} {tm:Array Value} {W:World} {ρ:Rho} {im:Im} {l:Nat} {r r':Loop} (h:Raw nt st tm W ρ im) (hl:W.heap[l]? =some (.loop r)):Raw nt st tm (W.putObj l (.loop r')) ρ im:=
 h.world (Qeg hl) fun g hg=>Qb7 W l _ g (by
  rintro rfl
  obtain⟨cur,e,x⟩:=h.blk hg
  rw [hl]at x;cases x)
def Q87 (N:List Nat):List (Nat×Nat):=N.map fun b=>(b,b)
theorem Q88 {N:List Nat} {b b0:Nat} (h:lkp (Q87 N) b=some b0):b0=b∧b∈N:=by
 have:=Qcc h
 simp only [Q87,List.mem_map,Prod.mk.injEq]at this
 obtain⟨x,hx,rfl,rfl⟩:=this
 exact⟨rfl,hx⟩
def Qxt:Exit→Option Code
 | .ret=>some .ret
 | .exit id=>some (.exit id)
 |_=>none
def vround (B:Nat→List (Nat×Box)) (stop:Nat) (jump:Exit) (k:Nat):Exit→St→Prop
 | .normal,s=>k<stop∧Le s (St.ofG [] (B (k+1)) [[]] (some (0,0,[])))
 | .ret,s=>k=stop∧jump= .ret∧Le s (St.ofG [] (B (k+1)) [[]] (some (0,0,[])))
 | .exit id,s=>k=stop∧jump= .exit id∧Le s (St.ofG [] (B (k+1)) [[]] (some (0,0,[])))
 |_,_=>False
end Go.Vl
