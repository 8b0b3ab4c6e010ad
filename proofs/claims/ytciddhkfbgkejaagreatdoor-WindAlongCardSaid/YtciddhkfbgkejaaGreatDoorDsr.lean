/-
  HI3, HI4, ULD, UYC, HI5, Du, Dsg, Dsh, Dsi, Dsr (merged for the claim).
-/
import Derived.Test.YtciddhkfbgkejaaGreatDoorHI2
import Derived.Test.YtciddhkfbgkejaaGreatDoorUXS
import Derived.Test.YtciddhkfbgkejaaGreatDoorUO
set_option linter.unusedSimpArgs false
set_option linter.unusedVariables false
namespace Go.Proofs.YtciddhkfbgkejaaGreatDoor
open Go.Vl Go.RowKit Go.Dg
abbrev WdBl (x y z t:Int) (w:Wd):Prop:=(w.lx≤x∧x≤w.hx)∧(w.ly≤y∧y≤w.hy)∧(w.lz≤z∧z≤w.hz)∧w.f≤t∧t<w.t
theorem Zf1 {x y z t:Int} {w:Wd} (h:WdBl x y z t w):blW x y z t w=true:=decide_eq_true h
theorem Qhk {x y z t:Int} {w:Wd} (h: ¬WdBl x y z t w):blW x y z t w=false:=decide_eq_false h
theorem Q19 {p:Wd→Bool} {l:List Wd} {i:Nat} (h:i<l.length):mask p (l.take (i+1))=if p l[i]then mask p (l.take i)+2^i else mask p (l.take i):=by
 rw [Qa1 l i h,Qrl]
 have:(l.take i).length=i:=by simp;omega
 rw [this]
theorem Zmq {m i:Nat} (hi:i<8) (hm:m<2^i):IntKind.u64.wrap ((@HOr.hOr (BitVec 64) (BitVec 64) (BitVec 64) (@instHOrOfOrOp (BitVec IntKind.u64.bits) (@BitVec.instOrOp IntKind.u64.bits)) (BitVec.ofInt 64 (m:Int)) (BitVec.ofInt 64 ((2^i:Nat):Int))).toNat:Int)=((m+2^i:Nat):Int):=by
 have h2:2^i≤2^7:=Nat.pow_le_pow_right (by decide) (by omega)
 have:=Go.bits_or_u64_nat m (2^i) (by omega) (by omega)
 rw [Zmc hm]at this
 exact this
theorem Zhh {i:Nat} (hi:i<8):IntKind.u64.wrap (1*2^min i 64)=((2^i:Nat):Int):=by
 match i,hi with
 |0,_=>rfl
 |1,_=>rfl
 |2,_=>rfl
 |3,_=>rfl
 |4,_=>rfl
 |5,_=>rfl
 |6,_=>rfl
 |7,_=>rfl
set_option maxHeartbeats 8000000 in
set_option maxRecDepth 100000 in
theorem Qgl (l:List Wd) (x y z t:Int) (hl:l.length≤8):Qag Tryz.prog 53 [wsPV l,.agg [.int .i64 x,.int .i64 y,.int .i64 z],.int .i64 t] (.int .u64 ((mask (blW x y z t) l:Nat):Int)):=by
 have hp0:=Qgk x y z
 have hz0:IntKind.u64.wrap 0=0:=rfl
 refine Qac (tb:=[]) 63 [.tmp 6] [0,1,2,4,6,7,8,9,10,11,12,13,16,17,18,19,32,39,40,41,55] mixed Tryz.func53 rfl (by kernel_rfl) (by kernel_rfl) (by kernel_rfl) (by kernel_rfl) ?_
 repeat (first|(simp -implicitDefEqProofs only [go_sem,Nat.reduceAdd,Nat.reduceMul,Nat.reduceEqDiff,Nat.reduceLT,Nat.reduceLeDiff,reduceCtorEq])|(with_reducible exact Qaa _ _ (by kernel_rfl))|(with_reducible refine And.intro (Qaa _ _ (by kernel_rfl)) ?_))
 refine Zlx mixed ?_
 repeat (first|(simp -implicitDefEqProofs only [go_sem,Nat.reduceAdd,Nat.reduceMul,Nat.reduceEqDiff,Nat.reduceLT,Nat.reduceLeDiff,reduceCtorEq])|((with_reducible refine Qab (hp0) ?_ ?_ ?_);(with_reducible rfl);rfl)|(with_reducible exact Qaa _ _ (by kernel_rfl))|(with_reducible refine And.intro (Qaa _ _ (by kernel_rfl)) ?_))
 refine Qar mixed (fun i:{i:Nat // i≤l.length}=>St.of [(0,wsPV l),(2,.int .i64 t),(6,.int .u64 ((mask (blW x y z t) (l.take i.1):Nat):Int)),(7,.bp 102 3 0 0),(16,wsPV l),(17,.int .i64 (l.length:Int)),(18,.int .i64 (i.1:Int))]
  [(102,{els:=[.agg [.int .i64 x,.int .i64 y,.int .i64 z]],esz:=3,ety:=87,fro:=0,live:=true,arr:=false})]) (fun i=>l.length-i.1) ⟨0,Nat.zero_le _⟩ ?_ ?_
 ·refine Qaj (θ:=[(102,102)]) rfl ?_ ?_
  ·simp [Qad,lkp,ren1,ren0,Qal,wsPV,List.take_zero]
   rfl
  ·exact⟨⟨rfl,rfl,rfl,rfl,rfl,.inr ⟨rfl,_,_,rfl,rfl,rfl,rfl⟩⟩,trivial⟩
 rintro⟨i,hi⟩
 simp only
 by_cases hA:i<l.length
 case neg=>
  have hA':=ltF hA
  have et:l.take i=l:=List.take_of_length_le (by omega)
  rw [et]
  generalize mask (blW x y z t) l=M at*
  repeat (first|(simp -implicitDefEqProofs only [go_sem,Nat.reduceAdd,Nat.reduceMul,Nat.reduceEqDiff,Nat.reduceLT,Nat.reduceLeDiff,reduceCtorEq,hA',List.length_map,Zpa])|(with_reducible exact Qaa _ _ (by kernel_rfl))|(with_reducible refine And.intro (Qaa _ _ (by kernel_rfl)) ?_))
 have hA':=ltT hA
 have n0:=nnT i
 have hg:=Qie l i hA
 have hwk:=Qai (a:=i) (by omega)
 have hms:=Q19 (p:=blW x y z t) hA
 have hlt:=Qtw (blW x y z t) (l.take i)
 have hti:(l.take i).length=i:=by simp;omega
 rw [hti]at hlt
 have hor:=Zmq (i:=i) (by omega) hlt
 have hsh:=Zhh (i:=i) (by omega)
 generalize l[i]=w at*
 generalize hM2:mask (blW x y z t) (l.take (i+1))=M2 at*
 generalize mask (blW x y z t) (l.take i)=M at*
 have h0:=Qgk w.lx w.ly w.lz
 have h1:=Qgk w.hx w.hy w.hz
 by_cases c0:t<w.f
 ·have c0':=eq_true c0
  have e:M2=M:=by rw [hms,Qhk (by unfold WdBl;omega)];rfl
  repeat (first|(simp -implicitDefEqProofs only [go_sem,Nat.reduceAdd,Nat.reduceMul,Nat.reduceEqDiff,Nat.reduceLT,Nat.reduceLeDiff,reduceCtorEq,hA',n0,hg,hwk,Int.toNat_natCast,List.length_map,decide_true,decide_false,c0'])|(with_reducible exact Qaa _ _ (by kernel_rfl))|(with_reducible refine And.intro (Qaa _ _ (by kernel_rfl)) ?_))
  refine⟨⟨i+1,hA⟩,by simp only;omega,Qaj (θ:=[(102,102)]) rfl ?_ ?_⟩
  ·simp only [hM2,e]
   simp [Qad,lkp,ren1,ren0,Qal,wsPV]
  ·exact⟨⟨rfl,rfl,rfl,rfl,rfl,.inr ⟨rfl,_,_,rfl,rfl,rfl,rfl⟩⟩,trivial⟩
 have c0':=eq_false c0
 by_cases c1:w.t≤t
 ·have c1':=eq_true c1
  have e:M2=M:=by rw [hms,Qhk (by unfold WdBl;omega)];rfl
  repeat (first|(simp -implicitDefEqProofs only [go_sem,Nat.reduceAdd,Nat.reduceMul,Nat.reduceEqDiff,Nat.reduceLT,Nat.reduceLeDiff,reduceCtorEq,hA',n0,hg,hwk,Int.toNat_natCast,List.length_map,decide_true,decide_false,c0',c1'])|(with_reducible exact Qaa _ _ (by kernel_rfl))|(with_reducible refine And.intro (Qaa _ _ (by kernel_rfl)) ?_))
  refine⟨⟨i+1,hA⟩,by simp only;omega,Qaj (θ:=[(102,102)]) rfl ?_ ?_⟩
  ·simp only [hM2,e]
   simp [Qad,lkp,ren1,ren0,Qal,wsPV]
  ·exact⟨⟨rfl,rfl,rfl,rfl,rfl,.inr ⟨rfl,_,_,rfl,rfl,rfl,rfl⟩⟩,trivial⟩
 have c1':=eq_false c1
 repeat (first|(simp -implicitDefEqProofs only [go_sem,Nat.reduceAdd,Nat.reduceMul,Nat.reduceEqDiff,Nat.reduceLT,Nat.reduceLeDiff,reduceCtorEq,hA',n0,hg,hwk,Int.toNat_natCast,List.length_map,decide_true,decide_false,c0',c1'])|((with_reducible refine Qab (h0) ?_ ?_ ?_);(with_reducible rfl);rfl)|((with_reducible refine Qab (h1) ?_ ?_ ?_);(with_reducible rfl);rfl)|(with_reducible exact Qaa _ _ (by kernel_rfl))|(with_reducible refine And.intro (Qaa _ _ (by kernel_rfl)) ?_))
 refine Qe9 mixed [0,1,2,3] ?_
 by_cases c2:x<w.lx
 ·have c2':=eq_true c2
  have e:M2=M:=by rw [hms,Qhk (by unfold WdBl;omega)];rfl
  repeat (first|(simp -implicitDefEqProofs only [go_sem,Nat.reduceAdd,Nat.reduceMul,Nat.reduceEqDiff,Nat.reduceLT,Nat.reduceLeDiff,reduceCtorEq,Int.reduceLE,Int.reduceLT,Int.reduceToNat,Int.reduceAdd,hA',n0,hg,hwk,Int.toNat_natCast,List.length_map,decide_true,decide_false,c0',c1',c2'])|(with_reducible exact Qaa _ _ (by kernel_rfl))|(with_reducible refine And.intro (Qaa _ _ (by kernel_rfl)) ?_))
  refine⟨⟨i+1,hA⟩,by simp only;omega,Qaj (θ:=[(102,102)]) rfl ?_ ?_⟩
  ·simp only [hM2,e]
   simp [Qad,lkp,ren1,ren0,Qal,wsPV]
  ·exact⟨⟨rfl,rfl,rfl,rfl,rfl,.inr ⟨rfl,_,_,rfl,rfl,rfl,rfl⟩⟩,trivial⟩
 have c2':=eq_false c2
 by_cases c3:w.hx<x
 ·have c3':=eq_true c3
  have e:M2=M:=by rw [hms,Qhk (by unfold WdBl;omega)];rfl
  repeat (first|(simp -implicitDefEqProofs only [go_sem,Nat.reduceAdd,Nat.reduceMul,Nat.reduceEqDiff,Nat.reduceLT,Nat.reduceLeDiff,reduceCtorEq,Int.reduceLE,Int.reduceLT,Int.reduceToNat,Int.reduceAdd,hA',n0,hg,hwk,Int.toNat_natCast,List.length_map,decide_true,decide_false,c0',c1',c2',c3'])|(with_reducible exact Qaa _ _ (by kernel_rfl))|(with_reducible refine And.intro (Qaa _ _ (by kernel_rfl)) ?_))
  refine⟨⟨i+1,hA⟩,by simp only;omega,Qaj (θ:=[(102,102)]) rfl ?_ ?_⟩
  ·simp only [hM2,e]
   simp [Qad,lkp,ren1,ren0,Qal,wsPV]
  ·exact⟨⟨rfl,rfl,rfl,rfl,rfl,.inr ⟨rfl,_,_,rfl,rfl,rfl,rfl⟩⟩,trivial⟩
 have c3':=eq_false c3
 by_cases c4:y<w.ly
 ·have c4':=eq_true c4
  have e:M2=M:=by rw [hms,Qhk (by unfold WdBl;omega)];rfl
  repeat (first|(simp -implicitDefEqProofs only [go_sem,Nat.reduceAdd,Nat.reduceMul,Nat.reduceEqDiff,Nat.reduceLT,Nat.reduceLeDiff,reduceCtorEq,Int.reduceLE,Int.reduceLT,Int.reduceToNat,Int.reduceAdd,hA',n0,hg,hwk,Int.toNat_natCast,List.length_map,decide_true,decide_false,c0',c1',c2',c3',c4'])|(with_reducible exact Qaa _ _ (by kernel_rfl))|(with_reducible refine And.intro (Qaa _ _ (by kernel_rfl)) ?_))
  refine⟨⟨i+1,hA⟩,by simp only;omega,Qaj (θ:=[(102,102)]) rfl ?_ ?_⟩
  ·simp only [hM2,e]
   simp [Qad,lkp,ren1,ren0,Qal,wsPV]
  ·exact⟨⟨rfl,rfl,rfl,rfl,rfl,.inr ⟨rfl,_,_,rfl,rfl,rfl,rfl⟩⟩,trivial⟩
 have c4':=eq_false c4
 by_cases c5:w.hy<y
 ·have c5':=eq_true c5
  have e:M2=M:=by rw [hms,Qhk (by unfold WdBl;omega)];rfl
  repeat (first|(simp -implicitDefEqProofs only [go_sem,Nat.reduceAdd,Nat.reduceMul,Nat.reduceEqDiff,Nat.reduceLT,Nat.reduceLeDiff,reduceCtorEq,Int.reduceLE,Int.reduceLT,Int.reduceToNat,Int.reduceAdd,hA',n0,hg,hwk,Int.toNat_natCast,List.length_map,decide_true,decide_false,c0',c1',c2',c3',c4',c5'])|(with_reducible exact Qaa _ _ (by kernel_rfl))|(with_reducible refine And.intro (Qaa _ _ (by kernel_rfl)) ?_))
  refine⟨⟨i+1,hA⟩,by simp only;omega,Qaj (θ:=[(102,102)]) rfl ?_ ?_⟩
  ·simp only [hM2,e]
   simp [Qad,lkp,ren1,ren0,Qal,wsPV]
  ·exact⟨⟨rfl,rfl,rfl,rfl,rfl,.inr ⟨rfl,_,_,rfl,rfl,rfl,rfl⟩⟩,trivial⟩
 have c5':=eq_false c5
 by_cases c6:z<w.lz
 ·have c6':=eq_true c6
  have e:M2=M:=by rw [hms,Qhk (by unfold WdBl;omega)];rfl
  repeat (first|(simp -implicitDefEqProofs only [go_sem,Nat.reduceAdd,Nat.reduceMul,Nat.reduceEqDiff,Nat.reduceLT,Nat.reduceLeDiff,reduceCtorEq,Int.reduceLE,Int.reduceLT,Int.reduceToNat,Int.reduceAdd,hA',n0,hg,hwk,Int.toNat_natCast,List.length_map,decide_true,decide_false,c0',c1',c2',c3',c4',c5',c6'])|(with_reducible exact Qaa _ _ (by kernel_rfl))|(with_reducible refine And.intro (Qaa _ _ (by kernel_rfl)) ?_))
  refine⟨⟨i+1,hA⟩,by simp only;omega,Qaj (θ:=[(102,102)]) rfl ?_ ?_⟩
  ·simp only [hM2,e]
   simp [Qad,lkp,ren1,ren0,Qal,wsPV]
  ·exact⟨⟨rfl,rfl,rfl,rfl,rfl,.inr ⟨rfl,_,_,rfl,rfl,rfl,rfl⟩⟩,trivial⟩
 have c6':=eq_false c6
 by_cases c7:w.hz<z
 ·have c7':=eq_true c7
  have e:M2=M:=by rw [hms,Qhk (by unfold WdBl;omega)];rfl
  repeat (first|(simp -implicitDefEqProofs only [go_sem,Nat.reduceAdd,Nat.reduceMul,Nat.reduceEqDiff,Nat.reduceLT,Nat.reduceLeDiff,reduceCtorEq,Int.reduceLE,Int.reduceLT,Int.reduceToNat,Int.reduceAdd,hA',n0,hg,hwk,Int.toNat_natCast,List.length_map,decide_true,decide_false,c0',c1',c2',c3',c4',c5',c6',c7'])|(with_reducible exact Qaa _ _ (by kernel_rfl))|(with_reducible refine And.intro (Qaa _ _ (by kernel_rfl)) ?_))
  refine⟨⟨i+1,hA⟩,by simp only;omega,Qaj (θ:=[(102,102)]) rfl ?_ ?_⟩
  ·simp only [hM2,e]
   simp [Qad,lkp,ren1,ren0,Qal,wsPV]
  ·exact⟨⟨rfl,rfl,rfl,rfl,rfl,.inr ⟨rfl,_,_,rfl,rfl,rfl,rfl⟩⟩,trivial⟩
 have c7':=eq_false c7
 have e:M2=M+2^i:=by rw [hms,Zf1 (by unfold WdBl;omega)];rfl
 have hni:((i:Int)<0)=False:=eq_false (by omega)
 repeat (first|(simp -implicitDefEqProofs only [go_sem,Nat.reduceAdd,Nat.reduceMul,Nat.reduceEqDiff,Nat.reduceLT,Nat.reduceLeDiff,reduceCtorEq,Int.reduceLE,Int.reduceLT,Int.reduceToNat,Int.reduceAdd,hA',n0,hg,hwk,Int.toNat_natCast,List.length_map,decide_true,decide_false,c0',c1',c2',c3',c4',c5',c6',c7',hni,hsh,hor])|(with_reducible exact Qaa _ _ (by kernel_rfl))|(with_reducible refine And.intro (Qaa _ _ (by kernel_rfl)) ?_))
 refine⟨⟨i+1,hA⟩,by simp only;omega,Qaj (θ:=[(102,102)]) rfl ?_ ?_⟩
 ·simp only [hM2,e]
  simp [Qad,lkp,ren1,ren0,Qal,wsPV]
 ·exact⟨⟨rfl,rfl,rfl,rfl,rfl,.inr ⟨rfl,_,_,rfl,rfl,rfl,rfl⟩⟩,trivial⟩
set_option maxHeartbeats 4000000 in
set_option maxRecDepth 100000 in
theorem Q9n (w:Wd) (x y z t:Int):Qag Tryz.prog 57 [wdPV w,.agg [.int .i64 x,.int .i64 y,.int .i64 z],.int .i64 t] (.bool (blW x y z t w)):=by
 by_cases c0:w.lx≤x
 case neg=>
  have c0':=eq_false c0
  have e:blW x y z t w=false:=Qhk (by unfold WdBl;omega)
  rw [e]
  unfold wdPV
  refine Qac (tb:=[]) 65 [.tmp 6] [0,1,2,3,4,6] mixed Tryz.func57 rfl (by kernel_rfl) (by kernel_rfl) (by kernel_rfl) (by kernel_rfl) ?_
  repeat (first|(simp -implicitDefEqProofs only [go_sem,Nat.reduceAdd,Nat.reduceMul,Nat.reduceEqDiff,Nat.reduceLT,Nat.reduceLeDiff,reduceCtorEq,decide_true,decide_false,c0']))
 have c0':=eq_true c0
 by_cases c1:x≤w.hx
 case neg=>
  have c1':=eq_false c1
  have e:blW x y z t w=false:=Qhk (by unfold WdBl;omega)
  rw [e]
  unfold wdPV
  refine Qac (tb:=[]) 65 [.tmp 6] [0,1,2,3,4,6] mixed Tryz.func57 rfl (by kernel_rfl) (by kernel_rfl) (by kernel_rfl) (by kernel_rfl) ?_
  repeat (first|(simp -implicitDefEqProofs only [go_sem,Nat.reduceAdd,Nat.reduceMul,Nat.reduceEqDiff,Nat.reduceLT,Nat.reduceLeDiff,reduceCtorEq,decide_true,decide_false,c0',c1']))
 have c1':=eq_true c1
 by_cases c2:w.ly≤y
 case neg=>
  have c2':=eq_false c2
  have e:blW x y z t w=false:=Qhk (by unfold WdBl;omega)
  rw [e]
  unfold wdPV
  refine Qac (tb:=[]) 65 [.tmp 6] [0,1,2,3,4,6] mixed Tryz.func57 rfl (by kernel_rfl) (by kernel_rfl) (by kernel_rfl) (by kernel_rfl) ?_
  repeat (first|(simp -implicitDefEqProofs only [go_sem,Nat.reduceAdd,Nat.reduceMul,Nat.reduceEqDiff,Nat.reduceLT,Nat.reduceLeDiff,reduceCtorEq,decide_true,decide_false,c0',c1',c2']))
 have c2':=eq_true c2
 by_cases c3:y≤w.hy
 case neg=>
  have c3':=eq_false c3
  have e:blW x y z t w=false:=Qhk (by unfold WdBl;omega)
  rw [e]
  unfold wdPV
  refine Qac (tb:=[]) 65 [.tmp 6] [0,1,2,3,4,6] mixed Tryz.func57 rfl (by kernel_rfl) (by kernel_rfl) (by kernel_rfl) (by kernel_rfl) ?_
  repeat (first|(simp -implicitDefEqProofs only [go_sem,Nat.reduceAdd,Nat.reduceMul,Nat.reduceEqDiff,Nat.reduceLT,Nat.reduceLeDiff,reduceCtorEq,decide_true,decide_false,c0',c1',c2',c3']))
 have c3':=eq_true c3
 by_cases c4:w.lz≤z
 case neg=>
  have c4':=eq_false c4
  have e:blW x y z t w=false:=Qhk (by unfold WdBl;omega)
  rw [e]
  unfold wdPV
  refine Qac (tb:=[]) 65 [.tmp 6] [0,1,2,3,4,6] mixed Tryz.func57 rfl (by kernel_rfl) (by kernel_rfl) (by kernel_rfl) (by kernel_rfl) ?_
  repeat (first|(simp -implicitDefEqProofs only [go_sem,Nat.reduceAdd,Nat.reduceMul,Nat.reduceEqDiff,Nat.reduceLT,Nat.reduceLeDiff,reduceCtorEq,decide_true,decide_false,c0',c1',c2',c3',c4']))
 have c4':=eq_true c4
 by_cases c5:z≤w.hz
 case neg=>
  have c5':=eq_false c5
  have e:blW x y z t w=false:=Qhk (by unfold WdBl;omega)
  rw [e]
  unfold wdPV
  refine Qac (tb:=[]) 65 [.tmp 6] [0,1,2,3,4,6] mixed Tryz.func57 rfl (by kernel_rfl) (by kernel_rfl) (by kernel_rfl) (by kernel_rfl) ?_
  repeat (first|(simp -implicitDefEqProofs only [go_sem,Nat.reduceAdd,Nat.reduceMul,Nat.reduceEqDiff,Nat.reduceLT,Nat.reduceLeDiff,reduceCtorEq,decide_true,decide_false,c0',c1',c2',c3',c4',c5']))
 have c5':=eq_true c5
 by_cases c6:w.f≤t
 case neg=>
  have c6':=eq_false c6
  have e:blW x y z t w=false:=Qhk (by unfold WdBl;omega)
  rw [e]
  unfold wdPV
  refine Qac (tb:=[]) 65 [.tmp 6] [0,1,2,3,4,6] mixed Tryz.func57 rfl (by kernel_rfl) (by kernel_rfl) (by kernel_rfl) (by kernel_rfl) ?_
  repeat (first|(simp -implicitDefEqProofs only [go_sem,Nat.reduceAdd,Nat.reduceMul,Nat.reduceEqDiff,Nat.reduceLT,Nat.reduceLeDiff,reduceCtorEq,decide_true,decide_false,c0',c1',c2',c3',c4',c5',c6']))
 have c6':=eq_true c6
 by_cases c7:t<w.t
 case neg=>
  have c7':=eq_false c7
  have e:blW x y z t w=false:=Qhk (by unfold WdBl;omega)
  rw [e]
  unfold wdPV
  refine Qac (tb:=[]) 65 [.tmp 6] [0,1,2,3,4,6] mixed Tryz.func57 rfl (by kernel_rfl) (by kernel_rfl) (by kernel_rfl) (by kernel_rfl) ?_
  repeat (first|(simp -implicitDefEqProofs only [go_sem,Nat.reduceAdd,Nat.reduceMul,Nat.reduceEqDiff,Nat.reduceLT,Nat.reduceLeDiff,reduceCtorEq,decide_true,decide_false,c0',c1',c2',c3',c4',c5',c6',c7']))
 have c7':=eq_true c7
 have e:blW x y z t w=true:=Zf1 (by unfold WdBl;omega)
 rw [e]
 unfold wdPV
 refine Qac (tb:=[]) 65 [.tmp 6] [0,1,2,3,4,6] mixed Tryz.func57 rfl (by kernel_rfl) (by kernel_rfl) (by kernel_rfl) (by kernel_rfl) ?_
 repeat (first|(simp -implicitDefEqProofs only [go_sem,Nat.reduceAdd,Nat.reduceMul,Nat.reduceEqDiff,Nat.reduceLT,Nat.reduceLeDiff,reduceCtorEq,decide_true,decide_false,c0',c1',c2',c3',c4',c5',c6',c7']))
def onL (p:Wd→Bool) (l:List Wd):List Int:=(onI p l 0).map fun(i:Nat)=>(i:Int)
theorem Qwm {p:Wd→Bool} {l:List Wd} {i:Nat} (h:i<l.length):onL p (l.take (i+1))=if p l[i]then onL p (l.take i)++[(i:Int)]else onL p (l.take i):=by
 unfold onL
 rw [Qa1 l i h,Qv8]
 have:(l.take i).length=i:=by simp;omega
 rw [this]
 split<;>simp
theorem Qt4 (p:Wd→Bool) (l:List Wd): ∀i,(onL p (l.take i)).length≤i
 |0=>by simp [onL,onI]
 |i+1=>by
  have:=Qt4 p l i
  by_cases h:i<l.length
  ·rw [Qwm h];split<;>simp<;>omega
  ·have e:l.take (i+1)=l.take i:=by rw [List.take_of_length_le (by omega),List.take_of_length_le (by omega)]
   rw [e];omega
abbrev iB1 (xs:List Int):Box:={els:=xs.map (PV.int .i64),esz:=1,ety:=3,fro:=0,live:=true,arr:=true}
theorem Qen (l:List Int):(((l.map (PV.int .i64)).flatMap PV.cells).all PV.okCell)=true:=by
 rw [List.all_eq_true];intro x hx;simp only [List.mem_flatMap,List.mem_map]at hx;obtain⟨_,⟨_,_,rfl⟩,h⟩:=hx;simp only [PV.cells,List.mem_singleton]at h;subst h;rfl
set_option maxHeartbeats 4000000 in
theorem Qrt (l:List Wd) (x y z t:Int) (hl:l.length≤100000):Qag Tryz.prog 19 [wsPV l,.agg [.int .i64 x,.int .i64 y,.int .i64 z],.int .i64 t] (.slc ((onL (blW x y z t) l).map (PV.int .i64))):=by
 refine Qac (tb:=[]) 27 [.tmp 6] [0,1,2,4,6,7,8,12,21] mixed Tryz.func19 rfl (by kernel_rfl) (by kernel_rfl) (by kernel_rfl) (by kernel_rfl) ?_
 repeat (first|(simp -implicitDefEqProofs only [go_sem,Nat.reduceAdd,Nat.reduceMul,Nat.reduceEqDiff,Nat.reduceLT,Nat.reduceLeDiff,reduceCtorEq])|(with_reducible exact Qaa _ _ (by kernel_rfl))|(with_reducible refine And.intro (Qaa _ _ (by kernel_rfl)) ?_))
 refine Qar mixed (fun i:{i:Nat // i≤l.length}=>St.of [(0,wsPV l),(2,.int .i64 t),(4,.bp 0 3 0 0),(7,.bs 7 1 0 (onL (blW x y z t) (l.take i.1)).length),(8,.int .i64 (i.1:Int))]
  [(0,{els:=[.agg [.int .i64 x,.int .i64 y,.int .i64 z]],esz:=3,ety:=26,fro:=0,live:=true,arr:=false}),(7,iB1 (onL (blW x y z t) (l.take i.1)))]) (fun i=>l.length-i.1) ⟨0,Nat.zero_le _⟩ ?_ ?_
 ·refine Qf8 7 7 1 3 rfl rfl rfl (by decide) [(0,0),(7,7)] rfl ?_ ?_
  ·simp [Qad,lkp,ren1,ren0,Qal,wsPV,onL,onI,List.take_zero]
  ·exact⟨⟨rfl,rfl,rfl,rfl,rfl,.inr ⟨rfl,_,_,rfl,rfl,rfl,rfl⟩⟩,⟨rfl,rfl,rfl,rfl,rfl,.inl ⟨rfl,rfl⟩⟩,trivial⟩
 rintro⟨i,hi⟩
 simp only
 by_cases hA:i<l.length
 case neg=>
  have hA':=ltF hA
  have et:l.take i=l:=List.take_of_length_le (by omega)
  rw [et]
  generalize onL (blW x y z t) l=M at*
  have ht:(M.map (PV.int .i64)).take M.length=M.map (PV.int .i64):=List.take_of_length_le (by simp)
  have hokf:=Qen M
  repeat (first|(simp -implicitDefEqProofs only [go_sem,Nat.reduceAdd,Nat.reduceMul,Nat.reduceEqDiff,Nat.reduceLT,Nat.reduceLeDiff,reduceIte,reduceCtorEq,hA',ht,hokf,List.length_map])|(with_reducible exact Qaa _ _ (by kernel_rfl))|(with_reducible refine And.intro (Qaa _ _ (by kernel_rfl)) ?_))
 have hA':=ltT hA
 have n0:=nnT i
 have hg:=Qie l i hA
 have hwk:=Qai (a:=i) (by omega)
 have hms:=Qwm (p:=blW x y z t) hA
 have hln:=Qt4 (blW x y z t) l i
 have hb:=Q9n l[i] x y z t
 generalize l[i]=w at*
 unfold wdPV at hb
 generalize hM2:onL (blW x y z t) (l.take (i+1))=M2 at*
 generalize onL (blW x y z t) (l.take i)=M at*
 have hokf:=Qen M
 have k1:((M.length+1)*8≤140737488355328)=True:=eq_true (by omega)
 have k2:(M.length+1≤maxLen)=True:=eq_true (by unfold maxLen;omega)
 cases hbl:blW x y z t w with
 |false=>
  rw [hbl]at hb hms
  have e:M2=M:=by rw [hms];rfl
  repeat (first|(simp -implicitDefEqProofs only [go_sem,Nat.reduceAdd,Nat.reduceMul,Nat.reduceEqDiff,Nat.reduceLT,Nat.reduceLeDiff,reduceCtorEq,hA',n0,hg,hwk,Int.toNat_natCast,List.length_map])|((with_reducible refine Qab (hb) ?_ ?_ ?_);(with_reducible rfl);rfl)|(with_reducible exact Qaa _ _ (by kernel_rfl))|(with_reducible refine And.intro (Qaa _ _ (by kernel_rfl)) ?_))
  refine⟨⟨i+1,hA⟩,by simp only;omega,Qaj (θ:=[(0,0),(7,7)]) rfl ?_ ?_⟩
  ·simp only [hM2,e]
   simp [Qad,lkp,ren1,ren0,Qal,wsPV]
  ·simp only [hM2,e]
   exact⟨⟨rfl,rfl,rfl,rfl,rfl,.inr ⟨rfl,_,_,rfl,rfl,rfl,rfl⟩⟩,⟨rfl,rfl,rfl,rfl,rfl,.inl ⟨rfl,rfl⟩⟩,trivial⟩
 |true=>
  rw [hbl]at hb hms
  have e:M2=M++[(i:Int)]:=by rw [hms];rfl
  repeat (first|(simp -implicitDefEqProofs only [go_sem,Nat.reduceAdd,Nat.reduceMul,Nat.reduceEqDiff,Nat.reduceLT,Nat.reduceLeDiff,reduceIte,reduceCtorEq,Nat.reduceBneDiff,hA',n0,hg,hwk,k1,k2,hokf,Int.toNat_natCast,List.length_map])|((with_reducible refine Qab (hb) ?_ ?_ ?_);(with_reducible rfl);rfl)|(with_reducible exact Qaa _ _ (by kernel_rfl))|(with_reducible refine And.intro (Qaa _ _ (by kernel_rfl)) ?_))
  refine⟨⟨i+1,hA⟩,by simp only;omega,Qaj (θ:=[(0,0),(7,603)]) rfl ?_ ?_⟩
  ·simp only [hM2,e]
   simp [Qad,lkp,ren1,ren0,Qal,wsPV]
  ·simp only [hM2,e]
   refine⟨⟨rfl,rfl,rfl,rfl,rfl,.inr ⟨rfl,_,_,rfl,rfl,rfl,rfl⟩⟩,⟨rfl,rfl,rfl,rfl,rfl,.inl ⟨rfl,?_⟩⟩,trivial⟩
   simp
end Go.Proofs.YtciddhkfbgkejaaGreatDoor

namespace Go.Proofs.YtciddhkfbgkejaaGreatDoor
open Go.Vl Go.RowKit Go.Dg
theorem Zmr (m:Nat):Qco Tryz.prog 54 [.int .u64 (m:Int)] [] (.fn 95 [] [.bp 0 1 0 0]) [(0,setB (m:Int))]:=by
 refine Qb7 (tb:=[]) 4 [.tmp 2] [0,1,2] mixed Tryz.func54 rfl (by kernel_rfl) (by kernel_rfl) (by kernel_rfl) (by kernel_rfl) (by rfl) ?_
 repeat (first|(simp -implicitDefEqProofs only [go_sem,Nat.reduceAdd,Nat.reduceMul,Nat.reduceEqDiff,Nat.reduceLT,Nat.reduceLeDiff,reduceCtorEq]))
 refine Qbl (.inl rfl) ?_
 simp -implicitDefEqProofs only [go_sem,Nat.reduceEqDiff,reduceCtorEq]
 refine Qaj (θ:=[(0,0)]) rfl ?_ ?_
 ·simp [Qad,lkp,ren1,ren0,Qal]
 ·exact⟨⟨rfl,rfl,rfl,rfl,rfl,.inr ⟨rfl,_,_,rfl,rfl,rfl,rfl⟩⟩,trivial⟩
def SW (g:Wd→Int) (l:List Wd) (m k:Nat):Int:=smW g (pick l ((Qbm m).take k))
theorem Qjs (g:Wd→Int) (l:List Wd) {m k:Nat} (h:k<(Qbm m).length):SW g l m (k+1)=SW g l m k+g (l.getD ((Qbm m).getD k 0) wd0):=by
 unfold SW
 have e:(Qbm m).take (k+1)=(Qbm m).take k++[(Qbm m).getD k 0]:=by
  rw [List.take_add_one,List.getElem?_eq_getElem h,List.getD_eq_getElem?_getD,List.getElem?_eq_getElem h];rfl
 rw [e]
 unfold pick
 rw [List.map_append,Qjq]
 simp [smW]
theorem Qx9 {g:Wd→Int} (hg:g=Wd.ux∨g=Wd.uy∨g=Wd.uz) {l:List Wd} {m:Nat} (hv:Qau l=true) (hb: ∀i∈Qbm m,i<l.length) (k:Nat): -40000≤SW g l m k∧SW g l m k≤40000:=by
 have h8:(Qbm m).length≤8:=List.length_filter_le _ _
 have h3:=Q1p g 5000 (pick l ((Qbm m).take k)) fun w hw=>by
  have:=Qgj ((Qba hv).1 w (Q89 (fun i hi=>hb i (List.mem_of_mem_take hi)) hw))
  rcases hg with rfl|rfl|rfl<;>omega
 have h4:(pick l ((Qbm m).take k)).length≤8:=by unfold pick;rw [List.length_map,List.length_take];omega
 unfold SW;omega
def suB (l:List Wd) (m k:Nat):List (Nat×Box):=[(1000000,{els:=[wsPV l],esz:=1,ety:=22,fro:=0,live:=true,arr:=false}),(1000001,{els:=[.agg [.int .i64 (SW Wd.ux l m k),.int .i64 (SW Wd.uy l m k),.int .i64 (SW Wd.uz l m k)]],esz:=3,ety:=26,fro:=0,live:=true,arr:=false})]
theorem Zpl (l:List Wd) (m k:Nat): ∀b∈ [1000000,1000001],(lkp (suB l m k) b).isSome=true:=by simp [suB,lkp]
set_option maxHeartbeats 4000000 in
theorem Zms (l:List Wd) (m:Nat) (hm:m<256) (hv:Qau l=true) (hb: ∀i∈Qbm m,i<l.length):
  Qag Tryz.prog 55 [.int .u64 (m:Int),wsPV l] (.agg [.int .i64 (smW Wd.ux (pick l (Qbm m))),.int .i64 (smW Wd.uy (pick l (Qbm m))),.int .i64 (smW Wd.uz (pick l (Qbm m)))]):=by
 have hi:=Zmr m
 have hY:=Q18 m hm
 have b1:=Qx9 (g:=Wd.ux) (.inl rfl) hv hb
 have b2:=Qx9 (g:=Wd.uy) (.inr (.inl rfl)) hv hb
 have b3:=Qx9 (g:=Wd.uz) (.inr (.inr rfl)) hv hb
 have hlen:(setO m).length=(Qbm m).length:=by simp [setO]
 have hmin:min (setO m).length ((Qbm m).length+1)=(Qbm m).length:=by rw [hlen];omega
 have eS: ∀g:Wd→Int,SW g l m (Qbm m).length=smW g (pick l (Qbm m)):=fun g=>by unfold SW;rw [List.take_length]
 have bl1:Nat.blt 1700 1000000=true:=rfl
 rw [←eS Wd.ux,←eS Wd.uy,←eS Wd.uz]

 refine Qac (tb:=[(101,[],[(0,1700)])]) 34 [.cell 4 26] [0,1,3,4,5,6,8,9] mixed Tryz.func55 rfl (by kernel_rfl) (by kernel_rfl) (by kernel_rfl) (by kernel_rfl) ?_
 repeat (first|(simp -implicitDefEqProofs only [go_sem,Nat.reduceAdd,Nat.reduceMul,Nat.reduceEqDiff,Nat.reduceLT,Nat.reduceLeDiff,reduceCtorEq,bl1])|((with_reducible refine Qbs (hi) ?_ ?_ ?_ ?_);(with_reducible rfl);rfl;rfl)|(with_reducible exact Qaa _ _ (by kernel_rfl))|(with_reducible refine And.intro (Qaa _ _ (by kernel_rfl)) ?_))
 refine Qq5 (c0:=1700) mixed hY rfl rfl rfl rfl _ rfl [(1000000,0),(1000001,1)] [1000000,1000001] rfl [(3,.bp 1000000 1 0 0),(4,.bp 1000001 3 0 0)] (suB l m) rfl rfl rfl rfl ?_ ?_ ?_ (Qbm m).length .normal (fun h=>by rw [hlen]at h;omega) (fun k _ _=>Zpl l m k) ?_ rfl ?_
  [(0,1000000),(1,1000001)] [(3,.bp 0 1 0 0),(4,.bp 1 3 0 0)] [(0,{els:=[wsPV l],esz:=1,ety:=22,fro:=0,live:=true,arr:=false}),(1,{els:=[.agg [.int .i64 (SW Wd.ux l m (Qbm m).length),.int .i64 (SW Wd.uy l m (Qbm m).length),.int .i64 (SW Wd.uz l m (Qbm m).length)]],esz:=3,ety:=26,fro:=0,live:=true,arr:=false})] rfl rfl ?_ ?_ rfl (fun _=> ?_) (fun h=>by rw [hlen]at h;omega)
 ·simp [Qad,lkp,ren1,ren0,Qal]
 ·simp only [suB]
  exact⟨⟨rfl,rfl,rfl,rfl,rfl,.inr ⟨rfl,_,_,rfl,rfl,rfl,rfl⟩⟩,⟨rfl,rfl,rfl,rfl,rfl,.inr ⟨rfl,_,_,rfl,rfl,rfl,rfl⟩⟩,trivial⟩
 ·simp [Qad,lkp,ren1,ren0,Qal,Qnr]
 ·intro k args h
  simp only [setO,List.getElem?_map,Option.map_eq_some_iff]at h
  obtain⟨x, -,rfl⟩:=h
  rfl
 ·rintro k args hka hk
  simp only [setO,List.getElem?_map,Option.map_eq_some_iff]at hka
  obtain⟨i,hx,rfl⟩:=hka
  obtain⟨hk2,e⟩:=List.getElem?_eq_some_iff.1 hx
  have hil:i<l.length:=hb i (by rw [←e];exact List.getElem_mem _)
  have hD:(Qbm m).getD k 0=i:=by rw [List.getD_eq_getElem?_getD,hx];rfl
  have s1:=Qjs Wd.ux l hk2
  have s2:=Qjs Wd.uy l hk2
  have s3:=Qjs Wd.uz l hk2
  have hwi:l.getD i wd0=l[i]:=by rw [List.getD_eq_getElem?_getD,List.getElem?_eq_getElem hil];rfl
  rw [hD,hwi]at s1 s2 s3
  have hg:=Qie l i hil
  have n0:=nnT i
  have w1:IntKind.i64.wrap (SW Wd.ux l m k+l[i].ux)=SW Wd.ux l m (k+1):=by rw [←s1];have:=b1 (k+1);exact Qah (by omega) (by omega)
  have w2:IntKind.i64.wrap (SW Wd.uy l m k+l[i].uy)=SW Wd.uy l m (k+1):=by rw [←s2];have:=b2 (k+1);exact Qah (by omega) (by omega)
  have w3:IntKind.i64.wrap (SW Wd.uz l m k+l[i].uz)=SW Wd.uz l m (k+1):=by rw [←s3];have:=b3 (k+1);exact Qah (by omega) (by omega)
  simp only [suB]
  generalize l[i]=w at*
  repeat (first|(simp -implicitDefEqProofs only [go_sem,Nat.reduceAdd,Nat.reduceMul,Nat.reduceEqDiff,Nat.reduceLT,Nat.reduceLeDiff,reduceCtorEq,pvars,List.toList_toArray])|(with_reducible exact Qaa _ _ (by kernel_rfl))|(with_reducible refine And.intro (Qaa _ _ (by kernel_rfl)) ?_))
  refine⟨by simp [lkp],?_⟩
  repeat (first|(simp -implicitDefEqProofs only [go_sem,Nat.reduceAdd,Nat.reduceMul,Nat.reduceEqDiff,Nat.reduceLT,Nat.reduceLeDiff,reduceCtorEq,hg,n0,w1,w2,w3,Int.toNat_natCast,List.length_map])|(with_reducible exact Qaa _ _ (by kernel_rfl))|(with_reducible refine And.intro (Qaa _ _ (by kernel_rfl)) ?_))
  refine⟨by omega,?_⟩
  refine Qaj (θ:=[(1000000,1000000),(1000001,1000001)]) rfl ?_ ?_
  ·simp [Qad,lkp,ren1,ren0,Qal]
  ·simp only [suB]
   exact⟨⟨rfl,rfl,rfl,rfl,rfl,.inr ⟨rfl,_,_,rfl,rfl,rfl,rfl⟩⟩,⟨rfl,rfl,rfl,rfl,rfl,.inr ⟨rfl,_,_,rfl,rfl,rfl,rfl⟩⟩,trivial⟩
 ·simp [Qad,lkp,ren1,ren0,Qal]
 ·rw [hmin]
  simp only [suB]
  exact⟨⟨rfl,rfl,rfl,rfl,rfl,.inr ⟨rfl,_,_,rfl,rfl,rfl,rfl⟩⟩,⟨rfl,rfl,rfl,rfl,rfl,.inr ⟨rfl,_,_,rfl,rfl,rfl,rfl⟩⟩,trivial⟩
 ·repeat (first|(simp -implicitDefEqProofs only [go_sem,Nat.reduceAdd,Nat.reduceMul,Nat.reduceEqDiff,Nat.reduceLT,Nat.reduceLeDiff,reduceCtorEq])|(with_reducible exact Qaa _ _ (by kernel_rfl))|(with_reducible refine And.intro (Qaa _ _ (by kernel_rfl)) ?_))
theorem Q2a (p:Wd→Bool) {l:List Wd} (h:l.length≤8): ∀i∈Qbm (mask p l),i<l.length:=fun i hi=>by
 rw [Go.Dg.bits_mask p l h]at hi
 have:=Q1n p l 0 i hi;omega
def Qh0 (l:List Wd) (x y z t:Int):PV:= .agg [.int .i64 (atW Wd.ux l x y z t),.int .i64 (atW Wd.uy l x y z t),.int .i64 (atW Wd.uz l x y z t)]
theorem Qt5 (l:List Wd) (x y z t:Int) (hv:Qau l=true):Qag Tryz.prog 55 [.int .u64 ((mask (blW x y z t) l:Nat):Int),wsPV l] (Qh0 l x y z t):=by
 have h8:=(Qba hv).2
 have h:=Zms l (mask (blW x y z t) l) (Qv9 _ h8) hv (Q2a _ h8)
 rw [Go.Dg.bits_mask _ _ h8,Q1o]at h
 exact h
theorem Qru (l:List Wd) (x y z t:Int) (hl:l.length≤maxLen):Qag Tryz.prog 51 [wsPV l,.agg [.int .i64 x,.int .i64 y,.int .i64 z],.int .i64 t] (.bool (Qau l&&(ptB x y z&&(decide (0≤t)&&decide (t≤3600000))))):=by
 have h1:=Qih l hl
 have h2:=Qpj x y z
 cases hv:Qau l with
 |false=>
  rw [hv]at h1
  refine Qac (tb:=[]) 21 [.tmp 6] [0,1,2,4,6] mixed Tryz.func51 rfl (by kernel_rfl) (by kernel_rfl) (by kernel_rfl) (by kernel_rfl) ?_
  repeat (first|(simp -implicitDefEqProofs only [go_sem,Nat.reduceAdd,Nat.reduceMul,Nat.reduceEqDiff,Nat.reduceLT,Nat.reduceLeDiff,reduceCtorEq,Bool.false_and])|((with_reducible refine Qab (h1) ?_ ?_ ?_);(with_reducible rfl);rfl))
 |true=>
 cases hp:ptB x y z with
 |false=>
  rw [hv]at h1
  rw [hp]at h2
  refine Qac (tb:=[]) 21 [.tmp 6] [0,1,2,4,6] mixed Tryz.func51 rfl (by kernel_rfl) (by kernel_rfl) (by kernel_rfl) (by kernel_rfl) ?_
  repeat (first|(simp -implicitDefEqProofs only [go_sem,Nat.reduceAdd,Nat.reduceMul,Nat.reduceEqDiff,Nat.reduceLT,Nat.reduceLeDiff,reduceCtorEq,Bool.false_and,Bool.true_and])|((with_reducible refine Qab (h1) ?_ ?_ ?_);(with_reducible rfl);rfl)|((with_reducible refine Qab (h2) ?_ ?_ ?_);(with_reducible rfl);rfl))
 |true=>
 rw [hv]at h1
 rw [hp]at h2
 by_cases c:0≤t
 ·have c':=eq_true c
  rw [decide_eq_true c]
  refine Qac (tb:=[]) 21 [.tmp 6] [0,1,2,4,6] mixed Tryz.func51 rfl (by kernel_rfl) (by kernel_rfl) (by kernel_rfl) (by kernel_rfl) ?_
  repeat (first|(simp -implicitDefEqProofs only [go_sem,Nat.reduceAdd,Nat.reduceMul,Nat.reduceEqDiff,Nat.reduceLT,Nat.reduceLeDiff,reduceCtorEq,Bool.true_and,c'])|((with_reducible refine Qab (h1) ?_ ?_ ?_);(with_reducible rfl);rfl)|((with_reducible refine Qab (h2) ?_ ?_ ?_);(with_reducible rfl);rfl))
 ·have c':=eq_false c
  rw [decide_eq_false c]
  refine Qac (tb:=[]) 21 [.tmp 6] [0,1,2,4,6] mixed Tryz.func51 rfl (by kernel_rfl) (by kernel_rfl) (by kernel_rfl) (by kernel_rfl) ?_
  repeat (first|(simp -implicitDefEqProofs only [go_sem,Nat.reduceAdd,Nat.reduceMul,Nat.reduceEqDiff,Nat.reduceLT,Nat.reduceLeDiff,reduceCtorEq,Bool.true_and,Bool.false_and,c',decide_false])|((with_reducible refine Qab (h1) ?_ ?_ ?_);(with_reducible rfl);rfl)|((with_reducible refine Qab (h2) ?_ ?_ ?_);(with_reducible rfl);rfl))
theorem Q2b (l:List Wd) (x y z t:Int) (hl:l.length≤maxLen):Qag Tryz.prog 16 [wsPV l,.agg [.int .i64 x,.int .i64 y,.int .i64 z],.int .i64 t]
  (if(Qau l&&(ptB x y z&&(decide (0≤t)&&decide (t≤3600000))))=true then .tup [Qh0 l x y z t,.int .i64 0]else .tup [.agg [.int .i64 0,.int .i64 0,.int .i64 0],.int .i64 2]):=by
 have h1:=Qru l x y z t hl
 cases hc:(Qau l&&(ptB x y z&&(decide (0≤t)&&decide (t≤3600000))))with
 |false=>
  rw [hc]at h1
  refine Qac (tb:=[]) 20 [.cell 6 26,.tmp 7] [0,1,2,4,6,7,12] mixed Tryz.func16 rfl (by kernel_rfl) (by kernel_rfl) (by kernel_rfl) (by kernel_rfl) ?_
  repeat (first|(simp -implicitDefEqProofs only [go_sem,Nat.reduceAdd,Nat.reduceMul,Nat.reduceEqDiff,Nat.reduceLT,Nat.reduceLeDiff,reduceCtorEq,Bool.not_false,Bool.false_eq_true])|((with_reducible refine Qab (h1) ?_ ?_ ?_);(with_reducible rfl);rfl))
 |true=>
  rw [hc]at h1
  simp only [Bool.and_eq_true]at hc
  have h2:=Qgl l x y z t (Qba hc.1).2
  have h3:=Qt5 l x y z t hc.1
  unfold Qh0 at h3 ⊢
  generalize mask (blW x y z t) l=m at*
  refine Qac (tb:=[]) 20 [.cell 6 26,.tmp 7] [0,1,2,4,6,7,12] mixed Tryz.func16 rfl (by kernel_rfl) (by kernel_rfl) (by kernel_rfl) (by kernel_rfl) ?_
  repeat (first|(simp -implicitDefEqProofs only [go_sem,Nat.reduceAdd,Nat.reduceMul,Nat.reduceEqDiff,Nat.reduceLT,Nat.reduceLeDiff,reduceCtorEq,Bool.not_true])|((with_reducible refine Qab (h1) ?_ ?_ ?_);(with_reducible rfl);rfl)|((with_reducible refine Qab (h2) ?_ ?_ ?_);(with_reducible rfl);rfl)|((with_reducible refine Qab (h3) ?_ ?_ ?_);(with_reducible rfl);rfl))
end Go.Proofs.YtciddhkfbgkejaaGreatDoor

namespace Go.Vl
open Go.RowKit
def Box.renD (θ:List (Nat×Nat)) (B' B:Box):Prop:=
 Box.renames θ B' B∨(B'.esz=B.esz∧B'.ety=B.ety∧B'.fro=B.fro∧B'.live=B.live∧B'.arr=B.arr∧B'.arr=false∧Qsh θ B'.els=some B.els∧(B'.els.all fun v=>Qa8 v.cells)=true)
theorem Box.renD.parts {θ:List (Nat×Nat)} {B' B:Box} (h:Box.renD θ B' B):B'.esz=B.esz∧B'.ety=B.ety∧B'.fro=B.fro∧B'.live=B.live∧B'.arr=B.arr∧
  ((B'.arr=true∧B.els=B'.els)∨(B'.arr=false∧ ∃v v',B'.els=[v']∧B.els=[v]∧ren1 θ v'=some v∧Qa8 v'.cells=true)∨(B'.arr=false∧Qsh θ B'.els=some B.els∧(B'.els.all fun v=>Qa8 v.cells)=true)):=by
 rcases h with⟨a,b,c,d,e,f|f⟩|⟨a,b,c,d,e,f,g,h⟩
 ·exact⟨a,b,c,d,e,.inl f⟩
 ·exact⟨a,b,c,d,e,.inr (.inl f)⟩
 ·exact⟨a,b,c,d,e,.inr (.inr ⟨f,g,h⟩)⟩
end Go.Vl

namespace Go.Vl
open Go.RowKit
theorem Q8n {vs:List (Nat×PV)} {bs:List (Nat×Box)} {o:List (List PV)} {y:Yl} (b:Nat) {B:Box} (hB:lkp bs b=some B) (hn:B.els=[]):Le (St.ofG vs bs o y) (St.ofG vs ((b,{B with arr:=true})::bs) o y):=by
 rintro C a w ⟨ρ,im,h⟩
 refine⟨ρ,im,h.root,h.nt,h.dfr,h.imc,h.var,?_,?_,?_⟩
 ·intro b'
  by_cases e:b'=b
  ·subst e
   have:=h.rho b'
   simp only [Qex]at this ⊢
   rw [this,hB];simp [lkp]
  ·have:=h.rho b'
   simp only [Qex]at this ⊢
   rw [this];simp [lkp,e]
 ·intro b' x B' hx hB'
  by_cases e:b'=b
  ·subst e
   have hB2:{B with arr:=true}=B':=by simpa [St.ofG,lkp]using hB'
   subst hB2
   have hb:=h.box b' x B hx (by simpa [St.ofG]using hB)
   cases x with
   |none=>obtain⟨z1,z2,z3,z4⟩:=hb;exact⟨z1,rfl,z3,z4⟩
   |some g=>
    obtain⟨k1,k2,k3,k4,cur,us,rest,k5,k6,k7,k8,k9,k10,k11⟩:=hb
    refine⟨k1,k2,k3,k4,cur,us,rest,k5,k6,k7,fun _=> ?_,k9,k10,k11⟩
    simp only [hn,List.flatMap_nil]at k7 ⊢
    cases k7.nil_inv
    exact .nil
  ·exact h.box b' x B' hx (by simpa [St.ofG,lkp,e]using hB')
 ·have key: ∀b' B',(St.ofG vs ((b,{B with arr:=true})::bs) o y).box b'=some B'→ ∃B0,(St.ofG vs bs o y).box b'=some B0∧B0.live=B'.live:=fun b' B' e=>by
   by_cases q:b'=b
   ·subst q
    have:{B with arr:=true}=B':=by simpa [St.ofG,lkp]using e
    subst this;exact⟨B,by simpa [St.ofG]using hB,rfl⟩
   ·exact⟨B',by simpa [St.ofG,lkp,q]using e,rfl⟩
  intro b1 b2 g B1 B2 g1 g2 e1 e2 l1 l2
  obtain⟨C1,x1,y1⟩:=key _ _ e1
  obtain⟨C2,x2,y2⟩:=key _ _ e2
  exact h.inj b1 b2 g C1 C2 g1 g2 x1 x2 (y1.trans l1) (y2.trans l2)
end Go.Vl

namespace Go.Proofs.YtciddhkfbgkejaaGreatDoor
open Go.Vl Go.RowKit Go.Dg
def bi (m:Nat):List Int:=(Qbm m).map fun(i:Nat)=>(i:Int)
theorem Qwn {m k:Nat} {args:List PV} (h:(setO m)[k]? =some args): ∃x:Int,args=[.int .i64 x]∧ ∃h:k<(bi m).length,(bi m)[k]=x:=by
 simp only [setO,List.getElem?_map,Option.map_eq_some_iff]at h
 obtain⟨i,hx,rfl⟩:=h
 obtain⟨hk,e⟩:=List.getElem?_eq_some_iff.1 hx
 exact⟨(i:Int),rfl,by unfold bi;rw [List.length_map];exact hk,by unfold bi;rw [List.getElem_map,e]⟩
theorem Qwo (m:Nat):(setO m).length=(bi m).length:=by simp [setO,bi]
theorem bi_8 (m:Nat):(bi m).length≤8:=by
 have:(Qbm m).length≤8:=List.length_filter_le _ _
 unfold bi;rw [List.length_map];exact this
abbrev idxF:PV:= .fn 95 [] [.bp 1000000 1 0 0]
def Q2c:Box:={els:=[],esz:=1,ety:=94,fro:=0,live:=false,arr:=true}
attribute [go_sem] Q2c
def clB (m:Nat):Nat→List (Nat×Box)
 |0=>[(1000001,{els:=[.nilS],esz:=1,ety:=27,fro:=0,live:=true,arr:=false})]
 |k+1=>[(1000001,{els:=[.bs 7 1 0 (k+1)],esz:=1,ety:=27,fro:=0,live:=true,arr:=false}),(7,iB1 ((bi m).take (k+1)))]
theorem Zmt (m k:Nat): ∀b∈ [1000001],(lkp (clB m k) b).isSome=true:=by
 cases k<;>simp [clB,lkp]
set_option maxHeartbeats 2000000 in
theorem Q2d (m:Nat) (hm:m<256) (h0:bi m=[]):Qco Tryz.prog 94 [.nilS,idxF] [(1000000,setB (m:Int))] .nilS [(1000000,Q2c)]:=by
 have hY:=Q18 m hm
 have hlen:=Qwo m
 rw [h0]at hlen
 refine Qb7 (tb:=[]) 13 [.tmp 4] [0,1,2,4,5,6,7] mixed Tryz.func94 rfl (by kernel_rfl) (by kernel_rfl) (by kernel_rfl) (by kernel_rfl) (by rfl) ?_
 repeat (first|(simp -implicitDefEqProofs only [go_sem,Nat.reduceAdd,Nat.reduceMul,Nat.reduceEqDiff,Nat.reduceLT,Nat.reduceLeDiff,reduceCtorEq]))
 refine Qq5 (c0:=1000000) mixed hY rfl rfl rfl rfl _ rfl [(1000001,0)] [1000001] rfl [(2,.bp 1000001 1 0 0)] (clB m) rfl rfl rfl rfl ?_ ?_ ?_ 0 .normal (fun h=>by rw [hlen]at h;simp at h) (fun k _ _=>Zmt m k) (fun k args h=> ?_) rfl (fun k args h=> ?_)
  [(0,1000001)] [(2,.bp 0 1 0 0)] [(0,{els:=[.nilS],esz:=1,ety:=27,fro:=0,live:=true,arr:=false})] rfl rfl ?_ ?_ rfl (fun _=> ?_) (fun h=>by rw [hlen]at h;simp at h)
 ·simp [Qad,lkp,ren1,ren0,Qal]
 ·exact⟨⟨rfl,rfl,rfl,rfl,rfl,.inr ⟨rfl,_,_,rfl,rfl,rfl,rfl⟩⟩,trivial⟩
 ·simp [Qad,lkp,ren1,ren0,Qal,Qnr]
 ·obtain⟨_,_,h,_⟩:=Qwn h;rw [h0]at h;simp at h
 ·obtain⟨_,_,h,_⟩:=Qwn h;rw [h0]at h;simp at h
 ·simp [Qad,lkp,ren1,ren0,Qal]
 ·rw [hlen]
  exact⟨⟨rfl,rfl,rfl,rfl,rfl,.inr ⟨rfl,_,_,rfl,rfl,rfl,rfl⟩⟩,trivial⟩
 ·repeat (first|(simp -implicitDefEqProofs only [go_sem,Nat.reduceAdd,Nat.reduceMul,Nat.reduceEqDiff,Nat.reduceLT,Nat.reduceLeDiff,reduceCtorEq]))
  refine Qbl (.inl rfl) ?_
  simp -implicitDefEqProofs only [go_sem,Nat.reduceEqDiff]
  refine Le.trans (Q8n 1000000 rfl rfl) (Qaj (θ:=[(1000000,1000000)]) rfl ?_ ?_)
  ·simp [Qad,lkp,ren1,ren0,Qal]
  ·exact⟨⟨rfl,rfl,rfl,rfl,rfl,.inl ⟨rfl,rfl⟩⟩,trivial⟩
theorem Zhi {m k:Nat} (h:k<(bi m).length):(bi m).take (k+1)=(bi m).take k++[(bi m)[k]]:=Qa1 _ k h
set_option maxHeartbeats 4000000 in
set_option maxRecDepth 100000 in
theorem Q9o (m:Nat) (hm:m<256) (h0:bi m≠ []):Qco Tryz.prog 94 [.nilS,idxF] [(1000000,setB (m:Int))] (.bs 7 1 0 (bi m).length) [(1000000,Q2c),(7,iB1 (bi m))]:=by
 have hY:=Q18 m hm
 have hlen:=Qwo m
 have h8:=bi_8 m
 obtain⟨n,hn⟩: ∃n,(bi m).length=n+1:=⟨(bi m).length-1,by have:=List.length_pos_iff.2 h0;omega⟩
 have htk:(bi m).take (n+1)=bi m:=List.take_of_length_le (by omega)
 rw [hn]at hlen
 have hmin:min (setO m).length (n+1+1)=n+1:=by rw [hlen];omega
 rw [hn]
 refine Qb7 (tb:=[]) 13 [.tmp 4] [0,1,2,4,5,6,7] mixed Tryz.func94 rfl (by kernel_rfl) (by kernel_rfl) (by kernel_rfl) (by kernel_rfl) (by rfl) ?_
 repeat (first|(simp -implicitDefEqProofs only [go_sem,Nat.reduceAdd,Nat.reduceMul,Nat.reduceEqDiff,Nat.reduceLT,Nat.reduceLeDiff,reduceCtorEq]))
 refine Qq5 (c0:=1000000) mixed hY rfl rfl rfl rfl _ rfl [(1000001,0)] [1000001] rfl [(2,.bp 1000001 1 0 0)] (clB m) rfl rfl rfl rfl ?_ ?_ ?_ (n+1) .normal (fun h=>by rw [hlen]at h;omega) (fun k _ _=>Zmt m k) (fun k args h=> ?_) rfl (fun k args h hk=> ?_)
  [(0,1000001),(7,7)] [(2,.bp 0 1 0 0)] [(0,{els:=[.bs 7 1 0 (n+1)],esz:=1,ety:=27,fro:=0,live:=true,arr:=false}),(7,iB1 (bi m))] rfl rfl ?_ ?_ rfl (fun _=> ?_) (fun h=>by rw [hlen]at h;omega)
 ·simp [Qad,lkp,ren1,ren0,Qal]
 ·exact⟨⟨rfl,rfl,rfl,rfl,rfl,.inr ⟨rfl,_,_,rfl,rfl,rfl,rfl⟩⟩,trivial⟩
 ·simp [Qad,lkp,ren1,ren0,Qal,Qnr]
 ·obtain⟨_,rfl,_⟩:=Qwn h;rfl
 ·obtain⟨x,rfl,hkl,hx⟩:=Qwn h
  have hs:=Zhi hkl
  rw [hx]at hs
  cases k with
  |zero=>
   have e0:(bi m).take 0=[]:=rfl
   rw [e0,List.nil_append]at hs
   simp only [clB]
   repeat (first|(simp -implicitDefEqProofs only [go_sem,Nat.reduceAdd,Nat.reduceMul,Nat.reduceEqDiff,Nat.reduceLT,Nat.reduceLeDiff,reduceIte,reduceCtorEq,pvars,List.toList_toArray]))
   refine⟨by simp [lkp],?_⟩
   have c0:(1≤maxLen)=True:=eq_true (by unfold maxLen;omega)
   repeat (first|(simp -implicitDefEqProofs only [go_sem,Nat.reduceAdd,Nat.reduceEqDiff,reduceCtorEq,c0]))
   refine⟨by omega,?_⟩
   refine Qaj (θ:=[(1000001,1000001),(7,303)]) rfl ?_ ?_
   ·simp [Qad,lkp,ren1,ren0,Qal]
   ·simp only [clB,hs]
    exact⟨⟨rfl,rfl,rfl,rfl,rfl,.inr ⟨rfl,_,_,rfl,rfl,rfl,rfl⟩⟩,⟨rfl,rfl,rfl,rfl,rfl,.inl ⟨rfl,rfl⟩⟩,trivial⟩
  |succ k=>
   simp only [clB]
   have b1:((bi m).take (k+1)).length=k+1:=by simp;omega
   generalize hT:(bi m).take (k+1)=T at*
   have b2:=Qen T
   have c1:((k+1+1)*8≤140737488355328)=True:=eq_true (by omega)
   have c2:(k+1+1≤maxLen)=True:=eq_true (by unfold maxLen;omega)
   repeat (first|(simp -implicitDefEqProofs only [go_sem,Nat.reduceAdd,Nat.reduceMul,Nat.reduceEqDiff,Nat.reduceLT,Nat.reduceLeDiff,reduceIte,reduceCtorEq,Nat.reduceBneDiff,pvars,List.toList_toArray]))
   refine⟨by simp [lkp],?_⟩
   repeat (first|(simp -implicitDefEqProofs only [go_sem,Nat.reduceAdd,Nat.reduceEqDiff,reduceCtorEq,b1,b2,c1,c2,List.length_map]))
   refine⟨by omega,?_⟩
   refine Qaj (θ:=[(1000001,1000001),(7,303)]) rfl ?_ ?_
   ·simp [Qad,lkp,ren1,ren0,Qal]
   ·simp only [clB,hs]
    refine⟨⟨rfl,rfl,rfl,rfl,rfl,.inr ⟨rfl,_,_,rfl,rfl,rfl,rfl⟩⟩,⟨rfl,rfl,rfl,rfl,rfl,.inl ⟨rfl,?_⟩⟩,trivial⟩
    simp
 ·simp [Qad,lkp,ren1,ren0,Qal]
 ·rw [hmin]
  simp only [clB]
  rw [htk]
  exact⟨⟨rfl,rfl,rfl,rfl,rfl,.inr ⟨rfl,_,_,rfl,rfl,rfl,rfl⟩⟩,⟨rfl,rfl,rfl,rfl,rfl,.inl ⟨rfl,rfl⟩⟩,trivial⟩
 ·repeat (first|(simp -implicitDefEqProofs only [go_sem,Nat.reduceAdd,Nat.reduceMul,Nat.reduceEqDiff,Nat.reduceLT,Nat.reduceLeDiff,reduceCtorEq]))
  refine Qbl (.inl rfl) ?_
  simp -implicitDefEqProofs only [go_sem,Nat.reduceEqDiff]
  refine Le.trans (Q8n 1000000 rfl rfl) (Qaj (θ:=[(1000000,1000000),(7,7)]) rfl ?_ ?_)
  ·simp [Qad,lkp,ren1,ren0,Qal]
  ·exact⟨⟨rfl,rfl,rfl,rfl,rfl,.inl ⟨rfl,rfl⟩⟩,⟨rfl,rfl,rfl,rfl,rfl,.inl ⟨rfl,rfl⟩⟩,trivial⟩
theorem Qya (m:Nat) (hm:m<256) (h0:bi m=[]):Qco Tryz.prog 52 [idxF] [(1000000,setB (m:Int))] .nilS [(1000000,Q2c)]:=by
 have h:=Q2d m hm h0
 unfold idxF at h

 refine Qb7 (tb:=[(101,[(1000000,1000000)],[])]) 5 [.tmp 2] [0,2] mixed Tryz.func52 rfl (by kernel_rfl) (by kernel_rfl) (by kernel_rfl) (by kernel_rfl) (by rfl) ?_
 repeat (first|(simp -implicitDefEqProofs only [go_sem,Nat.reduceAdd,Nat.reduceMul,Nat.reduceEqDiff,Nat.reduceLT,Nat.reduceLeDiff,reduceCtorEq])|((with_reducible refine Qbs (h) ?_ ?_ ?_ ?_);(with_reducible rfl);rfl;rfl))
 refine Qbl (.inl rfl) ?_
 simp -implicitDefEqProofs only [go_sem,reduceCtorEq]
 refine Qaj (θ:=[(1000000,1000000)]) rfl ?_ ?_
 ·simp [Qad,lkp,ren1,ren0,Qal]
 ·exact⟨⟨rfl,rfl,rfl,rfl,rfl,.inl ⟨rfl,rfl⟩⟩,trivial⟩
theorem Q2e (m:Nat) (hm:m<256) (h0:bi m≠ []):Qco Tryz.prog 52 [idxF] [(1000000,setB (m:Int))] (.bs 7 1 0 (bi m).length) [(1000000,Q2c),(7,iB1 (bi m))]:=by
 have h:=Q9o m hm h0
 unfold idxF at h
 have bl0:Nat.blt 700 1000000=true:=rfl

 refine Qb7 (tb:=[(101,[(1000000,1000000)],[(7,700)])]) 5 [.tmp 2] [0,2] mixed Tryz.func52 rfl (by kernel_rfl) (by kernel_rfl) (by kernel_rfl) (by kernel_rfl) (by rfl) ?_
 repeat (first|(simp -implicitDefEqProofs only [go_sem,Nat.reduceAdd,Nat.reduceMul,Nat.reduceEqDiff,Nat.reduceLT,Nat.reduceLeDiff,reduceCtorEq,bl0])|((with_reducible refine Qbs (h) ?_ ?_ ?_ ?_);(with_reducible rfl);rfl;rfl))
 refine Qbl (.inl rfl) ?_
 simp -implicitDefEqProofs only [go_sem,reduceCtorEq]
 refine Qaj (θ:=[(1000000,1000000),(7,700)]) rfl ?_ ?_
 ·simp [Qad,lkp,ren1,ren0,Qal]
 ·exact⟨⟨rfl,rfl,rfl,rfl,rfl,.inl ⟨rfl,rfl⟩⟩,⟨rfl,rfl,rfl,rfl,rfl,.inl ⟨rfl,rfl⟩⟩,trivial⟩
theorem Zhj (p:Wd→Bool) {l:List Wd} (h:l.length≤8):bi (mask p l)=onL p l:=by unfold bi onL;rw [Go.Dg.bits_mask p l h]
theorem Qob (l:List Wd) (x y z t:Int) (hl:l.length≤maxLen):Qag Tryz.prog 15 [wsPV l,.agg [.int .i64 x,.int .i64 y,.int .i64 z],.int .i64 t]
  (if(Qau l&&(ptB x y z&&(decide (0≤t)&&decide (t≤3600000))))=true then .tup [.slc ((onL (blW x y z t) l).map (PV.int .i64)),.int .i64 0]else .tup [.slc [],.int .i64 2]):=by
 have h1:=Qru l x y z t hl
 cases hc:(Qau l&&(ptB x y z&&(decide (0≤t)&&decide (t≤3600000))))with
 |false=>
  rw [hc]at h1
  refine Qac (tb:=[]) 19 [.tmp 6,.tmp 7] [0,1,2,4,6,7,12] mixed Tryz.func15 rfl (by kernel_rfl) (by kernel_rfl) (by kernel_rfl) (by kernel_rfl) ?_
  repeat (first|(simp -implicitDefEqProofs only [go_sem,Nat.reduceAdd,Nat.reduceMul,Nat.reduceEqDiff,Nat.reduceLT,Nat.reduceLeDiff,reduceCtorEq,Bool.not_false,Bool.false_eq_true])|((with_reducible refine Qab (h1) ?_ ?_ ?_);(with_reducible rfl);rfl))
 |true=>
  rw [hc]at h1
  simp only [Bool.and_eq_true]at hc
  have h8:=(Qba hc.1).2
  have h2:=Qgl l x y z t h8
  have hm:=Qv9 (blW x y z t) h8
  rw [←Zhj _ h8]
  generalize mask (blW x y z t) l=m at*
  have h3:=Zmr m
  have bl1:Nat.blt 1700 1000000=true:=rfl
  have bl2:Nat.blt 1701 1000000=true:=rfl
  by_cases h0:bi m=[]
  ·have h4:=Qya m hm h0
   unfold idxF at h4
   rw [h0]

   refine Qac (tb:=[(304,[],[(0,1700)]),(305,[(1000000,1700)],[])]) 19 [.tmp 6,.tmp 7] [0,1,2,4,6,7,12] mixed Tryz.func15 rfl (by kernel_rfl) (by kernel_rfl) (by kernel_rfl) (by kernel_rfl) ?_
   repeat (first|(simp -implicitDefEqProofs only [go_sem,Nat.reduceAdd,Nat.reduceMul,Nat.reduceEqDiff,Nat.reduceLT,Nat.reduceLeDiff,reduceCtorEq,Bool.not_true,bl1,bl2])|((with_reducible refine Qab (h1) ?_ ?_ ?_);(with_reducible rfl);rfl)|((with_reducible refine Qab (h2) ?_ ?_ ?_);(with_reducible rfl);rfl)|((with_reducible refine Qbs (h3) ?_ ?_ ?_ ?_);(with_reducible rfl);rfl;rfl)|((with_reducible refine Qbs (h4) ?_ ?_ ?_ ?_);(with_reducible rfl);rfl;rfl))
  ·have h4:=Q2e m hm h0
   unfold idxF at h4
   have ht:((bi m).map (PV.int .i64)).take (bi m).length=(bi m).map (PV.int .i64):=List.take_of_length_le (by simp)
   have hk:=Qen (bi m)
   generalize bi m=T at*

   refine Qac (tb:=[(304,[],[(0,1700)]),(305,[(1000000,1700)],[(7,1701)])]) 19 [.tmp 6,.tmp 7] [0,1,2,4,6,7,12] mixed Tryz.func15 rfl (by kernel_rfl) (by kernel_rfl) (by kernel_rfl) (by kernel_rfl) ?_
   repeat (first|(simp -implicitDefEqProofs only [go_sem,Nat.reduceAdd,Nat.reduceMul,Nat.reduceEqDiff,Nat.reduceLT,Nat.reduceLeDiff,reduceIte,reduceCtorEq,Bool.not_true,bl1,bl2,ht,hk,List.length_map])|((with_reducible refine Qab (h1) ?_ ?_ ?_);(with_reducible rfl);rfl)|((with_reducible refine Qab (h2) ?_ ?_ ?_);(with_reducible rfl);rfl)|((with_reducible refine Qbs (h3) ?_ ?_ ?_ ?_);(with_reducible rfl);rfl;rfl)|((with_reducible refine Qbs (h4) ?_ ?_ ?_ ?_);(with_reducible rfl);rfl;rfl))
end Go.Proofs.YtciddhkfbgkejaaGreatDoor

namespace Go.Dg
theorem Qg6 {d:Int} {D:Nat} (h:d.natAbs<2^D) (k:Nat):(d^k).natAbs<2^(D*k+1):=by
 rw [Int.natAbs_pow]
 have h1:d.natAbs^k≤(2^D)^k:=Nat.pow_le_pow_left (Nat.le_of_lt h) k
 rw [←Nat.pow_mul]at h1
 rw [Nat.pow_succ]
 have:=Nat.pow_pos (n:=D*k) (show 0<2 by decide)
 omega
end Go.Dg

namespace Go.Dg

structure Sg where
  f:Int
  t:Int
  o:Int
  x:List Int
  y:List Int
  z:List Int

/-- The weight of a coefficient in a control value,times 60. -/
def cw (n j k:Nat):Nat:=60/bin n k*bin j k
def ctl (c:List Int) (j:Nat):Int:=sm (fun k=>c.getD k 0*(cw (c.length-1) j k:Int)) (j+1)
/-- The first j control values are within the bounds. -/
def Qc2 (c:List Int) (o:Int) (j:Nat):Bool:=(List.range j).all fun j=>decide (((ctl c j).natAbs:Int)≤62914560*o)
def Qku (c:List Int):Bool:=decide (1≤c.length)&&(decide (c.length≤6)&&(decide (c.length≤1)|| !(c.getD (c.length-1) 0==0)))
def axOK (c:List Int) (o:Int):Bool:=Qku c&&Qc2 c o c.length
def gcdL (g:Nat) (c:List Int):Nat:=c.foldl (fun g x=>Nat.gcd g x.natAbs) g
def Sg.ax (s:Sg):List (List Int):=[s.x,s.y,s.z]
def rngS (s:Sg):Bool:=decide (0≤s.f)&&(decide (s.f<s.t)&&(decide (s.t≤3600000)&&(decide (1≤s.o)&&decide (s.o≤4294967296))))
def Qa4 (s:Sg):Bool:=rngS s&&((s.ax.all fun c=>axOK c s.o)&&(s.ax.foldl gcdL s.o.natAbs==1))

theorem Qfc (g:Nat) (c:List Int) (x:Int):gcdL g (c++[x])=Nat.gcd (gcdL g c) x.natAbs:=by simp [gcdL]
theorem Qgi {g:Nat} (c:List Int) {K:Nat} (hg:g<K) (hc: ∀x∈c,x.natAbs<K):gcdL g c<K:=by
  induction c generalizing g with
  |nil=>exact hg
  |cons x c ih=>
    refine ih (g:=Nat.gcd g x.natAbs) ?_ fun y hy=>hc y (by simp [hy])
    rcases Nat.eq_zero_or_pos g with h|h
    · subst h;rw [Nat.gcd_zero_left];exact hc x (by simp)
    · exact Nat.lt_of_le_of_lt (Nat.le_of_dvd h (Nat.gcd_dvd_left _ _)) hg
theorem Qfd (c:List Int) (o:Int) (j:Nat):Qc2 c o (j+1)=(Qc2 c o j&&decide (((ctl c j).natAbs:Int)≤62914560*o)):=by
  simp [Qc2,List.range_succ]
theorem Qo8 {c:List Int} {o:Int} {j m:Nat} (h:Qc2 c o j=false) (hm:j≤m):Qc2 c o m=false:=by
  induction m with
  |zero=>
        obtain rfl:j=0:=by omega
        exact h
  |succ m ih=>
    rw [Qfd]
    by_cases e:j=m+1
    · subst e;rw [Qfd]at h;exact h
    · rw [ih (by omega)];rfl
theorem Zgx (n j k:Nat) (hj:j≤5):cw n j k≤1920:=by
  unfold cw
  have h1:60/bin n k≤60:=Nat.div_le_self _ _
  have h2:=Qg3 j k
  have h3:2^j≤2^5:=Nat.pow_le_pow_right (by decide) hj
  have h4:=Nat.mul_le_mul h1 (Nat.le_trans h2 h3)
  omega
theorem Qg4 {c:List Int} {B n j:Nat} (hc:bd B c) (hj:j≤5) (m:Nat) (hm:m≤6):(sm (fun k=>c.getD k 0*(cw n j k:Int)) m).natAbs<2^(B+11+7):=by
  refine Q03 (by omega) fun i hi=> ?_
  rw [Int.natAbs_mul,Nat.pow_add]
  refine Nat.mul_lt_mul'' (Zfw hc i) ?_
  rw [Int.natAbs_natCast]
  have:=Zgx n j i hj
  omega
/-- A coordinate at a/d,times the denominator to the power of 5. -/
def plcT (c:List Int) (a d:Int) (k:Nat):Int:=c.getD k 0*(a^k*d^(5-k))
def plc (c:List Int) (a d:Int):Int:=sm (plcT c a d) c.length
def plP (s:Sg) (a d:Int) (i:Nat):Int:=plc (s.ax.getD i []) a d
def plG (s:Sg) (a d:Int) (i:Nat):Nat:=gcdL (s.o*d^5).natAbs ((List.range i).map (plP s a d))
def at3 (P:Nat→Int) (i m:Nat):Int:=if m<i then P m else 0
theorem Qd5 (s:Sg) (a d:Int) (i:Nat):plG s a d (i+1)=Nat.gcd (plG s a d i) (plP s a d i).natAbs:=by
  unfold plG;rw [List.range_succ,List.map_append];exact Qfc _ _ _
theorem Qhw {c:List Int} {a d:Int} {B:Nat} (hc:bd B c) (ha:a.natAbs<2^B) (hd:d.natAbs<2^B) (k:Nat) (hk:k≤5):
    (a^k).natAbs<2^(B*5+1)∧(d^(5-k)).natAbs<2^(B*5+1)∧(a^k*d^(5-k)).natAbs<2^(B*5+1+(B*5+1))∧(plcT c a d k).natAbs<2^(B+(B*5+1+(B*5+1))):=by
  have h1:(a^k).natAbs<2^(B*5+1):=Nat.lt_of_lt_of_le (Qg6 ha k) (Nat.pow_le_pow_right (by decide) (by have:=Nat.mul_le_mul_left B hk;omega))
  have h2:(d^(5-k)).natAbs<2^(B*5+1):=Nat.lt_of_lt_of_le (Qg6 hd (5-k)) (Nat.pow_le_pow_right (by decide) (by have:=Nat.mul_le_mul_left B (show 5-k≤5 by omega);omega))
  have h3:(a^k*d^(5-k)).natAbs<2^(B*5+1+(B*5+1)):=by rw [Int.natAbs_mul,Nat.pow_add];exact Nat.mul_lt_mul'' h1 h2
  refine⟨h1,h2,h3,?_⟩
  unfold plcT
  rw [Int.natAbs_mul,Nat.pow_add _ B]
  exact Nat.mul_lt_mul'' (Zfw hc k) h3
theorem Qdj {c:List Int} {a d:Int} {B:Nat} (hc:bd B c) (ha:a.natAbs<2^B) (hd:d.natAbs<2^B) (m:Nat) (hm:m≤6):(sm (plcT c a d) m).natAbs<2^(B+(B*5+1+(B*5+1))+7):=
  Q03 (by omega) fun i hi=>(Qhw hc ha hd i (by omega)).2.2.2
theorem Qts {s:Sg} {a d:Int} (ho:1≤s.o) (hd:1≤d) (i:Nat):0<plG s a d i:=by
  induction i with
  |zero=>
    show 0<(s.o*d^5).natAbs
    have h:0<s.o*d^5:=Int.mul_pos (by omega) (Int.pow_pos (by omega))
    omega
  |succ i ih=>rw [Qd5];exact Nat.gcd_pos_of_pos_left _ ih
theorem Q83 {s:Sg} {d:Int} {B:Nat} (ho:s.o.natAbs<2^B) (hd:d.natAbs<2^B):(s.o*d^5).natAbs<2^(B+(B*5+1)):=by
  rw [Int.natAbs_mul,Nat.pow_add _ B]
  exact Nat.mul_lt_mul'' ho (Qg6 hd 5)
theorem Qv1 {s:Sg} {a d:Int} {B:Nat} (hc: ∀c∈s.ax,bd B c) (h6: ∀c∈s.ax,c.length≤6) (ha:a.natAbs<2^B) (hd:d.natAbs<2^B) (i:Nat) (hi:i<3):
    (plP s a d i).natAbs<2^(B+(B*5+1+(B*5+1))+7):=by
  have hi':i<s.ax.length:=hi
  have hm:s.ax.getD i []=s.ax[i]:=by rw [List.getD_eq_getElem?_getD,List.getElem?_eq_getElem hi'];rfl
  unfold plP plc
  rw [hm]
  exact Qdj (hc _ (List.getElem_mem hi')) ha hd _ (h6 _ (List.getElem_mem hi'))
theorem Zl7 {s:Sg} {a d:Int} {B:Nat} (hc: ∀c∈s.ax,bd B c) (h6: ∀c∈s.ax,c.length≤6) (ho:s.o.natAbs<2^B) (ha:a.natAbs<2^B) (hd:d.natAbs<2^B) (i:Nat) (hi:i≤3):
    ((plG s a d i:Nat):Int).natAbs<2^(B+(B*5+1+(B*5+1))+7):=by
  rw [Int.natAbs_natCast]
  refine Qgi _ (Nat.lt_of_lt_of_le (Q83 ho hd) (Nat.pow_le_pow_right (by decide) (by omega))) ?_
  intro x hx
  simp only [List.mem_map,List.mem_range]at hx
  obtain⟨m,hm,rfl⟩:=hx
  exact Qv1 hc h6 ha hd m (by omega)
end Go.Dg

namespace Go.Dg
def plQ (s:Sg) (a d:Int) (i:Nat):Int:=plP s a d i/(plG s a d 3:Int)
def plO (s:Sg) (a d:Int):Int:=s.o*d^5/(plG s a d 3:Int)
def Qn1 (s:Sg) (a d:Int) (s':Sg) (a' d':Int):Bool:=decide (plQ s a d 0=plQ s' a' d' 0)&&(decide (plQ s a d 1=plQ s' a' d' 1)&&(decide (plQ s a d 2=plQ s' a' d' 2)&&decide (plO s a d=plO s' a' d')))
theorem Qtt (s:Sg) (a d:Int) (s':Sg) (a' d':Int):Qn1 s a d s' a' d'=Qn1 s' a' d' s a d:=by
 unfold Qn1
 rw [Bool.eq_iff_iff]
 simp only [Bool.and_eq_true,decide_eq_true_eq]
 constructor<;>(rintro⟨h1,h2,h3,h4⟩;exact⟨h1.symm,h2.symm,h3.symm,h4.symm⟩)
def Qe0 (a b:Sg):Bool:=decide (a.t=b.f)&&Qn1 a 1 1 b 0 1
def sg0:Sg:=⟨0,0,0,[],[],[]⟩
def vpAt (p:List Sg) (j:Nat):Bool:=Qa4 (p.getD j sg0)&&(decide (j=0)||Qe0 (p.getD (j-1) sg0) (p.getD j sg0))
def vpTo (p:List Sg) (i:Nat):Bool:=(List.range i).all (vpAt p)
def Qbh (p:List Sg):Bool:=vpTo p p.length&&(decide (1≤p.length)&&decide (p.length≤256))
theorem Qh9 (p:List Sg) (i:Nat):vpTo p (i+1)=(vpTo p i&&vpAt p i):=by simp [vpTo,List.range_succ]
theorem Zgy {p:List Sg} {j m:Nat} (h:vpAt p j=false) (hm:j<m):vpTo p m=false:=by
 unfold vpTo
 rw [List.all_eq_false]
 exact⟨j,List.mem_range.2 hm,by simp [h]⟩
theorem Qfe {p:List Sg} {j:Nat} (h:vpAt p j=false) (hm:j<p.length):Qbh p=false:=by unfold Qbh;rw [Zgy h hm];rfl
theorem sgD {p:List Sg} {i:Nat} (h:i<p.length):p.getD i sg0=p[i]:=by rw [List.getD_eq_getElem?_getD,List.getElem?_eq_getElem h];rfl
theorem Qjm {p:List Sg} {i j:Nat} (h:vpTo p i=true) (hj:j<i):Qa4 (p.getD j sg0)=true:=by
 have:=List.all_eq_true.1 h j (List.mem_range.2 hj)
 unfold vpAt at this
 simp only [Bool.and_eq_true]at this
 exact this.1
theorem Qbk {s:Sg} (h:Qa4 s=true):(0≤s.f∧s.f<s.t∧s.t≤3600000∧1≤s.o∧s.o≤4294967296)∧(∀c∈s.ax,axOK c s.o=true)∧s.ax.foldl gcdL s.o.natAbs=1:=by
 unfold Qa4 rngS at h
 simp only [Bool.and_eq_true,decide_eq_true_eq,List.all_eq_true,beq_iff_eq]at h
 obtain⟨⟨h1,h2,h3,h4,h5⟩,h6,h7⟩:=h
 exact⟨⟨h1,h2,h3,h4,h5⟩,h6,h7⟩
theorem Qjn {c:List Int} {o:Int} (h:axOK c o=true):1≤c.length∧c.length≤6∧(1<c.length→c.getD (c.length-1) 0≠0)∧Qc2 c o c.length=true:=by
 unfold axOK Qku at h
 simp only [Bool.and_eq_true,decide_eq_true_eq,Bool.or_eq_true,Bool.not_eq_true',beq_eq_false_iff_ne]at h
 obtain⟨⟨h1,h2,h3⟩,h4⟩:=h
 exact⟨h1,h2,fun h5=>h3.elim (fun h6=>by omega) id,h4⟩
theorem Qc4 {s:Sg} (h:Qa4 s=true): ∀c∈s.ax,c.length≤6:=fun c hc=>(Qjn ((Qbk h).2.1 c hc)).2.1
theorem Qdk {s:Sg} (h:Qa4 s=true):1≤s.o:=(Qbk h).1.2.2.2.1
end Go.Dg

namespace Go.Dg
def few1 (s:Sg):Bool:=decide (s.x.length≤8)&&(decide (s.y.length≤8)&&decide (s.z.length≤8))
def fewB (p:List Sg) (m:Nat):Bool:=((p.take (m+1)).all few1)&&decide (p.length≤m)
theorem Qn2 {p:List Sg} {m:Nat} (h:fewB p m=true):p.length≤m∧ ∀s∈p,∀c∈s.ax,c.length≤8:=by
 unfold fewB at h
 simp only [Bool.and_eq_true,decide_eq_true_eq]at h
 obtain⟨h1,h2⟩:=h
 rw [List.take_of_length_le (by omega)]at h1
 refine⟨h2,fun s hs c hc=> ?_⟩
 have:=List.all_eq_true.1 h1 s hs
 unfold few1 at this
 simp only [Bool.and_eq_true,decide_eq_true_eq]at this
 obtain⟨a1,a2,a3⟩:=this
 unfold Sg.ax at hc
 simp only [List.mem_cons,List.not_mem_nil,or_false]at hc
 rcases hc with rfl|rfl|rfl<;>assumption
theorem Qo9 {p:List Sg} {m i:Nat} (hi:i<p.length) (hm:i≤m) (h:few1 p[i]=false):fewB p m=false:=by
 unfold fewB
 have:(p.take (m+1)).all few1=false:=by
  rw [List.all_eq_false]
  refine⟨p[i],?_,by simp [h]⟩
  rw [List.mem_take_iff_getElem]
  exact⟨i,by omega,rfl⟩
 rw [this];rfl
end Go.Dg

namespace Go.Dg
def sw (L:List Int) (j:Nat):List Int:=(L.set j (L.getD (j-1) 0)).set (j-1) (L.getD j 0)
def bub (L:List Int):Nat→List Int
 |0=>L
 |j+1=>if L.getD (j+1) 0<L.getD j 0 then bub (sw L (j+1)) j else L
def isr (L:List Int):Nat→List Int
 |0=>L
 |k+1=>bub (isr L k) (k+1)
def Qbr (L:List Int):List Int:=isr L (L.length-1)
theorem Zfx (L:List Int) (j:Nat):(sw L j).length=L.length:=by simp [sw]
theorem Q1c: ∀(j:Nat) (L:List Int),(bub L j).length=L.length
 |0,_=>rfl
 |j+1,L=>by
  unfold bub
  split
  ·rw [Q1c j,Zfx]
  ·rfl
theorem Qtu (L:List Int): ∀k,(isr L k).length=L.length
 |0=>rfl
 |k+1=>by rw [isr,Q1c,Qtu L k]
theorem Ql2 (L:List Int):(Qbr L).length=L.length:=Qtu _ _
theorem gD {L:List Int} {i:Nat} (h:i<L.length):L.getD i 0=L[i]:=by rw [List.getD_eq_getElem?_getD,List.getElem?_eq_getElem h];rfl
theorem Q85 (A B:List Int) (a b:Int) (j:Nat) (hj:A.length=j):sw (A++a::b::B) (j+1)=A++b::a::B:=by
 unfold sw
 subst hj
 simp
theorem Qn3: ∀(j:Nat) (A B:List Int) (x:Int),A.length=j→(A.Pairwise (· ≤ ·))→ ∃A1 A2,A=A1++A2∧bub (A++x::B) j=A1++x::A2++B∧(∀y∈A1,y≤x)∧ ∀y∈A2,x<y
 |0,A,B,x,h,_=>⟨[],[],by simpa using List.length_eq_zero_iff.1 h,by have:=List.length_eq_zero_iff.1 h;subst this;simp [bub],by simp,by simp⟩
 |j+1,A,B,x,h,hs=>by
  obtain⟨A',a,rfl⟩: ∃A' a,A=A'++[a]:=⟨A.dropLast,A.getLast (by intro e;subst e;simp at h),(List.dropLast_concat_getLast _).symm⟩
  have hl:A'.length=j:=by simpa using h
  have e1:(A'++[a]++x::B).getD (j+1) 0=x:=by simp [List.getD_eq_getElem?_getD,←hl,List.getElem?_append_right]
  have e2:(A'++[a]++x::B).getD j 0=a:=by simp [List.getD_eq_getElem?_getD,←hl]
  have hs':=List.pairwise_append.1 hs
  unfold bub
  rw [e1,e2]
  split
  ·rename_i hlt
   have e3:sw (A'++[a]++x::B) (j+1)=A'++x::a::B:=by
    have:=Q85 A' B a x j hl
    simpa using this
   rw [e3]
   obtain⟨A1,A2,f1,f2,f3,f4⟩:=Qn3 j A' (a::B) x hl hs'.1
   refine⟨A1,A2++[a],by rw [f1];simp,by rw [f2];simp,f3,fun y hy=> ?_⟩
   rcases List.mem_append.1 hy with hy|hy
   ·exact f4 y hy
   ·simp at hy;omega
  ·rename_i hge
   refine⟨A'++[a],[],by simp,by simp,fun y hy=> ?_,by simp⟩
   rcases List.mem_append.1 hy with hy|hy
   ·have:=hs'.2.2 y hy a (by simp);omega
   ·simp at hy;omega
theorem Qv3 (L:List Int): ∀k,k+1≤L.length→ ∃S,isr L k=S++L.drop (k+1)∧S.length=k+1∧S.Pairwise (· ≤ ·)∧ ∀y,y∈S↔y∈L.take (k+1)
 |0,h=>by
  cases L with
  |nil=>simp at h
  |cons a L=>exact⟨[a],rfl,rfl,by simp,by simp⟩
 |k+1,h=>by
  obtain⟨S,h1,h2,h3,h4⟩:=Qv3 L k (by omega)
  have hd:L.drop (k+1)=L[k+1]::L.drop (k+1+1):=List.drop_eq_getElem_cons (by omega)
  rw [hd]at h1
  obtain⟨A1,A2,f1,f2,f3,f4⟩:=Qn3 (k+1) S (L.drop (k+1+1)) L[k+1] h2 h3
  refine⟨A1++L[k+1]::A2,by rw [isr,h1,f2],by have:=h2;rw [f1]at this;simp at this ⊢;omega,?_,fun y=> ?_⟩
  ·subst f1
   obtain⟨p1,p2,p3⟩:=List.pairwise_append.1 h3
   refine List.pairwise_append.2 ⟨p1,List.pairwise_cons.2 ⟨fun y hy=>Int.le_of_lt (f4 y hy),p2⟩,fun y hy z hz=> ?_⟩
   rcases List.mem_cons.1 hz with rfl|hz
   ·exact f3 y hy
   ·exact p3 y hy z hz
  ·rw [List.take_add_one,List.getElem?_eq_getElem (show k+1<L.length by omega)]
   have:=h4 y
   rw [f1]at this
   simp only [List.mem_append,List.mem_cons,Option.toList_some,List.mem_singleton]at this ⊢
   rw [←this]
   constructor
   ·rintro(a|a|a)
    ·exact .inl (.inl a)
    ·exact .inr (.inl a)
    ·exact .inl (.inr a)
   ·rintro((a|a)|a)
    ·exact .inl a
    ·exact .inr (.inr a)
    ·exact .inr (.inl (a.elim id (fun h=>nomatch h)))
theorem Qg5 (L:List Int):(Qbr L).Pairwise (· ≤ ·)∧ ∀y,y∈Qbr L↔y∈L:=by
 cases L with
 |nil=>exact⟨by simp [Qbr,isr],fun _=>Iff.rfl⟩
 |cons a L=>
  obtain⟨S,h1,h2,h3,h4⟩:=Qv3 (a::L) L.length (Nat.le_refl _)
  have e:Qbr (a::L)=S:=by
   unfold Qbr
   have:(a::L).length-1=L.length:=by simp
   rw [this,h1]
   simp
  rw [e]
  refine⟨h3,fun y=> ?_⟩
  rw [h4 y,List.take_of_length_le (by simp)]
def dd:List Int→List Int
 | []=>[]
 | [a]=>[a]
 |a::b::L=>if a=b then dd (b::L)else a::dd (b::L)
theorem Qv4: ∀(L:List Int) (y:Int),y∈dd L↔y∈L
 | [],_=>Iff.rfl
 | [_],_=>Iff.rfl
 |a::b::L,y=>by
  have ih:=Qv4 (b::L) y
  unfold dd
  split
  ·rename_i e;subst e;rw [ih];simp
  ·simp only [List.mem_cons]at ih ⊢;rw [ih]
theorem Qia: ∀(L:List Int),L.Pairwise (· ≤ ·)→(dd L).Pairwise (· < ·)
 | [],_=>List.Pairwise.nil
 | [_],_=>by simp [dd]
 |a::b::L,h=>by
  obtain⟨h1,h2⟩:=List.pairwise_cons.1 h
  have ih:=Qia (b::L) h2
  unfold dd
  split
  ·exact ih
  ·rename_i e
   refine List.pairwise_cons.2 ⟨fun y hy=> ?_,ih⟩
   have hy:=(Qv4 _ _).1 hy
   have hab:=h1 b (by simp)
   rcases List.mem_cons.1 hy with rfl|hy
   ·omega
   ·have:=(List.pairwise_cons.1 h2).1 y hy;omega
theorem Q1d: ∀(l:List Int) (a x:Int),dd (l++[a]++[x])=if a=x then dd (l++[a])else dd (l++[a])++[x]
 | [],a,x=>by by_cases h:a=x<;>simp [dd,h]
 | [b],a,x=>by
  simp only [List.cons_append,List.nil_append,dd]
  split<;>split<;>simp_all
 |b::c::l,a,x=>by
  have ih:=Q1d (c::l) a x
  simp only [List.cons_append,dd]at ih ⊢
  rw [ih]
  split<;>split<;>simp
theorem Ql3 (xs:List Int) (j:Nat) (h1:1≤j) (h:j<xs.length):dd (xs.take (j+1))=if xs.getD (j-1) 0=xs.getD j 0 then dd (xs.take j)else dd (xs.take j)++[xs.getD j 0]:=by
 obtain⟨i,rfl⟩: ∃i,j=i+1:=⟨j-1,by omega⟩
 have e1:xs.take (i+1)=xs.take i++[xs[i]]:=by rw [List.take_add_one,List.getElem?_eq_getElem (show i<xs.length by omega)];rfl
 have e2:xs.take (i+1+1)=xs.take i++[xs[i]]++[xs[i+1]]:=by rw [List.take_add_one,List.getElem?_eq_getElem h,e1];rfl
 rw [e2,e1,Q1d,gD h,Nat.add_sub_cancel,gD (show i<xs.length by omega)]
theorem Q1e: ∀(l:List Int),(dd l).length≤l.length
 | []=>Nat.le_refl _
 | [_]=>Nat.le_refl _
 |a::b::l=>by
  have ih:=Q1e (b::l)
  unfold dd
  split<;>simp at ih ⊢ <;>omega
def ddE (xs:List Int) (j:Nat):List Int:=dd (xs.take j)++xs.drop (dd (xs.take j)).length
theorem Ql4 (xs:List Int) (j:Nat):(ddE xs j).length=xs.length:=by
 have h1:=Q1e (xs.take j)
 have h2:(xs.take j).length≤xs.length:=by simp;omega
 simp only [ddE,List.length_append,List.length_drop];omega
theorem Q1f (xs:List Int) (j i:Nat) (h:(dd (xs.take j)).length≤i):(ddE xs j).getD i 0=xs.getD i 0:=by
 simp only [ddE,List.getD_eq_getElem?_getD]
 rw [List.getElem?_append_right h,List.getElem?_drop]
 congr 2;omega
theorem Zg2 (xs:List Int) (j:Nat) (h1:1≤j) (h:j<xs.length) (hl:(dd (xs.take j)).length<j) (hne:xs.getD (j-1) 0≠xs.getD j 0):(ddE xs j).set (dd (xs.take j)).length (xs.getD j 0)=ddE xs (j+1):=by
 have e:=Ql3 xs j h1 h
 rw [if_neg hne]at e
 simp only [ddE,e,List.length_append,List.length_singleton]
 have hd:xs.drop (dd (xs.take j)).length=xs[(dd (xs.take j)).length]'(by omega)::xs.drop ((dd (xs.take j)).length+1):=List.drop_eq_getElem_cons (by omega)
 rw [List.set_append_right _ _ (Nat.le_refl _),Nat.sub_self,hd,List.set_cons_zero,List.append_assoc]
 rfl
theorem Q86 (xs:List Int) (j:Nat) (h1:1≤j) (h:j<xs.length) (he:xs.getD (j-1) 0=xs.getD j 0):ddE xs (j+1)=ddE xs j∧(dd (xs.take (j+1))).length=(dd (xs.take j)).length:=by
 have e:=Ql3 xs j h1 h
 rw [if_pos he]at e
 simp only [ddE,e,and_self]
theorem Q1g (xs:List Int) (k:Nat) (h1:1≤k) (h:k<xs.length) (hd:dd (xs.take k)=xs.take k) (he:xs.getD (k-1) 0=xs.getD k 0):ddE xs (k+1)=xs∧(dd (xs.take (k+1))).length=k:=by
 have e:=Ql3 xs k h1 h
 rw [if_pos he,hd]at e
 have hl:(xs.take k).length=k:=by simp;omega
 exact⟨by simp only [ddE,e,hl,List.take_append_drop],by rw [e,hl]⟩
end Go.Dg
