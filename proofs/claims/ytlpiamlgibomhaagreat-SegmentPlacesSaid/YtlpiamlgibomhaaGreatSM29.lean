/-
  SM29 (merged for the claim).
-/
import Derived.Test.YtlpiamlgibomhaaGreatSY9
set_option linter.unusedSimpArgs false
set_option linter.unusedVariables false
namespace Go.Proofs.YtlpiamlgibomhaaGreat
open Go.Vl Go.RowKit Go.Dg
set_option maxHeartbeats 2000000 in
theorem Qln (p:List Sg) (hr:(∀s∈p,Q5c s)∧p.length≤maxLen) (t:Int) (h1: -9223372036854775808≤t) (h2:t≤9223372036854775807):Qag Tryz.prog 4 [.slc (p.map sgPV),.int .i64 t] (.bool true):=by
 have hk:=Qw3
 have hf:=Zl8 p 6 (by decide) hr.2
 unfold Qat at hf
 cases hF:fewB p 6 with
 |false=>
  rw [hF]at hf
  refine Qac (tb:=[]) 80 [.tmp 4] [0,1,4,5,6,7,8,9,12,28,32,34] mixed Tryz.func4 rfl (by kernel_rfl) (by kernel_rfl) (by kernel_rfl) (by kernel_rfl) ?_
  repeat (first|(simp -implicitDefEqProofs only [go_sem,Nat.reduceAdd,Nat.reduceMul,Nat.reduceEqDiff,Nat.reduceLT,Nat.reduceLeDiff,reduceCtorEq,Bool.not_false])|((with_reducible refine Qab (hf) ?_ ?_ ?_);(with_reducible rfl);rfl)|((with_reducible refine Qab (hk) ?_ ?_ ?_);(with_reducible rfl);rfl)|(with_reducible exact Qaa _ _ (by kernel_rfl))|(with_reducible refine And.intro (Qaa _ _ (by kernel_rfl)) ?_))
 |true=>
  rw [hF]at hf
  obtain⟨l6,l8⟩:=Qws hF
  have hp: ∀s∈p,okSg s:=fun s hs=>Zno (hr.1 s hs) (fun c hc=>by have:=l8 s hs c hc;omega)
  have ht:i64 t:=⟨h1,h2⟩
  have he:=Qo4 p t hp (by omega) ht
  have ha:=Zlt p t hp (by omega) ht
  have hv:=Qqu p hp (by omega)
  unfold Qlq Qat at he
  unfold atPV Qat at ha
  unfold Qat at hv
  cases hV:Qbd p with
  |false=>
   rw [hV]at he ha hv
   simp only [Bool.false_eq_true,if_false]at he ha
   unfold vPV at ha
   refine Qac (tb:=[]) 80 [.tmp 4] [0,1,4,5,6,7,8,9,12,28,32,34] mixed Tryz.func4 rfl (by kernel_rfl) (by kernel_rfl) (by kernel_rfl) (by kernel_rfl) ?_
   repeat (first|(simp -implicitDefEqProofs only [go_sem,Nat.reduceAdd,Nat.reduceMul,Nat.reduceEqDiff,Nat.reduceLT,Nat.reduceLeDiff,reduceCtorEq,Bool.not_true,Bool.not_false,Q71,Qjc,beq_self_eq_true,Bool.and_true,Bool.and_self])|((with_reducible refine Qab (hf) ?_ ?_ ?_);(with_reducible rfl);rfl)|((with_reducible refine Qab (he) ?_ ?_ ?_);(with_reducible rfl);rfl)|((with_reducible refine Qab (ha) ?_ ?_ ?_);(with_reducible rfl);rfl)|((with_reducible refine Qab (hv) ?_ ?_ ?_);(with_reducible rfl);rfl)|((with_reducible refine Qab (hk) ?_ ?_ ?_);(with_reducible rfl);rfl)|(with_reducible exact Qaa _ _ (by kernel_rfl))|(with_reducible refine And.intro (Qaa _ _ (by kernel_rfl)) ?_))
  |true=>
   have hpos:=(Qb2 hV).2.1
   have hl:=Q73 p t (by omega) (by omega)
   unfold Qat at hl
   cases hL:lasts p t with
   |false=>
    rw [hV,hL]at he ha
    rw [hV]at hv
    rw [hL]at hl
    simp only [Bool.false_eq_true,if_false,if_true]at he ha
    unfold vPV at ha
    refine Qac (tb:=[]) 80 [.tmp 4] [0,1,4,5,6,7,8,9,12,28,32,34] mixed Tryz.func4 rfl (by kernel_rfl) (by kernel_rfl) (by kernel_rfl) (by kernel_rfl) ?_
    repeat (first|(simp -implicitDefEqProofs only [go_sem,Nat.reduceAdd,Nat.reduceMul,Nat.reduceEqDiff,Nat.reduceLT,Nat.reduceLeDiff,reduceCtorEq,Bool.not_true,Bool.not_false,Zl9,Qjc,beq_self_eq_true,Bool.and_true,Bool.and_self])|((with_reducible refine Qab (hf) ?_ ?_ ?_);(with_reducible rfl);rfl)|((with_reducible refine Qab (he) ?_ ?_ ?_);(with_reducible rfl);rfl)|((with_reducible refine Qab (ha) ?_ ?_ ?_);(with_reducible rfl);rfl)|((with_reducible refine Qab (hv) ?_ ?_ ?_);(with_reducible rfl);rfl)|((with_reducible refine Qab (hl) ?_ ?_ ?_);(with_reducible rfl);rfl)|((with_reducible refine Qab (hk) ?_ ?_ ?_);(with_reducible rfl);rfl)|(with_reducible exact Qaa _ _ (by kernel_rfl))|(with_reducible refine And.intro (Qaa _ _ (by kernel_rfl)) ?_))
   |true=>
    rw [hV,hL]at he ha
    rw [hV]at hv
    rw [hL]at hl
    simp only [if_true]at he ha
    have hre:=Qo5 p t hp (by omega) ht hV hL
    have hra:=Zgg p t hp (by omega) ht hV hL
    obtain⟨b1,b2,b3⟩:=Zgf hp hV hL
    have ho:=Qvb (exQ p t 0) (exQ p t 1) (exQ p t 2) (exO p t) 2000 (by decide) (b1 0 (by decide)).1 (b1 1 (by decide)).1 (b1 2 (by decide)).1 b2
    obtain⟨R1,R2,R3,hR⟩: ∃R1 R2 R3,Qdi [exQ p t 0,exQ p t 1,exQ p t 2] (exO p t)= .agg [.slc R1,.bool R2,.slc R3]:=⟨_,_,_,rfl⟩
    rw [hR]at hre ho
    clear hR b1 b2 b3
    unfold Qat at hre hra
    unfold vPV at ha hra
    unfold Qae at he ho
    generalize rnd (exQ p t 0) (exO p t)=x0 at*
    generalize rnd (exQ p t 1) (exO p t)=x1 at*
    generalize rnd (exQ p t 2) (exO p t)=x2 at*
    generalize mB (exQ p t 0)=m0 at*
    generalize mB (exQ p t 1)=m1 at*
    generalize mB (exQ p t 2)=m2 at*
    generalize mB (exO p t)=m3 at*
    generalize decide (exQ p t 0<0)=d0 at*
    generalize decide (exQ p t 1<0)=d1 at*
    generalize decide (exQ p t 2<0)=d2 at*
    generalize decide (exO p t<0)=d3 at*
    refine Qac (tb:=[]) 80 [.tmp 4] [0,1,4,5,6,7,8,9,12,28,32,34] mixed Tryz.func4 rfl (by kernel_rfl) (by kernel_rfl) (by kernel_rfl) (by kernel_rfl) ?_
    repeat (first|(simp -implicitDefEqProofs only [go_sem,Nat.reduceAdd,Nat.reduceMul,Nat.reduceEqDiff,Nat.reduceLT,Nat.reduceLeDiff,reduceCtorEq,Bool.not_true,Bool.not_false,Qjb,Qmt,Qjc,beq_self_eq_true,Bool.and_true,Bool.and_self])|((with_reducible refine Qab (hf) ?_ ?_ ?_);(with_reducible rfl);rfl)|((with_reducible refine Qab (he) ?_ ?_ ?_);(with_reducible rfl);rfl)|((with_reducible refine Qab (ha) ?_ ?_ ?_);(with_reducible rfl);rfl)|((with_reducible refine Qab (hv) ?_ ?_ ?_);(with_reducible rfl);rfl)|((with_reducible refine Qab (hl) ?_ ?_ ?_);(with_reducible rfl);rfl)|(with_reducible exact Qaa _ _ (by kernel_rfl))|(with_reducible refine And.intro (Qaa _ _ (by kernel_rfl)) ?_))
    repeat (first|(simp -implicitDefEqProofs only [go_sem,Nat.reduceAdd,Nat.reduceEqDiff,Nat.reduceLT,reduceCtorEq,Bool.not_true,Bool.not_false,Qjb,Qmt,Qjc,beq_self_eq_true,Bool.and_true,Bool.and_self])|((with_reducible refine Qab (hre) ?_ ?_ ?_);(with_reducible rfl);rfl)|((with_reducible refine Qab (ho) ?_ ?_ ?_);(with_reducible rfl);rfl)|((with_reducible refine Qab (hra) ?_ ?_ ?_);(with_reducible rfl);rfl)|((with_reducible refine Qab (hk) ?_ ?_ ?_);(with_reducible rfl);rfl)|(with_reducible exact Qaa _ _ (by kernel_rfl))|(with_reducible refine And.intro (Qaa _ _ (by kernel_rfl)) ?_))
end Go.Proofs.YtlpiamlgibomhaaGreat
