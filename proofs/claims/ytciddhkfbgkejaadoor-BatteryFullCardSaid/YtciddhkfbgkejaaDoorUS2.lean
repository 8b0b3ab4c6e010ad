/-
  XB13, US2 (merged for the claim).
-/
import Derived.Test.YtciddhkfbgkejaaDoorUX2
import Derived.Test.YtciddhkfbgkejaaDoorUV
import Derived.LaidMore
import Derived.OpenShut
import Derived.Stop.Joined
set_option linter.unusedSimpArgs false
set_option linter.unusedVariables false
namespace Go.Proofs.YtciddhkfbgkejaaDoor
open Go.Vl Go.RowKit Go.Dg
def fBat:Bat:=⟨0,0,1000000,1125899906842624,0⟩
def farS:Sg:=legS (-1048576) 0 0 1048576 0 0 0 1 1
def p5S:List Sg:=[legS 0 0 0 524288 0 0 0 1 1,legS 524288 0 0 0 0 0 1 2 1,legS 0 0 0 524288 0 0 2 3 1,legS 524288 0 0 0 0 0 3 4 1,legS 0 0 0 524288 0 0 4 5 1]
def p4S:List Sg:=[legS 0 0 0 524288 0 0 0 1 1,legS 524288 0 0 0 0 0 1 2 1,legS 0 0 0 524288 0 0 2 3 1,legS 524288 0 0 0 0 0 3 4 1]
theorem Qvo:sgB farS=true∧Qbd farS=true∧Qax fBat=true∧mxE<Qfi farS fBat 0 0 0:=by decide+kernel
theorem Q4h:(p5S.all sgB)=true∧Qgi p5S fBat []=true∧mxE<totE [] fBat p5S∧rcN (csL [] fBat p5S) fBat=4:=by decide+kernel
theorem Q4i:(p4S.all sgB)=true∧Qgi p4S fBat []=true∧totE [] fBat p4S=1099511627776000:=by decide+kernel
theorem Qto {p:List Sg} (h:p.all sgB=true): ∀s∈p,okSg s:=fun s hs=>Qtn (List.all_eq_true.1 h s hs)
theorem Qrm:((7:Int)==7)=true:=rfl
set_option maxHeartbeats 16000000 in
set_option maxRecDepth 100000 in
theorem Qnz:Qae Tryd.prog 3 [] (.bool true):=by
 have hk:=Qzk
 have a0:=Qej (-1048576) 0 0
 have a1:=Qej 1048576 0 0
 have a2:=Qej 0 0 0
 have a3:=Qej 524288 0 0
 have eb:baPV fBat= .agg [.int .i64 0,.int .i64 0,.int .i64 1000000,.int .i64 1125899906842624,.int .i64 0]:=rfl
 have f0:=Qi5 (-1048576) 0 0 1048576 0 0 0 1 1 (by decide) (by decide) (by decide) (by decide) (by decide) (by decide)
 have ef:sgPV (legS (-1048576) 0 0 1048576 0 0 0 1 1)= .agg [.int .i64 0,.int .i64 1,.int .i64 1,.slc [.int .i64 (-1048576),.int .i64 2097152],.slc [.int .i64 0],.slc [.int .i64 0]]:=by kernel_rfl
 obtain⟨h1,h2,h3,h4⟩:=Qvo
 have f1:=Qzo farS fBat 0 0 0 (Qtn h1)
 rw [Qrp rfl rfl rfl h2 h3,if_neg (by omega),eb]at f1
 unfold farS at f1
 rw [ef]at f0 f1
 have l0:=Qi5 0 0 0 524288 0 0 0 1 1 (by decide) (by decide) (by decide) (by decide) (by decide) (by decide)
 have e0:sgPV (legS 0 0 0 524288 0 0 0 1 1)= .agg [.int .i64 0,.int .i64 1,.int .i64 1,.slc [.int .i64 0,.int .i64 (524288)],.slc [.int .i64 0],.slc [.int .i64 0]]:=by kernel_rfl
 rw [e0]at l0
 have l1:=Qi5 524288 0 0 0 0 0 1 2 1 (by decide) (by decide) (by decide) (by decide) (by decide) (by decide)
 have e1:sgPV (legS 524288 0 0 0 0 0 1 2 1)= .agg [.int .i64 1,.int .i64 2,.int .i64 1,.slc [.int .i64 524288,.int .i64 (-524288)],.slc [.int .i64 0],.slc [.int .i64 0]]:=by kernel_rfl
 rw [e1]at l1
 have l2:=Qi5 0 0 0 524288 0 0 2 3 1 (by decide) (by decide) (by decide) (by decide) (by decide) (by decide)
 have e2:sgPV (legS 0 0 0 524288 0 0 2 3 1)= .agg [.int .i64 2,.int .i64 3,.int .i64 1,.slc [.int .i64 0,.int .i64 (524288)],.slc [.int .i64 0],.slc [.int .i64 0]]:=by kernel_rfl
 rw [e2]at l2
 have l3:=Qi5 524288 0 0 0 0 0 3 4 1 (by decide) (by decide) (by decide) (by decide) (by decide) (by decide)
 have e3:sgPV (legS 524288 0 0 0 0 0 3 4 1)= .agg [.int .i64 3,.int .i64 4,.int .i64 1,.slc [.int .i64 524288,.int .i64 (-524288)],.slc [.int .i64 0],.slc [.int .i64 0]]:=by kernel_rfl
 rw [e3]at l3
 have l4:=Qi5 0 0 0 524288 0 0 4 5 1 (by decide) (by decide) (by decide) (by decide) (by decide) (by decide)
 have e4:sgPV (legS 0 0 0 524288 0 0 4 5 1)= .agg [.int .i64 4,.int .i64 5,.int .i64 1,.slc [.int .i64 0,.int .i64 (524288)],.slc [.int .i64 0],.slc [.int .i64 0]]:=by kernel_rfl
 rw [e4]at l4
 have q5:Qc4 p5S= .slc [.agg [.int .i64 0,.int .i64 1,.int .i64 1,.slc [.int .i64 0,.int .i64 (524288)],.slc [.int .i64 0],.slc [.int .i64 0]],.agg [.int .i64 1,.int .i64 2,.int .i64 1,.slc [.int .i64 524288,.int .i64 (-524288)],.slc [.int .i64 0],.slc [.int .i64 0]],.agg [.int .i64 2,.int .i64 3,.int .i64 1,.slc [.int .i64 0,.int .i64 (524288)],.slc [.int .i64 0],.slc [.int .i64 0]],.agg [.int .i64 3,.int .i64 4,.int .i64 1,.slc [.int .i64 524288,.int .i64 (-524288)],.slc [.int .i64 0],.slc [.int .i64 0]],.agg [.int .i64 4,.int .i64 5,.int .i64 1,.slc [.int .i64 0,.int .i64 (524288)],.slc [.int .i64 0],.slc [.int .i64 0]]]:=by kernel_rfl
 have q4:Qc4 p4S= .slc [.agg [.int .i64 0,.int .i64 1,.int .i64 1,.slc [.int .i64 0,.int .i64 (524288)],.slc [.int .i64 0],.slc [.int .i64 0]],.agg [.int .i64 1,.int .i64 2,.int .i64 1,.slc [.int .i64 524288,.int .i64 (-524288)],.slc [.int .i64 0],.slc [.int .i64 0]],.agg [.int .i64 2,.int .i64 3,.int .i64 1,.slc [.int .i64 0,.int .i64 (524288)],.slc [.int .i64 0],.slc [.int .i64 0]],.agg [.int .i64 3,.int .i64 4,.int .i64 1,.slc [.int .i64 524288,.int .i64 (-524288)],.slc [.int .i64 0],.slc [.int .i64 0]]]:=by kernel_rfl
 obtain⟨k1,k2,k3,k4⟩:=Q4h
 obtain⟨j1,j2,j3⟩:=Q4i
 have g1:=Qk4 p4S fBat [] (Qto j1) (by decide) (by decide)
 have g2:=Qk4 p5S fBat [] (Qto k1) (by decide) (by decide)
 have g3:=Q4k p5S fBat [] (Qto k1) (by decide) (by decide)
 have g4:=Qp0 p5S fBat [] (Qto k1) (by decide) (by decide)
 unfold enPV at g1 g2
 unfold rcPV at g3
 unfold ehPV at g4
 rw [if_pos j2,j3,if_pos (by decide),q4,eb]at g1
 rw [if_pos k2,if_neg (by omega),q5,eb]at g2
 rw [if_pos k2,k4,q5,eb]at g3
 rw [if_pos k2,if_neg (by omega),q5,eb]at g4
 have ew:wsPV []= .slc []:=rfl
 rw [ew]at g1 g2 g3 g4
 have n4:((4:Nat):Int)=4:=rfl
 rw [n4]at g3
 clear h1 h2 h3 h4 k1 k2 k3 k4 j1 j2 j3 ef q4 q5
 have m1:((1:Nat)≤maxLen)=True:=eq_true (by decide)
 have m2:((2:Nat)≤maxLen)=True:=eq_true (by decide)
 have m3:((3:Nat)≤maxLen)=True:=eq_true (by decide)
 have m4:((4:Nat)≤maxLen)=True:=eq_true (by decide)
 have m5:((5:Nat)≤maxLen)=True:=eq_true (by decide)
 have d0:(Int.tmod 0 2==1)=false:=rfl
 have d1:(Int.tmod 1 2==1)=true:=rfl
 have d2:(Int.tmod 2 2==1)=false:=rfl
 have d3:(Int.tmod 3 2==1)=true:=rfl
 have d4:(Int.tmod 4 2==1)=false:=rfl
 have w5:IntKind.i64.wrap 5=5:=rfl
 have c5:((4:Int)≤((5:Nat):Int))=True:=eq_true (by decide)
 refine Qac (tb:=[]) 106 [.tmp 0] [0,1,2,3,4,5,6,7,8,9,10,12,13,14,16,29,36] mixed Tryd.func3 rfl (by kernel_rfl) (by kernel_rfl) (by kernel_rfl) (by kernel_rfl) ?_
 repeat (first|(simp -implicitDefEqProofs only [go_sem,Nat.reduceAdd,Nat.reduceMul,Nat.reduceEqDiff,Nat.reduceLT,Nat.reduceLeDiff,Nat.reduceSub,Nat.reduceBEq,reduceIte,reduceCtorEq,Int.reduceEq,Int.reduceNe,Nat.reduceBneDiff,Int.reduceLE,Int.reduceLT,Int.reduceToNat,Int.reduceAdd,Int.reduceSub,Int.reduceMul,Int.reduceNeg,Qk7,Qrm])|((with_reducible refine Qab (a0) ?_ ?_ ?_);(with_reducible rfl);rfl)|((with_reducible refine Qab (a1) ?_ ?_ ?_);(with_reducible rfl);rfl)|((with_reducible refine Qab (a2) ?_ ?_ ?_);(with_reducible rfl);rfl)|((with_reducible refine Qab (a3) ?_ ?_ ?_);(with_reducible rfl);rfl)|((with_reducible refine Qab (f0) ?_ ?_ ?_);(with_reducible rfl);rfl)|((with_reducible refine Qab (f1) ?_ ?_ ?_);(with_reducible rfl);rfl)|(with_reducible exact Qaa _ _ (by kernel_rfl))|(with_reducible refine And.intro (Qaa _ _ (by kernel_rfl)) ?_))
 refine Zcb mixed [0,1,2,3,4,5] (St.of [(1,.bp 101 5 0 0),(3,.int .i64 0),(4,.int .i64 7),(5,.nilS),(6,.int .i64 0)] [(101,{els:=[.agg [.int .i64 0,.int .i64 0,.int .i64 1000000,.int .i64 1125899906842624,.int .i64 0]],esz:=5,ety:=23,fro:=0,live:=true,arr:=false})]) (Qap (θ:=[(101,101)]) rfl ?_ ?_) ?_
 ·simp [Qaf,lkp,ren1,ren0,Qav]
 ·exact⟨⟨rfl,rfl,rfl,rfl,rfl,.inr ⟨rfl,_,_,rfl,rfl,rfl,rfl⟩⟩,trivial⟩
 repeat (first|(simp -implicitDefEqProofs only [go_sem,Nat.reduceAdd,Nat.reduceMul,Nat.reduceEqDiff,Nat.reduceLT,Nat.reduceLeDiff,Nat.reduceSub,Nat.reduceBEq,reduceIte,reduceCtorEq,Int.reduceEq,Int.reduceNe,Nat.reduceBneDiff,Int.reduceLE,Int.reduceLT,Int.reduceToNat,Int.reduceAdd,Int.reduceSub,Int.reduceMul,Int.reduceNeg,w5,c5,Qk7,Qrm,d0,d1,d2,d3,d4,m1,m2,m3,m4,m5,List.take_succ_cons,List.take_zero,List.drop_zero,List.length_cons,List.length_nil,List.nil_append,List.cons_append,beq_self_eq_true])|((with_reducible refine Qab (a2) ?_ ?_ ?_);(with_reducible rfl);rfl)|((with_reducible refine Qab (a3) ?_ ?_ ?_);(with_reducible rfl);rfl)|((with_reducible refine Qab (l0) ?_ ?_ ?_);(with_reducible rfl);rfl)|(with_reducible exact Qaa _ _ (by kernel_rfl))|(with_reducible refine And.intro (Qaa _ _ (by kernel_rfl)) ?_))
 refine⟨(St.of [(1,.bp 101 5 0 0),(3,.int .i64 0),(4,.int .i64 7),(5,.bs 21 6 0 1),(6,.int .i64 1)] [(101,{els:=[.agg [.int .i64 0,.int .i64 0,.int .i64 1000000,.int .i64 1125899906842624,.int .i64 0]],esz:=5,ety:=23,fro:=0,live:=true,arr:=false}),(21,{els:=[.agg [.int .i64 0,.int .i64 1,.int .i64 1,.slc [.int .i64 0,.int .i64 (524288)],.slc [.int .i64 0],.slc [.int .i64 0]]],esz:=6,ety:=26,fro:=0,live:=true,arr:=true})]),Qap (θ:=[(101,101),(21,1108)]) rfl ?_ ?_,?_⟩
 ·simp [Qaf,lkp,ren1,ren0,Qav]
 ·exact⟨⟨rfl,rfl,rfl,rfl,rfl,.inr ⟨rfl,_,_,rfl,rfl,rfl,rfl⟩⟩,⟨rfl,rfl,rfl,rfl,rfl,.inl ⟨rfl,rfl⟩⟩,trivial⟩
 repeat (first|(simp -implicitDefEqProofs only [go_sem,Nat.reduceAdd,Nat.reduceMul,Nat.reduceEqDiff,Nat.reduceLT,Nat.reduceLeDiff,Nat.reduceSub,Nat.reduceBEq,reduceIte,reduceCtorEq,Int.reduceEq,Int.reduceNe,Nat.reduceBneDiff,Int.reduceLE,Int.reduceLT,Int.reduceToNat,Int.reduceAdd,Int.reduceSub,Int.reduceMul,Int.reduceNeg,w5,c5,Qk7,Qrm,d0,d1,d2,d3,d4,m1,m2,m3,m4,m5,List.take_succ_cons,List.take_zero,List.drop_zero,List.length_cons,List.length_nil,List.nil_append,List.cons_append,beq_self_eq_true])|((with_reducible refine Qab (a2) ?_ ?_ ?_);(with_reducible rfl);rfl)|((with_reducible refine Qab (a3) ?_ ?_ ?_);(with_reducible rfl);rfl)|((with_reducible refine Qab (l1) ?_ ?_ ?_);(with_reducible rfl);rfl)|(with_reducible exact Qaa _ _ (by kernel_rfl))|(with_reducible refine And.intro (Qaa _ _ (by kernel_rfl)) ?_))
 refine⟨(St.of [(1,.bp 101 5 0 0),(3,.int .i64 0),(4,.int .i64 7),(5,.bs 22 6 0 2),(6,.int .i64 2)] [(101,{els:=[.agg [.int .i64 0,.int .i64 0,.int .i64 1000000,.int .i64 1125899906842624,.int .i64 0]],esz:=5,ety:=23,fro:=0,live:=true,arr:=false}),(22,{els:=[.agg [.int .i64 0,.int .i64 1,.int .i64 1,.slc [.int .i64 0,.int .i64 (524288)],.slc [.int .i64 0],.slc [.int .i64 0]],.agg [.int .i64 1,.int .i64 2,.int .i64 1,.slc [.int .i64 524288,.int .i64 (-524288)],.slc [.int .i64 0],.slc [.int .i64 0]]],esz:=6,ety:=26,fro:=0,live:=true,arr:=true})]),Qap (θ:=[(101,101),(22,1108)]) rfl ?_ ?_,?_⟩
 ·simp [Qaf,lkp,ren1,ren0,Qav]
 ·exact⟨⟨rfl,rfl,rfl,rfl,rfl,.inr ⟨rfl,_,_,rfl,rfl,rfl,rfl⟩⟩,⟨rfl,rfl,rfl,rfl,rfl,.inl ⟨rfl,rfl⟩⟩,trivial⟩
 repeat (first|(simp -implicitDefEqProofs only [go_sem,Nat.reduceAdd,Nat.reduceMul,Nat.reduceEqDiff,Nat.reduceLT,Nat.reduceLeDiff,Nat.reduceSub,Nat.reduceBEq,reduceIte,reduceCtorEq,Int.reduceEq,Int.reduceNe,Nat.reduceBneDiff,Int.reduceLE,Int.reduceLT,Int.reduceToNat,Int.reduceAdd,Int.reduceSub,Int.reduceMul,Int.reduceNeg,w5,c5,Qk7,Qrm,d0,d1,d2,d3,d4,m1,m2,m3,m4,m5,List.take_succ_cons,List.take_zero,List.drop_zero,List.length_cons,List.length_nil,List.nil_append,List.cons_append,beq_self_eq_true])|((with_reducible refine Qab (a2) ?_ ?_ ?_);(with_reducible rfl);rfl)|((with_reducible refine Qab (a3) ?_ ?_ ?_);(with_reducible rfl);rfl)|((with_reducible refine Qab (l2) ?_ ?_ ?_);(with_reducible rfl);rfl)|(with_reducible exact Qaa _ _ (by kernel_rfl))|(with_reducible refine And.intro (Qaa _ _ (by kernel_rfl)) ?_))
 refine⟨(St.of [(1,.bp 101 5 0 0),(3,.int .i64 0),(4,.int .i64 7),(5,.bs 23 6 0 3),(6,.int .i64 3)] [(101,{els:=[.agg [.int .i64 0,.int .i64 0,.int .i64 1000000,.int .i64 1125899906842624,.int .i64 0]],esz:=5,ety:=23,fro:=0,live:=true,arr:=false}),(23,{els:=[.agg [.int .i64 0,.int .i64 1,.int .i64 1,.slc [.int .i64 0,.int .i64 (524288)],.slc [.int .i64 0],.slc [.int .i64 0]],.agg [.int .i64 1,.int .i64 2,.int .i64 1,.slc [.int .i64 524288,.int .i64 (-524288)],.slc [.int .i64 0],.slc [.int .i64 0]],.agg [.int .i64 2,.int .i64 3,.int .i64 1,.slc [.int .i64 0,.int .i64 (524288)],.slc [.int .i64 0],.slc [.int .i64 0]]],esz:=6,ety:=26,fro:=0,live:=true,arr:=true})]),Qap (θ:=[(101,101),(23,1108)]) rfl ?_ ?_,?_⟩
 ·simp [Qaf,lkp,ren1,ren0,Qav]
 ·exact⟨⟨rfl,rfl,rfl,rfl,rfl,.inr ⟨rfl,_,_,rfl,rfl,rfl,rfl⟩⟩,⟨rfl,rfl,rfl,rfl,rfl,.inl ⟨rfl,rfl⟩⟩,trivial⟩
 repeat (first|(simp -implicitDefEqProofs only [go_sem,Nat.reduceAdd,Nat.reduceMul,Nat.reduceEqDiff,Nat.reduceLT,Nat.reduceLeDiff,Nat.reduceSub,Nat.reduceBEq,reduceIte,reduceCtorEq,Int.reduceEq,Int.reduceNe,Nat.reduceBneDiff,Int.reduceLE,Int.reduceLT,Int.reduceToNat,Int.reduceAdd,Int.reduceSub,Int.reduceMul,Int.reduceNeg,w5,c5,Qk7,Qrm,d0,d1,d2,d3,d4,m1,m2,m3,m4,m5,List.take_succ_cons,List.take_zero,List.drop_zero,List.length_cons,List.length_nil,List.nil_append,List.cons_append,beq_self_eq_true])|((with_reducible refine Qab (a2) ?_ ?_ ?_);(with_reducible rfl);rfl)|((with_reducible refine Qab (a3) ?_ ?_ ?_);(with_reducible rfl);rfl)|((with_reducible refine Qab (l3) ?_ ?_ ?_);(with_reducible rfl);rfl)|(with_reducible exact Qaa _ _ (by kernel_rfl))|(with_reducible refine And.intro (Qaa _ _ (by kernel_rfl)) ?_))
 refine⟨(St.of [(1,.bp 101 5 0 0),(3,.int .i64 0),(4,.int .i64 7),(5,.bs 24 6 0 4),(6,.int .i64 4)] [(101,{els:=[.agg [.int .i64 0,.int .i64 0,.int .i64 1000000,.int .i64 1125899906842624,.int .i64 0]],esz:=5,ety:=23,fro:=0,live:=true,arr:=false}),(24,{els:=[.agg [.int .i64 0,.int .i64 1,.int .i64 1,.slc [.int .i64 0,.int .i64 (524288)],.slc [.int .i64 0],.slc [.int .i64 0]],.agg [.int .i64 1,.int .i64 2,.int .i64 1,.slc [.int .i64 524288,.int .i64 (-524288)],.slc [.int .i64 0],.slc [.int .i64 0]],.agg [.int .i64 2,.int .i64 3,.int .i64 1,.slc [.int .i64 0,.int .i64 (524288)],.slc [.int .i64 0],.slc [.int .i64 0]],.agg [.int .i64 3,.int .i64 4,.int .i64 1,.slc [.int .i64 524288,.int .i64 (-524288)],.slc [.int .i64 0],.slc [.int .i64 0]]],esz:=6,ety:=26,fro:=0,live:=true,arr:=true})]),Qap (θ:=[(101,101),(24,1108)]) rfl ?_ ?_,?_⟩
 ·simp [Qaf,lkp,ren1,ren0,Qav]
 ·exact⟨⟨rfl,rfl,rfl,rfl,rfl,.inr ⟨rfl,_,_,rfl,rfl,rfl,rfl⟩⟩,⟨rfl,rfl,rfl,rfl,rfl,.inl ⟨rfl,rfl⟩⟩,trivial⟩
 repeat (first|(simp -implicitDefEqProofs only [go_sem,Nat.reduceAdd,Nat.reduceMul,Nat.reduceEqDiff,Nat.reduceLT,Nat.reduceLeDiff,Nat.reduceSub,Nat.reduceBEq,reduceIte,reduceCtorEq,Int.reduceEq,Int.reduceNe,Nat.reduceBneDiff,Int.reduceLE,Int.reduceLT,Int.reduceToNat,Int.reduceAdd,Int.reduceSub,Int.reduceMul,Int.reduceNeg,w5,c5,Qk7,Qrm,d0,d1,d2,d3,d4,m1,m2,m3,m4,m5,List.take_succ_cons,List.take_zero,List.drop_zero,List.length_cons,List.length_nil,List.nil_append,List.cons_append,beq_self_eq_true])|((with_reducible refine Qab (a2) ?_ ?_ ?_);(with_reducible rfl);rfl)|((with_reducible refine Qab (a3) ?_ ?_ ?_);(with_reducible rfl);rfl)|((with_reducible refine Qab (l4) ?_ ?_ ?_);(with_reducible rfl);rfl)|(with_reducible exact Qaa _ _ (by kernel_rfl))|(with_reducible refine And.intro (Qaa _ _ (by kernel_rfl)) ?_))
 refine⟨(St.of [(1,.bp 101 5 0 0),(3,.int .i64 0),(4,.int .i64 7),(5,.bs 25 6 0 5),(6,.int .i64 5)] [(101,{els:=[.agg [.int .i64 0,.int .i64 0,.int .i64 1000000,.int .i64 1125899906842624,.int .i64 0]],esz:=5,ety:=23,fro:=0,live:=true,arr:=false}),(25,{els:=[.agg [.int .i64 0,.int .i64 1,.int .i64 1,.slc [.int .i64 0,.int .i64 (524288)],.slc [.int .i64 0],.slc [.int .i64 0]],.agg [.int .i64 1,.int .i64 2,.int .i64 1,.slc [.int .i64 524288,.int .i64 (-524288)],.slc [.int .i64 0],.slc [.int .i64 0]],.agg [.int .i64 2,.int .i64 3,.int .i64 1,.slc [.int .i64 0,.int .i64 (524288)],.slc [.int .i64 0],.slc [.int .i64 0]],.agg [.int .i64 3,.int .i64 4,.int .i64 1,.slc [.int .i64 524288,.int .i64 (-524288)],.slc [.int .i64 0],.slc [.int .i64 0]],.agg [.int .i64 4,.int .i64 5,.int .i64 1,.slc [.int .i64 0,.int .i64 (524288)],.slc [.int .i64 0],.slc [.int .i64 0]]],esz:=6,ety:=26,fro:=0,live:=true,arr:=true})]),Qap (θ:=[(101,101),(25,1108)]) rfl ?_ ?_,?_⟩
 ·simp [Qaf,lkp,ren1,ren0,Qav]
 ·exact⟨⟨rfl,rfl,rfl,rfl,rfl,.inr ⟨rfl,_,_,rfl,rfl,rfl,rfl⟩⟩,⟨rfl,rfl,rfl,rfl,rfl,.inl ⟨rfl,rfl⟩⟩,trivial⟩
 repeat (first|(simp -implicitDefEqProofs only [go_sem,Nat.reduceAdd,Nat.reduceMul,Nat.reduceEqDiff,Nat.reduceLT,Nat.reduceLeDiff,Nat.reduceSub,Nat.reduceBEq,reduceIte,reduceCtorEq,Int.reduceEq,Int.reduceNe,Nat.reduceBneDiff,Int.reduceLE,Int.reduceLT,Int.reduceToNat,Int.reduceAdd,Int.reduceSub,Int.reduceMul,Int.reduceNeg,w5,c5,Qk7,Qrm,d0,d1,d2,d3,d4,m1,m2,m3,m4,m5,List.take_succ_cons,List.take_zero,List.drop_zero,List.length_cons,List.length_nil,List.nil_append,List.cons_append,beq_self_eq_true])|((with_reducible refine Qab (g1) ?_ ?_ ?_);(with_reducible rfl);rfl)|((with_reducible refine Qab (g2) ?_ ?_ ?_);(with_reducible rfl);rfl)|((with_reducible refine Qab (g3) ?_ ?_ ?_);(with_reducible rfl);rfl)|((with_reducible refine Qab (g4) ?_ ?_ ?_);(with_reducible rfl);rfl)|((with_reducible refine Qab (hk) ?_ ?_ ?_);(with_reducible rfl);rfl)|(with_reducible exact Qaa _ _ (by kernel_rfl))|(with_reducible refine And.intro (Qaa _ _ (by kernel_rfl)) ?_))
end Go.Proofs.YtciddhkfbgkejaaDoor

namespace Go.Vl
open Go.RowKit
section
variable {H:Type} {enc:TypeId×Value→H}
theorem Qkz {a:Assume} {C:Checked} {os:Os} {f:FuncId} {fn:Func} {s:ChangeSpec} {conds:List PathCond} {apart fresh handsOn again:Bool} {tb:TypeId} {L:List (String×DataW Unit)} (tts:List TT)
  (own:ownKnob C.prog.godebug=none) (started:os.Started) (noInit:C.prog.inits.idxOf? f=none) (hfn:C.prog.funcs[f]? =some fn)
  (witness: ∃(w:World) (tape:Tape) (i:Input),w.os=os∧(w.forCall tape i).Shaped C.prog∧i.vars=[]∧Input.okWide C.prog (w.forCall tape i) .any w.heap.size f i∧
   ((s.pre enc C.prog fn conds apart (w.forCall tape i).memory i.args∧laidMetH C.prog L (w.forCall tape i).memory)∧sizedMet enc C.prog fn (OpenSpec.ofChange s) apart (w.forCall tape i).memory i.args)∧a.holds C.prog (lone (Frame.enter C.prog f i.args .normal) [] (w.forCall tape i)))
  (hl:laidOutB C.prog=true) (hvars:s.vars=[]) (hres:fn.resultTypes= #[tb]) (hbool:C.prog.underlying tb=some .bool) (hts:(fn.params.toList.all fun t=>C.prog.readableRec t&&decide (t<C.prog.types.size))=true)
  (hfit:Qij C.prog tts fn.params.toList=true) (hs: ∀ds:List (DataW H),ds.length=tts.length→s.fn H ds={results:=[.lit (.bool true)],args:=ds})
  (hcl:callable C.prog f=true) (hlay: ∀W:World,laidMetH C.prog L W→Laid C.prog W.heap.size W) (law: ∀pvs,Qri tts pvs→Qae C.prog f pvs (.bool true)):
  ReturnsInHanded a C os f .any (fun w args=>(s.pre enc C.prog fn conds apart w args∧laidMetH C.prog L w)∧sizedMet enc C.prog fn (OpenSpec.ofChange s) apart w args) (s.post enc C.prog fn apart fresh handsOn again):=by
 refine returnsInHanded_of_change_and (X:=fun w _=>laidMetH C.prog L w) (fun _ _ _ hh h=>h.of_heap hh) own started noInit hfn witness ?_
 intro W base args ds gs before hval hW q1 q2 q3 q4
 have hW':=hW
 obtain⟨p,q,hA,hV,rfl,hz,hn⟩:=hW
 rw [hvars]at hV
 obtain⟨rfl,rfl⟩:=ChangeShapes.trodVars_none hV
 obtain⟨pvs,h1,h2,h3⟩:=Qtj tts fn.params.toList args.toList ds p hfit (fun j t v e1 e2=>hval j t v (by simpa using e1) (by simpa using e2)) hA
 have hts': ∀t∈fn.params.toList,C.prog.readableRec t=true∧t<C.prog.types.size:=by
  intro t ht
  have:=List.all_eq_true.1 hts t ht
  simpa using this
 have hcall:=((law pvs h1).resolve_right (fun x=>by rw [hcl]at x;cases x.1)).2 W (exIm W) args.toList W.heap.size (Nat.le_refl _) (hlay W (by first|exact q1|exact q2|exact q3|exact q4)) h2 (fun g j x=>x)
 refine(by simpa using hcall:Calls C.prog f args W _).mono ?_
 rintro e W' ⟨v,rfl,hb,hr⟩
 have hv:v= .bool true:=by cases hr;rfl
 subst hv
 exact⟨_,rfl,Qrj hl hvars hres hbool hts' hW' (by rw [List.append_nil];exact hs ds h3) hb⟩
end
end Go.Vl
