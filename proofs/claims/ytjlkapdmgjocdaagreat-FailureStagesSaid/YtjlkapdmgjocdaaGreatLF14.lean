/-
  LF13, LF14 (merged for the claim).
-/
import Derived.Test.YtjlkapdmgjocdaaGreatLF12
import Derived.Test.YtjlkapdmgjocdaaGreatRows
import Derived.Test.YtjlkapdmgjocdaaGreatUYD
set_option linter.unusedSimpArgs false
set_option linter.unusedVariables false
namespace Go.Proofs.YtjlkapdmgjocdaaGreat
open Go.Vl Go.RowKit Go.Dg
theorem Q1k {l:List Mv} {j:Nat} (h:j<l.length):((l.map Mv.to).map v3PV)[j]? =some (.agg [.int .i64 (l.getD j mv0).to.x,.int .i64 (l.getD j mv0).to.y,.int .i64 (l.getD j mv0).to.z]):=by
 rw [List.map_map,List.getElem?_map,List.getElem?_eq_getElem h,List.getD_eq_getElem?_getD,List.getElem?_eq_getElem h];rfl
set_option maxHeartbeats 2000000 in
theorem Qir (p:Pg) (i t j k:Int):Qai Tryz.prog 3 [pgV p,.agg [.int .i64 i,.int .i64 t],.agg [.int .i64 j,.int .i64 k]] (.bool true):=by
 have hFw:=Qxs p
 have hKn:=Qmk
 by_cases hfew:FewP p
 case neg=>
  have e0:decide (FewP p)=false:=decide_eq_false hfew
  rw [e0]at hFw
  unfold pgV at hFw ⊢
  refine Qab (tb:=[]) 65 [.tmp 6] [0,1,2,3,4,5,6,7,8,11,34,38] mixed Tryz.func3 rfl (by kernel_rfl) (by kernel_rfl) (by kernel_rfl) (by kernel_rfl) ?_
  repeat (first|(simp -implicitDefEqProofs only [go_sem,Nat.reduceAdd,Nat.reduceMul,Nat.reduceEqDiff,Nat.reduceLT,Nat.reduceLeDiff,reduceCtorEq,Bool.not_false])|((with_reducible refine Qaa (hFw) ?_ ?_ ?_);(with_reducible rfl);rfl)|((with_reducible refine Qaa (hKn) ?_ ?_ ?_);(with_reducible rfl);rfl)|(with_reducible exact Qac _ _ (by kernel_rfl))|(with_reducible refine And.intro (Qac _ _ (by kernel_rfl)) ?_))
 have ok:=Qnt hfew
 have e0:decide (FewP p)=true:=decide_eq_true hfew
 rw [e0]at hFw
 have c1:=Qhs p ok j k
 have c2:=Qmn p ok j k
 have f1:=Qj0 p ok i t
 have f2:=Qnx p ok i t
 cases e:Qei p i t with
 |false=>
  have hO:=Of_v p ok i t 0 (by rw [e];exact fun h=>absurd h Bool.false_ne_true)
  rw [e]at hO f1 f2
  rw [if_neg Bool.false_ne_true,if_neg Bool.false_ne_true,if_neg Bool.false_ne_true]at hO
  generalize Qc9 p j k=cb at*
  unfold pgV at*
  refine Qab (tb:=[]) 65 [.tmp 6] [0,1,2,3,4,5,6,7,8,11,34,38] mixed Tryz.func3 rfl (by kernel_rfl) (by kernel_rfl) (by kernel_rfl) (by kernel_rfl) ?_
  repeat (first|(simp -implicitDefEqProofs only [go_sem,Nat.reduceAdd,Nat.reduceMul,Nat.reduceEqDiff,Nat.reduceLT,Nat.reduceLeDiff,reduceCtorEq,Bool.not_true,Bool.not_false,bne_self_eq_false,BEq.rfl,Bool.and_self,Bool.true_and,Bool.and_true,Bool.or_false,Int.reduceBNe,Int.reduceBEq,decide_true,decide_false])|((with_reducible refine Qaa (hFw) ?_ ?_ ?_);(with_reducible rfl);rfl)|((with_reducible refine Qaa (hKn) ?_ ?_ ?_);(with_reducible rfl);rfl)|((with_reducible refine Qaa (c1) ?_ ?_ ?_);(with_reducible rfl);rfl)|((with_reducible refine Qaa (c2) ?_ ?_ ?_);(with_reducible rfl);rfl)|((with_reducible refine Qaa (f1) ?_ ?_ ?_);(with_reducible rfl);rfl)|((with_reducible refine Qaa (f2) ?_ ?_ ?_);(with_reducible rfl);rfl)|((with_reducible refine Qaa (hO) ?_ ?_ ?_);(with_reducible rfl);rfl)|(with_reducible exact Qac _ _ (by kernel_rfl))|(with_reducible refine And.intro (Qac _ _ (by kernel_rfl)) ?_))
 |true=>
  obtain⟨v,i1,i2,a1,t1,t2⟩:=Qc8 e
  obtain⟨K,hK⟩:=Qns (p:=p) (t:=t) a1 t1
  have hO:=Of_v p ok i t K (fun _=>hK)
  have hA:=Qw9 p v t K hK
  rw [e]at hO f1 f2
  rw [if_pos rfl,if_pos rfl,if_pos rfl]at hO
  generalize Qc9 p j k=cb at*
  unfold pgV at*
  refine Qab (tb:=[]) 65 [.tmp 6] [0,1,2,3,4,5,6,7,8,11,34,38] mixed Tryz.func3 rfl (by kernel_rfl) (by kernel_rfl) (by kernel_rfl) (by kernel_rfl) ?_
  repeat (first|(simp -implicitDefEqProofs only [go_sem,Nat.reduceAdd,Nat.reduceMul,Nat.reduceEqDiff,Nat.reduceLT,Nat.reduceLeDiff,reduceCtorEq,Bool.not_true,Bool.not_false,bne_self_eq_false,BEq.rfl,Bool.and_self,Bool.true_and,Bool.and_true,Bool.or_false,Int.reduceBNe,Int.reduceBEq,decide_true,decide_false])|((with_reducible refine Qaa (hFw) ?_ ?_ ?_);(with_reducible rfl);rfl)|((with_reducible refine Qaa (hKn) ?_ ?_ ?_);(with_reducible rfl);rfl)|((with_reducible refine Qaa (c1) ?_ ?_ ?_);(with_reducible rfl);rfl)|((with_reducible refine Qaa (c2) ?_ ?_ ?_);(with_reducible rfl);rfl)|((with_reducible refine Qaa (f1) ?_ ?_ ?_);(with_reducible rfl);rfl)|((with_reducible refine Qaa (f2) ?_ ?_ ?_);(with_reducible rfl);rfl)|((with_reducible refine Qaa (hO) ?_ ?_ ?_);(with_reducible rfl);rfl)|((with_reducible refine Qaa (hA) ?_ ?_ ?_);(with_reducible rfl);rfl)|(with_reducible exact Qac _ _ (by kernel_rfl))|(with_reducible refine And.intro (Qac _ _ (by kernel_rfl)) ?_))
set_option maxHeartbeats 2000000 in
theorem Qjz (p:Pg) (i k:Int):Qai Tryz.prog 6 [pgV p,.agg [.int .i64 i,.int .i64 k]] (.bool true):=by
 have hFw:=Qxs p
 have hKn:=Qmk
 by_cases hfew:FewP p
 case neg=>
  have e0:decide (FewP p)=false:=decide_eq_false hfew
  rw [e0]at hFw
  unfold pgV at hFw ⊢
  refine Qab (tb:=[]) 94 [.tmp 4] [0,1,2,3,4,5,6,7,8,9,10,13,30] mixed Tryz.func6 rfl (by kernel_rfl) (by kernel_rfl) (by kernel_rfl) (by kernel_rfl) ?_
  repeat (first|(simp -implicitDefEqProofs only [go_sem,Nat.reduceAdd,Nat.reduceMul,Nat.reduceEqDiff,Nat.reduceLT,Nat.reduceLeDiff,reduceCtorEq,Bool.not_false])|((with_reducible refine Qaa (hFw) ?_ ?_ ?_);(with_reducible rfl);rfl)|((with_reducible refine Qaa (hKn) ?_ ?_ ?_);(with_reducible rfl);rfl)|(with_reducible exact Qac _ _ (by kernel_rfl))|(with_reducible refine And.intro (Qac _ _ (by kernel_rfl)) ?_))
 have ok:=Qnt hfew
 have e0:decide (FewP p)=true:=decide_eq_true hfew
 rw [e0]at hFw
 have c2:=Qmn p ok i k
 have hE:=Q1i p ok i k
 have hP:=Qqs p ok i k
 unfold ptA v3PV at hP
 cases e:Qc9 p i k with
 |false=>
  rw [e]at hE hP c2
  rw [if_neg Bool.false_ne_true,if_neg Bool.false_ne_true]at hE hP
  unfold pgV at*
  refine Qab (tb:=[]) 94 [.tmp 4] [0,1,2,3,4,5,6,7,8,9,10,13,30] mixed Tryz.func6 rfl (by kernel_rfl) (by kernel_rfl) (by kernel_rfl) (by kernel_rfl) ?_
  repeat (first|(simp -implicitDefEqProofs only [go_sem,Nat.reduceAdd,Nat.reduceMul,Nat.reduceEqDiff,Nat.reduceLT,Nat.reduceLeDiff,reduceCtorEq,Bool.not_true,Bool.not_false,bne_self_eq_false,BEq.rfl,Bool.and_self,Bool.true_and,Bool.and_true,Bool.or_false,Int.reduceBNe,Int.reduceBEq,decide_true,decide_false])|((with_reducible refine Qaa (hFw) ?_ ?_ ?_);(with_reducible rfl);rfl)|((with_reducible refine Qaa (hKn) ?_ ?_ ?_);(with_reducible rfl);rfl)|((with_reducible refine Qaa (c2) ?_ ?_ ?_);(with_reducible rfl);rfl)|((with_reducible refine Qaa (hE) ?_ ?_ ?_);(with_reducible rfl);rfl)|((with_reducible refine Qaa (hP) ?_ ?_ ?_);(with_reducible rfl);rfl)|(with_reducible exact Qac _ _ (by kernel_rfl))|(with_reducible refine And.intro (Qac _ _ (by kernel_rfl)) ?_))
 |true=>
  obtain⟨v,i1,i2,a1,a2⟩:=Qbz e
  obtain⟨m,rfl⟩: ∃m:Nat,k=(m:Int):=⟨k.toNat,by omega⟩
  obtain⟨j,rfl⟩: ∃m:Nat,i=(m:Int):=⟨i.toNat,by omega⟩
  have hpa:=(Qbd v).2.1
  have hF:=Qmi p ok v (m+1) (by omega)
  have hL:=Qk9 p v (m+1) (by omega) (m:Int) (by omega)
  have hwm:=wr_1 (n:=m) (by omega)
  have nj:=nn_T j
  have hml:=(Qbd v).2.2.1 (p.as_.getD m ac0) (by rw [List.getD_eq_getElem?_getD,List.getElem?_eq_getElem (by omega)];exact List.getElem_mem _)
  have gf:((Qck p (m+1)).map v3PV)[j]? =some (.agg [.int .i64 ((p.as_.getD m ac0).mv.getD j mv0).to.x,.int .i64 ((p.as_.getD m ac0).mv.getD j mv0).to.y,.int .i64 ((p.as_.getD m ac0).mv.getD j mv0).to.z]):=by
   have hj:j<(p.as_.getD m ac0).mv.length:=by omega
   unfold Qck
   rw [if_neg (Nat.succ_ne_zero m),Nat.add_sub_cancel]
   exact Q1k hj
  have hfl:((j:Int)<((Qck p (m+1)).length:Int))=True:=by
   have:(Qck p (m+1)).length=(p.as_.getD m ac0).mv.length:=by
    unfold Qck
    rw [if_neg (Nat.succ_ne_zero m),Nat.add_sub_cancel,List.length_map]
   exact eq_true (by omega)
  rw [e]at hE hP c2
  rw [if_pos rfl,if_pos rfl]at hE hP
  simp only [Int.toNat_natCast]at hE hP
  unfold psV at hF
  generalize ((p.as_.getD m ac0).mv.getD j mv0).to=P at*
  generalize begT p (m+1)=T at*
  generalize Qck p (m+1)=FL at*
  unfold pgV at*
  refine Qab (tb:=[]) 94 [.tmp 4] [0,1,2,3,4,5,6,7,8,9,10,13,30] mixed Tryz.func6 rfl (by kernel_rfl) (by kernel_rfl) (by kernel_rfl) (by kernel_rfl) ?_
  repeat (first|(simp -implicitDefEqProofs only [go_sem,Nat.reduceAdd,Nat.reduceMul,Nat.reduceEqDiff,Nat.reduceLT,Nat.reduceLeDiff,reduceCtorEq,Bool.not_true,Bool.not_false,bne_self_eq_false,BEq.rfl,Bool.and_self,Bool.true_and,Bool.and_true,Bool.or_false,Int.reduceBNe,Int.reduceBEq,decide_true,decide_false,hwm,nj,gf,hfl,Int.toNat_natCast,List.length_map])|((with_reducible refine Qaa (hFw) ?_ ?_ ?_);(with_reducible rfl);rfl)|((with_reducible refine Qaa (hKn) ?_ ?_ ?_);(with_reducible rfl);rfl)|((with_reducible refine Qaa (c2) ?_ ?_ ?_);(with_reducible rfl);rfl)|((with_reducible refine Qaa (hE) ?_ ?_ ?_);(with_reducible rfl);rfl)|((with_reducible refine Qaa (hP) ?_ ?_ ?_);(with_reducible rfl);rfl)|((with_reducible refine Qaa (hF) ?_ ?_ ?_);(with_reducible rfl);rfl)|((with_reducible refine Qaa (hL) ?_ ?_ ?_);(with_reducible rfl);rfl)|(with_reducible exact Qac _ _ (by kernel_rfl))|(with_reducible refine And.intro (Qac _ _ (by kernel_rfl)) ?_))
set_option maxHeartbeats 4000000 in
theorem Qho (p:Pg) (i t one at_:Int):Qai Tryz.prog 4 [pgV p,.agg [.int .i64 i,.int .i64 t],.int .i64 one,.int .i64 at_] (.bool true):=by
 have hFw:=Qxs p
 have hKn:=Qmk
 by_cases hfew:FewP p
 case neg=>
  have e0:decide (FewP p)=false:=decide_eq_false hfew
  rw [e0]at hFw
  unfold pgV at hFw ⊢
  refine Qab (tb:=[]) 97 [.tmp 8] [0,1,2,3,4,5,8,9,10,11,14,38,59,78,86] mixed Tryz.func4 rfl (by kernel_rfl) (by kernel_rfl) (by kernel_rfl) (by kernel_rfl) ?_
  repeat (first|(simp -implicitDefEqProofs only [go_sem,Nat.reduceAdd,Nat.reduceMul,Nat.reduceEqDiff,Nat.reduceLT,Nat.reduceLeDiff,reduceCtorEq,Bool.not_false])|((with_reducible refine Qaa (hFw) ?_ ?_ ?_);(with_reducible rfl);rfl)|((with_reducible refine Qaa (hKn) ?_ ?_ ?_);(with_reducible rfl);rfl)|(with_reducible exact Qac _ _ (by kernel_rfl))|(with_reducible refine And.intro (Qac _ _ (by kernel_rfl)) ?_))
 have ok:=Qnt hfew
 have e0:decide (FewP p)=true:=decide_eq_true hfew
 rw [e0]at hFw
 have f2:=Qnx p ok i t
 cases e:Qei p i t with
 |false=>
  have hS:=Qet p ok i t one at_ 0 (by rw [e];exact fun h=>absurd h Bool.false_ne_true)
  unfold stV stE stG at hS
  rw [e]at hS f2
  simp only [Bool.false_and,Bool.false_eq_true,if_false]at hS
  unfold pgV at*
  refine Qab (tb:=[]) 97 [.tmp 8] [0,1,2,3,4,5,8,9,10,11,14,38,59,78,86] mixed Tryz.func4 rfl (by kernel_rfl) (by kernel_rfl) (by kernel_rfl) (by kernel_rfl) ?_
  repeat (first|(simp -implicitDefEqProofs only [go_sem,Nat.reduceAdd,Nat.reduceMul,Nat.reduceEqDiff,Nat.reduceLT,Nat.reduceLeDiff,reduceCtorEq,Bool.not_true,Bool.not_false,bne_self_eq_false,BEq.rfl,Bool.and_self,Bool.true_and,Bool.and_true,Bool.or_false,Int.reduceBNe,Int.reduceBEq,decide_true,decide_false,List.length_map])|((with_reducible refine Qaa (hFw) ?_ ?_ ?_);(with_reducible rfl);rfl)|((with_reducible refine Qaa (hKn) ?_ ?_ ?_);(with_reducible rfl);rfl)|((with_reducible refine Qaa (f2) ?_ ?_ ?_);(with_reducible rfl);rfl)|((with_reducible refine Qaa (hS) ?_ ?_ ?_);(with_reducible rfl);rfl)|(with_reducible exact Qac _ _ (by kernel_rfl))|(with_reducible refine And.intro (Qac _ _ (by kernel_rfl)) ?_))
 |true=>
 obtain⟨v,i1,i2,a1,t1,t2⟩:=Qc8 e
 obtain⟨K,hK⟩:=Qns (p:=p) (t:=t) a1 t1
 have hpa:=(Qbd v).2.1
 have hS:=Qet p ok i t one at_ K (fun _=>hK)
 have hA:=Qw9 p v t K hK
 have hE1:=Qk9 p v p.as_.length (Nat.le_refl _) ((p.as_.length:Int)-1) rfl
 have hE2:=Qk9 p v (K+1) hK.1 (K:Int) (by omega)
 have w1:IntKind.i64.wrap ((p.as_.length:Int)-1)=(p.as_.length:Int)-1:=Qak (by omega) (by omega)
 unfold stV stE stG at hS
 rw [e]at hS f2
 by_cases e1:0≤one
 case neg=>
  have e1':(one<0)=True:=eq_true (by omega)
  rw [decide_eq_false e1]at hS
  simp only [Bool.false_and,Bool.and_false,Bool.false_eq_true,if_false]at hS
  unfold pgV at*
  refine Qab (tb:=[]) 97 [.tmp 8] [0,1,2,3,4,5,8,9,10,11,14,38,59,78,86] mixed Tryz.func4 rfl (by kernel_rfl) (by kernel_rfl) (by kernel_rfl) (by kernel_rfl) ?_
  repeat (first|(simp -implicitDefEqProofs only [go_sem,Nat.reduceAdd,Nat.reduceMul,Nat.reduceEqDiff,Nat.reduceLT,Nat.reduceLeDiff,reduceCtorEq,Bool.not_true,Bool.not_false,bne_self_eq_false,BEq.rfl,Bool.and_self,Bool.true_and,Bool.and_true,Bool.or_false,Int.reduceBNe,Int.reduceBEq,decide_true,decide_false,List.length_map,e1'])|((with_reducible refine Qaa (hFw) ?_ ?_ ?_);(with_reducible rfl);rfl)|((with_reducible refine Qaa (hKn) ?_ ?_ ?_);(with_reducible rfl);rfl)|((with_reducible refine Qaa (f2) ?_ ?_ ?_);(with_reducible rfl);rfl)|((with_reducible refine Qaa (hS) ?_ ?_ ?_);(with_reducible rfl);rfl)|(with_reducible exact Qac _ _ (by kernel_rfl))|(with_reducible refine And.intro (Qac _ _ (by kernel_rfl)) ?_))
 have e1':(one<0)=False:=eq_false (by omega)
 by_cases e2:one<(p.ns.length:Int)
 case neg=>
  have e2':((p.ns.length:Int)≤one)=True:=eq_true (by omega)
  rw [decide_eq_false e2]at hS
  simp only [Bool.false_and,Bool.and_false,Bool.false_eq_true,if_false]at hS
  unfold pgV at*
  refine Qab (tb:=[]) 97 [.tmp 8] [0,1,2,3,4,5,8,9,10,11,14,38,59,78,86] mixed Tryz.func4 rfl (by kernel_rfl) (by kernel_rfl) (by kernel_rfl) (by kernel_rfl) ?_
  repeat (first|(simp -implicitDefEqProofs only [go_sem,Nat.reduceAdd,Nat.reduceMul,Nat.reduceEqDiff,Nat.reduceLT,Nat.reduceLeDiff,reduceCtorEq,Bool.not_true,Bool.not_false,bne_self_eq_false,BEq.rfl,Bool.and_self,Bool.true_and,Bool.and_true,Bool.or_false,Int.reduceBNe,Int.reduceBEq,decide_true,decide_false,List.length_map,e1',e2'])|((with_reducible refine Qaa (hFw) ?_ ?_ ?_);(with_reducible rfl);rfl)|((with_reducible refine Qaa (hKn) ?_ ?_ ?_);(with_reducible rfl);rfl)|((with_reducible refine Qaa (f2) ?_ ?_ ?_);(with_reducible rfl);rfl)|((with_reducible refine Qaa (hS) ?_ ?_ ?_);(with_reducible rfl);rfl)|(with_reducible exact Qac _ _ (by kernel_rfl))|(with_reducible refine And.intro (Qac _ _ (by kernel_rfl)) ?_))
 have e2':((p.ns.length:Int)≤one)=False:=eq_false (by omega)
 rw [decide_eq_true e1,decide_eq_true e2]at hS
 simp only [Bool.true_and,if_true]at hS
 unfold stH at hS
 by_cases e3:0≤at_
 case neg=>
  have e3':(at_<0)=True:=eq_true (by omega)
  rw [decide_eq_false e3]at hS
  simp only [Bool.false_and,Bool.and_false,Bool.false_eq_true,if_false]at hS
  unfold pgV at*
  refine Qab (tb:=[]) 97 [.tmp 8] [0,1,2,3,4,5,8,9,10,11,14,38,59,78,86] mixed Tryz.func4 rfl (by kernel_rfl) (by kernel_rfl) (by kernel_rfl) (by kernel_rfl) ?_
  repeat (first|(simp -implicitDefEqProofs only [go_sem,Nat.reduceAdd,Nat.reduceMul,Nat.reduceEqDiff,Nat.reduceLT,Nat.reduceLeDiff,reduceCtorEq,Bool.not_true,Bool.not_false,bne_self_eq_false,BEq.rfl,Bool.and_self,Bool.true_and,Bool.and_true,Bool.or_false,Int.reduceBNe,Int.reduceBEq,decide_true,decide_false,List.length_map,e1',e2',e3'])|((with_reducible refine Qaa (hFw) ?_ ?_ ?_);(with_reducible rfl);rfl)|((with_reducible refine Qaa (hKn) ?_ ?_ ?_);(with_reducible rfl);rfl)|((with_reducible refine Qaa (f2) ?_ ?_ ?_);(with_reducible rfl);rfl)|((with_reducible refine Qaa (hS) ?_ ?_ ?_);(with_reducible rfl);rfl)|(with_reducible exact Qac _ _ (by kernel_rfl))|(with_reducible refine And.intro (Qac _ _ (by kernel_rfl)) ?_))
 have e3':(at_<0)=False:=eq_false (by omega)
 rw [decide_eq_true e3]at hS
 by_cases e4:at_≤begT p p.as_.length
 case neg=>
  have e4':(begT p p.as_.length<at_)=True:=eq_true (by omega)
  rw [decide_eq_false e4]at hS
  simp only [Bool.false_and,Bool.and_false,Bool.false_eq_true,if_false]at hS
  unfold pgV at*
  refine Qab (tb:=[]) 97 [.tmp 8] [0,1,2,3,4,5,8,9,10,11,14,38,59,78,86] mixed Tryz.func4 rfl (by kernel_rfl) (by kernel_rfl) (by kernel_rfl) (by kernel_rfl) ?_
  repeat (first|(simp -implicitDefEqProofs only [go_sem,Nat.reduceAdd,Nat.reduceMul,Nat.reduceEqDiff,Nat.reduceLT,Nat.reduceLeDiff,reduceCtorEq,Bool.not_true,Bool.not_false,bne_self_eq_false,BEq.rfl,Bool.and_self,Bool.true_and,Bool.and_true,Bool.or_false,Int.reduceBNe,Int.reduceBEq,decide_true,decide_false,List.length_map,e1',e2',e3',e4',w1])|((with_reducible refine Qaa (hFw) ?_ ?_ ?_);(with_reducible rfl);rfl)|((with_reducible refine Qaa (hKn) ?_ ?_ ?_);(with_reducible rfl);rfl)|((with_reducible refine Qaa (f2) ?_ ?_ ?_);(with_reducible rfl);rfl)|((with_reducible refine Qaa (hS) ?_ ?_ ?_);(with_reducible rfl);rfl)|((with_reducible refine Qaa (hE1) ?_ ?_ ?_);(with_reducible rfl);rfl)|(with_reducible exact Qac _ _ (by kernel_rfl))|(with_reducible refine And.intro (Qac _ _ (by kernel_rfl)) ?_))
 have e4':(begT p p.as_.length<at_)=False:=eq_false (by omega)
 rw [decide_eq_true e4]at hS
 simp only [Bool.true_and,if_true]at hS
 unfold stN at hS
 by_cases e5:one=i
 case neg=>
  have e5':(one==i)=false:=beq_eq_false_iff_ne.2 e5
  rw [if_pos (.inl e5)]at hS
  unfold pgV at*
  refine Qab (tb:=[]) 97 [.tmp 8] [0,1,2,3,4,5,8,9,10,11,14,38,59,78,86] mixed Tryz.func4 rfl (by kernel_rfl) (by kernel_rfl) (by kernel_rfl) (by kernel_rfl) ?_
  repeat (first|(simp -implicitDefEqProofs only [go_sem,Nat.reduceAdd,Nat.reduceMul,Nat.reduceEqDiff,Nat.reduceLT,Nat.reduceLeDiff,reduceCtorEq,Bool.not_true,Bool.not_false,bne_self_eq_false,BEq.rfl,Bool.and_self,Bool.true_and,Bool.and_true,Bool.or_false,Int.reduceBNe,Int.reduceBEq,decide_true,decide_false,List.length_map,e1',e2',e3',e4',e5',w1])|((with_reducible refine Qaa (hFw) ?_ ?_ ?_);(with_reducible rfl);rfl)|((with_reducible refine Qaa (hKn) ?_ ?_ ?_);(with_reducible rfl);rfl)|((with_reducible refine Qaa (f2) ?_ ?_ ?_);(with_reducible rfl);rfl)|((with_reducible refine Qaa (hS) ?_ ?_ ?_);(with_reducible rfl);rfl)|((with_reducible refine Qaa (hE1) ?_ ?_ ?_);(with_reducible rfl);rfl)|(with_reducible exact Qac _ _ (by kernel_rfl))|(with_reducible refine And.intro (Qac _ _ (by kernel_rfl)) ?_))
 have e5':(one==i)=true:=beq_iff_eq.2 e5
 by_cases e6:at_<t
 ·have e6':(t≤at_)=False:=eq_false (by omega)
  rw [if_pos (.inr e6)]at hS
  unfold pgV at*
  refine Qab (tb:=[]) 97 [.tmp 8] [0,1,2,3,4,5,8,9,10,11,14,38,59,78,86] mixed Tryz.func4 rfl (by kernel_rfl) (by kernel_rfl) (by kernel_rfl) (by kernel_rfl) ?_
  repeat (first|(simp -implicitDefEqProofs only [go_sem,Nat.reduceAdd,Nat.reduceMul,Nat.reduceEqDiff,Nat.reduceLT,Nat.reduceLeDiff,reduceCtorEq,Bool.not_true,Bool.not_false,bne_self_eq_false,BEq.rfl,Bool.and_self,Bool.true_and,Bool.and_true,Bool.or_false,Int.reduceBNe,Int.reduceBEq,decide_true,decide_false,List.length_map,e1',e2',e3',e4',e5',e6',w1])|((with_reducible refine Qaa (hFw) ?_ ?_ ?_);(with_reducible rfl);rfl)|((with_reducible refine Qaa (hKn) ?_ ?_ ?_);(with_reducible rfl);rfl)|((with_reducible refine Qaa (f2) ?_ ?_ ?_);(with_reducible rfl);rfl)|((with_reducible refine Qaa (hS) ?_ ?_ ?_);(with_reducible rfl);rfl)|((with_reducible refine Qaa (hE1) ?_ ?_ ?_);(with_reducible rfl);rfl)|(with_reducible exact Qac _ _ (by kernel_rfl))|(with_reducible refine And.intro (Qac _ _ (by kernel_rfl)) ?_))
 have e6':(t≤at_)=True:=eq_true (by omega)
 rw [if_neg (by omega)]at hS
 by_cases e7:at_<begT p (K+1)
 ·have e7':(begT p (K+1)≤at_)=False:=eq_false (by omega)
  rw [if_pos e7]at hS
  unfold pgV at*
  refine Qab (tb:=[]) 97 [.tmp 8] [0,1,2,3,4,5,8,9,10,11,14,38,59,78,86] mixed Tryz.func4 rfl (by kernel_rfl) (by kernel_rfl) (by kernel_rfl) (by kernel_rfl) ?_
  repeat (first|(simp -implicitDefEqProofs only [go_sem,Nat.reduceAdd,Nat.reduceMul,Nat.reduceEqDiff,Nat.reduceLT,Nat.reduceLeDiff,reduceCtorEq,Bool.not_true,Bool.not_false,bne_self_eq_false,BEq.rfl,Bool.and_self,Bool.true_and,Bool.and_true,Bool.or_false,Int.reduceBNe,Int.reduceBEq,decide_true,decide_false,List.length_map,e1',e2',e3',e4',e5',e6',e7',w1])|((with_reducible refine Qaa (hFw) ?_ ?_ ?_);(with_reducible rfl);rfl)|((with_reducible refine Qaa (hKn) ?_ ?_ ?_);(with_reducible rfl);rfl)|((with_reducible refine Qaa (f2) ?_ ?_ ?_);(with_reducible rfl);rfl)|((with_reducible refine Qaa (hS) ?_ ?_ ?_);(with_reducible rfl);rfl)|((with_reducible refine Qaa (hE1) ?_ ?_ ?_);(with_reducible rfl);rfl)|((with_reducible refine Qaa (hE2) ?_ ?_ ?_);(with_reducible rfl);rfl)|((with_reducible refine Qaa (hA) ?_ ?_ ?_);(with_reducible rfl);rfl)|(with_reducible exact Qac _ _ (by kernel_rfl))|(with_reducible refine And.intro (Qac _ _ (by kernel_rfl)) ?_))
 ·have e7':(begT p (K+1)≤at_)=True:=eq_true (by omega)
  rw [if_neg e7]at hS
  unfold pgV at*
  refine Qab (tb:=[]) 97 [.tmp 8] [0,1,2,3,4,5,8,9,10,11,14,38,59,78,86] mixed Tryz.func4 rfl (by kernel_rfl) (by kernel_rfl) (by kernel_rfl) (by kernel_rfl) ?_
  repeat (first|(simp -implicitDefEqProofs only [go_sem,Nat.reduceAdd,Nat.reduceMul,Nat.reduceEqDiff,Nat.reduceLT,Nat.reduceLeDiff,reduceCtorEq,Bool.not_true,Bool.not_false,bne_self_eq_false,BEq.rfl,Bool.and_self,Bool.true_and,Bool.and_true,Bool.or_false,Int.reduceBNe,Int.reduceBEq,decide_true,decide_false,List.length_map,e1',e2',e3',e4',e5',e6',e7',w1])|((with_reducible refine Qaa (hFw) ?_ ?_ ?_);(with_reducible rfl);rfl)|((with_reducible refine Qaa (hKn) ?_ ?_ ?_);(with_reducible rfl);rfl)|((with_reducible refine Qaa (f2) ?_ ?_ ?_);(with_reducible rfl);rfl)|((with_reducible refine Qaa (hS) ?_ ?_ ?_);(with_reducible rfl);rfl)|((with_reducible refine Qaa (hE1) ?_ ?_ ?_);(with_reducible rfl);rfl)|((with_reducible refine Qaa (hE2) ?_ ?_ ?_);(with_reducible rfl);rfl)|((with_reducible refine Qaa (hA) ?_ ?_ ?_);(with_reducible rfl);rfl)|(with_reducible exact Qac _ _ (by kernel_rfl))|(with_reducible refine And.intro (Qac _ _ (by kernel_rfl)) ?_))
end Go.Proofs.YtjlkapdmgjocdaaGreat

namespace Go.Proofs.YtjlkapdmgjocdaaGreat
open Go.Vl Go.RowKit Go.Dg
theorem own:ownKnob Tryz.prog.godebug=none:=by kernel_rfl
theorem Qml:laidOutB Tryz.prog=true:=by kernel_rfl
theorem Qxt:Tryz.prog.globalNamed Qms=none∧Tryz.prog.globalNamed Qr5=none:=⟨by kernel_rfl,by kernel_rfl⟩
theorem Qnu {c:List PV} (h:Qbg (.int .i64) c): ∃n:Int,TT.mk (.int .i64) c= .int .i64 n:=by
 simp only [Qbg]at h
 obtain⟨x,rfl,hx⟩:=h
 exact⟨x,rfl⟩
theorem Qhp {e:TT} {α:Type} {f:α→PV} (hf: ∀c,Qbg e c→ ∃a,e.mk c=f a): ∀ess:List (List PV),(∀c∈ess,Qbg e c)→ ∃l:List α,ess.map e.mk=l.map f∧l.length=ess.length
 | [],_=>⟨[],rfl,rfl⟩
 |c::cs,h=>by
  obtain⟨a,ha⟩:=hf c (h c (by simp))
  obtain⟨l,hl,hn⟩:=Qhp hf cs (fun c hc=>h c (by simp [hc]))
  exact⟨a::l,by simp [ha,hl],by simp [hn]⟩
def vecT:TT:= .agg [.int .i64,.int .i64,.int .i64]
def Qqu:TT:= .agg [vecT,.int .i64,.int .i64,.int .i64]
def actT:TT:= .agg [.str,.int .i64,.slc Qqu]
def Qot:TT:= .agg [.slc .str,.slc vecT,.slc actT]
def Qmm:TT:= .agg [.int .i64,.int .i64]
theorem Qtq {c:List PV} (h:Qbg .str c): ∃s:ByteArray,TT.mk .str c= .str s:=by
 simp only [Qbg]at h
 obtain⟨s,rfl,hs⟩:=h
 exact⟨s,rfl⟩
theorem Qtr {c:List PV} (h:Qbg vecT c): ∃v:V3,vecT.mk c=v3PV v:=by
 simp only [vecT,Qbg,Qcg]at h
 obtain⟨_,_,rfl,⟨x,rfl,_⟩,_,_,rfl,⟨y,rfl,_⟩,_,_,rfl,⟨z,rfl,_⟩,rfl⟩:=h
 exact⟨⟨x,y,z⟩,rfl⟩
theorem Qqv {c:List PV} (h:Qbg Qqu c): ∃m:Mv,Qqu.mk c=mvV m:=by
 simp only [Qqu,vecT,Qbg,Qcg]at h
 obtain⟨_,_,rfl,⟨_,_,rfl,⟨x,rfl,_⟩,_,_,rfl,⟨y,rfl,_⟩,_,_,rfl,⟨z,rfl,_⟩,rfl⟩,_,_,rfl,⟨w,rfl,_⟩,_,_,rfl,⟨f,rfl,_⟩,_,_,rfl,⟨r,rfl,_⟩,rfl⟩:=h
 exact⟨⟨⟨x,y,z⟩,w,f,r⟩,rfl⟩
theorem Qts {c:List PV} (h:Qbg actT c): ∃a:Ac,actT.mk c=acV a:=by
 simp only [actT,Qbg,Qcg]at h
 obtain⟨_,_,rfl,⟨s,rfl,_⟩,_,_,rfl,⟨n,rfl,_⟩,_,_,rfl,⟨em,rfl,mm,hm⟩,rfl⟩:=h
 obtain⟨l,e,_⟩:=Qhp (f:=mvV) (fun c h=>Qqv h) em hm
 refine⟨⟨s,n,l⟩,?_⟩
 show PV.agg [.str s,.int .i64 n,.slc (em.map Qqu.mk)]=_
 rw [e];rfl
theorem Qhq {c:List PV} (h:Qbg Qot c): ∃p:Pg,Qot.mk c=pgV p:=by
 simp only [Qot,Qcg]at h
 rw [Qbg]at h
 simp only [Qcg]at h
 obtain⟨_,_,rfl,hn,_,_,rfl,hh,_,_,rfl,ha,rfl⟩:=h
 rw [Qbg]at hn hh ha
 obtain⟨en,rfl,mn,hn⟩:=hn
 obtain⟨eh,rfl,mh,hh⟩:=hh
 obtain⟨ea,rfl,ma,ha⟩:=ha
 obtain⟨ns,e1,_⟩:=Qhp (f:=PV.str) (fun c h=>Qtq h) en hn
 obtain⟨hs,e2,_⟩:=Qhp (f:=v3PV) (fun c h=>Qtr h) eh hh
 obtain⟨as_,e3,_⟩:=Qhp (f:=acV) (fun c h=>Qts h) ea ha
 refine⟨⟨ns,hs,as_⟩,?_⟩
 show PV.agg [.slc (en.map (TT.mk .str)),.slc (eh.map vecT.mk),.slc (ea.map actT.mk)]=_
 rw [e1,e2,e3];rfl
theorem Qe7 {c:List PV} (h:Qbg Qmm c): ∃a b:Int,Qmm.mk c= .agg [.int .i64 a,.int .i64 b]:=by
 simp only [Qmm,Qbg,Qcg]at h
 obtain⟨_,_,rfl,⟨x,rfl,_⟩,_,_,rfl,⟨y,rfl,_⟩,rfl⟩:=h
 exact⟨x,y,rfl⟩
def Qqw:Value:= .agg #[.slice none 0 0,.slice none 0 0,.slice none 0 0]
def Qhb:Value:= .agg #[.int .i64 0,.int .i64 0]
end Go.Proofs.YtjlkapdmgjocdaaGreat
