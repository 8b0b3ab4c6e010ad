/-
  SM21, SM22, SM23, SM24, SM25, SM26, SM27, SM8s, SM28, SY1, SY9 (merged for the claim).
-/
import Derived.Test.YtlpiamlgibomhaaGreatSM20
import Derived.Test.YtlpiamlgibomhaaGreatSM9
import Derived.Test.YtlpiamlgibomhaaGreatDsg
import Derived.Test.YtlpiamlgibomhaaGreatRows
import Derived.Test.YtlpiamlgibomhaaGreatUV
import Derived.Test.YtlpiamlgibomhaaGreatSM4
set_option linter.unusedSimpArgs false
set_option linter.unusedVariables false
namespace Go.Proofs.YtlpiamlgibomhaaGreat
open Go.Vl Go.RowKit Go.Dg
def Qoz (S:List (Sg×Int×Int)):PV:=if S.all spF=true then .tup [Qat (S.map spS),.int .i64 0]else .tup [Qat [],.int .i64 7]
theorem Qkt {x:Sg×Int×Int} (h:spF x=true):spO x=[sgPV (spS x),.bool true]:=by
 unfold spO ptSS
 have h':ptF x.1 x.2.1 x.2.2=true:=h
 rw [if_pos h',h];rfl
theorem Zgj {x:Sg×Int×Int} (h:spF x=false):spO x=[sgPV ⟨x.2.1,x.2.2,0,[],[],[]⟩,.bool false]:=by
 unfold spO ptSS
 have h': ¬ptF x.1 x.2.1 x.2.2=true:=by intro e;have:spF x=true:=e;rw [h]at this;cases this
 rw [if_neg h',h]
def cuB (S:List (Sg×Int×Int)):Nat→List (Nat×Box)
 |0=>[(1000000,{els:=[.nilS],esz:=1,ety:=27,fro:=0,live:=true,arr:=false}),(1000001,{els:=[.int .i64 0],esz:=1,ety:=34,fro:=0,live:=true,arr:=false})]
 |k+1=>[(1000000,{els:=[.bs 7 6 0 (k+1)],esz:=1,ety:=27,fro:=0,live:=true,arr:=false}),(1000001,{els:=[.int .i64 0],esz:=1,ety:=34,fro:=0,live:=true,arr:=false}),(7,{els:=((S.take (k+1)).map spS).map sgPV,esz:=6,ety:=24,fro:=0,live:=true,arr:=true})]
theorem Zgk (S:List (Sg×Int×Int)) (k:Nat): ∀b∈ [1000000,1000001],(lkp (cuB S k) b).isSome=true:=by
 cases k<;>simp [cuB,lkp]
theorem Q0o {S:List (Sg×Int×Int)} {k:Nat} {x:Sg×Int×Int} (hx:S[k]? =some x):((S.take (k+1)).map spS).map sgPV=((S.take k).map spS).map sgPV++[.agg [.int .i64 (spS x).f,.int .i64 (spS x).t,.int .i64 (spS x).o,.slc ((spS x).x.map (PV.int .i64)),.slc ((spS x).y.map (PV.int .i64)),.slc ((spS x).z.map (PV.int .i64))]]:=by
 obtain⟨hk,rfl⟩:=List.getElem?_eq_some_iff.1 hx
 rw [Qbm S k hk,List.map_append,List.map_append];rfl
theorem Q0p {S:List (Sg×Int×Int)} {k:Nat} (h:k≤S.length):(((S.take k).map spS).map sgPV).length=k:=by simp;omega
def cuC (S:List (Sg×Int×Int)) (m k:Nat):List (Nat×Box):=if k=m+1 then [(1000000,{els:=[.nilS],esz:=1,ety:=27,fro:=0,live:=true,arr:=false}),(1000001,{els:=[.int .i64 7],esz:=1,ety:=34,fro:=0,live:=true,arr:=false})]else cuB S k
set_option maxHeartbeats 2000000 in
theorem Zlx (p:List Sg) (f t:Int) (S:List (Sg×Int×Int)) (hS:S.length≤100000) (hY:Qmq Tryz.prog 138 [.rp [Qat p],.rp [.int .i64 f],.rp [.int .i64 t]] (S.map spO)):
  Qag Tryz.prog 68 [Qat p,.int .i64 f,.int .i64 t] (Qoz S):=by
 have h1:=Q7u p f t
 unfold Qat at h1 hY
 by_cases hn:S=[]
 ·subst hn
  unfold Qoz Qat
  refine Qac (tb:=[]) 23 [.cell 6 27,.cell 7 34] [0,1,2,6,7,8,9,13,14,15,17] mixed Tryz.func68 rfl (by kernel_rfl) (by kernel_rfl) (by kernel_rfl) (by kernel_rfl) ?_
  repeat (first|(simp -implicitDefEqProofs only [go_sem,Nat.reduceAdd,Nat.reduceMul,Nat.reduceEqDiff,Nat.reduceLT,Nat.reduceLeDiff,reduceCtorEq])|((with_reducible refine Qab (h1) ?_ ?_ ?_);(with_reducible rfl);rfl))
  refine Qp0 mixed hY rfl rfl _ rfl [(1000000,0),(1000001,1)] [1000000,1000001] rfl [(6,.bp 1000000 1 0 0),(7,.bp 1000001 1 0 0)] (cuB []) rfl rfl ?_ ?_ ?_ 0 .normal (fun h=>by simp at h) (fun k _ _=>Zgk [] k) (fun k args h=>by simp at h) rfl (fun k args h=>by simp at h)
   [(0,1000000),(1,1000001)] [(6,.bp 0 1 0 0),(7,.bp 1 1 0 0)] [(0,{els:=[.nilS],esz:=1,ety:=27,fro:=0,live:=true,arr:=false}),(1,{els:=[.int .i64 0],esz:=1,ety:=34,fro:=0,live:=true,arr:=false})] rfl rfl ?_ ?_ (fun _=> ?_) (fun h=>by simp at h)
  ·simp [Qad,lkp,ren1,ren0,Qap]
  ·exact⟨⟨rfl,rfl,rfl,rfl,rfl,.inr ⟨rfl,_,_,rfl,rfl,rfl,rfl⟩⟩,⟨rfl,rfl,rfl,rfl,rfl,.inr ⟨rfl,_,_,rfl,rfl,rfl,rfl⟩⟩,trivial⟩
  ·simp [Qad,lkp,ren1,ren0,Qap,Qrw]
  ·simp [Qad,lkp,ren1,ren0,Qap]
  ·exact⟨⟨rfl,rfl,rfl,rfl,rfl,.inr ⟨rfl,_,_,rfl,rfl,rfl,rfl⟩⟩,⟨rfl,rfl,rfl,rfl,rfl,.inr ⟨rfl,_,_,rfl,rfl,rfl,rfl⟩⟩,trivial⟩
  ·repeat (first|(simp -implicitDefEqProofs only [go_sem,Nat.reduceAdd,Nat.reduceMul,Nat.reduceEqDiff,Nat.reduceLT,Nat.reduceLeDiff,reduceCtorEq,List.map_nil,List.all_nil,if_true]))
 by_cases hall:S.all spF=true
 ·have hfine: ∀(k:Nat) (x:Sg×Int×Int),S[k]? =some x→spF x=true:=fun k x h=>List.all_eq_true.1 hall x (List.mem_of_getElem? h)
  unfold Qoz Qat
  rw [if_pos hall]
  obtain⟨n,hn1⟩: ∃n,S.length=n+1:=⟨S.length-1,by have:=List.length_pos_iff.2 hn;omega⟩
  have hmin:min (S.map spO).length (n+1+1)=n+1:=by rw [List.length_map];omega
  have htk:S.take (n+1)=S:=List.take_of_length_le (by omega)
  refine Qac (tb:=[]) 23 [.cell 6 27,.cell 7 34] [0,1,2,6,7,8,9,13,14,15,17] mixed Tryz.func68 rfl (by kernel_rfl) (by kernel_rfl) (by kernel_rfl) (by kernel_rfl) ?_
  repeat (first|(simp -implicitDefEqProofs only [go_sem,Nat.reduceAdd,Nat.reduceMul,Nat.reduceEqDiff,Nat.reduceLT,Nat.reduceLeDiff,reduceCtorEq])|((with_reducible refine Qab (h1) ?_ ?_ ?_);(with_reducible rfl);rfl))
  refine Qp0 mixed hY rfl rfl _ rfl [(1000000,0),(1000001,1)] [1000000,1000001] rfl [(6,.bp 1000000 1 0 0),(7,.bp 1000001 1 0 0)] (cuB S) rfl rfl ?_ ?_ ?_ (n+1) .normal (fun h=>by simp [hn1]at h) (fun k _ _=>Zgk S k) ?_ rfl ?_
   [(0,1000000),(1,1000001),(7,7)] [(6,.bp 0 1 0 0),(7,.bp 1 1 0 0)] [(0,{els:=[.bs 7 6 0 (n+1)],esz:=1,ety:=27,fro:=0,live:=true,arr:=false}),(1,{els:=[.int .i64 0],esz:=1,ety:=34,fro:=0,live:=true,arr:=false}),(7,{els:=(S.map spS).map sgPV,esz:=6,ety:=24,fro:=0,live:=true,arr:=true})] rfl rfl ?_ ?_ (fun _=> ?_) (fun h=>by simp [hn1]at h)
  ·simp [Qad,lkp,ren1,ren0,Qap]
  ·exact⟨⟨rfl,rfl,rfl,rfl,rfl,.inr ⟨rfl,_,_,rfl,rfl,rfl,rfl⟩⟩,⟨rfl,rfl,rfl,rfl,rfl,.inr ⟨rfl,_,_,rfl,rfl,rfl,rfl⟩⟩,trivial⟩
  ·simp [Qad,lkp,ren1,ren0,Qap,Qrw]
  ·intro k args h
   simp only [List.getElem?_map,Option.map_eq_some_iff]at h
   obtain⟨x, -,rfl⟩:=h
   rfl
  ·rintro k args hka hk
   simp only [List.getElem?_map,Option.map_eq_some_iff]at hka
   obtain⟨x,hx,rfl⟩:=hka
   have hkl:k<S.length:=(List.getElem?_eq_some_iff.1 hx).1
   have hlx:=Q0o hx
   cases k with
   |zero=>
    rw [Qkt (hfine _ _ hx)]
    skip
    simp only [cuB]
    have e0:((S.take 0).map spS).map sgPV=[]:=rfl
    rw [e0,List.nil_append]at hlx
    repeat (first|(simp -implicitDefEqProofs only [go_sem,Nat.reduceAdd,Nat.reduceMul,Nat.reduceEqDiff,Nat.reduceLT,Nat.reduceLeDiff,reduceCtorEq,pvars,List.toList_toArray,sgPV]))
    refine⟨by simp [lkp],?_⟩
    repeat (first|(simp -implicitDefEqProofs only [go_sem,Nat.reduceAdd,Nat.reduceMul,Nat.reduceEqDiff,Nat.reduceLT,Nat.reduceLeDiff,Nat.reduceSub,Nat.reduceBEq,reduceIte,reduceCtorEq,Int.reduceEq,Int.reduceNe,Nat.reduceBneDiff,Int.reduceLE,Int.reduceLT,Int.reduceToNat,Int.reduceAdd,Int.reduceSub,Int.reduceMul,Int.reduceNeg]))
    refine⟨by omega,?_⟩
    skip
    refine Qal (θ:=[(1000000,1000000),(1000001,1000001),(7,603)]) rfl ?_ ?_
    ·simp [Qad,lkp,ren1,ren0,Qap]
    ·simp only [cuB,hlx]
     exact⟨⟨rfl,rfl,rfl,rfl,rfl,.inr ⟨rfl,_,_,rfl,rfl,rfl,rfl⟩⟩,⟨rfl,rfl,rfl,rfl,rfl,.inr ⟨rfl,_,_,rfl,rfl,rfl,rfl⟩⟩,⟨rfl,rfl,rfl,rfl,rfl,.inl ⟨rfl,rfl⟩⟩,trivial⟩
   |succ k=>
    rw [Qkt (hfine _ _ hx)]
    skip
    simp only [cuB]
    have b1:=Q0p (S:=S) (k:=k+1) (by omega)
    have b2:((((S.take (k+1)).map spS).map sgPV).flatMap PV.cells).all PV.okCell=true:=Qh3 _
    have c1:((k+1+1)*96≤140737488355328)=True:=eq_true (by omega)
    have c2:(k+1+1≤maxLen)=True:=eq_true (by unfold maxLen;omega)
    generalize hT:((S.take (k+1)).map spS).map sgPV=T at*
    repeat (first|(simp -implicitDefEqProofs only [go_sem,Nat.reduceAdd,Nat.reduceMul,Nat.reduceEqDiff,Nat.reduceLT,Nat.reduceLeDiff,reduceCtorEq,Nat.reduceBneDiff,pvars,List.toList_toArray,sgPV]))
    refine⟨by simp [lkp],?_⟩
    repeat (first|(simp -implicitDefEqProofs only [go_sem,Nat.reduceAdd,Nat.reduceEqDiff,reduceCtorEq,b1,b2,c1,c2]))
    refine⟨by omega,?_⟩
    skip
    refine Qal (θ:=[(1000000,1000000),(1000001,1000001),(7,603)]) rfl ?_ ?_
    ·simp [Qad,lkp,ren1,ren0,Qap]
    ·simp only [cuB,hlx]
     exact⟨⟨rfl,rfl,rfl,rfl,rfl,.inr ⟨rfl,_,_,rfl,rfl,rfl,rfl⟩⟩,⟨rfl,rfl,rfl,rfl,rfl,.inr ⟨rfl,_,_,rfl,rfl,rfl,rfl⟩⟩,⟨rfl,rfl,rfl,rfl,rfl,.inl ⟨rfl,rfl⟩⟩,trivial⟩
  ·simp [Qad,lkp,ren1,ren0,Qap]
  ·rw [hmin]
   simp only [cuB]
   rw [htk]
   exact⟨⟨rfl,rfl,rfl,rfl,rfl,.inr ⟨rfl,_,_,rfl,rfl,rfl,rfl⟩⟩,⟨rfl,rfl,rfl,rfl,rfl,.inr ⟨rfl,_,_,rfl,rfl,rfl,rfl⟩⟩,⟨rfl,rfl,rfl,rfl,rfl,.inl ⟨rfl,rfl⟩⟩,trivial⟩
  ·have b1:((S.map spS).map sgPV).length=n+1:=by simp [hn1]
   have b2:(((S.map spS).map sgPV).flatMap PV.cells).all PV.okCell=true:=Qh3 _
   have b3:((S.map spS).map sgPV).take (n+1)=(S.map spS).map sgPV:=List.take_of_length_le (by omega)
   generalize (S.map spS).map sgPV=T at*
   repeat (first|(simp -implicitDefEqProofs only [go_sem,Nat.reduceAdd,Nat.reduceMul,Nat.reduceEqDiff,Nat.reduceLT,Nat.reduceLeDiff,reduceCtorEq,b1,b2,b3]))
 ·obtain⟨m,hm,hbad,hf⟩: ∃m,∃h:m<S.length,spF S[m]=false∧ ∀k,k<m→ ∀x,S[k]? =some x→spF x=true:=by
   have hex: ∃x∈S,(!spF x)=true:=Classical.byContradiction fun h=>hall (List.all_eq_true.2 fun x hx=>by
    cases e:spF x with
    |true=>rfl
    |false=>exact(h ⟨x,hx,by rw [e];rfl⟩).elim)
   have hlt:=List.findIdx_lt_length_of_exists hex
   refine⟨S.findIdx fun x=> !spF x,hlt,?_,fun k hk x hx=> ?_⟩
   ·have:=List.findIdx_getElem (w:=hlt);simpa using this
   ·obtain⟨hk2,rfl⟩:=List.getElem?_eq_some_iff.1 hx
    have:=List.not_of_lt_findIdx hk;simpa using this
  have hB1: ∀k,k≤m→cuC S m k=cuB S k:=fun k h=>if_neg (by omega)
  have hB2:cuC S m (m+1)=[(1000000,{els:=[.nilS],esz:=1,ety:=27,fro:=0,live:=true,arr:=false}),(1000001,{els:=[.int .i64 7],esz:=1,ety:=34,fro:=0,live:=true,arr:=false})]:=if_pos rfl
  have hN: ∀k,∀b∈ [1000000,1000001],(lkp (cuC S m k) b).isSome=true:=by
   intro k
   by_cases h:k=m+1
   ·rw [h,hB2];simp [lkp]
   ·rw [show cuC S m k=cuB S k from if_neg h];exact Zgk S k
  have hmin:min (S.map spO).length (m+1)=m+1:=by rw [List.length_map];omega
  have hC0:cuC S m 0=[(1000000,{els:=[.nilS],esz:=1,ety:=27,fro:=0,live:=true,arr:=false}),(1000001,{els:=[.int .i64 0],esz:=1,ety:=34,fro:=0,live:=true,arr:=false})]:=hB1 0 (Nat.zero_le _)
  unfold Qoz Qat
  rw [if_neg hall]
  refine Qac (tb:=[]) 23 [.cell 6 27,.cell 7 34] [0,1,2,6,7,8,9,13,14,15,17] mixed Tryz.func68 rfl (by kernel_rfl) (by kernel_rfl) (by kernel_rfl) (by kernel_rfl) ?_
  repeat (first|(simp -implicitDefEqProofs only [go_sem,Nat.reduceAdd,Nat.reduceMul,Nat.reduceEqDiff,Nat.reduceLT,Nat.reduceLeDiff,reduceCtorEq])|((with_reducible refine Qab (h1) ?_ ?_ ?_);(with_reducible rfl);rfl))
  refine Qp0 mixed hY rfl rfl _ rfl [(1000000,0),(1000001,1)] [1000000,1000001] rfl [(6,.bp 1000000 1 0 0),(7,.bp 1000001 1 0 0)] (cuC S m) rfl (by rw [hC0];rfl) ?_ ?_ ?_ m .ret (fun _=>rfl) (fun k _ _=>hN k) ?_ rfl ?_
   [(0,1000000),(1,1000001)] [(6,.bp 0 1 0 0),(7,.bp 1 1 0 0)] [(0,{els:=[.nilS],esz:=1,ety:=27,fro:=0,live:=true,arr:=false}),(1,{els:=[.int .i64 7],esz:=1,ety:=34,fro:=0,live:=true,arr:=false})] rfl rfl ?_ ?_ (fun h=>by rw [List.length_map]at h;omega) (fun _=> ?_)
  ·simp [Qad,lkp,ren1,ren0,Qap]
  ·rw [hC0]
   exact⟨⟨rfl,rfl,rfl,rfl,rfl,.inr ⟨rfl,_,_,rfl,rfl,rfl,rfl⟩⟩,⟨rfl,rfl,rfl,rfl,rfl,.inr ⟨rfl,_,_,rfl,rfl,rfl,rfl⟩⟩,trivial⟩
  ·simp [Qad,lkp,ren1,ren0,Qap,Qrw]
  ·intro k args h
   simp only [List.getElem?_map,Option.map_eq_some_iff]at h
   obtain⟨x, -,rfl⟩:=h
   rfl
  ·rintro k args hka hk
   simp only [List.getElem?_map,Option.map_eq_some_iff]at hka
   obtain⟨x,hx,rfl⟩:=hka
   by_cases hkm:k<m
   ·skip
    have hkl:k<S.length:=(List.getElem?_eq_some_iff.1 hx).1
    have hlx:=Q0o hx
    cases k with
    |zero=>
     rw [Qkt (hf _ hkm x hx)]
     rw [hB1 _ (Nat.le_of_lt hkm)]
     simp only [cuB]
     have e0:((S.take 0).map spS).map sgPV=[]:=rfl
     rw [e0,List.nil_append]at hlx
     repeat (first|(simp -implicitDefEqProofs only [go_sem,Nat.reduceAdd,Nat.reduceMul,Nat.reduceEqDiff,Nat.reduceLT,Nat.reduceLeDiff,reduceCtorEq,pvars,List.toList_toArray,sgPV]))
     refine⟨by simp [lkp],?_⟩
     repeat (first|(simp -implicitDefEqProofs only [go_sem,Nat.reduceAdd,Nat.reduceMul,Nat.reduceEqDiff,Nat.reduceLT,Nat.reduceLeDiff,Nat.reduceSub,Nat.reduceBEq,reduceIte,reduceCtorEq,Int.reduceEq,Int.reduceNe,Nat.reduceBneDiff,Int.reduceLE,Int.reduceLT,Int.reduceToNat,Int.reduceAdd,Int.reduceSub,Int.reduceMul,Int.reduceNeg]))
     refine⟨hkm,?_⟩
     rw [hB1 _ (by omega)]
     refine Qal (θ:=[(1000000,1000000),(1000001,1000001),(7,603)]) rfl ?_ ?_
     ·simp [Qad,lkp,ren1,ren0,Qap]
     ·simp only [cuB,hlx]
      exact⟨⟨rfl,rfl,rfl,rfl,rfl,.inr ⟨rfl,_,_,rfl,rfl,rfl,rfl⟩⟩,⟨rfl,rfl,rfl,rfl,rfl,.inr ⟨rfl,_,_,rfl,rfl,rfl,rfl⟩⟩,⟨rfl,rfl,rfl,rfl,rfl,.inl ⟨rfl,rfl⟩⟩,trivial⟩
    |succ k=>
     rw [Qkt (hf _ hkm x hx)]
     rw [hB1 _ (Nat.le_of_lt hkm)]
     simp only [cuB]
     have b1:=Q0p (S:=S) (k:=k+1) (by omega)
     have b2:((((S.take (k+1)).map spS).map sgPV).flatMap PV.cells).all PV.okCell=true:=Qh3 _
     have c1:((k+1+1)*96≤140737488355328)=True:=eq_true (by omega)
     have c2:(k+1+1≤maxLen)=True:=eq_true (by unfold maxLen;omega)
     generalize hT:((S.take (k+1)).map spS).map sgPV=T at*
     repeat (first|(simp -implicitDefEqProofs only [go_sem,Nat.reduceAdd,Nat.reduceMul,Nat.reduceEqDiff,Nat.reduceLT,Nat.reduceLeDiff,reduceCtorEq,Nat.reduceBneDiff,pvars,List.toList_toArray,sgPV]))
     refine⟨by simp [lkp],?_⟩
     repeat (first|(simp -implicitDefEqProofs only [go_sem,Nat.reduceAdd,Nat.reduceEqDiff,reduceCtorEq,b1,b2,c1,c2]))
     refine⟨hkm,?_⟩
     rw [hB1 _ (by omega)]
     refine Qal (θ:=[(1000000,1000000),(1000001,1000001),(7,603)]) rfl ?_ ?_
     ·simp [Qad,lkp,ren1,ren0,Qap]
     ·simp only [cuB,hlx]
      exact⟨⟨rfl,rfl,rfl,rfl,rfl,.inr ⟨rfl,_,_,rfl,rfl,rfl,rfl⟩⟩,⟨rfl,rfl,rfl,rfl,rfl,.inr ⟨rfl,_,_,rfl,rfl,rfl,rfl⟩⟩,⟨rfl,rfl,rfl,rfl,rfl,.inl ⟨rfl,rfl⟩⟩,trivial⟩
   ·obtain rfl:k=m:=by omega
    have hxb:spF x=false:=by
     obtain⟨_,rfl⟩:=List.getElem?_eq_some_iff.1 hx
     exact hbad
    rw [Zgj hxb,hB1 _ (Nat.le_refl _)]
    cases k with
    |zero=>
     simp only [cuB]
     repeat (first|(simp -implicitDefEqProofs only [go_sem,Nat.reduceAdd,Nat.reduceMul,Nat.reduceEqDiff,Nat.reduceLT,Nat.reduceLeDiff,reduceCtorEq,pvars,List.toList_toArray,sgPV]))
     refine⟨by simp [lkp],?_⟩
     repeat (first|(simp -implicitDefEqProofs only [go_sem,Nat.reduceAdd,Nat.reduceMul,Nat.reduceEqDiff,Nat.reduceLT,Nat.reduceLeDiff,Nat.reduceSub,Nat.reduceBEq,reduceIte,reduceCtorEq,Int.reduceEq,Int.reduceNe,Nat.reduceBneDiff,Int.reduceLE,Int.reduceLT,Int.reduceToNat,Int.reduceAdd,Int.reduceSub,Int.reduceMul,Int.reduceNeg]))
     refine⟨rfl,rfl,?_⟩
     rw [hB2]
     refine Qal (θ:=[(1000000,1000000),(1000001,1000001)]) rfl ?_ ?_
     ·simp [Qad,lkp,ren1,ren0,Qap]
     ·exact⟨⟨rfl,rfl,rfl,rfl,rfl,.inr ⟨rfl,_,_,rfl,rfl,rfl,rfl⟩⟩,⟨rfl,rfl,rfl,rfl,rfl,.inr ⟨rfl,_,_,rfl,rfl,rfl,rfl⟩⟩,trivial⟩
    |succ k=>
     simp only [cuB]
     generalize hT:((S.take (k+1)).map spS).map sgPV=T at*
     repeat (first|(simp -implicitDefEqProofs only [go_sem,Nat.reduceAdd,Nat.reduceMul,Nat.reduceEqDiff,Nat.reduceLT,Nat.reduceLeDiff,reduceCtorEq,pvars,List.toList_toArray,sgPV]))
     refine⟨by simp [lkp],?_⟩
     repeat (first|(simp -implicitDefEqProofs only [go_sem,Nat.reduceAdd,Nat.reduceMul,Nat.reduceEqDiff,Nat.reduceLT,Nat.reduceLeDiff,Nat.reduceSub,Nat.reduceBEq,reduceIte,reduceCtorEq,Int.reduceEq,Int.reduceNe,Nat.reduceBneDiff,Int.reduceLE,Int.reduceLT,Int.reduceToNat,Int.reduceAdd,Int.reduceSub,Int.reduceMul,Int.reduceNeg]))
     refine⟨rfl,rfl,?_⟩
     rw [hB2]
     refine Qal (θ:=[(1000000,1000000),(1000001,1000001)]) rfl ?_ ?_
     ·simp [Qad,lkp,ren1,ren0,Qap]
     ·exact⟨⟨rfl,rfl,rfl,rfl,rfl,.inr ⟨rfl,_,_,rfl,rfl,rfl,rfl⟩⟩,⟨rfl,rfl,rfl,rfl,rfl,.inr ⟨rfl,_,_,rfl,rfl,rfl,rfl⟩⟩,trivial⟩
  ·simp [Qad,lkp,ren1,ren0,Qap]
  ·rw [hmin,hB2]
   exact⟨⟨rfl,rfl,rfl,rfl,rfl,.inr ⟨rfl,_,_,rfl,rfl,rfl,rfl⟩⟩,⟨rfl,rfl,rfl,rfl,rfl,.inr ⟨rfl,_,_,rfl,rfl,rfl,rfl⟩⟩,trivial⟩
  ·rw [Zof]
   repeat (first|(simp -implicitDefEqProofs only [go_sem,Nat.reduceEqDiff,reduceCtorEq,List.map_nil]))
end Go.Proofs.YtlpiamlgibomhaaGreat

namespace Go.Proofs.YtlpiamlgibomhaaGreat
open Go.Vl Go.RowKit Go.Dg
def Qno (p:List Sg) (f t:Int):PV:=if Qbd p=true then(if pBeg p≤f∧f<t∧t≤pEnd p then Qoz (spans p f t)else .tup [Qat [],.int .i64 3])else .tup [Qat [],.int .i64 2]
theorem Q7v (S:List (Sg×Int×Int)): ∃X n,Qoz S= .tup [Qat X,.int .i64 n]:=by
 unfold Qoz;split<;>exact⟨_,_,rfl⟩
theorem Qi9 {p:List Sg} (h:Qbd p=true): ∀s∈p,Qa2 s=true:=by
 intro s hs
 obtain⟨i,hi,rfl⟩:=List.getElem_of_mem hs
 exact Qem h i hi
theorem Zej (p:List Sg) (f t:Int) (hp: ∀s∈p,okSg s) (hl:p.length≤100000):Qag Tryz.prog 23 [Qat p,.int .i64 f,.int .i64 t] (Qno p f t):=by
 have hs:=Qsu p hp (by omega)
 unfold Qno
 unfold Qat at hs
 cases hV:Qbd p with
 |false=>
  rw [hV]at hs
  simp only [Bool.false_eq_true,if_false]at hs
  unfold Qat
  refine Qac (tb:=[]) 41 [.tmp 6,.tmp 7] [0,1,2,6,7,8,9,10,17,21] mixed Tryz.func23 rfl (by kernel_rfl) (by kernel_rfl) (by kernel_rfl) (by kernel_rfl) ?_
  repeat (first|(simp -implicitDefEqProofs only [go_sem,Nat.reduceAdd,Nat.reduceMul,Nat.reduceEqDiff,Nat.reduceLT,Nat.reduceLeDiff,reduceCtorEq,Q71,Bool.false_eq_true,if_false,List.map_nil])|((with_reducible refine Qab (hs) ?_ ?_ ?_);(with_reducible rfl);rfl))
 |true=>
  rw [hV]at hs
  simp only [if_true]at hs ⊢
  have hv:=Qi9 hV
  have hc:=Zlx p f t (spans p f t) (Nat.le_trans (Qqf _ _ _) hl) (Q0n p f t hp hv hl)
  obtain⟨X,n,hX⟩:=Q7v (spans p f t)
  rw [hX]at hc ⊢
  unfold Qat at hc ⊢
  generalize pBeg p=A at*
  generalize pEnd p=B at*
  by_cases h1:A≤f
  ·have h1':(f<A)=False:=eq_false (by omega)
   by_cases h2:f<t
   ·have h2':(t≤f)=False:=eq_false (by omega)
    by_cases h3:t≤B
    ·have h3':(B<t)=False:=eq_false (by omega)
     rw [if_pos ⟨h1,h2,h3⟩]
     refine Qac (tb:=[]) 41 [.tmp 6,.tmp 7] [0,1,2,6,7,8,9,10,17,21] mixed Tryz.func23 rfl (by kernel_rfl) (by kernel_rfl) (by kernel_rfl) (by kernel_rfl) ?_
     repeat (first|(simp -implicitDefEqProofs only [go_sem,Nat.reduceAdd,Nat.reduceMul,Nat.reduceEqDiff,Nat.reduceLT,Nat.reduceLeDiff,reduceCtorEq,Qjb,h1',h2',h3',decide_false])|((with_reducible refine Qab (hs) ?_ ?_ ?_);(with_reducible rfl);rfl)|((with_reducible refine Qab (hc) ?_ ?_ ?_);(with_reducible rfl);rfl))
    ·have h3':(B<t)=True:=eq_true (by omega)
     rw [if_neg (by omega)]
     refine Qac (tb:=[]) 41 [.tmp 6,.tmp 7] [0,1,2,6,7,8,9,10,17,21] mixed Tryz.func23 rfl (by kernel_rfl) (by kernel_rfl) (by kernel_rfl) (by kernel_rfl) ?_
     repeat (first|(simp -implicitDefEqProofs only [go_sem,Nat.reduceAdd,Nat.reduceMul,Nat.reduceEqDiff,Nat.reduceLT,Nat.reduceLeDiff,reduceCtorEq,Qjb,h1',h2',h3',decide_false,decide_true,List.map_nil])|((with_reducible refine Qab (hs) ?_ ?_ ?_);(with_reducible rfl);rfl))
   ·have h2':(t≤f)=True:=eq_true (by omega)
    rw [if_neg (by omega)]
    refine Qac (tb:=[]) 41 [.tmp 6,.tmp 7] [0,1,2,6,7,8,9,10,17,21] mixed Tryz.func23 rfl (by kernel_rfl) (by kernel_rfl) (by kernel_rfl) (by kernel_rfl) ?_
    repeat (first|(simp -implicitDefEqProofs only [go_sem,Nat.reduceAdd,Nat.reduceMul,Nat.reduceEqDiff,Nat.reduceLT,Nat.reduceLeDiff,reduceCtorEq,Qjb,h1',h2',decide_false,decide_true,List.map_nil])|((with_reducible refine Qab (hs) ?_ ?_ ?_);(with_reducible rfl);rfl))
  ·have h1':(f<A)=True:=eq_true (by omega)
   rw [if_neg (by omega)]
   refine Qac (tb:=[]) 41 [.tmp 6,.tmp 7] [0,1,2,6,7,8,9,10,17,21] mixed Tryz.func23 rfl (by kernel_rfl) (by kernel_rfl) (by kernel_rfl) (by kernel_rfl) ?_
   repeat (first|(simp -implicitDefEqProofs only [go_sem,Nat.reduceAdd,Nat.reduceMul,Nat.reduceEqDiff,Nat.reduceLT,Nat.reduceLeDiff,reduceCtorEq,Qjb,h1',decide_false,decide_true,List.map_nil])|((with_reducible refine Qab (hs) ?_ ?_ ?_);(with_reducible rfl);rfl))
theorem Zop (p:List Sg):Qag Tryz.prog 77 [Qat p] (.fn 112 [] [.rp [Qat p]]):=by
 refine Qac (tb:=[]) 4 [.tmp 2] [0,1,2] mixed Tryz.func77 rfl (by kernel_rfl) (by kernel_rfl) (by kernel_rfl) (by kernel_rfl) ?_
 repeat (first|(simp -implicitDefEqProofs only [go_sem,Nat.reduceAdd,Nat.reduceMul,Nat.reduceEqDiff,Nat.reduceLT,Nat.reduceLeDiff,reduceCtorEq,Qat]))
def bwdO (p:List Sg) (j:Nat):List PV:=[.int .i64 ((p.length-1-j:Nat):Int),sgPV (p.getD (p.length-1-j) sg0)]
def Qd6 (p:List Sg):List (List PV):=(List.range p.length).map (bwdO p)
theorem Qw0 {p:List Sg} {k:Nat} (h:k<p.length):(Qd6 p).take (k+1)=(Qd6 p).take k++[bwdO p k]:=by
 have hk:k<(Qd6 p).length:=by simp [Qd6,h]
 rw [Qbm _ k hk];simp [Qd6]
set_option maxHeartbeats 1000000 in
theorem Zly (p:List Sg) (hl:p.length≤100000):Qmq Tryz.prog 112 [.rp [Qat p]] (Qd6 p):=by
 have w0:IntKind.i64.wrap ((p.length:Int)-1)=(p.length:Int)-1:=Qah (by omega) (by omega)
 refine Qrx (tb:=[]) 19 [0,1,3,8,18] mixed Tryz.func112 rfl (by kernel_rfl) (by kernel_rfl) (by kernel_rfl) (by kernel_rfl) fun l stop=> ?_
 repeat (first|(simp -implicitDefEqProofs only [go_sem,Nat.reduceAdd,Nat.reduceMul,Nat.reduceEqDiff,Nat.reduceLT,Nat.reduceLeDiff,reduceCtorEq,Qat,w0,List.length_map]))
 refine Qas mixed (fun k:{k:Nat // k≤p.length∧k≤stop}=>St.ofG [(0,.yld l stop),(1,.rp [Qat p]),(3,.int .i64 ((p.length:Int)-1-(k.1:Int)))] [] ((Qd6 p).take k.1) (some (l,stop,Qd6 p))) (fun k=>p.length-k.1) ⟨0,Nat.zero_le _,Nat.zero_le _⟩ ?_ ?_
 ·refine Qa1 ?_
  simp [Qad,lkp,ren1,ren0,Qap,Qat]
 ·rintro⟨k,hk,hst⟩
  simp only
  by_cases hA:k<p.length
  ·have e1:(p.length:Int)-1-(k:Int)=((p.length-1-k:Nat):Int):=by omega
   have n0:=nnT (p.length-1-k)
   have hi:p.length-1-k<p.length:=by omega
   have hg:=Qcc p (p.length-1-k) hi
   have hgt:(Qd6 p)[((Qd6 p).take k).length]? =some (bwdO p k):=by
    have:((Qd6 p).take k).length=k:=by rw [List.length_take];simp [Qd6];omega
    rw [this];simp [Qd6,hA]
   have hlen:((Qd6 p).take k).length=k:=by rw [List.length_take];simp [Qd6];omega
   have hst':(k≤stop)=True:=eq_true hst
   have htk:=Qw0 hA
   have hO:bwdO p k=[.int .i64 ((p.length-1-k:Nat):Int),sgPV p[p.length-1-k]]:=by unfold bwdO;rw [sgD hi]
   rw [hO]at hgt htk
   unfold sgPV Qan at hgt htk
   have w1:IntKind.i64.wrap (((p.length-1-k:Nat):Int)-1)=(p.length:Int)-1-((k+1:Nat):Int):=by rw [Qah (by omega) (by omega)];omega
   rw [hlen]at hgt
   generalize p[p.length-1-k]=s at*
   rw [e1]
   by_cases hlt:k<stop
   ·have hlt':(k<stop)=True:=eq_true hlt
    repeat (first|(simp -implicitDefEqProofs only [go_sem,Nat.reduceAdd,Nat.reduceMul,Nat.reduceEqDiff,Nat.reduceLT,Nat.reduceLeDiff,reduceCtorEq,n0,hg,hlen,hgt,hst',hlt',w1,Int.toNat_natCast,List.length_map]))
    refine⟨⟨k+1,hA,hlt⟩,by simp only;omega,?_⟩
    simp only [htk]
    refine Qa1 ?_
    simp [Qad,lkp,ren1,ren0,Qap,Qat]
   ·have hlt':(k<stop)=False:=eq_false hlt
    have e:k=stop:=by omega
    subst e
    repeat (first|(simp -implicitDefEqProofs only [go_sem,Nat.reduceAdd,Nat.reduceMul,Nat.reduceEqDiff,Nat.reduceLT,Nat.reduceLeDiff,reduceCtorEq,n0,hg,hlen,hgt,hst',hlt',w1,Qm7,htk,Int.toNat_natCast,List.length_map]))
  ·have e1:(p.length:Int)-1-(k:Int)= -1:=by omega
   have ht:(Qd6 p).take (stop+1)=(Qd6 p).take k:=by
    rw [List.take_of_length_le (by simp [Qd6];omega),List.take_of_length_le (by simp [Qd6];omega)]
   rw [e1]
   repeat (first|(simp -implicitDefEqProofs only [go_sem,Nat.reduceAdd,Nat.reduceMul,Nat.reduceEqDiff,Nat.reduceLT,Nat.reduceLeDiff,reduceCtorEq,Int.reduceLE,Int.reduceNeg,Qm7,ht,List.length_map]))
end Go.Proofs.YtlpiamlgibomhaaGreat

namespace Go.Proofs.YtlpiamlgibomhaaGreat
open Go.Vl Go.RowKit Go.Dg
theorem Zgl (l:List Int):((l.map (PV.int .i64)).all fun e=>e.cells.length==1&&e.cells.all PV.okCell)=true:=by
 rw [List.all_map,List.all_eq_true];intro _ _;rfl
theorem Qso (l:List Int) (hl:l≠ []) (hl2:l.length≤100000):Qag Tryz.prog 75 [Qan l] (Qan l):=by
 have h0:(l.map (PV.int .i64)).isEmpty=false:=by cases l with|nil=>exact absurd rfl hl|cons=>rfl
 have h1:(l.length*8≤140737488355328)=True:=eq_true (by omega)
 have h2:(l.length≤maxLen)=True:=eq_true (by unfold maxLen;omega)
 have h3:(l.map (PV.int .i64)).take l.length=l.map (PV.int .i64):=List.take_of_length_le (by simp)
 have h4:=Qlm l
 refine Qac (tb:=[]) 8 [.tmp 2] [0,2,4] mixed Tryz.func75 rfl (by kernel_rfl) (by kernel_rfl) (by kernel_rfl) (by kernel_rfl) ?_
 repeat (first|(simp -implicitDefEqProofs only [go_sem,Nat.reduceAdd,Nat.reduceMul,Nat.reduceEqDiff,Nat.reduceLT,Nat.reduceLeDiff,reduceCtorEq,h0,List.length_map,h1,h2,h3,h4,Zgl]))
def okNe (p:List Sg):Prop:= ∀s∈p,∀c∈s.ax,c≠ []∧c.length≤100000
set_option maxHeartbeats 1000000 in
theorem Q0q (p:List Sg) (hl:p.length≤100000) (hne:okNe p):Qda Tryz.prog 34 [Qat p] [] (.bs 7 6 0 p.length) [(7,{els:=p.map sgPV,esz:=6,ety:=24,fro:=0,live:=true,arr:=true})]:=by
 refine Qcx (tb:=[]) 30 [.tmp 2] [0,2,3,5,6,7,8,9] mixed Tryz.func34 rfl (by kernel_rfl) (by kernel_rfl) (by kernel_rfl) (by kernel_rfl) (by rfl) ?_
 repeat (first|(simp -implicitDefEqProofs only [go_sem,Nat.reduceAdd,Nat.reduceMul,Nat.reduceEqDiff,Nat.reduceLT,Nat.reduceLeDiff,reduceCtorEq,Qat,List.length_map])|(with_reducible exact Qaa _ _ (by kernel_rfl))|(with_reducible refine And.intro (Qaa _ _ (by kernel_rfl)) ?_))
 refine Qas mixed (fun i:{i:Nat // i≤p.length}=>St.of [(3,.bs 7 6 0 i.1),(6,Qat p),(7,.int .i64 (p.length:Int)),(8,.int .i64 (i.1:Int))]
  [(7,{els:=(p.take i.1).map sgPV,esz:=6,ety:=24,fro:=0,live:=true,arr:=true})]) (fun i=>p.length-i.1) ⟨0,Nat.zero_le _⟩ ?_ ?_
 ·refine Qht 3 7 6 24 rfl rfl rfl (by decide) [(7,7)] rfl ?_ ?_
  ·simp [Qad,lkp,ren1,ren0,Qap,Qat]
  ·exact⟨⟨rfl,rfl,rfl,rfl,rfl,.inl ⟨rfl,rfl⟩⟩,trivial⟩
 ·rintro⟨i,hi⟩
  by_cases hA:i<p.length
  ·have hA':=ltT hA
   have n0:=nnT i
   have hg:=Qcc p i hA
   have hwk:=Qaj (a:=i) (by omega)
   have hs:=hne _ (List.getElem_mem hA)
   have c1:=hs p[i].x (by simp [Sg.ax])
   have c2:=hs p[i].y (by simp [Sg.ax])
   have c3:=hs p[i].z (by simp [Sg.ax])
   have f1:=Qso _ c1.1 c1.2
   have f2:=Qso _ c2.1 c2.2
   have f3:=Qso _ c3.1 c3.2
   have hlt:((p.take i).map sgPV).length=i:=by simp;omega
   have hok:=Qh3 (p.take i)
   have k1:((i+1)*96≤140737488355328)=True:=eq_true (by omega)
   have k2:(i+1≤maxLen)=True:=eq_true (by unfold maxLen;omega)
   have hts:(p.take (i+1)).map sgPV=(p.take i).map sgPV++[sgPV p[i]]:=by rw [Qbm p i hA,List.map_append];rfl
   generalize (p.take i).map sgPV=T at*
   generalize p[i]=s at*
   repeat (first|(simp -implicitDefEqProofs only [go_sem,Nat.reduceAdd,Nat.reduceMul,Nat.reduceEqDiff,Nat.reduceLT,Nat.reduceLeDiff,reduceCtorEq,Nat.reduceBneDiff,hA',n0,hg,hwk,hlt,hok,k1,k2,Int.toNat_natCast,List.length_map])|((with_reducible refine Qab (f1) ?_ ?_ ?_);(with_reducible rfl);rfl)|((with_reducible refine Qab (f2) ?_ ?_ ?_);(with_reducible rfl);rfl)|((with_reducible refine Qab (f3) ?_ ?_ ?_);(with_reducible rfl);rfl)|(with_reducible exact Qaa _ _ (by kernel_rfl))|(with_reducible refine And.intro (Qaa _ _ (by kernel_rfl)) ?_))
   refine⟨⟨i+1,hA⟩,by simp only;omega,Qal (θ:=[(7,603)]) rfl ?_ ?_⟩
   ·simp [Qad,lkp,ren1,ren0,Qap,Qat]
   ·simp only [hts]
    exact⟨⟨rfl,rfl,rfl,rfl,rfl,.inl ⟨rfl,rfl⟩⟩,trivial⟩
  ·have hA':=ltF hA
   obtain rfl:i=p.length:=by omega
   have ht:p.take p.length=p:=List.take_length
   simp only [ht]
   repeat (first|(simp -implicitDefEqProofs only [go_sem,Nat.reduceAdd,Nat.reduceMul,Nat.reduceEqDiff,Nat.reduceLT,Nat.reduceLeDiff,reduceCtorEq,hA'])|(with_reducible exact Qaa _ _ (by kernel_rfl))|(with_reducible refine And.intro (Qaa _ _ (by kernel_rfl)) ?_))
   refine Qb1 (.inl rfl) ?_
   simp -implicitDefEqProofs only [go_sem,Nat.reduceEqDiff]
   refine Qal (θ:=[(7,7)]) rfl ?_ ?_
   ·simp [Qad,lkp,ren1,ren0,Qap]
   ·exact⟨⟨rfl,rfl,rfl,rfl,rfl,.inl ⟨rfl,rfl⟩⟩,trivial⟩
end Go.Proofs.YtlpiamlgibomhaaGreat

namespace Go.Proofs.YtlpiamlgibomhaaGreat
open Go.Vl Go.RowKit Go.Dg
theorem Zlz (l:List Sg):((l.map sgPV).all fun e=>e.cells.length==6&&e.cells.all PV.okCell)=true:=by
 rw [List.all_map,List.all_eq_true];intro _ _;rfl
theorem Qnp {p:List Sg} (h:Qbd p=true):okNe p:=by
 intro s hs c hc
 obtain⟨l1,l6, -, -⟩:=Qcp ((Qa4 (Qi9 h s hs)).2.1 c hc)
 exact⟨List.length_pos_iff.1 l1,by omega⟩
def Qqn (a b:List Sg):Bool:=Qd3 (a.getD (a.length-1) sg0) (b.getD 0 sg0)
def Qw1 (a b:List Sg):PV:=if Qbd a=true∧Qbd b=true then(if Qqn a b=true then(if a.length+b.length≤256 then .tup [Qat (a++b),.int .i64 0]else .tup [Qat [],.int .i64 7])else .tup [Qat [],.int .i64 10])else .tup [Qat [],.int .i64 2]
set_option maxHeartbeats 2000000 in
theorem Qqo (a b:List Sg) (ha: ∀s∈a,okSg s) (hb: ∀s∈b,okSg s) (hla:a.length≤100000) (hlb:b.length≤100000):Qag Tryz.prog 27 [Qat a,Qat b] (Qw1 a b):=by
 have v1:=Qf7 a ha (by omega)
 have v2:=Qf7 b hb (by omega)
 unfold Qw1
 cases hA:Qbd a with
 |false=>
  rw [hA]at v1
  rw [if_neg (by simp)]
  unfold Qat at v1 ⊢
  refine Qac (tb:=[]) 39 [.tmp 4,.tmp 5] [0,1,4,5,6,15,27] mixed Tryz.func27 rfl (by kernel_rfl) (by kernel_rfl) (by kernel_rfl) (by kernel_rfl) ?_
  repeat (first|(simp -implicitDefEqProofs only [go_sem,Nat.reduceAdd,Nat.reduceMul,Nat.reduceEqDiff,Nat.reduceLT,Nat.reduceLeDiff,reduceCtorEq,Bool.not_false,List.map_nil])|((with_reducible refine Qab (v1) ?_ ?_ ?_);(with_reducible rfl);rfl)|(with_reducible exact Qaa _ _ (by kernel_rfl))|(with_reducible refine And.intro (Qaa _ _ (by kernel_rfl)) ?_))
 |true=>
  rw [hA]at v1
  cases hB:Qbd b with
  |false=>
   rw [hB]at v2
   rw [if_neg (by simp)]
   unfold Qat at v1 v2 ⊢
   refine Qac (tb:=[]) 39 [.tmp 4,.tmp 5] [0,1,4,5,6,15,27] mixed Tryz.func27 rfl (by kernel_rfl) (by kernel_rfl) (by kernel_rfl) (by kernel_rfl) ?_
   repeat (first|(simp -implicitDefEqProofs only [go_sem,Nat.reduceAdd,Nat.reduceMul,Nat.reduceEqDiff,Nat.reduceLT,Nat.reduceLeDiff,reduceCtorEq,Bool.not_false,Bool.not_true,List.map_nil])|((with_reducible refine Qab (v1) ?_ ?_ ?_);(with_reducible rfl);rfl)|((with_reducible refine Qab (v2) ?_ ?_ ?_);(with_reducible rfl);rfl)|(with_reducible exact Qaa _ _ (by kernel_rfl))|(with_reducible refine And.intro (Qaa _ _ (by kernel_rfl)) ?_))
  |true=>
   rw [hB]at v2
   rw [if_pos ⟨rfl,rfl⟩]
   obtain⟨-,a1,a2⟩:=Qb2 hA
   obtain⟨-,b1,b2⟩:=Qb2 hB
   have hia:a.length-1<a.length:=by omega
   have hib:0<b.length:=by omega
   have ga:=Qcc a (a.length-1) hia
   have gb:=Qcc b 0 hib
   have hm:=Qvc a[a.length-1] b[0] (ha _ (List.getElem_mem hia)) (hb _ (List.getElem_mem hib)) (Qem hA _ hia) (Qem hB _ hib)
   have hML:Qqn a b=Qd3 a[a.length-1] b[0]:=by unfold Qqn;rw [sgD hia,sgD hib]
   have wl:=Qew (n:=a.length) (by omega) (by omega)
   have n0:=nnT (a.length-1)
   rw [hML]
   unfold Qat at v1 v2
   unfold sgPV Qan at hm
   cases hMM:Qd3 a[a.length-1] b[0]with
   |false=>
    rw [hMM]at hm
    rw [if_neg (by simp)]
    unfold Qat
    refine Qac (tb:=[]) 39 [.tmp 4,.tmp 5] [0,1,4,5,6,15,27] mixed Tryz.func27 rfl (by kernel_rfl) (by kernel_rfl) (by kernel_rfl) (by kernel_rfl) ?_
    repeat (first|(simp -implicitDefEqProofs only [go_sem,Nat.reduceAdd,Nat.reduceMul,Nat.reduceEqDiff,Nat.reduceLT,Nat.reduceLeDiff,reduceCtorEq,ga,gb,wl,n0,Int.toNat_natCast,List.length_map,Bool.not_false,Bool.not_true,List.map_nil])|((with_reducible refine Qab (v1) ?_ ?_ ?_);(with_reducible rfl);rfl)|((with_reducible refine Qab (v2) ?_ ?_ ?_);(with_reducible rfl);rfl)|((with_reducible refine Qab (hm) ?_ ?_ ?_);(with_reducible rfl);rfl)|(with_reducible exact Qaa _ _ (by kernel_rfl))|(with_reducible refine And.intro (Qaa _ _ (by kernel_rfl)) ?_))
   |true=>
    rw [hMM]at hm
    rw [if_pos rfl]
    have wl2:IntKind.i64.wrap ((a.length:Int)+(b.length:Int))=(a.length:Int)+(b.length:Int):=Qah (by omega) (by omega)
    by_cases h256:a.length+b.length≤256
    ·have h':((256:Int)<(a.length:Int)+(b.length:Int))=False:=eq_false (by omega)
     rw [if_pos h256]
     have ca:=Q0q a hla (Qnp hA)
     have cb:=Q0q b hlb (Qnp hB)
     have e1:(a.map sgPV).take a.length=a.map sgPV:=List.take_of_length_le (by simp)
     have e2:(b.map sgPV).take b.length=b.map sgPV:=List.take_of_length_le (by simp)
     have e5:(a.map sgPV++b.map sgPV).take (a.length+b.length)=a.map sgPV++b.map sgPV:=List.take_of_length_le (by simp)
     have e6:(((a.map sgPV++b.map sgPV).flatMap PV.cells).all PV.okCell)=true:=by rw [←List.map_append];exact Qh3 _
     have e7:(a.length+b.length≤(a.map sgPV++b.map sgPV).length)=True:=eq_true (by simp)
     have e3:=Qh3 a
     have e4:=Qh3 b
     have k1:((a.length+b.length)*96≤140737488355328)=True:=eq_true (by omega)
     have k2:(a.length+b.length≤maxLen)=True:=eq_true (by unfold maxLen;omega)
     unfold Qat at ca cb ⊢
     rw [List.map_append]
     have bl1:Nat.blt 701 1000000=true:=rfl
     have bl2:Nat.blt 703 1000000=true:=rfl

     refine Qac (tb:=[(701,[],[(7,701)]),(703,[],[(7,703)])]) 39 [.tmp 4,.tmp 5] [0,1,4,5,6,15,27] mixed Tryz.func27 rfl (by kernel_rfl) (by kernel_rfl) (by kernel_rfl) (by kernel_rfl) ?_
     repeat (first|(simp -implicitDefEqProofs only [go_sem,Nat.reduceAdd,Nat.reduceMul,Nat.reduceEqDiff,Nat.reduceLT,Nat.reduceLeDiff,reduceCtorEq,Nat.reduceBneDiff,bl1,bl2,Zlz,ga,gb,wl,wl2,h',n0,e1,e2,e3,e4,e5,e6,e7,k1,k2,Int.toNat_natCast,List.length_map,Bool.not_false,Bool.not_true])|((with_reducible refine Qab (v1) ?_ ?_ ?_);(with_reducible rfl);rfl)|((with_reducible refine Qab (v2) ?_ ?_ ?_);(with_reducible rfl);rfl)|((with_reducible refine Qab (hm) ?_ ?_ ?_);(with_reducible rfl);rfl)|((with_reducible refine Qb6 (ca) ?_ ?_ ?_ ?_);(with_reducible rfl);rfl;rfl)|((with_reducible refine Qb6 (cb) ?_ ?_ ?_ ?_);(with_reducible rfl);rfl;rfl)|(with_reducible exact Qaa _ _ (by kernel_rfl))|(with_reducible refine And.intro (Qaa _ _ (by kernel_rfl)) ?_))
    ·have h':((256:Int)<(a.length:Int)+(b.length:Int))=True:=eq_true (by omega)
     rw [if_neg h256]
     unfold Qat
     refine Qac (tb:=[]) 39 [.tmp 4,.tmp 5] [0,1,4,5,6,15,27] mixed Tryz.func27 rfl (by kernel_rfl) (by kernel_rfl) (by kernel_rfl) (by kernel_rfl) ?_
     repeat (first|(simp -implicitDefEqProofs only [go_sem,Nat.reduceAdd,Nat.reduceMul,Nat.reduceEqDiff,Nat.reduceLT,Nat.reduceLeDiff,reduceCtorEq,ga,gb,wl,wl2,h',n0,Int.toNat_natCast,List.length_map,Bool.not_false,Bool.not_true,List.map_nil])|((with_reducible refine Qab (v1) ?_ ?_ ?_);(with_reducible rfl);rfl)|((with_reducible refine Qab (v2) ?_ ?_ ?_);(with_reducible rfl);rfl)|((with_reducible refine Qab (hm) ?_ ?_ ?_);(with_reducible rfl);rfl)|(with_reducible exact Qaa _ _ (by kernel_rfl))|(with_reducible refine And.intro (Qaa _ _ (by kernel_rfl)) ?_))
end Go.Proofs.YtlpiamlgibomhaaGreat

namespace Go.Proofs.YtlpiamlgibomhaaGreat
open Go.Vl Go.RowKit Go.Dg
def revL (s:Sg):Nat→List Int:=cmpL s 1 (-1) 1
def revS (W:Int) (s:Sg):Sg:=Qz4 (W-s.t) (W-s.f) (revL s) s.o
def Qu6 (s:Sg):Prop:= ∀i,i<3→ ∀x∈revL s i,(x/(mdG (revL s) s.o 3:Int)).natAbs≤4611686018427387904
def revK (p:List Sg) (k:Nat):List Sg:=(List.range k).map fun j=>revS (pBeg p+pEnd p) (p.getD (p.length-1-j) sg0)
def revP (p:List Sg):List Sg:=revK p p.length
theorem Q0r (p:List Sg) (k:Nat):revK p (k+1)=revK p k++[revS (pBeg p+pEnd p) (p.getD (p.length-1-k) sg0)]:=by simp [revK,List.range_succ]
theorem Qu7 (p:List Sg) (k:Nat):(revK p k).length=k:=by simp [revK]
theorem Q7w {s:Sg} (hv:Qa2 s=true):Qms (revL s) s.o=true:=by
 obtain⟨⟨v1,v2,v3,v4,v5⟩, -, -⟩:=Qa4 hv
 refine decide_eq_true ?_
 unfold mdO
 exact Int.le_trans (Int.ediv_le_self _ (by omega)) v5
theorem Q7x:i64 1:=by unfold i64;omega
theorem Zek:i64 (-1):=by unfold i64;omega
theorem Zgm {s:Sg} (hs:okSg s) (hv:Qa2 s=true): ∀i,i<3→bd 12000 (revL s i)∧(revL s i).length≤6:=by
 intro i hi
 have hm:=Qsk s i hi
 obtain⟨l1,l6, -, -⟩:=Qcp ((Qa4 hv).2.1 _ hm)
 exact⟨(Qqk l6 (fun x hx=>Qav (hs.c _ hm x hx)) (Qav Q7x) (Qav Zek) (Qav Q7x)).2,Q0h l6⟩
theorem Zl0 (s:Sg) (W:Int) (hs:okSg s) (hv:Qa2 s=true) (hf:Qu6 s):
  Qag Tryz.prog 78 [.int .i64 (W-s.t),.int .i64 (W-s.f),.agg [wL (revL s 0),wL (revL s 1),wL (revL s 2)],wPV s.o] (.tup [sgPV (revS W s),.bool true]):=by
 have hbd:=Zgm hs hv
 obtain⟨⟨v1,v2,v3,v4,v5⟩, -, -⟩:=Qa4 hv
 have h:=Q0i (W-s.t) (W-s.f) (revL s) s.o 12000 (by decide) (by omega) (Qei (C:=12000) (Qav hs.o) (by decide)) (fun i hi=>(hbd i hi).1) (fun i hi=>by have:=(hbd i hi).2;omega) (fun _=>hf)
 rw [if_pos (Q7w hv)]at h
 exact h
def rvB (p:List Sg):Nat→List (Nat×Box)
 |0=>[(1000000,{els:=[.int .i64 (pBeg p)],esz:=1,ety:=3,fro:=0,live:=true,arr:=false}),(1000001,{els:=[.int .i64 (pEnd p)],esz:=1,ety:=3,fro:=0,live:=true,arr:=false}),(1000002,{els:=[.nilS],esz:=1,ety:=27,fro:=0,live:=true,arr:=false})]
 |k+1=>[(1000000,{els:=[.int .i64 (pBeg p)],esz:=1,ety:=3,fro:=0,live:=true,arr:=false}),(1000001,{els:=[.int .i64 (pEnd p)],esz:=1,ety:=3,fro:=0,live:=true,arr:=false}),(1000002,{els:=[.bs 7 6 0 (k+1)],esz:=1,ety:=27,fro:=0,live:=true,arr:=false}),(7,{els:=(revK p (k+1)).map sgPV,esz:=6,ety:=24,fro:=0,live:=true,arr:=true})]
theorem Zoq (p:List Sg) (k:Nat): ∀b∈ [1000000,1000001,1000002],(lkp (rvB p k) b).isSome=true:=by
 cases k<;>simp [rvB,lkp]
def Qh4 (p:List Sg):PV:=if Qbd p=true then .tup [Qat (revP p),.int .i64 0]else .tup [Qat [],.int .i64 2]
theorem Qsp {p:List Sg} (hV:Qbd p=true):0≤pBeg p∧pBeg p≤3600000∧0≤pEnd p∧pEnd p≤3600000:=by
 have h:=(Qb2 hV).2.1
 have h1:p.length-1<p.length:=by omega
 have h0:0<p.length:=by omega
 obtain⟨⟨a1,a2,a3, -, -⟩, -, -⟩:=Qa4 (Qem hV _ h0)
 obtain⟨⟨b1,b2,b3, -, -⟩, -, -⟩:=Qa4 (Qem hV _ h1)
 unfold pBeg pEnd
 rw [sgD h0,sgD h1]
 omega
set_option maxHeartbeats 4000000 in
theorem Qw2 (p:List Sg) (hp: ∀s∈p,okSg s) (hl:p.length≤100000) (hfit:Qbd p=true→ ∀s∈p,Qu6 s):Qag Tryz.prog 37 [Qat p] (Qh4 p):=by
 have hs:=Qsu p hp (by omega)
 unfold Qh4
 unfold Qat at hs
 cases hV:Qbd p with
 |false=>
  rw [hV]at hs
  simp only [Bool.false_eq_true,if_false]at hs
  unfold Qat
  refine Qac (tb:=[]) 51 [.tmp 2,.tmp 3] [0,2,3,4,5,6,7,9,10,19,22,23,24] mixed Tryz.func37 rfl (by kernel_rfl) (by kernel_rfl) (by kernel_rfl) (by kernel_rfl) ?_
  repeat (first|(simp -implicitDefEqProofs only [go_sem,Nat.reduceAdd,Nat.reduceMul,Nat.reduceEqDiff,Nat.reduceLT,Nat.reduceLeDiff,reduceCtorEq,Int.reduceNeg,Q71,Bool.false_eq_true,if_false,List.map_nil])|((with_reducible refine Qab (hs) ?_ ?_ ?_);(with_reducible rfl);rfl)|(with_reducible exact Qaa _ _ (by kernel_rfl))|(with_reducible refine And.intro (Qaa _ _ (by kernel_rfl)) ?_))
 |true=>
  rw [hV]at hs
  simp only [if_true]at hs ⊢
  have hv:=Qi9 hV
  have hft:=hfit hV
  obtain⟨e1,e2,e3,e4⟩:=Qsp hV
  have h1:=Zop p
  have hY:=Zly p hl
  unfold Qat at h1 hY ⊢
  obtain⟨n,hn1⟩: ∃n,p.length=n+1:=⟨p.length-1,by have:=(Qb2 hV).2.1;omega⟩
  have hlo:(Qd6 p).length=n+1:=by simp [Qd6,hn1]
  have hmin:min (Qd6 p).length (n+1+1)=n+1:=by omega
  have wab:IntKind.i64.wrap (pBeg p+pEnd p)=pBeg p+pEnd p:=Qah (by omega) (by omega)
  refine Qac (tb:=[]) 51 [.tmp 2,.tmp 3] [0,2,3,4,5,6,7,9,10,19,22,23,24] mixed Tryz.func37 rfl (by kernel_rfl) (by kernel_rfl) (by kernel_rfl) (by kernel_rfl) ?_
  repeat (first|(simp -implicitDefEqProofs only [go_sem,Nat.reduceAdd,Nat.reduceMul,Nat.reduceEqDiff,Nat.reduceLT,Nat.reduceLeDiff,reduceCtorEq,Int.reduceNeg,Qjb,Bool.false_eq_true,if_false])|((with_reducible refine Qab (hs) ?_ ?_ ?_);(with_reducible rfl);rfl)|((with_reducible refine Qab (h1) ?_ ?_ ?_);(with_reducible rfl);rfl)|(with_reducible exact Qaa _ _ (by kernel_rfl))|(with_reducible refine And.intro (Qaa _ _ (by kernel_rfl)) ?_))
  refine Qp0 mixed hY rfl rfl _ rfl [(1000000,106),(1000001,107),(1000002,400)] [1000000,1000001,1000002] rfl [(4,.bp 1000000 1 0 0),(5,.bp 1000001 1 0 0),(7,.bp 1000002 1 0 0)] (rvB p) rfl rfl ?_ ?_ ?_ (n+1) .normal (fun h=>by omega) (fun k _ _=>Zoq p k) ?_ rfl ?_
   [(400,1000002),(7,7)] [(7,.bp 400 1 0 0)] [(400,{els:=[.bs 7 6 0 (n+1)],esz:=1,ety:=27,fro:=0,live:=true,arr:=false}),(7,{els:=(revP p).map sgPV,esz:=6,ety:=24,fro:=0,live:=true,arr:=true})] rfl rfl ?_ ?_ (fun _=> ?_) (fun h=>by omega)
  ·simp [Qad,lkp,ren1,ren0,Qap]
  ·exact⟨⟨rfl,rfl,rfl,rfl,rfl,.inr ⟨rfl,_,_,rfl,rfl,rfl,rfl⟩⟩,⟨rfl,rfl,rfl,rfl,rfl,.inr ⟨rfl,_,_,rfl,rfl,rfl,rfl⟩⟩,⟨rfl,rfl,rfl,rfl,rfl,.inr ⟨rfl,_,_,rfl,rfl,rfl,rfl⟩⟩,trivial⟩
  ·simp [Qad,lkp,ren1,ren0,Qap,Qrw]
  ·intro k args h
   simp only [Qd6,List.getElem?_map,Option.map_eq_some_iff]at h
   obtain⟨x, -,rfl⟩:=h
   rfl
  ·rintro k args hka hk
   have hkl:k<n+1:=by have:=(List.getElem?_eq_some_iff.1 hka).1;omega
   have hargs:args=bwdO p k:=by
    simp only [Qd6,List.getElem?_map,List.getElem?_range (show k<p.length by omega),Option.map_some,Option.some.injEq]at hka
    exact hka.symm
   have hi:p.length-1-k<p.length:=by omega
   have hO:bwdO p k=[.int .i64 ((p.length-1-k:Nat):Int),sgPV p[p.length-1-k]]:=by unfold bwdO;rw [sgD hi]
   rw [hargs,hO]
   have hmem:=List.getElem_mem hi
   have hsn:=Q0r p k
   rw [sgD hi]at hsn
   have hok:=hp _ hmem
   have hvs:=hv _ hmem
   have f4:=Zl0 p[p.length-1-k] (pBeg p+pEnd p) hok hvs (hft _ hmem)
   generalize p[p.length-1-k]=s at*
   generalize ((p.length-1-k:Nat):Int)=ix at*
   clear hO hargs hka hi hmem
   obtain⟨⟨v1,v2,v3,v4,v5⟩,hax, -⟩:=Qa4 hvs
   have w1:IntKind.i64.wrap (pBeg p+pEnd p-s.t)=pBeg p+pEnd p-s.t:=Qah (by omega) (by omega)
   have w2:IntKind.i64.wrap (pBeg p+pEnd p-s.f)=pBeg p+pEnd p-s.f:=Qah (by omega) (by omega)
   have f1:=Qnn s 1 (-1) 1 hok (fun c hc=>(Qcp (hax c hc)).2.1) Q7x Zek Q7x (by omega)
   have eL:cmpL s 1 (-1) 1=revL s:=rfl
   rw [eL]at f1
   have f2:=Qer s.o hok.o.1 hok.o.2
   have hsn2:(revK p (k+1)).map sgPV=(revK p k).map sgPV++[.agg [.int .i64 (revS (pBeg p+pEnd p) s).f,.int .i64 (revS (pBeg p+pEnd p) s).t,.int .i64 (revS (pBeg p+pEnd p) s).o,.slc ((revS (pBeg p+pEnd p) s).x.map (PV.int .i64)),.slc ((revS (pBeg p+pEnd p) s).y.map (PV.int .i64)),.slc ((revS (pBeg p+pEnd p) s).z.map (PV.int .i64))]]:=by rw [hsn,List.map_append];rfl
   generalize revL s=L at*
   generalize revS (pBeg p+pEnd p) s=R at*
   unfold sgPV at f1 f4
   unfold wL at f1 f4
   have hlen:((revK p k).map sgPV).length=k:=by rw [List.length_map,Qu7]
   have hokf:=Qh3 (revK p k)
   have c1:((k+1)*96≤140737488355328)=True:=eq_true (by omega)
   have c2:(k+1≤maxLen)=True:=eq_true (by unfold maxLen;omega)
   cases k with
   |zero=>
    simp only [rvB]
    have e0:(revK p 0).map sgPV=[]:=rfl
    rw [e0,List.nil_append]at hsn2
    repeat (first|(simp -implicitDefEqProofs only [go_sem,Nat.reduceAdd,Nat.reduceMul,Nat.reduceEqDiff,Nat.reduceLT,Nat.reduceLeDiff,reduceCtorEq,Int.reduceNeg,pvars,List.toList_toArray,sgPV])|(with_reducible exact Qaa _ _ (by kernel_rfl))|(with_reducible refine And.intro (Qaa _ _ (by kernel_rfl)) ?_))
    refine⟨by simp [lkp],?_⟩
    repeat (first|(simp -implicitDefEqProofs only [go_sem,Nat.reduceAdd,Nat.reduceMul,Nat.reduceEqDiff,Nat.reduceLT,Nat.reduceLeDiff,reduceCtorEq,Int.reduceNeg,wPV,wab,w1,w2])|((with_reducible refine Qab (f1) ?_ ?_ ?_);(with_reducible rfl);rfl)|((with_reducible refine Qab (f2) ?_ ?_ ?_);(with_reducible rfl);rfl)|((with_reducible refine Qab (f4) ?_ ?_ ?_);(with_reducible rfl);rfl)|(with_reducible exact Qaa _ _ (by kernel_rfl))|(with_reducible refine And.intro (Qaa _ _ (by kernel_rfl)) ?_))
    refine⟨by omega,?_⟩
    refine Qal (θ:=[(1000000,1000000),(1000001,1000001),(1000002,1000002),(7,803)]) rfl ?_ ?_
    ·simp [Qad,lkp,ren1,ren0,Qap]
    ·simp only [rvB,hsn2]
     exact⟨⟨rfl,rfl,rfl,rfl,rfl,.inr ⟨rfl,_,_,rfl,rfl,rfl,rfl⟩⟩,⟨rfl,rfl,rfl,rfl,rfl,.inr ⟨rfl,_,_,rfl,rfl,rfl,rfl⟩⟩,⟨rfl,rfl,rfl,rfl,rfl,.inr ⟨rfl,_,_,rfl,rfl,rfl,rfl⟩⟩,⟨rfl,rfl,rfl,rfl,rfl,.inl ⟨rfl,rfl⟩⟩,trivial⟩
   |succ k=>
    simp only [rvB]
    generalize (revK p (k+1)).map sgPV=T at*
    repeat (first|(simp -implicitDefEqProofs only [go_sem,Nat.reduceAdd,Nat.reduceMul,Nat.reduceEqDiff,Nat.reduceLT,Nat.reduceLeDiff,reduceCtorEq,Int.reduceNeg,pvars,List.toList_toArray,sgPV])|(with_reducible exact Qaa _ _ (by kernel_rfl))|(with_reducible refine And.intro (Qaa _ _ (by kernel_rfl)) ?_))
    refine⟨by simp [lkp],?_⟩
    repeat (first|(simp -implicitDefEqProofs only [go_sem,Nat.reduceAdd,Nat.reduceMul,Nat.reduceEqDiff,Nat.reduceLT,Nat.reduceLeDiff,reduceCtorEq,Nat.reduceBneDiff,Int.reduceNeg,wPV,wab,w1,w2,hlen,hokf,c1,c2])|((with_reducible refine Qab (f1) ?_ ?_ ?_);(with_reducible rfl);rfl)|((with_reducible refine Qab (f2) ?_ ?_ ?_);(with_reducible rfl);rfl)|((with_reducible refine Qab (f4) ?_ ?_ ?_);(with_reducible rfl);rfl)|(with_reducible exact Qaa _ _ (by kernel_rfl))|(with_reducible refine And.intro (Qaa _ _ (by kernel_rfl)) ?_))
    refine⟨by omega,?_⟩
    refine Qal (θ:=[(1000000,1000000),(1000001,1000001),(1000002,1000002),(7,803)]) rfl ?_ ?_
    ·simp [Qad,lkp,ren1,ren0,Qap]
    ·simp only [rvB,hsn2]
     exact⟨⟨rfl,rfl,rfl,rfl,rfl,.inr ⟨rfl,_,_,rfl,rfl,rfl,rfl⟩⟩,⟨rfl,rfl,rfl,rfl,rfl,.inr ⟨rfl,_,_,rfl,rfl,rfl,rfl⟩⟩,⟨rfl,rfl,rfl,rfl,rfl,.inr ⟨rfl,_,_,rfl,rfl,rfl,rfl⟩⟩,⟨rfl,rfl,rfl,rfl,rfl,.inl ⟨rfl,rfl⟩⟩,trivial⟩
  ·simp [Qad,lkp,ren1,ren0,Qap]
  ·rw [hmin]
   have e:revK p (n+1)=revP p:=by unfold revP;rw [hn1]
   simp only [rvB,e]
   exact⟨⟨rfl,rfl,rfl,rfl,rfl,.inr ⟨rfl,_,_,rfl,rfl,rfl,rfl⟩⟩,⟨rfl,rfl,rfl,rfl,rfl,.inl ⟨rfl,rfl⟩⟩,trivial⟩
  ·have b1:((revP p).map sgPV).length=n+1:=by rw [List.length_map,revP,Qu7,hn1]
   have b2:(((revP p).map sgPV).flatMap PV.cells).all PV.okCell=true:=Qh3 _
   have b3:((revP p).map sgPV).take (n+1)=(revP p).map sgPV:=List.take_of_length_le (by omega)
   generalize (revP p).map sgPV=T at*
   repeat (first|(simp -implicitDefEqProofs only [go_sem,Nat.reduceAdd,Nat.reduceMul,Nat.reduceEqDiff,Nat.reduceLT,Nat.reduceLeDiff,reduceCtorEq,b1,b2,b3])|(with_reducible exact Qaa _ _ (by kernel_rfl))|(with_reducible refine And.intro (Qaa _ _ (by kernel_rfl)) ?_))
end Go.Proofs.YtlpiamlgibomhaaGreat

namespace Go.Proofs.YtlpiamlgibomhaaGreat
open Go.Vl Go.RowKit Go.Dg
instance (x:Int):Decidable (i64 x):=by unfold i64;infer_instance
def okB (s:Sg):Bool:=decide (i64 s.f)&&(decide (i64 s.t)&&(decide (i64 s.o)&&(s.ax.all fun c=>c.all (fun x=>decide (i64 x))&&decide (c.length≤1000))))
theorem Q0s {s:Sg} (h:okB s=true):okSg s:=by
 unfold okB at h
 simp only [Bool.and_eq_true,decide_eq_true_eq,List.all_eq_true]at h
 obtain⟨h1,h2,h3,h4⟩:=h
 exact⟨h1,h2,h3,fun c hc=>(h4 c hc).1,fun c hc=>(h4 c hc).2⟩
theorem Zel {p:List Sg} (h:p.all okB=true): ∀s∈p,okSg s:=fun s hs=>Q0s (List.all_eq_true.1 h s hs)
def ex0:List Sg:=[⟨1000,3000,1,[100,20],[0,0,8],[50]⟩]
def exS:List Sg:=[⟨3000,4000,1,[120],[8],[50]⟩]
theorem Qh5: ∀s∈ex0,okSg s:=Zel (by decide+kernel)
theorem Zl1: ∀s∈exS,okSg s:=Zel (by decide+kernel)
theorem Qcm:Qbd ex0=true:=by decide+kernel
theorem Zl2 {n:Nat} (h0:0<n) (h:n<256):digs 256 n=[n]:=by
 rw [digs,dif_neg (by omega),Nat.mod_eq_of_lt h,Nat.div_eq_of_lt h,Qay]
theorem mB_1 {n:Nat} (h0:0<n) (h:n<256):mB (n:Int)=⟨#[UInt8.ofNat n]⟩:=by
 unfold mB magL
 rw [Int.natAbs_natCast,Zl2 h0 h];rfl
theorem at0:atPV ex0 2000= .tup [vPV 110 2 50,.int .i64 0]:=by
 have h1:lasts ex0 2000=true:=by decide+kernel
 have e1:rnd (exQ ex0 2000 0) (exO ex0 2000)=110:=by decide+kernel
 have e2:rnd (exQ ex0 2000 1) (exO ex0 2000)=2:=by decide+kernel
 have e3:rnd (exQ ex0 2000 2) (exO ex0 2000)=50:=by decide+kernel
 unfold atPV
 rw [if_pos Qcm,if_pos h1,e1,e2,e3]
theorem at1:atPV ex0 1500= .tup [vPV 105 1 50,.int .i64 0]:=by
 have h1:lasts ex0 1500=true:=by decide+kernel
 have e1:rnd (exQ ex0 1500 0) (exO ex0 1500)=105:=by decide+kernel
 have e2:rnd (exQ ex0 1500 1) (exO ex0 1500)=1:=by decide+kernel
 have e3:rnd (exQ ex0 1500 2) (exO ex0 1500)=50:=by decide+kernel
 unfold atPV
 rw [if_pos Qcm,if_pos h1,e1,e2,e3]
theorem at2:atPV ex0 1250= .tup [vPV 103 0 50,.int .i64 0]:=by
 have h1:lasts ex0 1250=true:=by decide+kernel
 have e1:rnd (exQ ex0 1250 0) (exO ex0 1250)=103:=by decide+kernel
 have e2:rnd (exQ ex0 1250 1) (exO ex0 1250)=0:=by decide+kernel
 have e3:rnd (exQ ex0 1250 2) (exO ex0 1250)=50:=by decide+kernel
 unfold atPV
 rw [if_pos Qcm,if_pos h1,e1,e2,e3]
theorem ex_q:exQ ex0 1500 0=210∧exQ ex0 1500 1=1∧exQ ex0 1500 2=100∧exO ex0 1500=2∧lasts ex0 1500=true:=by decide+kernel
theorem Zgn:Qno ex0 2000 3000= .tup [Qat [⟨2000,3000,1,[110,10],[2,4,2],[50]⟩],.int .i64 0]:=by
 have h1:pBeg ex0≤2000∧(2000:Int)<3000∧3000≤pEnd ex0:=by decide+kernel
 have h2:(spans ex0 2000 3000).all spF=true:=by decide+kernel
 have h3:(spans ex0 2000 3000).map spS=[⟨2000,3000,1,[110,10],[2,4,2],[50]⟩]:=by kernel_rfl
 unfold Qno Qoz
 rw [if_pos Qcm,if_pos h1,if_pos h2,h3]
theorem Zgo:Qno ex0 1000 1500= .tup [Qat [⟨1000,1500,2,[200,10],[0,0,1],[100]⟩],.int .i64 0]:=by
 have h1:pBeg ex0≤1000∧(1000:Int)<1500∧1500≤pEnd ex0:=by decide+kernel
 have h2:(spans ex0 1000 1500).all spF=true:=by decide+kernel
 have h3:(spans ex0 1000 1500).map spS=[⟨1000,1500,2,[200,10],[0,0,1],[100]⟩]:=by kernel_rfl
 unfold Qno Qoz
 rw [if_pos Qcm,if_pos h1,if_pos h2,h3]
theorem Zl3:Qh4 ex0= .tup [Qat [⟨1000,3000,1,[120, -20],[8, -16,8],[50]⟩],.int .i64 0]:=by
 have h3:revP ex0=[⟨1000,3000,1,[120, -20],[8, -16,8],[50]⟩]:=by kernel_rfl
 unfold Qh4
 rw [if_pos Qcm,h3]
theorem Zl4: ∀s∈ex0,Qu6 s:=by unfold Qu6;decide+kernel
theorem Zgp:Qw1 ex0 ex0= .tup [Qat [],.int .i64 10]:=by
 have h: ¬Qqn ex0 ex0=true:=by decide+kernel
 unfold Qw1
 rw [if_pos ⟨Qcm,Qcm⟩,if_neg h]
theorem Zgq:Qw1 ex0 exS= .tup [Qat (ex0++exS),.int .i64 0]:=by
 have h:Qqn ex0 exS=true:=by decide+kernel
 have h2:Qbd exS=true:=by decide+kernel
 unfold Qw1
 rw [if_pos ⟨Qcm,h2⟩,if_pos h];rfl
end Go.Proofs.YtlpiamlgibomhaaGreat

namespace Go.Proofs.YtlpiamlgibomhaaGreat
open Go.Vl Go.RowKit Go.Dg
theorem Q0t:Qag Tryz.prog 45 [] (Qat ex0):=by
 refine Qac (tb:=[]) 6 [.tmp 0] [0] mixed Tryz.func45 rfl (by kernel_rfl) (by kernel_rfl) (by kernel_rfl) (by kernel_rfl) ?_
 repeat (first|(simp -implicitDefEqProofs only [go_sem,Nat.reduceAdd,Nat.reduceMul,Nat.reduceEqDiff,Nat.reduceLT,Nat.reduceLeDiff,reduceCtorEq]))
 rfl
theorem Q7y:Qda Tryz.prog 45 [] [] (.bs 104 6 0 1) [(104,{els:=ex0.map sgPV,esz:=6,ety:=24,fro:=0,live:=true,arr:=true})]:=by
 refine Qcx (tb:=[]) 6 [.tmp 0] [0] mixed Tryz.func45 rfl (by kernel_rfl) (by kernel_rfl) (by kernel_rfl) (by kernel_rfl) (by rfl) ?_
 repeat (first|(simp -implicitDefEqProofs only [go_sem,Nat.reduceAdd,Nat.reduceMul,Nat.reduceEqDiff,Nat.reduceLT,Nat.reduceLeDiff,reduceCtorEq]))
 refine Qb1 (.inl rfl) ?_
 simp -implicitDefEqProofs only [go_sem]
 refine Qal (θ:=[(104,104)]) rfl ?_ ?_
 ·simp [Qad,lkp,ren1,ren0,Qap]
 ·exact⟨⟨rfl,rfl,rfl,rfl,rfl,.inl ⟨rfl,rfl⟩⟩,trivial⟩
theorem Zgr (t x y z:Int) (ht:i64 t) (h:atPV ex0 t= .tup [vPV x y z,.int .i64 0]):Qag Tryz.prog 44 [.int .i64 t,.agg [.int .i64 x,.int .i64 y,.int .i64 z]] (.bool true):=by
 have h1:=Q0t
 have h2:=Zlt ex0 t Qh5 (by decide) ht
 rw [h]at h2
 unfold Qat at h1 h2
 unfold vPV at h2
 generalize ex0.map sgPV=E at*
 refine Qac (tb:=[]) 20 [.tmp 4] [0,1,3,4,5,6] mixed Tryz.func44 rfl (by kernel_rfl) (by kernel_rfl) (by kernel_rfl) (by kernel_rfl) ?_
 repeat (first|(simp -implicitDefEqProofs only [go_sem,Nat.reduceAdd,Nat.reduceMul,Nat.reduceEqDiff,Nat.reduceLT,Nat.reduceLeDiff,reduceCtorEq,beq_self_eq_true,Qmt])|((with_reducible refine Qab (h1) ?_ ?_ ?_);(with_reducible rfl);rfl)|((with_reducible refine Qab (h2) ?_ ?_ ?_);(with_reducible rfl);rfl))
theorem Zl5 (s w:Sg) (hs: ∀c∈s.ax,c.length≤1000000000) (hw: ∀c∈w.ax,c.length≤1000000000):Qag Tryz.prog 46 [.slc [sgPV s],.int .i64 0,sgPV w] (.bool (Qle s w)):=by
 have h:=Qh6 s w hs hw
 unfold sgPV Qan at h ⊢
 generalize Qle s w=b at*
 have g0: ∀v:PV,[v][0]? =some v:=fun _=>rfl
 refine Qac (tb:=[]) 21 [.tmp 6] [0,1,2,5,6] mixed Tryz.func46 rfl (by kernel_rfl) (by kernel_rfl) (by kernel_rfl) (by kernel_rfl) ?_
 repeat (first|(simp -implicitDefEqProofs only [go_sem,Nat.reduceAdd,Nat.reduceMul,Nat.reduceEqDiff,Nat.reduceLT,Nat.reduceLeDiff,reduceCtorEq,Qmt,g0,List.length_cons,List.length_nil])|((with_reducible refine Qab (h) ?_ ?_ ?_);(with_reducible rfl);rfl)|(with_reducible exact Qaa _ _ (by kernel_rfl))|(with_reducible refine And.intro (Qaa _ _ (by kernel_rfl)) ?_))
theorem Q0u (P:List PV) (e w:Int):Qag Tryz.prog 25 [.slc P,.int .i64 e,.int .i64 w] (.bool ((e==w)&&((P.length:Int)==0))):=by
 refine Qac (tb:=[]) 15 [.tmp 6] [0,1,2,6] mixed Tryz.func25 rfl (by kernel_rfl) (by kernel_rfl) (by kernel_rfl) (by kernel_rfl) ?_
 cases h:(e==w)with
 |true=>repeat (first|(simp -implicitDefEqProofs only [go_sem,Nat.reduceAdd,Nat.reduceMul,Nat.reduceEqDiff,Nat.reduceLT,Nat.reduceLeDiff,reduceCtorEq,h,Bool.true_and]))
 |false=>repeat (first|(simp -implicitDefEqProofs only [go_sem,Nat.reduceAdd,Nat.reduceMul,Nat.reduceEqDiff,Nat.reduceLT,Nat.reduceLeDiff,reduceCtorEq,h,Bool.false_and]))
end Go.Proofs.YtlpiamlgibomhaaGreat

namespace Go.Proofs.YtlpiamlgibomhaaGreat
open Go.Vl Go.RowKit Go.Dg
theorem Qst (a b:List Sg) (ha:lenP a) (hb:lenP b):Qag Tryz.prog 24 [Qat a,Qat b] (.bool (Qzw a b)):=by
 have la:=ha.1
 have lb:=hb.1
 by_cases hl:a.length=b.length
 case neg=>
  have n1:((a.length:Int) != (b.length:Int))=true:=by simp only [bne_iff_ne,ne_eq];omega
  unfold Qzw
  rw [decide_eq_false hl,Bool.false_and]
  refine Qac (tb:=[]) 27 [.tmp 4] [0,1,4,5,10,14,26] mixed Tryz.func24 rfl (by kernel_rfl) (by kernel_rfl) (by kernel_rfl) (by kernel_rfl) ?_
  repeat (first|(simp -implicitDefEqProofs only [go_sem,Nat.reduceAdd,Nat.reduceMul,Nat.reduceEqDiff,Nat.reduceLT,Nat.reduceLeDiff,reduceCtorEq,List.length_map,n1])|(with_reducible exact Qaa _ _ (by kernel_rfl))|(with_reducible refine And.intro (Qaa _ _ (by kernel_rfl)) ?_))
 have n1:((a.length:Int) != (b.length:Int))=false:=by rw [hl];simp
 have e0:Qzw a b=Qg7 a b a.length:=by unfold Qzw;rw [decide_eq_true hl,Bool.true_and]
 rw [e0]
 refine Qac (tb:=[]) 27 [.tmp 4] [0,1,4,5,10,14,26] mixed Tryz.func24 rfl (by kernel_rfl) (by kernel_rfl) (by kernel_rfl) (by kernel_rfl) ?_
 repeat (first|(simp -implicitDefEqProofs only [go_sem,Nat.reduceAdd,Nat.reduceMul,Nat.reduceEqDiff,Nat.reduceLT,Nat.reduceLeDiff,reduceCtorEq,List.length_map,n1])|(with_reducible exact Qaa _ _ (by kernel_rfl))|(with_reducible refine And.intro (Qaa _ _ (by kernel_rfl)) ?_))
 have z0:0≤a.length∧Qg7 a b 0=true:=⟨Nat.zero_le _,rfl⟩
 refine Qas mixed (fun i:{i:Nat // i≤a.length∧Qg7 a b i=true}=>St.of [(0,Qat a),(1,Qat b),(4,.bool false),(5,.int .i64 (i.1:Int))] []) (fun i=>a.length-i.1) ⟨0,z0⟩ ?_ ?_
 ·exact Qa1 (by simp [Qad,lkp,ren1,ren0,Qat])
 ·rintro⟨i,hi,hall⟩
  by_cases hA:i<a.length
  ·have hA':=ltT hA
   have n0:=nnT i
   have hB:i<b.length:=by omega
   have g1:=Qcc a i hA
   have g2:=Qcc b i hB
   have hwk:=Qaj (a:=i) (by omega)
   have hs:=Qh6 a[i] b[i] (ha.2 _ (List.getElem_mem hA)) (hb.2 _ (List.getElem_mem hB))
   have es:Qle (a.getD i sg0) (b.getD i sg0)=Qle a[i] b[i]:=by rw [sgD hA,sgD hB]
   unfold sgPV Qan at hs
   cases hx:Qle a[i] b[i]with
   |true=>
    rw [hx]at hs
    have hn:Qg7 a b (i+1)=true:=by rw [Qsf,hall,es,hx];rfl
    repeat (first|(simp -implicitDefEqProofs only [go_sem,Nat.reduceAdd,Nat.reduceMul,Nat.reduceEqDiff,Nat.reduceLT,Nat.reduceLeDiff,reduceCtorEq,hA',n0,g1,g2,hwk,Int.toNat_natCast,List.length_map])|((with_reducible refine Qab (hs) ?_ ?_ ?_);(with_reducible rfl);rfl)|(with_reducible exact Qaa _ _ (by kernel_rfl))|(with_reducible refine And.intro (Qaa _ _ (by kernel_rfl)) ?_))
    refine⟨⟨i+1,hA,hn⟩,by simp only;omega,Qa1 (by simp [Qad,lkp,ren1,ren0,Qat])⟩
   |false=>
    rw [hx]at hs
    rw [Qwp (es.trans hx) hA]
    repeat (first|(simp -implicitDefEqProofs only [go_sem,Nat.reduceAdd,Nat.reduceMul,Nat.reduceEqDiff,Nat.reduceLT,Nat.reduceLeDiff,reduceCtorEq,hA',n0,g1,g2,Int.toNat_natCast,List.length_map])|((with_reducible refine Qab (hs) ?_ ?_ ?_);(with_reducible rfl);rfl)|(with_reducible exact Qaa _ _ (by kernel_rfl))|(with_reducible refine And.intro (Qaa _ _ (by kernel_rfl)) ?_))
  ·have hA':=ltF hA
   obtain rfl:i=a.length:=by omega
   repeat (first|(simp -implicitDefEqProofs only [go_sem,Nat.reduceAdd,Nat.reduceMul,Nat.reduceEqDiff,Nat.reduceLT,Nat.reduceLeDiff,reduceCtorEq,hA',hall,List.length_map])|(with_reducible exact Qaa _ _ (by kernel_rfl))|(with_reducible refine And.intro (Qaa _ _ (by kernel_rfl)) ?_))
end Go.Proofs.YtlpiamlgibomhaaGreat

namespace Go.Proofs.YtlpiamlgibomhaaGreat
open Go.Vl Go.RowKit Go.Dg
theorem Zor (b:ByteArray):(b != b)=false:=by show(!(b==b))=false;rw [Qjc];rfl
theorem Qsq {s:Sg} (h:(s.ax.all fun c=>Nat.ble c.length 1000)=true): ∀c∈s.ax,c.length≤1000000000:=fun c hc=>by
 have:=Nat.le_of_ble_eq_true (List.all_eq_true.1 h c hc);omega
theorem b210:mB 210=⟨#[210]⟩:=mB_1 (n:=210) (by decide) (by decide)
theorem b1:mB 1=⟨#[1]⟩:=mB_1 (n:=1) (by decide) (by decide)
theorem b100:mB 100=⟨#[100]⟩:=mB_1 (n:=100) (by decide) (by decide)
theorem b2:mB 2=⟨#[2]⟩:=mB_1 (n:=2) (by decide) (by decide)
def exPl:PV:= .agg [.bool false,.str ⟨#[210]⟩,.bool false,.str ⟨#[1]⟩,.bool false,.str ⟨#[100]⟩,.bool false,.str ⟨#[2]⟩]
theorem Qu8:Qae 210 1 100 2=exPl:=by unfold Qae;rw [b210,b1,b100,b2];rfl
theorem kexact:Qag Tryz.prog 15 [Qat ex0,.int .i64 1500] (.tup [exPl,.int .i64 0]):=by
 have h:=Qo4 ex0 1500 Qh5 (by decide) (by unfold i64;decide)
 obtain⟨q1,q2,q3,q4,q5⟩:=ex_q
 unfold Qlq at h
 rwa [if_pos Qcm,if_pos q5,q1,q2,q3,q4,Qu8]at h
theorem krexact:Qag Tryz.prog 19 [Qat ex0,.int .i64 1500] (Qdi [210,1,100] 2):=by
 obtain⟨q1,q2,q3,q4,q5⟩:=ex_q
 have h:=Qo5 ex0 1500 Qh5 (by decide) (by unfold i64;decide) Qcm q5
 rwa [q1,q2,q3,q4]at h
theorem kout:Qag Tryz.prog 20 [Qdi [210,1,100] 2] exPl:=by
 have h:=Qvb 210 1 100 2 10 (by decide) (by decide) (by decide) (by decide) (by decide)
 rwa [Qu8]at h
theorem Zos:Qag Tryz.prog 23 [Qat ex0,.int .i64 2000,.int .i64 3000] (.tup [Qat [⟨2000,3000,1,[110,10],[2,4,2],[50]⟩],.int .i64 0]):=by
 have h:=Zej ex0 2000 3000 Qh5 (by decide)
 rwa [Zgn]at h
theorem Zot:Qag Tryz.prog 23 [Qat ex0,.int .i64 1000,.int .i64 1500] (.tup [Qat [⟨1000,1500,2,[200,10],[0,0,1],[100]⟩],.int .i64 0]):=by
 have h:=Zej ex0 1000 1500 Qh5 (by decide)
 rwa [Zgo]at h
theorem krev:Qag Tryz.prog 37 [Qat ex0] (.tup [Qat [⟨1000,3000,1,[120, -20],[8, -16,8],[50]⟩],.int .i64 0]):=by
 have h:=Qw2 ex0 Qh5 (by decide) (fun _=>Zl4)
 rwa [Zl3]at h
theorem Zou:Qag Tryz.prog 27 [Qat ex0,Qat ex0] (.tup [Qat [],.int .i64 10]):=by
 have h:=Qqo ex0 ex0 Qh5 Qh5 (by decide) (by decide)
 rwa [Zgp]at h
theorem Zov:Qag Tryz.prog 27 [Qat ex0,Qat exS] (.tup [Qat (ex0++exS),.int .i64 0]):=by
 have h:=Qqo ex0 exS Qh5 Zl1 (by decide) (by decide)
 rwa [Zgq]at h
theorem kone (s:Sg) (h:(s.ax.all fun c=>Nat.ble c.length 1000)=true) (hs:Qle s s=true):Qag Tryz.prog 46 [.slc [sgPV s],.int .i64 0,sgPV s] (.bool true):=by
 have:=Zl5 s s (Qsq h) (Qsq h)
 rwa [hs]at this
theorem Zem (p:List Sg) (h:p=ex0∨p=exS):Qag Tryz.prog 24 [Qat p,Qat p] (.bool true):=by
 have hl:lenP p:=by rcases h with rfl|rfl<;>exact⟨by decide,fun s hs=>by rw [List.mem_singleton.1 hs];exact Qsq rfl⟩
 have h1:=Qst p p hl hl
 have h2:Qzw p p=true:=by rcases h with rfl|rfl<;>decide+kernel
 rwa [h2]at h1
theorem kvalid (s:Sg) (b:Bool) (h:okB s=true) (h2:Qa2 s=b):Qag Tryz.prog 13 [sgPV s] (.bool b):=by
 have:=Qu9 s (Q0s h)
 rwa [h2]at this
set_option maxHeartbeats 8000000 in
set_option maxRecDepth 100000 in
theorem Qw3:Qag Tryz.prog 12 [] (.bool true):=by
 have hpath:=Q0t
 have hpathB:=Q7y
 have a0:=Zgr 2000 110 2 50 (by unfold i64;decide) at0
 have a1:=Zgr 1500 105 1 50 (by unfold i64;decide) at1
 have a2:=Zgr 1250 103 0 50 (by unfold i64;decide) at2
 have ke:=kexact
 have kr:=krexact
 have ko:=kout
 have c1:=Zos
 have c2:=Zot
 have r1:=krev
 have o1:=kone ⟨2000,3000,1,[110,10],[2,4,2],[50]⟩ rfl (by decide+kernel)
 have o2:=kone ⟨1000,1500,2,[200,10],[0,0,1],[100]⟩ rfl (by decide+kernel)
 have o3:=kone ⟨1000,3000,1,[120, -20],[8, -16,8],[50]⟩ rfl (by decide+kernel)
 have p1:=Zou
 have p2:=Zov
 have f1:=Q0u [] 10 10
 have s1:=Zem ex0 (.inl rfl)
 have s2:=Zem exS (.inr rfl)
 have v1:=kvalid ⟨1000,3000,1,[100,20],[0,0,8],[50,0]⟩ false (by decide+kernel) (by decide+kernel)
 have v2:=kvalid ⟨1000,3000,2,[200],[2],[4]⟩ false (by decide+kernel) (by decide+kernel)
 have v3:=kvalid ⟨1000,3000,1,[100,20],[0,0,8],[50]⟩ true (by decide+kernel) (by decide+kernel)
 have fb:((10:Int)==10&&(([]:List PV).length:Int)==0)=true:=rfl
 rw [fb]at f1
 obtain⟨R1,R2,R3,hR⟩: ∃R1 R2 R3,Qdi [210,1,100] 2= .agg [.slc R1,.bool R2,.slc R3]:=⟨_,_,_,rfl⟩
 rw [hR]at kr ko
 clear hR
 unfold exPl at ke ko
 simp only [Qat,ex0,exS,sgPV,Qan,List.map_cons,List.map_nil,List.cons_append,List.nil_append]at hpath hpathB ke kr c1 c2 r1 o1 o2 o3 p1 p2 s1 s2 v1 v2 v3
 have g0: ∀v:PV,[v][0]? =some v:=fun _=>rfl
 have bl1:Nat.blt 1700 1000000=true:=rfl
 have bl2:Nat.blt 1701 1000000=true:=rfl

 refine Qac (tb:=[(1700,[],[(104,1700)]),(1701,[],[(104,1701)])]) 193 [.tmp 0] [0,1,2,3,4,5,6,7,8,9,10,11,12,13,14,27,81,109,153] mixed Tryz.func12 rfl (by kernel_rfl) (by kernel_rfl) (by kernel_rfl) (by kernel_rfl) ?_
 repeat (first|(simp -implicitDefEqProofs only [go_sem,Nat.reduceAdd,Nat.reduceMul,Nat.reduceEqDiff,Nat.reduceLT,Nat.reduceLeDiff,reduceCtorEq,Int.reduceNeg,g0,Qjb,Qmt,Bool.not_true,Bool.not_false])|((with_reducible refine Qab (a0) ?_ ?_ ?_);(with_reducible rfl);rfl)|((with_reducible refine Qab (a1) ?_ ?_ ?_);(with_reducible rfl);rfl)|((with_reducible refine Qab (a2) ?_ ?_ ?_);(with_reducible rfl);rfl)|((with_reducible refine Qab (hpath) ?_ ?_ ?_);(with_reducible rfl);rfl)|((with_reducible refine Qab (ke) ?_ ?_ ?_);(with_reducible rfl);rfl)|((with_reducible refine Qab (c1) ?_ ?_ ?_);(with_reducible rfl);rfl)|((with_reducible refine Qab (c2) ?_ ?_ ?_);(with_reducible rfl);rfl)|((with_reducible refine Qab (r1) ?_ ?_ ?_);(with_reducible rfl);rfl)|(with_reducible exact Qaa _ _ (by kernel_rfl))|(with_reducible refine And.intro (Qaa _ _ (by kernel_rfl)) ?_))
 repeat (first|(simp -implicitDefEqProofs only [go_sem,Nat.reduceAdd,Nat.reduceMul,Nat.reduceEqDiff,Nat.reduceLT,Nat.reduceLeDiff,reduceCtorEq,Int.reduceNeg,g0,Qjb,Qmt,Qjc,Zor,bne_self_eq_false,Bool.not_true,Bool.not_false,beq_self_eq_true])|((with_reducible refine Qab (kr) ?_ ?_ ?_);(with_reducible rfl);rfl)|((with_reducible refine Qab (ko) ?_ ?_ ?_);(with_reducible rfl);rfl)|(with_reducible exact Qaa _ _ (by kernel_rfl))|(with_reducible refine And.intro (Qaa _ _ (by kernel_rfl)) ?_))
 repeat (first|(simp -implicitDefEqProofs only [go_sem,Nat.reduceAdd,Nat.reduceMul,Nat.reduceEqDiff,Nat.reduceLT,Nat.reduceLeDiff,reduceCtorEq,Int.reduceNeg,g0,Qjb,Qmt,Bool.not_true,Bool.not_false])|((with_reducible refine Qab (o1) ?_ ?_ ?_);(with_reducible rfl);rfl)|((with_reducible refine Qab (o2) ?_ ?_ ?_);(with_reducible rfl);rfl)|((with_reducible refine Qab (o3) ?_ ?_ ?_);(with_reducible rfl);rfl)|(with_reducible exact Qaa _ _ (by kernel_rfl))|(with_reducible refine And.intro (Qaa _ _ (by kernel_rfl)) ?_))
 repeat (first|(simp -implicitDefEqProofs only [go_sem,Nat.reduceAdd,Nat.reduceMul,Nat.reduceEqDiff,Nat.reduceLT,Nat.reduceLeDiff,reduceCtorEq,Int.reduceNeg,g0,Qjb,Qmt,Bool.not_true,Bool.not_false])|((with_reducible refine Qab (p1) ?_ ?_ ?_);(with_reducible rfl);rfl)|((with_reducible refine Qab (p2) ?_ ?_ ?_);(with_reducible rfl);rfl)|(with_reducible exact Qaa _ _ (by kernel_rfl))|(with_reducible refine And.intro (Qaa _ _ (by kernel_rfl)) ?_))
 repeat (first|(simp -implicitDefEqProofs only [go_sem,Nat.reduceAdd,Nat.reduceMul,Nat.reduceEqDiff,Nat.reduceLT,Nat.reduceLeDiff,reduceCtorEq,Nat.reduceBneDiff,Int.reduceLE,Int.reduceLT,Int.reduceToNat,Int.reduceNeg,g0,Qjb,Qmt,Bool.not_true,Bool.not_false,List.length_cons,List.length_nil,List.take_succ_cons,List.take_zero,List.drop_succ_cons,List.drop_zero,bl1,bl2,bne_self_eq_false])|((with_reducible refine Qab (f1) ?_ ?_ ?_);(with_reducible rfl);rfl)|((with_reducible refine Qab (s1) ?_ ?_ ?_);(with_reducible rfl);rfl)|((with_reducible refine Qab (s2) ?_ ?_ ?_);(with_reducible rfl);rfl)|((with_reducible refine Qb6 (hpathB) ?_ ?_ ?_ ?_);(with_reducible rfl);rfl;rfl)|(with_reducible exact Qaa _ _ (by kernel_rfl))|(with_reducible refine And.intro (Qaa _ _ (by kernel_rfl)) ?_))
 repeat (first|(simp -implicitDefEqProofs only [go_sem,Nat.reduceAdd,Nat.reduceEqDiff,Nat.reduceLT,reduceCtorEq,Int.reduceLT,Int.reduceNeg,g0,List.length_cons,List.length_nil,List.set_cons_zero,List.set_cons_succ,Bool.not_true,Bool.not_false])|((with_reducible refine Qab (v1) ?_ ?_ ?_);(with_reducible rfl);rfl)|((with_reducible refine Qab (v2) ?_ ?_ ?_);(with_reducible rfl);rfl)|((with_reducible refine Qab (v3) ?_ ?_ ?_);(with_reducible rfl);rfl)|(with_reducible exact Qaa _ _ (by kernel_rfl))|(with_reducible refine And.intro (Qaa _ _ (by kernel_rfl)) ?_))
 trace_state
end Go.Proofs.YtlpiamlgibomhaaGreat

namespace Go.Proofs.YtlpiamlgibomhaaGreat
open Go.Vl Go.RowKit
theorem own:ownKnob Tryz.prog.godebug=none:=by kernel_rfl
theorem Zkj:laidOutB Tryz.prog=true:=by kernel_rfl
theorem Zc7 {k:IntKind} {c:List PV} (h:Qch (.int k) c): ∃n:Int,TT.mk (.int k) c= .int k n∧(Lit.int k n).wf=true:=by
 simp only [Qch]at h
 obtain⟨x,rfl,hx⟩:=h
 exact⟨x,rfl,hx⟩
theorem Qns {n:Int} (h:(Lit.int .i64 n).wf=true): -9223372036854775808≤n∧n≤9223372036854775807:=by
 have:=h
 simp [Lit.wf,IntKind.min,IntKind.max,IntKind.signed,IntKind.bits]at this
 omega
theorem Qvj {c:List PV} (h:Qch (.int .i64) c): ∃n:Int,TT.mk (.int .i64) c= .int .i64 n∧ -9223372036854775808≤n∧n≤9223372036854775807:=by
 obtain⟨n,e,w⟩:=Zc7 h
 exact⟨n,e,Qns w⟩
end Go.Proofs.YtlpiamlgibomhaaGreat

namespace Go.Proofs.YtlpiamlgibomhaaGreat
open Go.Vl Go.RowKit Go.Dg
def Q5c (s:Sg):Prop:=i64 s.f∧i64 s.t∧i64 s.o∧ ∀c∈s.ax,(∀x∈c,i64 x)∧c.length≤maxLen
theorem Zno {s:Sg} (h:Q5c s) (hl: ∀c∈s.ax,c.length≤1000):okSg s:=⟨h.1,h.2.1,h.2.2.1,fun c hc=>(h.2.2.2 c hc).1,hl⟩
def segT:TT:= .agg [.int .i64,.int .i64,.int .i64,.slc (.int .i64),.slc (.int .i64),.slc (.int .i64)]
theorem Q5d {n:Int} (h:(Lit.int .i64 n).wf=true):i64 n:=Qns h
theorem Qih: ∀ess:List (List PV),(∀c∈ess,Qch (.int .i64) c)→ ∃l:List Int,ess.map (TT.mk (.int .i64))=l.map (PV.int .i64)∧l.length=ess.length∧ ∀x∈l,i64 x
 | [],_=>⟨[],rfl,rfl,fun _ h=>nomatch h⟩
 |c::cs,h=>by
  obtain⟨n,e,b⟩:=Qvj (h c (by simp))
  obtain⟨l,hl,hn,hx⟩:=Qih cs (fun c hc=>h c (by simp [hc]))
  refine⟨n::l,by simp [e,hl],by simp [hn],fun x hx'=> ?_⟩
  cases hx' with
  |head=>exact b
  |tail _ h=>exact hx x h
theorem Zc8 {c:List PV} (h:Qch segT c): ∃s:Sg,segT.mk c=sgPV s∧Q5c s:=by
 simp only [segT,Qch,Qgl]at h
 obtain⟨_,_,rfl,⟨f,rfl,hf⟩,_,_,rfl,⟨t,rfl,ht⟩,_,_,rfl,⟨o,rfl,ho⟩,_,_,rfl,⟨ex,rfl,mx,hx⟩,_,_,rfl,⟨ey,rfl,my,hy⟩,_,_,rfl,⟨ez,rfl,mz,hz⟩,rfl⟩:=h
 obtain⟨lx,e1,n1,b1⟩:=Qih ex (fun c hc=>by have:=hx c hc;simpa only [Qch]using this)
 obtain⟨ly,e2,n2,b2⟩:=Qih ey (fun c hc=>by have:=hy c hc;simpa only [Qch]using this)
 obtain⟨lz,e3,n3,b3⟩:=Qih ez (fun c hc=>by have:=hz c hc;simpa only [Qch]using this)
 refine⟨⟨f,t,o,lx,ly,lz⟩,?_,Q5d hf,Q5d ht,Q5d ho,?_⟩
 ·show PV.agg [.int .i64 f,.int .i64 t,.int .i64 o,.slc (ex.map (TT.mk (.int .i64))),.slc (ey.map (TT.mk (.int .i64))),.slc (ez.map (TT.mk (.int .i64)))]=_
  rw [e1,e2,e3];rfl
 ·intro c hc
  simp only [Sg.ax,List.mem_cons,List.not_mem_nil,or_false]at hc
  rcases hc with rfl|rfl|rfl
  ·exact⟨b1,by omega⟩
  ·exact⟨b2,by omega⟩
  ·exact⟨b3,by omega⟩
theorem Q5e {c:List PV} (h:Qch (.slc segT) c): ∃p:List Sg,TT.mk (.slc segT) c= .slc (p.map sgPV)∧((∀s∈p,Q5c s)∧p.length≤maxLen):=by
 simp only [Qch]at h
 obtain⟨ess,rfl,hm,h⟩:=h
 have key: ∀ess:List (List PV),(∀c∈ess,Qch segT c)→ ∃l:List Sg,ess.map segT.mk=l.map sgPV∧l.length=ess.length∧ ∀s∈l,Q5c s:=by
  intro ess
  induction ess with
  |nil=>exact fun _=>⟨[],rfl,rfl,fun _ h=>nomatch h⟩
  |cons c cs ih=>
   intro h
   obtain⟨s,e,b⟩:=Zc8 (h c (by simp))
   obtain⟨l,hl,hn,hx⟩:=ih (fun c hc=>h c (by simp [hc]))
   refine⟨s::l,by simp [e,hl],by simp [hn],fun x hx'=> ?_⟩
   cases hx' with
   |head=>exact b
   |tail _ h=>exact hx x h
 obtain⟨l,e,hn,hx⟩:=key ess h
 exact⟨l,by simp only [TT.mk,List.headD_cons];rw [e],hx,by omega⟩
end Go.Proofs.YtlpiamlgibomhaaGreat
