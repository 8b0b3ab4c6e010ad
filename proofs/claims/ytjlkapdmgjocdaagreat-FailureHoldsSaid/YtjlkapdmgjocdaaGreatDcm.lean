/-
  LM21, LM22, LF23, LF24, Dv, Dy, Dcv, Dsp, Dcw, Dcx, Dcy, Dsr, Dcm (merged for the claim).
-/
import Derived.Test.YtjlkapdmgjocdaaGreatLM20
import Derived.Test.YtjlkapdmgjocdaaGreatLA10
import Derived.Test.YtjlkapdmgjocdaaGreatDsg
import Derived.Test.YtjlkapdmgjocdaaGreatLM11
set_option linter.unusedSimpArgs false
set_option linter.unusedVariables false
namespace Go.Proofs.YtjlkapdmgjocdaaGreat
open Go.Vl Go.RowKit Go.Dg
def Qtt (S:List (Sg×Int×Int)):PV:=if S.all spF=true then .tup [Qcs (S.map spS),.int .i64 0]else .tup [Qcs [],.int .i64 7]
theorem Qmb {x:Sg×Int×Int} (h:spF x=true):spO x=[sgPV (spS x),.bool true]:=by
 unfold spO ptSS;have h':ptF x.1 x.2.1 x.2.2=true:=h;rw [if_pos h',h];rfl
theorem Zot {x:Sg×Int×Int} (h:spF x=false):spO x=[sgPV ⟨x.2.1,x.2.2,0,[],[],[]⟩,.bool false]:=by
 unfold spO ptSS;have h': ¬ptF x.1 x.2.1 x.2.2=true:=by intro e;have:spF x=true:=e;rw [h]at this;cases this
 rw [if_neg h',h]
def cuB (S:List (Sg×Int×Int)):Nat→List (Nat×Box)
 |0=>[(1000000,{els:=[.nilS],esz:=1,ety:=60,fro:=0,live:=true,arr:=false}),(1000001,{els:=[.int .i64 0],esz:=1,ety:=33,fro:=0,live:=true,arr:=false})]
 |k+1=>[(1000000,{els:=[.bs 7 6 0 (k+1)],esz:=1,ety:=60,fro:=0,live:=true,arr:=false}),(1000001,{els:=[.int .i64 0],esz:=1,ety:=33,fro:=0,live:=true,arr:=false}),(7,{els:=((S.take (k+1)).map spS).map sgPV,esz:=6,ety:=91,fro:=0,live:=true,arr:=true})]
theorem Zou (S:List (Sg×Int×Int)) (k:Nat): ∀b∈ [1000000,1000001],(lkp (cuB S k) b).isSome=true:=by
 cases k<;>simp [cuB,lkp]
theorem Q6n {S:List (Sg×Int×Int)} {k:Nat} {x:Sg×Int×Int} (hx:S[k]? =some x):((S.take (k+1)).map spS).map sgPV=((S.take k).map spS).map sgPV++[.agg [.int .i64 (spS x).f,.int .i64 (spS x).t,.int .i64 (spS x).o,.slc ((spS x).x.map (PV.int .i64)),.slc ((spS x).y.map (PV.int .i64)),.slc ((spS x).z.map (PV.int .i64))]]:=by
 obtain⟨hk,rfl⟩:=List.getElem?_eq_some_iff.1 hx;rw [Qcb S k hk,List.map_append,List.map_append];rfl
theorem Q6o {S:List (Sg×Int×Int)} {k:Nat} (h:k≤S.length):(((S.take k).map spS).map sgPV).length=k:=by simp;omega
def cuC (S:List (Sg×Int×Int)) (m k:Nat):List (Nat×Box):=if k=m+1 then [(1000000,{els:=[.nilS],esz:=1,ety:=60,fro:=0,live:=true,arr:=false}),(1000001,{els:=[.int .i64 7],esz:=1,ety:=33,fro:=0,live:=true,arr:=false})]else cuB S k
set_option maxHeartbeats 2000000 in
theorem Zvk (p:List Sg) (f t:Int) (S:List (Sg×Int×Int)) (hS:S.length≤100000) (hY:Qia Tryz.prog 90 [.rp [Qcs p],.rp [.int .i64 f],.rp [.int .i64 t]] (S.map spO)):
  Qaf Tryz.prog 52 [Qcs p,.int .i64 f,.int .i64 t] (Qtt S):=by
 have h1:=Zep p f t;unfold Qcs at h1 hY;by_cases hn:S=[]
 ·subst hn;unfold Qtt Qcs;refine Qab (tb:=[]) 23 [.cell 6 60,.cell 7 33] [0,1,2,6,7,8,9,13,14,15,17] mixed Tryz.func52 rfl (by kernel_rfl) (by kernel_rfl) (by kernel_rfl) (by kernel_rfl) ?_;repeat (first|(simp -implicitDefEqProofs only [go_sem,Nat.reduceAdd,Nat.reduceMul,Nat.reduceEqDiff,Nat.reduceLT,Nat.reduceLeDiff,reduceCtorEq])|((with_reducible refine Qaa h1 ?_ ?_ ?_);rfl;rfl))
  refine Qhd mixed hY rfl rfl _ rfl [(1000000,0),(1000001,1)] [1000000,1000001] rfl [(6,.bp 1000000 1 0 0),(7,.bp 1000001 1 0 0)] (cuB []) rfl rfl ?_ ?_ ?_ 0 .normal (fun h=>by simp at h) (fun k _ _=>Zou [] k) (fun k args h=>by simp at h) rfl (fun k args h=>by simp at h)
   [(0,1000000),(1,1000001)] [(6,.bp 0 1 0 0),(7,.bp 1 1 0 0)] [(0,{els:=[.nilS],esz:=1,ety:=60,fro:=0,live:=true,arr:=false}),(1,{els:=[.int .i64 0],esz:=1,ety:=33,fro:=0,live:=true,arr:=false})] rfl rfl ?_ ?_ (fun _=> ?_) (fun h=>by simp at h)
  ·simp [Qac,lkp,ren1,ren0,Qai]
  ·exact⟨⟨rfl,rfl,rfl,rfl,rfl,.inr ⟨rfl,_,_,rfl,rfl,rfl,rfl⟩⟩,⟨rfl,rfl,rfl,rfl,rfl,.inr ⟨rfl,_,_,rfl,rfl,rfl,rfl⟩⟩,trivial⟩
  ·simp [Qac,lkp,ren1,ren0,Qai,Qj7]
  ·simp [Qac,lkp,ren1,ren0,Qai]
  ·exact⟨⟨rfl,rfl,rfl,rfl,rfl,.inr ⟨rfl,_,_,rfl,rfl,rfl,rfl⟩⟩,⟨rfl,rfl,rfl,rfl,rfl,.inr ⟨rfl,_,_,rfl,rfl,rfl,rfl⟩⟩,trivial⟩
  ·repeat (first|(simp -implicitDefEqProofs only [go_sem,Nat.reduceAdd,Nat.reduceMul,Nat.reduceEqDiff,Nat.reduceLT,Nat.reduceLeDiff,reduceCtorEq,List.map_nil,List.all_nil,if_true]))
 by_cases hall:S.all spF=true
 ·have hfine: ∀(k:Nat) (x:Sg×Int×Int),S[k]? =some x→spF x=true:=fun k x h=>List.all_eq_true.1 hall x (List.mem_of_getElem? h);unfold Qtt Qcs;rw [if_pos hall];obtain⟨n,hn1⟩: ∃n,S.length=n+1:=⟨S.length-1,by have:=List.length_pos_iff.2 hn;omega⟩;have hmin:min (S.map spO).length (n+1+1)=n+1:=by rw [List.length_map];omega
  have htk:S.take (n+1)=S:=List.take_of_length_le (by omega);refine Qab (tb:=[]) 23 [.cell 6 60,.cell 7 33] [0,1,2,6,7,8,9,13,14,15,17] mixed Tryz.func52 rfl (by kernel_rfl) (by kernel_rfl) (by kernel_rfl) (by kernel_rfl) ?_;repeat (first|(simp -implicitDefEqProofs only [go_sem,Nat.reduceAdd,Nat.reduceMul,Nat.reduceEqDiff,Nat.reduceLT,Nat.reduceLeDiff,reduceCtorEq])|((with_reducible refine Qaa h1 ?_ ?_ ?_);rfl;rfl))
  refine Qhd mixed hY rfl rfl _ rfl [(1000000,0),(1000001,1)] [1000000,1000001] rfl [(6,.bp 1000000 1 0 0),(7,.bp 1000001 1 0 0)] (cuB S) rfl rfl ?_ ?_ ?_ (n+1) .normal (fun h=>by simp [hn1]at h) (fun k _ _=>Zou S k) ?_ rfl ?_
   [(0,1000000),(1,1000001),(7,7)] [(6,.bp 0 1 0 0),(7,.bp 1 1 0 0)] [(0,{els:=[.bs 7 6 0 (n+1)],esz:=1,ety:=60,fro:=0,live:=true,arr:=false}),(1,{els:=[.int .i64 0],esz:=1,ety:=33,fro:=0,live:=true,arr:=false}),(7,{els:=(S.map spS).map sgPV,esz:=6,ety:=91,fro:=0,live:=true,arr:=true})] rfl rfl ?_ ?_ (fun _=> ?_) (fun h=>by simp [hn1]at h)
  ·simp [Qac,lkp,ren1,ren0,Qai]
  ·exact⟨⟨rfl,rfl,rfl,rfl,rfl,.inr ⟨rfl,_,_,rfl,rfl,rfl,rfl⟩⟩,⟨rfl,rfl,rfl,rfl,rfl,.inr ⟨rfl,_,_,rfl,rfl,rfl,rfl⟩⟩,trivial⟩
  ·simp [Qac,lkp,ren1,ren0,Qai,Qj7]
  ·intro k args h;simp only [List.getElem?_map,Option.map_eq_some_iff]at h;obtain⟨x, -,rfl⟩:=h;rfl
  ·rintro k args hka hk;simp only [List.getElem?_map,Option.map_eq_some_iff]at hka;obtain⟨x,hx,rfl⟩:=hka;have hkl:k<S.length:=(List.getElem?_eq_some_iff.1 hx).1;have hlx:=Q6n hx;cases k with
   |zero=>
    rw [Qmb (hfine _ _ hx)]
    skip
    simp only [cuB];have e0:((S.take 0).map spS).map sgPV=[]:=rfl;rw [e0,List.nil_append]at hlx;repeat (first|(simp -implicitDefEqProofs only [go_sem,Nat.reduceAdd,Nat.reduceMul,Nat.reduceEqDiff,Nat.reduceLT,Nat.reduceLeDiff,reduceIte,reduceCtorEq,pvars,List.toList_toArray,sgPV]))
    refine⟨by simp [lkp],?_⟩;repeat (first|(simp -implicitDefEqProofs only [go_sem,Nat.reduceAdd,Nat.reduceMul,Nat.reduceEqDiff,Nat.reduceLT,Nat.reduceLeDiff,Nat.reduceSub,Nat.reduceBEq,reduceIte,reduceCtorEq,Int.reduceEq,Int.reduceNe,Nat.reduceBneDiff,Int.reduceLE,Int.reduceLT,Int.reduceToNat,Int.reduceAdd,Int.reduceSub,Int.reduceMul,Int.reduceNeg]))
    refine⟨by omega,?_⟩
    skip
    refine Qaj (θ:=[(1000000,1000000),(1000001,1000001),(7,603)]) rfl ?_ ?_
    ·simp [Qac,lkp,ren1,ren0,Qai]
    ·simp only [cuB,hlx];exact⟨⟨rfl,rfl,rfl,rfl,rfl,.inr ⟨rfl,_,_,rfl,rfl,rfl,rfl⟩⟩,⟨rfl,rfl,rfl,rfl,rfl,.inr ⟨rfl,_,_,rfl,rfl,rfl,rfl⟩⟩,⟨rfl,rfl,rfl,rfl,rfl,.inl ⟨rfl,rfl⟩⟩,trivial⟩
   |succ k=>
    rw [Qmb (hfine _ _ hx)]
    skip
    simp only [cuB];have b1:=Q6o (S:=S) (k:=k+1) (by omega);have b2:((((S.take (k+1)).map spS).map sgPV).flatMap PV.cells).all PV.okCell=true:=Q6h _;have c1:((k+1+1)*96≤140737488355328)=True:=eq_true (by omega);have c2:(k+1+1≤maxLen)=True:=eq_true (by unfold maxLen;omega);generalize hT:((S.take (k+1)).map spS).map sgPV=T at*;repeat (first|(simp -implicitDefEqProofs only [go_sem,Nat.reduceAdd,Nat.reduceMul,Nat.reduceEqDiff,Nat.reduceLT,Nat.reduceLeDiff,reduceIte,reduceCtorEq,Nat.reduceBneDiff,pvars,List.toList_toArray,sgPV]))
    refine⟨by simp [lkp],?_⟩;repeat (first|(simp -implicitDefEqProofs only [go_sem,Nat.reduceAdd,Nat.reduceEqDiff,reduceCtorEq,b1,b2,c1,c2]))
    refine⟨by omega,?_⟩
    skip
    refine Qaj (θ:=[(1000000,1000000),(1000001,1000001),(7,603)]) rfl ?_ ?_
    ·simp [Qac,lkp,ren1,ren0,Qai]
    ·simp only [cuB,hlx];exact⟨⟨rfl,rfl,rfl,rfl,rfl,.inr ⟨rfl,_,_,rfl,rfl,rfl,rfl⟩⟩,⟨rfl,rfl,rfl,rfl,rfl,.inr ⟨rfl,_,_,rfl,rfl,rfl,rfl⟩⟩,⟨rfl,rfl,rfl,rfl,rfl,.inl ⟨rfl,rfl⟩⟩,trivial⟩
  ·simp [Qac,lkp,ren1,ren0,Qai]
  ·rw [hmin];simp only [cuB];rw [htk];exact⟨⟨rfl,rfl,rfl,rfl,rfl,.inr ⟨rfl,_,_,rfl,rfl,rfl,rfl⟩⟩,⟨rfl,rfl,rfl,rfl,rfl,.inr ⟨rfl,_,_,rfl,rfl,rfl,rfl⟩⟩,⟨rfl,rfl,rfl,rfl,rfl,.inl ⟨rfl,rfl⟩⟩,trivial⟩
  ·have b1:((S.map spS).map sgPV).length=n+1:=by simp [hn1]
   have b2:(((S.map spS).map sgPV).flatMap PV.cells).all PV.okCell=true:=Q6h _;have b3:((S.map spS).map sgPV).take (n+1)=(S.map spS).map sgPV:=List.take_of_length_le (by omega);generalize (S.map spS).map sgPV=T at*;repeat (first|(simp -implicitDefEqProofs only [go_sem,Nat.reduceAdd,Nat.reduceMul,Nat.reduceEqDiff,Nat.reduceLT,Nat.reduceLeDiff,reduceIte,reduceCtorEq,b1,b3]))
 ·obtain⟨m,hm,hbad,hf⟩: ∃m,∃h:m<S.length,spF S[m]=false∧ ∀k,k<m→ ∀x,S[k]? =some x→spF x=true:=by
   have hex: ∃x∈S,(!spF x)=true:=Classical.byContradiction fun h=>hall (List.all_eq_true.2 fun x hx=>by
    cases e:spF x with
    |true=>rfl
    |false=>exact(h ⟨x,hx,by rw [e];rfl⟩).elim)
   have hlt:=List.findIdx_lt_length_of_exists hex;refine⟨S.findIdx fun x=> !spF x,hlt,?_,fun k hk x hx=> ?_⟩
   ·have:=List.findIdx_getElem (w:=hlt);simpa using this
   ·obtain⟨hk2,rfl⟩:=List.getElem?_eq_some_iff.1 hx;have:=List.not_of_lt_findIdx hk;simpa using this
  have hB1: ∀k,k≤m→cuC S m k=cuB S k:=fun k h=>if_neg (by omega);have hB2:cuC S m (m+1)=[(1000000,{els:=[.nilS],esz:=1,ety:=60,fro:=0,live:=true,arr:=false}),(1000001,{els:=[.int .i64 7],esz:=1,ety:=33,fro:=0,live:=true,arr:=false})]:=if_pos rfl;have hN: ∀k,∀b∈ [1000000,1000001],(lkp (cuC S m k) b).isSome=true:=by
   intro k;by_cases h:k=m+1
   ·rw [h,hB2];simp [lkp]
   ·rw [show cuC S m k=cuB S k from if_neg h];exact Zou S k
  have hmin:min (S.map spO).length (m+1)=m+1:=by rw [List.length_map];omega
  have hC0:cuC S m 0=[(1000000,{els:=[.nilS],esz:=1,ety:=60,fro:=0,live:=true,arr:=false}),(1000001,{els:=[.int .i64 0],esz:=1,ety:=33,fro:=0,live:=true,arr:=false})]:=hB1 0 (Nat.zero_le _);unfold Qtt Qcs;rw [if_neg hall];refine Qab (tb:=[]) 23 [.cell 6 60,.cell 7 33] [0,1,2,6,7,8,9,13,14,15,17] mixed Tryz.func52 rfl (by kernel_rfl) (by kernel_rfl) (by kernel_rfl) (by kernel_rfl) ?_;repeat (first|(simp -implicitDefEqProofs only [go_sem,Nat.reduceAdd,Nat.reduceMul,Nat.reduceEqDiff,Nat.reduceLT,Nat.reduceLeDiff,reduceCtorEq])|((with_reducible refine Qaa h1 ?_ ?_ ?_);rfl;rfl))
  refine Qhd mixed hY rfl rfl _ rfl [(1000000,0),(1000001,1)] [1000000,1000001] rfl [(6,.bp 1000000 1 0 0),(7,.bp 1000001 1 0 0)] (cuC S m) rfl (by rw [hC0];rfl) ?_ ?_ ?_ m .ret (fun _=>rfl) (fun k _ _=>hN k) ?_ rfl ?_
   [(0,1000000),(1,1000001)] [(6,.bp 0 1 0 0),(7,.bp 1 1 0 0)] [(0,{els:=[.nilS],esz:=1,ety:=60,fro:=0,live:=true,arr:=false}),(1,{els:=[.int .i64 7],esz:=1,ety:=33,fro:=0,live:=true,arr:=false})] rfl rfl ?_ ?_ (fun h=>by rw [List.length_map]at h;omega) (fun _=> ?_)
  ·simp [Qac,lkp,ren1,ren0,Qai]
  ·rw [hC0];exact⟨⟨rfl,rfl,rfl,rfl,rfl,.inr ⟨rfl,_,_,rfl,rfl,rfl,rfl⟩⟩,⟨rfl,rfl,rfl,rfl,rfl,.inr ⟨rfl,_,_,rfl,rfl,rfl,rfl⟩⟩,trivial⟩
  ·simp [Qac,lkp,ren1,ren0,Qai,Qj7]
  ·intro k args h;simp only [List.getElem?_map,Option.map_eq_some_iff]at h;obtain⟨x, -,rfl⟩:=h;rfl
  ·rintro k args hka hk;simp only [List.getElem?_map,Option.map_eq_some_iff]at hka;obtain⟨x,hx,rfl⟩:=hka;by_cases hkm:k<m
   ·skip
    have hkl:k<S.length:=(List.getElem?_eq_some_iff.1 hx).1;have hlx:=Q6n hx;cases k with
    |zero=>
     rw [Qmb (hf _ hkm x hx)];rw [hB1 _ (Nat.le_of_lt hkm)];simp only [cuB];have e0:((S.take 0).map spS).map sgPV=[]:=rfl;rw [e0,List.nil_append]at hlx;repeat (first|(simp -implicitDefEqProofs only [go_sem,Nat.reduceAdd,Nat.reduceMul,Nat.reduceEqDiff,Nat.reduceLT,Nat.reduceLeDiff,reduceIte,reduceCtorEq,pvars,List.toList_toArray,sgPV]))
     refine⟨by simp [lkp],?_⟩;repeat (first|(simp -implicitDefEqProofs only [go_sem,Nat.reduceAdd,Nat.reduceMul,Nat.reduceEqDiff,Nat.reduceLT,Nat.reduceLeDiff,Nat.reduceSub,Nat.reduceBEq,reduceIte,reduceCtorEq,Int.reduceEq,Int.reduceNe,Nat.reduceBneDiff,Int.reduceLE,Int.reduceLT,Int.reduceToNat,Int.reduceAdd,Int.reduceSub,Int.reduceMul,Int.reduceNeg]))
     refine⟨hkm,?_⟩;rw [hB1 _ (by omega)];refine Qaj (θ:=[(1000000,1000000),(1000001,1000001),(7,603)]) rfl ?_ ?_
     ·simp [Qac,lkp,ren1,ren0,Qai]
     ·simp only [cuB,hlx];exact⟨⟨rfl,rfl,rfl,rfl,rfl,.inr ⟨rfl,_,_,rfl,rfl,rfl,rfl⟩⟩,⟨rfl,rfl,rfl,rfl,rfl,.inr ⟨rfl,_,_,rfl,rfl,rfl,rfl⟩⟩,⟨rfl,rfl,rfl,rfl,rfl,.inl ⟨rfl,rfl⟩⟩,trivial⟩
    |succ k=>
     rw [Qmb (hf _ hkm x hx)];rw [hB1 _ (Nat.le_of_lt hkm)];simp only [cuB];have b1:=Q6o (S:=S) (k:=k+1) (by omega);have b2:((((S.take (k+1)).map spS).map sgPV).flatMap PV.cells).all PV.okCell=true:=Q6h _;have c1:((k+1+1)*96≤140737488355328)=True:=eq_true (by omega);have c2:(k+1+1≤maxLen)=True:=eq_true (by unfold maxLen;omega);generalize hT:((S.take (k+1)).map spS).map sgPV=T at*;repeat (first|(simp -implicitDefEqProofs only [go_sem,Nat.reduceAdd,Nat.reduceMul,Nat.reduceEqDiff,Nat.reduceLT,Nat.reduceLeDiff,reduceIte,reduceCtorEq,Nat.reduceBneDiff,pvars,List.toList_toArray,sgPV]))
     refine⟨by simp [lkp],?_⟩;repeat (first|(simp -implicitDefEqProofs only [go_sem,Nat.reduceAdd,Nat.reduceEqDiff,reduceCtorEq,b1,b2,c1,c2]))
     refine⟨hkm,?_⟩;rw [hB1 _ (by omega)];refine Qaj (θ:=[(1000000,1000000),(1000001,1000001),(7,603)]) rfl ?_ ?_
     ·simp [Qac,lkp,ren1,ren0,Qai]
     ·simp only [cuB,hlx];exact⟨⟨rfl,rfl,rfl,rfl,rfl,.inr ⟨rfl,_,_,rfl,rfl,rfl,rfl⟩⟩,⟨rfl,rfl,rfl,rfl,rfl,.inr ⟨rfl,_,_,rfl,rfl,rfl,rfl⟩⟩,⟨rfl,rfl,rfl,rfl,rfl,.inl ⟨rfl,rfl⟩⟩,trivial⟩
   ·obtain rfl:k=m:=by omega
    have hxb:spF x=false:=by
     obtain⟨_,rfl⟩:=List.getElem?_eq_some_iff.1 hx;exact hbad
    rw [Zot hxb,hB1 _ (Nat.le_refl _)];cases k with
    |zero=>
     simp only [cuB];repeat (first|(simp -implicitDefEqProofs only [go_sem,Nat.reduceAdd,Nat.reduceMul,Nat.reduceEqDiff,Nat.reduceLT,Nat.reduceLeDiff,reduceCtorEq,pvars,List.toList_toArray,sgPV]))
     refine⟨by simp [lkp],?_⟩;repeat (first|(simp -implicitDefEqProofs only [go_sem,Nat.reduceAdd,Nat.reduceMul,Nat.reduceEqDiff,Nat.reduceLT,Nat.reduceLeDiff,Nat.reduceSub,Nat.reduceBEq,reduceIte,reduceCtorEq,Int.reduceEq,Int.reduceNe,Nat.reduceBneDiff,Int.reduceLE,Int.reduceLT,Int.reduceToNat,Int.reduceAdd,Int.reduceSub,Int.reduceMul,Int.reduceNeg]))
     refine⟨rfl,rfl,?_⟩;rw [hB2];refine Qaj (θ:=[(1000000,1000000),(1000001,1000001)]) rfl ?_ ?_
     ·simp [Qac,lkp,ren1,ren0,Qai]
     ·exact⟨⟨rfl,rfl,rfl,rfl,rfl,.inr ⟨rfl,_,_,rfl,rfl,rfl,rfl⟩⟩,⟨rfl,rfl,rfl,rfl,rfl,.inr ⟨rfl,_,_,rfl,rfl,rfl,rfl⟩⟩,trivial⟩
    |succ k=>
     simp only [cuB];generalize hT:((S.take (k+1)).map spS).map sgPV=T at*;repeat (first|(simp -implicitDefEqProofs only [go_sem,Nat.reduceAdd,Nat.reduceMul,Nat.reduceEqDiff,Nat.reduceLT,Nat.reduceLeDiff,reduceCtorEq,pvars,List.toList_toArray,sgPV]))
     refine⟨by simp [lkp],?_⟩;repeat (first|(simp -implicitDefEqProofs only [go_sem,Nat.reduceAdd,Nat.reduceMul,Nat.reduceEqDiff,Nat.reduceLT,Nat.reduceLeDiff,Nat.reduceSub,Nat.reduceBEq,reduceIte,reduceCtorEq,Int.reduceEq,Int.reduceNe,Nat.reduceBneDiff,Int.reduceLE,Int.reduceLT,Int.reduceToNat,Int.reduceAdd,Int.reduceSub,Int.reduceMul,Int.reduceNeg]))
     refine⟨rfl,rfl,?_⟩;rw [hB2];refine Qaj (θ:=[(1000000,1000000),(1000001,1000001)]) rfl ?_ ?_
     ·simp [Qac,lkp,ren1,ren0,Qai]
     ·exact⟨⟨rfl,rfl,rfl,rfl,rfl,.inr ⟨rfl,_,_,rfl,rfl,rfl,rfl⟩⟩,⟨rfl,rfl,rfl,rfl,rfl,.inr ⟨rfl,_,_,rfl,rfl,rfl,rfl⟩⟩,trivial⟩
  ·simp [Qac,lkp,ren1,ren0,Qai]
  ·rw [hmin,hB2];exact⟨⟨rfl,rfl,rfl,rfl,rfl,.inr ⟨rfl,_,_,rfl,rfl,rfl,rfl⟩⟩,⟨rfl,rfl,rfl,rfl,rfl,.inr ⟨rfl,_,_,rfl,rfl,rfl,rfl⟩⟩,trivial⟩
  ·rw [Zmv];repeat (first|(simp -implicitDefEqProofs only [go_sem,Nat.reduceEqDiff,reduceCtorEq]))
end Go.Proofs.YtjlkapdmgjocdaaGreat

namespace Go.Proofs.YtjlkapdmgjocdaaGreat
open Go.Vl Go.RowKit Go.Dg
def Qlb (p:List Sg) (f t:Int):PV:=if Qbm p=true then(if pBeg p≤f∧f<t∧t≤pEnd p then Qtt (spans p f t)else .tup [Qcs [],.int .i64 3])else .tup [Qcs [],.int .i64 2]
theorem Qza (S:List (Sg×Int×Int)): ∃X n,Qtt S= .tup [Qcs X,.int .i64 n]:=by
 unfold Qtt;split<;>exact⟨_,_,rfl⟩
theorem Q01 {p:List Sg} (h:Qbm p=true): ∀s∈p,Qa7 s=true:=by
 intro s hs;obtain⟨i,hi,rfl⟩:=List.getElem_of_mem hs;exact Qdj h i hi
theorem Zvl (p:List Sg) (f t:Int) (hp: ∀s∈p,okSg s) (hl:p.length≤100000):Qaf Tryz.prog 31 [Qcs p,.int .i64 f,.int .i64 t] (Qlb p f t):=by
 have hs:=Qv6 p hp (by omega);unfold Qlb;unfold Qcs at hs;cases hV:Qbm p with
 |false=>
  rw [hV]at hs;simp only [Bool.false_eq_true,if_false]at hs;unfold Qcs;refine Qab (tb:=[]) 41 [.tmp 6,.tmp 7] [0,1,2,6,7,8,9,10,17,21] mixed Tryz.func31 rfl (by kernel_rfl) (by kernel_rfl) (by kernel_rfl) (by kernel_rfl) ?_;repeat (first|(simp -implicitDefEqProofs only [go_sem,Nat.reduceAdd,Nat.reduceMul,Nat.reduceEqDiff,Nat.reduceLT,Nat.reduceLeDiff,reduceCtorEq,Zvq,Bool.false_eq_true,if_false,List.map_nil])|((with_reducible refine Qaa hs ?_ ?_ ?_);rfl;rfl))
 |true=>
  rw [hV]at hs;simp only [if_true]at hs ⊢;have hv:=Q01 hV;have hc:=Zvk p f t (spans p f t) (Nat.le_trans (Qla _ _ _) hl) (Q6m p f t hp hv hl);obtain⟨X,n,hX⟩:=Qza (spans p f t);rw [hX]at hc ⊢;unfold Qcs at hc ⊢;generalize pBeg p=A at*;generalize pEnd p=B at*;by_cases h1:A≤f
  ·have h1':(f<A)=False:=eq_false (by omega);by_cases h2:f<t
   ·have h2':(t≤f)=False:=eq_false (by omega);by_cases h3:t≤B
    ·have h3':(B<t)=False:=eq_false (by omega);rw [if_pos ⟨h1,h2,h3⟩];refine Qab (tb:=[]) 41 [.tmp 6,.tmp 7] [0,1,2,6,7,8,9,10,17,21] mixed Tryz.func31 rfl (by kernel_rfl) (by kernel_rfl) (by kernel_rfl) (by kernel_rfl) ?_;repeat (first|(simp -implicitDefEqProofs only [go_sem,Nat.reduceAdd,Nat.reduceMul,Nat.reduceEqDiff,Nat.reduceLT,Nat.reduceLeDiff,reduceCtorEq,Q6s,h1',h2',h3',decide_false])|((with_reducible refine Qaa hs ?_ ?_ ?_);rfl;rfl)|((with_reducible refine Qaa hc ?_ ?_ ?_);rfl;rfl))
    ·have h3':(B<t)=True:=eq_true (by omega);rw [if_neg (by omega)];refine Qab (tb:=[]) 41 [.tmp 6,.tmp 7] [0,1,2,6,7,8,9,10,17,21] mixed Tryz.func31 rfl (by kernel_rfl) (by kernel_rfl) (by kernel_rfl) (by kernel_rfl) ?_;repeat (first|(simp -implicitDefEqProofs only [go_sem,Nat.reduceAdd,Nat.reduceMul,Nat.reduceEqDiff,Nat.reduceLT,Nat.reduceLeDiff,reduceCtorEq,Q6s,h1',h2',h3',decide_false,decide_true,List.map_nil])|((with_reducible refine Qaa hs ?_ ?_ ?_);rfl;rfl))
   ·have h2':(t≤f)=True:=eq_true (by omega);rw [if_neg (by omega)];refine Qab (tb:=[]) 41 [.tmp 6,.tmp 7] [0,1,2,6,7,8,9,10,17,21] mixed Tryz.func31 rfl (by kernel_rfl) (by kernel_rfl) (by kernel_rfl) (by kernel_rfl) ?_;repeat (first|(simp -implicitDefEqProofs only [go_sem,Nat.reduceAdd,Nat.reduceMul,Nat.reduceEqDiff,Nat.reduceLT,Nat.reduceLeDiff,reduceCtorEq,Q6s,h1',h2',decide_false,decide_true,List.map_nil])|((with_reducible refine Qaa hs ?_ ?_ ?_);rfl;rfl))
  ·have h1':(f<A)=True:=eq_true (by omega);rw [if_neg (by omega)];refine Qab (tb:=[]) 41 [.tmp 6,.tmp 7] [0,1,2,6,7,8,9,10,17,21] mixed Tryz.func31 rfl (by kernel_rfl) (by kernel_rfl) (by kernel_rfl) (by kernel_rfl) ?_;repeat (first|(simp -implicitDefEqProofs only [go_sem,Nat.reduceAdd,Nat.reduceMul,Nat.reduceEqDiff,Nat.reduceLT,Nat.reduceLeDiff,reduceCtorEq,Q6s,h1',decide_true,List.map_nil])|((with_reducible refine Qaa hs ?_ ?_ ?_);rfl;rfl))
end Go.Proofs.YtjlkapdmgjocdaaGreat

namespace Go.Proofs.YtjlkapdmgjocdaaGreat
open Go.Vl Go.RowKit Go.Dg
theorem Qq8 {a b k:Int} (ha:inB a=true) (hb:inB b=true):(∀x∈Qc5 a b (rowK k),i64 x)∧(Qc5 a b (rowK k)).length≤1000:=by
 rw [Qvh]at ha hb;unfold Qc5;by_cases e:a=b
 ·rw [if_pos e];exact⟨fun x hx=>by rcases List.mem_singleton.1 hx with rfl;unfold i64;omega,by simp⟩
 ·rw [if_neg e];unfold rowK;split
  ·refine⟨fun x hx=> ?_,by simp⟩;simp only [List.map_cons,List.map_nil,List.mem_cons,List.not_mem_nil,or_false]at hx;unfold i64;rcases hx with rfl|rfl<;>omega
  ·split
   ·refine⟨fun x hx=> ?_,by simp⟩;simp only [List.map_cons,List.map_nil,List.mem_cons,List.not_mem_nil,or_false]at hx;unfold i64;rcases hx with rfl|rfl|rfl|rfl|rfl|rfl<;>omega
   ·refine⟨fun x hx=> ?_,by simp⟩;simp only [List.map_nil,List.mem_cons,List.not_mem_nil,or_false]at hx;unfold i64;rcases hx with rfl;omega
theorem Qq9 {a b:V3} {f t k:Int} (ha:ptB a=true) (hb:ptB b=true) (hf: -100000000≤f∧f≤100000000) (ht: -100000000≤t∧t≤100000000):okSg (legS a b f t k):=by
 unfold ptB at ha hb;simp only [Bool.and_eq_true]at ha hb;have h1:=Qq8 (k:=k) ha.1 hb.1;have h2:=Qq8 (k:=k) ha.2.1 hb.2.1;have h3:=Qq8 (k:=k) ha.2.2 hb.2.2;refine⟨by unfold i64 legS;simp only;omega,by unfold i64 legS;simp only;omega,by unfold i64 legS;simp only;omega,fun c hc=> ?_,fun c hc=> ?_⟩
 ·simp only [Sg.ax,legS,List.mem_cons,List.not_mem_nil,or_false]at hc;rcases hc with rfl|rfl|rfl
  ·exact h1.1
  ·exact h2.1
  ·exact h3.1
 ·simp only [Sg.ax,legS,List.mem_cons,List.not_mem_nil,or_false]at hc;rcases hc with rfl|rfl|rfl
  ·exact h1.2
  ·exact h2.2
  ·exact h3.2
theorem Qra {a b:V3} {f t k:Int}: ∀s∈flyL a b f t k,okSg s:=by
 intro s hs;unfold flyL at hs;split at hs
 ·rename_i h;rcases List.mem_singleton.1 hs with rfl;unfold Qkd tmB at h;simp only [Bool.and_eq_true,decide_eq_true_eq]at h;exact Qq9 h.1 h.2.1 (by omega) (by omega)
 ·cases hs
theorem Zu6 {v:V3} {m:Mv} {a l:Int}: ∀s∈mvP v m a l,okSg s:=by
 intro s hs;unfold mvP at hs;split at hs
 case isFalse=>cases hs
 rename_i h;unfold mvE at h;split at h
 case isFalse=>cases h
 rename_i h1;obtain⟨hv,l1,l2,ha,hm⟩:=h1;rw [Qdr]at ha;unfold mvB at hm;simp only [Bool.and_eq_true,Qdr,decide_eq_true_eq]at hm;obtain⟨m1,m2,m3,m4,m5,m6⟩:=hm;unfold mvL Qcv at hs;split at hs
 ·exact Qra s hs
 ·rename_i hf;rw [if_neg hf]at m6;rcases List.mem_append.1 hs with hs|hs
  ·rcases List.mem_append.1 hs with hs|hs
   ·exact Qra s hs
   ·unfold midL at hs;split at hs
    ·rename_i hr;rw [if_pos hr]at m6;simp only [Bool.and_eq_true,decide_eq_true_eq]at m6;obtain⟨q1,q2,q3⟩:=m6;unfold hiB at q2 q3;unfold arc3 at hs;simp only [List.mem_cons,List.not_mem_nil,or_false]at hs;rcases hs with rfl|rfl|rfl
     ·exact Qq9 hv q2 (by omega) (by omega)
     ·exact Qq9 q2 q3 (by omega) (by omega)
     ·exact Qq9 q3 m1 (by omega) (by omega)
    ·exact Qra s hs
  ·exact Qra s hs
theorem Zn7 (p:Pg) (i k:Nat): ∀s∈Qa1 p i k,okSg s:=by
 intro s hs;unfold Qa1 at hs;obtain⟨a,_,ha⟩:=List.mem_flatMap.1 hs;exact Zu6 s ha
theorem Q50 (l:List Sg) (f t:Int): ∃X n,Qlb l f t= .tup [pV X,.int .i64 n]:=by
 unfold Qlb;split
 ·split
  ·exact Qza _
  ·exact⟨[],3,rfl⟩
 ·exact⟨[],2,rfl⟩
theorem Zd4 (p:Pg) (i:Nat) (k:Nat) (hk:k≤60) (f t:Int):Qaf Tryz.prog 31 [pV (Qa1 p i k),.int .i64 f,.int .i64 t] (Qlb (Qa1 p i k) f t):=
 Zvl _ f t (Zn7 p i k) (by have:=Qkm p i k;omega)
def Qrb (p:Pg) (i k:Int):PV:=if Qe0 p i k=true then Qlb (Qa1 p i.toNat p.as_.length) 0 (begT p (k.toNat+1))else .tup [pV [],.int .i64 2]
set_option maxHeartbeats 1000000 in
theorem Q51 (p:Pg) (hf:FewP p) (i k:Int):Qaf Tryz.prog 25 [pgV p,.agg [.int .i64 i,.int .i64 k]] (Qrb p i k):=by
 have ok:=Qnd hf;have hF:=Qko p ok i k;unfold Qrb;cases e:Qe0 p i k with
 |false=>
  rw [e]at hF;rw [if_neg Bool.false_ne_true];unfold pV;unfold pgV at hF ⊢;refine Qab (tb:=[]) 30 [.tmp 4,.tmp 5] [0,1,2,3,4,5,6,7,11,20] mixed Tryz.func25 rfl (by kernel_rfl) (by kernel_rfl) (by kernel_rfl) (by kernel_rfl) ?_;repeat (first|(simp -implicitDefEqProofs only [go_sem,Nat.reduceAdd,Nat.reduceMul,Nat.reduceEqDiff,Nat.reduceLT,Nat.reduceLeDiff,reduceCtorEq,Bool.not_false])|((with_reducible refine Qaa hF ?_ ?_ ?_);rfl;rfl))
 |true=>
  rw [e]at hF;obtain⟨v,i1,i2,a1,a2⟩:=Qcn e;have hpa:=(Qbx v).2.1;have e2:Qgl p i=0:=by unfold Qgl;rw [if_pos v,if_pos ⟨i1,i2⟩,if_neg (by omega)]
  have hP:=Q5z p hf i;unfold Q0v at hP;rw [e2,if_pos rfl]at hP;have hE:=Qto p v (k.toNat+1) (by omega) k (by omega);have hC:=Zd4 p i.toNat p.as_.length hpa 0 (begT p (k.toNat+1));obtain⟨X,n,hX⟩:=Q50 (Qa1 p i.toNat p.as_.length) 0 (begT p (k.toNat+1));rw [if_pos rfl,hX];rw [hX]at hC;unfold pV at*;unfold pgV at*;refine Qab (tb:=[]) 30 [.tmp 4,.tmp 5] [0,1,2,3,4,5,6,7,11,20] mixed Tryz.func25 rfl (by kernel_rfl) (by kernel_rfl) (by kernel_rfl) (by kernel_rfl) ?_;repeat (first|(simp -implicitDefEqProofs only [go_sem,Nat.reduceAdd,Nat.reduceMul,Nat.reduceEqDiff,Nat.reduceLT,Nat.reduceLeDiff,reduceCtorEq,Bool.not_true,bne_self_eq_false])|((with_reducible refine Qaa hF ?_ ?_ ?_);rfl;rfl)|((with_reducible refine Qaa hP ?_ ?_ ?_);rfl;rfl)|((with_reducible refine Qaa hE ?_ ?_ ?_);rfl;rfl)|((with_reducible refine Qaa hC ?_ ?_ ?_);rfl;rfl))
end Go.Proofs.YtjlkapdmgjocdaaGreat

namespace Go.Proofs.YtjlkapdmgjocdaaGreat
open Go.Vl Go.RowKit Go.Dg
def cutZ (l:List Sg) (f t:Int):List Sg×Int:=if Qbm l=true then(if pBeg l≤f∧f<t∧t≤pEnd l then(if(spans l f t).all spF=true then((spans l f t).map spS,0)else([],7))else([],3))else([],2)
theorem Qrc (l:List Sg) (f t:Int):Qlb l f t= .tup [pV (cutZ l f t).1,.int .i64 (cutZ l f t).2]:=by
 unfold Qlb cutZ Qtt;split
 ·split
  ·split<;>rfl
  ·rfl
 ·rfl
def othC (p:Pg) (f t:Int) (i:Nat):List Sg×Int:=cutZ (Qa1 p i p.as_.length) f t
def othE (p:Pg) (c:Int) (f t:Int):Nat→Int
 |0=>0
 |m+1=>if othE p c f t m=0 then(if(m:Int)=c then 0 else(othC p f t m).2)else othE p c f t m
def othL (p:Pg) (c:Int) (f t:Int):Nat→List (List Sg)
 |0=>[]
 |m+1=>if(m:Int)=c then othL p c f t m else othL p c f t m++[(othC p f t m).1]
theorem Qrd (p:Pg) (c f t:Int): ∀m,(othL p c f t m).length≤m
 |0=>Nat.le_refl _
 |m+1=>by
  have:=Qrd p c f t m;unfold othL;split
  ·omega
  ·rw [List.length_append];simp only [List.length_cons,List.length_nil];omega
theorem Qtj {p:Pg} {c f t:Int} {m:Nat} (h:othE p c f t m≠0): ∀k,m≤k→othE p c f t k=othE p c f t m
 |0,h1=>by
    obtain rfl:m=0:=by omega
    rfl
 |k+1,h1=>by
  by_cases e:m=k+1
  ·rw [e]
  ·have i:=Qtj h k (by omega);rw [othE,if_neg (by rw [i];exact h),i]
theorem Zn8 (l:List (List Sg)):(((l.map pV).flatMap PV.cells).all PV.okCell)=true:=by
 rw [List.all_flatMap,List.all_map,List.all_eq_true];intro _ _;rfl
def Zd5 (p:Pg) (c k:Int):PV:=
 if Qe0 p c k=true then(if k+1=(p.as_.length:Int)then .tup [.slc [],.int .i64 0]else
  (if othE p c (begT p (k.toNat+1)) (begT p p.as_.length) p.ns.length=0 then .tup [.slc ((othL p c (begT p (k.toNat+1)) (begT p p.as_.length) p.ns.length).map pV),.int .i64 0]else .tup [.slc [],.int .i64 (othE p c (begT p (k.toNat+1)) (begT p p.as_.length) p.ns.length)]))else .tup [.slc [],.int .i64 2]
set_option maxRecDepth 100000 in
set_option maxHeartbeats 4000000 in
theorem Qy4 (p:Pg) (hf:FewP p) (c k:Int):Qaf Tryz.prog 28 [pgV p,.agg [.int .i64 c,.int .i64 k]] (Zd5 p c k):=by
 have ok:=Qnd hf;have hF:=Qko p ok c k;unfold Zd5;cases e:Qe0 p c k with
 |false=>
  rw [e]at hF;rw [if_neg Bool.false_ne_true];unfold pgV at hF ⊢;refine Qab (tb:=[]) 63 [.tmp 4,.tmp 5] [0,1,2,3,4,5,6,7,8,9,10,11,15,28,31,32,33,38,46,55] mixed Tryz.func28 rfl (by kernel_rfl) (by kernel_rfl) (by kernel_rfl) (by kernel_rfl) ?_;repeat (first|(simp -implicitDefEqProofs only [go_sem,Nat.reduceAdd,Nat.reduceMul,Nat.reduceEqDiff,Nat.reduceLT,Nat.reduceLeDiff,reduceCtorEq,Bool.not_false])|((with_reducible refine Qaa hF ?_ ?_ ?_);rfl;rfl))
 |true=>
 rw [if_pos rfl];by_cases hk:k+1=(p.as_.length:Int)
 ·rw [if_pos hk];exact Qne p ok c k e hk
 rw [if_neg hk];rw [e]at hF;obtain⟨v,i1,i2,a1,a2⟩:=Qcn e;have hpa:=(Qbx v).2.1;have hn5:=hf.1;have hE1:=Qto p v (k.toNat+1) (by omega) k (by omega);have hE2:=Qto p v p.as_.length (Nat.le_refl _) ((p.as_.length:Int)-1) rfl;have w1:IntKind.i64.wrap ((p.as_.length:Int)-1)=(p.as_.length:Int)-1:=Qag (by omega) (by omega);have hlt:=Qgt v (k:=k.toNat+1) p.as_.length (by omega) (Nat.le_refl _);have hft:(begT p (k.toNat+1)==begT p p.as_.length)=false:=beq_eq_false_iff_ne.2 (by omega);have hP:=fun i=>Q5z p hf i;have hC:=fun i=>Zd4 p i p.as_.length hpa (begT p (k.toNat+1)) (begT p p.as_.length);generalize begT p (k.toNat+1)=f at*;generalize begT p p.as_.length=t at*;unfold pgV at*;refine Qab (tb:=[]) 63 [.tmp 4,.tmp 5] [0,1,2,3,4,5,6,7,8,9,10,11,15,28,31,32,33,38,46,55] mixed Tryz.func28 rfl (by kernel_rfl) (by kernel_rfl) (by kernel_rfl) (by kernel_rfl) ?_;repeat (first|(simp -implicitDefEqProofs only [go_sem,Nat.reduceAdd,Nat.reduceMul,Nat.reduceEqDiff,Nat.reduceLT,Nat.reduceLeDiff,reduceCtorEq,Bool.not_true,w1,hft,List.length_map])|((with_reducible refine Qaa hF ?_ ?_ ?_);rfl;rfl)|((with_reducible refine Qaa hE1 ?_ ?_ ?_);rfl;rfl)|((with_reducible refine Qaa hE2 ?_ ?_ ?_);rfl;rfl)|(with_reducible refine And.intro (Qae _ _ (by kernel_rfl)) ?_))
 refine Qar mixed (fun i:{i:Nat // i≤p.ns.length∧othE p c f t i=0}=>St.of [(2,.bp 0 3 0 0),(3,.bp 1 2 0 0),(6,.int .i64 f),(7,.int .i64 t),(8,.bs 9 1 0 (othL p c f t i.1).length),(31,.int .i64 (p.ns.length:Int)),(32,.int .i64 (i.1:Int))]
  [(0,{els:=[.agg [.slc (p.ns.map PV.str),.slc (p.hs.map v3PV),.slc (p.as_.map acV)]],esz:=3,ety:=26,fro:=0,live:=true,arr:=false}),(1,{els:=[.agg [.int .i64 c,.int .i64 k]],esz:=2,ety:=30,fro:=0,live:=true,arr:=false}),(9,{els:=(othL p c f t i.1).map pV,esz:=1,ety:=60,fro:=0,live:=true,arr:=true})]) (fun i=>p.ns.length-i.1) ⟨0,Nat.zero_le _,rfl⟩ ?_ ?_
 ·refine Qxy 8 9 1 60 rfl rfl rfl (by decide) [(0,0),(1,1),(9,9)] rfl ?_ ?_
  ·simp [Qac,lkp,ren1,ren0,Qai,othL]
  ·exact⟨⟨rfl,rfl,rfl,rfl,rfl,.inr ⟨rfl,_,_,rfl,rfl,rfl,rfl⟩⟩,⟨rfl,rfl,rfl,rfl,rfl,.inr ⟨rfl,_,_,rfl,rfl,rfl,rfl⟩⟩,⟨rfl,rfl,rfl,rfl,rfl,.inl ⟨rfl,rfl⟩⟩,trivial⟩
 ·rintro⟨i,hi,h0⟩;simp only;have hwi:=wr_1 (n:=i) (by omega);have hll:=Qrd p c f t i;by_cases hA:i<p.ns.length
  ·have hA':=lt_T hA;have hPi:=hP (i:Int);have hCi:=hC i;have eE:Qgl p (i:Int)=0:=by unfold Qgl;rw [if_pos v,if_pos ⟨by omega,by omega⟩,if_neg (by omega)]
   unfold Q0v at hPi;rw [eE,if_pos rfl,Int.toNat_natCast]at hPi;rw [Qrc]at hCi;by_cases hc:(i:Int)=c
   ·have hc':((i:Int)==c)=true:=beq_iff_eq.2 hc;have s1:othE p c f t (i+1)=0:=by rw [othE,if_pos h0,if_pos hc]
    have s2:othL p c f t (i+1)=othL p c f t i:=by rw [othL,if_pos hc]
    repeat (first|(simp -implicitDefEqProofs only [go_sem,Nat.reduceAdd,Nat.reduceMul,Nat.reduceEqDiff,Nat.reduceLT,Nat.reduceLeDiff,reduceIte,reduceCtorEq,hA',hc',hwi]))
    refine⟨⟨i+1,hA,s1⟩,by simp only;omega,?_⟩;simp only [s2];refine Qaj (θ:=[(0,0),(1,1),(9,9)]) rfl ?_ ?_
    ·simp [Qac,lkp,ren1,ren0,Qai]
    ·exact⟨⟨rfl,rfl,rfl,rfl,rfl,.inr ⟨rfl,_,_,rfl,rfl,rfl,rfl⟩⟩,⟨rfl,rfl,rfl,rfl,rfl,.inr ⟨rfl,_,_,rfl,rfl,rfl,rfl⟩⟩,⟨rfl,rfl,rfl,rfl,rfl,.inl ⟨rfl,rfl⟩⟩,trivial⟩
   have hc':((i:Int)==c)=false:=beq_eq_false_iff_ne.2 hc;have s1:othE p c f t (i+1)=(cutZ (Qa1 p i p.as_.length) f t).2:=by rw [othE,if_pos h0,if_neg hc];rfl
   have s2:othL p c f t (i+1)=othL p c f t i++[(cutZ (Qa1 p i p.as_.length) f t).1]:=by rw [othL,if_neg hc];rfl
   generalize cutZ (Qa1 p i p.as_.length) f t=R at*;by_cases hr:R.2=0
   ·have hlt2:((othL p c f t i).map pV).length=(othL p c f t i).length:=List.length_map ..;have hok:=Zn8 (othL p c f t i);have k1:(((othL p c f t i).length+1)*24≤140737488355328)=True:=eq_true (by omega);have k2:((othL p c f t i).length+1≤maxLen)=True:=eq_true (by unfold maxLen;omega);rw [hr]at hCi s1;obtain⟨R1,R2⟩:=R;simp only at s2 hCi;unfold pV at hPi hCi;repeat (first|(simp -implicitDefEqProofs only [go_sem,Nat.reduceAdd,Nat.reduceMul,Nat.reduceEqDiff,Nat.reduceLT,Nat.reduceLeDiff,reduceIte,reduceCtorEq,Nat.reduceBneDiff,hA',hc',hwi,hlt2,hok,k1,k2,bne_self_eq_false,BEq.rfl,decide_true])|((with_reducible refine Qaa hPi ?_ ?_ ?_);rfl;rfl)|((with_reducible refine Qaa hCi ?_ ?_ ?_);rfl;rfl))
    refine⟨⟨i+1,hA,s1⟩,by simp only;omega,?_⟩;simp only [s2,List.map_append,List.length_append];refine Qaj (θ:=[(0,0),(1,1),(9,1603)]) rfl ?_ ?_
    ·simp [Qac,lkp,ren1,ren0,Qai]
    ·exact⟨⟨rfl,rfl,rfl,rfl,rfl,.inr ⟨rfl,_,_,rfl,rfl,rfl,rfl⟩⟩,⟨rfl,rfl,rfl,rfl,rfl,.inr ⟨rfl,_,_,rfl,rfl,rfl,rfl⟩⟩,⟨rfl,rfl,rfl,rfl,rfl,.inl ⟨rfl,rfl⟩⟩,trivial⟩
   ·have hr':(R.2 != 0)=true:=bne_iff_ne.2 hr;have hn0:othE p c f t (i+1)≠0:=by rw [s1];exact hr
    have hfin:=Qtj hn0 p.ns.length hA;rw [hfin,s1,if_neg hr];unfold pV at hPi hCi;repeat (first|(simp -implicitDefEqProofs only [go_sem,Nat.reduceAdd,Nat.reduceMul,Nat.reduceEqDiff,Nat.reduceLT,Nat.reduceLeDiff,reduceCtorEq,hA',hc',hr',BEq.rfl])|((with_reducible refine Qaa hPi ?_ ?_ ?_);rfl;rfl)|((with_reducible refine Qaa hCi ?_ ?_ ?_);rfl;rfl))
  ·have hA':=lt_F hA;obtain rfl:p.ns.length=i:=by omega
   have hlt2:((othL p c f t p.ns.length).map pV).length=(othL p c f t p.ns.length).length:=List.length_map ..;have htk:((othL p c f t p.ns.length).map pV).take (othL p c f t p.ns.length).length=(othL p c f t p.ns.length).map pV:=List.take_of_length_le (by simp);rw [if_pos h0];repeat (first|(simp -implicitDefEqProofs only [go_sem,Nat.reduceAdd,Nat.reduceMul,Nat.reduceEqDiff,Nat.reduceLT,Nat.reduceLeDiff,reduceIte,reduceCtorEq,hA',hlt2,htk,Nat.le_refl,decide_true]))
end Go.Proofs.YtjlkapdmgjocdaaGreat

namespace Go.Dg
end Go.Dg

namespace Go.Dg
theorem Qfh (F:Nat→Int) (n j:Nat) (h:j<n):((List.range n).map F).getD j 0=F j:=by simp [List.getD_eq_getElem?_getD,h]
def binL (n:Nat):List Int:=(List.range (n+1)).map fun j=>(bin n j:Int)
theorem Qvz (n:Nat):(binL n).length=n+1:=by simp [binL]
theorem Zdr (n:Nat) (x y:Int):hev (binL n) x y=(x+y)^n:=by rw [binL,Ql9,Qm0]
theorem Q5i {f:List Int} {n:Nat} (hf:f.length=n+1) (c x y:Int):hev f (c*x) (c*y)=c^n*hev f x y:=by
 rw [Qgh,Qgh,hf,Nat.add_sub_cancel,←Qc6];refine Qa9 _ fun i hi=> ?_;rw [Qi3,Qi3];have e:c^n=c^i*c^(n-i):=by rw [←Int.pow_add];congr 1;omega
 rw [e];simp only [Int.mul_comm,Int.mul_left_comm,Int.mul_assoc]
def pieces (n:Nat):Nat→List Int→List (List Int)
 |0,f=>[f]
 |d+1,f=>pieces n d (Zuj f n)++pieces n d (Zuk f n)
end Go.Dg

namespace Go.Dg
def linA (α β:Int):List Int→Int→List Int
 | [],k=>[k]
 |c::q,k=>(k+β*c)::linA α β q (α*c)
theorem Qqg (α β:Int): ∀(l:List Int) (k:Int),(linA α β l k).length=l.length+1
 | [],_=>rfl
 |c::q,k=>by simp [linA,Qqg α β q]
theorem Qx2 (α β x y:Int): ∀(l:List Int) (k:Int),hev (linA α β l k) x y=k*y^l.length+(α*x+β*y)*hev l x y
 | [],k=>by simp [linA,hev]
 |c::q,k=>by
  rw [linA,hev,Qqg,Qx2 α β x y q,hev,List.length_cons];have e:y^(q.length+1)=y*y^q.length:=Qlw y _;rw [e];generalize y^q.length=Y;generalize hev q x y=V;simp only [Int.add_mul,Int.mul_add];have h1:β*c*(y*Y)=β*y*(c*Y):=by simp only [Int.mul_comm,Int.mul_left_comm,Int.mul_assoc]
  have h2:x*(α*c*Y)=α*x*(c*Y):=by simp only [Int.mul_comm,Int.mul_left_comm,Int.mul_assoc]
  have h3:x*(α*x*V)=α*x*(x*V):=by simp only [Int.mul_comm,Int.mul_left_comm,Int.mul_assoc]
  have h4:x*(β*y*V)=β*y*(x*V):=by simp only [Int.mul_comm,Int.mul_left_comm,Int.mul_assoc]
  rw [h1,h2,h3,h4];omega
theorem Q3t {α β:Int} (ha:0≤α) (hb:0≤β): ∀(l:List Int) (k:Int),(∀c∈l,0≤c)→0≤k→ ∀c∈linA α β l k,0≤c
 | [],k,_,hk=>by intro c hc;simp [linA]at hc;omega
 |c::q,k,hl,hk=>by
  intro z hz;have hc:=hl c (by simp);rcases List.mem_cons.1 hz with rfl|hz
  ·have:=Int.mul_nonneg hb hc;omega
  ·exact Q3t ha hb q (α*c) (fun c hc=>hl c (by simp [hc])) (Int.mul_nonneg ha hc) z hz
def pwL (α β:Int) (l:List Int):Nat→List Int
 |0=>l
 |m+1=>linA α β (pwL α β l m) 0
theorem Qu8 (α β:Int) (l:List Int): ∀m,(pwL α β l m).length=l.length+m
 |0=>rfl
 |m+1=>by rw [pwL,Qqg,Qu8 α β l m];omega
theorem Qu9 (α β:Int) (l:List Int) (x y:Int): ∀m,hev (pwL α β l m) x y=(α*x+β*y)^m*hev l x y
 |0=>by simp [pwL]
 |m+1=>by rw [pwL,Qx2,Qu9 α β l x y m,Int.zero_mul,Int.zero_add,Qlw,Int.mul_assoc]
theorem Q3u {α β:Int} (ha:0≤α) (hb:0≤β) {l:List Int} (hl: ∀c∈l,0≤c): ∀m,∀c∈pwL α β l m,0≤c
 |0=>hl
 |m+1=>Q3t ha hb _ _ (Q3u ha hb hl m) (Int.le_refl 0)
def gL (e1 e0 g1 g0:Int) (n j:Nat):List Int:=pwL e1 e0 (pwL g1 g0 [1] (n-j)) j
theorem Zt1 (e1 e0 g1 g0:Int) {n j:Nat} (h:j≤n):(gL e1 e0 g1 g0 n j).length=n+1:=by
 unfold gL;rw [Qu8,Qu8];simp;omega
theorem Zt2 (e1 e0 g1 g0 x y:Int) (n j:Nat):hev (gL e1 e0 g1 g0 n j) x y=(e1*x+e0*y)^j*(g1*x+g0*y)^(n-j):=by
 unfold gL;rw [Qu9,Qu9];simp [hev]
theorem Zx7 {e1 e0 g1 g0:Int} (h1:0≤e1) (h2:0≤e0) (h3:0≤g1) (h4:0≤g0) (n j i:Nat):0≤(gL e1 e0 g1 g0 n j).getD i 0:=by
 have h: ∀c∈gL e1 e0 g1 g0 n j,0≤c:=Q3u h1 h2 (Q3u h3 h4 (by simp) _) _;rw [List.getD_eq_getElem?_getD];cases e:(gL e1 e0 g1 g0 n j)[i]? with
 |none=>exact Int.le_refl 0
 |some c=>exact h c (List.mem_of_getElem? e)
def subH (H:List Int) (e1 e0 g1 g0:Int) (n:Nat):List Int:=(List.range (n+1)).map fun i=>sm (fun j=>H.getD j 0*(gL e1 e0 g1 g0 n j).getD i 0) (n+1)
theorem Zct (H:List Int) (e1 e0 g1 g0:Int) (n:Nat):(subH H e1 e0 g1 g0 n).length=n+1:=by simp [subH]
theorem Qx3 {H:List Int} {n:Nat} (hH:H.length=n+1) (e1 e0 g1 g0 x y:Int):hev (subH H e1 e0 g1 g0 n) x y=hev H (e1*x+e0*y) (g1*x+g0*y):=by
 rw [subH,Ql9,Qgh H,hH];have e1': ∀i,i<n+1→sm (fun j=>H.getD j 0*(gL e1 e0 g1 g0 n j).getD i 0) (n+1)*(x^i*y^(n-i))=sm (fun j=>H.getD j 0*((gL e1 e0 g1 g0 n j).getD i 0*(x^i*y^(n-i)))) (n+1):=by
  intro i _;rw [←Qid];exact Qa9 _ fun j _=>by rw [Int.mul_assoc]
 rw [Qa9 _ e1',Q4q];refine Qa9 _ fun j hj=> ?_;rw [Qc6];congr 1;have h:=Qgh (gL e1 e0 g1 g0 n j) x y;rw [Zt2,Zt1 e1 e0 g1 g0 (show j≤n by omega)]at h;simp only [Nat.add_sub_cancel]at h ⊢;exact h.symm
theorem Qx4 (H:List Int) (e1 e0 g1 g0:Int) (n i:Nat) (h:i≤n):(subH H e1 e0 g1 g0 n).getD i 0=sm (fun j=>H.getD j 0*(gL e1 e0 g1 g0 n j).getD i 0) (n+1):=Qfh _ _ _ (by omega)
theorem Zcu (a b:Int): ∀n:Nat,(a*b)^n=a^n*b^n:=Qi3 a b
theorem Zt3 {e1 e0 g1 g0 d:Int} (h1:e1+g1=d) (h0:e0+g0=d) (n i:Nat) (hi:i≤n):sm (fun j=>(bin n j:Int)*(gL e1 e0 g1 g0 n j).getD i 0) (n+1)=d^n*(bin n i:Int):=by
 have key:subH (binL n) e1 e0 g1 g0 n=(List.range (n+1)).map fun i=>d^n*(bin n i:Int):=by
  refine Ql8 (by simp [subH]) fun x _=> ?_;rw [Qx3 (Qvz n),Zdr,Ql9];have e:e1*x+e0*1+(g1*x+g0*1)=d*(x+1):=by
   rw [←h1,Int.add_mul,Int.mul_add,Int.mul_add];omega
  rw [e,Zcu,←Qm0 x 1 n,←Qc6];exact Qa9 _ fun j _=>by rw [Int.mul_assoc]
 have h2:(subH (binL n) e1 e0 g1 g0 n).getD i 0=((List.range (n+1)).map fun i=>d^n*(bin n i:Int)).getD i 0:=by rw [key]
 rw [Qx4 _ _ _ _ _ _ _ hi,Qfh _ _ _ (by omega)]at h2;rw [←h2];refine Qa9 _ fun j hj=> ?_;rw [binL,Qfh _ _ _ hj]
theorem Q3v {H:List Int} {e1 e0 g1 g0 d M:Int} (h1:0≤e1) (h2:0≤e0) (h3:0≤g1) (h4:0≤g0) (k1:e1+g1=d) (k0:e0+g0=d) {n:Nat}
  (hb: ∀j,j≤n→ -(M*(bin n j:Int))≤60*H.getD j 0∧60*H.getD j 0≤M*(bin n j:Int)) (i:Nat) (hi:i≤n):
  -(M*d^n*(bin n i:Int))≤60*(subH H e1 e0 g1 g0 n).getD i 0∧60*(subH H e1 e0 g1 g0 n).getD i 0≤M*d^n*(bin n i:Int):=by
 rw [Qx4 _ _ _ _ _ _ _ hi,Int.mul_assoc,←Zt3 k1 k0 n i hi,←Qc6,←Qc6];have hw:=Zx7 h1 h2 h3 h4 n;constructor
 ·have e: -(sm (fun j=>M*((bin n j:Int)*(gL e1 e0 g1 g0 n j).getD i 0)) (n+1))=sm (fun j=> -1*(M*((bin n j:Int)*(gL e1 e0 g1 g0 n j).getD i 0))) (n+1):=by rw [Qc6 (-1)];omega
  rw [e];refine Q4r _ fun j hj=> ?_;have:=Int.mul_le_mul_of_nonneg_right (hb j (by omega)).1 (hw j i);rw [Int.neg_mul,Int.mul_assoc,Int.mul_assoc]at this;omega
 ·refine Q4r _ fun j hj=> ?_;have:=Int.mul_le_mul_of_nonneg_right (hb j (by omega)).2 (hw j i);rw [Int.mul_assoc,Int.mul_assoc]at this;exact this
end Go.Dg

namespace Go.Dg
theorem Q0t (c:List Int) (m a d:Int) (k:Nat) (h:k≤5):plcT c (m*a) (m*d) k=m^5*plcT c a d k:=by
 unfold plcT;have e:m^5=m^k*m^(5-k):=by rw [←Int.pow_add];congr 1;omega
 rw [Int.mul_pow,Int.mul_pow,e];simp only [Int.mul_comm,Int.mul_left_comm,Int.mul_assoc]
theorem Qtb (c:List Int) (m a d:Int) (h:c.length≤6):plc c (m*a) (m*d)=m^5*plc c a d:=by
 unfold plc;have key: ∀n,n≤6→sm (plcT c (m*a) (m*d)) n=m^5*sm (plcT c a d) n:=by
  intro n
  induction n with
  |zero=>intro _;simp [sm]
  |succ n ih=>intro hn;simp only [sm];rw [ih (by omega),Q0t c m a d n (by omega),Int.mul_add]
 exact key _ h
theorem Qtc (s:Sg) (m:Nat) (a d:Int) (h: ∀c∈s.ax,c.length≤6): ∀i,i≤3→plG s (m*a) (m*d) i=m^5*plG s a d i:=by
 intro i hi
 induction i with
 |zero=>
  show(s.o*((m:Int)*d)^5).natAbs=m^5*(s.o*d^5).natAbs;rw [Int.mul_pow,Int.mul_left_comm,Int.natAbs_mul,Int.natAbs_pow,Int.natAbs_natCast]
 |succ i ih=>
  rw [Qdi,Qdi,ih (by omega)];have e:plP s (m*a) (m*d) i=(m:Int)^5*plP s a d i:=Qtb _ _ _ _ (h _ (Qkj s i (by omega)));rw [e,Int.natAbs_mul,Int.natAbs_pow,Int.natAbs_natCast,Nat.gcd_mul_left]
theorem Q5e (s:Sg) (m:Nat) (a d:Int) (hm:0<m) (h: ∀c∈s.ax,c.length≤6) (i:Nat) (hi:i<3):plQ s (m*a) (m*d) i=plQ s a d i:=by
 have e:plP s (m*a) (m*d) i=(m:Int)^5*plP s a d i:=Qtb _ _ _ _ (h _ (Qkj s i hi));unfold plQ;rw [e,Qtc s m a d h 3 (by decide),Int.natCast_mul,Int.natCast_pow];exact Int.mul_ediv_mul_of_pos _ _ (Int.pow_pos (by omega))
theorem Q5f (s:Sg) (m:Nat) (a d:Int) (hm:0<m) (h: ∀c∈s.ax,c.length≤6):plO s (m*a) (m*d)=plO s a d:=by
 unfold plO;rw [Qtc s m a d h 3 (by decide),Int.natCast_mul,Int.natCast_pow,Int.mul_pow,Int.mul_left_comm];exact Int.mul_ediv_mul_of_pos _ _ (Int.pow_pos (by omega))
end Go.Dg

namespace Go.Dg
theorem Qva: ∀(p:List Int) (n:Nat) (x:Int),p.length=n+1→hev p x 0=p.getD n 0*x^n
 | [],_,_,h=>by simp at h
 | [c],n,x,h=>by
  have:n=0:=by simpa using h.symm
  subst this;simp [hev]
 |c::d::q,n,x,h=>by
  obtain⟨m,rfl⟩: ∃m,n=m+1:=⟨n-1,by simp at h;omega⟩;have ih:=Qva (d::q) m x (by simpa using h);rw [hev,ih,List.length_cons,List.getD_cons_succ,Qlw x m,Qlw 0];rw [Int.zero_mul,Int.mul_zero,Int.zero_add,Int.mul_left_comm]
theorem Qqh: ∀(p:List Int) (k x y:Int),hev (p.map (· *k)) x y=k*hev p x y
 | [],k,x,y=>by simp [hev]
 |c::q,k,x,y=>by
  rw [List.map_cons,hev,Qqh q k,List.length_map,hev,Int.mul_add];congr 1
  ·rw [Int.mul_comm c k,Int.mul_assoc]
  ·rw [Int.mul_left_comm]
theorem Qiu (p:List Int) (k:Int) (i:Nat):(p.map (· *k)).getD i 0=p.getD i 0*k:=by
 rw [List.getD_eq_getElem?_getD,List.getD_eq_getElem?_getD,List.getElem?_map];cases p[i]? <;>simp
def Kq (c:List Int) (a b d:Int):List Int:=(subH (trans c 1 (c.length-1)) (a+b) a (d-a-b) (d-a) (c.length-1)).map (· *d^(6-c.length))
def cq (c:List Int) (a b d:Int):List Int:=trans (Kq c a b d) (-1) (c.length-1)
section
variable {c:List Int} {n:Nat} (hc:c.length=n+1) (a b d:Int)
include hc
theorem Q3w:(Kq c a b d).length=n+1:=by
 unfold Kq;rw [List.length_map,Zct];omega
theorem Qmn:(cq c a b d).length=n+1:=by
 unfold cq;rw [Qe8];omega
theorem Zt4 (x z:Int):hev (Kq c a b d) x z=d^(5-n)*hev c ((a+b)*x+a*z) (d*(x+z)):=by
 have hn:c.length-1=n:=by omega
 unfold Kq;rw [Qqh,hn,Qx3 (Qe8 c 1 n),Qfl hc];have e:6-c.length=5-n:=by omega
 rw [e];congr 2;simp only [Int.one_mul,Int.sub_mul,Int.add_mul,Int.mul_add];omega
theorem Qx5 (x y:Int):hev (cq c a b d) x y=d^(5-n)*hev c (a*y+b*x) (d*y):=by
 have hn:c.length-1=n:=by omega
 unfold cq;rw [hn,Qfl (Q3w hc a b d),Zt4 hc];have e1:(a+b)*x+a*(-1*x+y)=a*y+b*x:=by
  simp only [Int.add_mul,Int.mul_add,Int.neg_mul,Int.one_mul,Int.mul_neg];omega
 have e2:x+(-1*x+y)=y:=by omega
 rw [e1,e2]
theorem Zlt:(cq c a b d).getD n 0=d^(5-n)*(c.getD n 0*b^n):=by
 have h:=Qva (cq c a b d) n 1 (Qmn hc a b d);rw [Qx5 hc,Int.mul_zero,Int.mul_zero,Int.zero_add,Int.mul_one,Qva c n b hc,Int.one_pow,Int.mul_one]at h;exact h.symm
theorem Zcv:trans (cq c a b d) 1 n=Kq c a b d:=by
 have hn:c.length-1=n:=by omega
 refine Ql8 (by rw [Qe8,Q3w hc]) fun x _=> ?_;rw [Qfl (Qmn hc a b d)];unfold cq;rw [hn,Qfl (Q3w hc a b d)];congr 1;omega
theorem Zt5 (hn:n≤5) (u w:Int):plc (cq c a b d) u w=plc c (a*w+b*u) (d*w):=by
 rw [Qvy (Qmn hc a b d) hn,Qx5 hc,Qvy hc hn,Int.mul_pow,←Int.mul_assoc,Int.mul_comm (w^(5-n))]
theorem Zt6 (hn:n≤5) (h0:0≤a) (h1:a≤d) (h2:0≤a+b) (h3:a+b≤d) {M:Int} (hM: ∀j,j≤n→ -M≤ctl c j∧ctl c j≤M) (j:Nat) (hj:j≤n):
  -(M*d^5)≤ctl (cq c a b d) j∧ctl (cq c a b d) j≤M*d^5:=by
 have hn1:c.length-1=n:=by omega
 have hd:0≤d:=by omega
 have hH: ∀j,j≤n→ -(M*(bin n j:Int))≤60*(trans c 1 n).getD j 0∧60*(trans c 1 n).getD j 0≤M*(bin n j:Int):=by
  intro j hj;have hp:(0:Int)≤(bin n j:Int):=Int.natCast_nonneg _;have:=hM j hj;rw [←Qm5 hc hn hj,Int.mul_comm (bin n j:Int),←Int.neg_mul];exact⟨Int.mul_le_mul_of_nonneg_right this.1 hp,Int.mul_le_mul_of_nonneg_right this.2 hp⟩
 have hs:=Q3v (d:=d) (M:=M) h2 h0 (show 0≤d-a-b by omega) (show 0≤d-a by omega) (by omega) (by omega) hH j hj;have hk:(Kq c a b d).getD j 0=(subH (trans c 1 n) (a+b) a (d-a-b) (d-a) n).getD j 0*d^(5-n):=by
  unfold Kq;have e:6-c.length=5-n:=by omega
  rw [Qiu,hn1,e]
 have ht:=Qm5 (Qmn hc a b d) hn hj;rw [Zcv hc,hk]at ht;have hb:(0:Int)<(bin n j:Int):=by have:=Qvp hj;omega
 have hD:0≤d^(5-n):=Int.pow_nonneg hd;have hdd:d^5=d^n*d^(5-n):=by rw [←Int.pow_add];congr 1;omega
 rw [hdd];generalize (subH (trans c 1 n) (a+b) a (d-a-b) (d-a) n).getD j 0=S at*;generalize d^(5-n)=D at*;generalize d^n=E at*;generalize ctl (cq c a b d) j=X at*;generalize (bin n j:Int)=Bn at*;have u1:=Int.mul_le_mul_of_nonneg_right hs.1 hD;have u2:=Int.mul_le_mul_of_nonneg_right hs.2 hD;rw [Int.mul_assoc 60 S D,←ht]at u1 u2;constructor
 ·refine Int.le_of_mul_le_mul_left (a:=Bn) ?_ hb;have e:Bn* -(M*(E*D))= -(M*E*Bn)*D:=by
   rw [Int.mul_neg,Int.neg_mul];congr 1;simp only [Int.mul_comm,Int.mul_left_comm,Int.mul_assoc]
  rw [e];exact u1
 ·refine Int.le_of_mul_le_mul_left (a:=Bn) ?_ hb;have e:Bn*(M*(E*D))=M*E*Bn*D:=by simp only [Int.mul_comm,Int.mul_left_comm,Int.mul_assoc]
  rw [e];exact u2
theorem Zcw {l:List Int} {n:Nat} (hl:l.length=n+1) (h:l.getD n 0≠0):Qaq l=l:=by
 have _hc:=hc;rcases Qpm (c:=l) (fun _=>by rw [hl];exact h) (by omega)with e|e
 ·exact e
 ·subst e;have:n=0:=by simpa using hl.symm
  subst this;simp at h
theorem Qx6 (hn:n≤5) (hl:1<c.length→c.getD (c.length-1) 0≠0):cmpC c a b d=Qaq (cq c a b d):=by
 have e1:cmpC c a b d=Qaq (cmpC c a b d):=by unfold cmpC Qef;rw [Qhg]
 rw [e1];refine Qvr _ _ fun u _=> ?_;unfold cmpC;rw [Qm2,Q5h,Q4w,Qx5 hc,Int.mul_one,Int.mul_one];have e:6-c.length=5-n:=by omega
 rw [e,Int.mul_comm];congr 1;rcases Qpm hl (by omega)with h|h
 ·rw [h]
 ·rw [h];simp [Qaq,hev]
theorem Zx8 (hn:n≤5) (hl:1<c.length→c.getD (c.length-1) 0≠0) (hb:b≠0) (hd:d≠0) (G:Int):mkC G (cmpC c a b d)=(cq c a b d).map (· /G):=by
 rw [Qx6 hc a b d hn hl];have hq:=Qmn hc a b d;by_cases ht:(cq c a b d).getD n 0=0
 ·have hn0:n=0:=by
   rcases Nat.eq_zero_or_pos n with h|h
   ·exact h
   ·exfalso;rw [Zlt hc]at ht;have h1:=hl (by omega);have e:c.length-1=n:=by omega
    rw [e]at h1;rcases Int.mul_eq_zero.1 ht with h2|h2
    ·exact Int.pow_ne_zero hd h2
    ·rcases Int.mul_eq_zero.1 h2 with h3|h3
     ·exact h1 h3
     ·exact Int.pow_ne_zero hb h3
  subst hn0
  match hcq:cq c a b d,hq with
  | [x],_=>
   rw [hcq]at ht;have hx:x=0:=by simpa using ht
   subst hx;simp [Qaq,mkC]
 ·rw [Zcw hc hq ht];unfold mkC;rw [if_neg (by intro e;rw [e]at hq;simp at hq)]
end
theorem Qpc {x:Int}: ∀{l:List Int},x∈l→x=0∨x∈Qaq l
 | [],h=>nomatch h
 |c::r,h=>by
  rw [Qb0];rcases List.mem_cons.1 h with rfl|h
  ·split
   ·split
    ·rename_i h0;exact .inl h0
    ·exact .inr (by simp)
   ·exact .inr (by simp)
  ·rcases Qpc h with h0|h0
   ·exact .inl h0
   ·right;split
    ·rename_i e;rw [e]at h0;exact nomatch h0
    ·exact List.mem_cons_of_mem _ h0
theorem Q3x (c:List Int) (k u w:Int) (i:Nat):plcT (c.map (· *k)) u w i=plcT c u w i*k:=by
 unfold plcT;rw [Qiu];simp only [Int.mul_comm,Int.mul_left_comm,Int.mul_assoc]
theorem Zcx (c:List Int) (k u w:Int):plc (c.map (· *k)) u w=plc c u w*k:=by
 unfold plc;rw [List.length_map,←Qid];exact Qa9 _ fun i _=>Q3x c k u w i
theorem Zcy (c:List Int) (k:Int) (j:Nat):ctl (c.map (· *k)) j=ctl c j*k:=by
 unfold ctl;rw [List.length_map,←Qid];exact Qa9 _ fun i _=>by rw [Qiu];simp only [Int.mul_comm,Int.mul_left_comm,Int.mul_assoc]
theorem Qx7 {l:List Int} {G:Int} (h: ∀x∈l,G∣x):(l.map (· /G)).map (· *G)=l:=by
 rw [List.map_map]
 conv=>rhs;rw [←List.map_id l]
 exact List.map_congr_left fun x hx=>Int.ediv_mul_cancel (h x hx)
theorem Qdg {k:Nat}: ∀{c:List Int} {g:Nat},k∣g→(∀x∈c,k∣x.natAbs)→k∣gcdL g c
 | [],_,hg,_=>hg
 |x::c,g,hg,h=>Qdg (c:=c) (g:=Nat.gcd g x.natAbs) (Nat.dvd_gcd hg (h x (by simp))) fun y hy=>h y (by simp [hy])
end Go.Dg

namespace Go.Dg
theorem Zt7 {s s':Sg} {a d a' d':Int} {k:Nat} (h: ∀i,i<3→plP s a d i=(k:Int)*plP s' a' d' i) (ho:s.o*d^5=(k:Int)*(s'.o*d'^5)): ∀i,i≤3→plG s a d i=k*plG s' a' d' i:=by
 intro i hi
 induction i with
 |zero=>
  show(s.o*d^5).natAbs=k*(s'.o*d'^5).natAbs;rw [ho,Int.natAbs_mul,Int.natAbs_natCast]
 |succ i ih=>
  rw [Qdi,Qdi,ih (by omega),h i (by omega),Int.natAbs_mul,Int.natAbs_natCast,Nat.gcd_mul_left]
theorem Zx9 {s s':Sg} {a d a' d':Int} {k:Nat} (hk:0<k) (h: ∀i,i<3→plP s a d i=(k:Int)*plP s' a' d' i) (ho:s.o*d^5=(k:Int)*(s'.o*d'^5)):
  (∀i,i<3→plQ s a d i=plQ s' a' d' i)∧plO s a d=plO s' a' d':=by
 have hg:=Zt7 h ho 3 (by decide);constructor
 ·intro i hi;unfold plQ;rw [hg,h i hi,Int.natCast_mul];exact Int.mul_ediv_mul_of_pos _ _ (by omega)
 ·unfold plO;rw [hg,ho,Int.natCast_mul];exact Int.mul_ediv_mul_of_pos _ _ (by omega)
structure turnOK (a b d:Int):Prop where
 a0:0≤a
 a1:a≤d
 b0:0≤a+b
 b1:a+b≤d
 b:b≠0
 d:1≤d
theorem Q3y {c:List Int} {o:Int} (h:axOK c o=true) (j:Nat) (hj:j≤c.length-1): -(62914560*o)≤ctl c j∧ctl c j≤62914560*o:=by
 obtain⟨l1,l6, -,hb⟩:=Qct h;have:=Q5b hb j (by omega);exact Qc7 this
theorem Qpd {s:Sg} (hv:Qa7 s=true) (i:Nat) (hi:i<3): ∃n,(s.ax.getD i []).length=n+1∧n≤5∧(1<(s.ax.getD i []).length→(s.ax.getD i []).getD ((s.ax.getD i []).length-1) 0≠0):=by
 obtain⟨l1,l6,l3, -⟩:=Qct ((Qat hv).2.1 _ (Qkj s i hi));exact⟨(s.ax.getD i []).length-1,by omega,by omega,l3⟩
section
variable {s:Sg} (hv:Qa7 s=true) {a b d:Int} (ht:turnOK a b d) {f t O:Int} (hO:O=s.o*d^5)
include hv ht hO
theorem Zlu:0<O:=by
 obtain⟨⟨-, -, -,v4, -⟩, -, -⟩:=Qat hv;rw [hO];exact Int.mul_pos (by omega) (Int.pow_pos (by have:=ht.d;omega))
theorem Q3z (i:Nat) (hi:i<3): ∀x∈cq (s.ax.getD i []) a b d,(mdG (cmpL s a b d) O 3:Int)∣x:=by
 have _ht:=ht;have _hO:=hO;obtain⟨n,hn,hn5,hl⟩:=Qpd hv i hi;intro x hx;rcases Qpc hx with rfl|h
 ·exact Int.dvd_zero _
 ·have e:cmpL s a b d i=Qaq (cq (s.ax.getD i []) a b d):=Qx6 hn a b d hn5 hl;exact(Qq5 (cmpL s a b d) O).2 i hi x (by rw [e];exact h)
theorem Zmy (i:Nat) (hi:i<3):(Qdk f t (cmpL s a b d) O).ax.getD i []=(cq (s.ax.getD i []) a b d).map (· /(mdG (cmpL s a b d) O 3:Int)):=by
 have _hO:=hO;obtain⟨n,hn,hn5,hl⟩:=Qpd hv i hi;have e:mdC (cmpL s a b d) O i=(cq (s.ax.getD i []) a b d).map (· /(mdG (cmpL s a b d) O 3:Int)):=Zx8 hn a b d hn5 hl ht.b (by have:=ht.d;omega) _;rw [←e];rcases(show i=0∨i=1∨i=2 by omega)with rfl|rfl|rfl<;>rfl
theorem Zcz (u w:Int):(∀i,i<3→plQ (Qdk f t (cmpL s a b d) O) u w i=plQ s (a*w+b*u) (d*w) i)∧plO (Qdk f t (cmpL s a b d) O) u w=plO s (a*w+b*u) (d*w):=by
 have hp:=Zlu hv ht hO;have hG:=Qki (L:=cmpL s a b d) hp 3;have hdO:=(Qq5 (cmpL s a b d) O).1;have h:=Zx9 (s:=s) (s':=Qdk f t (cmpL s a b d) O) (a:=a*w+b*u) (d:=d*w) (a':=u) (d':=w) hG ?_ ?_
 ·exact⟨fun i hi=>(h.1 i hi).symm,h.2.symm⟩
 ·intro i hi;obtain⟨n,hn,hn5,hl⟩:=Qpd hv i hi;unfold plP;rw [Zmy hv ht hO i hi,Int.mul_comm (mdG (cmpL s a b d) O 3:Int),←Zcx,Qx7 (Q3z hv ht hO i hi),Zt5 hn a b d hn5]
 ·show s.o*(d*w)^5=(mdG (cmpL s a b d) O 3:Int)*(O/(mdG (cmpL s a b d) O 3:Int)*w^5);rw [←Int.mul_assoc,Int.mul_ediv_cancel' hdO,hO,Int.mul_pow,Int.mul_assoc]
theorem Zc0 (h0:0≤f) (h1:f<t) (h2:t≤3600000) (hf:Qm8 (cmpL s a b d) O=true):Qa7 (Qdk f t (cmpL s a b d) O)=true:=by
 have hp:=Zlu hv ht hO;have hG:=Qki (L:=cmpL s a b d) hp 3;have hdO:=(Qq5 (cmpL s a b d) O).1;have hO2:O/(mdG (cmpL s a b d) O 3:Int)*(mdG (cmpL s a b d) O 3:Int)=O:=Int.ediv_mul_cancel hdO;have hf':O/(mdG (cmpL s a b d) O 3:Int)≤4294967296:=of_decide_eq_true hf;have ho1:1≤O/(mdG (cmpL s a b d) O 3:Int):=by
  rcases Int.lt_or_le (O/(mdG (cmpL s a b d) O 3:Int)) 1 with q|q
  ·exfalso;have:O/(mdG (cmpL s a b d) O 3:Int)*(mdG (cmpL s a b d) O 3:Int)≤0:=Int.mul_nonpos_of_nonpos_of_nonneg (by omega) (by omega);omega
  ·exact q
 have hrng:rngS (Qdk f t (cmpL s a b d) O)=true:=by
  show(decide (0≤f)&&(decide (f<t)&&(decide (t≤3600000)&&(decide (1≤O/(mdG (cmpL s a b d) O 3:Int))&&decide (O/(mdG (cmpL s a b d) O 3:Int)≤4294967296)))))=true;rw [decide_eq_true h0,decide_eq_true h1,decide_eq_true h2,decide_eq_true ho1,decide_eq_true hf'];rfl
 have hax: ∀i,i<3→axOK ((Qdk f t (cmpL s a b d) O).ax.getD i []) (O/(mdG (cmpL s a b d) O 3:Int))=true:=by
  intro i hi;obtain⟨n,hn,hn5,hl⟩:=Qpd hv i hi;have hok:=(Qat hv).2.1 _ (Qkj s i hi);have hdv:=Q3z hv ht hO i hi;have hm:=Qx7 hdv;rw [Zmy hv ht hO i hi];have hlen:((cq (s.ax.getD i []) a b d).map (· /(mdG (cmpL s a b d) O 3:Int))).length=n+1:=by rw [List.length_map,Qmn hn]
  have htop:1<n+1→((cq (s.ax.getD i []) a b d).map (· /(mdG (cmpL s a b d) O 3:Int))).getD n 0≠0:=by
   intro h1 e;have h3:=Qiu ((cq (s.ax.getD i []) a b d).map (· /(mdG (cmpL s a b d) O 3:Int))) (mdG (cmpL s a b d) O 3:Int) n;rw [hm,e,Int.zero_mul,Zlt hn]at h3;have h4:=hl (by omega);have e2:(s.ax.getD i []).length-1=n:=by omega
   rw [e2]at h4;rcases Int.mul_eq_zero.1 h3 with h5|h5
   ·exact Int.pow_ne_zero (by have:=ht.d;omega) h5
   ·rcases Int.mul_eq_zero.1 h5 with h6|h6
    ·exact h4 h6
    ·exact Int.pow_ne_zero ht.b h6
  have hctl: ∀j,j<n+1→((ctl ((cq (s.ax.getD i []) a b d).map (· /(mdG (cmpL s a b d) O 3:Int))) j).natAbs:Int)≤62914560*(O/(mdG (cmpL s a b d) O 3:Int)):=by
   intro j hj;have h3:=Zcy ((cq (s.ax.getD i []) a b d).map (· /(mdG (cmpL s a b d) O 3:Int))) (mdG (cmpL s a b d) O 3:Int) j;rw [hm]at h3;have h4:=Zt6 hn a b d hn5 ht.a0 ht.a1 ht.b0 ht.b1 (M:=62914560*s.o) (fun j hj=>Q3y hok j (by omega)) j (by omega);rw [h3,Int.mul_assoc 62914560,←hO,←hO2,←Int.mul_assoc]at h4;rw [hO2]at h4;generalize ctl ((cq (s.ax.getD i []) a b d).map (· /(mdG (cmpL s a b d) O 3:Int))) j=X at*;have hG':(0:Int)<(mdG (cmpL s a b d) O 3:Int):=by omega
   rw [←Int.neg_mul]at h4;have h5:=Int.le_of_mul_le_mul_right h4.1 hG';have h6:=Int.le_of_mul_le_mul_right h4.2 hG';omega
  unfold axOK Qm4 Qej;rw [hlen,Bool.and_eq_true,Bool.and_eq_true,Bool.and_eq_true,List.all_eq_true];refine⟨⟨decide_eq_true (by omega),decide_eq_true (by omega),?_⟩,fun j hj=>decide_eq_true (hctl j (List.mem_range.1 hj))⟩;rcases Nat.eq_zero_or_pos n with h|h
  ·subst h;rfl
  ·have:=htop (by omega);rw [Bool.or_eq_true];right;simp only [Nat.add_sub_cancel,Bool.not_eq_true',beq_eq_false_iff_ne,ne_eq];exact this
 have hgcd:(Qdk f t (cmpL s a b d) O).ax.foldl gcdL (O/(mdG (cmpL s a b d) O 3:Int)).natAbs=1:=by
  generalize he:(Qdk f t (cmpL s a b d) O).ax.foldl gcdL (O/(mdG (cmpL s a b d) O 3:Int)).natAbs=e;have hfold:(Qdk f t (cmpL s a b d) O).ax.foldl gcdL (O/(mdG (cmpL s a b d) O 3:Int)).natAbs=gcdL (gcdL (gcdL (O/(mdG (cmpL s a b d) O 3:Int)).natAbs ((Qdk f t (cmpL s a b d) O).ax.getD 0 [])) ((Qdk f t (cmpL s a b d) O).ax.getD 1 [])) ((Qdk f t (cmpL s a b d) O).ax.getD 2 []):=rfl;rw [hfold]at he;have d3:=Qhi (gcdL (gcdL (O/(mdG (cmpL s a b d) O 3:Int)).natAbs ((Qdk f t (cmpL s a b d) O).ax.getD 0 [])) ((Qdk f t (cmpL s a b d) O).ax.getD 1 [])) ((Qdk f t (cmpL s a b d) O).ax.getD 2 []);have d2:=Qhi (gcdL (O/(mdG (cmpL s a b d) O 3:Int)).natAbs ((Qdk f t (cmpL s a b d) O).ax.getD 0 [])) ((Qdk f t (cmpL s a b d) O).ax.getD 1 []);have d1:=Qhi (O/(mdG (cmpL s a b d) O 3:Int)).natAbs ((Qdk f t (cmpL s a b d) O).ax.getD 0 []);rw [he]at d3;have q2:=Nat.dvd_trans d3.1 d2.1;have hall: ∀i,i<3→ ∀x∈(Qdk f t (cmpL s a b d) O).ax.getD i [],e∣x.natAbs:=by
   intro i hi x hx;rcases(show i=0∨i=1∨i=2 by omega)with rfl|rfl|rfl
   ·exact Nat.dvd_trans q2 (d1.2 x hx)
   ·exact Nat.dvd_trans d3.1 (d2.2 x hx)
   ·exact d3.2 x hx
  have hbase:e∣(O/(mdG (cmpL s a b d) O 3:Int)).natAbs:=Nat.dvd_trans q2 d1.1;have hk0:e*mdG (cmpL s a b d) O 3∣O.natAbs:=by
   have:O.natAbs=(O/(mdG (cmpL s a b d) O 3:Int)).natAbs*mdG (cmpL s a b d) O 3:=by
    have:=congrArg Int.natAbs hO2;rw [Int.natAbs_mul,Int.natAbs_natCast]at this;exact this.symm
   rw [this];exact Nat.mul_dvd_mul_right hbase _
  have hki: ∀i,i<3→ ∀x∈cmpL s a b d i,e*mdG (cmpL s a b d) O 3∣x.natAbs:=by
   intro i hi x hx;obtain⟨n,hn,hn5,hl⟩:=Qpd hv i hi;have e1:cmpL s a b d i=Qaq (cq (s.ax.getD i []) a b d):=Qx6 hn a b d hn5 hl;rw [e1]at hx;have hx:=Qi4 hx;have hdx:=Q3z hv ht hO i hi x hx;have hm:x/(mdG (cmpL s a b d) O 3:Int)∈(Qdk f t (cmpL s a b d) O).ax.getD i []:=by
    rw [Zmy hv ht hO i hi];exact List.mem_map.2 ⟨x,hx,rfl⟩
   have hq:=hall i hi _ hm;have:x.natAbs=(x/(mdG (cmpL s a b d) O 3:Int)).natAbs*mdG (cmpL s a b d) O 3:=by
    have:=congrArg Int.natAbs (Int.ediv_mul_cancel hdx);rw [Int.natAbs_mul,Int.natAbs_natCast]at this;exact this.symm
   rw [this];exact Nat.mul_dvd_mul_right hq _
  have hdiv:e*mdG (cmpL s a b d) O 3∣mdG (cmpL s a b d) O 3:=
   Qdg (Qdg (Qdg hk0 (hki 0 (by decide))) (hki 1 (by decide))) (hki 2 (by decide))
  have hle:=Nat.le_of_dvd hG hdiv;have he0:0<e:=by
   rcases Nat.eq_zero_or_pos e with h|h
   ·exfalso;rw [h]at hbase;have:=Nat.eq_zero_of_zero_dvd hbase;omega
   ·exact h
  have he2: ¬2≤e:=by
   intro h;have:=Nat.mul_le_mul_right (mdG (cmpL s a b d) O 3) h;omega
  omega
 unfold Qa7;rw [hrng,Bool.true_and,Bool.and_eq_true];refine⟨?_,by rw [beq_iff_eq];exact hgcd⟩;rw [List.all_eq_true];intro c hc;have h3:(Qdk f t (cmpL s a b d) O).ax=[(Qdk f t (cmpL s a b d) O).ax.getD 0 [],(Qdk f t (cmpL s a b d) O).ax.getD 1 [],(Qdk f t (cmpL s a b d) O).ax.getD 2 []]:=rfl;rw [h3]at hc;simp only [List.mem_cons,List.not_mem_nil,or_false]at hc;rcases hc with rfl|rfl|rfl
 ·exact hax 0 (by decide)
 ·exact hax 1 (by decide)
 ·exact hax 2 (by decide)
end
end Go.Dg

namespace Go.Dg
theorem Qss {s:Sg} {a b:Int} (h1:s.f≤a) (h2:a<b) (h3:b≤s.t):turnOK (a-s.f) (b-a) (s.t-s.f):=⟨by omega,by omega,by omega,by omega,by omega,by omega⟩
theorem Q0c {s:Sg} {a b:Int} (hv:Qa7 s=true) (h1:s.f≤a) (h2:a<b) (h3:b≤s.t) (hf:ptF s a b=true):Qa7 (ptS s a b)=true:=by
 obtain⟨⟨v1,v2,v3, -, -⟩, -, -⟩:=Qat hv;exact Zc0 hv (Qss h1 h2 h3) rfl (by omega) h2 (by omega) hf
theorem Qka {s:Sg} (hv:Qa7 s=true) {m x y:Int} (hm:0<m):(∀i,i<3→plQ s (m*x) (m*y) i=plQ s x y i)∧plO s (m*x) (m*y)=plO s x y:=by
 obtain⟨k,rfl⟩: ∃k:Nat,m=(k:Int):=⟨m.toNat,by omega⟩;exact⟨fun i hi=>Q5e s k x y (by omega) (Qfm hv) i hi,Q5f s k x y (by omega) (Qfm hv)⟩
theorem Q0d {s:Sg} {a b:Int} (hv:Qa7 s=true) (h1:s.f≤a) (h2:a<b) (h3:b≤s.t) (t:Int):
  (∀i,i<3→plQ (ptS s a b) (t-a) (b-a) i=plQ s (t-s.f) (s.t-s.f) i)∧plO (ptS s a b) (t-a) (b-a)=plO s (t-s.f) (s.t-s.f):=by
 have h:=Zcz (f:=a) (t:=b) hv (Qss h1 h2 h3) (O:=ptO s) rfl (t-a) (b-a);have e1:(a-s.f)*(b-a)+(b-a)*(t-a)=(b-a)*(t-s.f):=by
  rw [Int.mul_comm (a-s.f),←Int.mul_add];congr 1;omega
 have e2:(s.t-s.f)*(b-a)=(b-a)*(s.t-s.f):=Int.mul_comm _ _;rw [e1,e2]at h;obtain⟨k1,k2⟩:=Qka (x:=t-s.f) (y:=s.t-s.f) hv (show 0<b-a by omega);exact⟨fun i hi=>(h.1 i hi).trans (k1 i hi),h.2.trans k2⟩
theorem Qvb {s:Sg} (hv:Qa7 s=true): ∀c∈s.ax,∀x∈c,x.natAbs≤1094374710063759360:=by
 obtain⟨⟨v1,v2,v3,v4,v5⟩,hax, -⟩:=Qat hv;intro c hc x hx;have h1:=Zl3 (hax c hc) (by omega);have h2:=Q49 hx;omega
def plT (p:List Sg) (t:Int) (i:Nat):Int:=plQ (p.getD (atIx p t) sg0) (t-(p.getD (atIx p t) sg0).f) ((p.getD (atIx p t) sg0).t-(p.getD (atIx p t) sg0).f) i
def poT (p:List Sg) (t:Int):Int:=plO (p.getD (atIx p t) sg0) (t-(p.getD (atIx p t) sg0).f) ((p.getD (atIx p t) sg0).t-(p.getD (atIx p t) sg0).f)
theorem Qx8 {a b:Sg} (h:Qey a b=true):a.t=b.f∧(∀i,i<3→plQ a 1 1 i=plQ b 0 1 i)∧plO a 1 1=plO b 0 1:=by
 unfold Qey Qyq at h;simp only [Bool.and_eq_true,decide_eq_true_eq]at h;obtain⟨h1,h2,h3,h4,h5⟩:=h;refine⟨h1,fun i hi=> ?_,h5⟩;rcases(show i=0∨i=1∨i=2 by omega)with rfl|rfl|rfl<;>assumption
theorem Qqi {s:Sg} (hv:Qa7 s=true) {m:Int} (hm:0<m):((∀i,i<3→plQ s m m i=plQ s 1 1 i)∧plO s m m=plO s 1 1)∧((∀i,i<3→plQ s 0 m i=plQ s 0 1 i)∧plO s 0 m=plO s 0 1):=by
 have h1:=Qka (x:=1) (y:=1) hv hm;have h2:=Qka (x:=0) (y:=1) hv hm;rw [Int.mul_one]at h1;rw [Int.mul_one,Int.mul_zero]at h2;exact⟨h1,h2⟩
theorem Zmz {p:List Sg} (hV:Qbm p=true) {t:Int} {i:Nat} (hi:i<p.length) (h1:p[i].f≤t) (h2:t≤p[i].t):
  (∀k,k<3→plT p t k=plQ p[i] (t-p[i].f) (p[i].t-p[i].f) k)∧poT p t=plO p[i] (t-p[i].f) (p[i].t-p[i].f):=by
 have hj:atIx p t≤i:=by
  rcases Nat.lt_or_ge i (atIx p t)with q|q
  ·have:=Qig q hi;omega
  ·exact q
 have hjl:atIx p t<p.length:=by omega
 have hjt:=Qq2 hjl;unfold plT poT;rw [sgD hjl];rcases Nat.lt_or_ge (atIx p t) i with q|q
 ·obtain⟨k,rfl⟩: ∃k,i=k+1:=⟨i-1,by omega⟩;have hm:=Qfb hV k (by omega);obtain⟨m1,m2,m3⟩:=Qx8 hm;have hmono:=Qfz hV k (atIx p t) (by omega) (by omega);have hjk:atIx p t=k:=by
   rcases Nat.lt_or_ge (atIx p t) k with r|r
   ·exfalso;have s1:=Qm7 hV (atIx p t) (by omega);have s2:=Qfz hV k (atIx p t+1) (by omega) (by omega);omega
   ·omega
  have hvk:=Qdj hV k (by omega);have hvi:=Qdj hV (k+1) hi;obtain⟨⟨-,a2, -, -, -⟩, -, -⟩:=Qat hvk;obtain⟨⟨-,b2, -, -, -⟩, -, -⟩:=Qat hvi;have et:t=p[k+1].f:=by
   have:p[atIx p t].t=p[k].t:=by congr 2
   omega
  have hx: ∀(j:Nat) (hj:j<p.length),j=k→(∀z,z<3→plQ p[j] (t-p[j].f) (p[j].t-p[j].f) z=plQ p[k] (p[k].t-p[k].f) (p[k].t-p[k].f) z)∧plO p[j] (t-p[j].f) (p[j].t-p[j].f)=plO p[k] (p[k].t-p[k].f) (p[k].t-p[k].f):=by
   rintro j hj rfl;have e9:t-p[j].f=p[j].t-p[j].f:=by omega
   rw [e9];exact⟨fun _ _=>rfl,rfl⟩
  obtain⟨x1,x2⟩:=hx _ hjl hjk;obtain⟨⟨e1,e2⟩, -⟩:=Qqi hvk (m:=p[k].t-p[k].f) (by omega);obtain⟨-,f1,f2⟩:=Qqi hvi (m:=p[k+1].t-p[k+1].f) (by omega);have e0:t-p[k+1].f=0:=by omega
  rw [e0];exact⟨fun z hz=>by rw [x1 z hz,e1 z hz,m2 z hz,f1 z hz],by rw [x2,e2,m3,f2]⟩
 ·have e:atIx p t=i:=by omega
  have hx: ∀(j:Nat) (hj:j<p.length),j=i→(∀z,z<3→plQ p[j] (t-p[j].f) (p[j].t-p[j].f) z=plQ p[i] (t-p[i].f) (p[i].t-p[i].f) z)∧plO p[j] (t-p[j].f) (p[j].t-p[j].f)=plO p[i] (t-p[i].f) (p[i].t-p[i].f):=by
   rintro j hj rfl;exact⟨fun _ _=>rfl,rfl⟩
  exact hx _ hjl e
end Go.Dg

namespace Go.Dg
def dd:List Int→List Int
 | []=>[]
 | [a]=>[a]
 |a::b::L=>if a=b then dd (b::L)else a::dd (b::L)
end Go.Dg

namespace Go.Dg
end Go.Dg
