/-
  SM35 (merged for the claim).
-/
import Derived.Test.YtlpiamlgibomhaaGreatSM34
set_option linter.unusedSimpArgs false
set_option linter.unusedVariables false
namespace Go.Proofs.YtlpiamlgibomhaaGreat
open Go.Vl Go.RowKit Go.Dg
set_option maxHeartbeats 8000000 in
theorem Qkl (p q:List Sg) (hra:(∀s∈p,Qyx s)∧p.length≤maxLen) (hrb:(∀s∈q,Qyx s)∧q.length≤maxLen) (m:Int) (m1: -9223372036854775808≤m) (m2:m≤9223372036854775807):
  Qag Tryz.prog 6 [.slc (p.map sgPV),.slc (q.map sgPV),.int .i64 m] (.bool true):=by
 have hk:=Qxj
 have hf1:=Ze9 p 6 (by decide) hra.2
 have hf2:=Ze9 q 6 (by decide) hrb.2
 unfold Qaq at hf1 hf2
 cases hF1:fewB p 6 with
 |false=>
  rw [hF1]at hf1
  refine Qac (tb:=[]) 109 [.tmp 6] [0,1,2,6,7,8,9,17,24,27,67,77,89] mixed Tryz.func6 rfl (by kernel_rfl) (by kernel_rfl) (by kernel_rfl) (by kernel_rfl) ?_
  repeat (first|(simp -implicitDefEqProofs only [go_sem,Nat.reduceAdd,Nat.reduceMul,Nat.reduceEqDiff,Nat.reduceLT,Nat.reduceLeDiff,reduceCtorEq,Bool.not_false])|((with_reducible refine Qab (hf1) ?_ ?_ ?_);(with_reducible rfl);rfl)|((with_reducible refine Qab (hk) ?_ ?_ ?_);(with_reducible rfl);rfl))
 |true=>
  rw [hF1]at hf1
  cases hF2:fewB q 6 with
  |false=>
   rw [hF2]at hf2
   refine Qac (tb:=[]) 109 [.tmp 6] [0,1,2,6,7,8,9,17,24,27,67,77,89] mixed Tryz.func6 rfl (by kernel_rfl) (by kernel_rfl) (by kernel_rfl) (by kernel_rfl) ?_
   repeat (first|(simp -implicitDefEqProofs only [go_sem,Nat.reduceAdd,Nat.reduceMul,Nat.reduceEqDiff,Nat.reduceLT,Nat.reduceLeDiff,reduceCtorEq,Bool.not_false,Bool.not_true])|((with_reducible refine Qab (hf1) ?_ ?_ ?_);(with_reducible rfl);rfl)|((with_reducible refine Qab (hf2) ?_ ?_ ?_);(with_reducible rfl);rfl)|((with_reducible refine Qab (hk) ?_ ?_ ?_);(with_reducible rfl);rfl))
  |true=>
   rw [hF2]at hf2
   obtain⟨la6,la8⟩:=Qnn hF1
   obtain⟨lb6,lb8⟩:=Qnn hF2
   have r2:=refd 2
   have r7:=refd 7
   have r10:=refd 10
   by_cases hm:126≤m∧m≤130
   ·obtain⟨hm1,hm2⟩:=hm
    obtain⟨n,rfl⟩: ∃n:Nat,m=(n:Int):=⟨m.toNat,by omega⟩
    have t1:(126≤(n:Int))=True:=eq_true hm1
    have t2:((n:Int)≤130)=True:=eq_true hm2
    have hk2:=hk

    refine Qac (tb:=[(1705,[],[(7,1705)])]) 109 [.tmp 6] [0,1,2,6,7,8,9,17,24,27,67,77,89] mixed Tryz.func6 rfl (by kernel_rfl) (by kernel_rfl) (by kernel_rfl) (by kernel_rfl) ?_
    repeat (first|(simp -implicitDefEqProofs only [go_sem,Nat.reduceAdd,Nat.reduceMul,Nat.reduceEqDiff,Nat.reduceLT,Nat.reduceLeDiff,reduceCtorEq,t1,t2,decide_true,Bool.not_true])|((with_reducible refine Qab (hf1) ?_ ?_ ?_);(with_reducible rfl);rfl)|((with_reducible refine Qab (hf2) ?_ ?_ ?_);(with_reducible rfl);rfl))
    clear hf1 hf2
    refine Qat mixed (fun k:{k:Nat // k≤n}=>St.of [(0,.bs 7 6 0 k.1),(1,.bs 8 6 0 k.1),(2,.int .i64 (n:Int)),(6,.bool false),(7,.int .i64 (k.1:Int)),(17,.bool false),(24,.bool true)]
     [(7,{els:=(hov 0 k.1).map sgPV,esz:=6,ety:=24,fro:=0,live:=true,arr:=true}),(8,{els:=(hov (n:Int) k.1).map sgPV,esz:=6,ety:=24,fro:=0,live:=true,arr:=true})]) (fun k=>n-k.1) ⟨0,Nat.zero_le _⟩ ?_ ?_
    ·refine Le.trans (Q7e 0 7 6 24 rfl rfl rfl (by decide)) (Qfz 1 8 6 24 rfl rfl rfl (by decide) [(7,7),(8,8)] rfl ?_ ?_)
     ·simp [Qad,lkp,ren1,ren0,Qao]
     ·exact⟨⟨rfl,rfl,rfl,rfl,rfl,.inl ⟨rfl,rfl⟩⟩,⟨rfl,rfl,rfl,rfl,rfl,.inl ⟨rfl,rfl⟩⟩,trivial⟩
    ·rintro⟨k,hkn⟩
     by_cases hA:k<n
     ·have hA':=ltT hA
      have hwk:=Qai (a:=k) (by omega)
      have w1:IntKind.i64.wrap ((n:Int)+(k:Int))=(n:Int)+(k:Int):=Qah (by omega) (by omega)
      have w2:IntKind.i64.wrap ((n:Int)+(k:Int)+1)=(n:Int)+(k:Int)+1:=Qah (by omega) (by omega)
      have s1:(hov 0 (k+1)).map sgPV=(hov 0 k).map sgPV++[.agg [.int .i64 (k:Int),.int .i64 ((k+1:Nat):Int),.int .i64 1,.slc [.int .i64 1],.slc [.int .i64 2],.slc [.int .i64 3]]]:=by
       rw [Qvo,List.map_append,Int.zero_add];rfl
      have s2:(hov (n:Int) (k+1)).map sgPV=(hov (n:Int) k).map sgPV++[.agg [.int .i64 ((n:Int)+(k:Int)),.int .i64 ((n:Int)+(k:Int)+1),.int .i64 1,.slc [.int .i64 1],.slc [.int .i64 2],.slc [.int .i64 3]]]:=by
       rw [Qvo,List.map_append];rfl
      have l1:((hov 0 k).map sgPV).length=k:=by rw [List.length_map,Qjh]
      have l2:((hov (n:Int) k).map sgPV).length=k:=by rw [List.length_map,Qjh]
      have o1:=Qdg (hov 0 k)
      have o2:=Qdg (hov (n:Int) k)
      have c1:((k+1)*96≤140737488355328)=True:=eq_true (by omega)
      have c2:(k+1≤maxLen)=True:=eq_true (by unfold maxLen;omega)
      simp only [s1,s2]
      generalize (hov 0 k).map sgPV=X at*
      generalize (hov (n:Int) k).map sgPV=Y at*
      repeat (first|(simp -implicitDefEqProofs only [go_sem,Nat.reduceAdd,Nat.reduceMul,Nat.reduceEqDiff,Nat.reduceLT,Nat.reduceLeDiff,reduceCtorEq,Nat.reduceBneDiff,hA',hwk,w1,w2,l1,l2,o1,o2,c1,c2]))
      refine⟨⟨k+1,hA⟩,by simp only;omega,Qal (θ:=[(7,809),(8,913)]) rfl ?_ ?_⟩
      ·simp [Qad,lkp,ren1,ren0,Qao]
      ·simp only [s1,s2]
       exact⟨⟨rfl,rfl,rfl,rfl,rfl,.inl ⟨rfl,rfl⟩⟩,⟨rfl,rfl,rfl,rfl,rfl,.inl ⟨rfl,rfl⟩⟩,trivial⟩
     ·have hA':=ltF hA
      obtain rfl:k=n:=by omega
      simp only
      have hn1:126≤k:=by omega
      have hn2:k≤130:=by omega
      clear hF1 hF2 hra hrb la6 la8 lb6 lb8 t1 t2 m1 m2
      obtain⟨ha,hac⟩:=Ze7 0 k (by omega) (by omega)
      obtain⟨hb,hbc⟩:=Ze7 (k:Int) k (by omega) (by omega)
      have hVA:=Qq4 0 k (by omega) (by omega) (by omega) (by omega)
      have hVB:=Qq4 (k:Int) k (by omega) (by omega) (by omega) (by omega)
      have hML:=Q1g 0 k k (by omega) (by omega)
      rw [Int.zero_add]at hML
      have hl1:=Qjh 0 k
      have hl2:=Qjh (k:Int) k
      generalize hov 0 k=a at*
      generalize hov (k:Int) k=b at*
      have hap:=Qia a b ha hb (by omega) (by omega)
      have v1:=Qez a ha (by omega)
      have v2:=Qez b hb (by omega)
      have hcp:=Qvn a (by omega) (fun s hs c hc=>by have:=hac s hs c hc;omega)
      have hlp:lenP (a++b):=⟨by rw [List.length_append];omega,fun s hs c hc=>by
       rcases List.mem_append.1 hs with h|h
       ·have:=hac s h c hc;omega
       ·have:=hbc s h c hc;omega⟩
      have hsm:=Qhu _ _ hlp hlp
      rw [Qnm]at hsm
      have wl2:IntKind.i64.wrap ((k:Int)+(k:Int))=(k:Int)+(k:Int):=Qah (by omega) (by omega)
      have e1:(a.map sgPV).take k=a.map sgPV:=List.take_of_length_le (by simp;omega)
      have e2:=Qdg a
      have e3:(a.map sgPV++b.map sgPV).take (k+k)=a.map sgPV++b.map sgPV:=List.take_of_length_le (by simp;omega)
      have e4:(((a.map sgPV++b.map sgPV).flatMap PV.cells).all PV.okCell)=true:=by rw [←List.map_append];exact Qdg _
      have e5:(b.map sgPV).take k=b.map sgPV:=List.take_of_length_le (by simp;omega)
      have e6:=Qdg b
      have e7:(k+k≤(a.map sgPV++b.map sgPV).length)=True:=eq_true (by simp;omega)
      have e8:(k≤(a.map sgPV).length)=True:=eq_true (by simp;omega)
      have e9:(k≤(b.map sgPV).length)=True:=eq_true (by simp;omega)
      have k1:((k+k)*96≤140737488355328)=True:=eq_true (by omega)
      have k2:(k+k≤maxLen)=True:=eq_true (by unfold maxLen;omega)
      have bl1:Nat.blt 1705 1000000=true:=rfl
      have hfl:(((a.map sgPV).flatMap PV.cells).all flatc)=false:=by
       cases a with
       |nil=>simp at hl1;omega
       |cons s a=>rfl
      have o1:=Qvi b
      have l1:(a.map sgPV).length=k:=by rw [List.length_map,hl1]
      have l2:(b.map sgPV).length=k:=by rw [List.length_map,hl2]
      unfold Qq2 at hap
      rw [if_pos ⟨hVA,hVB⟩,if_pos hML]at hap
      have hm:=Qpa a b ha hb (by omega) (by omega) hVA hVB
      rw [hML]at hm
      rw [hVA]at v1
      rw [hVB]at v2
      rw [hl1,hl2]at hap
      rw [hl1]at hcp
      unfold Qaq at hap v1 v2 hm hcp hsm
      rw [List.map_append]at hsm hap
      generalize a.map sgPV=X at*
      generalize b.map sgPV=Y at*
      by_cases h256:k+k≤256
      ·have h':((256:Int)<(k:Int)+(k:Int))=False:=eq_false (by omega)
       rw [if_pos h256]at hap
       repeat (first|(simp -implicitDefEqProofs only [go_sem,Nat.reduceAdd,Nat.reduceMul,Nat.reduceEqDiff,Nat.reduceLT,Nat.reduceLeDiff,reduceCtorEq,Nat.reduceBneDiff,hA',h',wl2,Qlw,bl1,hfl,Bool.false_eq_true,if_false,e1,e2,e3,e4,e5,e6,e7,e8,e9,l1,l2,k1,k2,o1,Bool.not_false,Bool.not_true,Int.toNat_natCast])|((with_reducible refine Qab (hap) ?_ ?_ ?_);(with_reducible rfl);rfl)|((with_reducible refine Qab (v1) ?_ ?_ ?_);(with_reducible rfl);rfl)|((with_reducible refine Qab (v2) ?_ ?_ ?_);(with_reducible rfl);rfl)|((with_reducible refine Qab (hm) ?_ ?_ ?_);(with_reducible rfl);rfl)|((with_reducible refine Qbq (hcp) ?_ ?_ ?_ ?_);(with_reducible rfl);rfl;rfl)|((with_reducible refine Qab (hsm) ?_ ?_ ?_);(with_reducible rfl);rfl)|((with_reducible refine Qab (hk) ?_ ?_ ?_);(with_reducible rfl);rfl))
      ·have h':((256:Int)<(k:Int)+(k:Int))=True:=eq_true (by omega)
       rw [if_neg h256]at hap
       simp only [List.map_nil]at hap
       repeat (first|(simp -implicitDefEqProofs only [go_sem,Nat.reduceAdd,Nat.reduceMul,Nat.reduceEqDiff,Nat.reduceLT,Nat.reduceLeDiff,reduceCtorEq,hA',h',wl2,bl1,e1,e2,e5,e6,e8,e9,l1,l2,Bool.not_false,Bool.not_true,Int.toNat_natCast])|((with_reducible refine Qab (hap) ?_ ?_ ?_);(with_reducible rfl);rfl)|((with_reducible refine Qab (v1) ?_ ?_ ?_);(with_reducible rfl);rfl)|((with_reducible refine Qab (v2) ?_ ?_ ?_);(with_reducible rfl);rfl)|((with_reducible refine Qab (hm) ?_ ?_ ?_);(with_reducible rfl);rfl)|((with_reducible refine Qab (r7) ?_ ?_ ?_);(with_reducible rfl);rfl)|((with_reducible refine Qab (hk) ?_ ?_ ?_);(with_reducible rfl);rfl))
   ·have ha: ∀s∈p,okSg s:=fun s hs=>Zfr (hra.1 s hs) (fun c hc=>by have:=la8 s hs c hc;omega)
    have hb: ∀s∈q,okSg s:=fun s hs=>Zfr (hrb.1 s hs) (fun c hc=>by have:=lb8 s hs c hc;omega)
    clear hF1 hF2 hra hrb
    generalize p=a at*
    generalize q=b at*
    have hap:=Qia a b ha hb (by omega) (by omega)
    have v1:=Qez a ha (by omega)
    have v2:=Qez b hb (by omega)
    have hcp:=Qvn a (by omega) (fun s hs c hc=>by have:=la8 s hs c hc;omega)
    have hlp:lenP (a++b):=⟨by rw [List.length_append];omega,fun s hs c hc=>by
     rcases List.mem_append.1 hs with h|h
     ·have:=la8 s h c hc;omega
     ·have:=lb8 s h c hc;omega⟩
    have hsm:=Qhu _ _ hlp hlp
    rw [Qnm]at hsm
    have wl2:IntKind.i64.wrap ((a.length:Int)+(b.length:Int))=(a.length:Int)+(b.length:Int):=Qah (by omega) (by omega)
    have e1:(a.map sgPV).take a.length=a.map sgPV:=List.take_of_length_le (by simp)
    have e2:=Qdg a
    have e3:(a.map sgPV++b.map sgPV).take (a.length+b.length)=a.map sgPV++b.map sgPV:=List.take_of_length_le (by simp)
    have e4:(((a.map sgPV++b.map sgPV).flatMap PV.cells).all PV.okCell)=true:=by rw [←List.map_append];exact Qdg _
    have e5:(b.map sgPV).take b.length=b.map sgPV:=List.take_of_length_le (by simp)
    have e6:=Qdg b
    have e7:(a.length+b.length≤(a.map sgPV++b.map sgPV).length)=True:=eq_true (by simp)
    have k1:((a.length+b.length)*96≤140737488355328)=True:=eq_true (by omega)
    have k2:(a.length+b.length≤maxLen)=True:=eq_true (by unfold maxLen;omega)
    have bl1:Nat.blt 1705 1000000=true:=rfl
    unfold Qq2 at hap
    by_cases hm1:126≤m
    ·have t1:(126≤m)=True:=eq_true hm1
     have t2:(m≤130)=False:=eq_false (by omega)

     refine Qac (tb:=[(1705,[],[(7,1705)])]) 109 [.tmp 6] [0,1,2,6,7,8,9,17,24,27,67,77,89] mixed Tryz.func6 rfl (by kernel_rfl) (by kernel_rfl) (by kernel_rfl) (by kernel_rfl) ?_
     repeat (first|(simp -implicitDefEqProofs only [go_sem,Nat.reduceAdd,Nat.reduceMul,Nat.reduceEqDiff,Nat.reduceLT,Nat.reduceLeDiff,reduceCtorEq,t1,t2,decide_true,decide_false,Bool.not_true])|((with_reducible refine Qab (hf1) ?_ ?_ ?_);(with_reducible rfl);rfl)|((with_reducible refine Qab (hf2) ?_ ?_ ?_);(with_reducible rfl);rfl))
     cases hA:Qa4 a with
     |false=>
      rw [hA]at v1 hap
      rw [if_neg (by simp)]at hap
      unfold Qaq at hap v1
      simp only [List.map_nil]at hap
      repeat (first|(simp -implicitDefEqProofs only [go_sem,Nat.reduceAdd,Nat.reduceMul,Nat.reduceEqDiff,Nat.reduceLT,Nat.reduceLeDiff,reduceCtorEq,List.length_map,Bool.not_false])|((with_reducible refine Qab (hap) ?_ ?_ ?_);(with_reducible rfl);rfl)|((with_reducible refine Qab (v1) ?_ ?_ ?_);(with_reducible rfl);rfl)|((with_reducible refine Qab (r2) ?_ ?_ ?_);(with_reducible rfl);rfl)|((with_reducible refine Qab (hk) ?_ ?_ ?_);(with_reducible rfl);rfl))
     |true=>
      rw [hA]at v1 hap
      cases hB:Qa4 b with
      |false=>
       rw [hB]at v2 hap
       rw [if_neg (by simp)]at hap
       unfold Qaq at hap v1 v2
       simp only [List.map_nil]at hap
       repeat (first|(simp -implicitDefEqProofs only [go_sem,Nat.reduceAdd,Nat.reduceMul,Nat.reduceEqDiff,Nat.reduceLT,Nat.reduceLeDiff,reduceCtorEq,List.length_map,Bool.not_false,Bool.not_true])|((with_reducible refine Qab (hap) ?_ ?_ ?_);(with_reducible rfl);rfl)|((with_reducible refine Qab (v1) ?_ ?_ ?_);(with_reducible rfl);rfl)|((with_reducible refine Qab (v2) ?_ ?_ ?_);(with_reducible rfl);rfl)|((with_reducible refine Qab (r2) ?_ ?_ ?_);(with_reducible rfl);rfl)|((with_reducible refine Qab (hk) ?_ ?_ ?_);(with_reducible rfl);rfl))
      |true=>
       rw [hB]at v2 hap
       rw [if_pos ⟨rfl,rfl⟩]at hap
       have hm:=Qpa a b ha hb (by omega) (by omega) hA hB
       cases hM:Qge a b with
       |false=>
        rw [hM]at hm hap
        rw [if_neg (by simp)]at hap
        unfold Qaq at hap v1 v2 hm
        simp only [List.map_nil]at hap
        repeat (first|(simp -implicitDefEqProofs only [go_sem,Nat.reduceAdd,Nat.reduceMul,Nat.reduceEqDiff,Nat.reduceLT,Nat.reduceLeDiff,reduceCtorEq,List.length_map,Bool.not_false,Bool.not_true])|((with_reducible refine Qab (hap) ?_ ?_ ?_);(with_reducible rfl);rfl)|((with_reducible refine Qab (v1) ?_ ?_ ?_);(with_reducible rfl);rfl)|((with_reducible refine Qab (v2) ?_ ?_ ?_);(with_reducible rfl);rfl)|((with_reducible refine Qab (hm) ?_ ?_ ?_);(with_reducible rfl);rfl)|((with_reducible refine Qab (r10) ?_ ?_ ?_);(with_reducible rfl);rfl)|((with_reducible refine Qab (hk) ?_ ?_ ?_);(with_reducible rfl);rfl))
       |true=>
        rw [hM]at hm hap
        rw [if_pos rfl]at hap
        by_cases h256:a.length+b.length≤256
        ·have h':((256:Int)<(a.length:Int)+(b.length:Int))=False:=eq_false (by omega)
         rw [if_pos h256]at hap
         unfold Qaq at hap v1 v2 hm hcp hsm
         rw [List.map_append]at hsm hap
         repeat (first|(simp -implicitDefEqProofs only [go_sem,Nat.reduceAdd,Nat.reduceMul,Nat.reduceEqDiff,Nat.reduceLT,Nat.reduceLeDiff,reduceCtorEq,List.length_map,h',wl2,Qlw,bl1,e1,e2,e3,e4,e5,e6,e7,k1,k2,Qvi,List.map_append,Bool.not_false,Bool.not_true,Int.toNat_natCast])|((with_reducible refine Qab (hap) ?_ ?_ ?_);(with_reducible rfl);rfl)|((with_reducible refine Qab (v1) ?_ ?_ ?_);(with_reducible rfl);rfl)|((with_reducible refine Qab (v2) ?_ ?_ ?_);(with_reducible rfl);rfl)|((with_reducible refine Qab (hm) ?_ ?_ ?_);(with_reducible rfl);rfl)|((with_reducible refine Qbq (hcp) ?_ ?_ ?_ ?_);(with_reducible rfl);rfl;rfl)|((with_reducible refine Qab (hsm) ?_ ?_ ?_);(with_reducible rfl);rfl)|((with_reducible refine Qab (hk) ?_ ?_ ?_);(with_reducible rfl);rfl))
        ·have h':((256:Int)<(a.length:Int)+(b.length:Int))=True:=eq_true (by omega)
         rw [if_neg h256]at hap
         unfold Qaq at hap v1 v2 hm
         simp only [List.map_nil]at hap
         repeat (first|(simp -implicitDefEqProofs only [go_sem,Nat.reduceAdd,Nat.reduceMul,Nat.reduceEqDiff,Nat.reduceLT,Nat.reduceLeDiff,reduceCtorEq,List.length_map,h',wl2,Bool.not_false,Bool.not_true])|((with_reducible refine Qab (hap) ?_ ?_ ?_);(with_reducible rfl);rfl)|((with_reducible refine Qab (v1) ?_ ?_ ?_);(with_reducible rfl);rfl)|((with_reducible refine Qab (v2) ?_ ?_ ?_);(with_reducible rfl);rfl)|((with_reducible refine Qab (hm) ?_ ?_ ?_);(with_reducible rfl);rfl)|((with_reducible refine Qab (r7) ?_ ?_ ?_);(with_reducible rfl);rfl)|((with_reducible refine Qab (hk) ?_ ?_ ?_);(with_reducible rfl);rfl))
    ·have t1:(126≤m)=False:=eq_false hm1

     refine Qac (tb:=[(1705,[],[(7,1705)])]) 109 [.tmp 6] [0,1,2,6,7,8,9,17,24,27,67,77,89] mixed Tryz.func6 rfl (by kernel_rfl) (by kernel_rfl) (by kernel_rfl) (by kernel_rfl) ?_
     repeat (first|(simp -implicitDefEqProofs only [go_sem,Nat.reduceAdd,Nat.reduceMul,Nat.reduceEqDiff,Nat.reduceLT,Nat.reduceLeDiff,reduceCtorEq,t1,decide_false,Bool.not_true])|((with_reducible refine Qab (hf1) ?_ ?_ ?_);(with_reducible rfl);rfl)|((with_reducible refine Qab (hf2) ?_ ?_ ?_);(with_reducible rfl);rfl))
     cases hA:Qa4 a with
     |false=>
      rw [hA]at v1 hap
      rw [if_neg (by simp)]at hap
      unfold Qaq at hap v1
      simp only [List.map_nil]at hap
      repeat (first|(simp -implicitDefEqProofs only [go_sem,Nat.reduceAdd,Nat.reduceMul,Nat.reduceEqDiff,Nat.reduceLT,Nat.reduceLeDiff,reduceCtorEq,List.length_map,Bool.not_false])|((with_reducible refine Qab (hap) ?_ ?_ ?_);(with_reducible rfl);rfl)|((with_reducible refine Qab (v1) ?_ ?_ ?_);(with_reducible rfl);rfl)|((with_reducible refine Qab (r2) ?_ ?_ ?_);(with_reducible rfl);rfl)|((with_reducible refine Qab (hk) ?_ ?_ ?_);(with_reducible rfl);rfl))
     |true=>
      rw [hA]at v1 hap
      cases hB:Qa4 b with
      |false=>
       rw [hB]at v2 hap
       rw [if_neg (by simp)]at hap
       unfold Qaq at hap v1 v2
       simp only [List.map_nil]at hap
       repeat (first|(simp -implicitDefEqProofs only [go_sem,Nat.reduceAdd,Nat.reduceMul,Nat.reduceEqDiff,Nat.reduceLT,Nat.reduceLeDiff,reduceCtorEq,List.length_map,Bool.not_false,Bool.not_true])|((with_reducible refine Qab (hap) ?_ ?_ ?_);(with_reducible rfl);rfl)|((with_reducible refine Qab (v1) ?_ ?_ ?_);(with_reducible rfl);rfl)|((with_reducible refine Qab (v2) ?_ ?_ ?_);(with_reducible rfl);rfl)|((with_reducible refine Qab (r2) ?_ ?_ ?_);(with_reducible rfl);rfl)|((with_reducible refine Qab (hk) ?_ ?_ ?_);(with_reducible rfl);rfl))
      |true=>
       rw [hB]at v2 hap
       rw [if_pos ⟨rfl,rfl⟩]at hap
       have hm:=Qpa a b ha hb (by omega) (by omega) hA hB
       cases hM:Qge a b with
       |false=>
        rw [hM]at hm hap
        rw [if_neg (by simp)]at hap
        unfold Qaq at hap v1 v2 hm
        simp only [List.map_nil]at hap
        repeat (first|(simp -implicitDefEqProofs only [go_sem,Nat.reduceAdd,Nat.reduceMul,Nat.reduceEqDiff,Nat.reduceLT,Nat.reduceLeDiff,reduceCtorEq,List.length_map,Bool.not_false,Bool.not_true])|((with_reducible refine Qab (hap) ?_ ?_ ?_);(with_reducible rfl);rfl)|((with_reducible refine Qab (v1) ?_ ?_ ?_);(with_reducible rfl);rfl)|((with_reducible refine Qab (v2) ?_ ?_ ?_);(with_reducible rfl);rfl)|((with_reducible refine Qab (hm) ?_ ?_ ?_);(with_reducible rfl);rfl)|((with_reducible refine Qab (r10) ?_ ?_ ?_);(with_reducible rfl);rfl)|((with_reducible refine Qab (hk) ?_ ?_ ?_);(with_reducible rfl);rfl))
       |true=>
        rw [hM]at hm hap
        rw [if_pos rfl]at hap
        by_cases h256:a.length+b.length≤256
        ·have h':((256:Int)<(a.length:Int)+(b.length:Int))=False:=eq_false (by omega)
         rw [if_pos h256]at hap
         unfold Qaq at hap v1 v2 hm hcp hsm
         rw [List.map_append]at hsm hap
         repeat (first|(simp -implicitDefEqProofs only [go_sem,Nat.reduceAdd,Nat.reduceMul,Nat.reduceEqDiff,Nat.reduceLT,Nat.reduceLeDiff,reduceCtorEq,List.length_map,h',wl2,Qlw,bl1,e1,e2,e3,e4,e5,e6,e7,k1,k2,Qvi,List.map_append,Bool.not_false,Bool.not_true,Int.toNat_natCast])|((with_reducible refine Qab (hap) ?_ ?_ ?_);(with_reducible rfl);rfl)|((with_reducible refine Qab (v1) ?_ ?_ ?_);(with_reducible rfl);rfl)|((with_reducible refine Qab (v2) ?_ ?_ ?_);(with_reducible rfl);rfl)|((with_reducible refine Qab (hm) ?_ ?_ ?_);(with_reducible rfl);rfl)|((with_reducible refine Qbq (hcp) ?_ ?_ ?_ ?_);(with_reducible rfl);rfl;rfl)|((with_reducible refine Qab (hsm) ?_ ?_ ?_);(with_reducible rfl);rfl)|((with_reducible refine Qab (hk) ?_ ?_ ?_);(with_reducible rfl);rfl))
        ·have h':((256:Int)<(a.length:Int)+(b.length:Int))=True:=eq_true (by omega)
         rw [if_neg h256]at hap
         unfold Qaq at hap v1 v2 hm
         simp only [List.map_nil]at hap
         repeat (first|(simp -implicitDefEqProofs only [go_sem,Nat.reduceAdd,Nat.reduceMul,Nat.reduceEqDiff,Nat.reduceLT,Nat.reduceLeDiff,reduceCtorEq,List.length_map,h',wl2,Bool.not_false,Bool.not_true])|((with_reducible refine Qab (hap) ?_ ?_ ?_);(with_reducible rfl);rfl)|((with_reducible refine Qab (v1) ?_ ?_ ?_);(with_reducible rfl);rfl)|((with_reducible refine Qab (v2) ?_ ?_ ?_);(with_reducible rfl);rfl)|((with_reducible refine Qab (hm) ?_ ?_ ?_);(with_reducible rfl);rfl)|((with_reducible refine Qab (r7) ?_ ?_ ?_);(with_reducible rfl);rfl)|((with_reducible refine Qab (hk) ?_ ?_ ?_);(with_reducible rfl);rfl))
end Go.Proofs.YtlpiamlgibomhaaGreat
