/-
  LF3, LF4, LF5, LF6 (merged for the claim).
-/
import Derived.Test.YtjlkapdmgjocdaaGreatLF2
set_option linter.unusedSimpArgs false
set_option linter.unusedVariables false
namespace Go.Proofs.YtjlkapdmgjocdaaGreat
open Go.Vl Go.RowKit Go.Dg
theorem Qk6 (l:List Sg):(((l.map sgV).flatMap PV.cells).all PV.okCell)=true:=by
 rw [List.all_flatMap,List.all_map,List.all_eq_true];intro _ _;rfl
theorem Qqw (l:List Sg):((l.map sgV).all fun e=>e.cells.length==6&&e.cells.all PV.okCell)=true:=by
 rw [List.all_map,List.all_eq_true];intro _ _;rfl
def tuB (S:List Sg):Nat→List (Nat×Box)
 |0=>[(1000000,{els:=[.nilS],esz:=1,ety:=60,fro:=0,live:=true,arr:=false})]
 |k+1=>[(1000000,{els:=[.bs 7 6 0 (k+1)],esz:=1,ety:=60,fro:=0,live:=true,arr:=false}),(7,{els:=(S.take (k+1)).map sgV,esz:=6,ety:=91,fro:=0,live:=true,arr:=true})]
theorem Q3m (S:List Sg) (k:Nat): ∀b∈ [1000000],(lkp (tuB S k) b).isSome=true:=by
 cases k<;>simp [tuB,lkp]
theorem Qx0 {S:List Sg} {k:Nat} {x:Sg} (hx:S[k]? =some x):(S.take (k+1)).map sgV=(S.take k).map sgV++[.agg [.int .i64 x.f,.int .i64 x.t,.int .i64 x.o,.slc (x.x.map (PV.int .i64)),.slc (x.y.map (PV.int .i64)),.slc (x.z.map (PV.int .i64))]]:=by
 obtain⟨hk,rfl⟩:=List.getElem?_eq_some_iff.1 hx
 rw [Qeq S k hk,List.map_append];rfl
theorem Qx1 {S:List Sg} {k:Nat} (h:k≤S.length):((S.take k).map sgV).length=k:=by simp;omega
theorem Qx2:(1≤maxLen)=True:=eq_true (by decide)
def Qk7 (T:List Int) (k:Nat):Int:=if k=0 then -1 else T.getD (k-1) 0
theorem T_zs:Qaw Tryz.prog 91=some (.agg [.int .i64 0,.int .i64 0,.int .i64 0,.nilS,.nilS,.nilS]):=by kernel_rfl
set_option maxRecDepth 100000 in
set_option maxHeartbeats 2000000 in
theorem Q1s (P:List V3) (T:List Int) (hl2:2≤P.length) (hl:P.length≤257) (hT:T.length=P.length) (hp: ∀i,i<P.length→ptB (P.getD i v0)=true) (ht: ∀i,i<P.length→Qk7 T i<T.getD i 0∧T.getD i 0≤3600000):
  Qan Tryz.prog 115 [psV P,.slc (T.map (PV.int .i64))] (.tup [pV (Qk4 P T),.int .i64 0]):=by
 have l1:((P.length:Int)<2)=False:=eq_false (by omega)
 have l2:((P.length:Int) != (P.length:Int))=false:=by simp
 have l3:((257:Int)<(P.length:Int))=False:=eq_false (by omega)
 have wm:IntKind.i64.wrap (-1)= -1:=Qam (by decide) (by decide)
 have hY:=Qxz P T (by omega) hT (fun i=>by
  by_cases h:i<P.length
  ·exact Qnn (hp i h)
  ·rw [List.getD_eq_getElem?_getD,List.getElem?_eq_none (by omega)];exact Qnn rfl)
 have hL:=Q1r P T
 unfold psV at hL hY
 unfold legO at hY
 have hSl:(Qk4 P T).length=P.length-1:=by simp [Qk4]
 unfold pV
 refine Qac (tb:=[]) 57 [.tmp 4,.tmp 5] [0,1,4,5,6,7,8,9,10,20,21,22,23,24,42,47,50,51] mixed Tryz.func115 rfl (by kernel_rfl) (by kernel_rfl) (by kernel_rfl) (by kernel_rfl) ?_
 repeat (first|(simp -implicitDefEqProofs only [go_sem,Nat.reduceAdd,Nat.reduceMul,Nat.reduceEqDiff,Nat.reduceLT,Nat.reduceLeDiff,reduceCtorEq,Int.reduceNeg,T_zs,psV,l1,l2,wm,hT,List.length_map]))
 refine Qb5 mixed (fun k:{k:Nat // k≤P.length}=>St.of [(0,.slc (P.map v3PV)),(1,.slc (T.map (PV.int .i64))),(6,.int .i64 (Qk7 T k.1)),(21,.slc (T.map (PV.int .i64))),(22,.int .i64 (P.length:Int)),(23,.int .i64 (k.1:Int))] []) (fun k=>P.length-k.1) ⟨0,Nat.zero_le _⟩ ?_ ?_
 ·exact Qce (by simp [Qad,lkp,ren1,ren0,Qae,psV,Qk7])
 ·rintro⟨k,hk⟩
  simp only
  by_cases hA:k<P.length
  ·have hA':=lt_T hA
   have n0:=nn_T k
   have g1:=Qk5 P k hA
   have g2:=Qqv T k (by omega)
   have hwk:=wr_1 (n:=k) (by omega)
   have hpk:=Qc7 (P.getD k v0)
   rw [hp k hA]at hpk
   obtain⟨t1,t2⟩:=ht k hA
   have hnx:Qk7 T (k+1)=T.getD k 0:=by simp [Qk7]
   have t1':(T.getD k 0≤Qk7 T k)=False:=eq_false (by omega)
   have t2':(3600000<T.getD k 0)=False:=eq_false (by omega)
   generalize Qk7 T k=L at*
   generalize P.getD k v0=va at*
   generalize T.getD k 0=ta at*
   unfold v3PV at hpk
   repeat (first|(simp -implicitDefEqProofs only [go_sem,Nat.reduceAdd,Nat.reduceMul,Nat.reduceEqDiff,Nat.reduceLT,Nat.reduceLeDiff,reduceCtorEq,T_zs,hA',n0,g1,g2,hwk,t1',t2',Int.toNat_natCast,List.length_map,Bool.not_true,decide_false])|((with_reducible refine Qab (hpk) ?_ ?_ ?_);(with_reducible rfl);rfl))
   refine⟨⟨k+1,hA⟩,by simp only;omega,?_⟩
   simp only [hnx]
   exact Qce (by simp [Qad,lkp,ren1,ren0,Qae])
  ·have hA':=lt_F hA
   obtain rfl:k=P.length:=by omega
   repeat (first|(simp -implicitDefEqProofs only [go_sem,Nat.reduceAdd,Nat.reduceMul,Nat.reduceEqDiff,Nat.reduceLT,Nat.reduceLeDiff,reduceCtorEq,T_zs,hA',l3,List.length_map])|((with_reducible refine Qab (hL) ?_ ?_ ?_);(with_reducible rfl);rfl))
   obtain⟨n,hn1⟩: ∃n,P.length-1=n+1:=⟨P.length-2,by omega⟩
   generalize Qk4 P T=S at*
   have hSn:S.length=n+1:=by omega
   have hmin:min (S.map fun s=>[sgV s]).length (n+1+1)=n+1:=by rw [List.length_map];omega
   have htk:S.take (n+1)=S:=List.take_of_length_le (by omega)
   refine Qby mixed hY rfl rfl _ rfl [(1000000,1300)] [1000000] rfl [(9,.bp 1000000 1 0 0)] (tuB S) rfl rfl ?_ ?_ ?_ (n+1) .normal (fun h=>by simp [hSn]at h) (fun k _ _=>Q3m S k) ?_ rfl ?_
    [(0,1000000),(7,7)] [(9,.bp 0 1 0 0)] [(0,{els:=[.bs 7 6 0 (n+1)],esz:=1,ety:=60,fro:=0,live:=true,arr:=false}),(7,{els:=S.map sgV,esz:=6,ety:=91,fro:=0,live:=true,arr:=true})] rfl rfl ?_ ?_ (fun _=> ?_) (fun h=>by simp [hSn]at h)
   ·simp [Qad,lkp,ren1,ren0,Qae]
   ·exact⟨⟨rfl,rfl,rfl,rfl,rfl,.inr ⟨rfl,_,_,rfl,rfl,rfl,rfl⟩⟩,trivial⟩
   ·simp [Qad,lkp,ren1,ren0,Qae,Qc6]
   ·intro k args h
    simp only [List.getElem?_map,Option.map_eq_some_iff]at h
    obtain⟨x, -,rfl⟩:=h
    rfl
   ·rintro k args hka hk
    simp only [List.getElem?_map,Option.map_eq_some_iff]at hka
    obtain⟨x,hx,rfl⟩:=hka
    have hkl:k<S.length:=(List.getElem?_eq_some_iff.1 hx).1
    have hlx:=Qx0 hx
    unfold sgV
    cases k with
    |zero=>
     simp only [tuB]
     have e0:(S.take 0).map sgV=[]:=rfl
     rw [e0,List.nil_append]at hlx
     repeat (first|(simp -implicitDefEqProofs only [go_sem,Nat.reduceAdd,Nat.reduceMul,Nat.reduceEqDiff,Nat.reduceLT,Nat.reduceLeDiff,reduceIte,reduceCtorEq,T_zs,pvars,List.toList_toArray]))
     refine⟨by simp [lkp],?_⟩
     repeat (first|(simp -implicitDefEqProofs only [go_sem,Nat.reduceAdd,Nat.reduceEqDiff,reduceCtorEq,T_zs,Qx2]))
     refine⟨by omega,?_⟩
     refine Qaq (θ:=[(1000000,1000000),(7,1603)]) rfl ?_ ?_
     ·simp [Qad,lkp,ren1,ren0,Qae]
     ·simp only [tuB,hlx]
      exact⟨⟨rfl,rfl,rfl,rfl,rfl,.inr ⟨rfl,_,_,rfl,rfl,rfl,rfl⟩⟩,⟨rfl,rfl,rfl,rfl,rfl,.inl ⟨rfl,rfl⟩⟩,trivial⟩
    |succ k=>
     simp only [tuB]
     have b1:=Qx1 (S:=S) (k:=k+1) (by omega)
     have b2:((((S.take (k+1)).map sgV).flatMap PV.cells).all PV.okCell)=true:=Qk6 _
     have c1:((k+1+1)*96≤140737488355328)=True:=eq_true (by omega)
     have c2:(k+1+1≤maxLen)=True:=eq_true (by unfold maxLen;omega)
     generalize hTT:(S.take (k+1)).map sgV=TT at*
     repeat (first|(simp -implicitDefEqProofs only [go_sem,Nat.reduceAdd,Nat.reduceMul,Nat.reduceEqDiff,Nat.reduceLT,Nat.reduceLeDiff,reduceIte,reduceCtorEq,Nat.reduceBneDiff,T_zs,pvars,List.toList_toArray]))
     refine⟨by simp [lkp],?_⟩
     repeat (first|(simp -implicitDefEqProofs only [go_sem,Nat.reduceAdd,Nat.reduceEqDiff,reduceCtorEq,T_zs,b1,b2,c1,c2]))
     refine⟨by omega,?_⟩
     refine Qaq (θ:=[(1000000,1000000),(7,1603)]) rfl ?_ ?_
     ·simp [Qad,lkp,ren1,ren0,Qae]
     ·simp only [tuB,hlx]
      exact⟨⟨rfl,rfl,rfl,rfl,rfl,.inr ⟨rfl,_,_,rfl,rfl,rfl,rfl⟩⟩,⟨rfl,rfl,rfl,rfl,rfl,.inl ⟨rfl,rfl⟩⟩,trivial⟩
   ·simp [Qad,lkp,ren1,ren0,Qae]
   ·rw [hmin]
    simp only [tuB]
    rw [htk]
    exact⟨⟨rfl,rfl,rfl,rfl,rfl,.inr ⟨rfl,_,_,rfl,rfl,rfl,rfl⟩⟩,⟨rfl,rfl,rfl,rfl,rfl,.inl ⟨rfl,rfl⟩⟩,trivial⟩
   ·have b1:(S.map sgV).length=n+1:=by simp [hSn]
    have b2:(((S.map sgV).flatMap PV.cells).all PV.okCell)=true:=Qk6 _
    have b3:(S.map sgV).take (n+1)=S.map sgV:=List.take_of_length_le (by omega)
    generalize S.map sgV=TT at*
    repeat (first|(simp -implicitDefEqProofs only [go_sem,Nat.reduceAdd,Nat.reduceMul,Nat.reduceEqDiff,Nat.reduceLT,Nat.reduceLeDiff,reduceIte,reduceCtorEq,T_zs,b1,b2,b3]))
theorem Qqx (a b:V3) (r f t:Int):Qk4 [a,up a r,up b r,b] [f,f+(t-f)/4,t-(t-f)/4,t]=arc3 a b r f t:=rfl
set_option maxRecDepth 100000 in
theorem Q3n (a b:V3) (r f t:Int) (hg:Qjw a b f t=true) (h4:(t-f)%4=0) (hr:0≤r∧r≤3600000) (ha:ptB (up a r)=true) (hb:ptB (up b r)=true):
  Qan Tryz.prog 98 [v3PV a,v3PV b,.int .i64 r,.int .i64 f,.int .i64 t] (.tup [pV (arc3 a b r f t),.int .i64 0]):=by
 obtain⟨p1,p2,g1,g2,g3⟩:=Qht hg
 have h1:=Qnp a b f t
 rw [hg]at h1
 have h2:=Qc7 (up a r)
 have h3:=Qc7 (up b r)
 rw [ha]at h2
 rw [hb]at h3
 obtain⟨q,hq⟩: ∃q,(t-f)/4=q:=⟨_,rfl⟩
 have hq4:t-f=4*q:=by omega
 have i1:=Qfy.1 p1
 have i2:=Qfy.1 p2
 have i3:=Qfy.1 ha
 have i4:=Qfy.1 hb
 simp only [up]at i3 i4
 have hT:=Q1s [a,up a r,up b r,b] [f,f+q,t-q,t] (by simp) (by simp) rfl (by
  intro i hi
  have:i=0∨i=1∨i=2∨i=3:=by simp at hi;omega
  rcases this with rfl|rfl|rfl|rfl
  ·exact p1
  ·exact ha
  ·exact hb
  ·exact p2) (by
  intro i hi
  have:i=0∨i=1∨i=2∨i=3:=by simp at hi;omega
  rcases this with rfl|rfl|rfl|rfl<;>simp [Qk7]<;>omega)
 rw [←hq,Qqx]at hT
 rw [hq]at hT
 have w1:IntKind.i64.wrap (t-f)=t-f:=Qam (by omega) (by omega)
 have w2:IntKind.i64.wrap ((t-f).tdiv 4)=q:=by
  rw [Int.tdiv_eq_ediv_of_nonneg (by omega),hq];exact Qam (by omega) (by omega)
 have w3:IntKind.i64.wrap (4*q)=t-f:=by rw [←hq4];exact w1
 have w4:IntKind.i64.wrap (a.z+r)=a.z+r:=Qam (by omega) (by omega)
 have w5:IntKind.i64.wrap (b.z+r)=b.z+r:=Qam (by omega) (by omega)
 have w6:IntKind.i64.wrap (f+q)=f+q:=Qam (by omega) (by omega)
 have w7:IntKind.i64.wrap (t-q)=t-q:=Qam (by omega) (by omega)
 have wn:IntKind.i64.wrap (-2097152)= -2097152:=Qam (by decide) (by decide)
 have c1:((t-f) != (t-f))=false:=by simp
 have c2:(r< -2097152)=False:=eq_false (by omega)
 have c3:(2097152<r)=False:=eq_false (by omega)
 generalize arc3 a b r f t=S at*
 unfold pV
 unfold psV pV at hT
 unfold v3PV up at h2 h3
 unfold v3PV at h1 ⊢
 simp only [List.map_cons,List.map_nil,v3PV,up]at hT
 refine Qac (tb:=[]) 76 [.tmp 10,.tmp 11] [0,1,2,3,4,5,6,10,11,12,13,14,20,38,58] mixed Tryz.func98 rfl (by kernel_rfl) (by kernel_rfl) (by kernel_rfl) (by kernel_rfl) ?_
 repeat (first|(simp -implicitDefEqProofs only [go_sem,Nat.reduceAdd,Nat.reduceMul,Nat.reduceEqDiff,Nat.reduceLT,Nat.reduceLeDiff,reduceIte,reduceCtorEq,Int.reduceEq,Int.reduceNeg,T_zs,w1,w2,w3,w4,w5,w6,w7,wn,c1,c2,c3,Bool.not_true,decide_false])|((with_reducible refine Qab (h1) ?_ ?_ ?_);(with_reducible rfl);rfl)|((with_reducible refine Qab (h2) ?_ ?_ ?_);(with_reducible rfl);rfl)|((with_reducible refine Qab (h3) ?_ ?_ ?_);(with_reducible rfl);rfl)|((with_reducible refine Qab (hT) ?_ ?_ ?_);(with_reducible rfl);rfl)|(with_reducible exact Qaa _ _ (by kernel_rfl))|(with_reducible refine And.intro (Qaa _ _ (by kernel_rfl)) ?_))
end Go.Proofs.YtjlkapdmgjocdaaGreat

namespace Go.Proofs.YtjlkapdmgjocdaaGreat
open Go.Vl Go.RowKit Go.Dg
def mvV (m:Mv):PV:= .agg [.int .i64 m.to.x,.int .i64 m.to.y,.int .i64 m.to.z,.int .i64 m.w,.int .i64 m.f,.int .i64 m.r]
theorem Qcr:Qb3 Tryz.prog 54=some [1,1,1]:=by kernel_rfl
theorem Q3o (n m:Int):Qan Tryz.prog 93 [.int .i64 n,.int .i64 m] (.bool (decide (0≤n)&&decide (n≤m))):=by
 by_cases h:0≤n
 ·have h':(0≤n)=True:=eq_true h
  refine Qac (tb:=[]) 12 [.tmp 4] [0,1,4] mixed Tryz.func93 rfl (by kernel_rfl) (by kernel_rfl) (by kernel_rfl) (by kernel_rfl) ?_
  repeat (first|(simp -implicitDefEqProofs only [go_sem,Nat.reduceAdd,Nat.reduceMul,Nat.reduceEqDiff,Nat.reduceLT,Nat.reduceLeDiff,reduceCtorEq,Qcr,h',decide_true,Bool.true_and]))
 ·have h':(0≤n)=False:=eq_false h
  refine Qac (tb:=[]) 12 [.tmp 4] [0,1,4] mixed Tryz.func93 rfl (by kernel_rfl) (by kernel_rfl) (by kernel_rfl) (by kernel_rfl) ?_
  repeat (first|(simp -implicitDefEqProofs only [go_sem,Nat.reduceAdd,Nat.reduceMul,Nat.reduceEqDiff,Nat.reduceLT,Nat.reduceLeDiff,reduceCtorEq,Qcr,h',decide_false,Bool.false_and]))
theorem Qi9 (n:Int):Qan Tryz.prog 76 [.int .i64 n] (.bool (tB n)):=by
 have h:=Q3o n 3600000
 unfold tB
 refine Qac (tb:=[]) 5 [.tmp 2] [0,2] mixed Tryz.func76 rfl (by kernel_rfl) (by kernel_rfl) (by kernel_rfl) (by kernel_rfl) ?_
 repeat (first|(simp -implicitDefEqProofs only [go_sem,Nat.reduceAdd,Nat.reduceMul,Nat.reduceEqDiff,Nat.reduceLT,Nat.reduceLeDiff,reduceCtorEq,Qcr])|((with_reducible refine Qab (h) ?_ ?_ ?_);(with_reducible rfl);rfl))
theorem Qnq (v:V3) (r:Int) (hv:ptB v=true) (hr:tB r=true):Qan Tryz.prog 94 [v3PV v,.int .i64 r] (.bool (hiB v r)):=by
 have i:=Qfy.1 hv
 have j:=Qdp.1 hr
 have h:=Qc7 (up v r)
 have w:IntKind.i64.wrap (v.z+r)=v.z+r:=Qam (by omega) (by omega)
 unfold hiB up
 unfold v3PV up at h
 unfold v3PV
 refine Qac (tb:=[]) 12 [.tmp 4] [0,1,2,4] mixed Tryz.func94 rfl (by kernel_rfl) (by kernel_rfl) (by kernel_rfl) (by kernel_rfl) ?_
 repeat (first|(simp -implicitDefEqProofs only [go_sem,Nat.reduceAdd,Nat.reduceMul,Nat.reduceEqDiff,Nat.reduceLT,Nat.reduceLeDiff,reduceCtorEq,Qcr,w])|((with_reducible refine Qab (h) ?_ ?_ ?_);(with_reducible rfl);rfl))
theorem Q3p {a b:V3} (h:a≠b):(a.x==b.x&&(a.y==b.y&&a.z==b.z))=false:=by
 cases e:(a.x==b.x&&(a.y==b.y&&a.z==b.z))with
 |false=>rfl
 |true=>
  simp only [Bool.and_eq_true,beq_iff_eq]at e
  exact absurd (by cases a;cases b;simp_all) h
set_option maxRecDepth 100000 in
set_option maxHeartbeats 4000000 in
theorem Qtt (v:V3) (m:Mv) (len:Int) (hv:ptB v=true):Qan Tryz.prog 77 [v3PV v,mvV m,.int .i64 len] (.bool (mvB v m len)):=by
 have h1:=Qc7 m.to
 have h2:=Qi9 m.w
 have h3:=Qi9 m.f
 have h4:=Qi9 m.r
 unfold mvB
 unfold v3PV at h1 ⊢
 unfold mvV
 cases e1:ptB m.to with
 |false=>
  rw [e1]at h1
  refine Qac (tb:=[]) 72 [.tmp 6] [0,1,2,3,4,6,37,38,51] mixed Tryz.func77 rfl (by kernel_rfl) (by kernel_rfl) (by kernel_rfl) (by kernel_rfl) ?_
  repeat (first|(simp -implicitDefEqProofs only [go_sem,Nat.reduceAdd,Nat.reduceMul,Nat.reduceEqDiff,Nat.reduceLT,Nat.reduceLeDiff,reduceCtorEq,Qcr,Bool.not_false,Bool.false_and])|((with_reducible refine Qab (h1) ?_ ?_ ?_);(with_reducible rfl);rfl))
 |true=>
 rw [e1]at h1
 cases e2:tB m.w with
 |false=>
  rw [e2]at h2
  refine Qac (tb:=[]) 72 [.tmp 6] [0,1,2,3,4,6,37,38,51] mixed Tryz.func77 rfl (by kernel_rfl) (by kernel_rfl) (by kernel_rfl) (by kernel_rfl) ?_
  repeat (first|(simp -implicitDefEqProofs only [go_sem,Nat.reduceAdd,Nat.reduceMul,Nat.reduceEqDiff,Nat.reduceLT,Nat.reduceLeDiff,reduceCtorEq,Qcr,Bool.not_false,Bool.not_true,Bool.false_and,Bool.true_and])|((with_reducible refine Qab (h1) ?_ ?_ ?_);(with_reducible rfl);rfl)|((with_reducible refine Qab (h2) ?_ ?_ ?_);(with_reducible rfl);rfl))
 |true=>
 rw [e2]at h2
 cases e3:tB m.f with
 |false=>
  rw [e3]at h3
  refine Qac (tb:=[]) 72 [.tmp 6] [0,1,2,3,4,6,37,38,51] mixed Tryz.func77 rfl (by kernel_rfl) (by kernel_rfl) (by kernel_rfl) (by kernel_rfl) ?_
  repeat (first|(simp -implicitDefEqProofs only [go_sem,Nat.reduceAdd,Nat.reduceMul,Nat.reduceEqDiff,Nat.reduceLT,Nat.reduceLeDiff,reduceCtorEq,Qcr,Bool.not_false,Bool.not_true,Bool.false_and,Bool.true_and])|((with_reducible refine Qab (h1) ?_ ?_ ?_);(with_reducible rfl);rfl)|((with_reducible refine Qab (h2) ?_ ?_ ?_);(with_reducible rfl);rfl)|((with_reducible refine Qab (h3) ?_ ?_ ?_);(with_reducible rfl);rfl))
 |true=>
 rw [e3]at h3
 cases e4:tB m.r with
 |false=>
  rw [e4]at h4
  refine Qac (tb:=[]) 72 [.tmp 6] [0,1,2,3,4,6,37,38,51] mixed Tryz.func77 rfl (by kernel_rfl) (by kernel_rfl) (by kernel_rfl) (by kernel_rfl) ?_
  repeat (first|(simp -implicitDefEqProofs only [go_sem,Nat.reduceAdd,Nat.reduceMul,Nat.reduceEqDiff,Nat.reduceLT,Nat.reduceLeDiff,reduceCtorEq,Qcr,Bool.not_false,Bool.not_true,Bool.false_and,Bool.true_and])|((with_reducible refine Qab (h1) ?_ ?_ ?_);(with_reducible rfl);rfl)|((with_reducible refine Qab (h2) ?_ ?_ ?_);(with_reducible rfl);rfl)|((with_reducible refine Qab (h3) ?_ ?_ ?_);(with_reducible rfl);rfl)|((with_reducible refine Qab (h4) ?_ ?_ ?_);(with_reducible rfl);rfl))
 |true=>
 rw [e4]at h4
 have t2:=Qdp.1 e2
 have t3:=Qdp.1 e3
 have w:IntKind.i64.wrap (m.w+m.f)=m.w+m.f:=Qam (by omega) (by omega)
 by_cases e5:m.w+m.f≤len
 case neg=>
  have e5':(len<m.w+m.f)=True:=eq_true (by omega)
  rw [decide_eq_false e5]
  refine Qac (tb:=[]) 72 [.tmp 6] [0,1,2,3,4,6,37,38,51] mixed Tryz.func77 rfl (by kernel_rfl) (by kernel_rfl) (by kernel_rfl) (by kernel_rfl) ?_
  repeat (first|(simp -implicitDefEqProofs only [go_sem,Nat.reduceAdd,Nat.reduceMul,Nat.reduceEqDiff,Nat.reduceLT,Nat.reduceLeDiff,reduceCtorEq,Qcr,w,e5',decide_true,Bool.not_true,Bool.false_and,Bool.true_and])|((with_reducible refine Qab (h1) ?_ ?_ ?_);(with_reducible rfl);rfl)|((with_reducible refine Qab (h2) ?_ ?_ ?_);(with_reducible rfl);rfl)|((with_reducible refine Qab (h3) ?_ ?_ ?_);(with_reducible rfl);rfl)|((with_reducible refine Qab (h4) ?_ ?_ ?_);(with_reducible rfl);rfl))
 have e5':(len<m.w+m.f)=False:=eq_false (by omega)
 rw [decide_eq_true e5]
 by_cases e6:m.f=0
 ·have e6':(m.f==0)=true:=by simp [e6]
  rw [if_pos e6]
  by_cases e7:m.to=v
  ·rw [decide_eq_true e7]
   rw [←e7]
   have e8:(m.r==0)=decide (m.r=0):=rfl
   refine Qac (tb:=[]) 72 [.tmp 6] [0,1,2,3,4,6,37,38,51] mixed Tryz.func77 rfl (by kernel_rfl) (by kernel_rfl) (by kernel_rfl) (by kernel_rfl) ?_
   repeat (first|(simp -implicitDefEqProofs only [go_sem,Nat.reduceAdd,Nat.reduceMul,Nat.reduceEqDiff,Nat.reduceLT,Nat.reduceLeDiff,reduceCtorEq,Qcr,w,e5',e6',e8,decide_false,Bool.not_true,Bool.true_and,beq_self_eq_true])|((with_reducible refine Qab (h1) ?_ ?_ ?_);(with_reducible rfl);rfl)|((with_reducible refine Qab (h2) ?_ ?_ ?_);(with_reducible rfl);rfl)|((with_reducible refine Qab (h3) ?_ ?_ ?_);(with_reducible rfl);rfl)|((with_reducible refine Qab (h4) ?_ ?_ ?_);(with_reducible rfl);rfl))
  ·rw [decide_eq_false e7]
   have e8:=Q3p e7
   refine Qac (tb:=[]) 72 [.tmp 6] [0,1,2,3,4,6,37,38,51] mixed Tryz.func77 rfl (by kernel_rfl) (by kernel_rfl) (by kernel_rfl) (by kernel_rfl) ?_
   repeat (first|(simp -implicitDefEqProofs only [go_sem,Nat.reduceAdd,Nat.reduceMul,Nat.reduceEqDiff,Nat.reduceLT,Nat.reduceLeDiff,reduceCtorEq,Qcr,w,e5',e6',e8,decide_false,Bool.not_true,Bool.true_and,Bool.false_and])|((with_reducible refine Qab (h1) ?_ ?_ ?_);(with_reducible rfl);rfl)|((with_reducible refine Qab (h2) ?_ ?_ ?_);(with_reducible rfl);rfl)|((with_reducible refine Qab (h3) ?_ ?_ ?_);(with_reducible rfl);rfl)|((with_reducible refine Qab (h4) ?_ ?_ ?_);(with_reducible rfl);rfl))
 ·have e6':(m.f==0)=false:=by simp [e6]
  rw [if_neg e6]
  by_cases e7:0<m.r
  ·have e7':(0<m.r)=True:=eq_true e7
   rw [if_pos e7]
   have hm:m.f.tmod 4=m.f%4:=Int.tmod_eq_emod_of_nonneg (by omega)
   have h5:=Qnq v m.r hv e4
   have h6:=Qnq m.to m.r e1 e4
   unfold v3PV at h5 h6
   by_cases e8:m.f%4=0
   ·have e8':(m.f%4==0)=true:=by simp [e8]
    rw [decide_eq_true e8]
    cases e9:hiB v m.r with
    |false=>
     rw [e9]at h5
     refine Qac (tb:=[]) 72 [.tmp 6] [0,1,2,3,4,6,37,38,51] mixed Tryz.func77 rfl (by kernel_rfl) (by kernel_rfl) (by kernel_rfl) (by kernel_rfl) ?_
     repeat (first|(simp -implicitDefEqProofs only [go_sem,Nat.reduceAdd,Nat.reduceMul,Nat.reduceEqDiff,Nat.reduceLT,Nat.reduceLeDiff,reduceCtorEq,Int.reduceEq,Qcr,w,e5',e6',e7',hm,e8',decide_false,decide_true,Bool.not_true,Bool.true_and,Bool.false_and])|((with_reducible refine Qab (h1) ?_ ?_ ?_);(with_reducible rfl);rfl)|((with_reducible refine Qab (h2) ?_ ?_ ?_);(with_reducible rfl);rfl)|((with_reducible refine Qab (h3) ?_ ?_ ?_);(with_reducible rfl);rfl)|((with_reducible refine Qab (h4) ?_ ?_ ?_);(with_reducible rfl);rfl)|((with_reducible refine Qab (h5) ?_ ?_ ?_);(with_reducible rfl);rfl)|((with_reducible refine Qab (h6) ?_ ?_ ?_);(with_reducible rfl);rfl))
    |true=>
     rw [e9]at h5
     refine Qac (tb:=[]) 72 [.tmp 6] [0,1,2,3,4,6,37,38,51] mixed Tryz.func77 rfl (by kernel_rfl) (by kernel_rfl) (by kernel_rfl) (by kernel_rfl) ?_
     repeat (first|(simp -implicitDefEqProofs only [go_sem,Nat.reduceAdd,Nat.reduceMul,Nat.reduceEqDiff,Nat.reduceLT,Nat.reduceLeDiff,reduceCtorEq,Int.reduceEq,Qcr,w,e5',e6',e7',hm,e8',decide_false,decide_true,Bool.not_true,Bool.true_and,Bool.false_and])|((with_reducible refine Qab (h1) ?_ ?_ ?_);(with_reducible rfl);rfl)|((with_reducible refine Qab (h2) ?_ ?_ ?_);(with_reducible rfl);rfl)|((with_reducible refine Qab (h3) ?_ ?_ ?_);(with_reducible rfl);rfl)|((with_reducible refine Qab (h4) ?_ ?_ ?_);(with_reducible rfl);rfl)|((with_reducible refine Qab (h5) ?_ ?_ ?_);(with_reducible rfl);rfl)|((with_reducible refine Qab (h6) ?_ ?_ ?_);(with_reducible rfl);rfl))
   ·have e8':(m.f%4==0)=false:=by simp [e8]
    rw [decide_eq_false e8]
    refine Qac (tb:=[]) 72 [.tmp 6] [0,1,2,3,4,6,37,38,51] mixed Tryz.func77 rfl (by kernel_rfl) (by kernel_rfl) (by kernel_rfl) (by kernel_rfl) ?_
    repeat (first|(simp -implicitDefEqProofs only [go_sem,Nat.reduceAdd,Nat.reduceMul,Nat.reduceEqDiff,Nat.reduceLT,Nat.reduceLeDiff,reduceCtorEq,Int.reduceEq,Qcr,w,e5',e6',e7',hm,e8',decide_false,decide_true,Bool.not_true,Bool.true_and,Bool.false_and])|((with_reducible refine Qab (h1) ?_ ?_ ?_);(with_reducible rfl);rfl)|((with_reducible refine Qab (h2) ?_ ?_ ?_);(with_reducible rfl);rfl)|((with_reducible refine Qab (h3) ?_ ?_ ?_);(with_reducible rfl);rfl)|((with_reducible refine Qab (h4) ?_ ?_ ?_);(with_reducible rfl);rfl)|((with_reducible refine Qab (h5) ?_ ?_ ?_);(with_reducible rfl);rfl)|((with_reducible refine Qab (h6) ?_ ?_ ?_);(with_reducible rfl);rfl))
  ·have e7':(0<m.r)=False:=eq_false e7
   rw [if_neg e7]
   refine Qac (tb:=[]) 72 [.tmp 6] [0,1,2,3,4,6,37,38,51] mixed Tryz.func77 rfl (by kernel_rfl) (by kernel_rfl) (by kernel_rfl) (by kernel_rfl) ?_
   repeat (first|(simp -implicitDefEqProofs only [go_sem,Nat.reduceAdd,Nat.reduceMul,Nat.reduceEqDiff,Nat.reduceLT,Nat.reduceLeDiff,reduceCtorEq,Qcr,w,e5',e6',e7',decide_false,Bool.not_true,Bool.true_and])|((with_reducible refine Qab (h1) ?_ ?_ ?_);(with_reducible rfl);rfl)|((with_reducible refine Qab (h2) ?_ ?_ ?_);(with_reducible rfl);rfl)|((with_reducible refine Qab (h3) ?_ ?_ ?_);(with_reducible rfl);rfl)|((with_reducible refine Qab (h4) ?_ ?_ ?_);(with_reducible rfl);rfl))
theorem Qqy (v:V3) (f t:Int):Qdl Tryz.prog 95 [v3PV v,.int .i64 f,.int .i64 t,.bp 1000000 1 0 0] [(1000000,{els:=[.nilS],esz:=1,ety:=60,fro:=0,live:=true,arr:=false})] (.tup [])
  [(1000000,{els:=[.bs 7 6 0 (Qbx v f t).length],esz:=1,ety:=60,fro:=0,live:=true,arr:=false}),(7,{els:=(Qbx v f t).map sgV,esz:=6,ety:=91,fro:=0,live:=true,arr:=true})]:=by
 have h:=Qqt v f t
 have hl:=Qbf v v f t 0
 have k1:((Qbx v f t).length*96≤140737488355328)=True:=eq_true (by unfold Qbx;omega)
 have k2:((Qbx v f t).length≤maxLen)=True:=eq_true (by unfold Qbx maxLen;omega)
 have k3:=Qqw (Qbx v f t)
 have e:flyL v v f t 0=Qbx v f t:=rfl
 rw [e]at h
 unfold pV v3PV at h
 unfold v3PV
 generalize Qbx v f t=S at*
 refine Qiq (tb:=[]) 19 [] [0,1,2,3,4,7] mixed Tryz.func95 rfl (by kernel_rfl) (by kernel_rfl) (by kernel_rfl) (by kernel_rfl) (by rfl) ?_
 repeat (first|(simp -implicitDefEqProofs only [go_sem,Nat.reduceAdd,Nat.reduceMul,Nat.reduceEqDiff,Nat.reduceLT,Nat.reduceLeDiff,reduceCtorEq,Qcr,k1,k2,k3,List.length_map])|((with_reducible refine Qab (h) ?_ ?_ ?_);(with_reducible rfl);rfl))
 refine Qge (.inr rfl) ?_
 simp -implicitDefEqProofs only [go_sem,Qcr]
 refine Qaq (θ:=[(1000000,1000000),(7,202)]) rfl ?_ ?_
 ·simp [Qad,lkp,ren1,ren0,Qae]
 ·exact⟨⟨rfl,rfl,rfl,rfl,rfl,.inr ⟨rfl,_,_,rfl,rfl,rfl,rfl⟩⟩,⟨rfl,rfl,rfl,rfl,rfl,.inl ⟨rfl,rfl⟩⟩,trivial⟩
theorem Q1t (v:V3) (f t:Int) (L:List Sg) (hL:L.length≤1000):Qdl Tryz.prog 95 [v3PV v,.int .i64 f,.int .i64 t,.bp 1000000 1 0 0] [(1000000,{els:=[.bs 1000001 6 0 L.length],esz:=1,ety:=60,fro:=0,live:=true,arr:=false}),(1000001,{els:=L.map sgV,esz:=6,ety:=91,fro:=0,live:=true,arr:=true})] (.tup [])
  [(1000000,{els:=[.bs 8 6 0 (L++Qbx v f t).length],esz:=1,ety:=60,fro:=0,live:=true,arr:=false}),(1000001,{els:=[],esz:=6,ety:=91,fro:=0,live:=false,arr:=true}),(8,{els:=(L++Qbx v f t).map sgV,esz:=6,ety:=91,fro:=0,live:=true,arr:=true})]:=by
 have h:=Qqt v f t
 have hl:=Qbf v v f t 0
 have k1:((L.length+(Qbx v f t).length)*96≤140737488355328)=True:=eq_true (by unfold Qbx;omega)
 have k2:(L.length+(Qbx v f t).length≤maxLen)=True:=eq_true (by unfold Qbx maxLen;omega)
 have k3:=Qqw (Qbx v f t)
 have k4:=Qk6 L
 have e:flyL v v f t 0=Qbx v f t:=rfl
 rw [e]at h
 unfold pV v3PV at h
 unfold v3PV
 rw [List.length_append,List.map_append]
 generalize Qbx v f t=S at*
 refine Qiq (tb:=[]) 19 [] [0,1,2,3,4,7] mixed Tryz.func95 rfl (by kernel_rfl) (by kernel_rfl) (by kernel_rfl) (by kernel_rfl) (by rfl) ?_
 repeat (first|(simp -implicitDefEqProofs only [go_sem,Nat.reduceAdd,Nat.reduceMul,Nat.reduceEqDiff,Nat.reduceLT,Nat.reduceLeDiff,reduceCtorEq,Qcr,k1,k2,k3,k4,List.length_map])|((with_reducible refine Qab (h) ?_ ?_ ?_);(with_reducible rfl);rfl))
 refine Qge (.inr rfl) ?_
 simp -implicitDefEqProofs only [go_sem,Qcr]
 refine Qaq (θ:=[(1000000,1000000),(1000001,1000001),(8,202)]) rfl ?_ ?_
 ·simp [Qad,lkp,ren1,ren0,Qae]
 ·exact⟨⟨rfl,rfl,rfl,rfl,rfl,.inr ⟨rfl,_,_,rfl,rfl,rfl,rfl⟩⟩,⟨rfl,rfl,rfl,rfl,rfl,.inl ⟨rfl,rfl⟩⟩,⟨rfl,rfl,rfl,rfl,rfl,.inl ⟨rfl,rfl⟩⟩,trivial⟩
theorem Qqz {v:V3} {m:Mv} {len:Int} (h:mvB v m len=true):ptB m.to=true∧tB m.w=true∧tB m.f=true∧tB m.r=true∧m.w+m.f≤len∧(m.f=0→m.to=v∧m.r=0)∧(m.f≠0→0<m.r→m.f%4=0∧hiB v m.r=true∧hiB m.to m.r=true):=by
 unfold mvB at h
 simp only [Bool.and_eq_true,decide_eq_true_eq]at h
 obtain⟨h1,h2,h3,h4,h5,h6⟩:=h
 refine⟨h1,h2,h3,h4,h5,fun e=> ?_,fun e e2=> ?_⟩
 ·rw [if_pos e]at h6;simpa using h6
 ·rw [if_neg e,if_pos e2]at h6;simpa using h6
set_option maxRecDepth 100000 in
set_option maxHeartbeats 4000000 in
theorem Q1u (v:V3) (m:Mv) (at_ len:Int) (hv:ptB v=true) (hm:mvB v m len=true) (h0:0≤at_) (h1:at_+len≤3600000):Qan Tryz.prog 78 [v3PV v,mvV m,.int .i64 at_,.int .i64 len] (pV (mvL v m at_ len)):=by
 obtain⟨p1,p2,p3,p4,p5,p6,p7⟩:=Qqz hm
 have t2:=Qdp.1 p2
 have t3:=Qdp.1 p3
 have t4:=Qdp.1 p4
 have w1:IntKind.i64.wrap (at_+m.w)=at_+m.w:=Qam (by omega) (by omega)
 have w2:IntKind.i64.wrap (at_+m.w+m.f)=at_+m.w+m.f:=Qam (by omega) (by omega)
 have w3:IntKind.i64.wrap (at_+len)=at_+len:=Qam (by omega) (by omega)
 have bl7:Nat.blt 7 1000000=true:=rfl
 have bl8:Nat.blt 8 1000000=true:=rfl
 have okl: ∀L:List Sg,(((L.map sgV).flatMap PV.cells).all PV.okCell)=true:=Qk6
 unfold pV mvL
 by_cases e0:m.f=0
 ·have e0':(m.f==0)=true:=by simp [e0]
  rw [if_pos e0]
  have s1:=Qqy v at_ (at_+len)
  have hl:=Qbf v v at_ (at_+len) 0
  have htk:((Qbx v at_ (at_+len)).map sgV).take (Qbx v at_ (at_+len)).length=(Qbx v at_ (at_+len)).map sgV:=List.take_of_length_le (by simp)
  have hlm:((Qbx v at_ (at_+len)).map sgV).length=(Qbx v at_ (at_+len)).length:=List.length_map _
  generalize Qbx v at_ (at_+len)=S at*
  unfold v3PV at s1 ⊢
  unfold mvV
  have hle:(S.length≤(S.map sgV).length)=True:=eq_true (by simp)

  refine Qac (tb:=[(506,[(1000000,2)],[(7,7)]),(704,[(1000000,2)],[(7,7)]),(1207,[(1000000,2),(1000001,1102)],[(8,8)])]) 74 [.cell 8 60] [0,1,2,3,4,5,8,9,10,11,12,25,50] mixed Tryz.func78 rfl (by kernel_rfl) (by kernel_rfl) (by kernel_rfl) (by kernel_rfl) ?_
  repeat (first|(simp -implicitDefEqProofs only [go_sem,Nat.reduceAdd,Nat.reduceMul,Nat.reduceEqDiff,Nat.reduceLT,Nat.reduceLeDiff,reduceIte,reduceCtorEq,Qcr,w1,w2,w3,e0',bl7,bl8,htk,hle])|((with_reducible refine Qcc (s1) ?_ ?_ ?_ ?_);(with_reducible rfl);rfl;rfl))
 ·have e0':(m.f==0)=false:=by simp [e0]
  rw [if_neg e0]
  have s1:=Qqy v at_ (at_+m.w)
  have g1:=Qxy v m.to (at_+m.w) (at_+m.w+m.f)
  have hl1:(Qbx v at_ (at_+m.w)).length≤1:=Qbf _ _ _ _ _
  have hl2:(midL v m (at_+m.w) (at_+m.w+m.f)).length≤3:=by
   unfold midL
   split
   ·simp [arc3]
   ·exact Nat.le_trans (Qbf _ _ _ _ _) (by decide)
  have s3:=Q1t m.to (at_+m.w+m.f) (at_+len) (Qbx v at_ (at_+m.w)++midL v m (at_+m.w) (at_+m.w+m.f)) (by rw [List.length_append];omega)
  have hl3:(Qbx m.to (at_+m.w+m.f) (at_+len)).length≤1:=Qbf _ _ _ _ _
  have hA:0<m.r→Qan Tryz.prog 98 [v3PV v,v3PV m.to,.int .i64 m.r,.int .i64 (at_+m.w),.int .i64 (at_+m.w+m.f)] (.tup [pV (midL v m (at_+m.w) (at_+m.w+m.f)),.int .i64 0]):=by
   intro hr
   obtain⟨q1,q2,q3⟩:=p7 e0 hr
   have e:midL v m (at_+m.w) (at_+m.w+m.f)=arc3 v m.to m.r (at_+m.w) (at_+m.w+m.f):=if_pos hr
   rw [e]
   refine Q3n v m.to m.r _ _ ?_ (by omega) t4 q2 q3
   unfold Qjw tmB
   rw [hv,p1]
   simp only [Bool.true_and,Bool.and_eq_true,decide_eq_true_eq]
   omega
  have hG: ¬0<m.r→flyL v m.to (at_+m.w) (at_+m.w+m.f) 2=midL v m (at_+m.w) (at_+m.w+m.f):=fun hr=>(if_neg hr).symm
  generalize flyL v m.to (at_+m.w) (at_+m.w+m.f) 2=G0 at*
  generalize flyE v m.to (at_+m.w) (at_+m.w+m.f)=E0 at*
  generalize Qbx v at_ (at_+m.w)=S at*
  generalize midL v m (at_+m.w) (at_+m.w+m.f)=M at*
  generalize Qbx m.to (at_+m.w+m.f) (at_+len)=Z at*
  simp only [List.length_append,List.map_append]at s3
  have k1:((S.length+M.length)*96≤140737488355328)=True:=eq_true (by omega)
  have k2:(S.length+M.length≤maxLen)=True:=eq_true (by unfold maxLen;omega)
  have k3:=Qqw M
  have k4:=Qk6 S
  have k5:(S.length+M.length+Z.length≤(S.map sgV++M.map sgV++Z.map sgV).length)=True:=eq_true (by simp;omega)
  have k6:(S.map sgV++M.map sgV++Z.map sgV).take (S.length+M.length+Z.length)=S.map sgV++M.map sgV++Z.map sgV:=List.take_of_length_le (by simp;omega)
  have k7:(S.map sgV).length=S.length:=List.length_map _
  have k8:(M.map sgV).length=M.length:=List.length_map _
  unfold pV at g1 hA
  unfold v3PV at s1 s3 g1 hA ⊢
  unfold mvV
  rw [List.map_append,List.map_append]
  by_cases hr:0<m.r
  ·have hr':(0<m.r)=True:=eq_true hr
   have a1:=hA hr
   generalize S.map sgV=SV at*
   generalize M.map sgV=MV at*
   generalize Z.map sgV=ZV at*

   refine Qac (tb:=[(506,[(1000000,2)],[(7,7)]),(704,[(1000000,2)],[(7,7)]),(1207,[(1000000,2),(1000001,1102)],[(8,8)])]) 74 [.cell 8 60] [0,1,2,3,4,5,8,9,10,11,12,25,50] mixed Tryz.func78 rfl (by kernel_rfl) (by kernel_rfl) (by kernel_rfl) (by kernel_rfl) ?_
   repeat (first|(simp -implicitDefEqProofs only [go_sem,Nat.reduceAdd,Nat.reduceMul,Nat.reduceEqDiff,Nat.reduceLT,Nat.reduceLeDiff,reduceIte,reduceCtorEq,Qcr,w1,w2,w3,e0',hr',bl7,bl8,k1,k2,k3,k4,k5,k6,k7,k8,List.length_map])|((with_reducible refine Qcc (s1) ?_ ?_ ?_ ?_);(with_reducible rfl);rfl;rfl)|((with_reducible refine Qab (g1) ?_ ?_ ?_);(with_reducible rfl);rfl)|((with_reducible refine Qab (a1) ?_ ?_ ?_);(with_reducible rfl);rfl)|((with_reducible refine Qcc (s3) ?_ ?_ ?_ ?_);(with_reducible rfl);rfl;rfl))
  ·have hr':(0<m.r)=False:=eq_false hr
   rw [hG hr]at g1
   generalize S.map sgV=SV at*
   generalize M.map sgV=MV at*
   generalize Z.map sgV=ZV at*

   refine Qac (tb:=[(506,[(1000000,2)],[(7,7)]),(704,[(1000000,2)],[(7,7)]),(1207,[(1000000,2),(1000001,1102)],[(8,8)])]) 74 [.cell 8 60] [0,1,2,3,4,5,8,9,10,11,12,25,50] mixed Tryz.func78 rfl (by kernel_rfl) (by kernel_rfl) (by kernel_rfl) (by kernel_rfl) ?_
   repeat (first|(simp -implicitDefEqProofs only [go_sem,Nat.reduceAdd,Nat.reduceMul,Nat.reduceEqDiff,Nat.reduceLT,Nat.reduceLeDiff,reduceIte,reduceCtorEq,Qcr,w1,w2,w3,e0',hr',bl7,bl8,k1,k2,k3,k4,k5,k6,k7,k8,List.length_map])|((with_reducible refine Qcc (s1) ?_ ?_ ?_ ?_);(with_reducible rfl);rfl;rfl)|((with_reducible refine Qab (g1) ?_ ?_ ?_);(with_reducible rfl);rfl)|((with_reducible refine Qcc (s3) ?_ ?_ ?_ ?_);(with_reducible rfl);rfl;rfl))
end Go.Proofs.YtjlkapdmgjocdaaGreat

namespace Go.Proofs.YtjlkapdmgjocdaaGreat
open Go.Vl Go.RowKit Go.Dg
set_option maxRecDepth 100000 in
set_option maxHeartbeats 4000000 in
theorem Qx3 (v:V3) (m:Mv) (at_ len:Int):Qan Tryz.prog 64 [v3PV v,mvV m,.int .i64 at_,.int .i64 len] (.tup [pV (mvP v m at_ len),.int .i64 (mvE v m at_ len)]):=by
 have h1:=Qc7 v
 have h2:=Qi9 len
 have h3:=Qi9 at_
 have bad: ¬(ptB v=true∧1≤len∧len≤3600000∧tB at_=true∧mvB v m len=true)→(.tup [pV (mvP v m at_ len),.int .i64 (mvE v m at_ len)]:PV)= .tup [.slc [],.int .i64 2]:=by
  intro hc
  have e:mvE v m at_ len=2:=if_neg hc
  unfold mvP
  rw [e];rfl
 have hE:mvE v m at_ len=if ptB v=true∧1≤len∧len≤3600000∧tB at_=true∧mvB v m len=true then(if at_+len≤3600000 then 0 else 3)else 2:=rfl
 cases e1:ptB v with
 |false=>
  rw [bad (by rw [e1];simp)]
  rw [e1]at h1
  unfold v3PV at h1 ⊢
  unfold mvV
  refine Qac (tb:=[]) 46 [.tmp 8,.tmp 9] [0,1,2,3,4,5,8,9,10,35] mixed Tryz.func64 rfl (by kernel_rfl) (by kernel_rfl) (by kernel_rfl) (by kernel_rfl) ?_
  repeat (first|(simp -implicitDefEqProofs only [go_sem,Nat.reduceAdd,Nat.reduceMul,Nat.reduceEqDiff,Nat.reduceLT,Nat.reduceLeDiff,reduceCtorEq,Bool.not_false])|((with_reducible refine Qab (h1) ?_ ?_ ?_);(with_reducible rfl);rfl))
 |true=>
 by_cases e2:1≤len
 case neg=>
  rw [bad (by omega)]
  rw [e1]at h1
  have e2':(len<1)=True:=eq_true (by omega)
  unfold v3PV at h1 ⊢
  unfold mvV
  refine Qac (tb:=[]) 46 [.tmp 8,.tmp 9] [0,1,2,3,4,5,8,9,10,35] mixed Tryz.func64 rfl (by kernel_rfl) (by kernel_rfl) (by kernel_rfl) (by kernel_rfl) ?_
  repeat (first|(simp -implicitDefEqProofs only [go_sem,Nat.reduceAdd,Nat.reduceMul,Nat.reduceEqDiff,Nat.reduceLT,Nat.reduceLeDiff,reduceCtorEq,Bool.not_true,e2',decide_true])|((with_reducible refine Qab (h1) ?_ ?_ ?_);(with_reducible rfl);rfl))
 have e2':(len<1)=False:=eq_false (by omega)
 cases e3:tB len with
 |false=>
  rw [bad (by intro h;have:tB len=true:=Qdp.2 (by omega);rw [e3]at this;cases this)]
  rw [e1]at h1
  rw [e3]at h2
  unfold v3PV at h1 ⊢
  unfold mvV
  refine Qac (tb:=[]) 46 [.tmp 8,.tmp 9] [0,1,2,3,4,5,8,9,10,35] mixed Tryz.func64 rfl (by kernel_rfl) (by kernel_rfl) (by kernel_rfl) (by kernel_rfl) ?_
  repeat (first|(simp -implicitDefEqProofs only [go_sem,Nat.reduceAdd,Nat.reduceMul,Nat.reduceEqDiff,Nat.reduceLT,Nat.reduceLeDiff,reduceCtorEq,Bool.not_true,Bool.not_false,e2',decide_false])|((with_reducible refine Qab (h1) ?_ ?_ ?_);(with_reducible rfl);rfl)|((with_reducible refine Qab (h2) ?_ ?_ ?_);(with_reducible rfl);rfl))
 |true=>
 have t3:=Qdp.1 e3
 cases e4:tB at_ with
 |false=>
  rw [bad (by rw [e4];simp)]
  rw [e1]at h1
  rw [e3]at h2
  rw [e4]at h3
  unfold v3PV at h1 ⊢
  unfold mvV
  refine Qac (tb:=[]) 46 [.tmp 8,.tmp 9] [0,1,2,3,4,5,8,9,10,35] mixed Tryz.func64 rfl (by kernel_rfl) (by kernel_rfl) (by kernel_rfl) (by kernel_rfl) ?_
  repeat (first|(simp -implicitDefEqProofs only [go_sem,Nat.reduceAdd,Nat.reduceMul,Nat.reduceEqDiff,Nat.reduceLT,Nat.reduceLeDiff,reduceCtorEq,Bool.not_true,Bool.not_false,e2',decide_false])|((with_reducible refine Qab (h1) ?_ ?_ ?_);(with_reducible rfl);rfl)|((with_reducible refine Qab (h2) ?_ ?_ ?_);(with_reducible rfl);rfl)|((with_reducible refine Qab (h3) ?_ ?_ ?_);(with_reducible rfl);rfl))
 |true=>
 have t4:=Qdp.1 e4
 have h4:=Qtt v m len e1
 cases e5:mvB v m len with
 |false=>
  rw [bad (by rw [e5];simp)]
  rw [e1]at h1
  rw [e3]at h2
  rw [e4]at h3
  rw [e5]at h4
  unfold v3PV at h1 h4 ⊢
  unfold mvV at h4 ⊢
  refine Qac (tb:=[]) 46 [.tmp 8,.tmp 9] [0,1,2,3,4,5,8,9,10,35] mixed Tryz.func64 rfl (by kernel_rfl) (by kernel_rfl) (by kernel_rfl) (by kernel_rfl) ?_
  repeat (first|(simp -implicitDefEqProofs only [go_sem,Nat.reduceAdd,Nat.reduceMul,Nat.reduceEqDiff,Nat.reduceLT,Nat.reduceLeDiff,reduceCtorEq,Bool.not_true,Bool.not_false,e2',decide_false])|((with_reducible refine Qab (h1) ?_ ?_ ?_);(with_reducible rfl);rfl)|((with_reducible refine Qab (h2) ?_ ?_ ?_);(with_reducible rfl);rfl)|((with_reducible refine Qab (h3) ?_ ?_ ?_);(with_reducible rfl);rfl)|((with_reducible refine Qab (h4) ?_ ?_ ?_);(with_reducible rfl);rfl))
 |true=>
 have hE2:mvE v m at_ len=if at_+len≤3600000 then 0 else 3:=by rw [hE,if_pos ⟨e1,e2,t3.2,e4,e5⟩]
 have h5:=Qi9 (at_+len)
 have w:IntKind.i64.wrap (at_+len)=at_+len:=Qam (by omega) (by omega)
 by_cases e6:at_+len≤3600000
 ·rw [if_pos e6]at hE2
  have h6:=Q1u v m at_ len e1 e5 t4.1 e6
  have hP:mvP v m at_ len=mvL v m at_ len:=if_pos hE2
  rw [hP,hE2]
  have e7:tB (at_+len)=true:=Qdp.2 (by omega)
  rw [e1]at h1
  rw [e3]at h2
  rw [e4]at h3
  rw [e5]at h4
  rw [e7]at h5
  generalize mvL v m at_ len=S at*
  unfold pV at h6 ⊢
  unfold v3PV at h1 h4 h6 ⊢
  unfold mvV at h4 h6 ⊢
  refine Qac (tb:=[]) 46 [.tmp 8,.tmp 9] [0,1,2,3,4,5,8,9,10,35] mixed Tryz.func64 rfl (by kernel_rfl) (by kernel_rfl) (by kernel_rfl) (by kernel_rfl) ?_
  repeat (first|(simp -implicitDefEqProofs only [go_sem,Nat.reduceAdd,Nat.reduceMul,Nat.reduceEqDiff,Nat.reduceLT,Nat.reduceLeDiff,reduceCtorEq,Bool.not_true,e2',w,decide_false])|((with_reducible refine Qab (h1) ?_ ?_ ?_);(with_reducible rfl);rfl)|((with_reducible refine Qab (h2) ?_ ?_ ?_);(with_reducible rfl);rfl)|((with_reducible refine Qab (h3) ?_ ?_ ?_);(with_reducible rfl);rfl)|((with_reducible refine Qab (h4) ?_ ?_ ?_);(with_reducible rfl);rfl)|((with_reducible refine Qab (h5) ?_ ?_ ?_);(with_reducible rfl);rfl)|((with_reducible refine Qab (h6) ?_ ?_ ?_);(with_reducible rfl);rfl))
 ·rw [if_neg e6]at hE2
  have hP:mvP v m at_ len=[]:=if_neg (by rw [hE2];decide)
  rw [hP,hE2]
  have e7:tB (at_+len)=false:=by
   cases h:tB (at_+len)with
   |false=>rfl
   |true=>have:=Qdp.1 h;omega
  rw [e1]at h1
  rw [e3]at h2
  rw [e4]at h3
  rw [e5]at h4
  rw [e7]at h5
  unfold pV
  unfold v3PV at h1 h4 ⊢
  unfold mvV at h4 ⊢
  refine Qac (tb:=[]) 46 [.tmp 8,.tmp 9] [0,1,2,3,4,5,8,9,10,35] mixed Tryz.func64 rfl (by kernel_rfl) (by kernel_rfl) (by kernel_rfl) (by kernel_rfl) ?_
  repeat (first|(simp -implicitDefEqProofs only [go_sem,Nat.reduceAdd,Nat.reduceMul,Nat.reduceEqDiff,Nat.reduceLT,Nat.reduceLeDiff,reduceCtorEq,Bool.not_true,Bool.not_false,e2',w,decide_false,List.map_nil])|((with_reducible refine Qab (h1) ?_ ?_ ?_);(with_reducible rfl);rfl)|((with_reducible refine Qab (h2) ?_ ?_ ?_);(with_reducible rfl);rfl)|((with_reducible refine Qab (h3) ?_ ?_ ?_);(with_reducible rfl);rfl)|((with_reducible refine Qab (h4) ?_ ?_ ?_);(with_reducible rfl);rfl)|((with_reducible refine Qab (h5) ?_ ?_ ?_);(with_reducible rfl);rfl))
theorem Qx4 {s:ByteArray} {i:Nat} (h:i<s.size):s[i]? =some (UInt8.ofNat (bAt s i))∧bAt s i<256:=by
 have hl:i<s.data.toList.length:=by simpa using h
 have e:bAt s i=(s.data.toList[i]'hl).toNat:=by unfold bAt;rw [List.getD_eq_getElem?_getD,List.getElem?_eq_getElem hl];rfl
 refine⟨?_,by rw [e];exact UInt8.toNat_lt _⟩
 rw [e,UInt8.ofNat_toNat]
 rw [getElem?_pos s i h]
 congr 1
theorem Qtu {n:Nat} (h:n<256):(UInt8.ofNat n).toNat=n:=by simp [UInt8.toNat_ofNat];omega
set_option maxRecDepth 100000 in
set_option maxHeartbeats 4000000 in
theorem Qxf (s:ByteArray) (hs:s.size≤9223372036854775806):Qan Tryz.prog 38 [.str s] (.bool (Qmf s)):=by
 have fin:Qmf s=(Qe1 s s.size&&(decide (1≤s.size)&&decide (s.size≤32))):=rfl
 refine Qac (tb:=[]) 56 [.tmp 2] [0,2,3,4,6,7,8,13,28] mixed Tryz.func38 rfl (by kernel_rfl) (by kernel_rfl) (by kernel_rfl) (by kernel_rfl) ?_
 repeat (first|(simp -implicitDefEqProofs only [go_sem,Nat.reduceAdd,Nat.reduceMul,Nat.reduceEqDiff,Nat.reduceLT,Nat.reduceLeDiff,reduceCtorEq]))
 refine Qb5 mixed (fun k:{k:Nat // k≤s.size∧Qe1 s k=true}=>St.of [(0,.str s),(2,.bool false),(6,.int .i64 (s.size:Int)),(7,.int .i64 (k.1:Int))] []) (fun k=>s.size-k.1) ⟨0,Nat.zero_le _,rfl⟩ ?_ ?_
 ·exact Qce (by simp [Qad,lkp,ren1,ren0,Qae])
 ·rintro⟨k,hk,hall⟩
  simp only
  by_cases hA:k<s.size
  ·have hA':=lt_T hA
   have n0:=nn_T k
   obtain⟨hg,hc⟩:=Qx4 hA
   have hu:=Qtu hc
   have hwk:=wr_1 (n:=k) (by omega)
   have hnx:=Qhk s k
   rw [hall,Bool.true_and]at hnx
   have hno:chB k (bAt s k)=false→Qmf s=false:=fun h=>by
    rw [fin,Qqi (by rw [hnx];exact h:Qe1 s (k+1)=false) hA];rfl
   generalize bAt s k=c at*
   have hcl:(0≤c∧c≤44)∨(c=45)∨(46≤c∧c≤47)∨(48≤c∧c≤57)∨(58≤c∧c≤64)∨(65≤c∧c≤90)∨(91≤c∧c≤94)∨(c=95)∨(c=96)∨(97≤c∧c≤122)∨(123≤c∧c≤255):=by omega
   rcases hcl with h|h|h|h|h|h|h|h|h|h|h
   ·have a1:(97≤(c:Int))=False:=eq_false (by omega)
    have a2:((c:Int)≤122)=True:=eq_true (by omega)
    have a3:(65≤(c:Int))=False:=eq_false (by omega)
    have a4:((c:Int)≤90)=True:=eq_true (by omega)
    have a5:(48≤(c:Int))=False:=eq_false (by omega)
    have a6:((c:Int)≤57)=True:=eq_true (by omega)
    have a7:((c:Int)==45)=false:=by simp;omega
    have a8:((c:Int)==95)=false:=by simp;omega
    by_cases h0:0<k
    ·have z:((0:Int)<(k:Int))=True:=eq_true (by omega)
     rw [hno (by simp [chB];omega)]
     repeat (first|(simp -implicitDefEqProofs only [go_sem,Nat.reduceAdd,Nat.reduceMul,Nat.reduceEqDiff,Nat.reduceLT,Nat.reduceLeDiff,reduceCtorEq,hA',n0,hg,hu,hwk,Int.toNat_natCast,a1,a2,a3,a4,a5,a6,a7,a8,z,decide_true,decide_false]))
    ·have z:((0:Int)<(k:Int))=False:=eq_false (by omega)
     rw [hno (by simp [chB];omega)]
     repeat (first|(simp -implicitDefEqProofs only [go_sem,Nat.reduceAdd,Nat.reduceMul,Nat.reduceEqDiff,Nat.reduceLT,Nat.reduceLeDiff,reduceCtorEq,hA',n0,hg,hu,hwk,Int.toNat_natCast,a1,a2,a3,a4,a5,a6,a7,a8,z,decide_true,decide_false]))
   ·have a1:(97≤(c:Int))=False:=eq_false (by omega)
    have a2:((c:Int)≤122)=True:=eq_true (by omega)
    have a3:(65≤(c:Int))=False:=eq_false (by omega)
    have a4:((c:Int)≤90)=True:=eq_true (by omega)
    have a5:(48≤(c:Int))=False:=eq_false (by omega)
    have a6:((c:Int)≤57)=True:=eq_true (by omega)
    have a7:((c:Int)==45)=true:=by simp;omega
    have a8:((c:Int)==95)=false:=by simp;omega
    by_cases h0:0<k
    ·have z:((0:Int)<(k:Int))=True:=eq_true (by omega)
     repeat (first|(simp -implicitDefEqProofs only [go_sem,Nat.reduceAdd,Nat.reduceMul,Nat.reduceEqDiff,Nat.reduceLT,Nat.reduceLeDiff,reduceCtorEq,hA',n0,hg,hu,hwk,Int.toNat_natCast,a1,a2,a3,a4,a5,a6,a7,a8,z,decide_true,decide_false]))
     refine⟨⟨k+1,hA,?_⟩,by simp only;omega,?_⟩
     ·rw [hnx];simp [chB];omega
     ·exact Qce (by simp [Qad,lkp,ren1,ren0,Qae])
    ·have z:((0:Int)<(k:Int))=False:=eq_false (by omega)
     rw [hno (by simp [chB];omega)]
     repeat (first|(simp -implicitDefEqProofs only [go_sem,Nat.reduceAdd,Nat.reduceMul,Nat.reduceEqDiff,Nat.reduceLT,Nat.reduceLeDiff,reduceCtorEq,hA',n0,hg,hu,hwk,Int.toNat_natCast,a1,a2,a3,a4,a5,a6,a7,a8,z,decide_true,decide_false]))
   ·have a1:(97≤(c:Int))=False:=eq_false (by omega)
    have a2:((c:Int)≤122)=True:=eq_true (by omega)
    have a3:(65≤(c:Int))=False:=eq_false (by omega)
    have a4:((c:Int)≤90)=True:=eq_true (by omega)
    have a5:(48≤(c:Int))=False:=eq_false (by omega)
    have a6:((c:Int)≤57)=True:=eq_true (by omega)
    have a7:((c:Int)==45)=false:=by simp;omega
    have a8:((c:Int)==95)=false:=by simp;omega
    by_cases h0:0<k
    ·have z:((0:Int)<(k:Int))=True:=eq_true (by omega)
     rw [hno (by simp [chB];omega)]
     repeat (first|(simp -implicitDefEqProofs only [go_sem,Nat.reduceAdd,Nat.reduceMul,Nat.reduceEqDiff,Nat.reduceLT,Nat.reduceLeDiff,reduceCtorEq,hA',n0,hg,hu,hwk,Int.toNat_natCast,a1,a2,a3,a4,a5,a6,a7,a8,z,decide_true,decide_false]))
    ·have z:((0:Int)<(k:Int))=False:=eq_false (by omega)
     rw [hno (by simp [chB];omega)]
     repeat (first|(simp -implicitDefEqProofs only [go_sem,Nat.reduceAdd,Nat.reduceMul,Nat.reduceEqDiff,Nat.reduceLT,Nat.reduceLeDiff,reduceCtorEq,hA',n0,hg,hu,hwk,Int.toNat_natCast,a1,a2,a3,a4,a5,a6,a7,a8,z,decide_true,decide_false]))
   ·have a1:(97≤(c:Int))=False:=eq_false (by omega)
    have a2:((c:Int)≤122)=True:=eq_true (by omega)
    have a3:(65≤(c:Int))=False:=eq_false (by omega)
    have a4:((c:Int)≤90)=True:=eq_true (by omega)
    have a5:(48≤(c:Int))=True:=eq_true (by omega)
    have a6:((c:Int)≤57)=True:=eq_true (by omega)
    have a7:((c:Int)==45)=false:=by simp;omega
    have a8:((c:Int)==95)=false:=by simp;omega
    by_cases h0:0<k
    ·have z:((0:Int)<(k:Int))=True:=eq_true (by omega)
     repeat (first|(simp -implicitDefEqProofs only [go_sem,Nat.reduceAdd,Nat.reduceMul,Nat.reduceEqDiff,Nat.reduceLT,Nat.reduceLeDiff,reduceCtorEq,hA',n0,hg,hu,hwk,Int.toNat_natCast,a1,a2,a3,a4,a5,a6,a7,a8,z,decide_true,decide_false]))
     refine⟨⟨k+1,hA,?_⟩,by simp only;omega,?_⟩
     ·rw [hnx];simp [chB];omega
     ·exact Qce (by simp [Qad,lkp,ren1,ren0,Qae])
    ·have z:((0:Int)<(k:Int))=False:=eq_false (by omega)
     rw [hno (by simp [chB];omega)]
     repeat (first|(simp -implicitDefEqProofs only [go_sem,Nat.reduceAdd,Nat.reduceMul,Nat.reduceEqDiff,Nat.reduceLT,Nat.reduceLeDiff,reduceCtorEq,hA',n0,hg,hu,hwk,Int.toNat_natCast,a1,a2,a3,a4,a5,a6,a7,a8,z,decide_true,decide_false]))
   ·have a1:(97≤(c:Int))=False:=eq_false (by omega)
    have a2:((c:Int)≤122)=True:=eq_true (by omega)
    have a3:(65≤(c:Int))=False:=eq_false (by omega)
    have a4:((c:Int)≤90)=True:=eq_true (by omega)
    have a5:(48≤(c:Int))=True:=eq_true (by omega)
    have a6:((c:Int)≤57)=False:=eq_false (by omega)
    have a7:((c:Int)==45)=false:=by simp;omega
    have a8:((c:Int)==95)=false:=by simp;omega
    by_cases h0:0<k
    ·have z:((0:Int)<(k:Int))=True:=eq_true (by omega)
     rw [hno (by simp [chB];omega)]
     repeat (first|(simp -implicitDefEqProofs only [go_sem,Nat.reduceAdd,Nat.reduceMul,Nat.reduceEqDiff,Nat.reduceLT,Nat.reduceLeDiff,reduceCtorEq,hA',n0,hg,hu,hwk,Int.toNat_natCast,a1,a2,a3,a4,a5,a6,a7,a8,z,decide_true,decide_false]))
    ·have z:((0:Int)<(k:Int))=False:=eq_false (by omega)
     rw [hno (by simp [chB];omega)]
     repeat (first|(simp -implicitDefEqProofs only [go_sem,Nat.reduceAdd,Nat.reduceMul,Nat.reduceEqDiff,Nat.reduceLT,Nat.reduceLeDiff,reduceCtorEq,hA',n0,hg,hu,hwk,Int.toNat_natCast,a1,a2,a3,a4,a5,a6,a7,a8,z,decide_true,decide_false]))
   ·have a1:(97≤(c:Int))=False:=eq_false (by omega)
    have a2:((c:Int)≤122)=True:=eq_true (by omega)
    have a3:(65≤(c:Int))=True:=eq_true (by omega)
    have a4:((c:Int)≤90)=True:=eq_true (by omega)
    have a5:(48≤(c:Int))=True:=eq_true (by omega)
    have a6:((c:Int)≤57)=False:=eq_false (by omega)
    have a7:((c:Int)==45)=false:=by simp;omega
    have a8:((c:Int)==95)=false:=by simp;omega
    repeat (first|(simp -implicitDefEqProofs only [go_sem,Nat.reduceAdd,Nat.reduceMul,Nat.reduceEqDiff,Nat.reduceLT,Nat.reduceLeDiff,reduceCtorEq,hA',n0,hg,hu,hwk,Int.toNat_natCast,a1,a2,a3,a4,a5,a6,a7,a8,decide_true,decide_false]))
    refine⟨⟨k+1,hA,?_⟩,by simp only;omega,?_⟩
    ·rw [hnx];simp [chB];omega
    ·exact Qce (by simp [Qad,lkp,ren1,ren0,Qae])
   ·have a1:(97≤(c:Int))=False:=eq_false (by omega)
    have a2:((c:Int)≤122)=True:=eq_true (by omega)
    have a3:(65≤(c:Int))=True:=eq_true (by omega)
    have a4:((c:Int)≤90)=False:=eq_false (by omega)
    have a5:(48≤(c:Int))=True:=eq_true (by omega)
    have a6:((c:Int)≤57)=False:=eq_false (by omega)
    have a7:((c:Int)==45)=false:=by simp;omega
    have a8:((c:Int)==95)=false:=by simp;omega
    by_cases h0:0<k
    ·have z:((0:Int)<(k:Int))=True:=eq_true (by omega)
     rw [hno (by simp [chB];omega)]
     repeat (first|(simp -implicitDefEqProofs only [go_sem,Nat.reduceAdd,Nat.reduceMul,Nat.reduceEqDiff,Nat.reduceLT,Nat.reduceLeDiff,reduceCtorEq,hA',n0,hg,hu,hwk,Int.toNat_natCast,a1,a2,a3,a4,a5,a6,a7,a8,z,decide_true,decide_false]))
    ·have z:((0:Int)<(k:Int))=False:=eq_false (by omega)
     rw [hno (by simp [chB];omega)]
     repeat (first|(simp -implicitDefEqProofs only [go_sem,Nat.reduceAdd,Nat.reduceMul,Nat.reduceEqDiff,Nat.reduceLT,Nat.reduceLeDiff,reduceCtorEq,hA',n0,hg,hu,hwk,Int.toNat_natCast,a1,a2,a3,a4,a5,a6,a7,a8,z,decide_true,decide_false]))
   ·have a1:(97≤(c:Int))=False:=eq_false (by omega)
    have a2:((c:Int)≤122)=True:=eq_true (by omega)
    have a3:(65≤(c:Int))=True:=eq_true (by omega)
    have a4:((c:Int)≤90)=False:=eq_false (by omega)
    have a5:(48≤(c:Int))=True:=eq_true (by omega)
    have a6:((c:Int)≤57)=False:=eq_false (by omega)
    have a7:((c:Int)==45)=false:=by simp;omega
    have a8:((c:Int)==95)=true:=by simp;omega
    by_cases h0:0<k
    ·have z:((0:Int)<(k:Int))=True:=eq_true (by omega)
     repeat (first|(simp -implicitDefEqProofs only [go_sem,Nat.reduceAdd,Nat.reduceMul,Nat.reduceEqDiff,Nat.reduceLT,Nat.reduceLeDiff,reduceCtorEq,hA',n0,hg,hu,hwk,Int.toNat_natCast,a1,a2,a3,a4,a5,a6,a7,a8,z,decide_true,decide_false]))
     refine⟨⟨k+1,hA,?_⟩,by simp only;omega,?_⟩
     ·rw [hnx];simp [chB];omega
     ·exact Qce (by simp [Qad,lkp,ren1,ren0,Qae])
    ·have z:((0:Int)<(k:Int))=False:=eq_false (by omega)
     rw [hno (by simp [chB];omega)]
     repeat (first|(simp -implicitDefEqProofs only [go_sem,Nat.reduceAdd,Nat.reduceMul,Nat.reduceEqDiff,Nat.reduceLT,Nat.reduceLeDiff,reduceCtorEq,hA',n0,hg,hu,hwk,Int.toNat_natCast,a1,a2,a3,a4,a5,a6,a7,a8,z,decide_true,decide_false]))
   ·have a1:(97≤(c:Int))=False:=eq_false (by omega)
    have a2:((c:Int)≤122)=True:=eq_true (by omega)
    have a3:(65≤(c:Int))=True:=eq_true (by omega)
    have a4:((c:Int)≤90)=False:=eq_false (by omega)
    have a5:(48≤(c:Int))=True:=eq_true (by omega)
    have a6:((c:Int)≤57)=False:=eq_false (by omega)
    have a7:((c:Int)==45)=false:=by simp;omega
    have a8:((c:Int)==95)=false:=by simp;omega
    by_cases h0:0<k
    ·have z:((0:Int)<(k:Int))=True:=eq_true (by omega)
     rw [hno (by simp [chB];omega)]
     repeat (first|(simp -implicitDefEqProofs only [go_sem,Nat.reduceAdd,Nat.reduceMul,Nat.reduceEqDiff,Nat.reduceLT,Nat.reduceLeDiff,reduceCtorEq,hA',n0,hg,hu,hwk,Int.toNat_natCast,a1,a2,a3,a4,a5,a6,a7,a8,z,decide_true,decide_false]))
    ·have z:((0:Int)<(k:Int))=False:=eq_false (by omega)
     rw [hno (by simp [chB];omega)]
     repeat (first|(simp -implicitDefEqProofs only [go_sem,Nat.reduceAdd,Nat.reduceMul,Nat.reduceEqDiff,Nat.reduceLT,Nat.reduceLeDiff,reduceCtorEq,hA',n0,hg,hu,hwk,Int.toNat_natCast,a1,a2,a3,a4,a5,a6,a7,a8,z,decide_true,decide_false]))
   ·have a1:(97≤(c:Int))=True:=eq_true (by omega)
    have a2:((c:Int)≤122)=True:=eq_true (by omega)
    have a3:(65≤(c:Int))=True:=eq_true (by omega)
    have a4:((c:Int)≤90)=False:=eq_false (by omega)
    have a5:(48≤(c:Int))=True:=eq_true (by omega)
    have a6:((c:Int)≤57)=False:=eq_false (by omega)
    have a7:((c:Int)==45)=false:=by simp;omega
    have a8:((c:Int)==95)=false:=by simp;omega
    repeat (first|(simp -implicitDefEqProofs only [go_sem,Nat.reduceAdd,Nat.reduceMul,Nat.reduceEqDiff,Nat.reduceLT,Nat.reduceLeDiff,reduceCtorEq,hA',n0,hg,hu,hwk,Int.toNat_natCast,a1,a2,a3,a4,a5,a6,a7,a8,decide_true,decide_false]))
    refine⟨⟨k+1,hA,?_⟩,by simp only;omega,?_⟩
    ·rw [hnx];simp [chB];omega
    ·exact Qce (by simp [Qad,lkp,ren1,ren0,Qae])
   ·have a1:(97≤(c:Int))=True:=eq_true (by omega)
    have a2:((c:Int)≤122)=False:=eq_false (by omega)
    have a3:(65≤(c:Int))=True:=eq_true (by omega)
    have a4:((c:Int)≤90)=False:=eq_false (by omega)
    have a5:(48≤(c:Int))=True:=eq_true (by omega)
    have a6:((c:Int)≤57)=False:=eq_false (by omega)
    have a7:((c:Int)==45)=false:=by simp;omega
    have a8:((c:Int)==95)=false:=by simp;omega
    by_cases h0:0<k
    ·have z:((0:Int)<(k:Int))=True:=eq_true (by omega)
     rw [hno (by simp [chB];omega)]
     repeat (first|(simp -implicitDefEqProofs only [go_sem,Nat.reduceAdd,Nat.reduceMul,Nat.reduceEqDiff,Nat.reduceLT,Nat.reduceLeDiff,reduceCtorEq,hA',n0,hg,hu,hwk,Int.toNat_natCast,a1,a2,a3,a4,a5,a6,a7,a8,z,decide_true,decide_false]))
    ·have z:((0:Int)<(k:Int))=False:=eq_false (by omega)
     rw [hno (by simp [chB];omega)]
     repeat (first|(simp -implicitDefEqProofs only [go_sem,Nat.reduceAdd,Nat.reduceMul,Nat.reduceEqDiff,Nat.reduceLT,Nat.reduceLeDiff,reduceCtorEq,hA',n0,hg,hu,hwk,Int.toNat_natCast,a1,a2,a3,a4,a5,a6,a7,a8,z,decide_true,decide_false]))
  ·have hA':=lt_F hA
   obtain rfl:k=s.size:=by omega
   rw [fin,hall,Bool.true_and]
   by_cases h1:1≤s.size
   ·have h1':((1:Int)≤(s.size:Int))=True:=eq_true (by omega)
    by_cases h2:s.size≤32
    ·have h2':((s.size:Int)≤32)=True:=eq_true (by omega)
     rw [decide_eq_true h1,decide_eq_true h2]
     repeat (first|(simp -implicitDefEqProofs only [go_sem,Nat.reduceAdd,Nat.reduceMul,Nat.reduceEqDiff,Nat.reduceLT,Nat.reduceLeDiff,reduceCtorEq,hA',h1',h2',decide_true,Bool.and_self]))
    ·have h2':((s.size:Int)≤32)=False:=eq_false (by omega)
     rw [decide_eq_true h1,decide_eq_false h2]
     repeat (first|(simp -implicitDefEqProofs only [go_sem,Nat.reduceAdd,Nat.reduceMul,Nat.reduceEqDiff,Nat.reduceLT,Nat.reduceLeDiff,reduceCtorEq,hA',h1',h2',decide_true,decide_false,Bool.and_false]))
   ·have h1':((1:Int)≤(s.size:Int))=False:=eq_false (by omega)
    rw [decide_eq_false h1]
    repeat (first|(simp -implicitDefEqProofs only [go_sem,Nat.reduceAdd,Nat.reduceMul,Nat.reduceEqDiff,Nat.reduceLT,Nat.reduceLeDiff,reduceCtorEq,hA',h1',decide_false,Bool.false_and]))
end Go.Proofs.YtjlkapdmgjocdaaGreat

namespace Go.Proofs.YtjlkapdmgjocdaaGreat
open Go.Vl Go.RowKit Go.Dg
def acV (a:Ac):PV:= .agg [.str a.nm,.int .i64 a.ln,.slc (a.mv.map mvV)]
def pgV (p:Pg):PV:= .agg [.slc (p.ns.map PV.str),.slc (p.hs.map v3PV),.slc (p.as_.map acV)]
theorem T_n1:Qj5 Tryz.prog 115=some (9,4):=by kernel_rfl
theorem T_n2:Qpg Tryz.prog 9=some [2]:=by kernel_rfl
theorem T_n3:Qa3 Tryz.prog 9=false:=by kernel_rfl
theorem T_n4:Qaw Tryz.prog 4=some (.bool false):=by kernel_rfl
theorem T_p1:Qj5 Tryz.prog 116=some (54,4):=by kernel_rfl
theorem T_p2:Qpg Tryz.prog 54=some [1,1,1]:=by kernel_rfl
theorem T_p3:Qa3 Tryz.prog 54=true:=by kernel_rfl
theorem Qxg {p:Pg} {i:Nat} (h:i<p.ns.length):(p.ns.map PV.str)[i]? =some (.str (nmAt p i)):=by
 unfold nmAt;rw [List.getElem?_map,List.getElem?_eq_getElem h,List.getD_eq_getElem?_getD,List.getElem?_eq_getElem h];rfl
theorem Q1v {p:Pg} {i:Nat} (h:i<p.hs.length):(p.hs.map v3PV)[i]? =some (.agg [.int .i64 (hmAt p i).x,.int .i64 (hmAt p i).y,.int .i64 (hmAt p i).z]):=Qk5 p.hs i h
theorem Qx5 {p:Pg} {i:Nat} (h:i<p.ns.length):p.ns.take (i+1)=p.ns.take i++[nmAt p i]:=by
 rw [Qeq _ _ h];unfold nmAt;rw [List.getD_eq_getElem?_getD,List.getElem?_eq_getElem h];rfl
theorem Qx6 {p:Pg} {i:Nat} (h:i<p.hs.length):p.hs.take (i+1)=p.hs.take i++[hmAt p i]:=by
 rw [Qeq _ _ h];unfold hmAt;rw [List.getD_eq_getElem?_getD,List.getElem?_eq_getElem h];rfl
def okPg (p:Pg):Prop:= ∀i,(nmAt p i).size≤9223372036854775806
set_option maxRecDepth 100000 in
set_option maxHeartbeats 4000000 in
theorem Q1w (p:Pg) (hp:okPg p) (hn:p.ns.length≤maxLen):Qan Tryz.prog 37 [pgV p] (.bool (Qk1 p)):=by
 have hm:p.ns.length≤9223372036854775807:=by unfold maxLen at hn;exact hn
 unfold Qk1
 by_cases e1:1≤p.ns.length
 case neg=>
  have e1':((p.ns.length:Int)<1)=True:=eq_true (by omega)
  rw [decide_eq_false e1]
  refine Qac (tb:=[]) 71 [.tmp 2] [0,1,2,3,4,5,6,7,23,27,28,29,30,59] mixed Tryz.func37 rfl (by kernel_rfl) (by kernel_rfl) (by kernel_rfl) (by kernel_rfl) ?_
  repeat (first|(simp -implicitDefEqProofs only [go_sem,Nat.reduceAdd,Nat.reduceMul,Nat.reduceEqDiff,Nat.reduceLT,Nat.reduceLeDiff,reduceCtorEq,T_n1,T_n2,T_n3,T_n4,T_p1,T_p2,T_p3,pgV,e1',decide_true,List.length_map,Bool.false_and]))
 have e1':((p.ns.length:Int)<1)=False:=eq_false (by omega)
 by_cases e2:p.ns.length≤64
 case neg=>
  have e2':((64:Int)<(p.ns.length:Int))=True:=eq_true (by omega)
  rw [decide_eq_false e2]
  refine Qac (tb:=[]) 71 [.tmp 2] [0,1,2,3,4,5,6,7,23,27,28,29,30,59] mixed Tryz.func37 rfl (by kernel_rfl) (by kernel_rfl) (by kernel_rfl) (by kernel_rfl) ?_
  repeat (first|(simp -implicitDefEqProofs only [go_sem,Nat.reduceAdd,Nat.reduceMul,Nat.reduceEqDiff,Nat.reduceLT,Nat.reduceLeDiff,reduceCtorEq,T_n1,T_n2,T_n3,T_n4,T_p1,T_p2,T_p3,pgV,e1',e2',decide_true,decide_false,List.length_map,Bool.false_and,Bool.and_false]))
 have e2':((64:Int)<(p.ns.length:Int))=False:=eq_false (by omega)
 by_cases e3:p.hs.length=p.ns.length
 case neg=>
  have e3':((p.hs.length:Int) != (p.ns.length:Int))=true:=by simp;omega
  rw [decide_eq_false e3]
  refine Qac (tb:=[]) 71 [.tmp 2] [0,1,2,3,4,5,6,7,23,27,28,29,30,59] mixed Tryz.func37 rfl (by kernel_rfl) (by kernel_rfl) (by kernel_rfl) (by kernel_rfl) ?_
  repeat (first|(simp -implicitDefEqProofs only [go_sem,Nat.reduceAdd,Nat.reduceMul,Nat.reduceEqDiff,Nat.reduceLT,Nat.reduceLeDiff,reduceCtorEq,T_n1,T_n2,T_n3,T_n4,T_p1,T_p2,T_p3,pgV,e1',e2',e3',decide_true,decide_false,List.length_map,Bool.false_and,Bool.and_false]))
 have e3':((p.hs.length:Int) != (p.ns.length:Int))=false:=by simp;omega
 rw [decide_eq_true e1,decide_eq_true e2,decide_eq_true e3,Bool.true_and,Bool.true_and,Bool.true_and]
 refine Qac (tb:=[]) 71 [.tmp 2] [0,1,2,3,4,5,6,7,23,27,28,29,30,59] mixed Tryz.func37 rfl (by kernel_rfl) (by kernel_rfl) (by kernel_rfl) (by kernel_rfl) ?_
 repeat (first|(simp -implicitDefEqProofs only [go_sem,Nat.reduceAdd,Nat.reduceMul,Nat.reduceEqDiff,Nat.reduceLT,Nat.reduceLeDiff,reduceCtorEq,T_n1,T_n2,T_n3,T_n4,T_p1,T_p2,T_p3,pgV,e1',e2',e3',decide_true,decide_false,List.length_map]))
 refine Qb5 mixed (fun k:{k:Nat // k≤p.ns.length∧Qe2 p k=true}=>St.of [(1,.bp 0 3 0 0),(2,.bool false),(3,.int .i64 (p.ns.length:Int)),(4,.mp 400),(5,.mp 401),(27,.slc (p.ns.map PV.str)),(28,.int .i64 (p.ns.length:Int)),(29,.int .i64 (k.1:Int))]
  [(0,{els:=[pgV p],esz:=3,ety:=26,fro:=0,live:=true,arr:=false}),(400,{els:=[],esz:=1,ety:=115,fro:=0,live:=true,arr:=true,mp:=some (Qe3 (p.ns.take k.1))}),(401,{els:=[],esz:=1,ety:=116,fro:=0,live:=true,arr:=true,mp:=some (Qb6 (p.hs.take k.1))})]) (fun k=>p.ns.length-k.1) ⟨0,Nat.zero_le _,rfl⟩ ?_ ?_
 ·refine Qaq (θ:=[(0,0),(400,400),(401,401)]) rfl ?_ ?_
  ·simp [Qad,lkp,ren1,ren0,Qae,pgV]
  ·exact⟨⟨rfl,rfl,rfl,rfl,rfl,.inr ⟨rfl,_,_,rfl,rfl,rfl,rfl⟩⟩,⟨rfl,rfl,rfl,rfl,rfl,.inl ⟨rfl,rfl⟩⟩,⟨rfl,rfl,rfl,rfl,rfl,.inl ⟨rfl,rfl⟩⟩,trivial⟩
 ·rintro⟨k,hk,hall⟩
  simp only
  by_cases hA:k<p.ns.length
  ·have hA':=lt_T hA
   have n0:=nn_T k
   have hB:k<p.hs.length:=by omega
   have g1:=Qxg hA
   have g2:=Q1v hB
   have hwk:=wr_1 (n:=k) (by omega)
   have hnx:=Qhl p k
   rw [hall,Bool.true_and]at hnx
   unfold Qqj at hnx
   have hno: ∀b,Qe2 p (k+1)=b→b=false→Qe2 p p.ns.length=false:=fun b h e=>Qqk (h.trans e) hA
   have c1:=Qxf (nmAt p k) (hp k)
   have c2:=Qc7 (hmAt p k)
   have sN:=Qx5 hA
   have sP:=Qx6 hB
   have hN:=Qmg (p.ns.take k) (nmAt p k)
   have hP:=Qk3 (p.hs.take k) (hmAt p k)
   rw [←sN]at hN
   rw [←sP]at hP
   cases b1:Qmf (nmAt p k)with
   |false=>
    rw [b1]at c1 hnx
    rw [hno _ hnx rfl]
    generalize nmAt p k=s at*
    repeat (first|(simp -implicitDefEqProofs only [go_sem,Nat.reduceAdd,Nat.reduceMul,Nat.reduceEqDiff,Nat.reduceLT,Nat.reduceLeDiff,reduceCtorEq,T_n1,T_n2,T_n3,T_n4,T_p1,T_p2,T_p3,hA',n0,g1,Int.toNat_natCast,List.length_map,Bool.not_false,pgV])|((with_reducible refine Qab (c1) ?_ ?_ ?_);(with_reducible rfl);rfl))
   |true=>
   rw [b1,Bool.true_and]at hnx
   rw [b1]at c1
   cases b2:memN (nmAt p k) (p.ns.take k)with
   |true=>
    rw [b2]at hnx
    rw [hno _ hnx rfl]
    have f1:=Qjx b2
    generalize nmAt p k=s at*
    repeat (first|(simp -implicitDefEqProofs only [go_sem,Nat.reduceAdd,Nat.reduceMul,Nat.reduceEqDiff,Nat.reduceLT,Nat.reduceLeDiff,reduceCtorEq,T_n1,T_n2,T_n3,T_n4,T_p1,T_p2,T_p3,hA',n0,g1,f1,Int.toNat_natCast,List.length_map,Bool.not_true,pgV])|((with_reducible refine Qab (c1) ?_ ?_ ?_);(with_reducible rfl);rfl))
   |false=>
   have f1:=Qk2 b2
   rw [b2,Bool.not_false,Bool.true_and]at hnx
   cases b3:ptB (hmAt p k)with
   |false=>
    rw [b3]at hnx c2
    rw [hno _ hnx rfl]
    generalize nmAt p k=s at*
    generalize hmAt p k=v at*
    unfold v3PV at c2
    repeat (first|(simp -implicitDefEqProofs only [go_sem,Nat.reduceAdd,Nat.reduceMul,Nat.reduceEqDiff,Nat.reduceLT,Nat.reduceLeDiff,reduceCtorEq,T_n1,T_n2,T_n3,T_n4,T_p1,T_p2,T_p3,hA',n0,g1,g2,f1,Int.toNat_natCast,List.length_map,Bool.not_true,Bool.not_false,pgV])|((with_reducible refine Qab (c1) ?_ ?_ ?_);(with_reducible rfl);rfl)|((with_reducible refine Qab (c2) ?_ ?_ ?_);(with_reducible rfl);rfl))
   |true=>
   rw [b3]at c2
   rw [b3,Bool.true_and]at hnx
   cases b4:memP (hmAt p k) (p.hs.take k)with
   |true=>
    rw [b4]at hnx
    rw [hno _ hnx rfl]
    have f2:=Qit b4
    generalize nmAt p k=s at*
    generalize hmAt p k=v at*
    unfold v3PV at c2
    repeat (first|(simp -implicitDefEqProofs only [go_sem,Nat.reduceAdd,Nat.reduceMul,Nat.reduceEqDiff,Nat.reduceLT,Nat.reduceLeDiff,reduceCtorEq,T_n1,T_n2,T_n3,T_n4,T_p1,T_p2,T_p3,hA',n0,g1,g2,f1,f2,Int.toNat_natCast,List.length_map,Bool.not_true,Bool.not_false,pgV])|((with_reducible refine Qab (c1) ?_ ?_ ?_);(with_reducible rfl);rfl)|((with_reducible refine Qab (c2) ?_ ?_ ?_);(with_reducible rfl);rfl))
   |false=>
    have f2:=Qjy b4
    rw [b4]at hnx
    have hln:((Qb6 (p.hs.take k)).length:Int)<(((Qb6 (p.hs.take k))++[((.agg [.int .i64 (hmAt p k).x,.int .i64 (hmAt p k).y,.int .i64 (hmAt p k).z]:PV),(.bool false:PV))]).length:Int):=by simp;omega
    have hln':=eq_true hln
    have n1:=nn_T (Qb6 (p.hs.take k)).length
    generalize nmAt p k=s at*
    generalize hmAt p k=v at*
    generalize hTN:Qe3 (p.ns.take k)=TN at*
    generalize hTP:Qb6 (p.hs.take k)=TP at*
    unfold v3PV at c2
    repeat (first|(simp -implicitDefEqProofs only [go_sem,Nat.reduceAdd,Nat.reduceMul,Nat.reduceEqDiff,Nat.reduceLT,Nat.reduceLeDiff,reduceCtorEq,T_n1,T_n2,T_n3,T_n4,T_p1,T_p2,T_p3,hA',n0,n1,g1,g2,f1,f2,hwk,hln',Int.toNat_natCast,List.length_map,Bool.not_true,Bool.not_false,pgV])|((with_reducible refine Qab (c1) ?_ ?_ ?_);(with_reducible rfl);rfl)|((with_reducible refine Qab (c2) ?_ ?_ ?_);(with_reducible rfl);rfl))
    refine⟨⟨k+1,hA,hnx⟩,by simp only;omega,?_⟩
    simp only [←hN,←hP]
    refine Qaq (θ:=[(0,0),(400,400),(401,401)]) rfl ?_ ?_
    ·simp [Qad,lkp,ren1,ren0,Qae,pgV]
    ·exact⟨⟨rfl,rfl,rfl,rfl,rfl,.inr ⟨rfl,_,_,rfl,rfl,rfl,rfl⟩⟩,⟨rfl,rfl,rfl,rfl,rfl,.inl ⟨rfl,rfl⟩⟩,⟨rfl,rfl,rfl,rfl,rfl,.inl ⟨rfl,rfl⟩⟩,trivial⟩
  ·have hA':=lt_F hA
   obtain rfl:k=p.ns.length:=by omega
   rw [hall]
   repeat (first|(simp -implicitDefEqProofs only [go_sem,Nat.reduceAdd,Nat.reduceMul,Nat.reduceEqDiff,Nat.reduceLT,Nat.reduceLeDiff,reduceCtorEq,T_n1,T_n2,T_n3,T_n4,T_p1,T_p2,T_p3,hA',List.length_map]))
end Go.Proofs.YtjlkapdmgjocdaaGreat
