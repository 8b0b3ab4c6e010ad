/-
  XM9, XM10, XB7, Dwi (merged for the claim).
-/
import Derived.Test.YtciddhkfbgkejaaDoorXM8
import Derived.Test.YtciddhkfbgkejaaDoorDsn
set_option linter.unusedSimpArgs false
set_option linter.unusedVariables false
namespace Go.Proofs.YtciddhkfbgkejaaDoor
open Go.Vl Go.RowKit Go.Dg
theorem Q4r:((0:Int) != 0)=false:=rfl
theorem Qk7:((0:Int)==0)=true:=rfl
theorem Zm1:((1:Int) != 0)=true:=rfl
theorem Zm2:((1:Int)==0)=false:=rfl
theorem Zcw:((2:Int) != 0)=true:=rfl
theorem Zjo:((2:Int)==0)=false:=rfl
theorem Zm3:((3:Int) != 0)=true:=rfl
theorem Zm4:((3:Int)==0)=false:=rfl
theorem Zjp:((7:Int) != 0)=true:=rfl
theorem Zjq:((7:Int)==0)=false:=rfl
theorem Zm5:((9:Int) != 0)=true:=rfl
theorem Zm6:((9:Int)==0)=false:=rfl
theorem Zjr:((10:Int) != 0)=true:=rfl
theorem Zjs:((10:Int)==0)=false:=rfl
attribute [go_sem] Q4r Qk7 Zm1 Zm2 Zcw Zjo Zm3 Zm4 Zjp Zjq Zm5 Zm6 Zjr Zjs
def lasts (p:List Sg) (t:Int):Bool:=decide (pBeg p≤t)&&decide (t≤pEnd p)
theorem Zcx (p:List Sg) (hp: ∀s∈p,okSg s) (hl:p.length≤1000000):Qae Tryd.prog 83 [Qc4 p] (if Qbq p=true then .tup [.int .i64 (pBeg p),.int .i64 (pEnd p),.int .i64 0]else .tup [.int .i64 0,.int .i64 0,.int .i64 2]):=by
 have hv:=Qf3 p hp hl
 unfold Qc4 at hv
 cases hV:Qbq p with
 |false=>
  rw [hV]at hv
  refine Qac (tb:=[]) 19 [.tmp 2,.tmp 3,.tmp 4] [0,2,3,4,7] mixed Tryd.func83 rfl (by kernel_rfl) (by kernel_rfl) (by kernel_rfl) (by kernel_rfl) ?_
  repeat (first|(simp -implicitDefEqProofs only [go_sem,Nat.reduceAdd,Nat.reduceMul,Nat.reduceEqDiff,Nat.reduceLT,Nat.reduceLeDiff,Nat.reduceSub,Nat.reduceBEq,reduceIte,reduceCtorEq,Int.reduceEq,Int.reduceNe,Nat.reduceBneDiff,Int.reduceLE,Int.reduceLT,Int.reduceToNat,Int.reduceAdd,Int.reduceSub,Int.reduceMul,Int.reduceNeg,Bool.false_eq_true])|((with_reducible refine Qab (hv) ?_ ?_ ?_);(with_reducible rfl);rfl)|(with_reducible exact Qaa _ _ (by kernel_rfl))|(with_reducible refine And.intro (Qaa _ _ (by kernel_rfl)) ?_))
 |true=>
  have h:=(Qcg hV).2.1
  have hi:p.length-1<p.length:=by omega
  have hg0:=Qf2 p 0 (by omega)
  have hg:=Qf2 p (p.length-1) hi
  have wl:=Qjr (n:=p.length) (by omega) (by omega)
  have n1:=nnT (p.length-1)
  have e1:pEnd p=p[p.length-1].t:=by unfold pEnd;rw [sgD hi]
  have e2:pBeg p=p[0].f:=by unfold pBeg;rw [sgD (by omega)]
  rw [e1,e2]
  rw [hV]at hv
  refine Qac (tb:=[]) 19 [.tmp 2,.tmp 3,.tmp 4] [0,2,3,4,7] mixed Tryd.func83 rfl (by kernel_rfl) (by kernel_rfl) (by kernel_rfl) (by kernel_rfl) ?_
  repeat (first|(simp -implicitDefEqProofs only [go_sem,Nat.reduceAdd,Nat.reduceMul,Nat.reduceEqDiff,Nat.reduceLT,Nat.reduceLeDiff,Nat.reduceSub,Nat.reduceBEq,reduceIte,reduceCtorEq,Int.reduceEq,Int.reduceNe,Nat.reduceBneDiff,Int.reduceLE,Int.reduceLT,Int.reduceToNat,Int.reduceAdd,Int.reduceSub,Int.reduceMul,Int.reduceNeg,hg,hg0,wl,n1,Int.toNat_natCast,List.length_map])|((with_reducible refine Qab (hv) ?_ ?_ ?_);(with_reducible rfl);rfl)|(with_reducible exact Qaa _ _ (by kernel_rfl))|(with_reducible refine And.intro (Qaa _ _ (by kernel_rfl)) ?_))
theorem Q4s (n m:Nat) (f:FuncId) (cap:List PV) (Pr:Nat→Bool) (hn:n≤1000000000) (hm:m≤n) (h1: ∀i,i<m→Pr i=false) (h2: ∀i,m≤i→i<n→Pr i=true)
  (hc:Qfo cap (fun _=>none)=some ((cap,[]),[])) (hcr:ren1 [] (.fn f [] cap)=some (.fn f [] cap)) (hf: ∀i:Nat,i<n→Qae Tryd.prog f (.int .i64 (i:Int)::cap) (.bool (Pr i))):Qae Tryd.prog 84 [.int .i64 (n:Int),.fn f [] cap] (.int .i64 (m:Int)):=by
 refine Qac (tb:=[]) 26 [.tmp 4] [0,1,4,5,6,7,11,21] mixed Tryd.func84 rfl (by kernel_rfl) (by kernel_rfl) (by kernel_rfl) (by kernel_rfl) ?_
 repeat (first|(simp -implicitDefEqProofs only [go_sem,Nat.reduceAdd,Nat.reduceMul,Nat.reduceEqDiff,Nat.reduceLT,Nat.reduceLeDiff,Nat.reduceSub,Nat.reduceBEq,reduceIte,reduceCtorEq,Int.reduceEq,Int.reduceNe,Nat.reduceBneDiff,Int.reduceLE,Int.reduceLT,Int.reduceToNat,Int.reduceAdd,Int.reduceSub,Int.reduceMul,Int.reduceNeg,if_true]))
 have z0:0≤m∧m≤n∧n≤n:=⟨Nat.zero_le _,hm,Nat.le_refl _⟩
 refine Qa5 mixed (fun x:{x:Nat×Nat // x.1≤m∧m≤x.2∧x.2≤n}=>St.of [(0,.int .i64 (n:Int)),(1,.fn f [] cap),(5,.int .i64 (x.1.1:Int)),(6,.int .i64 (x.1.2:Int))] []) (fun x=>x.1.2-x.1.1) ⟨(0,n),z0⟩ ?_ ?_
 ·exact Qbl ⟨by simp [lkp,ren1,ren0],by simp only [lkp];exact hcr,by simp [lkp,ren1,ren0],by simp [lkp,ren1,ren0],trivial⟩
 ·rintro⟨⟨i,j⟩,hi,hj,hjn⟩
  simp only at hi hj hjn
  by_cases hA:i<j
  ·have hA':=ltT hA
   have w1:IntKind.i64.wrap ((i:Int)+(j:Int))=((i+j:Nat):Int):=by rw [Qai (by omega) (by omega)];omega
   have w2:IntKind.u64.wrap ((i+j:Nat):Int)=((i+j:Nat):Int):=Qle (by omega)
   have w3:(((i+j:Nat):Int)).fdiv (2^min 1 64)=(((i+j)/2:Nat):Int):=by
    rw [Int.fdiv_eq_ediv_of_nonneg _ (by decide)];rfl
   have w4:IntKind.i64.wrap (((i+j)/2:Nat):Int)=(((i+j)/2:Nat):Int):=wrapn (by omega)
   have hh:(i+j)/2<n:=by omega
   have hfh:=hf ((i+j)/2) hh
   have w5:=Qal (a:=(i+j)/2) (by omega)
   generalize hH:(i+j)/2=h at*
   by_cases hmh:h<m
   ·rw [h1 h hmh]at hfh
    repeat (first|(simp -implicitDefEqProofs only [go_sem,Nat.reduceAdd,Nat.reduceMul,Nat.reduceEqDiff,Nat.reduceLT,Nat.reduceLeDiff,Nat.reduceSub,Nat.reduceBEq,reduceIte,reduceCtorEq,Int.reduceEq,Int.reduceNe,Nat.reduceBneDiff,Int.reduceLE,Int.reduceLT,Int.reduceToNat,Int.reduceAdd,Int.reduceSub,Int.reduceMul,Int.reduceNeg,hA',w1,w2,w3,w4,w5,hc])|((with_reducible refine Qab (hfh) ?_ ?_ ?_);(with_reducible rfl);rfl))
    refine⟨⟨(h+1,j),by simp only;omega,hj,hjn⟩,by simp only;omega,Qbl ⟨by simp [lkp,ren1,ren0],by simp only [lkp];exact hcr,by simp [lkp,ren1,ren0],by simp [lkp,ren1,ren0],trivial⟩⟩
   ·rw [h2 h (by omega) hh]at hfh
    repeat (first|(simp -implicitDefEqProofs only [go_sem,Nat.reduceAdd,Nat.reduceMul,Nat.reduceEqDiff,Nat.reduceLT,Nat.reduceLeDiff,Nat.reduceSub,Nat.reduceBEq,reduceIte,reduceCtorEq,Int.reduceEq,Int.reduceNe,Nat.reduceBneDiff,Int.reduceLE,Int.reduceLT,Int.reduceToNat,Int.reduceAdd,Int.reduceSub,Int.reduceMul,Int.reduceNeg,hA',w1,w2,w3,w4,hc])|((with_reducible refine Qab (hfh) ?_ ?_ ?_);(with_reducible rfl);rfl))
    refine⟨⟨(i,h),hi,by simp only;omega,by simp only;omega⟩,by simp only;omega,Qbl ⟨by simp [lkp,ren1,ren0],by simp only [lkp];exact hcr,by simp [lkp,ren1,ren0],by simp [lkp,ren1,ren0],trivial⟩⟩
  ·have hA':=ltF hA
   obtain rfl:i=m:=by omega
   repeat (first|(simp -implicitDefEqProofs only [go_sem,Nat.reduceAdd,Nat.reduceMul,Nat.reduceEqDiff,Nat.reduceLT,Nat.reduceLeDiff,Nat.reduceSub,Nat.reduceBEq,reduceIte,reduceCtorEq,Int.reduceEq,Int.reduceNe,Nat.reduceBneDiff,Int.reduceLE,Int.reduceLT,Int.reduceToNat,Int.reduceAdd,Int.reduceSub,Int.reduceMul,Int.reduceNeg,hA']))
theorem Q4t (p:List Sg) (t:Int) (i:Nat) (h:i<p.length):Qae Tryd.prog 85 [.int .i64 (i:Int),.rp [.int .i64 t],.rp [.slc (p.map sgPV)]] (.bool (decide (t≤p[i].t))):=by
 have hg:=Qf2 p i h
 have n0:=nnT i
 refine Qac (tb:=[]) 12 [.tmp 4] [0,1,2,4] mixed Tryd.func85 rfl (by kernel_rfl) (by kernel_rfl) (by kernel_rfl) (by kernel_rfl) ?_
 repeat (first|(simp -implicitDefEqProofs only [go_sem,Nat.reduceAdd,Nat.reduceMul,Nat.reduceEqDiff,Nat.reduceLT,Nat.reduceLeDiff,Nat.reduceSub,Nat.reduceBEq,reduceIte,reduceCtorEq,Int.reduceEq,Int.reduceNe,Nat.reduceBneDiff,Int.reduceLE,Int.reduceLT,Int.reduceToNat,Int.reduceAdd,Int.reduceSub,Int.reduceMul,Int.reduceNeg,hg,n0,Int.toNat_natCast])|(with_reducible exact Qaa _ _ (by kernel_rfl))|(with_reducible refine And.intro (Qaa _ _ (by kernel_rfl)) ?_))
def Qk8:PV:= .agg [.bool false,.str ⟨#[]⟩,.bool false,.str ⟨#[]⟩,.bool false,.str ⟨#[]⟩,.bool false,.str ⟨#[]⟩]
attribute [go_sem] Qk8
def exA (p:List Sg) (t:Int):Int:=t-(p.getD (atIx p t) sg0).f
def exD (p:List Sg) (t:Int):Int:=(p.getD (atIx p t) sg0).t-(p.getD (atIx p t) sg0).f
def exQ (p:List Sg) (t:Int) (i:Nat):Int:=plQ (p.getD (atIx p t) sg0) (exA p t) (exD p t) i
def exO (p:List Sg) (t:Int):Int:=plO (p.getD (atIx p t) sg0) (exA p t) (exD p t)
def Qrt (p:List Sg) (t:Int):PV:=if Qbq p=true then(if lasts p t=true then .tup [Qad (exQ p t 0) (exQ p t 1) (exQ p t 2) (exO p t),.int .i64 0]else .tup [Qk8,.int .i64 3])else .tup [Qk8,.int .i64 2]
theorem Qtx {p:List Sg} {t:Int} (hV:Qbq p=true) (hL:lasts p t=true): ∃h:atIx p t<p.length,exA p t=t-p[atIx p t].f∧exD p t=p[atIx p t].t-p[atIx p t].f∧0≤exA p t∧exA p t≤exD p t∧1≤exD p t∧exD p t≤3600000∧Qbd p[atIx p t]=true∧p.getD (atIx p t) sg0=p[atIx p t]:=by
 unfold lasts at hL
 simp only [Bool.and_eq_true,decide_eq_true_eq]at hL
 have hi:=Zbk hV hL.2
 have h1:=Qxt hi
 have h2:=Qxu hV hL.1 hi
 have hv:=Qfm hV _ hi
 have h3:=(Qb6 hv).1
 have e1:exA p t=t-p[atIx p t].f:=by unfold exA;rw [sgD hi]
 have e2:exD p t=p[atIx p t].t-p[atIx p t].f:=by unfold exD;rw [sgD hi]
 exact⟨hi,e1,e2,by omega,by omega,by omega,by omega,hv,sgD hi⟩
set_option maxHeartbeats 1000000 in
theorem Q4u (p:List Sg) (t:Int) (hp: ∀s∈p,okSg s) (hl:p.length≤1000000) (ht:i64 t):Qae Tryd.prog 72 [Qc4 p,.int .i64 t] (Qrt p t):=by
 have hs:=Zcx p hp hl
 unfold Qc4 at hs
 unfold Qrt
 cases hV:Qbq p with
 |false=>
  rw [hV]at hs
  simp only [Bool.false_eq_true,if_false]at hs ⊢
  refine Qac (tb:=[]) 49 [.cell 4 122,.tmp 5] [0,1,2,3,4,5,6,7,8,9,16,21] mixed Tryd.func72 rfl (by kernel_rfl) (by kernel_rfl) (by kernel_rfl) (by kernel_rfl) ?_
  repeat (first|(simp -implicitDefEqProofs only [go_sem,Nat.reduceAdd,Nat.reduceMul,Nat.reduceEqDiff,Nat.reduceLT,Nat.reduceLeDiff,Nat.reduceSub,Nat.reduceBEq,reduceIte,reduceCtorEq,Int.reduceEq,Int.reduceNe,Nat.reduceBneDiff,Int.reduceLE,Int.reduceLT,Int.reduceToNat,Int.reduceAdd,Int.reduceSub,Int.reduceMul,Int.reduceNeg,List.length_map])|((with_reducible refine Qab (hs) ?_ ?_ ?_);(with_reducible rfl);rfl)|(with_reducible exact Qaa _ _ (by kernel_rfl))|(with_reducible refine And.intro (Qaa _ _ (by kernel_rfl)) ?_))
 |true=>
  rw [hV]at hs
  simp only [if_true]at hs ⊢
  by_cases c1:pBeg p≤t
  case neg=>
   have c1':(t<pBeg p)=True:=eq_true (by omega)
   have e:lasts p t=false:=by unfold lasts;rw [decide_eq_false c1];rfl
   rw [e]
   simp only [Bool.false_eq_true,if_false]
   refine Qac (tb:=[]) 49 [.cell 4 122,.tmp 5] [0,1,2,3,4,5,6,7,8,9,16,21] mixed Tryd.func72 rfl (by kernel_rfl) (by kernel_rfl) (by kernel_rfl) (by kernel_rfl) ?_
   repeat (first|(simp -implicitDefEqProofs only [go_sem,Nat.reduceAdd,Nat.reduceMul,Nat.reduceEqDiff,Nat.reduceLT,Nat.reduceLeDiff,Nat.reduceSub,Nat.reduceBEq,reduceIte,reduceCtorEq,Int.reduceEq,Int.reduceNe,Nat.reduceBneDiff,Int.reduceLE,Int.reduceLT,Int.reduceToNat,Int.reduceAdd,Int.reduceSub,Int.reduceMul,Int.reduceNeg,List.length_map,c1'])|((with_reducible refine Qab (hs) ?_ ?_ ?_);(with_reducible rfl);rfl)|(with_reducible exact Qaa _ _ (by kernel_rfl))|(with_reducible refine And.intro (Qaa _ _ (by kernel_rfl)) ?_))
  have c1':(t<pBeg p)=False:=eq_false (by omega)
  by_cases c2:t≤pEnd p
  case neg=>
   have c2':(pEnd p<t)=True:=eq_true (by omega)
   have e:lasts p t=false:=by unfold lasts;rw [decide_eq_false c2,Bool.and_false]
   rw [e]
   simp only [Bool.false_eq_true,if_false]
   refine Qac (tb:=[]) 49 [.cell 4 122,.tmp 5] [0,1,2,3,4,5,6,7,8,9,16,21] mixed Tryd.func72 rfl (by kernel_rfl) (by kernel_rfl) (by kernel_rfl) (by kernel_rfl) ?_
   repeat (first|(simp -implicitDefEqProofs only [go_sem,Nat.reduceAdd,Nat.reduceMul,Nat.reduceEqDiff,Nat.reduceLT,Nat.reduceLeDiff,Nat.reduceSub,Nat.reduceBEq,reduceIte,reduceCtorEq,Int.reduceEq,Int.reduceNe,Nat.reduceBneDiff,Int.reduceLE,Int.reduceLT,Int.reduceToNat,Int.reduceAdd,Int.reduceSub,Int.reduceMul,Int.reduceNeg,List.length_map,c1',c2'])|((with_reducible refine Qab (hs) ?_ ?_ ?_);(with_reducible rfl);rfl)|(with_reducible exact Qaa _ _ (by kernel_rfl))|(with_reducible refine And.intro (Qaa _ _ (by kernel_rfl)) ?_))
  have c2':(pEnd p<t)=False:=eq_false (by omega)
  have hL:lasts p t=true:=by unfold lasts;rw [decide_eq_true c1,decide_eq_true c2];rfl
  rw [hL]
  simp only [if_true]
  obtain⟨hi,eA,eD,k1,k2,k3,k4,hv,hD⟩:=Qtx hV hL
  have hsr:=Q4s p.length (atIx p t) 85 [.rp [.int .i64 t],.rp [.slc (p.map sgPV)]] (fun i=>decide (t≤(p.getD i sg0).t)) (by omega) (Nat.le_of_lt hi)
   (fun i h=>by rw [sgD (by omega)];exact decide_eq_false (Int.not_le.2 (Qj7 h (by omega))))
   (fun i h h'=>by rw [sgD h'];exact decide_eq_true (Int.le_trans (Qxt hi) (Qj6 hV i _ h' h))) rfl rfl
   (fun i h=>by rw [sgD h];exact Q4t p t i h)
  have hpl:=Qn6 p[atIx p t] (exA p t) (exD p t) (hp _ (List.getElem_mem hi)) (Qg8 hv) (Qg9 hv) (by unfold i64;omega) (by unfold i64;omega) (by omega)
  rw [Zad]at hpl
  unfold exQ exO
  rw [hD]
  have hg:=Qf2 p (atIx p t) hi
  have n0:=nnT (atIx p t)
  have wa:IntKind.i64.wrap (t-p[atIx p t].f)=exA p t:=by rw [eA];exact Qai (by omega) (by omega)
  have wd:IntKind.i64.wrap (p[atIx p t].t-p[atIx p t].f)=exD p t:=by rw [eD];exact Qai (by omega) (by omega)
  generalize plQ p[atIx p t] (exA p t) (exD p t) 0=q0 at*
  generalize plQ p[atIx p t] (exA p t) (exD p t) 1=q1 at*
  generalize plQ p[atIx p t] (exA p t) (exD p t) 2=q2 at*
  generalize plO p[atIx p t] (exA p t) (exD p t)=q3 at*
  unfold sgPV Qa9 at hpl
  refine Qac (tb:=[]) 49 [.cell 4 122,.tmp 5] [0,1,2,3,4,5,6,7,8,9,16,21] mixed Tryd.func72 rfl (by kernel_rfl) (by kernel_rfl) (by kernel_rfl) (by kernel_rfl) ?_
  repeat (first|(simp -implicitDefEqProofs only [go_sem,Nat.reduceAdd,Nat.reduceMul,Nat.reduceEqDiff,Nat.reduceLT,Nat.reduceLeDiff,Nat.reduceSub,Nat.reduceBEq,reduceIte,reduceCtorEq,Int.reduceEq,Int.reduceNe,Nat.reduceBneDiff,Int.reduceLE,Int.reduceLT,Int.reduceToNat,Int.reduceAdd,Int.reduceSub,Int.reduceMul,Int.reduceNeg,List.length_map,c1',c2',hg,n0,wa,wd,Int.toNat_natCast])|((with_reducible refine Qab (hs) ?_ ?_ ?_);(with_reducible rfl);rfl)|((with_reducible refine Qab (hsr) ?_ ?_ ?_);(with_reducible rfl);rfl)|((with_reducible refine Qab (hpl) ?_ ?_ ?_);(with_reducible rfl);rfl)|(with_reducible exact Qaa _ _ (by kernel_rfl))|(with_reducible refine And.intro (Qaa _ _ (by kernel_rfl)) ?_))
end Go.Proofs.YtciddhkfbgkejaaDoor

namespace Go.Proofs.YtciddhkfbgkejaaDoor
open Go.Vl Go.RowKit Go.Dg
def vPV (x y z:Int):PV:= .agg [.int .i64 x,.int .i64 y,.int .i64 z]
attribute [go_sem] vPV
theorem Qrs {x o:Int} {B:Nat} (hx:x.natAbs<2^B) (ho:o.natAbs<2^B):(x+x+o).natAbs<2^(B+1+1):=
 Qms (Qms hx hx) (Nat.lt_of_lt_of_le ho (Nat.pow_le_pow_right (by decide) (by omega)))
theorem Zmy {p:List Sg} {t:Int} (hp: ∀s∈p,okSg s) (hV:Qbq p=true) (hL:lasts p t=true):(∀i,i<3→(exQ p t i).natAbs<2^2000∧ -1048576≤rnd (exQ p t i) (exO p t)∧rnd (exQ p t i) (exO p t)≤1048576)∧(exO p t).natAbs<2^2000∧0<exO p t:=by
 obtain⟨hi,eA,eD,k1,k2,k3,k4,hv,hD⟩:=Qtx hV hL
 have b:=Zjn (a:=exA p t) (d:=exD p t) (hp _ (List.getElem_mem hi)) (Qg8 hv) (Qg9 hv) (by unfold i64;omega) (by unfold i64;omega) (by omega)
 have b2:=fun i h=>Qxr hv k1 k2 k3 i h
 unfold exQ exO
 rw [hD]
 refine⟨fun i h=>⟨b.1 i h,?_⟩,b.2,(b2 0 (by decide)).1⟩
 obtain⟨h1,h2,h3⟩:=b2 i h
 exact Qxs h1 h2 h3
def atPV (p:List Sg) (t:Int):PV:=if Qbq p=true then(if lasts p t=true then .tup [vPV (rnd (exQ p t 0) (exO p t)) (rnd (exQ p t 1) (exO p t)) (rnd (exQ p t 2) (exO p t)),.int .i64 0]else .tup [vPV 0 0 0,.int .i64 3])else .tup [vPV 0 0 0,.int .i64 2]
def sel3 (R:Nat→Int) (i m:Nat):Int:=if m<i then R m else 0
set_option maxHeartbeats 1000000 in
theorem Zmz (p:List Sg) (t:Int) (hp: ∀s∈p,okSg s) (hl:p.length≤1000000) (ht:i64 t):Qae Tryd.prog 48 [Qc4 p,.int .i64 t] (atPV p t):=by
 have he:=Q4u p t hp hl ht
 unfold Qrt at he
 unfold atPV
 unfold Qc4 at he
 cases hV:Qbq p with
 |false=>
  rw [hV]at he
  simp only [Bool.false_eq_true,if_false]at he ⊢
  refine Qac (tb:=[]) 58 [.cell 4 29,.tmp 5] [0,1,4,5,6,7,8,9,10,18,27,28,29] mixed Tryd.func48 rfl (by kernel_rfl) (by kernel_rfl) (by kernel_rfl) (by kernel_rfl) ?_
  repeat (first|(simp -implicitDefEqProofs only [go_sem,Nat.reduceAdd,Nat.reduceMul,Nat.reduceEqDiff,Nat.reduceLT,Nat.reduceLeDiff,Nat.reduceSub,Nat.reduceBEq,reduceIte,reduceCtorEq,Int.reduceEq,Int.reduceNe,Nat.reduceBneDiff,Int.reduceLE,Int.reduceLT,Int.reduceToNat,Int.reduceAdd,Int.reduceSub,Int.reduceMul,Int.reduceNeg,List.length_map])|((with_reducible refine Qab (he) ?_ ?_ ?_);(with_reducible rfl);rfl)|(with_reducible exact Qaa _ _ (by kernel_rfl))|(with_reducible refine And.intro (Qaa _ _ (by kernel_rfl)) ?_))
 |true=>
  cases hL:lasts p t with
  |false=>
   rw [hV,hL]at he
   simp only [Bool.false_eq_true,if_false,if_true]at he ⊢
   refine Qac (tb:=[]) 58 [.cell 4 29,.tmp 5] [0,1,4,5,6,7,8,9,10,18,27,28,29] mixed Tryd.func48 rfl (by kernel_rfl) (by kernel_rfl) (by kernel_rfl) (by kernel_rfl) ?_
   repeat (first|(simp -implicitDefEqProofs only [go_sem,Nat.reduceAdd,Nat.reduceMul,Nat.reduceEqDiff,Nat.reduceLT,Nat.reduceLeDiff,Nat.reduceSub,Nat.reduceBEq,reduceIte,reduceCtorEq,Int.reduceEq,Int.reduceNe,Nat.reduceBneDiff,Int.reduceLE,Int.reduceLT,Int.reduceToNat,Int.reduceAdd,Int.reduceSub,Int.reduceMul,Int.reduceNeg,List.length_map])|((with_reducible refine Qab (he) ?_ ?_ ?_);(with_reducible rfl);rfl)|(with_reducible exact Qaa _ _ (by kernel_rfl))|(with_reducible refine And.intro (Qaa _ _ (by kernel_rfl)) ?_))
  |true=>
   rw [hV,hL]at he
   simp only [if_true]at he ⊢
   obtain⟨hb,ho,h0⟩:=Zmy hp hV hL
   have hb0:=hb 0 (by decide)
   have hbb1:=hb 1 (by decide)
   have hb2:=hb 2 (by decide)
   clear hb
   generalize exQ p t 0=x0 at*
   generalize exQ p t 1=x1 at*
   generalize exQ p t 2=x2 at*
   generalize exO p t=o at*
   have b3:=Qms ho ho
   have a3:=Qf1 (Qaw ho (by decide)) (Qaw ho (by decide)) (Qaw b3 (by decide))
   refine Qac (tb:=[]) 58 [.cell 4 29,.tmp 5] [0,1,4,5,6,7,8,9,10,18,27,28,29] mixed Tryd.func48 rfl (by kernel_rfl) (by kernel_rfl) (by kernel_rfl) (by kernel_rfl) ?_
   repeat (first|(simp -implicitDefEqProofs only [go_sem,Nat.reduceAdd,Nat.reduceMul,Nat.reduceEqDiff,Nat.reduceLT,Nat.reduceLeDiff,Nat.reduceSub,Nat.reduceBEq,reduceIte,reduceCtorEq,Int.reduceEq,Int.reduceNe,Nat.reduceBneDiff,Int.reduceLE,Int.reduceLT,Int.reduceToNat,Int.reduceAdd,Int.reduceSub,Int.reduceMul,Int.reduceNeg,List.length_map])|((with_reducible refine Qab (he) ?_ ?_ ?_);(with_reducible rfl);rfl)|(with_reducible exact Qaa _ _ (by kernel_rfl))|(with_reducible refine And.intro (Qaa _ _ (by kernel_rfl)) ?_))
   refine Qa5 mixed (fun i:{i:Nat // i≤3}=>St.of [(4,.bp 0 3 0 0),(5,.int .i64 0),(6,.bp 106 8 0 0),(8,.bp 400 3 0 0),(27,w3PV x0 x1 x2),(28,.int .i64 (i.1:Int))]
    [(0,{els:=[vPV 0 0 0],esz:=3,ety:=29,fro:=0,live:=true,arr:=false}),(106,{els:=[Qad x0 x1 x2 o],esz:=8,ety:=122,fro:=0,live:=true,arr:=false}),(400,{els:=[vPV (sel3 (fun m=>rnd ([x0,x1,x2].getD m 0) o) i.1 0) (sel3 (fun m=>rnd ([x0,x1,x2].getD m 0) o) i.1 1) (sel3 (fun m=>rnd ([x0,x1,x2].getD m 0) o) i.1 2)],esz:=3,ety:=41,fro:=0,live:=true,arr:=false})]) (fun i=>3-i.1) ⟨0,Nat.zero_le _⟩ ?_ ?_
   ·refine Qap (θ:=[(0,0),(106,106),(400,400)]) rfl ?_ ?_
    ·simp [Qaf,lkp,ren1,ren0,Qav,w3PV]
    ·exact⟨⟨rfl,rfl,rfl,rfl,rfl,.inr ⟨rfl,_,_,rfl,rfl,rfl,rfl⟩⟩,⟨rfl,rfl,rfl,rfl,rfl,.inr ⟨rfl,_,_,rfl,rfl,rfl,rfl⟩⟩,⟨rfl,rfl,rfl,rfl,rfl,.inr ⟨rfl,_,_,rfl,rfl,rfl,rfl⟩⟩,trivial⟩
   ·rintro⟨i,hi⟩
    by_cases hA:i<3
    ·have hA':((i:Int)<3)=True:=eq_true (by omega)
     rcases(show i=0∨i=1∨i=2 by omega)with hi0|hi0|hi0
     ·obtain⟨hb1,hr1,hr2⟩:=hb0
      obtain rfl:i=0:=hi0
      have ii:Qev (rnd x0 o)= .tup [.int .i64 (rnd x0 o),.int .i64 0]:=by unfold Qev;rw [if_pos (by omega)]
      have wi:=Qty (x:=rnd x0 o) (Qaw (B:=64) (by have:(2:Nat)^64=18446744073709551616:=rfl;omega) (by decide))
      rw [ii]at wi
      have b1:=Qms hb1 hb1
      have b2:=Qrs hb1 ho
      have a1:=Qf1 (Qaw hb1 (by decide)) (Qaw hb1 (by decide)) (Qaw b1 (by decide))
      have a2:=Qf1 (Qaw b1 (by decide)) (Qaw ho (by decide)) (Qaw b2 (by decide))
      have q:=Qk5 b2 (by decide) (Qtw b3 (by decide)) (show 0<o+o by omega)
      have er:(x0+x0+o)/(o+o)=rnd x0 o:=rfl
      rw [er]at q
      clear er b1 b2 ii
      generalize hR:rnd x0 o=R at*
      generalize x0+x0+o=S at*
      generalize x0+x0=S1 at*
      generalize o+o=S2 at*
      repeat (first|(simp -implicitDefEqProofs only [go_sem,Nat.reduceAdd,Nat.reduceMul,Nat.reduceEqDiff,Nat.reduceLT,Nat.reduceLeDiff,Nat.reduceSub,Nat.reduceBEq,reduceIte,reduceCtorEq,Int.reduceEq,Int.reduceNe,Nat.reduceBneDiff,Int.reduceLE,Int.reduceLT,Int.reduceToNat,Int.reduceAdd,Int.reduceSub,Int.reduceMul,Int.reduceNeg,hA',wPV,sel3,Nat.reduceLT])|((with_reducible refine Qab (a1) ?_ ?_ ?_);(with_reducible rfl);rfl)|((with_reducible refine Qab (a2) ?_ ?_ ?_);(with_reducible rfl);rfl)|((with_reducible refine Qab (a3) ?_ ?_ ?_);(with_reducible rfl);rfl)|((with_reducible refine Qab (q) ?_ ?_ ?_);(with_reducible rfl);rfl)|((with_reducible refine Qab (wi) ?_ ?_ ?_);(with_reducible rfl);rfl)|(with_reducible exact Qaa _ _ (by kernel_rfl))|(with_reducible refine And.intro (Qaa _ _ (by kernel_rfl)) ?_))
      refine⟨⟨0+1,hA⟩,by simp only;omega,Qap (θ:=[(0,0),(106,106),(400,400)]) rfl ?_ ?_⟩
      ·simp [Qaf,lkp,ren1,ren0,Qav]
      ·subst hR
       exact⟨⟨rfl,rfl,rfl,rfl,rfl,.inr ⟨rfl,_,_,rfl,rfl,rfl,rfl⟩⟩,⟨rfl,rfl,rfl,rfl,rfl,.inr ⟨rfl,_,_,rfl,rfl,rfl,rfl⟩⟩,⟨rfl,rfl,rfl,rfl,rfl,.inr ⟨rfl,_,_,rfl,rfl,rfl,rfl⟩⟩,trivial⟩
     ·obtain⟨hb1,hr1,hr2⟩:=hbb1
      obtain rfl:i=1:=hi0
      have ii:Qev (rnd x1 o)= .tup [.int .i64 (rnd x1 o),.int .i64 0]:=by unfold Qev;rw [if_pos (by omega)]
      have wi:=Qty (x:=rnd x1 o) (Qaw (B:=64) (by have:(2:Nat)^64=18446744073709551616:=rfl;omega) (by decide))
      rw [ii]at wi
      have b1:=Qms hb1 hb1
      have b2:=Qrs hb1 ho
      have a1:=Qf1 (Qaw hb1 (by decide)) (Qaw hb1 (by decide)) (Qaw b1 (by decide))
      have a2:=Qf1 (Qaw b1 (by decide)) (Qaw ho (by decide)) (Qaw b2 (by decide))
      have q:=Qk5 b2 (by decide) (Qtw b3 (by decide)) (show 0<o+o by omega)
      have er:(x1+x1+o)/(o+o)=rnd x1 o:=rfl
      rw [er]at q
      clear er b1 b2 ii
      generalize hR:rnd x1 o=R at*
      generalize x1+x1+o=S at*
      generalize x1+x1=S1 at*
      generalize o+o=S2 at*
      repeat (first|(simp -implicitDefEqProofs only [go_sem,Nat.reduceAdd,Nat.reduceMul,Nat.reduceEqDiff,Nat.reduceLT,Nat.reduceLeDiff,Nat.reduceSub,Nat.reduceBEq,reduceIte,reduceCtorEq,Int.reduceEq,Int.reduceNe,Nat.reduceBneDiff,Int.reduceLE,Int.reduceLT,Int.reduceToNat,Int.reduceAdd,Int.reduceSub,Int.reduceMul,Int.reduceNeg,hA',wPV,sel3,Nat.reduceLT])|((with_reducible refine Qab (a1) ?_ ?_ ?_);(with_reducible rfl);rfl)|((with_reducible refine Qab (a2) ?_ ?_ ?_);(with_reducible rfl);rfl)|((with_reducible refine Qab (a3) ?_ ?_ ?_);(with_reducible rfl);rfl)|((with_reducible refine Qab (q) ?_ ?_ ?_);(with_reducible rfl);rfl)|((with_reducible refine Qab (wi) ?_ ?_ ?_);(with_reducible rfl);rfl)|(with_reducible exact Qaa _ _ (by kernel_rfl))|(with_reducible refine And.intro (Qaa _ _ (by kernel_rfl)) ?_))
      refine⟨⟨1+1,hA⟩,by simp only;omega,Qap (θ:=[(0,0),(106,106),(400,400)]) rfl ?_ ?_⟩
      ·simp [Qaf,lkp,ren1,ren0,Qav]
      ·subst hR
       exact⟨⟨rfl,rfl,rfl,rfl,rfl,.inr ⟨rfl,_,_,rfl,rfl,rfl,rfl⟩⟩,⟨rfl,rfl,rfl,rfl,rfl,.inr ⟨rfl,_,_,rfl,rfl,rfl,rfl⟩⟩,⟨rfl,rfl,rfl,rfl,rfl,.inr ⟨rfl,_,_,rfl,rfl,rfl,rfl⟩⟩,trivial⟩
     ·obtain⟨hb1,hr1,hr2⟩:=hb2
      obtain rfl:i=2:=hi0
      have ii:Qev (rnd x2 o)= .tup [.int .i64 (rnd x2 o),.int .i64 0]:=by unfold Qev;rw [if_pos (by omega)]
      have wi:=Qty (x:=rnd x2 o) (Qaw (B:=64) (by have:(2:Nat)^64=18446744073709551616:=rfl;omega) (by decide))
      rw [ii]at wi
      have b1:=Qms hb1 hb1
      have b2:=Qrs hb1 ho
      have a1:=Qf1 (Qaw hb1 (by decide)) (Qaw hb1 (by decide)) (Qaw b1 (by decide))
      have a2:=Qf1 (Qaw b1 (by decide)) (Qaw ho (by decide)) (Qaw b2 (by decide))
      have q:=Qk5 b2 (by decide) (Qtw b3 (by decide)) (show 0<o+o by omega)
      have er:(x2+x2+o)/(o+o)=rnd x2 o:=rfl
      rw [er]at q
      clear er b1 b2 ii
      generalize hR:rnd x2 o=R at*
      generalize x2+x2+o=S at*
      generalize x2+x2=S1 at*
      generalize o+o=S2 at*
      repeat (first|(simp -implicitDefEqProofs only [go_sem,Nat.reduceAdd,Nat.reduceMul,Nat.reduceEqDiff,Nat.reduceLT,Nat.reduceLeDiff,Nat.reduceSub,Nat.reduceBEq,reduceIte,reduceCtorEq,Int.reduceEq,Int.reduceNe,Nat.reduceBneDiff,Int.reduceLE,Int.reduceLT,Int.reduceToNat,Int.reduceAdd,Int.reduceSub,Int.reduceMul,Int.reduceNeg,hA',wPV,sel3,Nat.reduceLT])|((with_reducible refine Qab (a1) ?_ ?_ ?_);(with_reducible rfl);rfl)|((with_reducible refine Qab (a2) ?_ ?_ ?_);(with_reducible rfl);rfl)|((with_reducible refine Qab (a3) ?_ ?_ ?_);(with_reducible rfl);rfl)|((with_reducible refine Qab (q) ?_ ?_ ?_);(with_reducible rfl);rfl)|((with_reducible refine Qab (wi) ?_ ?_ ?_);(with_reducible rfl);rfl)|(with_reducible exact Qaa _ _ (by kernel_rfl))|(with_reducible refine And.intro (Qaa _ _ (by kernel_rfl)) ?_))
      refine⟨⟨2+1,hA⟩,by simp only;omega,Qap (θ:=[(0,0),(106,106),(400,400)]) rfl ?_ ?_⟩
      ·simp [Qaf,lkp,ren1,ren0,Qav]
      ·subst hR
       exact⟨⟨rfl,rfl,rfl,rfl,rfl,.inr ⟨rfl,_,_,rfl,rfl,rfl,rfl⟩⟩,⟨rfl,rfl,rfl,rfl,rfl,.inr ⟨rfl,_,_,rfl,rfl,rfl,rfl⟩⟩,⟨rfl,rfl,rfl,rfl,rfl,.inr ⟨rfl,_,_,rfl,rfl,rfl,rfl⟩⟩,trivial⟩
    ·have hA':((i:Int)<3)=False:=eq_false (by omega)
     obtain rfl:i=3:=by omega
     have z0:sel3 (fun m=>rnd ([x0,x1,x2].getD m 0) o) 3 0=rnd x0 o:=rfl
     have z1:sel3 (fun m=>rnd ([x0,x1,x2].getD m 0) o) 3 1=rnd x1 o:=rfl
     have z2:sel3 (fun m=>rnd ([x0,x1,x2].getD m 0) o) 3 2=rnd x2 o:=rfl
     simp only [z0,z1,z2]
     repeat (first|(simp -implicitDefEqProofs only [go_sem,Nat.reduceAdd,Nat.reduceMul,Nat.reduceEqDiff,Nat.reduceLT,Nat.reduceLeDiff,Nat.reduceSub,Nat.reduceBEq,reduceIte,reduceCtorEq,Int.reduceEq,Int.reduceNe,Nat.reduceBneDiff,Int.reduceLE,Int.reduceLT,Int.reduceToNat,Int.reduceAdd,Int.reduceSub,Int.reduceMul,Int.reduceNeg,hA'])|(with_reducible exact Qaa _ _ (by kernel_rfl))|(with_reducible refine And.intro (Qaa _ _ (by kernel_rfl)) ?_))
end Go.Proofs.YtciddhkfbgkejaaDoor

namespace Go.Proofs.YtciddhkfbgkejaaDoor
open Go.Vl Go.RowKit Go.Dg
abbrev BaOk (B:Bat):Prop:=(0≤B.base∧B.base≤1000000)∧(0≤B.climb∧B.climb≤1000000)∧(0≤B.drag∧B.drag≤1000000)∧0≤B.res∧B.res≤B.cap∧B.cap≤1125899906842624
theorem Zi9 {B:Bat} (h:BaOk B):Qax B=true:=by
 unfold BaOk at h
 simp only [Qax,Qw1,Bool.and_eq_true,decide_eq_true_eq]
 omega
theorem Qn3 {B:Bat} (h: ¬BaOk B):Qax B=false:=by
 cases e:Qax B with
 |false=>rfl
 |true=>exact(h (Qcp e)).elim
set_option maxHeartbeats 4000000 in
set_option maxRecDepth 100000 in
theorem Qtp (B:Bat):Qae Tryd.prog 13 [baPV B] (.bool (Qax B)):=by
 unfold baPV
 by_cases c0:B.base<0
 ·have c0':=eq_true c0
  have e:Qax B=false:=Qn3 (by unfold BaOk;omega)
  refine Qac (tb:=[]) 37 [.tmp 2] [0,1,2,4,11,12,13,20] mixed Tryd.func13 rfl (by kernel_rfl) (by kernel_rfl) (by kernel_rfl) (by kernel_rfl) ?_
  repeat (first|(simp -implicitDefEqProofs only [go_sem,Nat.reduceAdd,Nat.reduceMul,Nat.reduceEqDiff,Nat.reduceLT,Nat.reduceLeDiff,Nat.reduceSub,Nat.reduceBEq,reduceIte,reduceCtorEq,Int.reduceEq,Int.reduceNe,Nat.reduceBneDiff,Int.reduceLE,Int.reduceLT,Int.reduceToNat,Int.reduceAdd,Int.reduceSub,Int.reduceMul,Int.reduceNeg]))
  refine Qbe mixed [0,1,2,3] ?_
  repeat (first|(simp -implicitDefEqProofs only [go_sem,Nat.reduceAdd,Nat.reduceMul,Nat.reduceEqDiff,Nat.reduceLT,Nat.reduceLeDiff,Nat.reduceSub,Nat.reduceBEq,reduceIte,reduceCtorEq,Int.reduceEq,Int.reduceNe,Nat.reduceBneDiff,Int.reduceLE,Int.reduceLT,Int.reduceToNat,Int.reduceAdd,Int.reduceSub,Int.reduceMul,Int.reduceNeg,e,Qcz,Qc0,Qc1,Qcw,decide_true,decide_false,c0']))
 have c0':=eq_false c0
 by_cases c1:1000000<B.base
 ·have c1':=eq_true c1
  have e:Qax B=false:=Qn3 (by unfold BaOk;omega)
  refine Qac (tb:=[]) 37 [.tmp 2] [0,1,2,4,11,12,13,20] mixed Tryd.func13 rfl (by kernel_rfl) (by kernel_rfl) (by kernel_rfl) (by kernel_rfl) ?_
  repeat (first|(simp -implicitDefEqProofs only [go_sem,Nat.reduceAdd,Nat.reduceMul,Nat.reduceEqDiff,Nat.reduceLT,Nat.reduceLeDiff,Nat.reduceSub,Nat.reduceBEq,reduceIte,reduceCtorEq,Int.reduceEq,Int.reduceNe,Nat.reduceBneDiff,Int.reduceLE,Int.reduceLT,Int.reduceToNat,Int.reduceAdd,Int.reduceSub,Int.reduceMul,Int.reduceNeg]))
  refine Qbe mixed [0,1,2,3] ?_
  repeat (first|(simp -implicitDefEqProofs only [go_sem,Nat.reduceAdd,Nat.reduceMul,Nat.reduceEqDiff,Nat.reduceLT,Nat.reduceLeDiff,Nat.reduceSub,Nat.reduceBEq,reduceIte,reduceCtorEq,Int.reduceEq,Int.reduceNe,Nat.reduceBneDiff,Int.reduceLE,Int.reduceLT,Int.reduceToNat,Int.reduceAdd,Int.reduceSub,Int.reduceMul,Int.reduceNeg,e,Qcz,Qc0,Qc1,Qcw,decide_true,decide_false,c0',c1']))
 have c1':=eq_false c1
 by_cases c2:B.climb<0
 ·have c2':=eq_true c2
  have e:Qax B=false:=Qn3 (by unfold BaOk;omega)
  refine Qac (tb:=[]) 37 [.tmp 2] [0,1,2,4,11,12,13,20] mixed Tryd.func13 rfl (by kernel_rfl) (by kernel_rfl) (by kernel_rfl) (by kernel_rfl) ?_
  repeat (first|(simp -implicitDefEqProofs only [go_sem,Nat.reduceAdd,Nat.reduceMul,Nat.reduceEqDiff,Nat.reduceLT,Nat.reduceLeDiff,Nat.reduceSub,Nat.reduceBEq,reduceIte,reduceCtorEq,Int.reduceEq,Int.reduceNe,Nat.reduceBneDiff,Int.reduceLE,Int.reduceLT,Int.reduceToNat,Int.reduceAdd,Int.reduceSub,Int.reduceMul,Int.reduceNeg]))
  refine Qbe mixed [0,1,2,3] ?_
  repeat (first|(simp -implicitDefEqProofs only [go_sem,Nat.reduceAdd,Nat.reduceMul,Nat.reduceEqDiff,Nat.reduceLT,Nat.reduceLeDiff,Nat.reduceSub,Nat.reduceBEq,reduceIte,reduceCtorEq,Int.reduceEq,Int.reduceNe,Nat.reduceBneDiff,Int.reduceLE,Int.reduceLT,Int.reduceToNat,Int.reduceAdd,Int.reduceSub,Int.reduceMul,Int.reduceNeg,e,Qcz,Qc0,Qc1,Qcw,decide_true,decide_false,c0',c1',c2']))
 have c2':=eq_false c2
 by_cases c3:1000000<B.climb
 ·have c3':=eq_true c3
  have e:Qax B=false:=Qn3 (by unfold BaOk;omega)
  refine Qac (tb:=[]) 37 [.tmp 2] [0,1,2,4,11,12,13,20] mixed Tryd.func13 rfl (by kernel_rfl) (by kernel_rfl) (by kernel_rfl) (by kernel_rfl) ?_
  repeat (first|(simp -implicitDefEqProofs only [go_sem,Nat.reduceAdd,Nat.reduceMul,Nat.reduceEqDiff,Nat.reduceLT,Nat.reduceLeDiff,Nat.reduceSub,Nat.reduceBEq,reduceIte,reduceCtorEq,Int.reduceEq,Int.reduceNe,Nat.reduceBneDiff,Int.reduceLE,Int.reduceLT,Int.reduceToNat,Int.reduceAdd,Int.reduceSub,Int.reduceMul,Int.reduceNeg]))
  refine Qbe mixed [0,1,2,3] ?_
  repeat (first|(simp -implicitDefEqProofs only [go_sem,Nat.reduceAdd,Nat.reduceMul,Nat.reduceEqDiff,Nat.reduceLT,Nat.reduceLeDiff,Nat.reduceSub,Nat.reduceBEq,reduceIte,reduceCtorEq,Int.reduceEq,Int.reduceNe,Nat.reduceBneDiff,Int.reduceLE,Int.reduceLT,Int.reduceToNat,Int.reduceAdd,Int.reduceSub,Int.reduceMul,Int.reduceNeg,e,Qcz,Qc0,Qc1,Qcw,decide_true,decide_false,c0',c1',c2',c3']))
 have c3':=eq_false c3
 by_cases c4:B.drag<0
 ·have c4':=eq_true c4
  have e:Qax B=false:=Qn3 (by unfold BaOk;omega)
  refine Qac (tb:=[]) 37 [.tmp 2] [0,1,2,4,11,12,13,20] mixed Tryd.func13 rfl (by kernel_rfl) (by kernel_rfl) (by kernel_rfl) (by kernel_rfl) ?_
  repeat (first|(simp -implicitDefEqProofs only [go_sem,Nat.reduceAdd,Nat.reduceMul,Nat.reduceEqDiff,Nat.reduceLT,Nat.reduceLeDiff,Nat.reduceSub,Nat.reduceBEq,reduceIte,reduceCtorEq,Int.reduceEq,Int.reduceNe,Nat.reduceBneDiff,Int.reduceLE,Int.reduceLT,Int.reduceToNat,Int.reduceAdd,Int.reduceSub,Int.reduceMul,Int.reduceNeg]))
  refine Qbe mixed [0,1,2,3] ?_
  repeat (first|(simp -implicitDefEqProofs only [go_sem,Nat.reduceAdd,Nat.reduceMul,Nat.reduceEqDiff,Nat.reduceLT,Nat.reduceLeDiff,Nat.reduceSub,Nat.reduceBEq,reduceIte,reduceCtorEq,Int.reduceEq,Int.reduceNe,Nat.reduceBneDiff,Int.reduceLE,Int.reduceLT,Int.reduceToNat,Int.reduceAdd,Int.reduceSub,Int.reduceMul,Int.reduceNeg,e,Qcz,Qc0,Qc1,Qcw,decide_true,decide_false,c0',c1',c2',c3',c4']))
 have c4':=eq_false c4
 by_cases c5:1000000<B.drag
 ·have c5':=eq_true c5
  have e:Qax B=false:=Qn3 (by unfold BaOk;omega)
  refine Qac (tb:=[]) 37 [.tmp 2] [0,1,2,4,11,12,13,20] mixed Tryd.func13 rfl (by kernel_rfl) (by kernel_rfl) (by kernel_rfl) (by kernel_rfl) ?_
  repeat (first|(simp -implicitDefEqProofs only [go_sem,Nat.reduceAdd,Nat.reduceMul,Nat.reduceEqDiff,Nat.reduceLT,Nat.reduceLeDiff,Nat.reduceSub,Nat.reduceBEq,reduceIte,reduceCtorEq,Int.reduceEq,Int.reduceNe,Nat.reduceBneDiff,Int.reduceLE,Int.reduceLT,Int.reduceToNat,Int.reduceAdd,Int.reduceSub,Int.reduceMul,Int.reduceNeg]))
  refine Qbe mixed [0,1,2,3] ?_
  repeat (first|(simp -implicitDefEqProofs only [go_sem,Nat.reduceAdd,Nat.reduceMul,Nat.reduceEqDiff,Nat.reduceLT,Nat.reduceLeDiff,Nat.reduceSub,Nat.reduceBEq,reduceIte,reduceCtorEq,Int.reduceEq,Int.reduceNe,Nat.reduceBneDiff,Int.reduceLE,Int.reduceLT,Int.reduceToNat,Int.reduceAdd,Int.reduceSub,Int.reduceMul,Int.reduceNeg,e,Qcz,Qc0,Qc1,Qcw,decide_true,decide_false,c0',c1',c2',c3',c4',c5']))
 have c5':=eq_false c5
 by_cases c6:0≤B.res
 case neg=>
  have c6':=eq_false c6
  have e:Qax B=false:=Qn3 (by unfold BaOk;omega)
  refine Qac (tb:=[]) 37 [.tmp 2] [0,1,2,4,11,12,13,20] mixed Tryd.func13 rfl (by kernel_rfl) (by kernel_rfl) (by kernel_rfl) (by kernel_rfl) ?_
  repeat (first|(simp -implicitDefEqProofs only [go_sem,Nat.reduceAdd,Nat.reduceMul,Nat.reduceEqDiff,Nat.reduceLT,Nat.reduceLeDiff,Nat.reduceSub,Nat.reduceBEq,reduceIte,reduceCtorEq,Int.reduceEq,Int.reduceNe,Nat.reduceBneDiff,Int.reduceLE,Int.reduceLT,Int.reduceToNat,Int.reduceAdd,Int.reduceSub,Int.reduceMul,Int.reduceNeg]))
  refine Qbe mixed [0,1,2,3] ?_
  repeat (first|(simp -implicitDefEqProofs only [go_sem,Nat.reduceAdd,Nat.reduceMul,Nat.reduceEqDiff,Nat.reduceLT,Nat.reduceLeDiff,Nat.reduceSub,Nat.reduceBEq,reduceIte,reduceCtorEq,Int.reduceEq,Int.reduceNe,Nat.reduceBneDiff,Int.reduceLE,Int.reduceLT,Int.reduceToNat,Int.reduceAdd,Int.reduceSub,Int.reduceMul,Int.reduceNeg,e,Qcz,Qc0,Qc1,Qcw,decide_true,decide_false,c0',c1',c2',c3',c4',c5',c6']))
 have c6':=eq_true c6
 by_cases c7:B.res≤B.cap
 case neg=>
  have c7':=eq_false c7
  have e:Qax B=false:=Qn3 (by unfold BaOk;omega)
  refine Qac (tb:=[]) 37 [.tmp 2] [0,1,2,4,11,12,13,20] mixed Tryd.func13 rfl (by kernel_rfl) (by kernel_rfl) (by kernel_rfl) (by kernel_rfl) ?_
  repeat (first|(simp -implicitDefEqProofs only [go_sem,Nat.reduceAdd,Nat.reduceMul,Nat.reduceEqDiff,Nat.reduceLT,Nat.reduceLeDiff,Nat.reduceSub,Nat.reduceBEq,reduceIte,reduceCtorEq,Int.reduceEq,Int.reduceNe,Nat.reduceBneDiff,Int.reduceLE,Int.reduceLT,Int.reduceToNat,Int.reduceAdd,Int.reduceSub,Int.reduceMul,Int.reduceNeg]))
  refine Qbe mixed [0,1,2,3] ?_
  repeat (first|(simp -implicitDefEqProofs only [go_sem,Nat.reduceAdd,Nat.reduceMul,Nat.reduceEqDiff,Nat.reduceLT,Nat.reduceLeDiff,Nat.reduceSub,Nat.reduceBEq,reduceIte,reduceCtorEq,Int.reduceEq,Int.reduceNe,Nat.reduceBneDiff,Int.reduceLE,Int.reduceLT,Int.reduceToNat,Int.reduceAdd,Int.reduceSub,Int.reduceMul,Int.reduceNeg,e,Qcz,Qc0,Qc1,Qcw,decide_true,decide_false,c0',c1',c2',c3',c4',c5',c6',c7']))
 have c7':=eq_true c7
 by_cases c8:B.cap≤1125899906842624
 case neg=>
  have c8':=eq_false c8
  have e:Qax B=false:=Qn3 (by unfold BaOk;omega)
  refine Qac (tb:=[]) 37 [.tmp 2] [0,1,2,4,11,12,13,20] mixed Tryd.func13 rfl (by kernel_rfl) (by kernel_rfl) (by kernel_rfl) (by kernel_rfl) ?_
  repeat (first|(simp -implicitDefEqProofs only [go_sem,Nat.reduceAdd,Nat.reduceMul,Nat.reduceEqDiff,Nat.reduceLT,Nat.reduceLeDiff,Nat.reduceSub,Nat.reduceBEq,reduceIte,reduceCtorEq,Int.reduceEq,Int.reduceNe,Nat.reduceBneDiff,Int.reduceLE,Int.reduceLT,Int.reduceToNat,Int.reduceAdd,Int.reduceSub,Int.reduceMul,Int.reduceNeg]))
  refine Qbe mixed [0,1,2,3] ?_
  repeat (first|(simp -implicitDefEqProofs only [go_sem,Nat.reduceAdd,Nat.reduceMul,Nat.reduceEqDiff,Nat.reduceLT,Nat.reduceLeDiff,Nat.reduceSub,Nat.reduceBEq,reduceIte,reduceCtorEq,Int.reduceEq,Int.reduceNe,Nat.reduceBneDiff,Int.reduceLE,Int.reduceLT,Int.reduceToNat,Int.reduceAdd,Int.reduceSub,Int.reduceMul,Int.reduceNeg,e,Qcz,Qc0,Qc1,Qcw,decide_true,decide_false,c0',c1',c2',c3',c4',c5',c6',c7',c8']))
 have c8':=eq_true c8
 have e:Qax B=true:=Zi9 (by unfold BaOk;omega)
 refine Qac (tb:=[]) 37 [.tmp 2] [0,1,2,4,11,12,13,20] mixed Tryd.func13 rfl (by kernel_rfl) (by kernel_rfl) (by kernel_rfl) (by kernel_rfl) ?_
 repeat (first|(simp -implicitDefEqProofs only [go_sem,Nat.reduceAdd,Nat.reduceMul,Nat.reduceEqDiff,Nat.reduceLT,Nat.reduceLeDiff,Nat.reduceSub,Nat.reduceBEq,reduceIte,reduceCtorEq,Int.reduceEq,Int.reduceNe,Nat.reduceBneDiff,Int.reduceLE,Int.reduceLT,Int.reduceToNat,Int.reduceAdd,Int.reduceSub,Int.reduceMul,Int.reduceNeg]))
 refine Qbe mixed [0,1,2,3] ?_
 repeat (first|(simp -implicitDefEqProofs only [go_sem,Nat.reduceAdd,Nat.reduceMul,Nat.reduceEqDiff,Nat.reduceLT,Nat.reduceLeDiff,Nat.reduceSub,Nat.reduceBEq,reduceIte,reduceCtorEq,Int.reduceEq,Int.reduceNe,Nat.reduceBneDiff,Int.reduceLE,Int.reduceLT,Int.reduceToNat,Int.reduceAdd,Int.reduceSub,Int.reduceMul,Int.reduceNeg,e,Qcz,Qc0,Qc1,Qcw,decide_true,decide_false,c0',c1',c2',c3',c4',c5',c6',c7',c8']))
def blB (x:Int):Bool:=decide (-40000≤x∧x≤40000)
theorem Zci {x:Int} (h:blB x=true): -40000≤x∧x≤40000:=of_decide_eq_true h
def Qzn (s:Sg) (B:Bat) (x y z:Int):PV:=if(blB x&&(blB y&&(blB z&&(Qbd s&&Qax B))))=true then(if Qfi s B x y z≤mxE then .tup [.int .i64 (Qfi s B x y z),.int .i64 0]else .tup [.int .i64 0,.int .i64 7])else .tup [.int .i64 0,.int .i64 2]
theorem Qi6 {s:Sg} {B:Bat} {x y z:Int} (h:(blB x&&(blB y&&(blB z&&(Qbd s&&Qax B))))=false):Qzn s B x y z= .tup [.int .i64 0,.int .i64 2]:=by
 unfold Qzn;rw [if_neg (by rw [h];simp)]
theorem Qrp {s:Sg} {B:Bat} {x y z:Int} (h1:blB x=true) (h2:blB y=true) (h3:blB z=true) (h4:Qbd s=true) (h5:Qax B=true):Qzn s B x y z=(if Qfi s B x y z≤mxE then .tup [.int .i64 (Qfi s B x y z),.int .i64 0]else .tup [.int .i64 0,.int .i64 7]):=by
 unfold Qzn;rw [if_pos (by rw [h1,h2,h3,h4,h5];rfl)]
set_option maxHeartbeats 4000000 in
set_option maxRecDepth 100000 in
theorem Qzo (s:Sg) (B:Bat) (x y z:Int) (hs:okSg s):Qae Tryd.prog 6 [sgPV s,baPV B,.agg [.int .i64 x,.int .i64 y,.int .i64 z]] (Qzn s B x y z):=by
 have h1:=Qtv s hs
 have h2:=Qtp B
 have hsg:sgPV s= .agg [.int .i64 s.f,.int .i64 s.t,.int .i64 s.o,.slc (s.x.map (PV.int .i64)),.slc (s.y.map (PV.int .i64)),.slc (s.z.map (PV.int .i64))]:=rfl
 have h3:=fun(a:Qbd s=true) (b:Qax B=true) (c:blB x=true) (d:blB y=true) (e:blB z=true)=>Qzm s B x y z hs a b (Zci c) (Zci d) (Zci e)
 rw [hsg]at h1 h3 ⊢
 unfold baPV at h2 h3 ⊢
 by_cases c0:x< -40000
 ·have c0':=eq_true c0
  rw [Qi6 (by
    have e:blB x=false:=decide_eq_false (by omega)
    rw [e];simp)]
  refine Qac (tb:=[]) 47 [.tmp 6,.tmp 7] [0,1,2,3,4,5,6,7,9,10,11,18,19,20,27,36,45] mixed Tryd.func6 rfl (by kernel_rfl) (by kernel_rfl) (by kernel_rfl) (by kernel_rfl) ?_
  repeat (first|(simp -implicitDefEqProofs only [go_sem,Nat.reduceAdd,Nat.reduceMul,Nat.reduceEqDiff,Nat.reduceLT,Nat.reduceLeDiff,Nat.reduceSub,Nat.reduceBEq,reduceIte,reduceCtorEq,Int.reduceEq,Int.reduceNe,Nat.reduceBneDiff,Int.reduceLE,Int.reduceLT,Int.reduceToNat,Int.reduceAdd,Int.reduceSub,Int.reduceMul,Int.reduceNeg]))
  refine Qbe mixed [0,1,2,3] ?_
  repeat (first|(simp -implicitDefEqProofs only [go_sem,Nat.reduceAdd,Nat.reduceMul,Nat.reduceEqDiff,Nat.reduceLT,Nat.reduceLeDiff,Nat.reduceSub,Nat.reduceBEq,reduceIte,reduceCtorEq,Int.reduceEq,Int.reduceNe,Nat.reduceBneDiff,Int.reduceLE,Int.reduceLT,Int.reduceToNat,Int.reduceAdd,Int.reduceSub,Int.reduceMul,Int.reduceNeg,Qcz,Qc0,Qc1,Qcw,decide_true,decide_false,Bool.not_true,Bool.not_false,c0']))
 have c0':=eq_false c0
 by_cases c1:40000<x
 ·have c1':=eq_true c1
  rw [Qi6 (by
    have e:blB x=false:=decide_eq_false (by omega)
    rw [e];simp)]
  refine Qac (tb:=[]) 47 [.tmp 6,.tmp 7] [0,1,2,3,4,5,6,7,9,10,11,18,19,20,27,36,45] mixed Tryd.func6 rfl (by kernel_rfl) (by kernel_rfl) (by kernel_rfl) (by kernel_rfl) ?_
  repeat (first|(simp -implicitDefEqProofs only [go_sem,Nat.reduceAdd,Nat.reduceMul,Nat.reduceEqDiff,Nat.reduceLT,Nat.reduceLeDiff,Nat.reduceSub,Nat.reduceBEq,reduceIte,reduceCtorEq,Int.reduceEq,Int.reduceNe,Nat.reduceBneDiff,Int.reduceLE,Int.reduceLT,Int.reduceToNat,Int.reduceAdd,Int.reduceSub,Int.reduceMul,Int.reduceNeg]))
  refine Qbe mixed [0,1,2,3] ?_
  repeat (first|(simp -implicitDefEqProofs only [go_sem,Nat.reduceAdd,Nat.reduceMul,Nat.reduceEqDiff,Nat.reduceLT,Nat.reduceLeDiff,Nat.reduceSub,Nat.reduceBEq,reduceIte,reduceCtorEq,Int.reduceEq,Int.reduceNe,Nat.reduceBneDiff,Int.reduceLE,Int.reduceLT,Int.reduceToNat,Int.reduceAdd,Int.reduceSub,Int.reduceMul,Int.reduceNeg,Qcz,Qc0,Qc1,Qcw,decide_true,decide_false,Bool.not_true,Bool.not_false,c0',c1']))
 have c1':=eq_false c1
 by_cases c2:y< -40000
 ·have c2':=eq_true c2
  rw [Qi6 (by
    have e:blB y=false:=decide_eq_false (by omega)
    rw [e];simp)]
  refine Qac (tb:=[]) 47 [.tmp 6,.tmp 7] [0,1,2,3,4,5,6,7,9,10,11,18,19,20,27,36,45] mixed Tryd.func6 rfl (by kernel_rfl) (by kernel_rfl) (by kernel_rfl) (by kernel_rfl) ?_
  repeat (first|(simp -implicitDefEqProofs only [go_sem,Nat.reduceAdd,Nat.reduceMul,Nat.reduceEqDiff,Nat.reduceLT,Nat.reduceLeDiff,Nat.reduceSub,Nat.reduceBEq,reduceIte,reduceCtorEq,Int.reduceEq,Int.reduceNe,Nat.reduceBneDiff,Int.reduceLE,Int.reduceLT,Int.reduceToNat,Int.reduceAdd,Int.reduceSub,Int.reduceMul,Int.reduceNeg]))
  refine Qbe mixed [0,1,2,3] ?_
  repeat (first|(simp -implicitDefEqProofs only [go_sem,Nat.reduceAdd,Nat.reduceMul,Nat.reduceEqDiff,Nat.reduceLT,Nat.reduceLeDiff,Nat.reduceSub,Nat.reduceBEq,reduceIte,reduceCtorEq,Int.reduceEq,Int.reduceNe,Nat.reduceBneDiff,Int.reduceLE,Int.reduceLT,Int.reduceToNat,Int.reduceAdd,Int.reduceSub,Int.reduceMul,Int.reduceNeg,Qcz,Qc0,Qc1,Qcw,decide_true,decide_false,Bool.not_true,Bool.not_false,c0',c1',c2']))
 have c2':=eq_false c2
 by_cases c3:40000<y
 ·have c3':=eq_true c3
  rw [Qi6 (by
    have e:blB y=false:=decide_eq_false (by omega)
    rw [e];simp)]
  refine Qac (tb:=[]) 47 [.tmp 6,.tmp 7] [0,1,2,3,4,5,6,7,9,10,11,18,19,20,27,36,45] mixed Tryd.func6 rfl (by kernel_rfl) (by kernel_rfl) (by kernel_rfl) (by kernel_rfl) ?_
  repeat (first|(simp -implicitDefEqProofs only [go_sem,Nat.reduceAdd,Nat.reduceMul,Nat.reduceEqDiff,Nat.reduceLT,Nat.reduceLeDiff,Nat.reduceSub,Nat.reduceBEq,reduceIte,reduceCtorEq,Int.reduceEq,Int.reduceNe,Nat.reduceBneDiff,Int.reduceLE,Int.reduceLT,Int.reduceToNat,Int.reduceAdd,Int.reduceSub,Int.reduceMul,Int.reduceNeg]))
  refine Qbe mixed [0,1,2,3] ?_
  repeat (first|(simp -implicitDefEqProofs only [go_sem,Nat.reduceAdd,Nat.reduceMul,Nat.reduceEqDiff,Nat.reduceLT,Nat.reduceLeDiff,Nat.reduceSub,Nat.reduceBEq,reduceIte,reduceCtorEq,Int.reduceEq,Int.reduceNe,Nat.reduceBneDiff,Int.reduceLE,Int.reduceLT,Int.reduceToNat,Int.reduceAdd,Int.reduceSub,Int.reduceMul,Int.reduceNeg,Qcz,Qc0,Qc1,Qcw,decide_true,decide_false,Bool.not_true,Bool.not_false,c0',c1',c2',c3']))
 have c3':=eq_false c3
 by_cases c4:z< -40000
 ·have c4':=eq_true c4
  rw [Qi6 (by
    have e:blB z=false:=decide_eq_false (by omega)
    rw [e];simp)]
  refine Qac (tb:=[]) 47 [.tmp 6,.tmp 7] [0,1,2,3,4,5,6,7,9,10,11,18,19,20,27,36,45] mixed Tryd.func6 rfl (by kernel_rfl) (by kernel_rfl) (by kernel_rfl) (by kernel_rfl) ?_
  repeat (first|(simp -implicitDefEqProofs only [go_sem,Nat.reduceAdd,Nat.reduceMul,Nat.reduceEqDiff,Nat.reduceLT,Nat.reduceLeDiff,Nat.reduceSub,Nat.reduceBEq,reduceIte,reduceCtorEq,Int.reduceEq,Int.reduceNe,Nat.reduceBneDiff,Int.reduceLE,Int.reduceLT,Int.reduceToNat,Int.reduceAdd,Int.reduceSub,Int.reduceMul,Int.reduceNeg]))
  refine Qbe mixed [0,1,2,3] ?_
  repeat (first|(simp -implicitDefEqProofs only [go_sem,Nat.reduceAdd,Nat.reduceMul,Nat.reduceEqDiff,Nat.reduceLT,Nat.reduceLeDiff,Nat.reduceSub,Nat.reduceBEq,reduceIte,reduceCtorEq,Int.reduceEq,Int.reduceNe,Nat.reduceBneDiff,Int.reduceLE,Int.reduceLT,Int.reduceToNat,Int.reduceAdd,Int.reduceSub,Int.reduceMul,Int.reduceNeg,Qcz,Qc0,Qc1,Qcw,decide_true,decide_false,Bool.not_true,Bool.not_false,c0',c1',c2',c3',c4']))
 have c4':=eq_false c4
 by_cases c5:40000<z
 ·have c5':=eq_true c5
  rw [Qi6 (by
    have e:blB z=false:=decide_eq_false (by omega)
    rw [e];simp)]
  refine Qac (tb:=[]) 47 [.tmp 6,.tmp 7] [0,1,2,3,4,5,6,7,9,10,11,18,19,20,27,36,45] mixed Tryd.func6 rfl (by kernel_rfl) (by kernel_rfl) (by kernel_rfl) (by kernel_rfl) ?_
  repeat (first|(simp -implicitDefEqProofs only [go_sem,Nat.reduceAdd,Nat.reduceMul,Nat.reduceEqDiff,Nat.reduceLT,Nat.reduceLeDiff,Nat.reduceSub,Nat.reduceBEq,reduceIte,reduceCtorEq,Int.reduceEq,Int.reduceNe,Nat.reduceBneDiff,Int.reduceLE,Int.reduceLT,Int.reduceToNat,Int.reduceAdd,Int.reduceSub,Int.reduceMul,Int.reduceNeg]))
  refine Qbe mixed [0,1,2,3] ?_
  repeat (first|(simp -implicitDefEqProofs only [go_sem,Nat.reduceAdd,Nat.reduceMul,Nat.reduceEqDiff,Nat.reduceLT,Nat.reduceLeDiff,Nat.reduceSub,Nat.reduceBEq,reduceIte,reduceCtorEq,Int.reduceEq,Int.reduceNe,Nat.reduceBneDiff,Int.reduceLE,Int.reduceLT,Int.reduceToNat,Int.reduceAdd,Int.reduceSub,Int.reduceMul,Int.reduceNeg,Qcz,Qc0,Qc1,Qcw,decide_true,decide_false,Bool.not_true,Bool.not_false,c0',c1',c2',c3',c4',c5']))
 have c5':=eq_false c5
 have bx:blB x=true:=decide_eq_true (by omega)
 have by':blB y=true:=decide_eq_true (by omega)
 have bz:blB z=true:=decide_eq_true (by omega)
 cases hv:Qbd s with
 |false=>
  rw [hv]at h1
  rw [Qi6 (by rw [hv];simp)]
  refine Qac (tb:=[]) 47 [.tmp 6,.tmp 7] [0,1,2,3,4,5,6,7,9,10,11,18,19,20,27,36,45] mixed Tryd.func6 rfl (by kernel_rfl) (by kernel_rfl) (by kernel_rfl) (by kernel_rfl) ?_
  repeat (first|(simp -implicitDefEqProofs only [go_sem,Nat.reduceAdd,Nat.reduceMul,Nat.reduceEqDiff,Nat.reduceLT,Nat.reduceLeDiff,Nat.reduceSub,Nat.reduceBEq,reduceIte,reduceCtorEq,Int.reduceEq,Int.reduceNe,Nat.reduceBneDiff,Int.reduceLE,Int.reduceLT,Int.reduceToNat,Int.reduceAdd,Int.reduceSub,Int.reduceMul,Int.reduceNeg]))
  refine Qbe mixed [0,1,2,3] ?_
  repeat (first|(simp -implicitDefEqProofs only [go_sem,Nat.reduceAdd,Nat.reduceMul,Nat.reduceEqDiff,Nat.reduceLT,Nat.reduceLeDiff,Nat.reduceSub,Nat.reduceBEq,reduceIte,reduceCtorEq,Int.reduceEq,Int.reduceNe,Nat.reduceBneDiff,Int.reduceLE,Int.reduceLT,Int.reduceToNat,Int.reduceAdd,Int.reduceSub,Int.reduceMul,Int.reduceNeg,Qcz,Qc0,Qc1,Qcw,decide_true,decide_false,Bool.not_true,Bool.not_false,c0',c1',c2',c3',c4',c5'])|((with_reducible refine Qab (h1) ?_ ?_ ?_);(with_reducible rfl);rfl))
 |true=>
 rw [hv]at h1
 cases hB:Qax B with
 |false=>
  rw [hB]at h2
  rw [Qi6 (by rw [hB];simp)]
  refine Qac (tb:=[]) 47 [.tmp 6,.tmp 7] [0,1,2,3,4,5,6,7,9,10,11,18,19,20,27,36,45] mixed Tryd.func6 rfl (by kernel_rfl) (by kernel_rfl) (by kernel_rfl) (by kernel_rfl) ?_
  repeat (first|(simp -implicitDefEqProofs only [go_sem,Nat.reduceAdd,Nat.reduceMul,Nat.reduceEqDiff,Nat.reduceLT,Nat.reduceLeDiff,Nat.reduceSub,Nat.reduceBEq,reduceIte,reduceCtorEq,Int.reduceEq,Int.reduceNe,Nat.reduceBneDiff,Int.reduceLE,Int.reduceLT,Int.reduceToNat,Int.reduceAdd,Int.reduceSub,Int.reduceMul,Int.reduceNeg]))
  refine Qbe mixed [0,1,2,3] ?_
  repeat (first|(simp -implicitDefEqProofs only [go_sem,Nat.reduceAdd,Nat.reduceMul,Nat.reduceEqDiff,Nat.reduceLT,Nat.reduceLeDiff,Nat.reduceSub,Nat.reduceBEq,reduceIte,reduceCtorEq,Int.reduceEq,Int.reduceNe,Nat.reduceBneDiff,Int.reduceLE,Int.reduceLT,Int.reduceToNat,Int.reduceAdd,Int.reduceSub,Int.reduceMul,Int.reduceNeg,Qcz,Qc0,Qc1,Qcw,decide_true,decide_false,Bool.not_true,Bool.not_false,c0',c1',c2',c3',c4',c5'])|((with_reducible refine Qab (h1) ?_ ?_ ?_);(with_reducible rfl);rfl)|((with_reducible refine Qab (h2) ?_ ?_ ?_);(with_reducible rfl);rfl))
 |true=>
 rw [hB]at h2
 have h3:=h3 hv hB bx by' bz
 rw [Qrp bx by' bz hv hB]
 unfold mxE
 generalize Qfi s B x y z=C at*
 by_cases hC:C≤1125899906842624
 ·rw [decide_eq_true hC]at h3
  rw [if_pos hC]
  refine Qac (tb:=[]) 47 [.tmp 6,.tmp 7] [0,1,2,3,4,5,6,7,9,10,11,18,19,20,27,36,45] mixed Tryd.func6 rfl (by kernel_rfl) (by kernel_rfl) (by kernel_rfl) (by kernel_rfl) ?_
  repeat (first|(simp -implicitDefEqProofs only [go_sem,Nat.reduceAdd,Nat.reduceMul,Nat.reduceEqDiff,Nat.reduceLT,Nat.reduceLeDiff,Nat.reduceSub,Nat.reduceBEq,reduceIte,reduceCtorEq,Int.reduceEq,Int.reduceNe,Nat.reduceBneDiff,Int.reduceLE,Int.reduceLT,Int.reduceToNat,Int.reduceAdd,Int.reduceSub,Int.reduceMul,Int.reduceNeg]))
  refine Qbe mixed [0,1,2,3] ?_
  repeat (first|(simp -implicitDefEqProofs only [go_sem,Nat.reduceAdd,Nat.reduceMul,Nat.reduceEqDiff,Nat.reduceLT,Nat.reduceLeDiff,Nat.reduceSub,Nat.reduceBEq,reduceIte,reduceCtorEq,Int.reduceEq,Int.reduceNe,Nat.reduceBneDiff,Int.reduceLE,Int.reduceLT,Int.reduceToNat,Int.reduceAdd,Int.reduceSub,Int.reduceMul,Int.reduceNeg,Qcz,Qc0,Qc1,Qcw,decide_true,decide_false,Bool.not_true,Bool.not_false,c0',c1',c2',c3',c4',c5'])|((with_reducible refine Qab (h1) ?_ ?_ ?_);(with_reducible rfl);rfl)|((with_reducible refine Qab (h2) ?_ ?_ ?_);(with_reducible rfl);rfl)|((with_reducible refine Qab (h3) ?_ ?_ ?_);(with_reducible rfl);rfl))
 ·rw [decide_eq_false hC]at h3
  rw [if_neg hC]
  refine Qac (tb:=[]) 47 [.tmp 6,.tmp 7] [0,1,2,3,4,5,6,7,9,10,11,18,19,20,27,36,45] mixed Tryd.func6 rfl (by kernel_rfl) (by kernel_rfl) (by kernel_rfl) (by kernel_rfl) ?_
  repeat (first|(simp -implicitDefEqProofs only [go_sem,Nat.reduceAdd,Nat.reduceMul,Nat.reduceEqDiff,Nat.reduceLT,Nat.reduceLeDiff,Nat.reduceSub,Nat.reduceBEq,reduceIte,reduceCtorEq,Int.reduceEq,Int.reduceNe,Nat.reduceBneDiff,Int.reduceLE,Int.reduceLT,Int.reduceToNat,Int.reduceAdd,Int.reduceSub,Int.reduceMul,Int.reduceNeg]))
  refine Qbe mixed [0,1,2,3] ?_
  repeat (first|(simp -implicitDefEqProofs only [go_sem,Nat.reduceAdd,Nat.reduceMul,Nat.reduceEqDiff,Nat.reduceLT,Nat.reduceLeDiff,Nat.reduceSub,Nat.reduceBEq,reduceIte,reduceCtorEq,Int.reduceEq,Int.reduceNe,Nat.reduceBneDiff,Int.reduceLE,Int.reduceLT,Int.reduceToNat,Int.reduceAdd,Int.reduceSub,Int.reduceMul,Int.reduceNeg,Qcz,Qc0,Qc1,Qcw,decide_true,decide_false,Bool.not_true,Bool.not_false,c0',c1',c2',c3',c4',c5'])|((with_reducible refine Qab (h1) ?_ ?_ ?_);(with_reducible rfl);rfl)|((with_reducible refine Qab (h2) ?_ ?_ ?_);(with_reducible rfl);rfl)|((with_reducible refine Qab (h3) ?_ ?_ ?_);(with_reducible rfl);rfl))
end Go.Proofs.YtciddhkfbgkejaaDoor

namespace Go.Dg
structure Wd where
 lx:Int
 ly:Int
 lz:Int
 hx:Int
 hy:Int
 hz:Int
 f:Int
 t:Int
 ux:Int
 uy:Int
 uz:Int
deriving DecidableEq
def wd0:Wd:=⟨0,0,0,0,0,0,0,0,0,0,0⟩
def ptB (x y z:Int):Bool:=decide ((-1048576≤x∧x≤1048576)∧(-1048576≤y∧y≤1048576)∧(-1048576≤z∧z≤1048576))
def uB (x:Int):Bool:=decide (-5000≤x∧x≤5000)
def vWd (w:Wd):Bool:=ptB w.lx w.ly w.lz&&(ptB w.hx w.hy w.hz&&(decide (0≤w.f∧w.f<w.t∧w.t≤3600000)&&(decide (w.lx≤w.hx∧w.ly≤w.hy∧w.lz≤w.hz)&&(uB w.ux&&(uB w.uy&&uB w.uz)))))
def Qbj (l:List Wd):Bool:=l.all vWd&&decide (l.length≤8)
def blW (x y z t:Int) (w:Wd):Bool:=decide ((w.lx≤x∧x≤w.hx)∧(w.ly≤y∧y≤w.hy)∧(w.lz≤z∧z≤w.hz)∧w.f≤t∧t<w.t)
theorem Qj8 {w:Wd} (h:vWd w=true):(-1048576≤w.lx∧w.lx≤1048576)∧(-1048576≤w.ly∧w.ly≤1048576)∧(-1048576≤w.lz∧w.lz≤1048576)∧(-1048576≤w.hx∧w.hx≤1048576)∧(-1048576≤w.hy∧w.hy≤1048576)∧(-1048576≤w.hz∧w.hz≤1048576)∧
  0≤w.f∧w.f<w.t∧w.t≤3600000∧w.lx≤w.hx∧w.ly≤w.hy∧w.lz≤w.hz∧(-5000≤w.ux∧w.ux≤5000)∧(-5000≤w.uy∧w.uy≤5000)∧(-5000≤w.uz∧w.uz≤5000):=by
 simp only [vWd,ptB,uB,Bool.and_eq_true,decide_eq_true_eq]at h
 omega
theorem Qdi {l:List Wd} (h:Qbj l=true):(∀w∈l,vWd w=true)∧l.length≤8:=by
 simp only [Qbj,Bool.and_eq_true,decide_eq_true_eq,List.all_eq_true]at h
 exact h
def Qox (p:Wd→Bool):List Wd→Nat→Nat→Nat
 | [],_,m=>m
 |w::l,i,m=>Qox p l (i+1) (if p w then m+2^i else m)
def mask (p:Wd→Bool) (l:List Wd):Nat:=Qox p l 0 0
theorem Qiq (p:Wd→Bool): ∀(a b:List Wd) (i m:Nat),Qox p (a++b) i m=Qox p b (i+a.length) (Qox p a i m)
 | [],_,_,_=>rfl
 |w::a,b,i,m=>by
  simp only [List.cons_append,Qox,List.length_cons]
  rw [Qiq p a b,Nat.add_assoc,Nat.add_comm 1]
theorem Qoy (p:Wd→Bool) (a:List Wd) (w:Wd):mask p (a++[w])=if p w then mask p a+2^a.length else mask p a:=by
 unfold mask
 rw [Qiq,Nat.zero_add];rfl
theorem Qsu (p:Wd→Bool): ∀(a:List Wd) (i m:Nat),m<2^i→Qox p a i m<2^(i+a.length)
 | [],_,_,h=>h
 |w::a,i,m,h=>by
  have h1:2^(i+1)=2^i+2^i:=by rw [Nat.pow_succ];omega
  have:=Qsu p a (i+1) (if p w then m+2^i else m) (by split<;>omega)
  simp only [Qox,List.length_cons]
  rw [show i+(a.length+1)=i+1+a.length from by omega]
  exact this
theorem Qqr (p:Wd→Bool) (a:List Wd):mask p a<2^a.length:=by
 have:=Qsu p a 0 0 (by decide)
 rwa [Nat.zero_add]at this
theorem Zic {m k:Nat} (h:m<2^k):m ||| 2^k=m+2^k:=by
 have:=Nat.two_pow_add_eq_or_of_lt h 1
 rw [Nat.mul_one,Nat.add_comm,Nat.or_comm]at this
 exact this.symm
def Qbm (m:Nat):List Nat:=(List.range 8).filter fun i=>m.testBit i
def lowB (m:Nat):Nat:=(Qbm m).headD 0
theorem Quh: ∀m,m<256→m≠0→Qbm m=lowB m::Qbm (m &&& (m-1))∧(m &&& (m-1))<256∧lowB m<8:=by decide+kernel
theorem Qh7:Qbm 0=[]:=by decide+kernel
theorem Q3d: ∀m,m<256→Qbm m=[]→m=0:=by decide+kernel
def Qgh:Nat→Nat→Nat
 |0,m=>m
 |k+1,m=>Qgh k (m &&& (m-1))
theorem Qh8: ∀(k m:Nat),m<256→k≤(Qbm m).length→Qbm (Qgh k m)=(Qbm m).drop k∧Qgh k m<256
 |0,m,h,_=>⟨rfl,h⟩
 |k+1,m,h,hk=>by
  have h0:m≠0:=by rintro rfl;rw [Qh7]at hk;simp at hk
  obtain⟨e,h1, -⟩:=Quh m h h0
  rw [e]at hk ⊢
  simp only [List.length_cons]at hk
  obtain⟨i1,i2⟩:=Qh8 k (m &&& (m-1)) h1 (by omega)
  exact⟨by simp only [Qgh,List.drop_succ_cons];exact i1,i2⟩
theorem Ql5: ∀(k m:Nat),Qgh (k+1) m=Qgh k m &&& (Qgh k m-1)
 |0,_=>rfl
 |k+1,m=>by
  show Qgh (k+1) (m &&& (m-1))=_
  rw [Ql5 k];rfl
theorem Qxw {k m:Nat} (h:m<256) (hk:k<(Qbm m).length):Qgh k m≠0∧lowB (Qgh k m)=(Qbm m).getD k 0∧Qgh k m<256:=by
 obtain⟨e1,e2⟩:=Qh8 k m h (by omega)
 refine⟨?_,?_,e2⟩
 ·intro e0
  rw [e0,Qh7]at e1
  have:=congrArg List.length e1
  simp at this;omega
 ·unfold lowB
  rw [e1,List.headD_eq_head?_getD,List.head?_drop,List.getD_eq_getElem?_getD]
theorem Qxx {m:Nat} (h:m<256):Qgh (Qbm m).length m=0:=by
 obtain⟨e1,e2⟩:=Qh8 _ m h (Nat.le_refl _)
 exact Q3d _ e2 (by rw [e1,List.drop_length])
def onI (p:Wd→Bool):List Wd→Nat→List Nat
 | [],_=>[]
 |w::l,i=>if p w then i::onI p l (i+1)else onI p l (i+1)
theorem Ql6 (p:Wd→Bool): ∀(a b:List Wd) (i:Nat),onI p (a++b) i=onI p a i++onI p b (i+a.length)
 | [],_,_=>rfl
 |w::a,b,i=>by
  simp only [List.cons_append,onI,List.length_cons]
  rw [Ql6 p a b,show i+1+a.length=i+(a.length+1)from by omega]
  split<;>simp
theorem Q3e (p:Wd→Bool) (a:List Wd) (w:Wd):onI p (a++[w]) 0=if p w then onI p a 0++[a.length]else onI p a 0:=by
 rw [Ql6,Nat.zero_add]
 simp only [onI]
 split<;>simp
theorem Qxy (p:Wd→Bool): ∀(a:List Wd) (i k:Nat),k∈onI p a i→i≤k∧k<i+a.length
 | [],_,_,h=>nomatch h
 |w::a,i,k,h=>by
  simp only [onI]at h
  simp only [List.length_cons]
  split at h
  ·simp only [List.mem_cons]at h
   rcases h with rfl|h
   ·omega
   ·have:=Qxy p a (i+1) k h;omega
  ·have:=Qxy p a (i+1) k h;omega
theorem Q3f: ∀m,m<256→ ∀k,k<8→m<2^k→Qbm (m+2^k)=Qbm m++[k]:=by decide+kernel
theorem bits_mask (p:Wd→Bool) (l:List Wd) (h:l.length≤8):Qbm (mask p l)=onI p l 0:=by
 have key: ∀k,k≤l.length→Qbm (mask p (l.take k))=onI p (l.take k) 0:=by
  intro k
  induction k with
  |zero=>intro _;rw [List.take_zero];exact Qh7
  |succ k ih=>
   intro hk
   have ih:=ih (by omega)
   have hk':k<l.length:=by omega
   have e:l.take (k+1)=l.take k++[l[k]]:=by rw [List.take_add_one,List.getElem?_eq_getElem hk'];rfl
   have hlt:=Qqr p (l.take k)
   have hl:(l.take k).length=k:=by simp;omega
   rw [hl]at hlt
   rw [e,Qoy,Q3e,hl]
   have h256:(2:Nat)^k≤2^7:=Nat.pow_le_pow_right (by decide) (by omega)
   split
   ·rw [Q3f _ (by omega) k (by omega) hlt,ih]
   ·exact ih
 have:=key l.length (Nat.le_refl _)
 rwa [List.take_length]at this
theorem Q3g (p:Wd→Bool) {l:List Wd} (h:l.length≤8):mask p l<256:=by
 have h1:=Qqr p l
 have h256:(2:Nat)^l.length≤2^8:=Nat.pow_le_pow_right (by decide) h
 omega
def smW (g:Wd→Int):List Wd→Int
 | []=>0
 |w::l=>g w+smW g l
theorem Ql7 (g:Wd→Int): ∀a b:List Wd,smW g (a++b)=smW g a+smW g b
 | [],b=>by simp [smW]
 |w::a,b=>by simp only [List.cons_append,smW];rw [Ql7 g a b,Int.add_assoc]
def pick (l:List Wd) (ix:List Nat):List Wd:=ix.map fun i=>l.getD i wd0
theorem Zbm (p:Wd→Bool) (l:List Wd):pick l (onI p l 0)=l.filter p:=by
 have key: ∀(b a:List Wd),l=a++b→pick l (onI p b a.length)=b.filter p:=by
  intro b
  induction b with
  |nil=>intro a _;rfl
  |cons w b ih=>
   intro a e
   have:=ih (a++[w]) (by rw [e,List.append_assoc];rfl)
   rw [List.length_append]at this
   simp only [onI,List.filter_cons]
   have hw:l.getD a.length wd0=w:=by rw [e,List.getD_eq_getElem?_getD,List.getElem?_append_right (Nat.le_refl _)];simp
   split
   ·unfold pick at this ⊢
    rw [List.map_cons,hw];exact congrArg _ this
   ·exact this
 exact key l [] rfl
theorem Qxz (g:Wd→Int) (K:Int): ∀l:List Wd,(∀w∈l, -K≤g w∧g w≤K)→ -(K*l.length)≤smW g l∧smW g l≤K*l.length
 | [],_=>by simp [smW]
 |w::l,h=>by
  have h1:=h w (by simp)
  have h2:=Qxz g K l fun x hx=>h x (by simp [hx])
  simp only [smW,List.length_cons,Int.natCast_add,Int.mul_add]
  generalize K*(l.length:Int)=q at*
  omega
theorem Q3h {l:List Wd} {ix:List Nat} (h: ∀i∈ix,i<l.length) {w:Wd} (hw:w∈pick l ix):w∈l:=by
 obtain⟨i,hi,rfl⟩:=List.mem_map.1 hw
 rw [List.getD_eq_getElem?_getD,List.getElem?_eq_getElem (h i hi)]
 exact List.getElem_mem _
def atW (g:Wd→Int) (l:List Wd) (x y z t:Int):Int:=smW g (l.filter (blW x y z t))
theorem Ql8 {g:Wd→Int} (hg:g=Wd.ux∨g=Wd.uy∨g=Wd.uz) {l:List Wd} (hv:Qbj l=true) (x y z t:Int): -40000≤atW g l x y z t∧atW g l x y z t≤40000:=by
 obtain⟨h1,h2⟩:=Qdi hv
 have h3:=Qxz g 5000 (l.filter (blW x y z t)) fun w hw=>by
  have:=Qj8 (h1 w (List.mem_filter.1 hw).1)
  rcases hg with rfl|rfl|rfl<;>omega
 have h4:=List.length_filter_le (blW x y z t) l
 unfold atW;omega
end Go.Dg
