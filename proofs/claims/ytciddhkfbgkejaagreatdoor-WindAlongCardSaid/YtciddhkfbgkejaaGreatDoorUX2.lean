/-
  HM9, HM10, HO1, HO2, UX2 (merged for the claim).
-/
import Derived.Test.YtciddhkfbgkejaaGreatDoorDsj
import Derived.Test.YtciddhkfbgkejaaGreatDoorUXS
import Derived.Test.YtciddhkfbgkejaaGreatDoorDsr
set_option linter.unusedSimpArgs false
set_option linter.unusedVariables false
namespace Go.Proofs.YtciddhkfbgkejaaGreatDoor
open Go.Vl Go.RowKit Go.Dg
theorem Qub:((0:Int) != 0)=false:=rfl
theorem Qgn:((0:Int)==0)=true:=rfl
theorem Zpo:((1:Int) != 0)=true:=rfl
theorem Zpp:((1:Int)==0)=false:=rfl
theorem Zhu:((2:Int) != 0)=true:=rfl
theorem Zpq:((2:Int)==0)=false:=rfl
theorem Zpr:((3:Int) != 0)=true:=rfl
theorem Zps:((3:Int)==0)=false:=rfl
theorem Zpt:((7:Int) != 0)=true:=rfl
theorem Zpu:((7:Int)==0)=false:=rfl
theorem Zpv:((9:Int) != 0)=true:=rfl
theorem Zpw:((9:Int)==0)=false:=rfl
theorem Zmz:((10:Int) != 0)=true:=rfl
theorem Zm0:((10:Int)==0)=false:=rfl
attribute [go_sem] Qub Qgn Zpo Zpp Zhu Zpq Zpr Zps Zpt Zpu Zpv Zpw Zmz Zm0
def lasts (p:List Sg) (t:Int):Bool:=decide (pBeg p≤t)&&decide (t≤pEnd p)
theorem Zhv (p:List Sg) (hp: ∀s∈p,okSg s) (hl:p.length≤1000000):Qag Tryz.prog 88 [Qcg p] (if Qbh p=true then .tup [.int .i64 (pBeg p),.int .i64 (pEnd p),.int .i64 0]else .tup [.int .i64 0,.int .i64 0,.int .i64 2]):=by
 have hv:=Qkb p hp hl
 unfold Qcg at hv
 cases hV:Qbh p with
 |false=>
  rw [hV]at hv
  refine Qac (tb:=[]) 19 [.tmp 2,.tmp 3,.tmp 4] [0,2,3,4,7] mixed Tryz.func88 rfl (by kernel_rfl) (by kernel_rfl) (by kernel_rfl) (by kernel_rfl) ?_
  repeat (first|(simp -implicitDefEqProofs only [go_sem,Nat.reduceAdd,Nat.reduceMul,Nat.reduceEqDiff,Nat.reduceLT,Nat.reduceLeDiff,reduceCtorEq,Bool.false_eq_true])|((with_reducible refine Qab (hv) ?_ ?_ ?_);(with_reducible rfl);rfl)|(with_reducible exact Qaa _ _ (by kernel_rfl))|(with_reducible refine And.intro (Qaa _ _ (by kernel_rfl)) ?_))
 |true=>
  have h:=(Qdq hV).2.1
  have hi:p.length-1<p.length:=by omega
  have hg0:=Qc6 p 0 (by omega)
  have hg:=Qc6 p (p.length-1) hi
  have wl:=Qil (n:=p.length) (by omega) (by omega)
  have n1:=nnT (p.length-1)
  have e1:pEnd p=p[p.length-1].t:=by unfold pEnd;rw [sgD hi]
  have e2:pBeg p=p[0].f:=by unfold pBeg;rw [sgD (by omega)]
  rw [e1,e2]
  rw [hV]at hv
  refine Qac (tb:=[]) 19 [.tmp 2,.tmp 3,.tmp 4] [0,2,3,4,7] mixed Tryz.func88 rfl (by kernel_rfl) (by kernel_rfl) (by kernel_rfl) (by kernel_rfl) ?_
  repeat (first|(simp -implicitDefEqProofs only [go_sem,Nat.reduceAdd,Nat.reduceMul,Nat.reduceEqDiff,Nat.reduceLT,Nat.reduceLeDiff,reduceCtorEq,hg,hg0,wl,n1,Int.toNat_natCast,List.length_map])|((with_reducible refine Qab (hv) ?_ ?_ ?_);(with_reducible rfl);rfl)|(with_reducible exact Qaa _ _ (by kernel_rfl))|(with_reducible refine And.intro (Qaa _ _ (by kernel_rfl)) ?_))
theorem Q9x (n m:Nat) (f:FuncId) (cap:List PV) (Pr:Nat→Bool) (hn:n≤1000000000) (hm:m≤n) (h1: ∀i,i<m→Pr i=false) (h2: ∀i,m≤i→i<n→Pr i=true)
  (hc:Qfj cap (fun _=>none)=some ((cap,[]),[])) (hcr:ren1 [] (.fn f [] cap)=some (.fn f [] cap)) (hf: ∀i:Nat,i<n→Qag Tryz.prog f (.int .i64 (i:Int)::cap) (.bool (Pr i))):Qag Tryz.prog 107 [.int .i64 (n:Int),.fn f [] cap] (.int .i64 (m:Int)):=by
 refine Qac (tb:=[]) 26 [.tmp 4] [0,1,4,5,6,7,11,21] mixed Tryz.func107 rfl (by kernel_rfl) (by kernel_rfl) (by kernel_rfl) (by kernel_rfl) ?_
 repeat (first|(simp -implicitDefEqProofs only [go_sem,Nat.reduceAdd,Nat.reduceMul,Nat.reduceEqDiff,Nat.reduceLT,Nat.reduceLeDiff,reduceCtorEq,if_true]))
 have z0:0≤m∧m≤n∧n≤n:=⟨Nat.zero_le _,hm,Nat.le_refl _⟩
 refine Qar mixed (fun x:{x:Nat×Nat // x.1≤m∧m≤x.2∧x.2≤n}=>St.of [(0,.int .i64 (n:Int)),(1,.fn f [] cap),(5,.int .i64 (x.1.1:Int)),(6,.int .i64 (x.1.2:Int))] []) (fun x=>x.1.2-x.1.1) ⟨(0,n),z0⟩ ?_ ?_
 ·exact Qay ⟨by simp [lkp,ren1,ren0],by simp only [lkp];exact hcr,by simp [lkp,ren1,ren0],by simp [lkp,ren1,ren0],trivial⟩
 ·rintro⟨⟨i,j⟩,hi,hj,hjn⟩
  simp only at hi hj hjn
  by_cases hA:i<j
  ·have hA':=ltT hA
   have w1:IntKind.i64.wrap ((i:Int)+(j:Int))=((i+j:Nat):Int):=by rw [Qah (by omega) (by omega)];omega
   have w2:IntKind.u64.wrap ((i+j:Nat):Int)=((i+j:Nat):Int):=Qit (by omega)
   have w3:(((i+j:Nat):Int)).fdiv (2^min 1 64)=(((i+j)/2:Nat):Int):=by
    rw [Int.fdiv_eq_ediv_of_nonneg _ (by decide)];rfl
   have w4:IntKind.i64.wrap (((i+j)/2:Nat):Int)=(((i+j)/2:Nat):Int):=wrapn (by omega)
   have hh:(i+j)/2<n:=by omega
   have hfh:=hf ((i+j)/2) hh
   have w5:=Qai (a:=(i+j)/2) (by omega)
   generalize hH:(i+j)/2=h at*
   by_cases hmh:h<m
   ·rw [h1 h hmh]at hfh
    repeat (first|(simp -implicitDefEqProofs only [go_sem,Nat.reduceAdd,Nat.reduceMul,Nat.reduceEqDiff,Nat.reduceLT,Nat.reduceLeDiff,reduceCtorEq,Int.reduceLT,Int.reduceToNat,hA',w1,w2,w3,w4,w5,hc])|((with_reducible refine Qab (hfh) ?_ ?_ ?_);(with_reducible rfl);rfl))
    refine⟨⟨(h+1,j),by simp only;omega,hj,hjn⟩,by simp only;omega,Qay ⟨by simp [lkp,ren1,ren0],by simp only [lkp];exact hcr,by simp [lkp,ren1,ren0],by simp [lkp,ren1,ren0],trivial⟩⟩
   ·rw [h2 h (by omega) hh]at hfh
    repeat (first|(simp -implicitDefEqProofs only [go_sem,Nat.reduceAdd,Nat.reduceMul,Nat.reduceEqDiff,Nat.reduceLT,Nat.reduceLeDiff,reduceCtorEq,Int.reduceLT,Int.reduceToNat,hA',w1,w2,w3,w4,hc])|((with_reducible refine Qab (hfh) ?_ ?_ ?_);(with_reducible rfl);rfl))
    refine⟨⟨(i,h),hi,by simp only;omega,by simp only;omega⟩,by simp only;omega,Qay ⟨by simp [lkp,ren1,ren0],by simp only [lkp];exact hcr,by simp [lkp,ren1,ren0],by simp [lkp,ren1,ren0],trivial⟩⟩
  ·have hA':=ltF hA
   obtain rfl:i=m:=by omega
   repeat (first|(simp -implicitDefEqProofs only [go_sem,Nat.reduceAdd,Nat.reduceMul,Nat.reduceEqDiff,Nat.reduceLT,Nat.reduceLeDiff,reduceCtorEq,hA']))
theorem Q9y (p:List Sg) (t:Int) (i:Nat) (h:i<p.length):Qag Tryz.prog 108 [.int .i64 (i:Int),.rp [.int .i64 t],.rp [.slc (p.map sgPV)]] (.bool (decide (t≤p[i].t))):=by
 have hg:=Qc6 p i h
 have n0:=nnT i
 refine Qac (tb:=[]) 12 [.tmp 4] [0,1,2,4] mixed Tryz.func108 rfl (by kernel_rfl) (by kernel_rfl) (by kernel_rfl) (by kernel_rfl) ?_
 repeat (first|(simp -implicitDefEqProofs only [go_sem,Nat.reduceAdd,Nat.reduceMul,Nat.reduceEqDiff,Nat.reduceLT,Nat.reduceLeDiff,reduceCtorEq,hg,n0,Int.toNat_natCast])|(with_reducible exact Qaa _ _ (by kernel_rfl))|(with_reducible refine And.intro (Qaa _ _ (by kernel_rfl)) ?_))
def Qmi:PV:= .agg [.bool false,.str ⟨#[]⟩,.bool false,.str ⟨#[]⟩,.bool false,.str ⟨#[]⟩,.bool false,.str ⟨#[]⟩]
attribute [go_sem] Qmi
def exA (p:List Sg) (t:Int):Int:=t-(p.getD (atIx p t) sg0).f
def exD (p:List Sg) (t:Int):Int:=(p.getD (atIx p t) sg0).t-(p.getD (atIx p t) sg0).f
def exQ (p:List Sg) (t:Int) (i:Nat):Int:=plQ (p.getD (atIx p t) sg0) (exA p t) (exD p t) i
def exO (p:List Sg) (t:Int):Int:=plO (p.getD (atIx p t) sg0) (exA p t) (exD p t)
def Quc (p:List Sg) (t:Int):PV:=if Qbh p=true then(if lasts p t=true then .tup [Qae (exQ p t 0) (exQ p t 1) (exQ p t 2) (exO p t),.int .i64 0]else .tup [Qmi,.int .i64 3])else .tup [Qmi,.int .i64 2]
theorem Qps {p:List Sg} {t:Int} (hV:Qbh p=true) (hL:lasts p t=true): ∃h:atIx p t<p.length,exA p t=t-p[atIx p t].f∧exD p t=p[atIx p t].t-p[atIx p t].f∧0≤exA p t∧exA p t≤exD p t∧1≤exD p t∧exD p t≤3600000∧Qa4 p[atIx p t]=true∧p.getD (atIx p t) sg0=p[atIx p t]:=by
 unfold lasts at hL
 simp only [Bool.and_eq_true,decide_eq_true_eq]at hL
 have hi:=Q09 hV hL.2
 have h1:=Qpa hi
 have h2:=Q1a hV hL.1 hi
 have hv:=Qcr hV _ hi
 have h3:=(Qbk hv).1
 have e1:exA p t=t-p[atIx p t].f:=by unfold exA;rw [sgD hi]
 have e2:exD p t=p[atIx p t].t-p[atIx p t].f:=by unfold exD;rw [sgD hi]
 exact⟨hi,e1,e2,by omega,by omega,by omega,by omega,hv,sgD hi⟩
set_option maxHeartbeats 1000000 in
theorem Q9z (p:List Sg) (t:Int) (hp: ∀s∈p,okSg s) (hl:p.length≤1000000) (ht:i64 t):Qag Tryz.prog 65 [Qcg p,.int .i64 t] (Quc p t):=by
 have hs:=Zhv p hp hl
 unfold Qcg at hs
 unfold Quc
 cases hV:Qbh p with
 |false=>
  rw [hV]at hs
  simp only [Bool.false_eq_true,if_false]at hs ⊢
  refine Qac (tb:=[]) 49 [.cell 4 73,.tmp 5] [0,1,2,3,4,5,6,7,8,9,16,21] mixed Tryz.func65 rfl (by kernel_rfl) (by kernel_rfl) (by kernel_rfl) (by kernel_rfl) ?_
  repeat (first|(simp -implicitDefEqProofs only [go_sem,Nat.reduceAdd,Nat.reduceMul,Nat.reduceEqDiff,Nat.reduceLT,Nat.reduceLeDiff,reduceCtorEq,List.length_map])|((with_reducible refine Qab (hs) ?_ ?_ ?_);(with_reducible rfl);rfl)|(with_reducible exact Qaa _ _ (by kernel_rfl))|(with_reducible refine And.intro (Qaa _ _ (by kernel_rfl)) ?_))
 |true=>
  rw [hV]at hs
  simp only [if_true]at hs ⊢
  by_cases c1:pBeg p≤t
  case neg=>
   have c1':(t<pBeg p)=True:=eq_true (by omega)
   have e:lasts p t=false:=by unfold lasts;rw [decide_eq_false c1];rfl
   rw [e]
   simp only [Bool.false_eq_true,if_false]
   refine Qac (tb:=[]) 49 [.cell 4 73,.tmp 5] [0,1,2,3,4,5,6,7,8,9,16,21] mixed Tryz.func65 rfl (by kernel_rfl) (by kernel_rfl) (by kernel_rfl) (by kernel_rfl) ?_
   repeat (first|(simp -implicitDefEqProofs only [go_sem,Nat.reduceAdd,Nat.reduceMul,Nat.reduceEqDiff,Nat.reduceLT,Nat.reduceLeDiff,reduceCtorEq,List.length_map,c1'])|((with_reducible refine Qab (hs) ?_ ?_ ?_);(with_reducible rfl);rfl)|(with_reducible exact Qaa _ _ (by kernel_rfl))|(with_reducible refine And.intro (Qaa _ _ (by kernel_rfl)) ?_))
  have c1':(t<pBeg p)=False:=eq_false (by omega)
  by_cases c2:t≤pEnd p
  case neg=>
   have c2':(pEnd p<t)=True:=eq_true (by omega)
   have e:lasts p t=false:=by unfold lasts;rw [decide_eq_false c2,Bool.and_false]
   rw [e]
   simp only [Bool.false_eq_true,if_false]
   refine Qac (tb:=[]) 49 [.cell 4 73,.tmp 5] [0,1,2,3,4,5,6,7,8,9,16,21] mixed Tryz.func65 rfl (by kernel_rfl) (by kernel_rfl) (by kernel_rfl) (by kernel_rfl) ?_
   repeat (first|(simp -implicitDefEqProofs only [go_sem,Nat.reduceAdd,Nat.reduceMul,Nat.reduceEqDiff,Nat.reduceLT,Nat.reduceLeDiff,reduceCtorEq,List.length_map,c1',c2'])|((with_reducible refine Qab (hs) ?_ ?_ ?_);(with_reducible rfl);rfl)|(with_reducible exact Qaa _ _ (by kernel_rfl))|(with_reducible refine And.intro (Qaa _ _ (by kernel_rfl)) ?_))
  have c2':(pEnd p<t)=False:=eq_false (by omega)
  have hL:lasts p t=true:=by unfold lasts;rw [decide_eq_true c1,decide_eq_true c2];rfl
  rw [hL]
  simp only [if_true]
  obtain⟨hi,eA,eD,k1,k2,k3,k4,hv,hD⟩:=Qps hV hL
  have hsr:=Q9x p.length (atIx p t) 108 [.rp [.int .i64 t],.rp [.slc (p.map sgPV)]] (fun i=>decide (t≤(p.getD i sg0).t)) (by omega) (Nat.le_of_lt hi)
   (fun i h=>by rw [sgD (by omega)];exact decide_eq_false (Int.not_le.2 (Qej h (by omega))))
   (fun i h h'=>by rw [sgD h'];exact decide_eq_true (Int.le_trans (Qpa hi) (Qde hV i _ h' h))) rfl rfl
   (fun i h=>by rw [sgD h];exact Q9y p t i h)
  have hpl:=Qpq p[atIx p t] (exA p t) (exD p t) (hp _ (List.getElem_mem hi)) (Qc4 hv) (Qdk hv) (by unfold i64;omega) (by unfold i64;omega) (by omega)
  rw [Zf3]at hpl
  unfold exQ exO
  rw [hD]
  have hg:=Qc6 p (atIx p t) hi
  have n0:=nnT (atIx p t)
  have wa:IntKind.i64.wrap (t-p[atIx p t].f)=exA p t:=by rw [eA];exact Qah (by omega) (by omega)
  have wd:IntKind.i64.wrap (p[atIx p t].t-p[atIx p t].f)=exD p t:=by rw [eD];exact Qah (by omega) (by omega)
  generalize plQ p[atIx p t] (exA p t) (exD p t) 0=q0 at*
  generalize plQ p[atIx p t] (exA p t) (exD p t) 1=q1 at*
  generalize plQ p[atIx p t] (exA p t) (exD p t) 2=q2 at*
  generalize plO p[atIx p t] (exA p t) (exD p t)=q3 at*
  unfold sgPV Qat at hpl
  refine Qac (tb:=[]) 49 [.cell 4 73,.tmp 5] [0,1,2,3,4,5,6,7,8,9,16,21] mixed Tryz.func65 rfl (by kernel_rfl) (by kernel_rfl) (by kernel_rfl) (by kernel_rfl) ?_
  repeat (first|(simp -implicitDefEqProofs only [go_sem,Nat.reduceAdd,Nat.reduceMul,Nat.reduceEqDiff,Nat.reduceLT,Nat.reduceLeDiff,reduceCtorEq,List.length_map,c1',c2',hg,n0,wa,wd,Int.toNat_natCast])|((with_reducible refine Qab (hs) ?_ ?_ ?_);(with_reducible rfl);rfl)|((with_reducible refine Qab (hsr) ?_ ?_ ?_);(with_reducible rfl);rfl)|((with_reducible refine Qab (hpl) ?_ ?_ ?_);(with_reducible rfl);rfl)|(with_reducible exact Qaa _ _ (by kernel_rfl))|(with_reducible refine And.intro (Qaa _ _ (by kernel_rfl)) ?_))
theorem Q90 (p:List Sg) (t:Int): [exQ p t 0,exQ p t 1,exQ p t 2]=(Qkv fun i=>plP (p.getD (atIx p t) sg0) (exA p t) (exD p t) i/(plG (p.getD (atIx p t) sg0) (exA p t) (exD p t) 3:Int)):=rfl
theorem Q91 (p:List Sg) (t:Int) (hp: ∀s∈p,okSg s) (hl:p.length≤1000000) (ht:i64 t) (hV:Qbh p=true) (hL:lasts p t=true):Qag Tryz.prog 105 [Qcg p,.int .i64 t] (Qep [exQ p t 0,exQ p t 1,exQ p t 2] (exO p t)):=by
 obtain⟨hi,eA,eD,k1,k2,k3,k4,hv,hD⟩:=Qps hV hL
 have hw:=Qpr p[atIx p t] (exA p t) (exD p t) (hp _ (List.getElem_mem hi)) (Qc4 hv) (Qdk hv) (by unfold i64;omega) (by unfold i64;omega) (by omega)
 have eO:(p[atIx p t].o*exD p t^5/(plG p[atIx p t] (exA p t) (exD p t) 3:Int))=exO p t:=by unfold exO plO;rw [hD]
 rw [eO,←hD,←Q90,hD]at hw
 have hg:=Qc6 p (atIx p t) hi
 have n0:=nnT (atIx p t)
 have wa:IntKind.i64.wrap (t-p[atIx p t].f)=exA p t:=by rw [eA];exact Qah (by omega) (by omega)
 have wd:IntKind.i64.wrap (p[atIx p t].t-p[atIx p t].f)=exD p t:=by rw [eD];exact Qah (by omega) (by omega)
 have hat:=eq_true (Qpa hi)
 have hbf: ∀i (h:i<atIx p t) (h2:i<p.length),(t≤p[i].t)=False:=fun i h h2=>eq_false (Int.not_le.2 (Qej h h2))
 generalize [exQ p t 0,exQ p t 1,exQ p t 2]=QL at*
 generalize exO p t=QO at*
 unfold Qep at hw ⊢
 unfold sgPV Qat at hw
 clear eO
 refine Qac (tb:=[]) 43 [.cell 4 78] [0,1,4,5,9,18] mixed Tryz.func105 rfl (by kernel_rfl) (by kernel_rfl) (by kernel_rfl) (by kernel_rfl) ?_
 repeat (first|(simp -implicitDefEqProofs only [go_sem,Nat.reduceAdd,Nat.reduceMul,Nat.reduceEqDiff,Nat.reduceLT,Nat.reduceLeDiff,reduceCtorEq,List.length_map])|(with_reducible exact Qaa _ _ (by kernel_rfl))|(with_reducible refine And.intro (Qaa _ _ (by kernel_rfl)) ?_))
 refine Qar mixed (fun i:{i:Nat // i≤atIx p t}=>St.of [(0,Qcg p),(1,.int .i64 t),(4,.bp 0 3 0 0),(5,.int .i64 (i.1:Int))] [(0,{els:=[.agg [.nilS,.bool false,.nilS]],esz:=3,ety:=78,fro:=0,live:=true,arr:=false})]) (fun i=>p.length-i.1) ⟨0,Nat.zero_le _⟩ ?_ ?_
 ·refine Qaj (θ:=[(0,0)]) rfl ?_ ?_
  ·simp [Qad,lkp,ren1,ren0,Qal,Qcg]
  ·exact⟨⟨rfl,rfl,rfl,rfl,rfl,.inr ⟨rfl,_,_,rfl,rfl,rfl,rfl⟩⟩,trivial⟩
 ·rintro⟨i,hix⟩
  have hA:i<p.length:=by omega
  have hA':=ltT hA
  have n1:=nnT i
  have hwk:=Qai (a:=i) (by omega)
  by_cases hE:i=atIx p t
  ·subst hE
   repeat (first|(simp -implicitDefEqProofs only [go_sem,Nat.reduceAdd,Nat.reduceMul,Nat.reduceEqDiff,Nat.reduceLT,Nat.reduceLeDiff,reduceCtorEq,di,hA',n0,hg,hat,wa,wd,Int.toNat_natCast,List.length_map])|((with_reducible refine Qab (hw) ?_ ?_ ?_);(with_reducible rfl);rfl)|(with_reducible exact Qaa _ _ (by kernel_rfl))|(with_reducible refine And.intro (Qaa _ _ (by kernel_rfl)) ?_))
  ·have hg1:=Qc6 p i hA
   have hb:=hbf i (by omega) hA
   repeat (first|(simp -implicitDefEqProofs only [go_sem,Nat.reduceAdd,Nat.reduceMul,Nat.reduceEqDiff,Nat.reduceLT,Nat.reduceLeDiff,reduceCtorEq,hA',n1,hg1,hb,hwk,Int.toNat_natCast,List.length_map])|(with_reducible exact Qaa _ _ (by kernel_rfl))|(with_reducible refine And.intro (Qaa _ _ (by kernel_rfl)) ?_))
   refine⟨⟨i+1,by omega⟩,by simp only;omega,Qaj (θ:=[(0,0)]) rfl ?_ ?_⟩
   ·simp [Qad,lkp,ren1,ren0,Qal,Qcg]
   ·exact⟨⟨rfl,rfl,rfl,rfl,rfl,.inr ⟨rfl,_,_,rfl,rfl,rfl,rfl⟩⟩,trivial⟩
end Go.Proofs.YtciddhkfbgkejaaGreatDoor

namespace Go.Proofs.YtciddhkfbgkejaaGreatDoor
open Go.Vl Go.RowKit Go.Dg
def vPV (x y z:Int):PV:= .agg [.int .i64 x,.int .i64 y,.int .i64 z]
attribute [go_sem] vPV
theorem dv9 (m i:Nat):m/E9^(i+1)*E9+m/E9^i%E9=m/E9^i:=by
 rw [Nat.pow_succ,←Nat.div_div_eq_div_mul,Nat.mul_comm]
 exact Nat.div_add_mod _ _
theorem Zhp (n k:Nat) (h:k<(digs E9 n).length):((digs E9 n).map fun d:Nat=>PV.int .i64 (d:Int))[k]? =some (.int .i64 ((n/E9^k%E9:Nat):Int)):=by
 rw [List.getElem?_map,Qap (by decide) h];rfl
theorem Zmv (x:Int) (h:x.natAbs≤4611686018427387904):Qag Tryz.prog 79 [rI x] (.int .i64 x):=by
 have hlen:(digs E9 x.natAbs).length≤3:=(Qan (by decide) _ _).2 (by have:E9^3=1000000000000000000000000000:=rfl;omega)
 have wl:IntKind.i64.wrap (((digs E9 x.natAbs).length:Int)-1)=((digs E9 x.natAbs).length:Int)-1:=Qah (by omega) (by omega)
 refine Qac (tb:=[]) 26 [.tmp 2] [0,1,2,3,4,10,22] mixed Tryz.func79 rfl (by kernel_rfl) (by kernel_rfl) (by kernel_rfl) (by kernel_rfl) ?_
 repeat (first|(simp -implicitDefEqProofs only [go_sem,Nat.reduceAdd,Nat.reduceMul,Nat.reduceEqDiff,Nat.reduceLT,Nat.reduceLeDiff,reduceCtorEq,rI,di,List.length_map,wl]))
 have z0:0≤(digs E9 x.natAbs).length:=Nat.zero_le _
 refine Qar mixed (fun i:{i:Nat // i≤(digs E9 x.natAbs).length}=>St.of [(1,.bp 0 2 0 0),(2,.int .i64 0),(3,.int .i64 ((x.natAbs/E9^i.1:Nat):Int)),(4,.int .i64 ((i.1:Int)-1))]
  [(0,{els:=[rI x],esz:=2,ety:=76,fro:=0,live:=true,arr:=false})]) (fun i=>i.1) ⟨(digs E9 x.natAbs).length,Nat.le_refl _⟩ ?_ ?_
 ·refine Qaj (θ:=[(0,0)]) rfl ?_ ?_
  ·have:=Qaw (B:=E9) (by decide) x.natAbs
   simp [Qad,lkp,ren1,ren0,Qal,Nat.div_eq_of_lt this]
  ·exact⟨⟨rfl,rfl,rfl,rfl,rfl,.inr ⟨rfl,_,_,rfl,rfl,rfl,rfl⟩⟩,trivial⟩
 ·rintro⟨i,hi⟩
  cases i with
  |succ i=>
   have hA':((0:Int)≤((i+1:Nat):Int)-1)=True:=eq_true (by omega)
   have e1:((i+1:Nat):Int)-1=(i:Int):=by omega
   have n0:=nnT i
   have hg:=Zhp x.natAbs i hi
   have hv:=dv9 x.natAbs i
   have hle:x.natAbs/E9^i≤x.natAbs:=Nat.div_le_self _ _
   have e9:E9=1000000000:=rfl
   generalize hV:x.natAbs/E9^i=V at*
   have hg2:=Nat.mod_lt V (show 0<E9 by decide)
   generalize x.natAbs/E9^(i+1)=U at*
   rw [e9]at hv hg2
   have w1:IntKind.i64.wrap ((U:Int)*1000000000)=(U:Int)*1000000000:=Qah (by omega) (by omega)
   have w2:IntKind.i64.wrap ((U:Int)*1000000000+((V%E9:Nat):Int))=(V:Int):=by
    have e:V%E9=V%1000000000:=by rw [e9]
    rw [e,Qah (by omega) (by omega)];omega
   have w3:IntKind.i64.wrap ((i:Int)-1)=(i:Int)-1:=Qah (by omega) (by omega)
   simp only [e1]
   repeat (first|(simp -implicitDefEqProofs only [go_sem,Nat.reduceAdd,Nat.reduceMul,Nat.reduceEqDiff,Nat.reduceLT,Nat.reduceLeDiff,reduceCtorEq,rI,di,n0,hg,w1,w2,w3,Int.toNat_natCast,List.length_map]))
   refine⟨⟨i,by omega⟩,by simp only;omega,Qaj (θ:=[(0,0)]) rfl ?_ ?_⟩
   ·simp [Qad,lkp,ren1,ren0,Qal,hV]
   ·exact⟨⟨rfl,rfl,rfl,rfl,rfl,.inr ⟨rfl,_,_,rfl,rfl,rfl,rfl⟩⟩,trivial⟩
  |zero=>
   have hA':((0:Int)≤((0:Nat):Int)-1)=False:=eq_false (by omega)
   have e0:x.natAbs/E9^0=x.natAbs:=by rw [Nat.pow_zero,Nat.div_one]
   simp only [e0]
   by_cases hx:x<0
   ·have hd:decide (x<0)=true:=decide_eq_true hx
    have w1:IntKind.i64.wrap (0-((x.natAbs:Nat):Int))=x:=by rw [Qah (by omega) (by omega)];omega
    repeat (first|(simp -implicitDefEqProofs only [go_sem,Nat.reduceAdd,Nat.reduceMul,Nat.reduceEqDiff,Nat.reduceLT,Nat.reduceLeDiff,reduceCtorEq,Int.reduceLE,Int.reduceSub,Int.reduceNeg,rI,di,hd,w1]))
   ·have hd:decide (x<0)=false:=decide_eq_false hx
    have w1:((x.natAbs:Nat):Int)=x:=by omega
    repeat (first|(simp -implicitDefEqProofs only [go_sem,Nat.reduceAdd,Nat.reduceMul,Nat.reduceEqDiff,Nat.reduceLT,Nat.reduceLeDiff,reduceCtorEq,Int.reduceLE,Int.reduceSub,Int.reduceNeg,rI,di,hd,w1]))
theorem Qt9 {x o:Int} {B:Nat} (hx:x.natAbs<2^B) (ho:o.natAbs<2^B):(x+x+o).natAbs<2^(B+1+1):=
 Qik (Qik hx hx) (Nat.lt_of_lt_of_le ho (Nat.pow_le_pow_right (by decide) (by omega)))
theorem Qpo (x o:Int) (B:Nat) (hB:B≤6000000) (hx:x.natAbs<2^B) (ho:o.natAbs<2^B) (h0:0<o) (hr:(rnd x o).natAbs≤1048576):Qag Tryz.prog 106 [rI x,rI o] (.int .i64 (rnd x o)):=by
 have a1:=Qmj (Qbo hx (by omega)) (Qbo hx (by omega))
 have b1:=Qik hx hx
 have a2:=Qmj (Qbo b1 (by omega)) (Qbo ho (by omega))
 have b2:(x+x+o).natAbs<2^(B+1+1):=Qik b1 (Nat.lt_of_lt_of_le ho (Nat.pow_le_pow_right (by decide) (by omega)))
 have a3:=Qmj (Qbo ho (by omega)) (Qbo ho (by omega))
 have b3:=Qik ho ho
 have q:=Q2v (Qbo b2 (by omega)) (Qbo b3 (by omega)) (show o+o≠0 by omega)
 have hi:=Zmv (rnd x o) (by omega)
 unfold rnd at*
 generalize (x+x+o)/(o+o)=R at*
 generalize (x+x+o)%(o+o)=R2 at*
 generalize x+x+o=S at*
 generalize x+x=S1 at*
 generalize o+o=S2 at*
 refine Qac (tb:=[]) 21 [.tmp 4] [0,1,2,3,4,5] mixed Tryz.func106 rfl (by kernel_rfl) (by kernel_rfl) (by kernel_rfl) (by kernel_rfl) ?_
 repeat (first|(simp -implicitDefEqProofs only [go_sem,Nat.reduceAdd,Nat.reduceMul,Nat.reduceEqDiff,Nat.reduceLT,Nat.reduceLeDiff,reduceCtorEq,rI,di])|((with_reducible refine Qab (a1) ?_ ?_ ?_);(with_reducible rfl);rfl)|((with_reducible refine Qab (a2) ?_ ?_ ?_);(with_reducible rfl);rfl)|((with_reducible refine Qab (a3) ?_ ?_ ?_);(with_reducible rfl);rfl)|((with_reducible refine Qab (q) ?_ ?_ ?_);(with_reducible rfl);rfl)|((with_reducible refine Qab (hi) ?_ ?_ ?_);(with_reducible rfl);rfl)|(with_reducible exact Qaa _ _ (by kernel_rfl))|(with_reducible refine And.intro (Qaa _ _ (by kernel_rfl)) ?_))
theorem Zhq {p:List Sg} {t:Int} (hp: ∀s∈p,okSg s) (hV:Qbh p=true) (hL:lasts p t=true):(∀i,i<3→(exQ p t i).natAbs<2^2000∧ -1048576≤rnd (exQ p t i) (exO p t)∧rnd (exQ p t i) (exO p t)≤1048576)∧(exO p t).natAbs<2^2000∧0<exO p t:=by
 obtain⟨hi,eA,eD,k1,k2,k3,k4,hv,hD⟩:=Qps hV hL
 have b:=Q2r (a:=exA p t) (d:=exD p t) (hp _ (List.getElem_mem hi)) (Qc4 hv) (Qdk hv) (by unfold i64;omega) (by unfold i64;omega) (by omega)
 have b2:=fun i h=>Q07 hv k1 k2 k3 i h
 unfold exQ exO
 rw [hD]
 refine⟨fun i h=>⟨b.1 i h,?_⟩,b.2,(b2 0 (by decide)).1⟩
 obtain⟨h1,h2,h3⟩:=b2 i h
 exact Q08 h1 h2 h3
theorem Zhr (p:List Sg) (t:Int) (hp: ∀s∈p,okSg s) (hl:p.length≤1000000) (ht:i64 t) (hV:Qbh p=true) (hL:lasts p t=true):
  Qag Tryz.prog 64 [Qcg p,.int .i64 t] (vPV (rnd (exQ p t 0) (exO p t)) (rnd (exQ p t 1) (exO p t)) (rnd (exQ p t 2) (exO p t))):=by
 have he:=Q91 p t hp hl ht hV hL
 obtain⟨hb,ho,h0⟩:=Zhq hp hV hL
 have r0:=Qpo _ _ 2000 (by decide) (hb 0 (by decide)).1 ho h0 (by have:=(hb 0 (by decide)).2;omega)
 have r1:=Qpo _ _ 2000 (by decide) (hb 1 (by decide)).1 ho h0 (by have:=(hb 1 (by decide)).2;omega)
 have r2:=Qpo _ _ 2000 (by decide) (hb 2 (by decide)).1 ho h0 (by have:=(hb 2 (by decide)).2;omega)
 generalize exQ p t 0=x0 at*
 generalize exQ p t 1=x1 at*
 generalize exQ p t 2=x2 at*
 generalize exO p t=o at*
 have hr:Qep [x0,x1,x2] o= .agg [.slc [rI x0,rI x1,rI x2],.bool (decide (o<0)),.slc ((digs E9 o.natAbs).map fun d:Nat=>PV.int .i64 (d:Int))]:=rfl
 rw [hr]at he
 unfold Qcg at he
 refine Qac (tb:=[]) 31 [.cell 4 26] [0,1,4,5] mixed Tryz.func64 rfl (by kernel_rfl) (by kernel_rfl) (by kernel_rfl) (by kernel_rfl) ?_
 repeat (first|(simp -implicitDefEqProofs only [go_sem,Nat.reduceAdd,Nat.reduceMul,Nat.reduceEqDiff,Nat.reduceLT,Nat.reduceLeDiff,reduceCtorEq,Int.reduceLE,Int.reduceToNat,rI,di])|((with_reducible refine Qab (he) ?_ ?_ ?_);(with_reducible rfl);rfl)|((with_reducible refine Qab (r0) ?_ ?_ ?_);(with_reducible rfl);rfl)|((with_reducible refine Qab (r1) ?_ ?_ ?_);(with_reducible rfl);rfl)|((with_reducible refine Qab (r2) ?_ ?_ ?_);(with_reducible rfl);rfl)|(with_reducible exact Qaa _ _ (by kernel_rfl))|(with_reducible refine And.intro (Qaa _ _ (by kernel_rfl)) ?_))
def atPV (p:List Sg) (t:Int):PV:=if Qbh p=true then(if lasts p t=true then .tup [vPV (rnd (exQ p t 0) (exO p t)) (rnd (exQ p t 1) (exO p t)) (rnd (exQ p t 2) (exO p t)),.int .i64 0]else .tup [vPV 0 0 0,.int .i64 3])else .tup [vPV 0 0 0,.int .i64 2]
def sel3 (R:Nat→Int) (i m:Nat):Int:=if m<i then R m else 0
set_option maxHeartbeats 1000000 in
theorem Zmw (p:List Sg) (t:Int) (hp: ∀s∈p,okSg s) (hl:p.length≤1000000) (ht:i64 t):Qag Tryz.prog 29 [Qcg p,.int .i64 t] (atPV p t):=by
 have he:=Q9z p t hp hl ht
 unfold Quc at he
 unfold atPV
 unfold Qcg at he
 cases hV:Qbh p with
 |false=>
  rw [hV]at he
  simp only [Bool.false_eq_true,if_false]at he ⊢
  refine Qac (tb:=[]) 58 [.cell 4 26,.tmp 5] [0,1,4,5,6,7,8,9,10,18,27,28,29] mixed Tryz.func29 rfl (by kernel_rfl) (by kernel_rfl) (by kernel_rfl) (by kernel_rfl) ?_
  repeat (first|(simp -implicitDefEqProofs only [go_sem,Nat.reduceAdd,Nat.reduceMul,Nat.reduceEqDiff,Nat.reduceLT,Nat.reduceLeDiff,reduceCtorEq,List.length_map])|((with_reducible refine Qab (he) ?_ ?_ ?_);(with_reducible rfl);rfl)|(with_reducible exact Qaa _ _ (by kernel_rfl))|(with_reducible refine And.intro (Qaa _ _ (by kernel_rfl)) ?_))
 |true=>
  cases hL:lasts p t with
  |false=>
   rw [hV,hL]at he
   simp only [Bool.false_eq_true,if_false,if_true]at he ⊢
   refine Qac (tb:=[]) 58 [.cell 4 26,.tmp 5] [0,1,4,5,6,7,8,9,10,18,27,28,29] mixed Tryz.func29 rfl (by kernel_rfl) (by kernel_rfl) (by kernel_rfl) (by kernel_rfl) ?_
   repeat (first|(simp -implicitDefEqProofs only [go_sem,Nat.reduceAdd,Nat.reduceMul,Nat.reduceEqDiff,Nat.reduceLT,Nat.reduceLeDiff,reduceCtorEq,List.length_map])|((with_reducible refine Qab (he) ?_ ?_ ?_);(with_reducible rfl);rfl)|(with_reducible exact Qaa _ _ (by kernel_rfl))|(with_reducible refine And.intro (Qaa _ _ (by kernel_rfl)) ?_))
  |true=>
   rw [hV,hL]at he
   simp only [if_true]at he ⊢
   obtain⟨hb,ho,h0⟩:=Zhq hp hV hL
   have hb0:=hb 0 (by decide)
   have hbb1:=hb 1 (by decide)
   have hb2:=hb 2 (by decide)
   clear hb
   generalize exQ p t 0=x0 at*
   generalize exQ p t 1=x1 at*
   generalize exQ p t 2=x2 at*
   generalize exO p t=o at*
   have b3:=Qik ho ho
   have a3:=Qgm (Qa5 ho (by decide)) (Qa5 ho (by decide)) (Qa5 b3 (by decide))
   refine Qac (tb:=[]) 58 [.cell 4 26,.tmp 5] [0,1,4,5,6,7,8,9,10,18,27,28,29] mixed Tryz.func29 rfl (by kernel_rfl) (by kernel_rfl) (by kernel_rfl) (by kernel_rfl) ?_
   repeat (first|(simp -implicitDefEqProofs only [go_sem,Nat.reduceAdd,Nat.reduceMul,Nat.reduceEqDiff,Nat.reduceLT,Nat.reduceLeDiff,reduceCtorEq,List.length_map])|((with_reducible refine Qab (he) ?_ ?_ ?_);(with_reducible rfl);rfl)|(with_reducible exact Qaa _ _ (by kernel_rfl))|(with_reducible refine And.intro (Qaa _ _ (by kernel_rfl)) ?_))
   refine Qar mixed (fun i:{i:Nat // i≤3}=>St.of [(4,.bp 0 3 0 0),(5,.int .i64 0),(6,.bp 106 8 0 0),(8,.bp 400 3 0 0),(27,w3PV x0 x1 x2),(28,.int .i64 (i.1:Int))]
    [(0,{els:=[vPV 0 0 0],esz:=3,ety:=26,fro:=0,live:=true,arr:=false}),(106,{els:=[Qae x0 x1 x2 o],esz:=8,ety:=73,fro:=0,live:=true,arr:=false}),(400,{els:=[vPV (sel3 (fun m=>rnd ([x0,x1,x2].getD m 0) o) i.1 0) (sel3 (fun m=>rnd ([x0,x1,x2].getD m 0) o) i.1 1) (sel3 (fun m=>rnd ([x0,x1,x2].getD m 0) o) i.1 2)],esz:=3,ety:=87,fro:=0,live:=true,arr:=false})]) (fun i=>3-i.1) ⟨0,Nat.zero_le _⟩ ?_ ?_
   ·refine Qaj (θ:=[(0,0),(106,106),(400,400)]) rfl ?_ ?_
    ·simp [Qad,lkp,ren1,ren0,Qal,w3PV]
    ·exact⟨⟨rfl,rfl,rfl,rfl,rfl,.inr ⟨rfl,_,_,rfl,rfl,rfl,rfl⟩⟩,⟨rfl,rfl,rfl,rfl,rfl,.inr ⟨rfl,_,_,rfl,rfl,rfl,rfl⟩⟩,⟨rfl,rfl,rfl,rfl,rfl,.inr ⟨rfl,_,_,rfl,rfl,rfl,rfl⟩⟩,trivial⟩
   ·rintro⟨i,hi⟩
    by_cases hA:i<3
    ·have hA':((i:Int)<3)=True:=eq_true (by omega)
     rcases(show i=0∨i=1∨i=2 by omega)with hi0|hi0|hi0
     ·obtain⟨hb1,hr1,hr2⟩:=hb0
      obtain rfl:i=0:=hi0
      have ii:Qfw (rnd x0 o)= .tup [.int .i64 (rnd x0 o),.int .i64 0]:=by unfold Qfw;rw [if_pos (by omega)]
      have wi:=Q2u (x:=rnd x0 o) (Qa5 (B:=64) (by have:(2:Nat)^64=18446744073709551616:=rfl;omega) (by decide))
      rw [ii]at wi
      have b1:=Qik hb1 hb1
      have b2:=Qt9 hb1 ho
      have a1:=Qgm (Qa5 hb1 (by decide)) (Qa5 hb1 (by decide)) (Qa5 b1 (by decide))
      have a2:=Qgm (Qa5 b1 (by decide)) (Qa5 ho (by decide)) (Qa5 b2 (by decide))
      have q:=Qmg b2 (by decide) (Qwv b3 (by decide)) (show 0<o+o by omega)
      have er:(x0+x0+o)/(o+o)=rnd x0 o:=rfl
      rw [er]at q
      clear er b1 b2 ii
      generalize hR:rnd x0 o=R at*
      generalize x0+x0+o=S at*
      generalize x0+x0=S1 at*
      generalize o+o=S2 at*
      repeat (first|(simp -implicitDefEqProofs only [go_sem,Nat.reduceAdd,Nat.reduceMul,Nat.reduceEqDiff,Nat.reduceLT,Nat.reduceLeDiff,Nat.reduceSub,reduceCtorEq,Int.reduceLT,Int.reduceAdd,hA',wPV,sel3,Nat.reduceLT])|((with_reducible refine Qab (a1) ?_ ?_ ?_);(with_reducible rfl);rfl)|((with_reducible refine Qab (a2) ?_ ?_ ?_);(with_reducible rfl);rfl)|((with_reducible refine Qab (a3) ?_ ?_ ?_);(with_reducible rfl);rfl)|((with_reducible refine Qab (q) ?_ ?_ ?_);(with_reducible rfl);rfl)|((with_reducible refine Qab (wi) ?_ ?_ ?_);(with_reducible rfl);rfl)|(with_reducible exact Qaa _ _ (by kernel_rfl))|(with_reducible refine And.intro (Qaa _ _ (by kernel_rfl)) ?_))
      refine⟨⟨0+1,hA⟩,by simp only;omega,Qaj (θ:=[(0,0),(106,106),(400,400)]) rfl ?_ ?_⟩
      ·simp [Qad,lkp,ren1,ren0,Qal]
      ·subst hR
       exact⟨⟨rfl,rfl,rfl,rfl,rfl,.inr ⟨rfl,_,_,rfl,rfl,rfl,rfl⟩⟩,⟨rfl,rfl,rfl,rfl,rfl,.inr ⟨rfl,_,_,rfl,rfl,rfl,rfl⟩⟩,⟨rfl,rfl,rfl,rfl,rfl,.inr ⟨rfl,_,_,rfl,rfl,rfl,rfl⟩⟩,trivial⟩
     ·obtain⟨hb1,hr1,hr2⟩:=hbb1
      obtain rfl:i=1:=hi0
      have ii:Qfw (rnd x1 o)= .tup [.int .i64 (rnd x1 o),.int .i64 0]:=by unfold Qfw;rw [if_pos (by omega)]
      have wi:=Q2u (x:=rnd x1 o) (Qa5 (B:=64) (by have:(2:Nat)^64=18446744073709551616:=rfl;omega) (by decide))
      rw [ii]at wi
      have b1:=Qik hb1 hb1
      have b2:=Qt9 hb1 ho
      have a1:=Qgm (Qa5 hb1 (by decide)) (Qa5 hb1 (by decide)) (Qa5 b1 (by decide))
      have a2:=Qgm (Qa5 b1 (by decide)) (Qa5 ho (by decide)) (Qa5 b2 (by decide))
      have q:=Qmg b2 (by decide) (Qwv b3 (by decide)) (show 0<o+o by omega)
      have er:(x1+x1+o)/(o+o)=rnd x1 o:=rfl
      rw [er]at q
      clear er b1 b2 ii
      generalize hR:rnd x1 o=R at*
      generalize x1+x1+o=S at*
      generalize x1+x1=S1 at*
      generalize o+o=S2 at*
      repeat (first|(simp -implicitDefEqProofs only [go_sem,Nat.reduceAdd,Nat.reduceMul,Nat.reduceEqDiff,Nat.reduceLT,Nat.reduceLeDiff,Nat.reduceSub,reduceCtorEq,Int.reduceLE,Int.reduceLT,Int.reduceToNat,Int.reduceAdd,hA',wPV,sel3,Nat.reduceLT])|((with_reducible refine Qab (a1) ?_ ?_ ?_);(with_reducible rfl);rfl)|((with_reducible refine Qab (a2) ?_ ?_ ?_);(with_reducible rfl);rfl)|((with_reducible refine Qab (a3) ?_ ?_ ?_);(with_reducible rfl);rfl)|((with_reducible refine Qab (q) ?_ ?_ ?_);(with_reducible rfl);rfl)|((with_reducible refine Qab (wi) ?_ ?_ ?_);(with_reducible rfl);rfl)|(with_reducible exact Qaa _ _ (by kernel_rfl))|(with_reducible refine And.intro (Qaa _ _ (by kernel_rfl)) ?_))
      refine⟨⟨1+1,hA⟩,by simp only;omega,Qaj (θ:=[(0,0),(106,106),(400,400)]) rfl ?_ ?_⟩
      ·simp [Qad,lkp,ren1,ren0,Qal]
      ·subst hR
       exact⟨⟨rfl,rfl,rfl,rfl,rfl,.inr ⟨rfl,_,_,rfl,rfl,rfl,rfl⟩⟩,⟨rfl,rfl,rfl,rfl,rfl,.inr ⟨rfl,_,_,rfl,rfl,rfl,rfl⟩⟩,⟨rfl,rfl,rfl,rfl,rfl,.inr ⟨rfl,_,_,rfl,rfl,rfl,rfl⟩⟩,trivial⟩
     ·obtain⟨hb1,hr1,hr2⟩:=hb2
      obtain rfl:i=2:=hi0
      have ii:Qfw (rnd x2 o)= .tup [.int .i64 (rnd x2 o),.int .i64 0]:=by unfold Qfw;rw [if_pos (by omega)]
      have wi:=Q2u (x:=rnd x2 o) (Qa5 (B:=64) (by have:(2:Nat)^64=18446744073709551616:=rfl;omega) (by decide))
      rw [ii]at wi
      have b1:=Qik hb1 hb1
      have b2:=Qt9 hb1 ho
      have a1:=Qgm (Qa5 hb1 (by decide)) (Qa5 hb1 (by decide)) (Qa5 b1 (by decide))
      have a2:=Qgm (Qa5 b1 (by decide)) (Qa5 ho (by decide)) (Qa5 b2 (by decide))
      have q:=Qmg b2 (by decide) (Qwv b3 (by decide)) (show 0<o+o by omega)
      have er:(x2+x2+o)/(o+o)=rnd x2 o:=rfl
      rw [er]at q
      clear er b1 b2 ii
      generalize hR:rnd x2 o=R at*
      generalize x2+x2+o=S at*
      generalize x2+x2=S1 at*
      generalize o+o=S2 at*
      repeat (first|(simp -implicitDefEqProofs only [go_sem,Nat.reduceAdd,Nat.reduceMul,Nat.reduceEqDiff,Nat.reduceLT,Nat.reduceLeDiff,Nat.reduceSub,reduceCtorEq,Int.reduceLE,Int.reduceLT,Int.reduceToNat,Int.reduceAdd,hA',wPV,sel3,Nat.reduceLT])|((with_reducible refine Qab (a1) ?_ ?_ ?_);(with_reducible rfl);rfl)|((with_reducible refine Qab (a2) ?_ ?_ ?_);(with_reducible rfl);rfl)|((with_reducible refine Qab (a3) ?_ ?_ ?_);(with_reducible rfl);rfl)|((with_reducible refine Qab (q) ?_ ?_ ?_);(with_reducible rfl);rfl)|((with_reducible refine Qab (wi) ?_ ?_ ?_);(with_reducible rfl);rfl)|(with_reducible exact Qaa _ _ (by kernel_rfl))|(with_reducible refine And.intro (Qaa _ _ (by kernel_rfl)) ?_))
      refine⟨⟨2+1,hA⟩,by simp only;omega,Qaj (θ:=[(0,0),(106,106),(400,400)]) rfl ?_ ?_⟩
      ·simp [Qad,lkp,ren1,ren0,Qal]
      ·subst hR
       exact⟨⟨rfl,rfl,rfl,rfl,rfl,.inr ⟨rfl,_,_,rfl,rfl,rfl,rfl⟩⟩,⟨rfl,rfl,rfl,rfl,rfl,.inr ⟨rfl,_,_,rfl,rfl,rfl,rfl⟩⟩,⟨rfl,rfl,rfl,rfl,rfl,.inr ⟨rfl,_,_,rfl,rfl,rfl,rfl⟩⟩,trivial⟩
    ·have hA':((i:Int)<3)=False:=eq_false (by omega)
     obtain rfl:i=3:=by omega
     have z0:sel3 (fun m=>rnd ([x0,x1,x2].getD m 0) o) 3 0=rnd x0 o:=rfl
     have z1:sel3 (fun m=>rnd ([x0,x1,x2].getD m 0) o) 3 1=rnd x1 o:=rfl
     have z2:sel3 (fun m=>rnd ([x0,x1,x2].getD m 0) o) 3 2=rnd x2 o:=rfl
     simp only [z0,z1,z2]
     repeat (first|(simp -implicitDefEqProofs only [go_sem,Nat.reduceAdd,Nat.reduceMul,Nat.reduceEqDiff,Nat.reduceLT,Nat.reduceLeDiff,Nat.reduceSub,reduceCtorEq,Int.reduceLE,Int.reduceLT,Int.reduceToNat,hA'])|(with_reducible exact Qaa _ _ (by kernel_rfl))|(with_reducible refine And.intro (Qaa _ _ (by kernel_rfl)) ?_))
end Go.Proofs.YtciddhkfbgkejaaGreatDoor

namespace Go.Proofs.YtciddhkfbgkejaaGreatDoor
open Go.Vl Go.RowKit Go.Dg
abbrev iB (xs:List Int):Box:={els:=xs.map (PV.int .i64),esz:=1,ety:=3,fro:=0,live:=true,arr:=true}
theorem Zpx (x:Int):Qag Tryz.prog 210 [.int .i64 x] (.bool false):=by
 refine Qac (tb:=[]) 6 [.tmp 2] [0,2] mixed Tryz.func210 rfl (by kernel_rfl) (by kernel_rfl) (by kernel_rfl) (by kernel_rfl) ?_
 repeat (first|(simp -implicitDefEqProofs only [go_sem,Nat.reduceAdd,Nat.reduceMul,Nat.reduceEqDiff,Nat.reduceLT,Nat.reduceLeDiff,reduceCtorEq,bne_self_eq_false]))
theorem Zm1 (x y:Int):Qag Tryz.prog 184 [.int .i64 x,.int .i64 y] (.bool (decide (x<y))):=by
 have h1:=Zpx x
 refine Qac (tb:=[]) 17 [.tmp 4] [0,1,4] mixed Tryz.func184 rfl (by kernel_rfl) (by kernel_rfl) (by kernel_rfl) (by kernel_rfl) ?_
 repeat (first|(simp -implicitDefEqProofs only [go_sem,Nat.reduceAdd,Nat.reduceMul,Nat.reduceEqDiff,Nat.reduceLT,Nat.reduceLeDiff,reduceCtorEq])|((with_reducible refine Qab (h1) ?_ ?_ ?_);(with_reducible rfl);rfl))
theorem iget (xs:List Int) (i:Nat) (h:i<xs.length):(xs.map (PV.int .i64))[i]? =some (.int .i64 (xs.getD i 0)):=by simp [h]
theorem iset (xs:List Int) (i:Nat) (x:Int):(xs.map (PV.int .i64)).set i (.int .i64 x)=(xs.set i x).map (PV.int .i64):=by rw [List.map_set]
set_option maxHeartbeats 1000000 in
theorem Zpy (xs:List Int) (hl:xs.length≤12):Qco Tryz.prog 178 [.bs 1000000 1 0 xs.length,.int .i64 0,.int .i64 (xs.length:Int)] [(1000000,iB xs)] (.tup []) [(1000000,iB (Qbr xs))]:=by
 refine Qb7 (tb:=[]) 49 [] [0,1,2,6,7,12,30] mixed Tryz.func178 rfl (by kernel_rfl) (by kernel_rfl) (by kernel_rfl) (by kernel_rfl) (by rfl) ?_
 repeat (first|(simp -implicitDefEqProofs only [go_sem,Nat.reduceAdd,Nat.reduceMul,Nat.reduceEqDiff,Nat.reduceLT,Nat.reduceLeDiff,reduceCtorEq,Int.reduceAdd,Qai (a:=0) (by decide)])|(with_reducible exact Qaa _ _ (by kernel_rfl))|(with_reducible refine And.intro (Qaa _ _ (by kernel_rfl)) ?_))
 refine Qar mixed (fun k:{k:Nat // k≤xs.length-1}=>St.of [(0,.bs 1000000 1 0 xs.length),(1,.int .i64 0),(2,.int .i64 (xs.length:Int)),(6,.int .i64 ((k.1+1:Nat):Int))] [(1000000,iB (isr xs k.1))]) (fun k=>xs.length-k.1) ⟨0,Nat.zero_le _⟩ ?_ ?_
 ·refine Qaj (θ:=[(1000000,1000000)]) rfl ?_ ?_
  ·simp [Qad,lkp,ren1,ren0,Qal]
  ·exact⟨⟨rfl,rfl,rfl,rfl,rfl,.inl ⟨rfl,rfl⟩⟩,trivial⟩
 ·rintro⟨k,hk⟩
  by_cases hA:k+1<xs.length
  ·have hA':(((k+1:Nat):Int)<(xs.length:Int))=True:=eq_true (by omega)
   repeat (first|(simp -implicitDefEqProofs only [go_sem,Nat.reduceAdd,Nat.reduceMul,Nat.reduceEqDiff,Nat.reduceLT,Nat.reduceLeDiff,reduceCtorEq,hA'])|(with_reducible exact Qaa _ _ (by kernel_rfl))|(with_reducible refine And.intro (Qaa _ _ (by kernel_rfl)) ?_))
   refine Qar mixed (fun z:{z:List Int×Nat // bub z.1 z.2=isr xs (k+1)∧z.1.length=xs.length∧z.2<xs.length}=>St.of [(0,.bs 1000000 1 0 xs.length),(1,.int .i64 0),(2,.int .i64 (xs.length:Int)),(6,.int .i64 ((k+1:Nat):Int)),(7,.int .i64 (z.1.2:Int))] [(1000000,iB z.1.1)]) (fun z=>z.1.2) ⟨(isr xs k,k+1),rfl,Qtu _ _,hA⟩ ?_ ?_
   ·refine Qaj (θ:=[(1000000,1000000)]) rfl ?_ ?_
    ·simp [Qad,lkp,ren1,ren0,Qal]
    ·exact⟨⟨rfl,rfl,rfl,rfl,rfl,.inl ⟨rfl,rfl⟩⟩,trivial⟩
   ·rintro⟨⟨L,j⟩,hb,hL,hj⟩
    simp only at hb hL hj ⊢
    have hw:=Qai (a:=k+1) (by omega)
    cases j with
    |zero=>
     have t0:((0:Int)<((0:Nat):Int))=False:=eq_false (by omega)
     have hLe:L=isr xs (k+1):=hb
     subst hLe
     repeat (first|(simp -implicitDefEqProofs only [go_sem,Nat.reduceAdd,Nat.reduceMul,Nat.reduceEqDiff,Nat.reduceLT,Nat.reduceLeDiff,reduceCtorEq,Int.reduceLT,t0,decide_false,hw])|(with_reducible exact Qaa _ _ (by kernel_rfl))|(with_reducible refine And.intro (Qaa _ _ (by kernel_rfl)) ?_))
     refine⟨⟨k+1,by omega⟩,by simp only;omega,Qaj (θ:=[(1000000,1000000)]) rfl ?_ ?_⟩
     ·simp [Qad,lkp,ren1,ren0,Qal]
     ·exact⟨⟨rfl,rfl,rfl,rfl,rfl,.inl ⟨rfl,rfl⟩⟩,trivial⟩
    |succ j=>
     have t0:((0:Int)<((j+1:Nat):Int))=True:=eq_true (by omega)
     have n1:=nnT (j+1)
     have n0:=nnT j
     have ws:=Qem (n:=j) (by omega)
     have l1:(((j+1:Nat):Int)<(xs.length:Int))=True:=eq_true (by omega)
     have l0:((j:Int)<(xs.length:Int))=True:=eq_true (by omega)
     have g1:=iget L (j+1) (by omega)
     have g0:=iget L j (by omega)
     have lss:=Zm1 (L.getD (j+1) 0) (L.getD j 0)
     unfold bub at hb
     by_cases hlt:L.getD (j+1) 0<L.getD j 0
     ·rw [if_pos hlt]at hb
      rw [decide_eq_true hlt]at lss
      have q1:=iset L (j+1) (L.getD j 0)
      have q2:=iset (L.set (j+1) (L.getD j 0)) j (L.getD (j+1) 0)
      have q3:(L.set (j+1) (L.getD j 0)).set j (L.getD (j+1) 0)=sw L (j+1):=rfl
      rw [q3]at q2
      have g3:((L.set (j+1) (L.getD j 0)).map (PV.int .i64))[j]? =some (.int .i64 (L.getD j 0)):=by
       rw [iget _ j (by rw [List.length_set];omega)]
       simp [List.getD_eq_getElem?_getD]
      repeat (first|(simp -implicitDefEqProofs only [go_sem,Nat.reduceAdd,Nat.reduceMul,Nat.reduceEqDiff,Nat.reduceLT,Nat.reduceLeDiff,reduceIte,reduceCtorEq,t0,n0,n1,ws,l0,l1,g0,g1,q1,q2,g3,Int.toNat_natCast])|((with_reducible refine Qab (lss) ?_ ?_ ?_);(with_reducible rfl);rfl)|(with_reducible exact Qaa _ _ (by kernel_rfl))|(with_reducible refine And.intro (Qaa _ _ (by kernel_rfl)) ?_))
      refine⟨⟨(sw L (j+1),j),hb,by rw [Zfx];exact hL,by omega⟩,by simp,Qaj (θ:=[(1000000,1000000)]) rfl ?_ ?_⟩
      ·simp [Qad,lkp,ren1,ren0,Qal]
      ·exact⟨⟨rfl,rfl,rfl,rfl,rfl,.inl ⟨rfl,rfl⟩⟩,trivial⟩
     ·rw [if_neg hlt]at hb
      rw [decide_eq_false hlt]at lss
      subst hb
      repeat (first|(simp -implicitDefEqProofs only [go_sem,Nat.reduceAdd,Nat.reduceMul,Nat.reduceEqDiff,Nat.reduceLT,Nat.reduceLeDiff,reduceCtorEq,t0,n0,n1,ws,l0,l1,g0,g1,hw,Int.toNat_natCast])|((with_reducible refine Qab (lss) ?_ ?_ ?_);(with_reducible rfl);rfl)|(with_reducible exact Qaa _ _ (by kernel_rfl))|(with_reducible refine And.intro (Qaa _ _ (by kernel_rfl)) ?_))
      refine⟨⟨k+1,by omega⟩,by simp only;omega,Qaj (θ:=[(1000000,1000000)]) rfl ?_ ?_⟩
      ·simp [Qad,lkp,ren1,ren0,Qal]
      ·exact⟨⟨rfl,rfl,rfl,rfl,rfl,.inl ⟨rfl,rfl⟩⟩,trivial⟩
  ·have hA':(((k+1:Nat):Int)<(xs.length:Int))=False:=eq_false (by omega)
   have hke:k=xs.length-1:=by omega
   repeat (first|(simp -implicitDefEqProofs only [go_sem,Nat.reduceAdd,Nat.reduceMul,Nat.reduceEqDiff,Nat.reduceLT,Nat.reduceLeDiff,reduceCtorEq,hA'])|(with_reducible exact Qaa _ _ (by kernel_rfl))|(with_reducible refine And.intro (Qaa _ _ (by kernel_rfl)) ?_))
   refine Qbl (.inr rfl) ?_
   simp -implicitDefEqProofs only [go_sem]
   refine Qaj (θ:=[(1000000,1000000)]) rfl ?_ ?_
   ·simp [Qad,lkp,ren1,ren0,Qal]
   ·subst hke
    exact⟨⟨rfl,rfl,rfl,rfl,rfl,.inl ⟨rfl,rfl⟩⟩,trivial⟩
end Go.Proofs.YtciddhkfbgkejaaGreatDoor

namespace Go.Proofs.YtciddhkfbgkejaaGreatDoor
open Go.Vl Go.RowKit Go.Dg
theorem Zpz (xs:List Int) (hl:xs.length≤12) (m:Int):Qco Tryz.prog 151 [.bs 1000000 1 0 xs.length,.int .i64 0,.int .i64 (xs.length:Int),.int .i64 m] [(1000000,iB xs)] (.tup []) [(1000000,iB (Qbr xs))]:=by
 have h:=Zpy xs hl
 have w0:IntKind.i64.wrap ((xs.length:Int)-0)=(xs.length:Int):=by rw [Int.sub_zero];exact wrapn (by omega)
 have h12:((xs.length:Int)≤12)=True:=eq_true (by omega)

 refine Qb7 (tb:=[(403,[(1000000,1000000)],[])]) 134 [] [0,1,2,3,8,9,10,11,12,13,14,15,16,17,18,23,29,35,50,68,72,87,113] mixed Tryz.func151 rfl (by kernel_rfl) (by kernel_rfl) (by kernel_rfl) (by kernel_rfl) (by rfl) ?_
 repeat (first|(simp -implicitDefEqProofs only [go_sem,Nat.reduceAdd,Nat.reduceMul,Nat.reduceEqDiff,Nat.reduceLT,Nat.reduceLeDiff,reduceCtorEq])|(with_reducible exact Qaa _ _ (by kernel_rfl))|(with_reducible refine And.intro (Qaa _ _ (by kernel_rfl)) ?_))
 refine Qar mixed (fun _:Unit=>St.of [(0,.bs 1000000 1 0 xs.length),(1,.int .i64 0),(2,.int .i64 (xs.length:Int)),(3,.int .i64 m),(8,.bool true),(9,.bool true)] [(1000000,iB xs)]) (fun _=>0) () ?_ ?_
 ·refine Qaj (θ:=[(1000000,1000000)]) rfl ?_ ?_
  ·simp [Qad,lkp,ren1,ren0,Qal]
  ·exact⟨⟨rfl,rfl,rfl,rfl,rfl,.inl ⟨rfl,rfl⟩⟩,trivial⟩
 ·rintro⟨⟩
  repeat (first|(simp -implicitDefEqProofs only [go_sem,Nat.reduceAdd,Nat.reduceMul,Nat.reduceEqDiff,Nat.reduceLT,Nat.reduceLeDiff,reduceCtorEq,w0,h12])|((with_reducible refine Qbs (h) ?_ ?_ ?_ ?_);(with_reducible rfl);rfl;rfl)|(with_reducible exact Qaa _ _ (by kernel_rfl))|(with_reducible refine And.intro (Qaa _ _ (by kernel_rfl)) ?_))
  refine Qbl (.inl rfl) ?_
  simp -implicitDefEqProofs only [go_sem]
  refine Qaj (θ:=[(1000000,1000000)]) rfl ?_ ?_
  ·simp [Qad,lkp,ren1,ren0,Qal]
  ·exact⟨⟨rfl,rfl,rfl,rfl,rfl,.inl ⟨rfl,rfl⟩⟩,trivial⟩
theorem Zm2 (n:Nat) (hn:n<18446744073709551616):Qag Tryz.prog 152 [.int .u64 (n:Int)] (.int .i64 (blen n:Int)):=by
 have h:=Q6v n hn
 refine Qac (tb:=[]) 8 [.tmp 2] [0,2] mixed Tryz.func152 rfl (by kernel_rfl) (by kernel_rfl) (by kernel_rfl) (by kernel_rfl) ?_
 repeat (first|(simp -implicitDefEqProofs only [go_sem,Nat.reduceAdd,Nat.reduceMul,Nat.reduceEqDiff,Nat.reduceLT,Nat.reduceLeDiff,reduceCtorEq])|((with_reducible refine Qab (h) ?_ ?_ ?_);(with_reducible rfl);rfl))
theorem Zm3 (xs:List Int) (hl:xs.length≤12):Qco Tryz.prog 97 [.bs 1000000 1 0 xs.length] [(1000000,iB xs)] (.tup []) [(1000000,iB (Qbr xs))]:=by
 have h1:=Zm2 xs.length (by omega)
 have h2:=Zpz xs hl (blen xs.length:Int)
 have w0:IntKind.u64.wrap (xs.length:Int)=(xs.length:Int):=Qit (by omega)

 refine Qb7 (tb:=[(105,[(1000000,1000000)],[])]) 11 [] [0,2] mixed Tryz.func97 rfl (by kernel_rfl) (by kernel_rfl) (by kernel_rfl) (by kernel_rfl) (by rfl) ?_
 repeat (first|(simp -implicitDefEqProofs only [go_sem,Nat.reduceAdd,Nat.reduceMul,Nat.reduceEqDiff,Nat.reduceLT,Nat.reduceLeDiff,reduceCtorEq,w0])|((with_reducible refine Qab (h1) ?_ ?_ ?_);(with_reducible rfl);rfl)|((with_reducible refine Qbs (h2) ?_ ?_ ?_ ?_);(with_reducible rfl);rfl;rfl))
 refine Qbl (.inr rfl) ?_
 simp -implicitDefEqProofs only [go_sem]
 refine Qaj (θ:=[(1000000,1000000)]) rfl ?_ ?_
 ·simp [Qad,lkp,ren1,ren0,Qal]
 ·exact⟨⟨rfl,rfl,rfl,rfl,rfl,.inl ⟨rfl,rfl⟩⟩,trivial⟩
def ddB (xs:List Int):List Int:=dd xs++List.replicate (xs.length-(dd xs).length) 0
set_option maxHeartbeats 4000000 in
theorem Q2t (xs:List Int) (hl:xs.length≤1000000):Qco Tryz.prog 98 [.bs 1000000 1 0 xs.length] [(1000000,iB xs)] (.bs 1000000 1 0 (dd xs).length) [(1000000,iB (ddB xs))]:=by
 by_cases h2:xs.length<2
 ·have h2':((xs.length:Int)<2)=True:=eq_true (by omega)
  have hd:dd xs=xs:=by
   match xs,h2 with
   | [],_=>rfl
   | [_],_=>rfl
  have hB:ddB xs=xs:=by unfold ddB;rw [hd,Nat.sub_self];simp
  rw [hd,hB]
  refine Qb7 (tb:=[]) 61 [.tmp 2] [0,2,3,4,5,8,13,25,32,44] mixed Tryz.func98 rfl (by kernel_rfl) (by kernel_rfl) (by kernel_rfl) (by kernel_rfl) (by rfl) ?_
  repeat (first|(simp -implicitDefEqProofs only [go_sem,Nat.reduceAdd,Nat.reduceMul,Nat.reduceEqDiff,Nat.reduceLT,Nat.reduceLeDiff,reduceCtorEq,h2'])|(with_reducible exact Qaa _ _ (by kernel_rfl))|(with_reducible refine And.intro (Qaa _ _ (by kernel_rfl)) ?_))
  refine Qbl (.inl rfl) ?_
  simp -implicitDefEqProofs only [go_sem,Nat.reduceEqDiff,reduceCtorEq]
  refine Qaj (θ:=[(1000000,1000000)]) rfl ?_ ?_
  ·simp [Qad,lkp,ren1,ren0,Qal]
  ·exact⟨⟨rfl,rfl,rfl,rfl,rfl,.inl ⟨rfl,rfl⟩⟩,trivial⟩
 ·have h2':((xs.length:Int)<2)=False:=eq_false (by omega)
  refine Qb7 (tb:=[]) 61 [.tmp 2] [0,2,3,4,5,8,13,25,32,44] mixed Tryz.func98 rfl (by kernel_rfl) (by kernel_rfl) (by kernel_rfl) (by kernel_rfl) (by rfl) ?_
  repeat (first|(simp -implicitDefEqProofs only [go_sem,Nat.reduceAdd,Nat.reduceMul,Nat.reduceEqDiff,Nat.reduceLT,Nat.reduceLeDiff,reduceCtorEq,h2'])|(with_reducible exact Qaa _ _ (by kernel_rfl))|(with_reducible refine And.intro (Qaa _ _ (by kernel_rfl)) ?_))
  refine Qar mixed (fun k:{k:Nat // 1≤k∧k≤xs.length∧dd (xs.take k)=xs.take k}=>St.of [(0,.bs 1000000 1 0 xs.length),(3,.int .i64 (k.1:Int))] [(1000000,iB xs)]) (fun k=>xs.length-k.1) ⟨1,by omega,by omega,?_⟩ ?_ ?_
  ·match xs,h2 with
   |a::_,_=>rfl
  ·refine Qaj (θ:=[(1000000,1000000)]) rfl ?_ ?_
   ·simp [Qad,lkp,ren1,ren0,Qal]
   ·exact⟨⟨rfl,rfl,rfl,rfl,rfl,.inl ⟨rfl,rfl⟩⟩,trivial⟩
  ·rintro⟨k,hk1,hk,hd⟩
   by_cases hA:k<xs.length
   ·have hA':=ltT hA
    obtain⟨i,rfl⟩: ∃i,k=i+1:=⟨k-1,by omega⟩
    have n1:=nnT (i+1)
    have n0:=nnT i
    have ws:=Qem (n:=i) (by omega)
    have l0:((i:Int)<(xs.length:Int))=True:=eq_true (by omega)
    have g1:=iget xs (i+1) hA
    have g0:=iget xs i (by omega)
    have hw:=Qai (a:=i+1) (by omega)
    have hdt:=Ql3 xs (i+1) hk1 hA
    rw [Nat.add_sub_cancel]at hdt
    by_cases he:xs.getD i 0=xs.getD (i+1) 0
    ·have he':(xs.getD (i+1) 0==xs.getD i 0)=true:=by rw [he];exact beq_self_eq_true _
     obtain⟨s1,s2⟩:=Q1g xs (i+1) hk1 hA hd (by rw [Nat.add_sub_cancel];exact he)
     have b1:(((i+1:Nat):Int)≤(xs.length:Int))=True:=eq_true (by omega)
     have b2:(i+1<xs.length)=True:=eq_true hA
     repeat (first|(simp -implicitDefEqProofs only [go_sem,Nat.reduceAdd,Nat.reduceMul,Nat.reduceEqDiff,Nat.reduceLT,Nat.reduceLeDiff,reduceCtorEq,hA',n0,n1,ws,l0,g0,g1,he',b1,b2,Int.toNat_natCast])|(with_reducible exact Qaa _ _ (by kernel_rfl))|(with_reducible refine And.intro (Qaa _ _ (by kernel_rfl)) ?_))
     refine Qar mixed (fun d:{d:Nat // 1≤d∧i+1+d≤xs.length∧(dd (xs.take (i+1+d))).length<i+1+d}=>St.of [(0,.bs 1000000 1 0 xs.length),(3,.int .i64 ((dd (xs.take (i+1+d.1))).length:Int)),(4,.bs 1000000 1 (i+1) (xs.length-(i+1))),(5,.int .i64 (d.1:Int))] [(1000000,iB (ddE xs (i+1+d.1)))]) (fun d=>xs.length-d.1) ⟨1,by omega,by omega,by rw [s2];omega⟩ ?_ ?_
     ·refine Qaj (θ:=[(1000000,1000000)]) rfl ?_ ?_
      ·simp only [s2]
       simp [Qad,lkp,ren1,ren0,Qal]
      ·simp only [s1]
       exact⟨⟨rfl,rfl,rfl,rfl,rfl,.inl ⟨rfl,rfl⟩⟩,trivial⟩
     ·rintro⟨d,hd1,hdn,hdl⟩
      simp only
      obtain⟨e,rfl⟩: ∃e,d=e+1:=⟨d-1,by omega⟩
      by_cases hD:i+1+(e+1)<xs.length
      ·have hD':(((e+1:Nat):Int)<((xs.length-(i+1):Nat):Int))=True:=eq_true (by omega)
       have m1:=nnT (e+1)
       have m0:=nnT e
       have we:=Qem (n:=e) (by omega)
       have we2:=Qai (a:=e+1) (by omega)
       have l1:((e:Int)<((xs.length-(i+1):Nat):Int))=True:=eq_true (by omega)
       have q1:((ddE xs (i+1+(e+1))).map (PV.int .i64))[i+1+(e+1)]? =some (.int .i64 (xs.getD (i+1+(e+1)) 0)):=by
        rw [iget _ _ (by rw [Ql4];exact hD),Q1f _ _ _ (by omega)]
       have q0:((ddE xs (i+1+(e+1))).map (PV.int .i64))[i+1+e]? =some (.int .i64 (xs.getD (i+1+e) 0)):=by
        rw [iget _ _ (by rw [Ql4];omega),Q1f _ _ _ (by omega)]
       have hj:i+1+(e+1)-1=i+1+e:=by omega
       by_cases hx:xs.getD (i+1+e) 0=xs.getD (i+1+(e+1)) 0
       ·have hx':(xs.getD (i+1+(e+1)) 0 != xs.getD (i+1+e) 0)=false:=by rw [hx];simp
        obtain⟨k1,k2⟩:=Q86 xs (i+1+(e+1)) (by omega) hD (by rw [hj];exact hx)
        repeat (first|(simp -implicitDefEqProofs only [go_sem,Nat.reduceAdd,Nat.reduceMul,Nat.reduceEqDiff,Nat.reduceLT,Nat.reduceLeDiff,reduceCtorEq,hD',m1,m0,we,we2,l1,q1,q0,hx',Int.toNat_natCast])|(with_reducible exact Qaa _ _ (by kernel_rfl))|(with_reducible refine And.intro (Qaa _ _ (by kernel_rfl)) ?_))
        refine⟨⟨e+1+1,by omega,by omega,by show(dd (xs.take (i+1+(e+1)+1))).length<_;rw [k2];omega⟩,by simp only;omega,Qaj (θ:=[(1000000,1000000)]) rfl ?_ ?_⟩
        ·have k3:(dd (xs.take (i+1+(e+1+1)))).length=(dd (xs.take (i+1+(e+1)))).length:=k2
         simp only [k3]
         simp [Qad,lkp,ren1,ren0,Qal]
        ·have k3:ddE xs (i+1+(e+1+1))=ddE xs (i+1+(e+1)):=k1
         simp only [k3]
         exact⟨⟨rfl,rfl,rfl,rfl,rfl,.inl ⟨rfl,rfl⟩⟩,trivial⟩
       ·have hx':(xs.getD (i+1+(e+1)) 0 != xs.getD (i+1+e) 0)=true:=bne_iff_ne.2 fun z=>hx z.symm
        have hdt2:=Ql3 xs (i+1+(e+1)) (by omega) hD
        rw [hj,if_neg hx]at hdt2
        have hst:=Zg2 xs (i+1+(e+1)) (by omega) hD hdl (by rw [hj];exact hx)
        have hst2:=iset (ddE xs (i+1+(e+1))) (dd (xs.take (i+1+(e+1)))).length (xs.getD (i+1+(e+1)) 0)
        rw [hst]at hst2
        have k2:(dd (xs.take (i+1+(e+1)+1))).length=(dd (xs.take (i+1+(e+1)))).length+1:=by rw [hdt2];simp
        have hg:=iget (ddE xs (i+1+(e+1))) (dd (xs.take (i+1+(e+1)))).length (by rw [Ql4];omega)
        generalize (dd (xs.take (i+1+(e+1)))).length=K at*
        have wk:=Qai (a:=K) (by omega)
        have nk:=nnT K
        have lk:((K:Int)<(xs.length:Int))=True:=eq_true (by omega)
        repeat (first|(simp -implicitDefEqProofs only [go_sem,Nat.reduceAdd,Nat.reduceMul,Nat.reduceEqDiff,Nat.reduceLT,Nat.reduceLeDiff,reduceIte,reduceCtorEq,hD',m1,m0,we,we2,l1,q1,q0,hx',wk,nk,lk,hg,hst2,Int.toNat_natCast])|(with_reducible exact Qaa _ _ (by kernel_rfl))|(with_reducible refine And.intro (Qaa _ _ (by kernel_rfl)) ?_))
        refine⟨⟨e+1+1,by omega,by omega,by show(dd (xs.take (i+1+(e+1)+1))).length<_;rw [k2];omega⟩,by simp only;omega,Qaj (θ:=[(1000000,1000000)]) rfl ?_ ?_⟩
        ·have k3:(dd (xs.take (i+1+(e+1+1)))).length=K+1:=k2
         simp only [k3]
         simp [Qad,lkp,ren1,ren0,Qal]
        ·exact⟨⟨rfl,rfl,rfl,rfl,rfl,.inl ⟨rfl,rfl⟩⟩,trivial⟩
      ·have hD':(((e+1:Nat):Int)<((xs.length-(i+1):Nat):Int))=False:=eq_false (by omega)
       have hn:i+1+(e+1)=xs.length:=by omega
       have hK:(dd (xs.take (i+1+(e+1)))).length=(dd xs).length:=by rw [hn,List.take_length]
       rw [hK]at hdl
       have c1:(((dd xs).length:Int)≤(xs.length:Int))=True:=eq_true (by omega)
       have c2:((dd xs).length<xs.length)=True:=eq_true (by omega)
       have nk:=nnT (dd xs).length
       have f1:(Nat.ble 0 (dd xs).length&&((dd xs).length+(xs.length-(dd xs).length)).ble ((ddE xs (i+1+(e+1))).map (PV.int .i64)).length)=true:=by
        rw [List.length_map,Ql4,Bool.and_eq_true]
        exact⟨Nat.ble_eq_true_of_le (Nat.zero_le _),Nat.ble_eq_true_of_le (by omega)⟩
       have f2:((ddE xs (i+1+(e+1))).map (PV.int .i64)).take (dd xs).length++List.replicate (xs.length-(dd xs).length) (PV.int .i64 0)++
         ((ddE xs (i+1+(e+1))).map (PV.int .i64)).drop ((dd xs).length+(List.replicate (xs.length-(dd xs).length) (PV.int .i64 0)).length)=(ddB xs).map (PV.int .i64):=by
        have g1:(ddE xs (i+1+(e+1))).take (dd xs).length=dd xs:=by
         unfold ddE
         rw [hn,List.take_length]
         exact List.take_left' rfl
        have g2:((ddE xs (i+1+(e+1))).map (PV.int .i64)).drop ((dd xs).length+(List.replicate (xs.length-(dd xs).length) (PV.int .i64 0)).length)=[]:=List.drop_eq_nil_of_le (by rw [List.length_map,Ql4,List.length_replicate];omega)
        rw [g2,←List.map_take,g1,List.append_nil]
        unfold ddB
        rw [List.map_append,List.map_replicate]
       have c3:(((dd xs).length:Int)≤(xs.length:Int))=True:=eq_true (by omega)
       simp only [hK]
       repeat (first|(simp -implicitDefEqProofs only [go_sem,Nat.reduceAdd,Nat.reduceMul,Nat.reduceEqDiff,Nat.reduceLT,Nat.reduceLeDiff,reduceCtorEq,hD',c1,c2,c3,nk,f1,f2,Int.toNat_natCast])|(with_reducible exact Qaa _ _ (by kernel_rfl))|(with_reducible refine And.intro (Qaa _ _ (by kernel_rfl)) ?_))
       refine Qbl (.inl rfl) ?_
       simp -implicitDefEqProofs only [go_sem,Nat.reduceEqDiff,reduceCtorEq]
       refine Qaj (θ:=[(1000000,1000000)]) rfl ?_ ?_
       ·simp [Qad,lkp,ren1,ren0,Qal]
       ·exact⟨⟨rfl,rfl,rfl,rfl,rfl,.inl ⟨rfl,rfl⟩⟩,trivial⟩
    ·have he':(xs.getD (i+1) 0==xs.getD i 0)=false:=beq_eq_false_iff_ne.2 fun e=>he e.symm
     repeat (first|(simp -implicitDefEqProofs only [go_sem,Nat.reduceAdd,Nat.reduceMul,Nat.reduceEqDiff,Nat.reduceLT,Nat.reduceLeDiff,reduceCtorEq,hA',n0,n1,ws,l0,g0,g1,he',hw,Int.toNat_natCast])|(with_reducible exact Qaa _ _ (by kernel_rfl))|(with_reducible refine And.intro (Qaa _ _ (by kernel_rfl)) ?_))
     refine⟨⟨i+1+1,by omega,by omega,?_⟩,by simp only;omega,Qaj (θ:=[(1000000,1000000)]) rfl ?_ ?_⟩
     ·rw [hdt,if_neg he,hd,List.take_add_one (i:=i+1),List.getElem?_eq_getElem hA,gD hA];rfl
     ·simp [Qad,lkp,ren1,ren0,Qal]
     ·exact⟨⟨rfl,rfl,rfl,rfl,rfl,.inl ⟨rfl,rfl⟩⟩,trivial⟩
   ·have hA':=ltF hA
    obtain rfl:k=xs.length:=by omega
    rw [List.take_length]at hd
    have hB:ddB xs=xs:=by unfold ddB;rw [hd,Nat.sub_self];simp
    rw [hd,hB]
    repeat (first|(simp -implicitDefEqProofs only [go_sem,Nat.reduceAdd,Nat.reduceMul,Nat.reduceEqDiff,Nat.reduceLT,Nat.reduceLeDiff,reduceCtorEq,hA'])|(with_reducible exact Qaa _ _ (by kernel_rfl))|(with_reducible refine And.intro (Qaa _ _ (by kernel_rfl)) ?_))
    refine Qbl (.inl rfl) ?_
    simp -implicitDefEqProofs only [go_sem,Nat.reduceEqDiff,reduceCtorEq]
    refine Qaj (θ:=[(1000000,1000000)]) rfl ?_ ?_
    ·simp [Qad,lkp,ren1,ren0,Qal]
    ·exact⟨⟨rfl,rfl,rfl,rfl,rfl,.inl ⟨rfl,rfl⟩⟩,trivial⟩
end Go.Proofs.YtciddhkfbgkejaaGreatDoor

namespace Go.Vl
open Go.RowKit
def Q0i (P:Program) (tb:Tab) (nt:Nat) (ks:List Nat) (c:Code) (k:List It) (Q:Exit→St→Prop):List Nat→St→Prop
 | [],_=>False
 |_::l,st=>go P tb nt ks (.code c:: .again (fun s=> ∃s',Le s s'∧Q0i P tb nt ks c k Q l s')::k) Q st
theorem Q0j (P:Program) (tb:Tab) (nt:Nat) (ks:List Nat) (c:Code) (k:List It) (Q:Exit→St→Prop) (i:Nat) (l:List Nat) (st:St):Q0i P tb nt ks c k Q (i::l) st=go P tb nt ks (.code c:: .again (fun s=> ∃s',Le s s'∧Q0i P tb nt ks c k Q l s')::k) Q st:=rfl
attribute [go_sem] Q0j
theorem Q8j {P:Program} {tb:Tab} {nt:Nat} {ks:List Nat} {k:List It} {Q:Exit→St→Prop} {st:St} (hm:P.follows .mixedOrders=true) {c:Code} (l:List Nat) (s0:St) (h0:Le st s0) (h:Q0i P tb nt ks c k Q l s0):go P tb nt ks (.code (.loop c)::k) Q st:=by
 simp only [go,vx]
 refine Qqn (fun x:{x:List Nat×St // Q0i P tb nt ks c k Q x.1 x.2}=>x.1.2) (fun x=>x.1.1.length) ⟨(l,s0),h⟩ h0 ?_
 rintro⟨⟨l,s⟩,h⟩
 cases l with
 |nil=>exact h.elim
 |cons i l=>
  simp only [Q0i,go]at h
  refine Qda (Qb1 (tb:=tb) (ks:=ks) hm c _ _ h) ?_
  intro e s q
  cases e with
  |normal=>simp only [gleave]at q;obtain⟨s',h1,h2⟩:=q;exact⟨⟨(l,s'),h2⟩,by simp,h1⟩
  |_=>simpa only [gleave,vthen]using q
end Go.Vl
