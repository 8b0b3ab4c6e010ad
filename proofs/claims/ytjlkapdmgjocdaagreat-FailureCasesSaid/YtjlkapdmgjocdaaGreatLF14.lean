/-
  LF11, LF12, LF13, LF14 (merged for the claim).
-/
import Derived.Test.YtjlkapdmgjocdaaGreatLF10
import Derived.Test.YtjlkapdmgjocdaaGreatRows
import Derived.Test.YtjlkapdmgjocdaaGreatUYD
set_option linter.unusedSimpArgs false
set_option linter.unusedVariables false
namespace Go.Proofs.YtjlkapdmgjocdaaGreat
open Go.Vl Go.RowKit Go.Dg
def casO (m x:Nat):List PV:=[.agg [.int .i64 ((x/m:Nat):Int),.int .i64 ((x%m:Nat):Int)]]
def Qg4 (n m:Nat):List (List PV):=(List.range (n*m)).map (casO m)
theorem Qe4 (n m:Nat):(Qg4 n m).length=n*m:=by simp [Qg4]
theorem Qe5 {n m x:Nat} (h:x<n*m):(Qg4 n m)[x]? =some (casO m x):=by simp [Qg4,h]
theorem Qxu {m i k:Nat} (h:k<m):casO m (i*m+k)=[.agg [.int .i64 (i:Int),.int .i64 (k:Int)]]:=by
 unfold casO
 have h1:(i*m+k)/m=i:=by rw [Nat.add_comm,Nat.add_mul_div_right _ _ (by omega),Nat.div_eq_of_lt h];omega
 have h2:(i*m+k)%m=k:=by rw [Nat.add_comm,Nat.add_mul_mod_self_right,Nat.mod_eq_of_lt h]
 rw [h1,h2]
theorem Qhr {P:Program} {tb:Tab} {nt:Nat} {ks:List Nat} (K:List It) (Q:Exit→St→Prop) (i:Nat) (st:St):gleave P tb nt ks K Q (.exit i) st=gexit P tb nt ks i K Q st:=rfl
theorem Qhd {i n m k:Nat} (h:i<n) (hk:k≤m):i*m+k≤n*m:=by
 have:(i+1)*m≤n*m:=Nat.mul_le_mul_right m h
 rw [Nat.add_mul]at this;omega
set_option maxHeartbeats 2000000 in
theorem Qj1 (n m:Nat) (hn:n≤100000) (hm:m≤100000):Qir Tryz.prog 40 [.rp [.int .i64 (n:Int)],.rp [.int .i64 (m:Int)]] (Qg4 n m):=by
 have hgO:=fun{x} h=>Qe5 (n:=n) (m:=m) (x:=x) h
 have hlO:=Qe4 n m
 generalize hOO:Qg4 n m=OO at*
 refine Qis (tb:=[]) 22 [0,1,2,4,5,6,7,8,10,11,12,19] mixed Tryz.func40 rfl (by kernel_rfl) (by kernel_rfl) (by kernel_rfl) (by kernel_rfl) fun l stop=> ?_
 repeat (first|(simp -implicitDefEqProofs only [go_sem,Nat.reduceAdd,Nat.reduceMul,Nat.reduceEqDiff,Nat.reduceLT,Nat.reduceLeDiff,reduceCtorEq]))
 refine Qb5 mixed (fun i:{i:Nat // i≤n∧i*m≤stop}=>St.ofG [(0,.yld l stop),(1,.rp [.int .i64 (n:Int)]),(2,.rp [.int .i64 (m:Int)]),(6,.int .i64 (n:Int)),(7,.int .i64 (i.1:Int))] [] (OO.take (i.1*m)) (some (l,stop,OO))) (fun i=>n-i.1) ⟨0,Nat.zero_le _,by rw [Nat.zero_mul];exact Nat.zero_le _⟩ ?_ ?_
 ·simp only [Nat.zero_mul,List.take_zero]
  refine Qaq (θ:=[]) rfl ?_ ?_
  ·simp [Qad,lkp,ren1,ren0,Qae]
  ·trivial
 ·rintro⟨i,hi,hst⟩
  simp only
  have hwi:=wr_1 (n:=i) (by omega)
  by_cases hA:i<n
  case neg=>
   have hA':=lt_F hA
   obtain rfl:i=n:=by omega
   have e1:OO.take (i*m)=OO:=List.take_of_length_le (by omega)
   have e2:OO.take (stop+1)=OO:=List.take_of_length_le (by omega)
   rw [e1]
   repeat (first|(simp -implicitDefEqProofs only [go_sem,Nat.reduceAdd,Nat.reduceMul,Nat.reduceEqDiff,Nat.reduceLT,Nat.reduceLeDiff,reduceCtorEq,hA',Qhb,e2]))
  have hA':=lt_T hA
  repeat (first|(simp -implicitDefEqProofs only [go_sem,Nat.reduceAdd,Nat.reduceMul,Nat.reduceEqDiff,Nat.reduceLT,Nat.reduceLeDiff,reduceCtorEq,hA']))
  refine Qb5 mixed (fun k:{k:Nat // k≤m∧i*m+k≤stop}=>St.ofG [(0,.yld l stop),(1,.rp [.int .i64 (n:Int)]),(2,.rp [.int .i64 (m:Int)]),(4,.int .i64 (i:Int)),(6,.int .i64 (n:Int)),(7,.int .i64 (i:Int)),(10,.int .i64 (m:Int)),(11,.int .i64 (k.1:Int))] [] (OO.take (i*m+k.1)) (some (l,stop,OO))) (fun k=>m-k.1) ⟨0,Nat.zero_le _,hst⟩ ?_ ?_
  ·simp only [Nat.add_zero]
   refine Qaq (θ:=[]) rfl ?_ ?_
   ·simp [Qad,lkp,ren1,ren0,Qae]
   ·trivial
  ·rintro⟨k,hk,hst2⟩
   simp only
   have hwk:=wr_1 (n:=k) (by omega)
   by_cases hB:k<m
   case neg=>
    have hB':=lt_F hB
    obtain rfl:k=m:=by omega
    have e1:(i+1)*k=i*k+k:=by rw [Nat.add_mul,Nat.one_mul]
    repeat (first|(simp -implicitDefEqProofs only [go_sem,Nat.reduceAdd,Nat.reduceMul,Nat.reduceEqDiff,Nat.reduceLT,Nat.reduceLeDiff,reduceCtorEq,hB',hwi]))
    refine⟨⟨i+1,hA,by omega⟩,by simp only;omega,?_⟩
    simp only [e1]
    refine Qaq (θ:=[]) rfl ?_ ?_
    ·simp [Qad,lkp,ren1,ren0,Qae]
    ·trivial
   have hB':=lt_T hB
   have hx:=Qhd (m:=m) (k:=k+1) hA (by omega)
   have hlen:(OO.take (i*m+k)).length=i*m+k:=by rw [List.length_take];omega
   have hgt:=hgO (x:=i*m+k) (by omega)
   rw [Qxu hB]at hgt
   have htk:OO.take (i*m+k+1)=OO.take (i*m+k)++[[.agg [.int .i64 (i:Int),.int .i64 (k:Int)]]]:=by rw [List.take_add_one,hgt];rfl
   have hst':(i*m+k≤stop)=True:=eq_true hst2
   by_cases hlt:i*m+k<stop
   ·have hlt':(i*m+k<stop)=True:=eq_true hlt
    repeat (first|(simp -implicitDefEqProofs only [go_sem,Nat.reduceAdd,Nat.reduceMul,Nat.reduceEqDiff,Nat.reduceLT,Nat.reduceLeDiff,reduceCtorEq,hB',hwk,hlen,hgt,hst',hlt',decide_true]))
    refine⟨⟨k+1,hB,by omega⟩,by simp only;omega,?_⟩
    simp only [←Nat.add_assoc,htk]
    refine Qaq (θ:=[]) rfl ?_ ?_
    ·simp [Qad,lkp,ren1,ren0,Qae]
    ·trivial
   ·have hlt':(i*m+k<stop)=False:=eq_false hlt
    obtain rfl:i*m+k=stop:=by omega
    repeat (first|(simp -implicitDefEqProofs only [go_sem,Nat.reduceAdd,Nat.reduceMul,Nat.reduceEqDiff,Nat.reduceLT,Nat.reduceLeDiff,reduceCtorEq,hB',hwk,hlen,hgt,hst',hlt',Qhb,htk,decide_false]))
def acN (p:Pg):Nat:=if Qbg p=true then p.as_.length else 0
theorem Qqm (p:Pg) (hp:okP p):Qan Tryz.prog 21 [pgV p] (.fn 40 [] [.rp [.int .i64 (p.ns.length:Int)],.rp [.int .i64 (acN p:Int)]]):=by
 have hV:=Qhu p hp
 unfold acN
 cases e:Qbg p with
 |false=>
  rw [e]at hV
  rw [if_neg Bool.false_ne_true,show((0:Nat):Int)=0 from rfl]
  unfold pgV at hV ⊢
  refine Qac (tb:=[]) 15 [.tmp 2] [0,1,2,3,4,13] mixed Tryz.func21 rfl (by kernel_rfl) (by kernel_rfl) (by kernel_rfl) (by kernel_rfl) ?_
  repeat (first|(simp -implicitDefEqProofs only [go_sem,Nat.reduceAdd,Nat.reduceMul,Nat.reduceEqDiff,Nat.reduceLT,Nat.reduceLeDiff,reduceCtorEq,Bool.not_false,List.length_map])|((with_reducible refine Qab (hV) ?_ ?_ ?_);(with_reducible rfl);rfl)|(with_reducible exact Qaa _ _ (by kernel_rfl))|(with_reducible refine And.intro (Qaa _ _ (by kernel_rfl)) ?_))
 |true=>
  rw [e]at hV
  rw [if_pos rfl]
  unfold pgV at hV ⊢
  refine Qac (tb:=[]) 15 [.tmp 2] [0,1,2,3,4,13] mixed Tryz.func21 rfl (by kernel_rfl) (by kernel_rfl) (by kernel_rfl) (by kernel_rfl) ?_
  repeat (first|(simp -implicitDefEqProofs only [go_sem,Nat.reduceAdd,Nat.reduceMul,Nat.reduceEqDiff,Nat.reduceLT,Nat.reduceLeDiff,reduceCtorEq,Bool.not_true,List.length_map])|((with_reducible refine Qab (hV) ?_ ?_ ?_);(with_reducible rfl);rfl)|(with_reducible exact Qaa _ _ (by kernel_rfl))|(with_reducible refine And.intro (Qaa _ _ (by kernel_rfl)) ?_))
def cntV (p:Pg):Int:=if Qbg p=true then((p.ns.length*p.as_.length:Nat):Int)else 0
def cntR (p:Pg):Int:=if Qbg p=true then(if p.as_.length=0 then 9 else 0)else 2
set_option maxHeartbeats 2000000 in
theorem Qqn (p:Pg) (hp:okP p):Qan Tryz.prog 20 [pgV p] (.tup [.int .i64 (cntV p),.int .i64 (cntR p)]):=by
 have hV:=Qhu p hp
 have hC:=Qqm p hp
 unfold cntV cntR
 unfold acN at hC
 cases e:Qbg p with
 |false=>
  rw [e]at hV
  rw [if_neg Bool.false_ne_true,if_neg Bool.false_ne_true]
  unfold pgV at hV ⊢
  refine Qac (tb:=[]) 34 [.tmp 2,.tmp 3] [0,1,2,3,4,5,6,7,11,26,27,32] mixed Tryz.func20 rfl (by kernel_rfl) (by kernel_rfl) (by kernel_rfl) (by kernel_rfl) ?_
  repeat (first|(simp -implicitDefEqProofs only [go_sem,Nat.reduceAdd,Nat.reduceMul,Nat.reduceEqDiff,Nat.reduceLT,Nat.reduceLeDiff,reduceCtorEq,Bool.not_false])|((with_reducible refine Qab (hV) ?_ ?_ ?_);(with_reducible rfl);rfl))
 |true=>
 rw [e]at hV hC
 rw [if_pos rfl]at hC
 rw [if_pos rfl,if_pos rfl]
 obtain⟨hcr,hpa, -, -⟩:=Qb0 e
 obtain⟨z1,z2⟩:1≤p.ns.length∧p.ns.length≤64:=by
  unfold Qk1 at hcr
  simp only [Bool.and_eq_true,decide_eq_true_eq]at hcr
  exact⟨hcr.1,hcr.2.1⟩
 by_cases h0:p.as_.length=0
 ·have h0':((p.as_.length:Int)==0)=true:=by rw [h0];rfl
  rw [if_pos h0,h0,Nat.mul_zero,show((0:Nat):Int)=0 from rfl]
  unfold pgV at hV ⊢
  refine Qac (tb:=[]) 34 [.tmp 2,.tmp 3] [0,1,2,3,4,5,6,7,11,26,27,32] mixed Tryz.func20 rfl (by kernel_rfl) (by kernel_rfl) (by kernel_rfl) (by kernel_rfl) ?_
  repeat (first|(simp -implicitDefEqProofs only [go_sem,Nat.reduceAdd,Nat.reduceMul,Nat.reduceEqDiff,Nat.reduceLT,Nat.reduceLeDiff,reduceCtorEq,Bool.not_true,h0',List.length_map])|((with_reducible refine Qab (hV) ?_ ?_ ?_);(with_reducible rfl);rfl))
 have h0':((p.as_.length:Int)==0)=false:=beq_eq_false_iff_ne.2 (by omega)
 rw [if_neg h0]
 have hY:=Qj1 p.ns.length p.as_.length (by omega) (by omega)
 have w1:IntKind.i64.wrap ((p.ns.length:Int)-1)=((p.ns.length-1:Nat):Int):=by rw [Qam (by omega) (by omega)];omega
 have w2:IntKind.i64.wrap ((p.as_.length:Int)-1)=((p.as_.length-1:Nat):Int):=by rw [Qam (by omega) (by omega)];omega
 unfold pgV at hV hC ⊢
 refine Qac (tb:=[]) 34 [.tmp 2,.tmp 3] [0,1,2,3,4,5,6,7,11,26,27,32] mixed Tryz.func20 rfl (by kernel_rfl) (by kernel_rfl) (by kernel_rfl) (by kernel_rfl) ?_
 repeat (first|(simp -implicitDefEqProofs only [go_sem,Nat.reduceAdd,Nat.reduceMul,Nat.reduceEqDiff,Nat.reduceLT,Nat.reduceLeDiff,reduceCtorEq,Bool.not_true,h0',w1,w2,List.length_map])|((with_reducible refine Qab (hV) ?_ ?_ ?_);(with_reducible rfl);rfl)|((with_reducible refine Qab (hC) ?_ ?_ ?_);(with_reducible rfl);rfl))
 obtain⟨n,hn⟩: ∃n,p.ns.length=n:=⟨_,rfl⟩
 obtain⟨m,hm⟩: ∃n,p.as_.length=n:=⟨_,rfl⟩
 rw [hn,hm]at hY ⊢
 rw [hn]at z1 z2
 rw [hm]at h0 hpa
 have hlO:=Qe4 n m
 have hgO:=fun{x} h=>Qe5 (n:=n) (m:=m) (x:=x) h
 have hnm:0<n*m:=Nat.mul_pos (by omega) (by omega)
 have hnm2:n*m≤64*60:=Nat.mul_le_mul z2 hpa
 have hmin:min (Qg4 n m).length (n*m-1+1)=n*m:=by omega
 refine Qby mixed hY rfl rfl _ rfl [(1000000,510),(1000001,509)] [1000000,1000001] rfl
  [(4,.bp 1000001 2 0 0),(5,.bp 1000000 1 0 0)]
  (fun j=>[(1000000,{els:=[.int .i64 (j:Int)],esz:=1,ety:=3,fro:=0,live:=true,arr:=false}),(1000001,{els:=[.agg [.int .i64 ((n-1:Nat):Int),.int .i64 ((m-1:Nat):Int)]],esz:=2,ety:=30,fro:=0,live:=true,arr:=false})]) rfl rfl ?_ ?_ ?_ (n*m-1) (.exit 1) (fun _=>rfl) (fun j _ _=>by simp [lkp]) ?_ rfl ?_
  [(510,1000000)] [(5,.bp 510 1 0 0)] [(510,{els:=[.int .i64 ((n*m:Nat):Int)],esz:=1,ety:=3,fro:=0,live:=true,arr:=false})] rfl rfl ?_ ?_ (fun h=>by omega) (fun _=> ?_)
 ·simp [Qad,lkp,ren1,ren0,Qae]
 ·exact⟨⟨rfl,rfl,rfl,rfl,rfl,.inr ⟨rfl,_,_,rfl,rfl,rfl,rfl⟩⟩,⟨rfl,rfl,rfl,rfl,rfl,.inr ⟨rfl,_,_,rfl,rfl,rfl,rfl⟩⟩,trivial⟩
 ·simp [Qad,lkp,ren1,ren0,Qae,Qc6]
 ·intro j args h
  simp only [Qg4,List.getElem?_map,Option.map_eq_some_iff]at h
  obtain⟨x, -,rfl⟩:=h
  rfl
 ·rintro j args hja hjs
  have hj:j<n*m:=by omega
  rw [hgO hj]at hja
  cases hja
  have hwj:=wr_1 (n:=j) (by omega)
  have hdm:=Nat.div_add_mod j m
  have hml:j%m<m:=Nat.mod_lt _ (by omega)
  have hdl:j/m<n:=Nat.div_lt_of_lt_mul (by rw [Nat.mul_comm];exact hj)
  unfold casO
  by_cases hlast:j=n*m-1
  ·have q1:j/m=n-1:=by
    have h1:j+1=n*m:=by omega
    have h2:j=(n-1)*m+(m-1):=by
     have:(n-1)*m+m=n*m:=by rw [←Nat.succ_mul];congr 1;omega
     omega
    rw [h2,Nat.add_comm,Nat.add_mul_div_right _ _ (by omega),Nat.div_eq_of_lt (by omega)];omega
   have q2:j%m=m-1:=by
    have h3:(n-1)*m+m=n*m:=by rw [←Nat.succ_mul];congr 1;omega
    rw [q1,Nat.mul_comm]at hdm
    omega
   have hE:((((j/m:Nat):Int)==((n-1:Nat):Int))&&(((j%m:Nat):Int)==((m-1:Nat):Int)))=true:=by rw [q1,q2];simp
   repeat (first|(simp -implicitDefEqProofs only [go_sem,Nat.reduceAdd,Nat.reduceMul,Nat.reduceEqDiff,Nat.reduceLT,Nat.reduceLeDiff,reduceCtorEq,pvars,List.toList_toArray]))
   refine⟨by simp [lkp],?_⟩
   repeat (first|(simp -implicitDefEqProofs only [go_sem,Nat.reduceEqDiff,hwj,hE]))
   refine⟨hlast,rfl,?_⟩
   refine Qaq (θ:=[(1000000,1000000),(1000001,1000001)]) rfl ?_ ?_
   ·simp [Qad,lkp,ren1,ren0,Qae]
   ·exact⟨⟨rfl,rfl,rfl,rfl,rfl,.inr ⟨rfl,_,_,rfl,rfl,rfl,rfl⟩⟩,⟨rfl,rfl,rfl,rfl,rfl,.inr ⟨rfl,_,_,rfl,rfl,rfl,rfl⟩⟩,trivial⟩
  ·have hE:((((j/m:Nat):Int)==((n-1:Nat):Int))&&(((j%m:Nat):Int)==((m-1:Nat):Int)))=false:=by
    rw [Bool.and_eq_false_iff]
    by_cases q1:j/m=n-1
    ·right
     refine beq_eq_false_iff_ne.2 fun q2=>hlast ?_
     have h3:(n-1)*m+m=n*m:=by rw [←Nat.succ_mul];congr 1;omega
     rw [q1,Nat.mul_comm]at hdm
     omega
    ·left
     exact beq_eq_false_iff_ne.2 (by omega)
   repeat (first|(simp -implicitDefEqProofs only [go_sem,Nat.reduceAdd,Nat.reduceMul,Nat.reduceEqDiff,Nat.reduceLT,Nat.reduceLeDiff,reduceCtorEq,pvars,List.toList_toArray]))
   refine⟨by simp [lkp],?_⟩
   repeat (first|(simp -implicitDefEqProofs only [go_sem,hwj,hE]))
   refine⟨by omega,?_⟩
   refine Qaq (θ:=[(1000000,1000000),(1000001,1000001)]) rfl ?_ ?_
   ·simp [Qad,lkp,ren1,ren0,Qae]
   ·exact⟨⟨rfl,rfl,rfl,rfl,rfl,.inr ⟨rfl,_,_,rfl,rfl,rfl,rfl⟩⟩,⟨rfl,rfl,rfl,rfl,rfl,.inr ⟨rfl,_,_,rfl,rfl,rfl,rfl⟩⟩,trivial⟩
 ·simp [Qad,lkp,ren1,ren0,Qae]
 ·rw [hmin]
  exact⟨⟨rfl,rfl,rfl,rfl,rfl,.inr ⟨rfl,_,_,rfl,rfl,rfl,rfl⟩⟩,trivial⟩
 ·rw [Qhr]
  repeat (first|(simp -implicitDefEqProofs only [go_sem,Nat.reduceAdd,Nat.reduceMul,Nat.reduceEqDiff,Nat.reduceLT,Nat.reduceLeDiff,reduceCtorEq]))
def FewP (p:Pg):Prop:=p.ns.length≤5∧p.hs.length≤5∧p.as_.length≤5∧(∀i,i<p.ns.length→(nmAt p i).size≤60)∧(∀i,i<p.as_.length→(p.as_.getD i ac0).nm.size≤60∧(p.as_.getD i ac0).mv.length≤5)
instance (p:Pg):Decidable (FewP p):=by unfold FewP;infer_instance
theorem Qxe {p:Pg} (h:FewP p):okP p:=by
 obtain⟨h1,h2,h3,h4,h5⟩:=h
 refine⟨by omega,by omega,by omega,fun i=> ?_,fun i=> ?_⟩
 ·by_cases hi:i<p.ns.length
  ·have:=h4 i hi;omega
  ·unfold nmAt
   rw [List.getD_eq_getElem?_getD,List.getElem?_eq_none (by omega)]
   exact Nat.zero_le _
 ·by_cases hi:i<p.as_.length
  ·have:=h5 i hi;omega
  ·rw [List.getD_eq_getElem?_getD,List.getElem?_eq_none (by omega)]
   exact⟨Nat.zero_le _,Nat.zero_le _⟩
set_option maxHeartbeats 2000000 in
theorem Q3k (p:Pg):Qan Tryz.prog 9 [pgV p,.int .i64 5,.int .i64 5] (.bool (decide (FewP p))):=by
 unfold pgV
 by_cases e1:p.ns.length≤5
 case neg=>
  have e1':((5:Int)<(p.ns.length:Int))=True:=eq_true (by omega)
  have e0:decide (FewP p)=false:=decide_eq_false (fun h=>absurd (h.1) e1)
  rw [e0]
  refine Qac (tb:=[]) 68 [.tmp 6] [0,1,2,3,6,7,8,27,32,41,46,67] mixed Tryz.func9 rfl (by kernel_rfl) (by kernel_rfl) (by kernel_rfl) (by kernel_rfl) ?_
  repeat (first|(simp -implicitDefEqProofs only [go_sem,Nat.reduceAdd,Nat.reduceMul,Nat.reduceEqDiff,Nat.reduceLT,Nat.reduceLeDiff,reduceCtorEq,e1',decide_true,List.length_map]))
 have e1':((5:Int)<(p.ns.length:Int))=False:=eq_false (by omega)
 by_cases e2:p.hs.length≤5
 case neg=>
  have e2':((5:Int)<(p.hs.length:Int))=True:=eq_true (by omega)
  have e0:decide (FewP p)=false:=decide_eq_false (fun h=>absurd (h.2.1) e2)
  rw [e0]
  refine Qac (tb:=[]) 68 [.tmp 6] [0,1,2,3,6,7,8,27,32,41,46,67] mixed Tryz.func9 rfl (by kernel_rfl) (by kernel_rfl) (by kernel_rfl) (by kernel_rfl) ?_
  repeat (first|(simp -implicitDefEqProofs only [go_sem,Nat.reduceAdd,Nat.reduceMul,Nat.reduceEqDiff,Nat.reduceLT,Nat.reduceLeDiff,reduceCtorEq,e1',e2',decide_true,decide_false,List.length_map]))
 have e2':((5:Int)<(p.hs.length:Int))=False:=eq_false (by omega)
 by_cases e3:p.as_.length≤5
 case neg=>
  have e3':((5:Int)<(p.as_.length:Int))=True:=eq_true (by omega)
  have e0:decide (FewP p)=false:=decide_eq_false (fun h=>absurd (h.2.2.1) e3)
  rw [e0]
  refine Qac (tb:=[]) 68 [.tmp 6] [0,1,2,3,6,7,8,27,32,41,46,67] mixed Tryz.func9 rfl (by kernel_rfl) (by kernel_rfl) (by kernel_rfl) (by kernel_rfl) ?_
  repeat (first|(simp -implicitDefEqProofs only [go_sem,Nat.reduceAdd,Nat.reduceMul,Nat.reduceEqDiff,Nat.reduceLT,Nat.reduceLeDiff,reduceCtorEq,e1',e2',e3',decide_true,decide_false,List.length_map]))
 have e3':((5:Int)<(p.as_.length:Int))=False:=eq_false (by omega)
 refine Qac (tb:=[]) 68 [.tmp 6] [0,1,2,3,6,7,8,27,32,41,46,67] mixed Tryz.func9 rfl (by kernel_rfl) (by kernel_rfl) (by kernel_rfl) (by kernel_rfl) ?_
 repeat (first|(simp -implicitDefEqProofs only [go_sem,Nat.reduceAdd,Nat.reduceMul,Nat.reduceEqDiff,Nat.reduceLT,Nat.reduceLeDiff,reduceCtorEq,e1',e2',e3',decide_false,List.length_map]))
 refine Qb5 mixed (fun k:{k:Nat // k≤p.ns.length∧ ∀i,i<k→(nmAt p i).size≤60}=>St.of [(1,.int .i64 5),(2,.int .i64 5),(3,.bp 0 3 0 0),(7,.int .i64 (k.1:Int))] [(0,{els:=[.agg [.slc (p.ns.map PV.str),.slc (p.hs.map v3PV),.slc (p.as_.map acV)]],esz:=3,ety:=26,fro:=0,live:=true,arr:=false})]) (fun k=>p.ns.length-k.1) ⟨0,Nat.zero_le _,fun i h=>absurd h (Nat.not_lt_zero _)⟩ ?_ ?_
 ·refine Qaq (θ:=[(0,0)]) rfl ?_ ?_
  ·simp [Qad,lkp,ren1,ren0,Qae]
  ·exact⟨⟨rfl,rfl,rfl,rfl,rfl,.inr ⟨rfl,_,_,rfl,rfl,rfl,rfl⟩⟩,trivial⟩
 ·rintro⟨k,hk,hI⟩
  simp only
  have n0:=nn_T k
  have hwk:=wr_1 (n:=k) (by omega)
  by_cases hA:k<p.ns.length
  ·have hA':=lt_T hA
   have gn:=Qxg hA
   by_cases hB:(nmAt p k).size≤60
   ·have hB':((60:Int)<((nmAt p k).size:Int))=False:=eq_false (by omega)
    repeat (first|(simp -implicitDefEqProofs only [go_sem,Nat.reduceAdd,Nat.reduceMul,Nat.reduceEqDiff,Nat.reduceLT,Nat.reduceLeDiff,reduceCtorEq,hA',n0,gn,hB',hwk,Int.toNat_natCast,List.length_map]))
    refine⟨⟨k+1,hA,fun i hi=> ?_⟩,by simp only;omega,?_⟩
    ·rcases Nat.lt_succ_iff_lt_or_eq.1 hi with h|rfl
     ·exact hI i h
     ·exact hB
    refine Qaq (θ:=[(0,0)]) rfl ?_ ?_
    ·simp [Qad,lkp,ren1,ren0,Qae]
    ·exact⟨⟨rfl,rfl,rfl,rfl,rfl,.inr ⟨rfl,_,_,rfl,rfl,rfl,rfl⟩⟩,trivial⟩
   ·have hB':((60:Int)<((nmAt p k).size:Int))=True:=eq_true (by omega)
    have e0:decide (FewP p)=false:=decide_eq_false (fun h=>absurd (h.2.2.2.1 k hA) hB)
    rw [e0]
    repeat (first|(simp -implicitDefEqProofs only [go_sem,Nat.reduceAdd,Nat.reduceMul,Nat.reduceEqDiff,Nat.reduceLT,Nat.reduceLeDiff,reduceCtorEq,hA',n0,gn,hB',hwk,Int.toNat_natCast,List.length_map]))
  ·have hA':=lt_F hA
   obtain rfl:k=p.ns.length:=by omega
   repeat (first|(simp -implicitDefEqProofs only [go_sem,Nat.reduceAdd,Nat.reduceMul,Nat.reduceEqDiff,Nat.reduceLT,Nat.reduceLeDiff,reduceCtorEq,hA',List.length_map]))
   refine Qb5 mixed (fun k:{k:Nat // k≤p.as_.length∧ ∀i,i<k→(p.as_.getD i ac0).nm.size≤60∧(p.as_.getD i ac0).mv.length≤5}=>St.of [(1,.int .i64 5),(2,.int .i64 5),(3,.bp 0 3 0 0),(8,.int .i64 (k.1:Int))] [(0,{els:=[.agg [.slc (p.ns.map PV.str),.slc (p.hs.map v3PV),.slc (p.as_.map acV)]],esz:=3,ety:=26,fro:=0,live:=true,arr:=false})]) (fun k=>p.as_.length-k.1) ⟨0,Nat.zero_le _,fun i h=>absurd h (Nat.not_lt_zero _)⟩ ?_ ?_
   ·refine Qaq (θ:=[(0,0)]) rfl ?_ ?_
    ·simp [Qad,lkp,ren1,ren0,Qae]
    ·exact⟨⟨rfl,rfl,rfl,rfl,rfl,.inr ⟨rfl,_,_,rfl,rfl,rfl,rfl⟩⟩,trivial⟩
   ·rintro⟨k,hk,hJ⟩
    simp only
    have n0:=nn_T k
    have hwk:=wr_1 (n:=k) (by omega)
    by_cases hA:k<p.as_.length
    ·have hA':=lt_T hA
     have ga:=Qgi hA
     by_cases hB:(p.as_.getD k ac0).nm.size≤60
     case neg=>
      have hB':((60:Int)<((p.as_.getD k ac0).nm.size:Int))=True:=eq_true (by omega)
      have e0:decide (FewP p)=false:=decide_eq_false (fun h=>absurd ((h.2.2.2.2 k hA).1) hB)
      rw [e0]
      repeat (first|(simp -implicitDefEqProofs only [go_sem,Nat.reduceAdd,Nat.reduceMul,Nat.reduceEqDiff,Nat.reduceLT,Nat.reduceLeDiff,reduceCtorEq,hA',n0,ga,hB',hwk,decide_true,Int.toNat_natCast,List.length_map]))
     have hB':((60:Int)<((p.as_.getD k ac0).nm.size:Int))=False:=eq_false (by omega)
     by_cases hC:(p.as_.getD k ac0).mv.length≤5
     case neg=>
      have hC':((5:Int)<((p.as_.getD k ac0).mv.length:Int))=True:=eq_true (by omega)
      have e0:decide (FewP p)=false:=decide_eq_false (fun h=>absurd ((h.2.2.2.2 k hA).2) hC)
      rw [e0]
      repeat (first|(simp -implicitDefEqProofs only [go_sem,Nat.reduceAdd,Nat.reduceMul,Nat.reduceEqDiff,Nat.reduceLT,Nat.reduceLeDiff,reduceCtorEq,hA',n0,ga,hB',hC',hwk,decide_true,decide_false,Int.toNat_natCast,List.length_map]))
     have hC':((5:Int)<((p.as_.getD k ac0).mv.length:Int))=False:=eq_false (by omega)
     repeat (first|(simp -implicitDefEqProofs only [go_sem,Nat.reduceAdd,Nat.reduceMul,Nat.reduceEqDiff,Nat.reduceLT,Nat.reduceLeDiff,reduceCtorEq,hA',n0,ga,hB',hC',hwk,decide_false,Int.toNat_natCast,List.length_map]))
     refine⟨⟨k+1,hA,fun i hi=> ?_⟩,by simp only;omega,?_⟩
     ·rcases Nat.lt_succ_iff_lt_or_eq.1 hi with h|rfl
      ·exact hJ i h
      ·exact⟨hB,hC⟩
     refine Qaq (θ:=[(0,0)]) rfl ?_ ?_
     ·simp [Qad,lkp,ren1,ren0,Qae]
     ·exact⟨⟨rfl,rfl,rfl,rfl,rfl,.inr ⟨rfl,_,_,rfl,rfl,rfl,rfl⟩⟩,trivial⟩
    ·have hA':=lt_F hA
     obtain rfl:k=p.as_.length:=by omega
     have e0:decide (FewP p)=true:=decide_eq_true ⟨e1,e2,e3,hI,hJ⟩
     rw [e0]
     repeat (first|(simp -implicitDefEqProofs only [go_sem,Nat.reduceAdd,Nat.reduceMul,Nat.reduceEqDiff,Nat.reduceLT,Nat.reduceLeDiff,reduceCtorEq,hA',List.length_map]))
end Go.Proofs.YtjlkapdmgjocdaaGreat

namespace Go.Proofs.YtjlkapdmgjocdaaGreat
open Go.Vl Go.RowKit Go.Dg
theorem T_mv:Qaw Tryz.prog 87=some (.agg [.int .i64 0,.int .i64 0,.int .i64 0,.int .i64 0,.int .i64 0,.int .i64 0]):=by kernel_rfl
theorem Qf0:Qaw Tryz.prog 28=some (.agg [.int .i64 0,.int .i64 0]):=by kernel_rfl
theorem Qmj (p:Pg) (hp:okP p) (i k:Int) (h:Qf1 p i k=true) (hk:k+1=(p.as_.length:Int)):Qan Tryz.prog 28 [pgV p,.agg [.int .i64 i,.int .i64 k]] (.tup [.slc [],.int .i64 0]):=by
 have hF:=Qj3 p hp i k
 rw [h]at hF
 obtain⟨v,i1,i2,a1,a2⟩:=Qcj h
 have hpa:=(Qb0 v).2.1
 have hE:=Qq2 p v p.as_.length (Nat.le_refl _) k (by omega)
 have w1:IntKind.i64.wrap ((p.as_.length:Int)-1)=k:=by rw [Qam (by omega) (by omega)];omega
 unfold pgV at hF hE ⊢
 refine Qac (tb:=[]) 63 [.tmp 4,.tmp 5] [0,1,2,3,4,5,6,7,8,9,10,11,15,28,31,32,33,38,46,55] mixed Tryz.func28 rfl (by kernel_rfl) (by kernel_rfl) (by kernel_rfl) (by kernel_rfl) ?_
 repeat (first|(simp -implicitDefEqProofs only [go_sem,Nat.reduceAdd,Nat.reduceMul,Nat.reduceEqDiff,Nat.reduceLT,Nat.reduceLeDiff,reduceCtorEq,T_mv,Qf0,Bool.not_true,w1,List.length_map,BEq.rfl])|((with_reducible refine Qab (hF) ?_ ?_ ?_);(with_reducible rfl);rfl)|((with_reducible refine Qab (hE) ?_ ?_ ?_);(with_reducible rfl);rfl)|(with_reducible exact Qaa _ _ (by kernel_rfl))|(with_reducible refine And.intro (Qaa _ _ (by kernel_rfl)) ?_))
def exP:Pg:=⟨[⟨#[97]⟩,⟨#[98]⟩],[⟨0,0,0⟩,⟨1000,0,0⟩],[⟨⟨#[117,112]⟩,2000,[⟨⟨0,0,1000⟩,0,1000,0⟩,⟨⟨1000,0,1000⟩,0,1000,0⟩]⟩,⟨⟨#[115,116,97,121]⟩,2000,[⟨⟨0,0,1000⟩,0,0,0⟩,⟨⟨1000,0,1000⟩,0,0,0⟩]⟩]⟩
theorem Q1o:FewP exP:=by decide+kernel
theorem Qqo:Qan Tryz.prog 34 [] (pgV exP):=by
 refine Qac (tb:=[]) 25 [.cell 0 26] [0,1,2,3] mixed Tryz.func34 rfl (by kernel_rfl) (by kernel_rfl) (by kernel_rfl) (by kernel_rfl) ?_
 repeat (first|(simp -implicitDefEqProofs only [go_sem,Nat.reduceAdd,Nat.reduceMul,Nat.reduceEqDiff,Nat.reduceLT,Nat.reduceLeDiff,reduceIte,reduceCtorEq,T_mv,Qf0]))
 rfl
theorem lw_0:IntKind.i64.wrap 0=0:=rfl
theorem lw_1:IntKind.i64.wrap 1=1:=rfl
theorem lw_2:IntKind.i64.wrap 2=2:=rfl
theorem lw_4:IntKind.i64.wrap 4=4:=rfl
theorem lw_3:IntKind.i64.wrap 3=3:=rfl
set_option maxRecDepth 100000 in
set_option maxHeartbeats 4000000 in
theorem Qxv:Qan Tryz.prog 10 [] (.bool true):=by
 have hx:=Qqo
 have ok:=Qxe Q1o
 have o1:=Of_v exP ok 0 0 0 (fun _=>by unfold Qg3;decide+kernel)
 have o2:=Of_v exP ok 0 1999 0 (fun _=>by unfold Qg3;decide+kernel)
 have o3:=Of_v exP ok 0 2000 1 (fun _=>by unfold Qg3;decide+kernel)
 have o4:=Of_v exP ok 0 4000 1 (fun _=>by unfold Qg3;decide+kernel)
 have en:=Q3j exP ok 1 0
 have pt:=Qxt exP ok 1 0
 have st1:=Qhq exP ok 0 500 0 499 0 (fun _=>by unfold Qg3;decide+kernel)
 have st2:=Qhq exP ok 0 500 0 500 0 (fun _=>by unfold Qg3;decide+kernel)
 have st3:=Qhq exP ok 0 500 0 1999 0 (fun _=>by unfold Qg3;decide+kernel)
 have st4:=Qhq exP ok 0 500 0 2000 0 (fun _=>by unfold Qg3;decide+kernel)
 have st5:=Qhq exP ok 0 500 1 2000 0 (fun _=>by unfold Qg3;decide+kernel)
 have ct:=Qqn exP ok
 have ot:=Qmj exP ok 0 1 (by decide+kernel) (by decide+kernel)
 rw [if_pos (by decide+kernel),if_pos (by decide+kernel),if_pos (by decide+kernel)]at o1 o2 o3 o4
 rw [if_pos (by decide+kernel),if_pos (by decide+kernel),show begT exP (Int.toNat 0+1)=2000 by decide+kernel]at en
 rw [if_pos (by decide+kernel),show ptA exP 1 0=⟨1000,0,1000⟩by decide+kernel]at pt
 rw [show stV exP 0 500 0 499 0=0 by decide+kernel,show stE exP 0 500 0 499=0 by decide+kernel]at st1
 rw [show stV exP 0 500 0 500 0=1 by decide+kernel,show stE exP 0 500 0 500=0 by decide+kernel]at st2
 rw [show stV exP 0 500 0 1999 0=1 by decide+kernel,show stE exP 0 500 0 1999=0 by decide+kernel]at st3
 rw [show stV exP 0 500 0 2000 0=2 by decide+kernel,show stE exP 0 500 0 2000=0 by decide+kernel]at st4
 rw [show stV exP 0 500 1 2000 0=0 by decide+kernel,show stE exP 0 500 1 2000=0 by decide+kernel]at st5
 rw [show cntV exP=4 by decide+kernel,show cntR exP=0 by decide+kernel]at ct
 rw [show((0:Nat):Int)=0 from rfl]at o1 o2
 rw [show((1:Nat):Int)=1 from rfl]at o3 o4
 unfold v3PV at pt
 unfold pgV at*
 generalize exP.ns.map PV.str=A at*
 generalize exP.hs.map v3PV=B at*
 generalize exP.as_.map acV=C at*
 have c4:((4:Nat):Int)=4:=rfl
 have c0:((0:Nat):Int)=0:=rfl
 refine Qac (tb:=[]) 137 [.tmp 0] [0,1,2,3,4,5,6,7,8,9,10,11,12,13,14,15,16,17,18,19,21,22,23,24,43,71,72,73,74,75,95] mixed Tryz.func10 rfl (by kernel_rfl) (by kernel_rfl) (by kernel_rfl) (by kernel_rfl) ?_
 repeat (first|(simp -implicitDefEqProofs only [go_sem,Nat.reduceAdd,Nat.reduceMul,Nat.reduceEqDiff,Nat.reduceLT,Nat.reduceLeDiff,reduceCtorEq,T_mv,Qf0])|((with_reducible refine Qab (hx) ?_ ?_ ?_);(with_reducible rfl);rfl))
 refine Qgg mixed [0,1,2,3,4] (St.of [(1,.bp 101 3 0 0),(21,.bs 200 1 0 4),(22,.int .i64 4),(23,.int .i64 0)] [(101,{els:=[.agg [.slc A,.slc B,.slc C]],esz:=3,ety:=26,fro:=0,live:=true,arr:=false}),(200,{els:=[.int .i64 0,.int .i64 1999,.int .i64 2000,.int .i64 4000],esz:=1,ety:=3,fro:=0,live:=true,arr:=true})]) (Qaq (θ:=[(101,101),(200,200)]) rfl ?_ ?_) ?_
 ·simp [Qad,lkp,ren1,ren0,Qae]
 ·exact⟨⟨rfl,rfl,rfl,rfl,rfl,.inr ⟨rfl,_,_,rfl,rfl,rfl,rfl⟩⟩,⟨rfl,rfl,rfl,rfl,rfl,.inl ⟨rfl,rfl⟩⟩,trivial⟩
 repeat (first|(simp -implicitDefEqProofs only [go_sem,Nat.reduceAdd,Nat.reduceMul,Nat.reduceEqDiff,Nat.reduceLT,Nat.reduceLeDiff,reduceCtorEq,Int.reduceEq,Int.reduceLT,Int.reduceAdd,T_mv,Qf0,c4,c0,decide_true,decide_false,Int.reduceBNe,Int.reduceBEq,Int.reduceTDiv,Bool.not_false,Bool.not_true,bne_self_eq_false,BEq.rfl,Bool.and_self,Bool.true_and,Bool.and_true,lw_0,lw_1,lw_2,lw_3,lw_4])|((with_reducible refine Qab (o1) ?_ ?_ ?_);(with_reducible rfl);rfl))
 refine⟨(St.of [(1,.bp 101 3 0 0),(21,.bs 200 1 0 4),(22,.int .i64 4),(23,.int .i64 1)] [(101,{els:=[.agg [.slc A,.slc B,.slc C]],esz:=3,ety:=26,fro:=0,live:=true,arr:=false}),(200,{els:=[.int .i64 0,.int .i64 1999,.int .i64 2000,.int .i64 4000],esz:=1,ety:=3,fro:=0,live:=true,arr:=true})]),Qaq (θ:=[(101,101),(200,200)]) rfl ?_ ?_,?_⟩
 ·simp [Qad,lkp,ren1,ren0,Qae]
 ·exact⟨⟨rfl,rfl,rfl,rfl,rfl,.inr ⟨rfl,_,_,rfl,rfl,rfl,rfl⟩⟩,⟨rfl,rfl,rfl,rfl,rfl,.inl ⟨rfl,rfl⟩⟩,trivial⟩
 repeat (first|(simp -implicitDefEqProofs only [go_sem,Nat.reduceAdd,Nat.reduceMul,Nat.reduceEqDiff,Nat.reduceLT,Nat.reduceLeDiff,reduceCtorEq,Int.reduceEq,Int.reduceLE,Int.reduceLT,Int.reduceToNat,Int.reduceAdd,T_mv,Qf0,c4,c0,decide_true,decide_false,Int.reduceBNe,Int.reduceBEq,Int.reduceTDiv,Bool.not_false,Bool.not_true,bne_self_eq_false,BEq.rfl,Bool.and_self,Bool.true_and,Bool.and_true,lw_0,lw_1,lw_2,lw_3,lw_4])|((with_reducible refine Qab (o2) ?_ ?_ ?_);(with_reducible rfl);rfl))
 refine⟨(St.of [(1,.bp 101 3 0 0),(21,.bs 200 1 0 4),(22,.int .i64 4),(23,.int .i64 2)] [(101,{els:=[.agg [.slc A,.slc B,.slc C]],esz:=3,ety:=26,fro:=0,live:=true,arr:=false}),(200,{els:=[.int .i64 0,.int .i64 1999,.int .i64 2000,.int .i64 4000],esz:=1,ety:=3,fro:=0,live:=true,arr:=true})]),Qaq (θ:=[(101,101),(200,200)]) rfl ?_ ?_,?_⟩
 ·simp [Qad,lkp,ren1,ren0,Qae]
 ·exact⟨⟨rfl,rfl,rfl,rfl,rfl,.inr ⟨rfl,_,_,rfl,rfl,rfl,rfl⟩⟩,⟨rfl,rfl,rfl,rfl,rfl,.inl ⟨rfl,rfl⟩⟩,trivial⟩
 repeat (first|(simp -implicitDefEqProofs only [go_sem,Nat.reduceAdd,Nat.reduceMul,Nat.reduceEqDiff,Nat.reduceLT,Nat.reduceLeDiff,reduceCtorEq,Int.reduceEq,Int.reduceLE,Int.reduceLT,Int.reduceToNat,Int.reduceAdd,T_mv,Qf0,c4,c0,decide_true,decide_false,Int.reduceBNe,Int.reduceBEq,Int.reduceTDiv,Bool.not_false,Bool.not_true,bne_self_eq_false,BEq.rfl,Bool.and_self,Bool.true_and,Bool.and_true,lw_0,lw_1,lw_2,lw_3,lw_4])|((with_reducible refine Qab (o3) ?_ ?_ ?_);(with_reducible rfl);rfl))
 refine⟨(St.of [(1,.bp 101 3 0 0),(21,.bs 200 1 0 4),(22,.int .i64 4),(23,.int .i64 3)] [(101,{els:=[.agg [.slc A,.slc B,.slc C]],esz:=3,ety:=26,fro:=0,live:=true,arr:=false}),(200,{els:=[.int .i64 0,.int .i64 1999,.int .i64 2000,.int .i64 4000],esz:=1,ety:=3,fro:=0,live:=true,arr:=true})]),Qaq (θ:=[(101,101),(200,200)]) rfl ?_ ?_,?_⟩
 ·simp [Qad,lkp,ren1,ren0,Qae]
 ·exact⟨⟨rfl,rfl,rfl,rfl,rfl,.inr ⟨rfl,_,_,rfl,rfl,rfl,rfl⟩⟩,⟨rfl,rfl,rfl,rfl,rfl,.inl ⟨rfl,rfl⟩⟩,trivial⟩
 repeat (first|(simp -implicitDefEqProofs only [go_sem,Nat.reduceAdd,Nat.reduceMul,Nat.reduceEqDiff,Nat.reduceLT,Nat.reduceLeDiff,reduceCtorEq,Int.reduceEq,Int.reduceLE,Int.reduceLT,Int.reduceToNat,Int.reduceAdd,T_mv,Qf0,c4,c0,decide_true,decide_false,Int.reduceBNe,Int.reduceBEq,Int.reduceTDiv,Bool.not_false,Bool.not_true,bne_self_eq_false,BEq.rfl,Bool.and_self,Bool.true_and,Bool.and_true,lw_0,lw_1,lw_2,lw_3,lw_4])|((with_reducible refine Qab (o4) ?_ ?_ ?_);(with_reducible rfl);rfl))
 refine⟨(St.of [(1,.bp 101 3 0 0),(21,.bs 200 1 0 4),(22,.int .i64 4),(23,.int .i64 4)] [(101,{els:=[.agg [.slc A,.slc B,.slc C]],esz:=3,ety:=26,fro:=0,live:=true,arr:=false}),(200,{els:=[.int .i64 0,.int .i64 1999,.int .i64 2000,.int .i64 4000],esz:=1,ety:=3,fro:=0,live:=true,arr:=true})]),Qaq (θ:=[(101,101),(200,200)]) rfl ?_ ?_,?_⟩
 ·simp [Qad,lkp,ren1,ren0,Qae]
 ·exact⟨⟨rfl,rfl,rfl,rfl,rfl,.inr ⟨rfl,_,_,rfl,rfl,rfl,rfl⟩⟩,⟨rfl,rfl,rfl,rfl,rfl,.inl ⟨rfl,rfl⟩⟩,trivial⟩
 repeat (first|(simp -implicitDefEqProofs only [go_sem,Nat.reduceAdd,Nat.reduceMul,Nat.reduceEqDiff,Nat.reduceLT,Nat.reduceLeDiff,reduceCtorEq,Int.reduceLT,T_mv,Qf0,c4,c0,decide_true,decide_false,Int.reduceBNe,Int.reduceBEq,Int.reduceTDiv,Bool.not_false,Bool.not_true,bne_self_eq_false,BEq.rfl,Bool.and_self,Bool.true_and,Bool.and_true,lw_0,lw_1,lw_2,lw_3,lw_4])|((with_reducible refine Qab (en) ?_ ?_ ?_);(with_reducible rfl);rfl)|((with_reducible refine Qab (pt) ?_ ?_ ?_);(with_reducible rfl);rfl))
 refine Qgg mixed [0,1,2,3,4] (St.of [(1,.bp 101 3 0 0),(72,.bs 1300 1 0 4),(73,.int .i64 4),(74,.int .i64 0)] [(101,{els:=[.agg [.slc A,.slc B,.slc C]],esz:=3,ety:=26,fro:=0,live:=true,arr:=false}),(1300,{els:=[.int .i64 499,.int .i64 500,.int .i64 1999,.int .i64 2000],esz:=1,ety:=3,fro:=0,live:=true,arr:=true})]) (Qaq (θ:=[(101,101),(1300,1300)]) rfl ?_ ?_) ?_
 ·simp [Qad,lkp,ren1,ren0,Qae]
 ·exact⟨⟨rfl,rfl,rfl,rfl,rfl,.inr ⟨rfl,_,_,rfl,rfl,rfl,rfl⟩⟩,⟨rfl,rfl,rfl,rfl,rfl,.inl ⟨rfl,rfl⟩⟩,trivial⟩
 repeat (first|(simp -implicitDefEqProofs only [go_sem,Nat.reduceAdd,Nat.reduceMul,Nat.reduceEqDiff,Nat.reduceLT,Nat.reduceLeDiff,reduceCtorEq,Int.reduceLT,Int.reduceAdd,T_mv,Qf0,c4,c0,decide_true,decide_false,Int.reduceBNe,Int.reduceBEq,Int.reduceTDiv,Bool.not_false,Bool.not_true,bne_self_eq_false,BEq.rfl,Bool.and_self,Bool.true_and,Bool.and_true,lw_0,lw_1,lw_2,lw_3,lw_4])|((with_reducible refine Qab (st1) ?_ ?_ ?_);(with_reducible rfl);rfl))
 refine⟨(St.of [(1,.bp 101 3 0 0),(72,.bs 1300 1 0 4),(73,.int .i64 4),(74,.int .i64 1)] [(101,{els:=[.agg [.slc A,.slc B,.slc C]],esz:=3,ety:=26,fro:=0,live:=true,arr:=false}),(1300,{els:=[.int .i64 499,.int .i64 500,.int .i64 1999,.int .i64 2000],esz:=1,ety:=3,fro:=0,live:=true,arr:=true})]),Qaq (θ:=[(101,101),(1300,1300)]) rfl ?_ ?_,?_⟩
 ·simp [Qad,lkp,ren1,ren0,Qae]
 ·exact⟨⟨rfl,rfl,rfl,rfl,rfl,.inr ⟨rfl,_,_,rfl,rfl,rfl,rfl⟩⟩,⟨rfl,rfl,rfl,rfl,rfl,.inl ⟨rfl,rfl⟩⟩,trivial⟩
 repeat (first|(simp -implicitDefEqProofs only [go_sem,Nat.reduceAdd,Nat.reduceMul,Nat.reduceEqDiff,Nat.reduceLT,Nat.reduceLeDiff,reduceCtorEq,Int.reduceLE,Int.reduceLT,Int.reduceToNat,Int.reduceAdd,T_mv,Qf0,c4,c0,decide_true,decide_false,Int.reduceBNe,Int.reduceBEq,Int.reduceTDiv,Bool.not_false,Bool.not_true,bne_self_eq_false,BEq.rfl,Bool.and_self,Bool.true_and,Bool.and_true,lw_0,lw_1,lw_2,lw_3,lw_4])|((with_reducible refine Qab (st2) ?_ ?_ ?_);(with_reducible rfl);rfl))
 refine⟨(St.of [(1,.bp 101 3 0 0),(72,.bs 1300 1 0 4),(73,.int .i64 4),(74,.int .i64 2)] [(101,{els:=[.agg [.slc A,.slc B,.slc C]],esz:=3,ety:=26,fro:=0,live:=true,arr:=false}),(1300,{els:=[.int .i64 499,.int .i64 500,.int .i64 1999,.int .i64 2000],esz:=1,ety:=3,fro:=0,live:=true,arr:=true})]),Qaq (θ:=[(101,101),(1300,1300)]) rfl ?_ ?_,?_⟩
 ·simp [Qad,lkp,ren1,ren0,Qae]
 ·exact⟨⟨rfl,rfl,rfl,rfl,rfl,.inr ⟨rfl,_,_,rfl,rfl,rfl,rfl⟩⟩,⟨rfl,rfl,rfl,rfl,rfl,.inl ⟨rfl,rfl⟩⟩,trivial⟩
 repeat (first|(simp -implicitDefEqProofs only [go_sem,Nat.reduceAdd,Nat.reduceMul,Nat.reduceEqDiff,Nat.reduceLT,Nat.reduceLeDiff,reduceCtorEq,Int.reduceLE,Int.reduceLT,Int.reduceToNat,Int.reduceAdd,T_mv,Qf0,c4,c0,decide_true,decide_false,Int.reduceBNe,Int.reduceBEq,Int.reduceTDiv,Bool.not_false,Bool.not_true,bne_self_eq_false,BEq.rfl,Bool.and_self,Bool.true_and,Bool.and_true,lw_0,lw_1,lw_2,lw_3,lw_4])|((with_reducible refine Qab (st3) ?_ ?_ ?_);(with_reducible rfl);rfl))
 refine⟨(St.of [(1,.bp 101 3 0 0),(72,.bs 1300 1 0 4),(73,.int .i64 4),(74,.int .i64 3)] [(101,{els:=[.agg [.slc A,.slc B,.slc C]],esz:=3,ety:=26,fro:=0,live:=true,arr:=false}),(1300,{els:=[.int .i64 499,.int .i64 500,.int .i64 1999,.int .i64 2000],esz:=1,ety:=3,fro:=0,live:=true,arr:=true})]),Qaq (θ:=[(101,101),(1300,1300)]) rfl ?_ ?_,?_⟩
 ·simp [Qad,lkp,ren1,ren0,Qae]
 ·exact⟨⟨rfl,rfl,rfl,rfl,rfl,.inr ⟨rfl,_,_,rfl,rfl,rfl,rfl⟩⟩,⟨rfl,rfl,rfl,rfl,rfl,.inl ⟨rfl,rfl⟩⟩,trivial⟩
 repeat (first|(simp -implicitDefEqProofs only [go_sem,Nat.reduceAdd,Nat.reduceMul,Nat.reduceEqDiff,Nat.reduceLT,Nat.reduceLeDiff,reduceCtorEq,Int.reduceLE,Int.reduceLT,Int.reduceToNat,Int.reduceAdd,T_mv,Qf0,c4,c0,decide_true,decide_false,Int.reduceBNe,Int.reduceBEq,Int.reduceTDiv,Bool.not_false,Bool.not_true,bne_self_eq_false,BEq.rfl,Bool.and_self,Bool.true_and,Bool.and_true,lw_0,lw_1,lw_2,lw_3,lw_4])|((with_reducible refine Qab (st4) ?_ ?_ ?_);(with_reducible rfl);rfl))
 refine⟨(St.of [(1,.bp 101 3 0 0),(72,.bs 1300 1 0 4),(73,.int .i64 4),(74,.int .i64 4)] [(101,{els:=[.agg [.slc A,.slc B,.slc C]],esz:=3,ety:=26,fro:=0,live:=true,arr:=false}),(1300,{els:=[.int .i64 499,.int .i64 500,.int .i64 1999,.int .i64 2000],esz:=1,ety:=3,fro:=0,live:=true,arr:=true})]),Qaq (θ:=[(101,101),(1300,1300)]) rfl ?_ ?_,?_⟩
 ·simp [Qad,lkp,ren1,ren0,Qae]
 ·exact⟨⟨rfl,rfl,rfl,rfl,rfl,.inr ⟨rfl,_,_,rfl,rfl,rfl,rfl⟩⟩,⟨rfl,rfl,rfl,rfl,rfl,.inl ⟨rfl,rfl⟩⟩,trivial⟩
 repeat (first|(simp -implicitDefEqProofs only [go_sem,Nat.reduceAdd,Nat.reduceMul,Nat.reduceEqDiff,Nat.reduceLT,Nat.reduceLeDiff,reduceCtorEq,Int.reduceLT,T_mv,Qf0,c4,c0,decide_true,decide_false,Int.reduceBNe,Int.reduceBEq,Int.reduceTDiv,Bool.not_false,Bool.not_true,bne_self_eq_false,BEq.rfl,Bool.and_self,Bool.true_and,Bool.and_true,lw_0,lw_1,lw_2,lw_3,lw_4])|((with_reducible refine Qab (st5) ?_ ?_ ?_);(with_reducible rfl);rfl)|((with_reducible refine Qab (ct) ?_ ?_ ?_);(with_reducible rfl);rfl)|((with_reducible refine Qab (ot) ?_ ?_ ?_);(with_reducible rfl);rfl))
end Go.Proofs.YtjlkapdmgjocdaaGreat

namespace Go.Proofs.YtjlkapdmgjocdaaGreat
open Go.Vl Go.RowKit Go.Dg
end Go.Proofs.YtjlkapdmgjocdaaGreat

namespace Go.Proofs.YtjlkapdmgjocdaaGreat
open Go.Vl Go.RowKit Go.Dg
theorem own:ownKnob Tryz.prog.godebug=none:=by kernel_rfl
theorem Qxw:laidOutB Tryz.prog=true:=by kernel_rfl
theorem Q3l:Tryz.prog.globalNamed Qmo=none∧Tryz.prog.globalNamed Qr2=none:=⟨by kernel_rfl,by kernel_rfl⟩
theorem Qtk {c:List PV} (h:Qbj (.int .i64) c): ∃n:Int,TT.mk (.int .i64) c= .int .i64 n:=by
 simp only [Qbj]at h
 obtain⟨x,rfl,hx⟩:=h
 exact⟨x,rfl⟩
theorem Qhs {e:TT} {α:Type} {f:α→PV} (hf: ∀c,Qbj e c→ ∃a,e.mk c=f a): ∀ess:List (List PV),(∀c∈ess,Qbj e c)→ ∃l:List α,ess.map e.mk=l.map f∧l.length=ess.length
 | [],_=>⟨[],rfl,rfl⟩
 |c::cs,h=>by
  obtain⟨a,ha⟩:=hf c (h c (by simp))
  obtain⟨l,hl,hn⟩:=Qhs hf cs (fun c hc=>h c (by simp [hc]))
  exact⟨a::l,by simp [ha,hl],by simp [hn]⟩
def vecT:TT:= .agg [.int .i64,.int .i64,.int .i64]
def Qqp:TT:= .agg [vecT,.int .i64,.int .i64,.int .i64]
def actT:TT:= .agg [.str,.int .i64,.slc Qqp]
def Qtl:TT:= .agg [.slc .str,.slc vecT,.slc actT]
theorem Qtm {c:List PV} (h:Qbj .str c): ∃s:ByteArray,TT.mk .str c= .str s:=by
 simp only [Qbj]at h
 obtain⟨s,rfl,hs⟩:=h
 exact⟨s,rfl⟩
theorem Qtn {c:List PV} (h:Qbj vecT c): ∃v:V3,vecT.mk c=v3PV v:=by
 simp only [vecT,Qbj,Qcq]at h
 obtain⟨_,_,rfl,⟨x,rfl,_⟩,_,_,rfl,⟨y,rfl,_⟩,_,_,rfl,⟨z,rfl,_⟩,rfl⟩:=h
 exact⟨⟨x,y,z⟩,rfl⟩
theorem Qqq {c:List PV} (h:Qbj Qqp c): ∃m:Mv,Qqp.mk c=mvV m:=by
 simp only [Qqp,vecT,Qbj,Qcq]at h
 obtain⟨_,_,rfl,⟨_,_,rfl,⟨x,rfl,_⟩,_,_,rfl,⟨y,rfl,_⟩,_,_,rfl,⟨z,rfl,_⟩,rfl⟩,_,_,rfl,⟨w,rfl,_⟩,_,_,rfl,⟨f,rfl,_⟩,_,_,rfl,⟨r,rfl,_⟩,rfl⟩:=h
 exact⟨⟨⟨x,y,z⟩,w,f,r⟩,rfl⟩
theorem Qto {c:List PV} (h:Qbj actT c): ∃a:Ac,actT.mk c=acV a:=by
 simp only [actT,Qbj,Qcq]at h
 obtain⟨_,_,rfl,⟨s,rfl,_⟩,_,_,rfl,⟨n,rfl,_⟩,_,_,rfl,⟨em,rfl,mm,hm⟩,rfl⟩:=h
 obtain⟨l,e,_⟩:=Qhs (f:=mvV) (fun c h=>Qqq h) em hm
 refine⟨⟨s,n,l⟩,?_⟩
 show PV.agg [.str s,.int .i64 n,.slc (em.map Qqp.mk)]=_
 rw [e];rfl
theorem Qqr {c:List PV} (h:Qbj Qtl c): ∃p:Pg,Qtl.mk c=pgV p:=by
 simp only [Qtl,Qcq]at h
 rw [Qbj]at h
 simp only [Qcq]at h
 obtain⟨_,_,rfl,hn,_,_,rfl,hh,_,_,rfl,ha,rfl⟩:=h
 rw [Qbj]at hn hh ha
 obtain⟨en,rfl,mn,hn⟩:=hn
 obtain⟨eh,rfl,mh,hh⟩:=hh
 obtain⟨ea,rfl,ma,ha⟩:=ha
 obtain⟨ns,e1,_⟩:=Qhs (f:=PV.str) (fun c h=>Qtm h) en hn
 obtain⟨hs,e2,_⟩:=Qhs (f:=v3PV) (fun c h=>Qtn h) eh hh
 obtain⟨as_,e3,_⟩:=Qhs (f:=acV) (fun c h=>Qto h) ea ha
 refine⟨⟨ns,hs,as_⟩,?_⟩
 show PV.agg [.slc (en.map (TT.mk .str)),.slc (eh.map vecT.mk),.slc (ea.map actT.mk)]=_
 rw [e1,e2,e3];rfl
def Q1p:Value:= .agg #[.slice none 0 0,.slice none 0 0,.slice none 0 0]
end Go.Proofs.YtjlkapdmgjocdaaGreat
