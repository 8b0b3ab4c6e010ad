/-
  LF29 (merged for the claim).
-/
import Derived.Test.YtjlkapdmgjocdaaGreatLF28
set_option linter.unusedSimpArgs false
set_option linter.unusedVariables false
namespace Go.Proofs.YtjlkapdmgjocdaaGreat
open Go.Vl Go.RowKit Go.Dg
theorem Zyj:tyFn Tryz.prog 49=true:=by kernel_rfl
theorem Qrf {p:Pg} {c f t:Int}: ∀{m:Nat} {X:List Sg},X∈othL p c f t m→ ∃i,i<m∧X=(othC p f t i).1
 |0,_,h=>by cases h
 |m+1,X,h=>by
  unfold othL at h;split at h
  ·obtain⟨i,hi,e⟩:=Qrf h;exact⟨i,by omega,e⟩
  ·rcases List.mem_append.1 h with h|h
   ·obtain⟨i,hi,e⟩:=Qrf h;exact⟨i,by omega,e⟩
   ·exact⟨m,by omega,List.mem_singleton.1 h⟩
theorem Zej {p:Pg} {i t x y:Int} {K:Nat} (h:x≤y):stN p i t i x K≤stN p i t i y K:=by
 unfold stN;by_cases h1:x<t
 ·rw [if_pos (.inr h1)];split
  ·exact Int.le_refl _
  ·split
   ·decide
   ·decide
 ·have g: ∀z,t≤z→(if i≠i∨z<t then(0:Int)else if z<begT p (K+1)then 1 else 2)=if z<begT p (K+1)then 1 else 2:=fun z h=>if_neg (by omega);rw [g x (by omega),g y (by omega)];by_cases h3:y<begT p (K+1)
  ·rw [if_pos h3,if_pos (by omega)];exact Int.le_refl _
  ·rw [if_neg h3];split<;>decide
theorem Zoc {p:Pg} (hf:FewP p) {c k:Nat} (h:Qe0 p (c:Int) (k:Int)=true): ∃LL:List (List Sg),Qaf Tryz.prog 28 [pgV p,.agg [.int .i64 (c:Int),.int .i64 (k:Int)]] (.tup [.slc (LL.map pV),.int .i64 0])∧
  (∀x,x<LL.length→ ∃Y T,LL[x]? =some Y∧begT p (k+1)<T∧Qaf Tryz.prog 26 [pV Y] (.tup [.int .i64 (begT p (k+1)),.int .i64 T,.int .i64 0]))∧(LL.length=0∨LL.length+1=p.ns.length)∧LL.length≤5:=by
 have hO:=Qy4 p hf (c:Int) (k:Int);obtain⟨v,i1,i2,a1,a2⟩:=Qcn h;have hn5:=hf.1;unfold Zd5 at hO;rw [if_pos h]at hO;simp only [Int.toNat_natCast]at hO;by_cases hk:(k:Int)+1=(p.as_.length:Int)
 ·rw [if_pos hk]at hO;exact⟨[],hO,fun x hx=>absurd hx (Nat.not_lt_zero x),.inl rfl,Nat.zero_le _⟩
 rw [if_neg hk]at hO;have hoz:=Qnh v (c:Int) (a:=k+1) (by omega) p.ns.length (Nat.le_refl _);rw [if_pos hoz]at hO;refine⟨_,hO,fun x hx=> ?_,.inr ?_,?_⟩
 ·obtain⟨i,hi,e⟩:=Qrf (List.getElem_mem hx);refine⟨_,begT p p.as_.length,List.getElem?_eq_getElem hx,?_,?_⟩
  ·have h1:=(Q4j v (i:=c) (by omega) (k:=k+1) (by omega)).1;have h2:=Qvn v (i:=c) (by omega) (a:=k+1+1) (b:=p.as_.length) (by omega) (Nat.le_refl _);omega
  ·rw [e];exact Qy5 (Qfn v (i:=i) (a:=k+1) (b:=p.as_.length) hi (by omega) (Nat.le_refl _))
 ·rw [Qni,if_pos ⟨i1,i2⟩];omega
 ·rw [Qni,if_pos ⟨i1,i2⟩];omega
def fndV (s j:Nat):Int:=if s<j then 1 else 0
def hB (p:Pg) (i t:Int) (K:Nat) (V:V3) (s j:Nat):List (Nat×Box):=[(1000000,{els:=[.int .i64 (fndV s j)],esz:=1,ety:=3,fro:=0,live:=true,arr:=false}),(1000001,{els:=[.agg [.int .i64 i,.int .i64 (K:Int)]],esz:=2,ety:=30,fro:=0,live:=true,arr:=false}),
 (1000002,{els:=[.agg [.slc (p.ns.map PV.str),.slc (p.hs.map v3PV),.slc (p.as_.map acV)]],esz:=3,ety:=26,fro:=0,live:=true,arr:=false}),(1000003,{els:=[.agg [.int .i64 i,.int .i64 t]],esz:=2,ety:=28,fro:=0,live:=true,arr:=false}),(1000004,{els:=[.agg [.int .i64 V.x,.int .i64 V.y,.int .i64 V.z]],esz:=3,ety:=54,fro:=0,live:=true,arr:=false})]
theorem hB_N (p:Pg) (i t:Int) (K:Nat) (V:V3) (s j:Nat): ∀b∈ [1000000,1000001,1000002,1000003,1000004],(lkp (hB p i t K V s j) b).isSome=true:=by
 simp [hB,lkp]
set_option maxRecDepth 100000 in
set_option maxHeartbeats 8000000 in
theorem Qow (p:Pg) (i t one two:Int):Qaf Tryz.prog 7 [pgV p,.agg [.int .i64 i,.int .i64 t],.int .i64 one,.int .i64 two] (.bool true):=by
 have hFw:=Zux p;have hKn:=Q5o;by_cases hf:FewP p
 case neg=>
  have e0:decide (FewP p)=false:=decide_eq_false hf;rw [e0]at hFw;unfold pgV at hFw ⊢;refine Qab (tb:=[]) 226 [.tmp 8] [0,1,2,3,4,5,8,9,10,11,12,13,14,15,16,17,18,19,20,21,22,23,24,25,26,27,28,29,30,31,32,33,34,37,46,73,74,75,78,96,129,137,169,183,206] mixed Tryz.func7 rfl (by kernel_rfl) (by kernel_rfl) (by kernel_rfl) (by kernel_rfl) ?_;repeat (first|(simp -implicitDefEqProofs only [go_sem,Nat.reduceAdd,Nat.reduceMul,Nat.reduceEqDiff,Nat.reduceLT,Nat.reduceLeDiff,reduceCtorEq,Bool.not_false])|((with_reducible refine Qaa hFw ?_ ?_ ?_);rfl;rfl)|((with_reducible refine Qaa hKn ?_ ?_ ?_);rfl;rfl))
 have ok:=Qnd hf;have e0:decide (FewP p)=true:=decide_eq_true hf;rw [e0]at hFw;have hV:=Qrg p ok i t;cases e:Qkp p i t with
 |false=>
  have hO:=Of_v p ok i t 0 (by rw [e];exact fun h=>absurd h Bool.false_ne_true);rw [e]at hO hV;rw [if_neg Bool.false_ne_true,if_neg Bool.false_ne_true,if_neg Bool.false_ne_true]at hO;unfold pgV at*;refine Qab (tb:=[]) 226 [.tmp 8] [0,1,2,3,4,5,8,9,10,11,12,13,14,15,16,17,18,19,20,21,22,23,24,25,26,27,28,29,30,31,32,33,34,37,46,73,74,75,78,96,129,137,169,183,206] mixed Tryz.func7 rfl (by kernel_rfl) (by kernel_rfl) (by kernel_rfl) (by kernel_rfl) ?_;repeat (first|(simp -implicitDefEqProofs only [go_sem,Nat.reduceAdd,Nat.reduceMul,Nat.reduceEqDiff,Nat.reduceLT,Nat.reduceLeDiff,reduceCtorEq,Bool.not_true,Bool.not_false,BEq.rfl])|((with_reducible refine Qaa hFw ?_ ?_ ?_);rfl;rfl)|((with_reducible refine Qaa hKn ?_ ?_ ?_);rfl;rfl)|((with_reducible refine Qaa hO ?_ ?_ ?_);rfl;rfl)|((with_reducible refine Qaa hV ?_ ?_ ?_);rfl;rfl))
 |true=>
 obtain⟨v,i1,i2,a1,t1,t2⟩:=Qii e;obtain⟨K,hK⟩:=Zdv (p:=p) (t:=t) a1 t1;have hKs:=hK;obtain⟨K1,K2,K3⟩:=hK;have hO:=Of_v p ok i t K (fun _=>hKs);rw [e,if_pos rfl,if_pos rfl,if_pos rfl]at hO;obtain⟨I,rfl⟩: ∃j:Nat,i=(j:Int):=⟨i.toNat,by omega⟩;have hcB:Qe0 p (I:Int) (K:Int)=true:=by
  unfold Qe0;rw [v,decide_eq_true i1,decide_eq_true i2,decide_eq_true (by omega:(0:Int)≤K),decide_eq_true (by omega:(K:Int)<p.as_.length)];rfl
 have hpa:=(Qbx v).2.1;have hn5:=hf.1;have ha5:=hf.2.2.1;have hE:=Zuw p ok (I:Int) (K:Int);have hP:=Q5l p ok (I:Int) (K:Int);have hA:=Zeh v (i:=I) (k:=K) (by omega) K1 (by have:=Qfn v (i:=I) (a:=0) (b:=K+1) (by omega) (by omega) (by omega);exact this);unfold ptA v3PV at hP;rw [hcB]at hE hP;rw [if_pos rfl,if_pos rfl]at hE hP;have hCs:=Q5m p ok;unfold acN at hCs;rw [if_pos v]at hCs;have hS:=fun at_=>Qkl p ok (I:Int) t (I:Int) at_ K (fun _=>hKs);have hKw:=Q51 p hf (I:Int) (K:Int);obtain⟨LL,hOt,hLs,hLl,hL5⟩:=Zoc hf hcB;unfold Qrb at hKw;rw [if_pos hcB]at hKw;simp only [Int.toNat_natCast]at hE hP hKw;have hz0:=Qfn v (i:=I) (a:=0) (b:=K+1) (by omega) (by omega) (by omega);rw [show begT p 0=0 from rfl]at hz0;have hSp:=Qy5 hz0;rw [Qrc,hz0]at hKw;have hbt:(begT p (K+1)<t)=False:=eq_false (by
  rcases K3 with h|h
  ·rw [h];omega
  ·omega)
 have hY:=Qyz p.ns.length p.as_.length (by omega) (by omega);unfold v3PV toV at hA;generalize ((p.as_.getD K ac0).mv.getD I mv0).to=V at*;generalize (cutZ (Qa1 p I p.as_.length) 0 (begT p (K+1))).1=X at*;have hmm:min one two≤max one two:=by omega
 have hs1:=hS (min one two);have hs2:=hS (max one two);unfold stV stE stG at hs1 hs2;rw [e,decide_eq_true i1,decide_eq_true i2]at hs1 hs2;simp only [Bool.and_self,if_true]at hs1 hs2;have hmono:=Zej (p:=p) (i:=(I:Int)) (t:=t) (K:=K) hmm;unfold pV at hKw hSp hA;obtain⟨n,hn⟩: ∃n,p.ns.length=n:=⟨_,rfl⟩;obtain⟨m,hm⟩: ∃n,p.as_.length=n:=⟨_,rfl⟩;rw [hn,hm]at hY hCs;have hlO:=Qnb n m;have hgO:=fun{x} h=>Qnc (n:=n) (m:=m) (x:=x) h;have hnm2:n*m≤5*5:=Nat.mul_le_mul (by omega) (by omega);have hin:I*m+K<n*m:=by
  have:=Qyy (i:=I) (n:=n) (m:=m) (k:=K+1) (by omega) (by omega);omega
 unfold pgV at*;refine Qab (tb:=[]) 226 [.tmp 8] [0,1,2,3,4,5,8,9,10,11,12,13,14,15,16,17,18,19,20,21,22,23,24,25,26,27,28,29,30,31,32,33,34,37,46,73,74,75,78,96,129,137,169,183,206] mixed Tryz.func7 rfl (by kernel_rfl) (by kernel_rfl) (by kernel_rfl) (by kernel_rfl) ?_;repeat (first|(simp -implicitDefEqProofs only [go_sem,Nat.reduceAdd,Nat.reduceMul,Nat.reduceEqDiff,Nat.reduceLT,Nat.reduceLeDiff,reduceCtorEq,Zyj,Bool.not_true,BEq.rfl,bne_self_eq_false])|((with_reducible refine Qaa hFw ?_ ?_ ?_);rfl;rfl)|((with_reducible refine Qaa hO ?_ ?_ ?_);rfl;rfl)|((with_reducible refine Qaa hE ?_ ?_ ?_);rfl;rfl)|((with_reducible refine Qaa hP ?_ ?_ ?_);rfl;rfl)|((with_reducible refine Qaa hCs ?_ ?_ ?_);rfl;rfl))
 refine Qhd mixed hY rfl rfl _ rfl [(1000000,800),(1000001,306),(1000002,0),(1000003,1),(1000004,706)] [1000000,1000001,1000002,1000003,1000004] rfl
  [(2,.int .i64 one),(3,.int .i64 two),(4,.bp 1000002 3 0 0),(5,.bp 1000003 2 0 0),(9,.bp 1000001 2 0 0),(11,.int .i64 (begT p (K+1))),(12,.int .i64 0),(13,.bp 1000004 3 0 0),(14,.int .i64 0),(15,.bp 1000000 1 0 0)]
  (fun j=>hB p (I:Int) t K V (I*m+K) j) rfl rfl ?_ ?_ ?_ (n*m) .normal (fun h=>by omega) (fun j _ _=>hB_N _ _ _ _ _ _ _) ?_ rfl ?_
  [(800,1000000),(306,1000001),(0,1000002),(1,1000003),(706,1000004)]
  [(2,.int .i64 one),(3,.int .i64 two),(4,.bp 0 3 0 0),(5,.bp 1 2 0 0),(9,.bp 306 2 0 0),(11,.int .i64 (begT p (K+1))),(12,.int .i64 0),(13,.bp 706 3 0 0),(14,.int .i64 0),(15,.bp 800 1 0 0)]
  [(800,{els:=[.int .i64 1],esz:=1,ety:=3,fro:=0,live:=true,arr:=false}),(306,{els:=[.agg [.int .i64 (I:Int),.int .i64 (K:Int)]],esz:=2,ety:=30,fro:=0,live:=true,arr:=false}),(0,{els:=[.agg [.slc (p.ns.map PV.str),.slc (p.hs.map v3PV),.slc (p.as_.map acV)]],esz:=3,ety:=26,fro:=0,live:=true,arr:=false}),
   (1,{els:=[.agg [.int .i64 (I:Int),.int .i64 t]],esz:=2,ety:=28,fro:=0,live:=true,arr:=false}),(706,{els:=[.agg [.int .i64 V.x,.int .i64 V.y,.int .i64 V.z]],esz:=3,ety:=54,fro:=0,live:=true,arr:=false})] rfl rfl ?_ ?_ (fun _=> ?_) (fun h=>by omega)
 ·simp [Qac,lkp,ren1,ren0,Qai]
 ·simp only [hB,fndV,Nat.not_lt_zero,if_false];exact⟨⟨rfl,rfl,rfl,rfl,rfl,.inr ⟨rfl,_,_,rfl,rfl,rfl,rfl⟩⟩,⟨rfl,rfl,rfl,rfl,rfl,.inr ⟨rfl,_,_,rfl,rfl,rfl,rfl⟩⟩,⟨rfl,rfl,rfl,rfl,rfl,.inr ⟨rfl,_,_,rfl,rfl,rfl,rfl⟩⟩,⟨rfl,rfl,rfl,rfl,rfl,.inr ⟨rfl,_,_,rfl,rfl,rfl,rfl⟩⟩,⟨rfl,rfl,rfl,rfl,rfl,.inr ⟨rfl,_,_,rfl,rfl,rfl,rfl⟩⟩,trivial⟩
 ·simp [Qac,lkp,ren1,ren0,Qai,Qj7]
 ·intro j args h;simp only [Qou,List.getElem?_map,Option.map_eq_some_iff]at h;obtain⟨x, -,rfl⟩:=h;rfl
 ·rintro j args hja hjs;have hj:j<n*m:=by have:=(List.getElem?_eq_some_iff.1 hja).1;omega
  rw [hgO hj]at hja;cases hja;have hdm:=Nat.div_add_mod j m;have hml:j%m<m:=Nat.mod_lt _ (by omega);unfold casO hB;by_cases hq:j=I*m+K
  ·have q1:j/m=I:=by rw [hq,Nat.add_comm,Nat.add_mul_div_right _ _ (by omega),Nat.div_eq_of_lt (by omega)];omega
   have q2:j%m=K:=by rw [hq,Nat.add_comm,Nat.add_mul_mod_self_right,Nat.mod_eq_of_lt (by omega)]
   have hE:((((j/m:Nat):Int)==(I:Int))&&(((j%m:Nat):Int)==(K:Int)))=true:=by rw [q1,q2];simp
   have f0:fndV (I*m+K) j=0:=by unfold fndV;rw [if_neg (by omega)]
   have f1:fndV (I*m+K) (j+1)=1:=by unfold fndV;rw [if_pos (by omega)]
   rw [f0];repeat (first|(simp -implicitDefEqProofs only [go_sem,Nat.reduceAdd,Nat.reduceMul,Nat.reduceEqDiff,Nat.reduceLT,Nat.reduceLeDiff,reduceCtorEq,pvars,List.toList_toArray]))
   refine⟨by simp [lkp],?_⟩;repeat (first|(simp -implicitDefEqProofs only [go_sem,Nat.reduceAdd,Nat.reduceMul,Nat.reduceEqDiff,Nat.reduceLT,Nat.reduceLeDiff,reduceCtorEq,Int.reduceAdd,hE]))
   refine⟨by omega,?_⟩;simp only [hB,f1];refine Qaj (θ:=[(1000000,1000000),(1000001,1000001),(1000002,1000002),(1000003,1000003),(1000004,1000004)]) rfl ?_ ?_
   ·simp [Qac,lkp,ren1,ren0,Qai]
   ·exact⟨⟨rfl,rfl,rfl,rfl,rfl,.inr ⟨rfl,_,_,rfl,rfl,rfl,rfl⟩⟩,⟨rfl,rfl,rfl,rfl,rfl,.inr ⟨rfl,_,_,rfl,rfl,rfl,rfl⟩⟩,⟨rfl,rfl,rfl,rfl,rfl,.inr ⟨rfl,_,_,rfl,rfl,rfl,rfl⟩⟩,⟨rfl,rfl,rfl,rfl,rfl,.inr ⟨rfl,_,_,rfl,rfl,rfl,rfl⟩⟩,⟨rfl,rfl,rfl,rfl,rfl,.inr ⟨rfl,_,_,rfl,rfl,rfl,rfl⟩⟩,trivial⟩
  ·have hE:((((j/m:Nat):Int)==(I:Int))&&(((j%m:Nat):Int)==(K:Int)))=false:=by
    rw [Bool.and_eq_false_iff];by_cases q1:j/m=I
    ·right;refine beq_eq_false_iff_ne.2 fun q2=>hq ?_;rw [q1,Nat.mul_comm]at hdm;omega
    ·left;exact beq_eq_false_iff_ne.2 (by omega)
   have f1:fndV (I*m+K) (j+1)=fndV (I*m+K) j:=by
    unfold fndV;by_cases q:I*m+K<j
    ·rw [if_pos q,if_pos (by omega)]
    ·rw [if_neg q,if_neg (by omega)]
   repeat (first|(simp -implicitDefEqProofs only [go_sem,Nat.reduceAdd,Nat.reduceMul,Nat.reduceEqDiff,Nat.reduceLT,Nat.reduceLeDiff,reduceCtorEq,pvars,List.toList_toArray]))
   refine⟨by simp [lkp],?_⟩;repeat (first|(simp -implicitDefEqProofs only [go_sem,hE]))
   refine⟨by omega,?_⟩;simp only [hB,f1];refine Qaj (θ:=[(1000000,1000000),(1000001,1000001),(1000002,1000002),(1000003,1000003),(1000004,1000004)]) rfl ?_ ?_
   ·simp [Qac,lkp,ren1,ren0,Qai]
   ·exact⟨⟨rfl,rfl,rfl,rfl,rfl,.inr ⟨rfl,_,_,rfl,rfl,rfl,rfl⟩⟩,⟨rfl,rfl,rfl,rfl,rfl,.inr ⟨rfl,_,_,rfl,rfl,rfl,rfl⟩⟩,⟨rfl,rfl,rfl,rfl,rfl,.inr ⟨rfl,_,_,rfl,rfl,rfl,rfl⟩⟩,⟨rfl,rfl,rfl,rfl,rfl,.inr ⟨rfl,_,_,rfl,rfl,rfl,rfl⟩⟩,⟨rfl,rfl,rfl,rfl,rfl,.inr ⟨rfl,_,_,rfl,rfl,rfl,rfl⟩⟩,trivial⟩
 ·simp [Qac,lkp,ren1,ren0,Qai]
 ·have hmn:min (Qou n m).length (n*m+1)=n*m:=by omega
  have f1:fndV (I*m+K) (n*m)=1:=by unfold fndV;rw [if_pos hin]
  rw [hmn];simp only [hB,f1];exact⟨⟨rfl,rfl,rfl,rfl,rfl,.inr ⟨rfl,_,_,rfl,rfl,rfl,rfl⟩⟩,⟨rfl,rfl,rfl,rfl,rfl,.inr ⟨rfl,_,_,rfl,rfl,rfl,rfl⟩⟩,⟨rfl,rfl,rfl,rfl,rfl,.inr ⟨rfl,_,_,rfl,rfl,rfl,rfl⟩⟩,⟨rfl,rfl,rfl,rfl,rfl,.inr ⟨rfl,_,_,rfl,rfl,rfl,rfl⟩⟩,⟨rfl,rfl,rfl,rfl,rfl,.inr ⟨rfl,_,_,rfl,rfl,rfl,rfl⟩⟩,trivial⟩
 clear hgO hlO hY;repeat (first|(simp -implicitDefEqProofs only [go_sem,Nat.reduceAdd,Nat.reduceMul,Nat.reduceEqDiff,Nat.reduceLT,Nat.reduceLeDiff,reduceCtorEq,BEq.rfl,bne_self_eq_false,hbt,decide_false,Zxz,Zx0])|((with_reducible refine Qaa hs1 ?_ ?_ ?_);rfl;rfl)|((with_reducible refine Qaa hs2 ?_ ?_ ?_);rfl;rfl))
 cases q1:stH p (min one two)with
 |false=>
  simp only [Bool.false_eq_true,if_false];repeat (first|(simp -implicitDefEqProofs only [go_sem,Nat.reduceAdd,Nat.reduceMul,Nat.reduceEqDiff,Nat.reduceLT,Nat.reduceLeDiff,reduceCtorEq,Bool.not_true,BEq.rfl,bne_self_eq_false,decide_true])|((with_reducible refine Qaa hKw ?_ ?_ ?_);rfl;rfl)|((with_reducible refine Qaa hSp ?_ ?_ ?_);rfl;rfl)|((with_reducible refine Qaa hA ?_ ?_ ?_);rfl;rfl)|((with_reducible refine Qaa hOt ?_ ?_ ?_);rfl;rfl))
  refine Qar mixed (fun x:{x:Nat // x≤LL.length}=>St.of [(4,.bp 0 3 0 0),(11,.int .i64 (begT p (K+1))),(29,.slc (LL.map pV)),(30,.int .i64 0),(31,.int .i64 (x.1:Int))]
   [(0,{els:=[.agg [.slc (p.ns.map PV.str),.slc (p.hs.map v3PV),.slc (p.as_.map acV)]],esz:=3,ety:=26,fro:=0,live:=true,arr:=false})]) (fun x=>LL.length-x.1) ⟨0,Nat.zero_le _⟩ ?_ ?_
  ·refine Qaj (θ:=[(0,0)]) rfl ?_ ?_
   ·simp [Qac,lkp,ren1,ren0,Qai]
   ·exact⟨⟨rfl,rfl,rfl,rfl,rfl,.inr ⟨rfl,_,_,rfl,rfl,rfl,rfl⟩⟩,trivial⟩
  ·rintro⟨x,hx⟩;simp only;by_cases hA:x<LL.length
   ·have hA':=lt_T hA;obtain⟨Y,T,g1,g2,g3⟩:=hLs x hA;have g4:(LL.map pV)[x]? =some (.slc (Y.map sgV)):=by rw [List.getElem?_map,g1];rfl
    have g5:(T≤begT p (K+1))=False:=eq_false (by omega);have nx:=nn_T x;have hwx:=wr_1 (n:=x) (by omega);unfold pV at g3;repeat (first|(simp -implicitDefEqProofs only [go_sem,Nat.reduceAdd,Nat.reduceMul,Nat.reduceEqDiff,Nat.reduceLT,Nat.reduceLeDiff,reduceCtorEq,hA',g4,g5,nx,hwx,Int.toNat_natCast,List.length_map,BEq.rfl,bne_self_eq_false,decide_true,decide_false])|((with_reducible refine Qaa g3 ?_ ?_ ?_);rfl;rfl))
    refine⟨⟨x+1,hA⟩,by simp only;omega,?_⟩;refine Qaj (θ:=[(0,0)]) rfl ?_ ?_
    ·simp [Qac,lkp,ren1,ren0,Qai]
    ·exact⟨⟨rfl,rfl,rfl,rfl,rfl,.inr ⟨rfl,_,_,rfl,rfl,rfl,rfl⟩⟩,trivial⟩
   ·have hA':=lt_F hA;obtain rfl:LL.length=x:=by omega
    by_cases hz:LL.length=0
    ·have hz':((LL.length:Int)==0)=true:=by rw [hz];rfl
     repeat (first|(simp -implicitDefEqProofs only [go_sem,Nat.reduceAdd,Nat.reduceMul,Nat.reduceEqDiff,Nat.reduceLT,Nat.reduceLeDiff,reduceCtorEq,hA',hz',List.length_map,bne_self_eq_false,decide_false])|((with_reducible refine Qaa hKn ?_ ?_ ?_);rfl;rfl))
    ·have hz':((LL.length:Int)==0)=false:=beq_eq_false_iff_ne.2 (by omega);have hw9:IntKind.i64.wrap ((p.ns.length:Int)-1)=(LL.length:Int):=by rw [Qag (by omega) (by omega)];omega
     repeat (first|(simp -implicitDefEqProofs only [go_sem,Nat.reduceAdd,Nat.reduceMul,Nat.reduceEqDiff,Nat.reduceLT,Nat.reduceLeDiff,reduceCtorEq,hA',hz',hw9,List.length_map,bne_self_eq_false,BEq.rfl,decide_false])|((with_reducible refine Qaa hKn ?_ ?_ ?_);rfl;rfl))
 |true=>
 cases q2:stH p (max one two)with
 |false=>
  simp only [Bool.false_eq_true,if_false,if_true];repeat (first|(simp -implicitDefEqProofs only [go_sem,Nat.reduceAdd,Nat.reduceMul,Nat.reduceEqDiff,Nat.reduceLT,Nat.reduceLeDiff,reduceCtorEq,Bool.not_true,BEq.rfl,bne_self_eq_false,decide_true])|((with_reducible refine Qaa hKw ?_ ?_ ?_);rfl;rfl)|((with_reducible refine Qaa hSp ?_ ?_ ?_);rfl;rfl)|((with_reducible refine Qaa hA ?_ ?_ ?_);rfl;rfl)|((with_reducible refine Qaa hOt ?_ ?_ ?_);rfl;rfl))
  refine Qar mixed (fun x:{x:Nat // x≤LL.length}=>St.of [(4,.bp 0 3 0 0),(11,.int .i64 (begT p (K+1))),(29,.slc (LL.map pV)),(30,.int .i64 0),(31,.int .i64 (x.1:Int))]
   [(0,{els:=[.agg [.slc (p.ns.map PV.str),.slc (p.hs.map v3PV),.slc (p.as_.map acV)]],esz:=3,ety:=26,fro:=0,live:=true,arr:=false})]) (fun x=>LL.length-x.1) ⟨0,Nat.zero_le _⟩ ?_ ?_
  ·refine Qaj (θ:=[(0,0)]) rfl ?_ ?_
   ·simp [Qac,lkp,ren1,ren0,Qai]
   ·exact⟨⟨rfl,rfl,rfl,rfl,rfl,.inr ⟨rfl,_,_,rfl,rfl,rfl,rfl⟩⟩,trivial⟩
  ·rintro⟨x,hx⟩;simp only;by_cases hA:x<LL.length
   ·have hA':=lt_T hA;obtain⟨Y,T,g1,g2,g3⟩:=hLs x hA;have g4:(LL.map pV)[x]? =some (.slc (Y.map sgV)):=by rw [List.getElem?_map,g1];rfl
    have g5:(T≤begT p (K+1))=False:=eq_false (by omega);have nx:=nn_T x;have hwx:=wr_1 (n:=x) (by omega);unfold pV at g3;repeat (first|(simp -implicitDefEqProofs only [go_sem,Nat.reduceAdd,Nat.reduceMul,Nat.reduceEqDiff,Nat.reduceLT,Nat.reduceLeDiff,reduceCtorEq,hA',g4,g5,nx,hwx,Int.toNat_natCast,List.length_map,BEq.rfl,bne_self_eq_false,decide_true,decide_false])|((with_reducible refine Qaa g3 ?_ ?_ ?_);rfl;rfl))
    refine⟨⟨x+1,hA⟩,by simp only;omega,?_⟩;refine Qaj (θ:=[(0,0)]) rfl ?_ ?_
    ·simp [Qac,lkp,ren1,ren0,Qai]
    ·exact⟨⟨rfl,rfl,rfl,rfl,rfl,.inr ⟨rfl,_,_,rfl,rfl,rfl,rfl⟩⟩,trivial⟩
   ·have hA':=lt_F hA;obtain rfl:LL.length=x:=by omega
    by_cases hz:LL.length=0
    ·have hz':((LL.length:Int)==0)=true:=by rw [hz];rfl
     repeat (first|(simp -implicitDefEqProofs only [go_sem,Nat.reduceAdd,Nat.reduceMul,Nat.reduceEqDiff,Nat.reduceLT,Nat.reduceLeDiff,reduceCtorEq,hA',hz',List.length_map,bne_self_eq_false,decide_false])|((with_reducible refine Qaa hKn ?_ ?_ ?_);rfl;rfl))
    ·have hz':((LL.length:Int)==0)=false:=beq_eq_false_iff_ne.2 (by omega);have hw9:IntKind.i64.wrap ((p.ns.length:Int)-1)=(LL.length:Int):=by rw [Qag (by omega) (by omega)];omega
     repeat (first|(simp -implicitDefEqProofs only [go_sem,Nat.reduceAdd,Nat.reduceMul,Nat.reduceEqDiff,Nat.reduceLT,Nat.reduceLeDiff,reduceCtorEq,hA',hz',hw9,List.length_map,bne_self_eq_false,BEq.rfl,decide_false])|((with_reducible refine Qaa hKn ?_ ?_ ?_);rfl;rfl))
 |true=>
  simp only [if_true];have hcm:=eq_false (show¬(stN p (I:Int) t (I:Int) (max one two) K<stN p (I:Int) t (I:Int) (min one two) K)by omega);repeat (first|(simp -implicitDefEqProofs only [go_sem,Nat.reduceAdd,Nat.reduceMul,Nat.reduceEqDiff,Nat.reduceLT,Nat.reduceLeDiff,reduceCtorEq,Bool.not_true,BEq.rfl,bne_self_eq_false,decide_false,decide_true,hcm])|((with_reducible refine Qaa hKw ?_ ?_ ?_);rfl;rfl)|((with_reducible refine Qaa hSp ?_ ?_ ?_);rfl;rfl)|((with_reducible refine Qaa hA ?_ ?_ ?_);rfl;rfl)|((with_reducible refine Qaa hOt ?_ ?_ ?_);rfl;rfl))
  refine Qar mixed (fun x:{x:Nat // x≤LL.length}=>St.of [(4,.bp 0 3 0 0),(11,.int .i64 (begT p (K+1))),(29,.slc (LL.map pV)),(30,.int .i64 0),(31,.int .i64 (x.1:Int))]
   [(0,{els:=[.agg [.slc (p.ns.map PV.str),.slc (p.hs.map v3PV),.slc (p.as_.map acV)]],esz:=3,ety:=26,fro:=0,live:=true,arr:=false})]) (fun x=>LL.length-x.1) ⟨0,Nat.zero_le _⟩ ?_ ?_
  ·refine Qaj (θ:=[(0,0)]) rfl ?_ ?_
   ·simp [Qac,lkp,ren1,ren0,Qai]
   ·exact⟨⟨rfl,rfl,rfl,rfl,rfl,.inr ⟨rfl,_,_,rfl,rfl,rfl,rfl⟩⟩,trivial⟩
  ·rintro⟨x,hx⟩;simp only;by_cases hA:x<LL.length
   ·have hA':=lt_T hA;obtain⟨Y,T,g1,g2,g3⟩:=hLs x hA;have g4:(LL.map pV)[x]? =some (.slc (Y.map sgV)):=by rw [List.getElem?_map,g1];rfl
    have g5:(T≤begT p (K+1))=False:=eq_false (by omega);have nx:=nn_T x;have hwx:=wr_1 (n:=x) (by omega);unfold pV at g3;repeat (first|(simp -implicitDefEqProofs only [go_sem,Nat.reduceAdd,Nat.reduceMul,Nat.reduceEqDiff,Nat.reduceLT,Nat.reduceLeDiff,reduceCtorEq,hA',g4,g5,nx,hwx,Int.toNat_natCast,List.length_map,BEq.rfl,bne_self_eq_false,decide_true,decide_false])|((with_reducible refine Qaa g3 ?_ ?_ ?_);rfl;rfl))
    refine⟨⟨x+1,hA⟩,by simp only;omega,?_⟩;refine Qaj (θ:=[(0,0)]) rfl ?_ ?_
    ·simp [Qac,lkp,ren1,ren0,Qai]
    ·exact⟨⟨rfl,rfl,rfl,rfl,rfl,.inr ⟨rfl,_,_,rfl,rfl,rfl,rfl⟩⟩,trivial⟩
   ·have hA':=lt_F hA;obtain rfl:LL.length=x:=by omega
    by_cases hz:LL.length=0
    ·have hz':((LL.length:Int)==0)=true:=by rw [hz];rfl
     repeat (first|(simp -implicitDefEqProofs only [go_sem,Nat.reduceAdd,Nat.reduceMul,Nat.reduceEqDiff,Nat.reduceLT,Nat.reduceLeDiff,reduceCtorEq,hA',hz',List.length_map,bne_self_eq_false,decide_false])|((with_reducible refine Qaa hKn ?_ ?_ ?_);rfl;rfl))
    ·have hz':((LL.length:Int)==0)=false:=beq_eq_false_iff_ne.2 (by omega);have hw9:IntKind.i64.wrap ((p.ns.length:Int)-1)=(LL.length:Int):=by rw [Qag (by omega) (by omega)];omega
     repeat (first|(simp -implicitDefEqProofs only [go_sem,Nat.reduceAdd,Nat.reduceMul,Nat.reduceEqDiff,Nat.reduceLT,Nat.reduceLeDiff,reduceCtorEq,hA',hz',hw9,List.length_map,bne_self_eq_false,BEq.rfl,decide_false])|((with_reducible refine Qaa hKn ?_ ?_ ?_);rfl;rfl))
end Go.Proofs.YtjlkapdmgjocdaaGreat
