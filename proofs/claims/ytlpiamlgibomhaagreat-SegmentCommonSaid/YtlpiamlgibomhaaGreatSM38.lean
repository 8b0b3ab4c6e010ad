/-
  Dcm, SM36, SM37, SM38 (merged for the claim).
-/
import Derived.Test.YtlpiamlgibomhaaGreatSO2
import Derived.Test.YtlpiamlgibomhaaGreatSM24
set_option linter.unusedSimpArgs false
set_option linter.unusedVariables false
namespace Go.Dg
def innS (f t:Int) (s:Sg):Bool:=decide (f<s.f)&&decide (s.f<t)
def frs (f t:Int) (p:List Sg):List Int:=(p.filter (innS f t)).map (·.f)
def Qc0 (a b:List Sg) (f t:Int):List Int:=[f,t]++frs f t a++frs f t b
def brk (a b:List Sg) (f t:Int):List Int:=dd (Qgm (Qc0 a b f t))
theorem Q8p (f t:Int) (p:List Sg) (i:Nat) (h:i<p.length):frs f t (p.take (i+1))=if innS f t p[i]=true then frs f t (p.take i)++[p[i].f]else frs f t (p.take i):=by
 have e:p.take (i+1)=p.take i++[p[i]]:=by rw [List.take_add_one,List.getElem?_eq_getElem h];rfl
 unfold frs
 rw [e,List.filter_append]
 by_cases hi:innS f t p[i]=true
 ·rw [if_pos hi];simp [hi]
 ·rw [if_neg hi];simp [hi]
theorem Qgj (f t:Int) (p:List Sg):(frs f t p).length≤p.length:=by
 unfold frs;rw [List.length_map];exact List.length_filter_le _ _
theorem Qvq (f t:Int) (p:List Sg) (h: ∀h:0<p.length,p[0].f≤f):(frs f t p).length≤p.length-1:=by
 cases p with
 |nil=>simp [frs]
 |cons s p=>
  have h0:=h (by simp)
  simp only [List.getElem_cons_zero]at h0
  have:innS f t s=false:=by simp [innS];omega
  have e:frs f t (s::p)=frs f t p:=by simp [frs,this]
  rw [e]
  have:=Qgj f t p
  simp;omega
theorem Zhg (f t:Int) (p:List Sg) (y:Int):y∈frs f t p↔ ∃s∈p,s.f=y∧f<y∧y<t:=by
 unfold frs innS
 simp only [List.mem_map,List.mem_filter,Bool.and_eq_true,decide_eq_true_eq]
 constructor
 ·rintro⟨s,⟨h1,h2,h3⟩,rfl⟩;exact⟨s,h1,rfl,h2,h3⟩
 ·rintro⟨s,h1,rfl,h2,h3⟩;exact⟨s,⟨h1,h2,h3⟩,rfl⟩
theorem Qo4 (a b:List Sg) (f t y:Int):y∈brk a b f t↔y=f∨y=t∨(∃s∈a++b,s.f=y∧f<y∧y<t):=by
 unfold brk
 rw [Q1p,(Qn9 _).2]
 unfold Qc0
 simp only [List.mem_append,List.mem_cons,List.not_mem_nil,or_false,Zhg]
 constructor
 ·rintro(((h|h)|⟨s,h1,h2⟩)|⟨s,h1,h2⟩)
  ·exact .inl h
  ·exact .inr (.inl h)
  ·exact .inr (.inr ⟨s,.inl h1,h2⟩)
  ·exact .inr (.inr ⟨s,.inr h1,h2⟩)
 ·rintro(h|h|⟨s,h1|h1,h2⟩)
  ·exact .inl (.inl (.inl h))
  ·exact .inl (.inl (.inr h))
  ·exact .inl (.inr ⟨s,h1,h2⟩)
  ·exact .inr ⟨s,h1,h2⟩
theorem Qjk (a b:List Sg) (f t:Int):(brk a b f t).Pairwise (· < ·):=Qrf _ (Qn9 _).1
theorem Qj9 {T:List Int} (h:T.Pairwise (· < ·)) {i j:Nat} (hij:i<j) (hj:j<T.length):T.getD i 0<T.getD j 0:=by
 rw [gD hj,gD (show i<T.length by omega)]
 exact List.pairwise_iff_getElem.1 h i j _ _ hij
theorem Qs3 {T:List Int} {y:Int} (hy:y∈T): ∃i,i<T.length∧T.getD i 0=y:=by
 obtain⟨i,h,rfl⟩:=List.getElem_of_mem hy
 exact⟨i,h,gD h⟩
theorem Qs4 {T:List Int} {i:Nat} (h:i<T.length):T.getD i 0∈T:=by rw [gD h];exact List.getElem_mem h
theorem Q8q {T:List Int} (h:T.Pairwise (· < ·)) {i:Nat} (hi:i+1<T.length) {y:Int} (hy:y∈T) (hl:T.getD i 0<y):T.getD (i+1) 0≤y:=by
 obtain⟨j,hj,rfl⟩:=Qs3 hy
 rcases Nat.lt_trichotomy j (i+1)with q|q|q
 ·have: ¬T.getD i 0<T.getD j 0:=by
   rcases Nat.lt_or_ge j i with r|r
   ·have:=Qj9 h r (by omega);omega
   ·have:j=i:=by omega
    subst this;omega
  exact absurd hl this
 ·subst q;exact Int.le_refl _
 ·exact Int.le_of_lt (Qj9 h q hj)
theorem Qo5 (a b:List Sg) (f t:Int) (hft:f<t):2≤(brk a b f t).length∧(brk a b f t).getD 0 0=f∧(brk a b f t).getD ((brk a b f t).length-1) 0=t:=by
 have hs:=Qjk a b f t
 have hf:f∈brk a b f t:=(Qo4 _ _ _ _ _).2 (.inl rfl)
 have ht:t∈brk a b f t:=(Qo4 _ _ _ _ _).2 (.inr (.inl rfl))
 have hge: ∀y∈brk a b f t,f≤y∧y≤t:=by
  intro y hy
  rcases(Qo4 _ _ _ _ _).1 hy with rfl|rfl|⟨s,_,rfl,h2,h3⟩<;>omega
 generalize brk a b f t=T at*
 obtain⟨i,hi,ei⟩:=Qs3 hf
 obtain⟨j,hj,ej⟩:=Qs3 ht
 have hij:i≠j:=by rintro rfl;omega
 refine⟨by omega,?_,?_⟩
 ·have h0:=hge _ (Qs4 (show 0<T.length by omega))
  rcases Nat.eq_zero_or_pos i with r|r
  ·subst r;exact ei
  ·have:=Qj9 hs r hi;omega
 ·have h0:=hge _ (Qs4 (show T.length-1<T.length by omega))
  rcases Nat.lt_or_ge j (T.length-1)with r|r
  ·have:=Qj9 hs r (by omega);omega
  ·have:j=T.length-1:=by omega
   subst this;exact ej
def nxF (p:List Sg) (t:Int) (m:Int):Int:=p.foldl (fun m s=>if t<s.f then min m s.f else m) m
theorem Qvr (p:List Sg) (t m:Int) (i:Nat) (h:i<p.length):nxF (p.take (i+1)) t m=if t<p[i].f then min (nxF (p.take i) t m) p[i].f else nxF (p.take i) t m:=by
 have e:p.take (i+1)=p.take i++[p[i]]:=by rw [List.take_add_one,List.getElem?_eq_getElem h];rfl
 unfold nxF
 rw [e,List.foldl_append]
 rfl
theorem Qvs (p:List Sg) (t:Int): ∀m,nxF p t m≤m∧(∀s∈p,t<s.f→nxF p t m≤s.f)∧(nxF p t m=m∨ ∃s∈p,t<s.f∧nxF p t m=s.f):=by
 induction p with
 |nil=>
  intro m
  have e:nxF [] t m=m:=rfl
  rw [e]
  exact⟨Int.le_refl _,fun s h=>by simp at h,Or.inl rfl⟩
 |cons s p ih=>
  intro m
  have e:nxF (s::p) t m=nxF p t (if t<s.f then min m s.f else m):=rfl
  rw [e]
  obtain⟨h1,h2,h3⟩:=ih (if t<s.f then min m s.f else m)
  by_cases hs:t<s.f
  ·rw [if_pos hs]at h1 h2 h3 ⊢
   refine⟨by omega,fun x hx hlt=> ?_,?_⟩
   ·rcases List.mem_cons.1 hx with rfl|hx
    ·omega
    ·exact h2 x hx hlt
   ·rcases h3 with h3|⟨x,hx,h3⟩
    ·rcases Int.le_total m s.f with q|q
     ·exact .inl (by omega)
     ·exact .inr ⟨s,by simp,hs,by omega⟩
    ·exact .inr ⟨x,by simp [hx],h3⟩
  ·rw [if_neg hs]at h1 h2 h3 ⊢
   refine⟨h1,fun x hx hlt=> ?_,?_⟩
   ·rcases List.mem_cons.1 hx with rfl|hx
    ·omega
    ·exact h2 x hx hlt
   ·rcases h3 with h3|⟨x,hx,h3⟩
    ·exact .inl h3
    ·exact .inr ⟨x,by simp [hx],h3⟩
theorem Q8r (a b:List Sg) (f t:Int) (hft:f<t) (i:Nat) (hi:i+1<(brk a b f t).length):nxF b ((brk a b f t).getD i 0) (nxF a ((brk a b f t).getD i 0) t)=(brk a b f t).getD (i+1) 0:=by
 have hs:=Qjk a b f t
 have hm:=Qo4 a b f t
 obtain⟨-,e0,e1⟩:=Qo5 a b f t hft
 generalize brk a b f t=T at*
 have h0:f≤T.getD i 0:=by
  rcases Nat.eq_zero_or_pos i with r|r
  ·subst r;omega
  ·have:=Qj9 hs r (by omega);omega
 have h1:T.getD (i+1) 0≤t:=by
  rcases Nat.lt_or_ge (i+1) (T.length-1)with r|r
  ·have:=Qj9 hs r (by omega);omega
  ·have:i+1=T.length-1:=by omega
   rw [this,e1];exact Int.le_refl _
 have h2:=Qj9 hs (show i<i+1 by omega) hi
 obtain⟨p1,p2,p3⟩:=Qvs a (T.getD i 0) t
 obtain⟨q1,q2,q3⟩:=Qvs b (T.getD i 0) (nxF a (T.getD i 0) t)
 generalize nxF b (T.getD i 0) (nxF a (T.getD i 0) t)=y at*
 generalize nxF a (T.getD i 0) t=z at*
 have hsrc:y=t∨ ∃s∈a++b,T.getD i 0<s.f∧y=s.f:=by
  rcases q3 with q3|⟨s,hs1,hs2⟩
  ·rcases p3 with p3|⟨s,hs1,hs2,hs3⟩
   ·exact .inl (by omega)
   ·exact .inr ⟨s,List.mem_append_left _ hs1,hs2,by omega⟩
  ·exact .inr ⟨s,List.mem_append_right _ hs1,hs2⟩
 have hy:y∈T∧T.getD i 0<y:=by
  rcases hsrc with rfl|⟨s,hs1,hs2,rfl⟩
  ·exact⟨(hm _).2 (.inr (.inl rfl)),by omega⟩
  ·refine⟨(hm _).2 ?_,hs2⟩
   rcases Int.lt_or_le s.f t with r|r
   ·exact .inr (.inr ⟨s,hs1,rfl,by omega,r⟩)
   ·exact .inr (.inl (by omega))
 have hge:=Q8q hs hi hy.1 hy.2
 refine Int.le_antisymm ?_ hge
 rcases(hm _).1 (Qs4 hi)with r|r|⟨s,hs1,hs2,hs3,hs4⟩
 ·omega
 ·omega
 ·rcases List.mem_append.1 hs1 with r|r
  ·have:=p2 s r (by omega);omega
  ·have:=q2 s r (by omega);omega
def cmS (p:List Sg) (T:List Int) (k:Nat):List (Sg×Int×Int):=(List.range k).flatMap fun i=>spans p (T.getD i 0) (T.getD (i+1) 0)
theorem Qg4 (p:List Sg) (T:List Int) (k:Nat):cmS p T (k+1)=cmS p T k++spans p (T.getD k 0) (T.getD (k+1) 0):=by
 unfold cmS;rw [List.range_succ,List.flatMap_append];simp
theorem Qo6 {p:List Sg} {T:List Int} {k n:Nat} (h:(spans p (T.getD k 0) (T.getD (k+1) 0)).all spF=false) (hk:k<n):(cmS p T n).all spF=false:=by
 induction n with
 |zero=>omega
 |succ n ih=>
  rw [Qg4,List.all_append]
  rcases Nat.lt_or_ge k n with r|r
  ·rw [ih r];rfl
  ·have:k=n:=by omega
   subst this;rw [h,Bool.and_false]
theorem Qjl (p:List Sg) (T:List Int): ∀k,(cmS p T k).length≤k*p.length
 |0=>by simp [cmS]
 |k+1=>by
  rw [Qg4,List.length_append,Nat.add_mul,Nat.one_mul]
  have:=Qjl p T k
  have:=Qb8 p (T.getD k 0) (T.getD (k+1) 0)
  omega
theorem Zhh {p:List Sg} {T:List Int} {k:Nat} {x:Sg×Int×Int} (h:x∈cmS p T k):x.1∈p:=by
 unfold cmS at h
 obtain⟨i,_,hx⟩:=List.mem_flatMap.1 h
 exact(Q1n hx).1
end Go.Dg

namespace Go.Proofs.YtlpiamlgibomhaaGreat
open Go.Vl Go.RowKit Go.Dg
def Q91 (a b:List Sg) (T:List Int):PV:=if(cmS a T (T.length-1)).all spF=true∧(cmS b T (T.length-1)).all spF=true then(if(cmS a T (T.length-1)).length≤256 then .tup [Qap ((cmS a T (T.length-1)).map spS),Qap ((cmS b T (T.length-1)).map spS),.int .i64 0]else .tup [Qap [],Qap [],.int .i64 7])else .tup [Qap [],Qap [],.int .i64 7]
def Qkh (a b:List Sg):PV:=if Qa5 a=true∧Qa5 b=true then(if max (pBeg a) (pBeg b)<min (pEnd a) (pEnd b)then Q91 a b (brk a b (max (pBeg a) (pBeg b)) (min (pEnd a) (pEnd b)))else .tup [Qap [],Qap [],.int .i64 9])else .tup [Qap [],Qap [],.int .i64 2]
theorem Zi1 {xs:List Int} {i:Nat} (h:i<(dd xs).length):((ddB xs).map (PV.int .i64))[i]? =some (.int .i64 ((dd xs).getD i 0)):=by
 unfold ddB
 rw [List.getElem?_map,List.getElem?_append_left h,gD h,List.getElem?_eq_getElem h];rfl
theorem Qh5 (p:List Sg) (i:Nat) (h:i<p.length):(p.map sgPV)[i]? =some (sgPV p[i]):=by rw [List.getElem?_map,List.getElem?_eq_getElem h];rfl
def accT (a b:List Sg) (f t:Int):Nat→List Int
 |0=>[f,t]
 |1=>[f,t]++frs f t a
 |_=>Qc0 a b f t
theorem Qwj (a b:List Sg) (f t:Int) (j:Nat) (p:List Sg) (i:Nat) (ha:a.length≤1000) (hb:b.length≤1000) (hp:p.length≤1000):(accT a b f t j++frs f t (p.take i)).length≤4000:=by
 have h1:=Qgj f t a
 have h2:=Qgj f t b
 have h3:=Qgj f t (p.take i)
 have h4:(p.take i).length≤p.length:=by simp;omega
 rw [List.length_append]
 match j with
 |0=>simp [accT];omega
 |1=>simp [accT];omega
 |j+2=>simp [accT,Qc0];omega
set_option maxHeartbeats 8000000 in
set_option maxRecDepth 100000 in
theorem Q2o (a b:List Sg) (ha: ∀s∈a,okSg s) (hb: ∀s∈b,okSg s) (hla:a.length≤6) (hlb:b.length≤6):Qaf Tryz.prog 42 [Qap a,Qap b] (Qkh a b):=by
 have v1:=Qd4 a ha (by omega)
 have v2:=Qd4 b hb (by omega)
 unfold Qkh
 cases hA:Qa5 a with
 |false=>
  rw [hA]at v1
  rw [if_neg (by simp)]
  unfold Qap at v1 ⊢
  refine Qac (tb:=[]) 143 [.tmp 4,.tmp 5,.tmp 6] [0,1,4,5,6,7,8,9,11,13,14,15,16,17,18,26,53,59,60,61,62,65,66,67,68,80,95,131,140] mixed Tryz.func42 rfl (by kernel_rfl) (by kernel_rfl) (by kernel_rfl) (by kernel_rfl) ?_
  repeat (first|(simp -implicitDefEqProofs only [go_sem,Nat.reduceAdd,Nat.reduceMul,Nat.reduceEqDiff,Nat.reduceLT,Nat.reduceLeDiff,reduceCtorEq,Bool.not_false,List.map_nil])|((with_reducible refine Qab (v1) ?_ ?_ ?_);(with_reducible rfl);rfl)|(with_reducible exact Qaa _ _ (by kernel_rfl))|(with_reducible refine And.intro (Qaa _ _ (by kernel_rfl)) ?_))
 |true=>
 rw [hA]at v1
 cases hB:Qa5 b with
 |false=>
  rw [hB]at v2
  rw [if_neg (by simp)]
  unfold Qap at v1 v2 ⊢
  refine Qac (tb:=[]) 143 [.tmp 4,.tmp 5,.tmp 6] [0,1,4,5,6,7,8,9,11,13,14,15,16,17,18,26,53,59,60,61,62,65,66,67,68,80,95,131,140] mixed Tryz.func42 rfl (by kernel_rfl) (by kernel_rfl) (by kernel_rfl) (by kernel_rfl) ?_
  repeat (first|(simp -implicitDefEqProofs only [go_sem,Nat.reduceAdd,Nat.reduceMul,Nat.reduceEqDiff,Nat.reduceLT,Nat.reduceLeDiff,reduceCtorEq,Bool.not_false,Bool.not_true,List.map_nil])|((with_reducible refine Qab (v1) ?_ ?_ ?_);(with_reducible rfl);rfl)|((with_reducible refine Qab (v2) ?_ ?_ ?_);(with_reducible rfl);rfl)|(with_reducible exact Qaa _ _ (by kernel_rfl))|(with_reducible refine And.intro (Qaa _ _ (by kernel_rfl)) ?_))
 |true=>
 rw [hB]at v2
 rw [if_pos ⟨rfl,rfl⟩]
 obtain⟨-,a1,a2⟩:=Qbr hA
 obtain⟨-,b1,b2⟩:=Qbr hB
 have ga0:=Qh5 a 0 (by omega)
 have gb0:=Qh5 b 0 (by omega)
 have hia:a.length-1<a.length:=by omega
 have hib:b.length-1<b.length:=by omega
 have ga1:=Qh5 a (a.length-1) hia
 have gb1:=Qh5 b (b.length-1) hib
 have na:=nnT (a.length-1)
 have nb:=nnT (b.length-1)
 have wa:=Qdh (n:=a.length) (by omega) (by omega)
 have wb:=Qdh (n:=b.length) (by omega) (by omega)
 have z0:((0:Int)≤0)=True:=eq_true (Int.le_refl 0)
 have ea:a[0].f=pBeg a:=by unfold pBeg;rw [sgD (show 0<a.length by omega)]
 have eb:b[0].f=pBeg b:=by unfold pBeg;rw [sgD (show 0<b.length by omega)]
 have ea1:a[a.length-1].t=pEnd a:=by unfold pEnd;rw [sgD hia]
 have eb1:b[b.length-1].t=pEnd b:=by unfold pEnd;rw [sgD hib]
 unfold Qap at v1 v2
 by_cases hft:max (pBeg a) (pBeg b)<min (pEnd a) (pEnd b)
 ·rw [if_pos hft]
  have hft':(min (pEnd a) (pEnd b)≤max (pBeg a) (pBeg b))=False:=eq_false (by omega)
  obtain⟨m2,t0,t1⟩:=Qo5 a b _ _ hft
  have hva:=Qcw hA
  have hvb:=Qcw hB
  obtain⟨x1,x2,x3,x4⟩:=Qe2 hA
  obtain⟨y1,y2,y3,y4⟩:=Qe2 hB
  have hlen12:(Qc0 a b (max (pBeg a) (pBeg b)) (min (pEnd a) (pEnd b))).length≤12:=by
   have q4:=Qvq (max (pBeg a) (pBeg b)) (min (pEnd a) (pEnd b)) a (fun h=>by rw [ea];omega)
   have q5:=Qvq (max (pBeg a) (pBeg b)) (min (pEnd a) (pEnd b)) b (fun h=>by rw [eb];omega)
   simp [Qc0];omega
  have hF0:0≤max (pBeg a) (pBeg b):=by omega
  have hT1:min (pEnd a) (pEnd b)≤3600000:=by omega

  refine Qac (tb:=[(1701,[(1000000,7)],[]),(1801,[(1000000,7)],[])]) 143 [.tmp 4,.tmp 5,.tmp 6] [0,1,4,5,6,7,8,9,11,13,14,15,16,17,18,26,53,59,60,61,62,65,66,67,68,80,95,131,140] mixed Tryz.func42 rfl (by kernel_rfl) (by kernel_rfl) (by kernel_rfl) (by kernel_rfl) ?_
  repeat (first|(simp -implicitDefEqProofs only [go_sem,Nat.reduceAdd,Nat.reduceMul,Nat.reduceEqDiff,Nat.reduceLT,Nat.reduceLeDiff,reduceCtorEq,ga0,gb0,ga1,gb1,na,nb,wa,wb,z0,ea,eb,ea1,eb1,Q8o,Qvm,hft',Int.toNat_natCast,List.length_map,Bool.not_true])|((with_reducible refine Qab (v1) ?_ ?_ ?_);(with_reducible rfl);rfl)|((with_reducible refine Qab (v2) ?_ ?_ ?_);(with_reducible rfl);rfl)|(with_reducible exact Qaa _ _ (by kernel_rfl))|(with_reducible refine And.intro (Qaa _ _ (by kernel_rfl)) ?_))
  generalize max (pBeg a) (pBeg b)=F at*
  generalize min (pEnd a) (pEnd b)=E at*
  refine Qao mixed (fun j:{j:Nat // j≤2}=>St.of [(0,.slc (a.map sgPV)),(1,.slc (b.map sgPV)),(4,.nilS),(5,.nilS),(6,.int .i64 0),(7,.int .i64 F),(8,.int .i64 E),(9,.bs 7 1 0 (accT a b F E j.1).length),(59,.bs 702 1 0 2),(60,.int .i64 2),(61,.int .i64 (j.1:Int))]
   [(702,{els:=[PV.slc (a.map sgPV),PV.slc (b.map sgPV)],esz:=1,ety:=27,fro:=0,live:=true,arr:=true}),(7,iB (accT a b F E j.1))]) (fun j=>2-j.1) ⟨0,by omega⟩ ?_ ?_
  ·refine Qaj (θ:=[(702,702),(7,602)]) rfl ?_ ?_
   ·simp [Qad,lkp,ren1,ren0,Qam,accT]
   ·exact⟨⟨rfl,rfl,rfl,rfl,rfl,.inl ⟨rfl,rfl⟩⟩,⟨rfl,rfl,rfl,rfl,rfl,.inl ⟨rfl,rfl⟩⟩,trivial⟩
  ·rintro⟨j,hj⟩
   simp only
   by_cases hj2:j<2
   ·have hj':((j:Int)<2)=True:=eq_true (by omega)
    have nj:=nnT j
    obtain⟨p,hp6,hgp,hacc⟩: ∃p:List Sg,p.length≤6∧ [PV.slc (a.map sgPV),PV.slc (b.map sgPV)][j]? =some (.slc (p.map sgPV))∧accT a b F E (j+1)=accT a b F E j++frs F E p:=by
     match j,hj2 with
     |0,_=>exact⟨a,hla,rfl,rfl⟩
     |1,_=>exact⟨b,hlb,rfl,rfl⟩
    have hAl:=fun i=>Qwj a b F E j p i (by omega) (by omega) (by omega)
    have hwj:=Qah (a:=j) (by omega)
    repeat (first|(simp -implicitDefEqProofs only [go_sem,Nat.reduceAdd,Nat.reduceMul,Nat.reduceEqDiff,Nat.reduceLT,Nat.reduceLeDiff,reduceCtorEq,hj',nj,hgp,Int.toNat_natCast,List.length_map])|(with_reducible exact Qaa _ _ (by kernel_rfl))|(with_reducible refine And.intro (Qaa _ _ (by kernel_rfl)) ?_))
    refine Qao mixed (fun i:{i:Nat // i≤p.length}=>St.of [(0,.slc (a.map sgPV)),(1,.slc (b.map sgPV)),(4,.nilS),(5,.nilS),(6,.int .i64 0),(7,.int .i64 F),(8,.int .i64 E),(9,.bs 7 1 0 (accT a b F E j++frs F E (p.take i.1)).length),(59,.bs 702 1 0 2),(60,.int .i64 2),(61,.int .i64 (j:Int)),(65,.slc (p.map sgPV)),(66,.int .i64 (p.length:Int)),(67,.int .i64 (i.1:Int))]
     [(702,{els:=[PV.slc (a.map sgPV),PV.slc (b.map sgPV)],esz:=1,ety:=27,fro:=0,live:=true,arr:=true}),(7,iB (accT a b F E j++frs F E (p.take i.1)))]) (fun i=>p.length-i.1) ⟨0,Nat.zero_le _⟩ ?_ ?_
    ·refine Qaj (θ:=[(702,702),(7,7)]) rfl ?_ ?_
     ·simp [Qad,lkp,ren1,ren0,Qam,frs]
     ·refine⟨⟨rfl,rfl,rfl,rfl,rfl,.inl ⟨rfl,rfl⟩⟩,⟨rfl,rfl,rfl,rfl,rfl,.inl ⟨rfl,?_⟩⟩,trivial⟩
      simp [frs]
    ·rintro⟨i,hi⟩
     by_cases hA:i<p.length
     ·have hA':=ltT hA
      have n0:=nnT i
      have hg:=Qh5 p i hA
      have hwk:=Qah (a:=i) (by omega)
      have hsn:=Q8p F E p i hA
      have hL:=hAl i
      have hokf:=Qf1 (accT a b F E j++frs F E (p.take i))
      simp only
      by_cases h1:F<p[i].f
      ·have h1':(F<p[i].f)=True:=eq_true h1
       by_cases h2:p[i].f<E
       ·have h2':(p[i].f<E)=True:=eq_true h2
        have hin:innS F E p[i]=true:=by simp [innS,h1,h2]
        rw [if_pos hin]at hsn
        have hsn2:accT a b F E j++frs F E (p.take (i+1))=(accT a b F E j++frs F E (p.take i))++[p[i].f]:=by rw [hsn,List.append_assoc]
        generalize accT a b F E j++frs F E (p.take i)=L at*
        generalize p[i]=s at*
        have k1:((L.length+1)*8≤140737488355328)=True:=eq_true (by omega)
        have k2:(L.length+1≤maxLen)=True:=eq_true (by unfold maxLen;omega)
        repeat (first|(simp -implicitDefEqProofs only [go_sem,Nat.reduceAdd,Nat.reduceMul,Nat.reduceEqDiff,Nat.reduceLT,Nat.reduceLeDiff,reduceCtorEq,Nat.reduceBneDiff,hA',n0,hg,hwk,h1',h2',k1,k2,hokf,decide_true,Int.toNat_natCast,List.length_map])|(with_reducible exact Qaa _ _ (by kernel_rfl))|(with_reducible refine And.intro (Qaa _ _ (by kernel_rfl)) ?_))
        refine⟨⟨i+1,hA⟩,by simp only;omega,Qaj (θ:=[(702,702),(7,1404)]) rfl ?_ ?_⟩
        ·simp only [hsn2]
         simp [Qad,lkp,ren1,ren0,Qam]
        ·simp only [hsn2]
         refine⟨⟨rfl,rfl,rfl,rfl,rfl,.inl ⟨rfl,rfl⟩⟩,⟨rfl,rfl,rfl,rfl,rfl,.inl ⟨rfl,?_⟩⟩,trivial⟩
         simp
       ·have h2':(p[i].f<E)=False:=eq_false h2
        have hin: ¬innS F E p[i]=true:=by simp [innS,h2]
        rw [if_neg hin]at hsn
        have hsn2:accT a b F E j++frs F E (p.take (i+1))=accT a b F E j++frs F E (p.take i):=by rw [hsn]
        generalize accT a b F E j++frs F E (p.take i)=L at*
        generalize p[i]=s at*
        repeat (first|(simp -implicitDefEqProofs only [go_sem,Nat.reduceAdd,Nat.reduceMul,Nat.reduceEqDiff,Nat.reduceLT,Nat.reduceLeDiff,reduceCtorEq,hA',n0,hg,hwk,h1',h2',decide_true,decide_false,Int.toNat_natCast,List.length_map])|(with_reducible exact Qaa _ _ (by kernel_rfl))|(with_reducible refine And.intro (Qaa _ _ (by kernel_rfl)) ?_))
        refine⟨⟨i+1,hA⟩,by simp only;omega,Qaj (θ:=[(702,702),(7,7)]) rfl ?_ ?_⟩
        ·simp only [hsn2]
         simp [Qad,lkp,ren1,ren0,Qam]
        ·simp only [hsn2]
         exact⟨⟨rfl,rfl,rfl,rfl,rfl,.inl ⟨rfl,rfl⟩⟩,⟨rfl,rfl,rfl,rfl,rfl,.inl ⟨rfl,rfl⟩⟩,trivial⟩
      ·have h1':(F<p[i].f)=False:=eq_false h1
       have hin: ¬innS F E p[i]=true:=by simp [innS,h1]
       rw [if_neg hin]at hsn
       have hsn2:accT a b F E j++frs F E (p.take (i+1))=accT a b F E j++frs F E (p.take i):=by rw [hsn]
       generalize accT a b F E j++frs F E (p.take i)=L at*
       generalize p[i]=s at*
       repeat (first|(simp -implicitDefEqProofs only [go_sem,Nat.reduceAdd,Nat.reduceMul,Nat.reduceEqDiff,Nat.reduceLT,Nat.reduceLeDiff,reduceCtorEq,hA',n0,hg,hwk,h1',decide_true,decide_false,Int.toNat_natCast,List.length_map])|(with_reducible exact Qaa _ _ (by kernel_rfl))|(with_reducible refine And.intro (Qaa _ _ (by kernel_rfl)) ?_))
       refine⟨⟨i+1,hA⟩,by simp only;omega,Qaj (θ:=[(702,702),(7,7)]) rfl ?_ ?_⟩
       ·simp only [hsn2]
        simp [Qad,lkp,ren1,ren0,Qam]
       ·simp only [hsn2]
        exact⟨⟨rfl,rfl,rfl,rfl,rfl,.inl ⟨rfl,rfl⟩⟩,⟨rfl,rfl,rfl,rfl,rfl,.inl ⟨rfl,rfl⟩⟩,trivial⟩
     ·have hA':=ltF hA
      obtain rfl:i=p.length:=by omega
      simp only [List.take_length,←hacc]
      repeat (first|(simp -implicitDefEqProofs only [go_sem,Nat.reduceAdd,Nat.reduceMul,Nat.reduceEqDiff,Nat.reduceLT,Nat.reduceLeDiff,reduceCtorEq,hA',hwj])|(with_reducible exact Qaa _ _ (by kernel_rfl))|(with_reducible refine And.intro (Qaa _ _ (by kernel_rfl)) ?_))
      refine⟨⟨j+1,by omega⟩,by simp only;omega,Qaj (θ:=[(702,702),(7,7)]) rfl ?_ ?_⟩
      ·simp [Qad,lkp,ren1,ren0,Qam]
      ·exact⟨⟨rfl,rfl,rfl,rfl,rfl,.inl ⟨rfl,rfl⟩⟩,⟨rfl,rfl,rfl,rfl,rfl,.inl ⟨rfl,rfl⟩⟩,trivial⟩
   ·have hj':((j:Int)<2)=False:=eq_false (by omega)
    obtain rfl:j=2:=by omega
    have hT2:accT a b F E 2=Qc0 a b F E:=rfl
    have hTT:dd (Qgm (Qc0 a b F E))=brk a b F E:=rfl
    have hso:=Zop (Qc0 a b F E) hlen12
    have hco:=Q2v (Qgm (Qc0 a b F E)) (by rw [Qgn];omega)
    rw [Qgn,hTT]at hco
    have hgt:=fun i (h:i<(brk a b F E).length)=>Zi1 (xs:=Qgm (Qc0 a b F E)) (i:=i) h
    rw [hTT]at hgt
    have hbl:(brk a b F E).length≤12:=by
     have q1:=Qrg (Qgm (Qc0 a b F E))
     have q2:=Qgn (Qc0 a b F E)
     rw [hTT]at q1;omega
    simp only [hT2]
    generalize ddB (Qgm (Qc0 a b F E))=DB at*
    generalize brk a b F E=T at*
    have bl7:Nat.ble 1000000 7=false:=rfl
    repeat (first|(simp -implicitDefEqProofs only [go_sem,Nat.reduceAdd,Nat.reduceMul,Nat.reduceEqDiff,Nat.reduceLT,Nat.reduceLeDiff,Nat.reduceSub,reduceCtorEq,Int.reduceLT,hj',List.length_map])|((with_reducible refine Qbs (hso) ?_ ?_ ?_ ?_);(with_reducible rfl);rfl;rfl)|((with_reducible refine Qbs (hco) ?_ ?_ ?_ ?_);(with_reducible rfl);rfl;rfl)|(with_reducible exact Qaa _ _ (by kernel_rfl))|(with_reducible refine And.intro (Qaa _ _ (by kernel_rfl)) ?_))
    unfold Q91
    refine Qao mixed (fun i:{i:Nat // i≤T.length-1∧(cmS a T i).all spF=true∧(cmS b T i).all spF=true}=>St.of [(0,.slc (a.map sgPV)),(1,.slc (b.map sgPV)),(4,.bs 8 6 0 (cmS a T i.1).length),(5,.bs 9 6 0 (cmS b T i.1).length),(6,.int .i64 0),(9,.bs 7 1 0 T.length),(14,.int .i64 ((i.1+1:Nat):Int))]
     [(7,iB DB),(8,{els:=((cmS a T i.1).map spS).map sgPV,esz:=6,ety:=24,fro:=0,live:=true,arr:=true}),(9,{els:=((cmS b T i.1).map spS).map sgPV,esz:=6,ety:=24,fro:=0,live:=true,arr:=true})]) (fun i=>T.length-i.1) ⟨0,Nat.zero_le _,rfl,rfl⟩ ?_ ?_
    ·refine Le.trans (Qvl 4 8 6 24 rfl rfl rfl (by decide)) (Qco 5 9 6 24 rfl rfl rfl (by decide) [(7,7),(8,8),(9,9)] rfl ?_ ?_)
     ·simp [Qad,lkp,ren1,ren0,Qam,cmS]
     ·exact⟨⟨rfl,rfl,rfl,rfl,rfl,.inl ⟨rfl,rfl⟩⟩,⟨rfl,rfl,rfl,rfl,rfl,.inl ⟨rfl,rfl⟩⟩,⟨rfl,rfl,rfl,rfl,rfl,.inl ⟨rfl,rfl⟩⟩,trivial⟩
    ·rintro⟨i,hi,hfa,hfb⟩
     simp only
     have hca:=Qjl a T i
     have hcb:=Qjl b T i
     have hia6:i*a.length≤12*6:=Nat.mul_le_mul (by omega) hla
     have hib6:i*b.length≤12*6:=Nat.mul_le_mul (by omega) hlb
     by_cases hI:i+1<T.length
     ·have hI':(((i+1:Nat):Int)<(T.length:Int))=True:=eq_true (by omega)
      have n1:=nnT (i+1)
      have n0:=nnT i
      have ws:=Qd3 (n:=i) (by omega)
      have l0:((i:Int)<(T.length:Int))=True:=eq_true (by omega)
      have g0:=hgt i (by omega)
      have g1:=hgt (i+1) hI
      have hwi:=Qah (a:=i+1) (by omega)
      have ca:=Q2g a (T.getD i 0) (T.getD (i+1) 0) (spans a (T.getD i 0) (T.getD (i+1) 0)) (Nat.le_trans (Qb8 _ _ _) (by omega)) (Qmb a _ _ ha hva (by omega))
      have cb:=Q2g b (T.getD i 0) (T.getD (i+1) 0) (spans b (T.getD i 0) (T.getD (i+1) 0)) (Nat.le_trans (Qb8 _ _ _) (by omega)) (Qmb b _ _ hb hvb (by omega))
      have sa:=Qg4 a T i
      have sb:=Qg4 b T i
      have la:=Qb8 a (T.getD i 0) (T.getD (i+1) 0)
      have lb:=Qb8 b (T.getD i 0) (T.getD (i+1) 0)
      unfold Qnf at ca cb
      cases fa:(spans a (T.getD i 0) (T.getD (i+1) 0)).all spF with
      |false=>
       have hbad:=Qo6 fa (show i<T.length-1 by omega)
       rw [if_neg (by rw [hbad];simp)]
       rw [if_neg (by rw [fa];simp)]at ca
       obtain⟨XB,nB,hcbx⟩: ∃XB nB,(if(spans b (T.getD i 0) (T.getD (i+1) 0)).all spF=true then PV.tup [Qap ((spans b (T.getD i 0) (T.getD (i+1) 0)).map spS),.int .i64 0]else PV.tup [Qap [],.int .i64 7])= .tup [.slc XB,.int .i64 nB]:=by
        split<;>exact⟨_,_,rfl⟩
       rw [hcbx]at cb
       unfold Qap at ca cb ⊢
       repeat (first|(simp -implicitDefEqProofs only [go_sem,Nat.reduceAdd,Nat.reduceMul,Nat.reduceEqDiff,Nat.reduceLT,Nat.reduceLeDiff,reduceCtorEq,hI',n0,n1,ws,l0,g0,g1,Zi5,Int.toNat_natCast,List.map_nil])|((with_reducible refine Qab (ca) ?_ ?_ ?_);(with_reducible rfl);rfl)|((with_reducible refine Qab (cb) ?_ ?_ ?_);(with_reducible rfl);rfl)|(with_reducible exact Qaa _ _ (by kernel_rfl))|(with_reducible refine And.intro (Qaa _ _ (by kernel_rfl)) ?_))
      |true=>
       rw [if_pos fa]at ca
       cases fb:(spans b (T.getD i 0) (T.getD (i+1) 0)).all spF with
       |false=>
        have hbad:=Qo6 fb (show i<T.length-1 by omega)
        rw [if_neg (by rw [hbad];simp)]
        rw [if_neg (by rw [fb];simp)]at cb
        unfold Qap at ca cb ⊢
        repeat (first|(simp -implicitDefEqProofs only [go_sem,Nat.reduceAdd,Nat.reduceMul,Nat.reduceEqDiff,Nat.reduceLT,Nat.reduceLeDiff,reduceCtorEq,hI',n0,n1,ws,l0,g0,g1,Qju,Zi5,Int.toNat_natCast,List.map_nil])|((with_reducible refine Qab (ca) ?_ ?_ ?_);(with_reducible rfl);rfl)|((with_reducible refine Qab (cb) ?_ ?_ ?_);(with_reducible rfl);rfl)|(with_reducible exact Qaa _ _ (by kernel_rfl))|(with_reducible refine And.intro (Qaa _ _ (by kernel_rfl)) ?_))
       |true=>
        rw [if_pos fb]at cb
        unfold Qap at ca cb
        have o1:=Qrn ((spans a (T.getD i 0) (T.getD (i+1) 0)).map spS)
        have o2:=Qrn ((spans b (T.getD i 0) (T.getD (i+1) 0)).map spS)
        have p1:=Qde ((cmS a T i).map spS)
        have p2:=Qde ((cmS b T i).map spS)
        have fa2:(cmS a T (i+1)).all spF=true:=by rw [sa,List.all_append,hfa,fa];rfl
        have fb2:(cmS b T (i+1)).all spF=true:=by rw [sb,List.all_append,hfb,fb];rfl
        have ea2:((cmS a T (i+1)).map spS).map sgPV=((cmS a T i).map spS).map sgPV++((spans a (T.getD i 0) (T.getD (i+1) 0)).map spS).map sgPV:=by rw [sa,List.map_append,List.map_append]
        have eb2:((cmS b T (i+1)).map spS).map sgPV=((cmS b T i).map spS).map sgPV++((spans b (T.getD i 0) (T.getD (i+1) 0)).map spS).map sgPV:=by rw [sb,List.map_append,List.map_append]
        have ja:(cmS a T (i+1)).length=(cmS a T i).length+(spans a (T.getD i 0) (T.getD (i+1) 0)).length:=by rw [sa,List.length_append]
        have jb:(cmS b T (i+1)).length=(cmS b T i).length+(spans b (T.getD i 0) (T.getD (i+1) 0)).length:=by rw [sb,List.length_append]
        have q1:(((cmS a T i).map spS).map sgPV).length=(cmS a T i).length:=by simp
        have q2:(((cmS b T i).map spS).map sgPV).length=(cmS b T i).length:=by simp
        have q3:(((spans a (T.getD i 0) (T.getD (i+1) 0)).map spS).map sgPV).length=(spans a (T.getD i 0) (T.getD (i+1) 0)).length:=by simp
        have q4:(((spans b (T.getD i 0) (T.getD (i+1) 0)).map spS).map sgPV).length=(spans b (T.getD i 0) (T.getD (i+1) 0)).length:=by simp
        have k1:(((cmS a T i).length+(spans a (T.getD i 0) (T.getD (i+1) 0)).length)*96≤140737488355328)=True:=eq_true (by omega)
        have k2:((cmS a T i).length+(spans a (T.getD i 0) (T.getD (i+1) 0)).length≤maxLen)=True:=eq_true (by unfold maxLen;omega)
        have k3:(((cmS b T i).length+(spans b (T.getD i 0) (T.getD (i+1) 0)).length)*96≤140737488355328)=True:=eq_true (by omega)
        have k4:((cmS b T i).length+(spans b (T.getD i 0) (T.getD (i+1) 0)).length≤maxLen)=True:=eq_true (by unfold maxLen;omega)
        generalize ((cmS a T i).map spS).map sgPV=XA at*
        generalize ((cmS b T i).map spS).map sgPV=XB at*
        generalize ((spans a (T.getD i 0) (T.getD (i+1) 0)).map spS).map sgPV=SA at*
        generalize ((spans b (T.getD i 0) (T.getD (i+1) 0)).map spS).map sgPV=SB at*
        repeat (first|(simp -implicitDefEqProofs only [go_sem,Nat.reduceAdd,Nat.reduceMul,Nat.reduceEqDiff,Nat.reduceLT,Nat.reduceLeDiff,reduceCtorEq,hI',n0,n1,ws,l0,g0,g1,Qju,hwi,o1,o2,p1,p2,q1,q2,q3,q4,k1,k2,k3,k4,Int.toNat_natCast])|((with_reducible refine Qab (ca) ?_ ?_ ?_);(with_reducible rfl);rfl)|((with_reducible refine Qab (cb) ?_ ?_ ?_);(with_reducible rfl);rfl)|(with_reducible exact Qaa _ _ (by kernel_rfl))|(with_reducible refine And.intro (Qaa _ _ (by kernel_rfl)) ?_))
        refine⟨⟨i+1,by omega,fa2,fb2⟩,by simp only;omega,Qaj (θ:=[(7,7),(8,2602),(9,2605)]) rfl ?_ ?_⟩
        ·simp only [ja,jb]
         simp [Qad,lkp,ren1,ren0,Qam]
        ·simp only [ea2,eb2]
         exact⟨⟨rfl,rfl,rfl,rfl,rfl,.inl ⟨rfl,rfl⟩⟩,⟨rfl,rfl,rfl,rfl,rfl,.inl ⟨rfl,rfl⟩⟩,⟨rfl,rfl,rfl,rfl,rfl,.inl ⟨rfl,rfl⟩⟩,trivial⟩
     ·have hI':(((i+1:Nat):Int)<(T.length:Int))=False:=eq_false (by omega)
      obtain rfl:i=T.length-1:=by omega
      rw [if_pos ⟨hfa,hfb⟩]
      have e1:(((cmS a T (T.length-1)).map spS).map sgPV).take (cmS a T (T.length-1)).length=((cmS a T (T.length-1)).map spS).map sgPV:=List.take_of_length_le (by simp)
      have e2:(((cmS b T (T.length-1)).map spS).map sgPV).take (cmS b T (T.length-1)).length=((cmS b T (T.length-1)).map spS).map sgPV:=List.take_of_length_le (by simp)
      have p1:=Qde ((cmS a T (T.length-1)).map spS)
      have p2:=Qde ((cmS b T (T.length-1)).map spS)
      have q1:(((cmS a T (T.length-1)).map spS).map sgPV).length=(cmS a T (T.length-1)).length:=by simp
      have q2:(((cmS b T (T.length-1)).map spS).map sgPV).length=(cmS b T (T.length-1)).length:=by simp
      by_cases h256:(cmS a T (T.length-1)).length≤256
      ·have h':((256:Int)<((cmS a T (T.length-1)).length:Int))=False:=eq_false (by omega)
       rw [if_pos h256]
       unfold Qap
       generalize ((cmS a T (T.length-1)).map spS).map sgPV=XA at*
       generalize ((cmS b T (T.length-1)).map spS).map sgPV=XB at*
       repeat (first|(simp -implicitDefEqProofs only [go_sem,Nat.reduceAdd,Nat.reduceMul,Nat.reduceEqDiff,Nat.reduceLT,Nat.reduceLeDiff,reduceCtorEq,hI',h',e1,e2,p1,p2,q1,q2])|(with_reducible exact Qaa _ _ (by kernel_rfl))|(with_reducible refine And.intro (Qaa _ _ (by kernel_rfl)) ?_))
      ·omega
 ·rw [if_neg hft]
  have hft':(min (pEnd a) (pEnd b)≤max (pBeg a) (pBeg b))=True:=eq_true (by omega)
  unfold Qap
  refine Qac (tb:=[]) 143 [.tmp 4,.tmp 5,.tmp 6] [0,1,4,5,6,7,8,9,11,13,14,15,16,17,18,26,53,59,60,61,62,65,66,67,68,80,95,131,140] mixed Tryz.func42 rfl (by kernel_rfl) (by kernel_rfl) (by kernel_rfl) (by kernel_rfl) ?_
  repeat (first|(simp -implicitDefEqProofs only [go_sem,Nat.reduceAdd,Nat.reduceMul,Nat.reduceEqDiff,Nat.reduceLT,Nat.reduceLeDiff,reduceCtorEq,ga0,gb0,ga1,gb1,na,nb,wa,wb,z0,ea,eb,ea1,eb1,Q8o,Qvm,hft',Int.toNat_natCast,List.length_map,Bool.not_true,List.map_nil])|((with_reducible refine Qab (v1) ?_ ?_ ?_);(with_reducible rfl);rfl)|((with_reducible refine Qab (v2) ?_ ?_ ?_);(with_reducible rfl);rfl)|(with_reducible exact Qaa _ _ (by kernel_rfl))|(with_reducible refine And.intro (Qaa _ _ (by kernel_rfl)) ?_))
end Go.Proofs.YtlpiamlgibomhaaGreat

namespace Go.Proofs.YtlpiamlgibomhaaGreat
open Go.Vl Go.RowKit Go.Dg
set_option maxHeartbeats 8000000 in
set_option maxRecDepth 100000 in
theorem Q2p (a b:List Sg) (ha: ∀s∈a,okSg s) (hb: ∀s∈b,okSg s) (hla:a.length≤6) (hlb:b.length≤6) (hA:Qa5 a=true) (hB:Qa5 b=true):Qaf Tryz.prog 43 [Qap a,Qap b] (Qkh a b):=by
 unfold Qkh
 rw [if_pos ⟨hA,hB⟩]
 obtain⟨-,a1,a2⟩:=Qbr hA
 obtain⟨-,b1,b2⟩:=Qbr hB
 have g1:=Qwo a (by omega)
 have g2:=Qwo b (by omega)
 have g3:=Zgu a (by omega) (by omega)
 have g4:=Zgu b (by omega) (by omega)
 have hva:=Qcw hA
 have hvb:=Qcw hB
 obtain⟨x1,x2,x3,x4⟩:=Qe2 hA
 obtain⟨y1,y2,y3,y4⟩:=Qe2 hB
 unfold Qap at g1 g2 g3 g4
 by_cases hft:max (pBeg a) (pBeg b)<min (pEnd a) (pEnd b)
 ·rw [if_pos hft]
  have hft':(min (pEnd a) (pEnd b)≤max (pBeg a) (pBeg b))=False:=eq_false (by omega)
  obtain⟨m2,t0,t1⟩:=Qo5 a b _ _ hft
  have hnx:=Q8r a b _ _ hft
  have hst:=Qjk a b (max (pBeg a) (pBeg b)) (min (pEnd a) (pEnd b))
  have hml:(brk a b (max (pBeg a) (pBeg b)) (min (pEnd a) (pEnd b))).length≤1000:=by
   unfold brk
   have q1:=Qrg (Qgm (Qc0 a b (max (pBeg a) (pBeg b)) (min (pEnd a) (pEnd b))))
   have q2:=Qgn (Qc0 a b (max (pBeg a) (pBeg b)) (min (pEnd a) (pEnd b)))
   have q3:=Qwj a b (max (pBeg a) (pBeg b)) (min (pEnd a) (pEnd b)) 2 [] 0 (by omega) (by omega) (by simp)
   rw [List.length_append]at q3
   simp only [accT]at q3
   have q4:=Qgj (max (pBeg a) (pBeg b)) (min (pEnd a) (pEnd b)) a
   have q5:=Qgj (max (pBeg a) (pBeg b)) (min (pEnd a) (pEnd b)) b
   have q6:(Qc0 a b (max (pBeg a) (pBeg b)) (min (pEnd a) (pEnd b))).length=2+(frs (max (pBeg a) (pBeg b)) (min (pEnd a) (pEnd b)) a).length+(frs (max (pBeg a) (pBeg b)) (min (pEnd a) (pEnd b)) b).length:=by simp [Qc0];omega
   omega
  have hF1: -9223372036854775808≤max (pBeg a) (pBeg b):=by omega
  have hT1:min (pEnd a) (pEnd b)≤3600000:=by omega
  have hF0:0≤max (pBeg a) (pBeg b):=by omega
  generalize brk a b (max (pBeg a) (pBeg b)) (min (pEnd a) (pEnd b))=T at*
  refine Qac (tb:=[]) 109 [.tmp 4,.tmp 5,.tmp 6] [0,1,4,5,6,7,8,9,10,11,12,13,14,15,16,17,18,31,35,40,49,60,69,96,106] mixed Tryz.func43 rfl (by kernel_rfl) (by kernel_rfl) (by kernel_rfl) (by kernel_rfl) ?_
  repeat (first|(simp -implicitDefEqProofs only [go_sem,Nat.reduceAdd,Nat.reduceMul,Nat.reduceEqDiff,Nat.reduceLT,Nat.reduceLeDiff,reduceCtorEq,Q8o,Qvm,hft',Int.toNat_natCast,List.length_map])|((with_reducible refine Qab (g1) ?_ ?_ ?_);(with_reducible rfl);rfl)|((with_reducible refine Qab (g2) ?_ ?_ ?_);(with_reducible rfl);rfl)|((with_reducible refine Qab (g3) ?_ ?_ ?_);(with_reducible rfl);rfl)|((with_reducible refine Qab (g4) ?_ ?_ ?_);(with_reducible rfl);rfl))
  generalize max (pBeg a) (pBeg b)=F at*
  generalize min (pEnd a) (pEnd b)=E at*
  unfold Q91
  refine Qao mixed (fun i:{i:Nat // i≤T.length-1∧(cmS a T i).all spF=true∧(cmS b T i).all spF=true}=>St.of [(0,.slc (a.map sgPV)),(1,.slc (b.map sgPV)),(4,.nilS),(5,.nilS),(6,.int .i64 0),(7,.int .i64 F),(8,.int .i64 E),(9,.bs 8 6 0 (cmS a T i.1).length),(10,.bs 9 6 0 (cmS b T i.1).length),(11,.int .i64 (T.getD i.1 0))]
   [(8,{els:=((cmS a T i.1).map spS).map sgPV,esz:=6,ety:=24,fro:=0,live:=true,arr:=true}),(9,{els:=((cmS b T i.1).map spS).map sgPV,esz:=6,ety:=24,fro:=0,live:=true,arr:=true})]) (fun i=>T.length-i.1) ⟨0,Nat.zero_le _,rfl,rfl⟩ ?_ ?_
  ·refine Le.trans (Qvl 9 8 6 24 rfl rfl rfl (by decide)) (Qco 10 9 6 24 rfl rfl rfl (by decide) [(8,8),(9,9)] rfl ?_ ?_)
   ·simp only [t0]
    simp [Qad,lkp,ren1,ren0,Qam,cmS]
   ·exact⟨⟨rfl,rfl,rfl,rfl,rfl,.inl ⟨rfl,rfl⟩⟩,⟨rfl,rfl,rfl,rfl,rfl,.inl ⟨rfl,rfl⟩⟩,trivial⟩
  ·rintro⟨i,hi,hfa,hfb⟩
   simp only
   have hca:=Qjl a T i
   have hcb:=Qjl b T i
   have hia6:i*a.length≤1000*6:=Nat.mul_le_mul (by omega) hla
   have hib6:i*b.length≤1000*6:=Nat.mul_le_mul (by omega) hlb
   by_cases hI:i+1<T.length
   ·have hlt:T.getD i 0<E:=by rw [←t1];exact Qj9 hst (show i<T.length-1 by omega) (by omega)
    have hlt':(T.getD i 0<E)=True:=eq_true hlt
    have hnxi:=hnx i hI
    have ca:=Zgn a (T.getD i 0) (T.getD (i+1) 0) ha hva (by omega)
    have cb:=Zgn b (T.getD i 0) (T.getD (i+1) 0) hb hvb (by omega)
    repeat (first|(simp -implicitDefEqProofs only [go_sem,Nat.reduceAdd,Nat.reduceMul,Nat.reduceEqDiff,Nat.reduceLT,Nat.reduceLeDiff,reduceCtorEq,hlt',decide_true]))
    refine Qao mixed (fun k:{k:Nat // k≤a.length}=>St.of [(0,.slc (a.map sgPV)),(1,.slc (b.map sgPV)),(4,.nilS),(5,.nilS),(6,.int .i64 0),(7,.int .i64 F),(8,.int .i64 E),(9,.bs 8 6 0 (cmS a T i).length),(10,.bs 9 6 0 (cmS b T i).length),(11,.int .i64 (T.getD i 0)),(12,.int .i64 (nxF (a.take k.1) (T.getD i 0) E)),(13,.int .i64 (k.1:Int))]
     [(8,{els:=((cmS a T i).map spS).map sgPV,esz:=6,ety:=24,fro:=0,live:=true,arr:=true}),(9,{els:=((cmS b T i).map spS).map sgPV,esz:=6,ety:=24,fro:=0,live:=true,arr:=true})]) (fun k=>a.length-k.1) ⟨0,Nat.zero_le _⟩ ?_ ?_
    ·refine Qaj (θ:=[(8,8),(9,9)]) rfl ?_ ?_
     ·simp only [List.take_zero]
      simp [Qad,lkp,ren1,ren0,Qam,nxF]
     ·exact⟨⟨rfl,rfl,rfl,rfl,rfl,.inl ⟨rfl,rfl⟩⟩,⟨rfl,rfl,rfl,rfl,rfl,.inl ⟨rfl,rfl⟩⟩,trivial⟩
    ·rintro⟨k,hk⟩
     simp only
     by_cases hA:k<a.length
     ·have hA':=ltT hA
      have n0:=nnT k
      have hg:=Qh5 a k hA
      have hwk:=Qah (a:=k) (by omega)
      have hsn:=Qvr a (T.getD i 0) E k hA
      generalize nxF (a.take k) (T.getD i 0) E=m at*
      by_cases hq:T.getD i 0<a[k].f
      ·have hq':(T.getD i 0<a[k].f)=True:=eq_true hq
       rw [if_pos hq]at hsn
       generalize a[k]=s at*
       repeat (first|(simp -implicitDefEqProofs only [go_sem,Nat.reduceAdd,Nat.reduceMul,Nat.reduceEqDiff,Nat.reduceLT,Nat.reduceLeDiff,reduceCtorEq,hA',n0,hg,hwk,hq',Qvm,decide_true,Int.toNat_natCast,List.length_map]))
       refine⟨⟨k+1,hA⟩,by simp only;omega,Qaj (θ:=[(8,8),(9,9)]) rfl ?_ ?_⟩
       ·simp only [hsn]
        simp [Qad,lkp,ren1,ren0,Qam,Int.min_comm]
       ·exact⟨⟨rfl,rfl,rfl,rfl,rfl,.inl ⟨rfl,rfl⟩⟩,⟨rfl,rfl,rfl,rfl,rfl,.inl ⟨rfl,rfl⟩⟩,trivial⟩
      ·have hq':(T.getD i 0<a[k].f)=False:=eq_false hq
       rw [if_neg hq]at hsn
       generalize a[k]=s at*
       repeat (first|(simp -implicitDefEqProofs only [go_sem,Nat.reduceAdd,Nat.reduceMul,Nat.reduceEqDiff,Nat.reduceLT,Nat.reduceLeDiff,reduceCtorEq,hA',n0,hg,hwk,hq',decide_false,Int.toNat_natCast,List.length_map]))
       refine⟨⟨k+1,hA⟩,by simp only;omega,Qaj (θ:=[(8,8),(9,9)]) rfl ?_ ?_⟩
       ·simp only [hsn]
        simp [Qad,lkp,ren1,ren0,Qam]
       ·exact⟨⟨rfl,rfl,rfl,rfl,rfl,.inl ⟨rfl,rfl⟩⟩,⟨rfl,rfl,rfl,rfl,rfl,.inl ⟨rfl,rfl⟩⟩,trivial⟩
     ·have hA':=ltF hA
      obtain rfl:k=a.length:=by omega
      simp only [List.take_length]
      repeat (first|(simp -implicitDefEqProofs only [go_sem,Nat.reduceAdd,Nat.reduceMul,Nat.reduceEqDiff,Nat.reduceLT,Nat.reduceLeDiff,reduceCtorEq,hA',List.length_map]))
      refine Qao mixed (fun k:{k:Nat // k≤b.length}=>St.of [(0,.slc (a.map sgPV)),(1,.slc (b.map sgPV)),(4,.nilS),(5,.nilS),(6,.int .i64 0),(7,.int .i64 F),(8,.int .i64 E),(9,.bs 8 6 0 (cmS a T i).length),(10,.bs 9 6 0 (cmS b T i).length),(11,.int .i64 (T.getD i 0)),(12,.int .i64 (nxF (b.take k.1) (T.getD i 0) (nxF a (T.getD i 0) E))),(14,.int .i64 (k.1:Int))]
       [(8,{els:=((cmS a T i).map spS).map sgPV,esz:=6,ety:=24,fro:=0,live:=true,arr:=true}),(9,{els:=((cmS b T i).map spS).map sgPV,esz:=6,ety:=24,fro:=0,live:=true,arr:=true})]) (fun k=>b.length-k.1) ⟨0,Nat.zero_le _⟩ ?_ ?_
      ·refine Qaj (θ:=[(8,8),(9,9)]) rfl ?_ ?_
       ·simp only [List.take_zero]
        simp [Qad,lkp,ren1,ren0,Qam,nxF]
       ·exact⟨⟨rfl,rfl,rfl,rfl,rfl,.inl ⟨rfl,rfl⟩⟩,⟨rfl,rfl,rfl,rfl,rfl,.inl ⟨rfl,rfl⟩⟩,trivial⟩
      ·rintro⟨k,hk⟩
       simp only
       by_cases hA:k<b.length
       ·have hA':=ltT hA
        have n0:=nnT k
        have hg:=Qh5 b k hA
        have hwk:=Qah (a:=k) (by omega)
        have hsn:=Qvr b (T.getD i 0) (nxF a (T.getD i 0) E) k hA
        generalize nxF (b.take k) (T.getD i 0) (nxF a (T.getD i 0) E)=m at*
        by_cases hq:T.getD i 0<b[k].f
        ·have hq':(T.getD i 0<b[k].f)=True:=eq_true hq
         rw [if_pos hq]at hsn
         generalize b[k]=s at*
         repeat (first|(simp -implicitDefEqProofs only [go_sem,Nat.reduceAdd,Nat.reduceMul,Nat.reduceEqDiff,Nat.reduceLT,Nat.reduceLeDiff,reduceCtorEq,hA',n0,hg,hwk,hq',Qvm,decide_true,Int.toNat_natCast,List.length_map]))
         refine⟨⟨k+1,hA⟩,by simp only;omega,Qaj (θ:=[(8,8),(9,9)]) rfl ?_ ?_⟩
         ·simp only [hsn]
          simp [Qad,lkp,ren1,ren0,Qam,Int.min_comm]
         ·exact⟨⟨rfl,rfl,rfl,rfl,rfl,.inl ⟨rfl,rfl⟩⟩,⟨rfl,rfl,rfl,rfl,rfl,.inl ⟨rfl,rfl⟩⟩,trivial⟩
        ·have hq':(T.getD i 0<b[k].f)=False:=eq_false hq
         rw [if_neg hq]at hsn
         generalize b[k]=s at*
         repeat (first|(simp -implicitDefEqProofs only [go_sem,Nat.reduceAdd,Nat.reduceMul,Nat.reduceEqDiff,Nat.reduceLT,Nat.reduceLeDiff,reduceCtorEq,hA',n0,hg,hwk,hq',decide_false,Int.toNat_natCast,List.length_map]))
         refine⟨⟨k+1,hA⟩,by simp only;omega,Qaj (θ:=[(8,8),(9,9)]) rfl ?_ ?_⟩
         ·simp only [hsn]
          simp [Qad,lkp,ren1,ren0,Qam]
         ·exact⟨⟨rfl,rfl,rfl,rfl,rfl,.inl ⟨rfl,rfl⟩⟩,⟨rfl,rfl,rfl,rfl,rfl,.inl ⟨rfl,rfl⟩⟩,trivial⟩
       ·have hB':=ltF hA
        obtain rfl:k=b.length:=by omega
        simp only [List.take_length,hnxi]
        have sa:=Qg4 a T i
        have sb:=Qg4 b T i
        have la:=Qb8 a (T.getD i 0) (T.getD (i+1) 0)
        have lb:=Qb8 b (T.getD i 0) (T.getD (i+1) 0)
        unfold cutR at ca cb
        cases fa:(spans a (T.getD i 0) (T.getD (i+1) 0)).all spF with
        |false=>
         have hbad:=Qo6 fa (show i<T.length-1 by omega)
         rw [if_neg (by rw [hbad];simp)]
         rw [if_neg (by rw [fa];simp)]at ca
         obtain⟨XB,nB,hcbx⟩: ∃XB nB,(if(spans b (T.getD i 0) (T.getD (i+1) 0)).all spF=true then PV.tup [Qap ((spans b (T.getD i 0) (T.getD (i+1) 0)).map spS),.bool true]else PV.tup [Qap [],.bool false])= .tup [.slc XB,.bool nB]:=by
          split<;>exact⟨_,_,rfl⟩
         rw [hcbx]at cb
         unfold Qap at ca cb
         repeat (first|(simp -implicitDefEqProofs only [go_sem,Nat.reduceAdd,Nat.reduceMul,Nat.reduceEqDiff,Nat.reduceLT,Nat.reduceLeDiff,reduceCtorEq,hB',List.length_map,Bool.not_false,Bool.not_true,List.map_nil])|((with_reducible refine Qab (ca) ?_ ?_ ?_);(with_reducible rfl);rfl)|((with_reducible refine Qab (cb) ?_ ?_ ?_);(with_reducible rfl);rfl))
        |true=>
         rw [if_pos fa]at ca
         cases fb:(spans b (T.getD i 0) (T.getD (i+1) 0)).all spF with
         |false=>
          have hbad:=Qo6 fb (show i<T.length-1 by omega)
          rw [if_neg (by rw [hbad];simp)]
          rw [if_neg (by rw [fb];simp)]at cb
          unfold Qap at ca cb
          repeat (first|(simp -implicitDefEqProofs only [go_sem,Nat.reduceAdd,Nat.reduceMul,Nat.reduceEqDiff,Nat.reduceLT,Nat.reduceLeDiff,reduceCtorEq,hB',List.length_map,Bool.not_false,Bool.not_true,List.map_nil])|((with_reducible refine Qab (ca) ?_ ?_ ?_);(with_reducible rfl);rfl)|((with_reducible refine Qab (cb) ?_ ?_ ?_);(with_reducible rfl);rfl))
         |true=>
          rw [if_pos fb]at cb
          unfold Qap at ca cb
          have o1:=Qrn ((spans a (T.getD i 0) (T.getD (i+1) 0)).map spS)
          have o2:=Qrn ((spans b (T.getD i 0) (T.getD (i+1) 0)).map spS)
          have p1:=Qde ((cmS a T i).map spS)
          have p2:=Qde ((cmS b T i).map spS)
          have fa2:(cmS a T (i+1)).all spF=true:=by rw [sa,List.all_append,hfa,fa];rfl
          have fb2:(cmS b T (i+1)).all spF=true:=by rw [sb,List.all_append,hfb,fb];rfl
          have ea2:((cmS a T (i+1)).map spS).map sgPV=((cmS a T i).map spS).map sgPV++((spans a (T.getD i 0) (T.getD (i+1) 0)).map spS).map sgPV:=by rw [sa,List.map_append,List.map_append]
          have eb2:((cmS b T (i+1)).map spS).map sgPV=((cmS b T i).map spS).map sgPV++((spans b (T.getD i 0) (T.getD (i+1) 0)).map spS).map sgPV:=by rw [sb,List.map_append,List.map_append]
          have ja:(cmS a T (i+1)).length=(cmS a T i).length+(spans a (T.getD i 0) (T.getD (i+1) 0)).length:=by rw [sa,List.length_append]
          have jb:(cmS b T (i+1)).length=(cmS b T i).length+(spans b (T.getD i 0) (T.getD (i+1) 0)).length:=by rw [sb,List.length_append]
          have q1:(((cmS a T i).map spS).map sgPV).length=(cmS a T i).length:=by simp
          have q2:(((cmS b T i).map spS).map sgPV).length=(cmS b T i).length:=by simp
          have q3:(((spans a (T.getD i 0) (T.getD (i+1) 0)).map spS).map sgPV).length=(spans a (T.getD i 0) (T.getD (i+1) 0)).length:=by simp
          have q4:(((spans b (T.getD i 0) (T.getD (i+1) 0)).map spS).map sgPV).length=(spans b (T.getD i 0) (T.getD (i+1) 0)).length:=by simp
          have k1:(((cmS a T i).length+(spans a (T.getD i 0) (T.getD (i+1) 0)).length)*96≤140737488355328)=True:=eq_true (by omega)
          have k2:((cmS a T i).length+(spans a (T.getD i 0) (T.getD (i+1) 0)).length≤maxLen)=True:=eq_true (by unfold maxLen;omega)
          have k3:(((cmS b T i).length+(spans b (T.getD i 0) (T.getD (i+1) 0)).length)*96≤140737488355328)=True:=eq_true (by omega)
          have k4:((cmS b T i).length+(spans b (T.getD i 0) (T.getD (i+1) 0)).length≤maxLen)=True:=eq_true (by unfold maxLen;omega)
          generalize ((cmS a T i).map spS).map sgPV=XA at*
          generalize ((cmS b T i).map spS).map sgPV=XB at*
          generalize ((spans a (T.getD i 0) (T.getD (i+1) 0)).map spS).map sgPV=SA at*
          generalize ((spans b (T.getD i 0) (T.getD (i+1) 0)).map spS).map sgPV=SB at*
          repeat (first|(simp -implicitDefEqProofs only [go_sem,Nat.reduceAdd,Nat.reduceMul,Nat.reduceEqDiff,Nat.reduceLT,Nat.reduceLeDiff,reduceCtorEq,hB',List.length_map,o1,o2,p1,p2,q1,q2,q3,q4,k1,k2,k3,k4,Bool.not_false,Bool.not_true])|((with_reducible refine Qab (ca) ?_ ?_ ?_);(with_reducible rfl);rfl)|((with_reducible refine Qab (cb) ?_ ?_ ?_);(with_reducible rfl);rfl))
          refine⟨⟨i+1,by omega,fa2,fb2⟩,by simp only;omega,Qaj (θ:=[(8,2202),(9,2205)]) rfl ?_ ?_⟩
          ·simp only [ja,jb]
           simp [Qad,lkp,ren1,ren0,Qam]
          ·simp only [ea2,eb2]
           exact⟨⟨rfl,rfl,rfl,rfl,rfl,.inl ⟨rfl,rfl⟩⟩,⟨rfl,rfl,rfl,rfl,rfl,.inl ⟨rfl,rfl⟩⟩,trivial⟩
   ·obtain rfl:i=T.length-1:=by omega
    have hlt':(E<E)=False:=eq_false (by omega)
    rw [if_pos ⟨hfa,hfb⟩]
    have e1:(((cmS a T (T.length-1)).map spS).map sgPV).take (cmS a T (T.length-1)).length=((cmS a T (T.length-1)).map spS).map sgPV:=List.take_of_length_le (by simp)
    have e2:(((cmS b T (T.length-1)).map spS).map sgPV).take (cmS b T (T.length-1)).length=((cmS b T (T.length-1)).map spS).map sgPV:=List.take_of_length_le (by simp)
    have p1:=Qde ((cmS a T (T.length-1)).map spS)
    have p2:=Qde ((cmS b T (T.length-1)).map spS)
    have q1:(((cmS a T (T.length-1)).map spS).map sgPV).length=(cmS a T (T.length-1)).length:=by simp
    have q2:(((cmS b T (T.length-1)).map spS).map sgPV).length=(cmS b T (T.length-1)).length:=by simp
    simp only [t1]
    by_cases h256:(cmS a T (T.length-1)).length≤256
    ·have h':((256:Int)<((cmS a T (T.length-1)).length:Int))=False:=eq_false (by omega)
     rw [if_pos h256]
     unfold Qap
     generalize ((cmS a T (T.length-1)).map spS).map sgPV=XA at*
     generalize ((cmS b T (T.length-1)).map spS).map sgPV=XB at*
     repeat (first|(simp -implicitDefEqProofs only [go_sem,Nat.reduceAdd,Nat.reduceMul,Nat.reduceEqDiff,Nat.reduceLT,Nat.reduceLeDiff,reduceCtorEq,hlt',h',decide_false,e1,e2,p1,p2,q1,q2]))
    ·have h':((256:Int)<((cmS a T (T.length-1)).length:Int))=True:=eq_true (by omega)
     rw [if_neg h256]
     unfold Qap
     repeat (first|(simp -implicitDefEqProofs only [go_sem,Nat.reduceAdd,Nat.reduceMul,Nat.reduceEqDiff,Nat.reduceLT,Nat.reduceLeDiff,reduceCtorEq,hlt',h',decide_false,List.map_nil]))
 ·rw [if_neg hft]
  have hft':(min (pEnd a) (pEnd b)≤max (pBeg a) (pBeg b))=True:=eq_true (by omega)
  unfold Qap
  refine Qac (tb:=[]) 109 [.tmp 4,.tmp 5,.tmp 6] [0,1,4,5,6,7,8,9,10,11,12,13,14,15,16,17,18,31,35,40,49,60,69,96,106] mixed Tryz.func43 rfl (by kernel_rfl) (by kernel_rfl) (by kernel_rfl) (by kernel_rfl) ?_
  repeat (first|(simp -implicitDefEqProofs only [go_sem,Nat.reduceAdd,Nat.reduceMul,Nat.reduceEqDiff,Nat.reduceLT,Nat.reduceLeDiff,reduceCtorEq,Q8o,Qvm,hft',Int.toNat_natCast,List.length_map,List.map_nil])|((with_reducible refine Qab (g1) ?_ ?_ ?_);(with_reducible rfl);rfl)|((with_reducible refine Qab (g2) ?_ ?_ ?_);(with_reducible rfl);rfl)|((with_reducible refine Qab (g3) ?_ ?_ ?_);(with_reducible rfl);rfl)|((with_reducible refine Qab (g4) ?_ ?_ ?_);(with_reducible rfl);rfl))
end Go.Proofs.YtlpiamlgibomhaaGreat

namespace Go.Proofs.YtlpiamlgibomhaaGreat
open Go.Vl Go.RowKit Go.Dg
theorem Qwk {p:List Sg} {T:List Int} {k:Nat} (hv: ∀s∈p,Qa2 s=true) (hl:k*p.length≤100000):lenP ((cmS p T k).map spS):=by
 refine⟨by rw [List.length_map];have:=Qjl p T k;omega,fun s hs c hc=> ?_⟩
 obtain⟨x,hx,rfl⟩:=List.mem_map.1 hs
 have h1:=hv _ (Zhh hx)
 exact Q90 x.1 x.2.1 x.2.2 (fun c hc=>(Qb7 ((Qa3 h1).2.1 c hc)).2.1) c hc
theorem Qha:lenP []:=⟨by simp,fun _ h=>nomatch h⟩
set_option maxHeartbeats 4000000 in
theorem Qmd (a b:List Sg) (hra:(∀s∈a,Qzw s)∧a.length≤maxLen) (hrb:(∀s∈b,Qzw s)∧b.length≤maxLen):
  Qaf Tryz.prog 9 [.slc (a.map sgPV),.slc (b.map sgPV)] (.bool true):=by
 have hk:=Qyh
 have w00:IntKind.i64.wrap 0=0:=by decide
 have hf1:=Zgt a 6 (by decide) hra.2
 have hf2:=Zgt b 6 (by decide) hrb.2
 unfold Qap at hf1 hf2
 cases hF1:fewB a 6 with
 |false=>
  rw [hF1]at hf1
  refine Qac (tb:=[]) 71 [.tmp 4] [0,1,4,5,6,7,8,9,10,18,34] mixed Tryz.func9 rfl (by kernel_rfl) (by kernel_rfl) (by kernel_rfl) (by kernel_rfl) ?_
  repeat (first|(simp -implicitDefEqProofs only [go_sem,Nat.reduceAdd,Nat.reduceMul,Nat.reduceEqDiff,Nat.reduceLT,Nat.reduceLeDiff,reduceCtorEq,Bool.not_false])|((with_reducible refine Qab (hf1) ?_ ?_ ?_);(with_reducible rfl);rfl)|((with_reducible refine Qab (hk) ?_ ?_ ?_);(with_reducible rfl);rfl))
 |true=>
 rw [hF1]at hf1
 cases hF2:fewB b 6 with
 |false=>
  rw [hF2]at hf2
  refine Qac (tb:=[]) 71 [.tmp 4] [0,1,4,5,6,7,8,9,10,18,34] mixed Tryz.func9 rfl (by kernel_rfl) (by kernel_rfl) (by kernel_rfl) (by kernel_rfl) ?_
  repeat (first|(simp -implicitDefEqProofs only [go_sem,Nat.reduceAdd,Nat.reduceMul,Nat.reduceEqDiff,Nat.reduceLT,Nat.reduceLeDiff,reduceCtorEq,Bool.not_false,Bool.not_true])|((with_reducible refine Qab (hf1) ?_ ?_ ?_);(with_reducible rfl);rfl)|((with_reducible refine Qab (hf2) ?_ ?_ ?_);(with_reducible rfl);rfl)|((with_reducible refine Qab (hk) ?_ ?_ ?_);(with_reducible rfl);rfl))
 |true=>
 rw [hF2]at hf2
 obtain⟨la6,la8⟩:=Qn4 hF1
 obtain⟨lb6,lb8⟩:=Qn4 hF2
 have ha: ∀s∈a,okSg s:=fun s hs=>Zha (hra.1 s hs) (fun c hc=>by have:=la8 s hs c hc;omega)
 have hb: ∀s∈b,okSg s:=fun s hs=>Zha (hrb.1 s hs) (fun c hc=>by have:=lb8 s hs c hc;omega)
 have hco:=Q2o a b ha hb la6 lb6
 have v1:=Qki a ha (by omega)
 have v2:=Qki b hb (by omega)
 cases hA:Qa5 a with
 |false=>
  rw [hA]at v1
  unfold Qkh at hco
  rw [if_neg (by rw [hA];simp)]at hco
  unfold Qap at v1 hco
  simp only [List.map_nil]at hco
  refine Qac (tb:=[]) 71 [.tmp 4] [0,1,4,5,6,7,8,9,10,18,34] mixed Tryz.func9 rfl (by kernel_rfl) (by kernel_rfl) (by kernel_rfl) (by kernel_rfl) ?_
  repeat (first|(simp -implicitDefEqProofs only [go_sem,Nat.reduceAdd,Nat.reduceMul,Nat.reduceEqDiff,Nat.reduceLT,Nat.reduceLeDiff,reduceCtorEq,Int.reduceAdd,w00,List.length_nil,Qng,Bool.not_false,Bool.not_true])|((with_reducible refine Qab (hf1) ?_ ?_ ?_);(with_reducible rfl);rfl)|((with_reducible refine Qab (hf2) ?_ ?_ ?_);(with_reducible rfl);rfl)|((with_reducible refine Qab (hco) ?_ ?_ ?_);(with_reducible rfl);rfl)|((with_reducible refine Qab (v1) ?_ ?_ ?_);(with_reducible rfl);rfl)|((with_reducible refine Qab (hk) ?_ ?_ ?_);(with_reducible rfl);rfl))
 |true=>
 rw [hA]at v1
 cases hB:Qa5 b with
 |false=>
  rw [hB]at v2
  unfold Qkh at hco
  rw [if_neg (by rw [hB];simp)]at hco
  unfold Qap at v1 v2 hco
  simp only [List.map_nil]at hco
  refine Qac (tb:=[]) 71 [.tmp 4] [0,1,4,5,6,7,8,9,10,18,34] mixed Tryz.func9 rfl (by kernel_rfl) (by kernel_rfl) (by kernel_rfl) (by kernel_rfl) ?_
  repeat (first|(simp -implicitDefEqProofs only [go_sem,Nat.reduceAdd,Nat.reduceMul,Nat.reduceEqDiff,Nat.reduceLT,Nat.reduceLeDiff,reduceCtorEq,Int.reduceAdd,w00,List.length_nil,Qng,Bool.not_false,Bool.not_true])|((with_reducible refine Qab (hf1) ?_ ?_ ?_);(with_reducible rfl);rfl)|((with_reducible refine Qab (hf2) ?_ ?_ ?_);(with_reducible rfl);rfl)|((with_reducible refine Qab (hco) ?_ ?_ ?_);(with_reducible rfl);rfl)|((with_reducible refine Qab (v1) ?_ ?_ ?_);(with_reducible rfl);rfl)|((with_reducible refine Qab (v2) ?_ ?_ ?_);(with_reducible rfl);rfl)|((with_reducible refine Qab (hk) ?_ ?_ ?_);(with_reducible rfl);rfl))
 |true=>
 rw [hB]at v2
 have hrc:=Q2p a b ha hb la6 lb6 hA hB
 obtain⟨x,y,e,hx,hy,he⟩: ∃x y e,lenP x∧lenP y∧Qkh a b= .tup [Qap x,Qap y,.int .i64 e]:=by
  unfold Qkh Q91
  have hva:=Qcw hA
  have hvb:=Qcw hB
  have hbl:(brk a b (max (pBeg a) (pBeg b)) (min (pEnd a) (pEnd b))).length≤14:=by
   unfold brk
   have q1:=Qrg (Qgm (Qc0 a b (max (pBeg a) (pBeg b)) (min (pEnd a) (pEnd b))))
   have q2:=Qgn (Qc0 a b (max (pBeg a) (pBeg b)) (min (pEnd a) (pEnd b)))
   have q4:=Qgj (max (pBeg a) (pBeg b)) (min (pEnd a) (pEnd b)) a
   have q5:=Qgj (max (pBeg a) (pBeg b)) (min (pEnd a) (pEnd b)) b
   have q6:(Qc0 a b (max (pBeg a) (pBeg b)) (min (pEnd a) (pEnd b))).length=2+(frs (max (pBeg a) (pBeg b)) (min (pEnd a) (pEnd b)) a).length+(frs (max (pBeg a) (pBeg b)) (min (pEnd a) (pEnd b)) b).length:=by simp [Qc0];omega
   omega
  generalize brk a b (max (pBeg a) (pBeg b)) (min (pEnd a) (pEnd b))=T at*
  have m1:(T.length-1)*a.length≤14*6:=Nat.mul_le_mul (by omega) la6
  have m2:(T.length-1)*b.length≤14*6:=Nat.mul_le_mul (by omega) lb6
  rw [if_pos ⟨hA,hB⟩]
  split
  ·split
   ·split
    ·exact⟨_,_,_,Qwk hva (by omega),Qwk hvb (by omega),rfl⟩
    ·exact⟨_,_,_,Qha,Qha,rfl⟩
   ·exact⟨_,_,_,Qha,Qha,rfl⟩
  ·exact⟨_,_,_,Qha,Qha,rfl⟩
 rw [he]at hco hrc
 have s1:=Qh6 x x hx hx
 have s2:=Qh6 y y hy hy
 rw [Qx3]at s1 s2
 have e1:(e==e)=true:=beq_self_eq_true e
 unfold Qap at v1 v2 hco hrc s1 s2
 generalize x.map sgPV=X at*
 generalize y.map sgPV=Y at*
 refine Qac (tb:=[]) 71 [.tmp 4] [0,1,4,5,6,7,8,9,10,18,34] mixed Tryz.func9 rfl (by kernel_rfl) (by kernel_rfl) (by kernel_rfl) (by kernel_rfl) ?_
 repeat (first|(simp -implicitDefEqProofs only [go_sem,Nat.reduceAdd,Nat.reduceMul,Nat.reduceEqDiff,Nat.reduceLT,Nat.reduceLeDiff,reduceCtorEq,e1,Bool.not_false,Bool.not_true])|((with_reducible refine Qab (hf1) ?_ ?_ ?_);(with_reducible rfl);rfl)|((with_reducible refine Qab (hf2) ?_ ?_ ?_);(with_reducible rfl);rfl)|((with_reducible refine Qab (hco) ?_ ?_ ?_);(with_reducible rfl);rfl)|((with_reducible refine Qab (v1) ?_ ?_ ?_);(with_reducible rfl);rfl)|((with_reducible refine Qab (v2) ?_ ?_ ?_);(with_reducible rfl);rfl)|((with_reducible refine Qab (hrc) ?_ ?_ ?_);(with_reducible rfl);rfl)|((with_reducible refine Qab (s1) ?_ ?_ ?_);(with_reducible rfl);rfl)|((with_reducible refine Qab (s2) ?_ ?_ ?_);(with_reducible rfl);rfl)|((with_reducible refine Qab (hk) ?_ ?_ ?_);(with_reducible rfl);rfl))
end Go.Proofs.YtlpiamlgibomhaaGreat
