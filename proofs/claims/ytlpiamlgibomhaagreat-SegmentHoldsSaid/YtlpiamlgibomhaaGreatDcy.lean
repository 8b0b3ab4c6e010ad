/-
  Dcm, SM36, SM37, SM38, Dv, Dy, Dcv, Dcw, Dcx, Dcy (merged for the claim).
-/
import Derived.Test.YtlpiamlgibomhaaGreatSO2
import Derived.Test.YtlpiamlgibomhaaGreatSM24
import Derived.Test.YtlpiamlgibomhaaGreatSP4
set_option linter.unusedSimpArgs false
set_option linter.unusedVariables false
namespace Go.Dg
def innS (f t:Int) (s:Sg):Bool:=decide (f<s.f)&&decide (s.f<t)
def frs (f t:Int) (p:List Sg):List Int:=(p.filter (innS f t)).map (·.f)
def Qe3 (a b:List Sg) (f t:Int):List Int:=[f,t]++frs f t a++frs f t b
def brk (a b:List Sg) (f t:Int):List Int:=dd (Qii (Qe3 a b f t))
theorem Zai (f t:Int) (p:List Sg) (i:Nat) (h:i<p.length):frs f t (p.take (i+1))=if innS f t p[i]=true then frs f t (p.take i)++[p[i].f]else frs f t (p.take i):=by
 have e:p.take (i+1)=p.take i++[p[i]]:=by rw [List.take_add_one,List.getElem?_eq_getElem h];rfl
 unfold frs
 rw [e,List.filter_append]
 by_cases hi:innS f t p[i]=true
 ·rw [if_pos hi];simp [hi]
 ·rw [if_neg hi];simp [hi]
theorem Qqd (f t:Int) (p:List Sg):(frs f t p).length≤p.length:=by
 unfold frs;rw [List.length_map];exact List.length_filter_le _ _
theorem Qwz (f t:Int) (p:List Sg) (h: ∀h:0<p.length,p[0].f≤f):(frs f t p).length≤p.length-1:=by
 cases p with
 |nil=>simp [frs]
 |cons s p=>
  have h0:=h (by simp)
  simp only [List.getElem_cons_zero]at h0
  have:innS f t s=false:=by simp [innS];omega
  have e:frs f t (s::p)=frs f t p:=by simp [frs,this]
  rw [e]
  have:=Qqd f t p
  simp;omega
theorem Zjf (f t:Int) (p:List Sg) (y:Int):y∈frs f t p↔ ∃s∈p,s.f=y∧f<y∧y<t:=by
 unfold frs innS
 simp only [List.mem_map,List.mem_filter,Bool.and_eq_true,decide_eq_true_eq]
 constructor
 ·rintro⟨s,⟨h1,h2,h3⟩,rfl⟩;exact⟨s,h1,rfl,h2,h3⟩
 ·rintro⟨s,h1,rfl,h2,h3⟩;exact⟨s,⟨h1,h2,h3⟩,rfl⟩
theorem Qqe (a b:List Sg) (f t y:Int):y∈brk a b f t↔y=f∨y=t∨(∃s∈a++b,s.f=y∧f<y∧y<t):=by
 unfold brk
 rw [Q3e,(Qpj _).2]
 unfold Qe3
 simp only [List.mem_append,List.mem_cons,List.not_mem_nil,or_false,Zjf]
 constructor
 ·rintro(((h|h)|⟨s,h1,h2⟩)|⟨s,h1,h2⟩)
  ·exact .inl h
  ·exact .inr (.inl h)
  ·exact .inr (.inr ⟨s,.inl h1,h2⟩)
  ·exact .inr (.inr ⟨s,.inr h1,h2⟩)
 ·rintro(h|h|⟨s,h1|h1,h2⟩)
  ·exact .inl (.inl (.inl h))
  ·exact .inl (.inl (.inr h))
  ·exact .inl (.inr ⟨s,h1,h2⟩)
  ·exact .inr ⟨s,h1,h2⟩
theorem Qj4 (a b:List Sg) (f t:Int):(brk a b f t).Pairwise (· < ·):=Qsm _ (Qpj _).1
theorem Qh0 {T:List Int} (h:T.Pairwise (· < ·)) {i j:Nat} (hij:i<j) (hj:j<T.length):T.getD i 0<T.getD j 0:=by
 rw [gD hj,gD (show i<T.length by omega)]
 exact List.pairwise_iff_getElem.1 h i j _ _ hij
theorem Qt7 {T:List Int} {y:Int} (hy:y∈T): ∃i,i<T.length∧T.getD i 0=y:=by
 obtain⟨i,h,rfl⟩:=List.getElem_of_mem hy
 exact⟨i,h,gD h⟩
theorem Q1z {T:List Int} {i:Nat} (h:i<T.length):T.getD i 0∈T:=by rw [gD h];exact List.getElem_mem h
theorem Zaj {T:List Int} (h:T.Pairwise (· < ·)) {i:Nat} (hi:i+1<T.length) {y:Int} (hy:y∈T) (hl:T.getD i 0<y):T.getD (i+1) 0≤y:=by
 obtain⟨j,hj,rfl⟩:=Qt7 hy
 rcases Nat.lt_trichotomy j (i+1)with q|q|q
 ·have: ¬T.getD i 0<T.getD j 0:=by
   rcases Nat.lt_or_ge j i with r|r
   ·have:=Qh0 h r (by omega);omega
   ·have:j=i:=by omega
    subst this;omega
  exact absurd hl this
 ·subst q;exact Int.le_refl _
 ·exact Int.le_of_lt (Qh0 h q hj)
theorem Qqf (a b:List Sg) (f t:Int) (hft:f<t):2≤(brk a b f t).length∧(brk a b f t).getD 0 0=f∧(brk a b f t).getD ((brk a b f t).length-1) 0=t:=by
 have hs:=Qj4 a b f t
 have hf:f∈brk a b f t:=(Qqe _ _ _ _ _).2 (.inl rfl)
 have ht:t∈brk a b f t:=(Qqe _ _ _ _ _).2 (.inr (.inl rfl))
 have hge: ∀y∈brk a b f t,f≤y∧y≤t:=by
  intro y hy
  rcases(Qqe _ _ _ _ _).1 hy with rfl|rfl|⟨s,_,rfl,h2,h3⟩<;>omega
 generalize brk a b f t=T at*
 obtain⟨i,hi,ei⟩:=Qt7 hf
 obtain⟨j,hj,ej⟩:=Qt7 ht
 have hij:i≠j:=by rintro rfl;omega
 refine⟨by omega,?_,?_⟩
 ·have h0:=hge _ (Q1z (show 0<T.length by omega))
  rcases Nat.eq_zero_or_pos i with r|r
  ·subst r;exact ei
  ·have:=Qh0 hs r hi;omega
 ·have h0:=hge _ (Q1z (show T.length-1<T.length by omega))
  rcases Nat.lt_or_ge j (T.length-1)with r|r
  ·have:=Qh0 hs r (by omega);omega
  ·have:j=T.length-1:=by omega
   subst this;exact ej
def cmS (p:List Sg) (T:List Int) (k:Nat):List (Sg×Int×Int):=(List.range k).flatMap fun i=>spans p (T.getD i 0) (T.getD (i+1) 0)
theorem Qhe (p:List Sg) (T:List Int) (k:Nat):cmS p T (k+1)=cmS p T k++spans p (T.getD k 0) (T.getD (k+1) 0):=by
 unfold cmS;rw [List.range_succ,List.flatMap_append];simp
theorem Q10 {p:List Sg} {T:List Int} {k n:Nat} (h:(spans p (T.getD k 0) (T.getD (k+1) 0)).all spF=false) (hk:k<n):(cmS p T n).all spF=false:=by
 induction n with
 |zero=>omega
 |succ n ih=>
  rw [Qhe,List.all_append]
  rcases Nat.lt_or_ge k n with r|r
  ·rw [ih r];rfl
  ·have:k=n:=by omega
   subst this;rw [h,Bool.and_false]
theorem Qt8 (p:List Sg) (T:List Int): ∀k,(cmS p T k).length≤k*p.length
 |0=>by simp [cmS]
 |k+1=>by
  rw [Qhe,List.length_append,Nat.add_mul,Nat.one_mul]
  have:=Qt8 p T k
  have:=Qb7 p (T.getD k 0) (T.getD (k+1) 0)
  omega
end Go.Dg

namespace Go.Proofs.YtlpiamlgibomhaaGreat
open Go.Vl Go.RowKit Go.Dg
def Zkw (a b:List Sg) (T:List Int):PV:=if(cmS a T (T.length-1)).all spF=true∧(cmS b T (T.length-1)).all spF=true then(if(cmS a T (T.length-1)).length≤256 then .tup [Qan ((cmS a T (T.length-1)).map spS),Qan ((cmS b T (T.length-1)).map spS),.int .i64 0]else .tup [Qan [],Qan [],.int .i64 7])else .tup [Qan [],Qan [],.int .i64 7]
def Q4c (a b:List Sg):PV:=if Qa4 a=true∧Qa4 b=true then(if max (pBeg a) (pBeg b)<min (pEnd a) (pEnd b)then Zkw a b (brk a b (max (pBeg a) (pBeg b)) (min (pEnd a) (pEnd b)))else .tup [Qan [],Qan [],.int .i64 9])else .tup [Qan [],Qan [],.int .i64 2]
theorem Zkx {xs:List Int} {i:Nat} (h:i<(dd xs).length):((ddB xs).map (PV.int .i64))[i]? =some (.int .i64 ((dd xs).getD i 0)):=by
 unfold ddB
 rw [List.getElem?_map,List.getElem?_append_left h,gD h,List.getElem?_eq_getElem h];rfl
theorem Qnj (p:List Sg) (i:Nat) (h:i<p.length):(p.map sgPV)[i]? =some (sgPV p[i]):=by rw [List.getElem?_map,List.getElem?_eq_getElem h];rfl
def accT (a b:List Sg) (f t:Int):Nat→List Int
 |0=>[f,t]
 |1=>[f,t]++frs f t a
 |_=>Qe3 a b f t
theorem Zbw (a b:List Sg) (f t:Int) (j:Nat) (p:List Sg) (i:Nat) (ha:a.length≤1000) (hb:b.length≤1000) (hp:p.length≤1000):(accT a b f t j++frs f t (p.take i)).length≤4000:=by
 have h1:=Qqd f t a
 have h2:=Qqd f t b
 have h3:=Qqd f t (p.take i)
 have h4:(p.take i).length≤p.length:=by simp;omega
 rw [List.length_append]
 match j with
 |0=>simp [accT];omega
 |1=>simp [accT];omega
 |j+2=>simp [accT,Qe3];omega
set_option maxHeartbeats 8000000 in
set_option maxRecDepth 100000 in
theorem Q4d (a b:List Sg) (ha: ∀s∈a,okSg s) (hb: ∀s∈b,okSg s) (hla:a.length≤6) (hlb:b.length≤6):Qaf Tryz.prog 42 [Qan a,Qan b] (Q4c a b):=by
 have v1:=Qcu a ha (by omega)
 have v2:=Qcu b hb (by omega)
 unfold Q4c
 cases hA:Qa4 a with
 |false=>
  rw [hA]at v1
  rw [if_neg (by simp)]
  unfold Qan at v1 ⊢
  refine Qac (tb:=[]) 143 [.tmp 4,.tmp 5,.tmp 6] [0,1,4,5,6,7,8,9,11,13,14,15,16,17,18,26,53,59,60,61,62,65,66,67,68,80,95,131,140] mixed Tryz.func42 rfl (by kernel_rfl) (by kernel_rfl) (by kernel_rfl) (by kernel_rfl) ?_
  repeat (first|(simp -implicitDefEqProofs only [go_sem,Nat.reduceAdd,Nat.reduceMul,Nat.reduceEqDiff,Nat.reduceLT,Nat.reduceLeDiff,reduceCtorEq,Bool.not_false,List.map_nil])|((with_reducible refine Qab (v1) ?_ ?_ ?_);(with_reducible rfl);rfl)|(with_reducible exact Qaa _ _ (by kernel_rfl))|(with_reducible refine And.intro (Qaa _ _ (by kernel_rfl)) ?_))
 |true=>
 rw [hA]at v1
 cases hB:Qa4 b with
 |false=>
  rw [hB]at v2
  rw [if_neg (by simp)]
  unfold Qan at v1 v2 ⊢
  refine Qac (tb:=[]) 143 [.tmp 4,.tmp 5,.tmp 6] [0,1,4,5,6,7,8,9,11,13,14,15,16,17,18,26,53,59,60,61,62,65,66,67,68,80,95,131,140] mixed Tryz.func42 rfl (by kernel_rfl) (by kernel_rfl) (by kernel_rfl) (by kernel_rfl) ?_
  repeat (first|(simp -implicitDefEqProofs only [go_sem,Nat.reduceAdd,Nat.reduceMul,Nat.reduceEqDiff,Nat.reduceLT,Nat.reduceLeDiff,reduceCtorEq,Bool.not_false,Bool.not_true,List.map_nil])|((with_reducible refine Qab (v1) ?_ ?_ ?_);(with_reducible rfl);rfl)|((with_reducible refine Qab (v2) ?_ ?_ ?_);(with_reducible rfl);rfl)|(with_reducible exact Qaa _ _ (by kernel_rfl))|(with_reducible refine And.intro (Qaa _ _ (by kernel_rfl)) ?_))
 |true=>
 rw [hB]at v2
 rw [if_pos ⟨rfl,rfl⟩]
 obtain⟨-,a1,a2⟩:=Qba hA
 obtain⟨-,b1,b2⟩:=Qba hB
 have ga0:=Qnj a 0 (by omega)
 have gb0:=Qnj b 0 (by omega)
 have hia:a.length-1<a.length:=by omega
 have hib:b.length-1<b.length:=by omega
 have ga1:=Qnj a (a.length-1) hia
 have gb1:=Qnj b (b.length-1) hib
 have na:=nnT (a.length-1)
 have nb:=nnT (b.length-1)
 have wa:=Qd0 (n:=a.length) (by omega) (by omega)
 have wb:=Qd0 (n:=b.length) (by omega) (by omega)
 have z0:((0:Int)≤0)=True:=eq_true (Int.le_refl 0)
 have ea:a[0].f=pBeg a:=by unfold pBeg;rw [sgD (show 0<a.length by omega)]
 have eb:b[0].f=pBeg b:=by unfold pBeg;rw [sgD (show 0<b.length by omega)]
 have ea1:a[a.length-1].t=pEnd a:=by unfold pEnd;rw [sgD hia]
 have eb1:b[b.length-1].t=pEnd b:=by unfold pEnd;rw [sgD hib]
 unfold Qan at v1 v2
 by_cases hft:max (pBeg a) (pBeg b)<min (pEnd a) (pEnd b)
 ·rw [if_pos hft]
  have hft':(min (pEnd a) (pEnd b)≤max (pBeg a) (pBeg b))=False:=eq_false (by omega)
  obtain⟨m2,t0,t1⟩:=Qqf a b _ _ hft
  have hva:=Qfo hA
  have hvb:=Qfo hB
  obtain⟨x1,x2,x3,x4⟩:=Qds hA
  obtain⟨y1,y2,y3,y4⟩:=Qds hB
  have hlen12:(Qe3 a b (max (pBeg a) (pBeg b)) (min (pEnd a) (pEnd b))).length≤12:=by
   have q4:=Qwz (max (pBeg a) (pBeg b)) (min (pEnd a) (pEnd b)) a (fun h=>by rw [ea];omega)
   have q5:=Qwz (max (pBeg a) (pBeg b)) (min (pEnd a) (pEnd b)) b (fun h=>by rw [eb];omega)
   simp [Qe3];omega
  have hF0:0≤max (pBeg a) (pBeg b):=by omega
  have hT1:min (pEnd a) (pEnd b)≤3600000:=by omega

  refine Qac (tb:=[(1701,[(1000000,7)],[]),(1801,[(1000000,7)],[])]) 143 [.tmp 4,.tmp 5,.tmp 6] [0,1,4,5,6,7,8,9,11,13,14,15,16,17,18,26,53,59,60,61,62,65,66,67,68,80,95,131,140] mixed Tryz.func42 rfl (by kernel_rfl) (by kernel_rfl) (by kernel_rfl) (by kernel_rfl) ?_
  repeat (first|(simp -implicitDefEqProofs only [go_sem,Nat.reduceAdd,Nat.reduceMul,Nat.reduceEqDiff,Nat.reduceLT,Nat.reduceLeDiff,reduceCtorEq,ga0,gb0,ga1,gb1,na,nb,wa,wb,z0,ea,eb,ea1,eb1,Zph,Zpi,hft',Int.toNat_natCast,List.length_map,Bool.not_true])|((with_reducible refine Qab (v1) ?_ ?_ ?_);(with_reducible rfl);rfl)|((with_reducible refine Qab (v2) ?_ ?_ ?_);(with_reducible rfl);rfl)|(with_reducible exact Qaa _ _ (by kernel_rfl))|(with_reducible refine And.intro (Qaa _ _ (by kernel_rfl)) ?_))
  generalize max (pBeg a) (pBeg b)=F at*
  generalize min (pEnd a) (pEnd b)=E at*
  refine Qas mixed (fun j:{j:Nat // j≤2}=>St.of [(0,.slc (a.map sgPV)),(1,.slc (b.map sgPV)),(4,.nilS),(5,.nilS),(6,.int .i64 0),(7,.int .i64 F),(8,.int .i64 E),(9,.bs 7 1 0 (accT a b F E j.1).length),(59,.bs 702 1 0 2),(60,.int .i64 2),(61,.int .i64 (j.1:Int))]
   [(702,{els:=[PV.slc (a.map sgPV),PV.slc (b.map sgPV)],esz:=1,ety:=27,fro:=0,live:=true,arr:=true}),(7,iB (accT a b F E j.1))]) (fun j=>2-j.1) ⟨0,by omega⟩ ?_ ?_
  ·refine Qak (θ:=[(702,702),(7,602)]) rfl ?_ ?_
   ·simp [Qad,lkp,ren1,ren0,Qam,accT]
   ·exact⟨⟨rfl,rfl,rfl,rfl,rfl,.inl ⟨rfl,rfl⟩⟩,⟨rfl,rfl,rfl,rfl,rfl,.inl ⟨rfl,rfl⟩⟩,trivial⟩
  ·rintro⟨j,hj⟩
   simp only
   by_cases hj2:j<2
   ·have hj':((j:Int)<2)=True:=eq_true (by omega)
    have nj:=nnT j
    obtain⟨p,hp6,hgp,hacc⟩: ∃p:List Sg,p.length≤6∧ [PV.slc (a.map sgPV),PV.slc (b.map sgPV)][j]? =some (.slc (p.map sgPV))∧accT a b F E (j+1)=accT a b F E j++frs F E p:=by
     match j,hj2 with
     |0,_=>exact⟨a,hla,rfl,rfl⟩
     |1,_=>exact⟨b,hlb,rfl,rfl⟩
    have hAl:=fun i=>Zbw a b F E j p i (by omega) (by omega) (by omega)
    have hwj:=Qah (a:=j) (by omega)
    repeat (first|(simp -implicitDefEqProofs only [go_sem,Nat.reduceAdd,Nat.reduceMul,Nat.reduceEqDiff,Nat.reduceLT,Nat.reduceLeDiff,reduceCtorEq,hj',nj,hgp,Int.toNat_natCast,List.length_map])|(with_reducible exact Qaa _ _ (by kernel_rfl))|(with_reducible refine And.intro (Qaa _ _ (by kernel_rfl)) ?_))
    refine Qas mixed (fun i:{i:Nat // i≤p.length}=>St.of [(0,.slc (a.map sgPV)),(1,.slc (b.map sgPV)),(4,.nilS),(5,.nilS),(6,.int .i64 0),(7,.int .i64 F),(8,.int .i64 E),(9,.bs 7 1 0 (accT a b F E j++frs F E (p.take i.1)).length),(59,.bs 702 1 0 2),(60,.int .i64 2),(61,.int .i64 (j:Int)),(65,.slc (p.map sgPV)),(66,.int .i64 (p.length:Int)),(67,.int .i64 (i.1:Int))]
     [(702,{els:=[PV.slc (a.map sgPV),PV.slc (b.map sgPV)],esz:=1,ety:=27,fro:=0,live:=true,arr:=true}),(7,iB (accT a b F E j++frs F E (p.take i.1)))]) (fun i=>p.length-i.1) ⟨0,Nat.zero_le _⟩ ?_ ?_
    ·refine Qak (θ:=[(702,702),(7,7)]) rfl ?_ ?_
     ·simp [Qad,lkp,ren1,ren0,Qam,frs]
     ·refine⟨⟨rfl,rfl,rfl,rfl,rfl,.inl ⟨rfl,rfl⟩⟩,⟨rfl,rfl,rfl,rfl,rfl,.inl ⟨rfl,?_⟩⟩,trivial⟩
      simp [frs]
    ·rintro⟨i,hi⟩
     by_cases hA:i<p.length
     ·have hA':=ltT hA
      have n0:=nnT i
      have hg:=Qnj p i hA
      have hwk:=Qah (a:=i) (by omega)
      have hsn:=Zai F E p i hA
      have hL:=hAl i
      have hokf:=Qkg (accT a b F E j++frs F E (p.take i))
      simp only
      by_cases h1:F<p[i].f
      ·have h1':(F<p[i].f)=True:=eq_true h1
       by_cases h2:p[i].f<E
       ·have h2':(p[i].f<E)=True:=eq_true h2
        have hin:innS F E p[i]=true:=by simp [innS,h1,h2]
        rw [if_pos hin]at hsn
        have hsn2:accT a b F E j++frs F E (p.take (i+1))=(accT a b F E j++frs F E (p.take i))++[p[i].f]:=by rw [hsn,List.append_assoc]
        generalize accT a b F E j++frs F E (p.take i)=L at*
        generalize p[i]=s at*
        have k1:((L.length+1)*8≤140737488355328)=True:=eq_true (by omega)
        have k2:(L.length+1≤maxLen)=True:=eq_true (by unfold maxLen;omega)
        repeat (first|(simp -implicitDefEqProofs only [go_sem,Nat.reduceAdd,Nat.reduceMul,Nat.reduceEqDiff,Nat.reduceLT,Nat.reduceLeDiff,reduceCtorEq,Nat.reduceBneDiff,hA',n0,hg,hwk,h1',h2',k1,k2,hokf,decide_true,Int.toNat_natCast,List.length_map])|(with_reducible exact Qaa _ _ (by kernel_rfl))|(with_reducible refine And.intro (Qaa _ _ (by kernel_rfl)) ?_))
        refine⟨⟨i+1,hA⟩,by simp only;omega,Qak (θ:=[(702,702),(7,1404)]) rfl ?_ ?_⟩
        ·simp only [hsn2]
         simp [Qad,lkp,ren1,ren0,Qam]
        ·simp only [hsn2]
         refine⟨⟨rfl,rfl,rfl,rfl,rfl,.inl ⟨rfl,rfl⟩⟩,⟨rfl,rfl,rfl,rfl,rfl,.inl ⟨rfl,?_⟩⟩,trivial⟩
         simp
       ·have h2':(p[i].f<E)=False:=eq_false h2
        have hin: ¬innS F E p[i]=true:=by simp [innS,h2]
        rw [if_neg hin]at hsn
        have hsn2:accT a b F E j++frs F E (p.take (i+1))=accT a b F E j++frs F E (p.take i):=by rw [hsn]
        generalize accT a b F E j++frs F E (p.take i)=L at*
        generalize p[i]=s at*
        repeat (first|(simp -implicitDefEqProofs only [go_sem,Nat.reduceAdd,Nat.reduceMul,Nat.reduceEqDiff,Nat.reduceLT,Nat.reduceLeDiff,reduceCtorEq,hA',n0,hg,hwk,h1',h2',decide_true,decide_false,Int.toNat_natCast,List.length_map])|(with_reducible exact Qaa _ _ (by kernel_rfl))|(with_reducible refine And.intro (Qaa _ _ (by kernel_rfl)) ?_))
        refine⟨⟨i+1,hA⟩,by simp only;omega,Qak (θ:=[(702,702),(7,7)]) rfl ?_ ?_⟩
        ·simp only [hsn2]
         simp [Qad,lkp,ren1,ren0,Qam]
        ·simp only [hsn2]
         exact⟨⟨rfl,rfl,rfl,rfl,rfl,.inl ⟨rfl,rfl⟩⟩,⟨rfl,rfl,rfl,rfl,rfl,.inl ⟨rfl,rfl⟩⟩,trivial⟩
      ·have h1':(F<p[i].f)=False:=eq_false h1
       have hin: ¬innS F E p[i]=true:=by simp [innS,h1]
       rw [if_neg hin]at hsn
       have hsn2:accT a b F E j++frs F E (p.take (i+1))=accT a b F E j++frs F E (p.take i):=by rw [hsn]
       generalize accT a b F E j++frs F E (p.take i)=L at*
       generalize p[i]=s at*
       repeat (first|(simp -implicitDefEqProofs only [go_sem,Nat.reduceAdd,Nat.reduceMul,Nat.reduceEqDiff,Nat.reduceLT,Nat.reduceLeDiff,reduceCtorEq,hA',n0,hg,hwk,h1',decide_true,decide_false,Int.toNat_natCast,List.length_map])|(with_reducible exact Qaa _ _ (by kernel_rfl))|(with_reducible refine And.intro (Qaa _ _ (by kernel_rfl)) ?_))
       refine⟨⟨i+1,hA⟩,by simp only;omega,Qak (θ:=[(702,702),(7,7)]) rfl ?_ ?_⟩
       ·simp only [hsn2]
        simp [Qad,lkp,ren1,ren0,Qam]
       ·simp only [hsn2]
        exact⟨⟨rfl,rfl,rfl,rfl,rfl,.inl ⟨rfl,rfl⟩⟩,⟨rfl,rfl,rfl,rfl,rfl,.inl ⟨rfl,rfl⟩⟩,trivial⟩
     ·have hA':=ltF hA
      obtain rfl:i=p.length:=by omega
      simp only [List.take_length,←hacc]
      repeat (first|(simp -implicitDefEqProofs only [go_sem,Nat.reduceAdd,Nat.reduceMul,Nat.reduceEqDiff,Nat.reduceLT,Nat.reduceLeDiff,reduceCtorEq,hA',hwj])|(with_reducible exact Qaa _ _ (by kernel_rfl))|(with_reducible refine And.intro (Qaa _ _ (by kernel_rfl)) ?_))
      refine⟨⟨j+1,by omega⟩,by simp only;omega,Qak (θ:=[(702,702),(7,7)]) rfl ?_ ?_⟩
      ·simp [Qad,lkp,ren1,ren0,Qam]
      ·exact⟨⟨rfl,rfl,rfl,rfl,rfl,.inl ⟨rfl,rfl⟩⟩,⟨rfl,rfl,rfl,rfl,rfl,.inl ⟨rfl,rfl⟩⟩,trivial⟩
   ·have hj':((j:Int)<2)=False:=eq_false (by omega)
    obtain rfl:j=2:=by omega
    have hT2:accT a b F E 2=Qe3 a b F E:=rfl
    have hTT:dd (Qii (Qe3 a b F E))=brk a b F E:=rfl
    have hso:=Zqy (Qe3 a b F E) hlen12
    have hco:=Q4l (Qii (Qe3 a b F E)) (by rw [Qm9];omega)
    rw [Qm9,hTT]at hco
    have hgt:=fun i (h:i<(brk a b F E).length)=>Zkx (xs:=Qii (Qe3 a b F E)) (i:=i) h
    rw [hTT]at hgt
    have hbl:(brk a b F E).length≤12:=by
     have q1:=Q3g (Qii (Qe3 a b F E))
     have q2:=Qm9 (Qe3 a b F E)
     rw [hTT]at q1;omega
    simp only [hT2]
    generalize ddB (Qii (Qe3 a b F E))=DB at*
    generalize brk a b F E=T at*
    have bl7:Nat.ble 1000000 7=false:=rfl
    repeat (first|(simp -implicitDefEqProofs only [go_sem,Nat.reduceAdd,Nat.reduceMul,Nat.reduceEqDiff,Nat.reduceLT,Nat.reduceLeDiff,Nat.reduceSub,reduceCtorEq,Int.reduceLT,hj',List.length_map])|((with_reducible refine Qbs (hso) ?_ ?_ ?_ ?_);(with_reducible rfl);rfl;rfl)|((with_reducible refine Qbs (hco) ?_ ?_ ?_ ?_);(with_reducible rfl);rfl;rfl)|(with_reducible exact Qaa _ _ (by kernel_rfl))|(with_reducible refine And.intro (Qaa _ _ (by kernel_rfl)) ?_))
    unfold Zkw
    refine Qas mixed (fun i:{i:Nat // i≤T.length-1∧(cmS a T i).all spF=true∧(cmS b T i).all spF=true}=>St.of [(0,.slc (a.map sgPV)),(1,.slc (b.map sgPV)),(4,.bs 8 6 0 (cmS a T i.1).length),(5,.bs 9 6 0 (cmS b T i.1).length),(6,.int .i64 0),(9,.bs 7 1 0 T.length),(14,.int .i64 ((i.1+1:Nat):Int))]
     [(7,iB DB),(8,{els:=((cmS a T i.1).map spS).map sgPV,esz:=6,ety:=24,fro:=0,live:=true,arr:=true}),(9,{els:=((cmS b T i.1).map spS).map sgPV,esz:=6,ety:=24,fro:=0,live:=true,arr:=true})]) (fun i=>T.length-i.1) ⟨0,Nat.zero_le _,rfl,rfl⟩ ?_ ?_
    ·refine Le.trans (Zab 4 8 6 24 rfl rfl rfl (by decide)) (Qhd 5 9 6 24 rfl rfl rfl (by decide) [(7,7),(8,8),(9,9)] rfl ?_ ?_)
     ·simp [Qad,lkp,ren1,ren0,Qam,cmS]
     ·exact⟨⟨rfl,rfl,rfl,rfl,rfl,.inl ⟨rfl,rfl⟩⟩,⟨rfl,rfl,rfl,rfl,rfl,.inl ⟨rfl,rfl⟩⟩,⟨rfl,rfl,rfl,rfl,rfl,.inl ⟨rfl,rfl⟩⟩,trivial⟩
    ·rintro⟨i,hi,hfa,hfb⟩
     simp only
     have hca:=Qt8 a T i
     have hcb:=Qt8 b T i
     have hia6:i*a.length≤12*6:=Nat.mul_le_mul (by omega) hla
     have hib6:i*b.length≤12*6:=Nat.mul_le_mul (by omega) hlb
     by_cases hI:i+1<T.length
     ·have hI':(((i+1:Nat):Int)<(T.length:Int))=True:=eq_true (by omega)
      have n1:=nnT (i+1)
      have n0:=nnT i
      have ws:=Qd4 (n:=i) (by omega)
      have l0:((i:Int)<(T.length:Int))=True:=eq_true (by omega)
      have g0:=hgt i (by omega)
      have g1:=hgt (i+1) hI
      have hwi:=Qah (a:=i+1) (by omega)
      have ca:=Q32 a (T.getD i 0) (T.getD (i+1) 0) (spans a (T.getD i 0) (T.getD (i+1) 0)) (Nat.le_trans (Qb7 _ _ _) (by omega)) (Qnf a _ _ ha hva (by omega))
      have cb:=Q32 b (T.getD i 0) (T.getD (i+1) 0) (spans b (T.getD i 0) (T.getD (i+1) 0)) (Nat.le_trans (Qb7 _ _ _) (by omega)) (Qnf b _ _ hb hvb (by omega))
      have sa:=Qhe a T i
      have sb:=Qhe b T i
      have la:=Qb7 a (T.getD i 0) (T.getD (i+1) 0)
      have lb:=Qb7 b (T.getD i 0) (T.getD (i+1) 0)
      unfold Qlm at ca cb
      cases fa:(spans a (T.getD i 0) (T.getD (i+1) 0)).all spF with
      |false=>
       have hbad:=Q10 fa (show i<T.length-1 by omega)
       rw [if_neg (by rw [hbad];simp)]
       rw [if_neg (by rw [fa];simp)]at ca
       obtain⟨XB,nB,hcbx⟩: ∃XB nB,(if(spans b (T.getD i 0) (T.getD (i+1) 0)).all spF=true then PV.tup [Qan ((spans b (T.getD i 0) (T.getD (i+1) 0)).map spS),.int .i64 0]else PV.tup [Qan [],.int .i64 7])= .tup [.slc XB,.int .i64 nB]:=by
        split<;>exact⟨_,_,rfl⟩
       rw [hcbx]at cb
       unfold Qan at ca cb ⊢
       repeat (first|(simp -implicitDefEqProofs only [go_sem,Nat.reduceAdd,Nat.reduceMul,Nat.reduceEqDiff,Nat.reduceLT,Nat.reduceLeDiff,reduceCtorEq,hI',n0,n1,ws,l0,g0,g1,Q4k,Int.toNat_natCast,List.map_nil])|((with_reducible refine Qab (ca) ?_ ?_ ?_);(with_reducible rfl);rfl)|((with_reducible refine Qab (cb) ?_ ?_ ?_);(with_reducible rfl);rfl)|(with_reducible exact Qaa _ _ (by kernel_rfl))|(with_reducible refine And.intro (Qaa _ _ (by kernel_rfl)) ?_))
      |true=>
       rw [if_pos fa]at ca
       cases fb:(spans b (T.getD i 0) (T.getD (i+1) 0)).all spF with
       |false=>
        have hbad:=Q10 fb (show i<T.length-1 by omega)
        rw [if_neg (by rw [hbad];simp)]
        rw [if_neg (by rw [fb];simp)]at cb
        unfold Qan at ca cb ⊢
        repeat (first|(simp -implicitDefEqProofs only [go_sem,Nat.reduceAdd,Nat.reduceMul,Nat.reduceEqDiff,Nat.reduceLT,Nat.reduceLeDiff,reduceCtorEq,hI',n0,n1,ws,l0,g0,g1,Qf5,Q4k,Int.toNat_natCast,List.map_nil])|((with_reducible refine Qab (ca) ?_ ?_ ?_);(with_reducible rfl);rfl)|((with_reducible refine Qab (cb) ?_ ?_ ?_);(with_reducible rfl);rfl)|(with_reducible exact Qaa _ _ (by kernel_rfl))|(with_reducible refine And.intro (Qaa _ _ (by kernel_rfl)) ?_))
       |true=>
        rw [if_pos fb]at cb
        unfold Qan at ca cb
        have o1:=Q34 ((spans a (T.getD i 0) (T.getD (i+1) 0)).map spS)
        have o2:=Q34 ((spans b (T.getD i 0) (T.getD (i+1) 0)).map spS)
        have p1:=Qfn ((cmS a T i).map spS)
        have p2:=Qfn ((cmS b T i).map spS)
        have fa2:(cmS a T (i+1)).all spF=true:=by rw [sa,List.all_append,hfa,fa];rfl
        have fb2:(cmS b T (i+1)).all spF=true:=by rw [sb,List.all_append,hfb,fb];rfl
        have ea2:((cmS a T (i+1)).map spS).map sgPV=((cmS a T i).map spS).map sgPV++((spans a (T.getD i 0) (T.getD (i+1) 0)).map spS).map sgPV:=by rw [sa,List.map_append,List.map_append]
        have eb2:((cmS b T (i+1)).map spS).map sgPV=((cmS b T i).map spS).map sgPV++((spans b (T.getD i 0) (T.getD (i+1) 0)).map spS).map sgPV:=by rw [sb,List.map_append,List.map_append]
        have ja:(cmS a T (i+1)).length=(cmS a T i).length+(spans a (T.getD i 0) (T.getD (i+1) 0)).length:=by rw [sa,List.length_append]
        have jb:(cmS b T (i+1)).length=(cmS b T i).length+(spans b (T.getD i 0) (T.getD (i+1) 0)).length:=by rw [sb,List.length_append]
        have q1:(((cmS a T i).map spS).map sgPV).length=(cmS a T i).length:=by simp
        have q2:(((cmS b T i).map spS).map sgPV).length=(cmS b T i).length:=by simp
        have q3:(((spans a (T.getD i 0) (T.getD (i+1) 0)).map spS).map sgPV).length=(spans a (T.getD i 0) (T.getD (i+1) 0)).length:=by simp
        have q4:(((spans b (T.getD i 0) (T.getD (i+1) 0)).map spS).map sgPV).length=(spans b (T.getD i 0) (T.getD (i+1) 0)).length:=by simp
        have k1:(((cmS a T i).length+(spans a (T.getD i 0) (T.getD (i+1) 0)).length)*96≤140737488355328)=True:=eq_true (by omega)
        have k2:((cmS a T i).length+(spans a (T.getD i 0) (T.getD (i+1) 0)).length≤maxLen)=True:=eq_true (by unfold maxLen;omega)
        have k3:(((cmS b T i).length+(spans b (T.getD i 0) (T.getD (i+1) 0)).length)*96≤140737488355328)=True:=eq_true (by omega)
        have k4:((cmS b T i).length+(spans b (T.getD i 0) (T.getD (i+1) 0)).length≤maxLen)=True:=eq_true (by unfold maxLen;omega)
        generalize ((cmS a T i).map spS).map sgPV=XA at*
        generalize ((cmS b T i).map spS).map sgPV=XB at*
        generalize ((spans a (T.getD i 0) (T.getD (i+1) 0)).map spS).map sgPV=SA at*
        generalize ((spans b (T.getD i 0) (T.getD (i+1) 0)).map spS).map sgPV=SB at*
        repeat (first|(simp -implicitDefEqProofs only [go_sem,Nat.reduceAdd,Nat.reduceMul,Nat.reduceEqDiff,Nat.reduceLT,Nat.reduceLeDiff,reduceCtorEq,hI',n0,n1,ws,l0,g0,g1,Qf5,hwi,o1,o2,p1,p2,q1,q2,q3,q4,k1,k2,k3,k4,Int.toNat_natCast])|((with_reducible refine Qab (ca) ?_ ?_ ?_);(with_reducible rfl);rfl)|((with_reducible refine Qab (cb) ?_ ?_ ?_);(with_reducible rfl);rfl)|(with_reducible exact Qaa _ _ (by kernel_rfl))|(with_reducible refine And.intro (Qaa _ _ (by kernel_rfl)) ?_))
        refine⟨⟨i+1,by omega,fa2,fb2⟩,by simp only;omega,Qak (θ:=[(7,7),(8,2602),(9,2605)]) rfl ?_ ?_⟩
        ·simp only [ja,jb]
         simp [Qad,lkp,ren1,ren0,Qam]
        ·simp only [ea2,eb2]
         exact⟨⟨rfl,rfl,rfl,rfl,rfl,.inl ⟨rfl,rfl⟩⟩,⟨rfl,rfl,rfl,rfl,rfl,.inl ⟨rfl,rfl⟩⟩,⟨rfl,rfl,rfl,rfl,rfl,.inl ⟨rfl,rfl⟩⟩,trivial⟩
     ·have hI':(((i+1:Nat):Int)<(T.length:Int))=False:=eq_false (by omega)
      obtain rfl:i=T.length-1:=by omega
      rw [if_pos ⟨hfa,hfb⟩]
      have e1:(((cmS a T (T.length-1)).map spS).map sgPV).take (cmS a T (T.length-1)).length=((cmS a T (T.length-1)).map spS).map sgPV:=List.take_of_length_le (by simp)
      have e2:(((cmS b T (T.length-1)).map spS).map sgPV).take (cmS b T (T.length-1)).length=((cmS b T (T.length-1)).map spS).map sgPV:=List.take_of_length_le (by simp)
      have p1:=Qfn ((cmS a T (T.length-1)).map spS)
      have p2:=Qfn ((cmS b T (T.length-1)).map spS)
      have q1:(((cmS a T (T.length-1)).map spS).map sgPV).length=(cmS a T (T.length-1)).length:=by simp
      have q2:(((cmS b T (T.length-1)).map spS).map sgPV).length=(cmS b T (T.length-1)).length:=by simp
      by_cases h256:(cmS a T (T.length-1)).length≤256
      ·have h':((256:Int)<((cmS a T (T.length-1)).length:Int))=False:=eq_false (by omega)
       rw [if_pos h256]
       unfold Qan
       generalize ((cmS a T (T.length-1)).map spS).map sgPV=XA at*
       generalize ((cmS b T (T.length-1)).map spS).map sgPV=XB at*
       repeat (first|(simp -implicitDefEqProofs only [go_sem,Nat.reduceAdd,Nat.reduceMul,Nat.reduceEqDiff,Nat.reduceLT,Nat.reduceLeDiff,reduceCtorEq,hI',h',e1,e2,p1,p2,q1,q2])|(with_reducible exact Qaa _ _ (by kernel_rfl))|(with_reducible refine And.intro (Qaa _ _ (by kernel_rfl)) ?_))
      ·omega
 ·rw [if_neg hft]
  have hft':(min (pEnd a) (pEnd b)≤max (pBeg a) (pBeg b))=True:=eq_true (by omega)
  unfold Qan
  refine Qac (tb:=[]) 143 [.tmp 4,.tmp 5,.tmp 6] [0,1,4,5,6,7,8,9,11,13,14,15,16,17,18,26,53,59,60,61,62,65,66,67,68,80,95,131,140] mixed Tryz.func42 rfl (by kernel_rfl) (by kernel_rfl) (by kernel_rfl) (by kernel_rfl) ?_
  repeat (first|(simp -implicitDefEqProofs only [go_sem,Nat.reduceAdd,Nat.reduceMul,Nat.reduceEqDiff,Nat.reduceLT,Nat.reduceLeDiff,reduceCtorEq,ga0,gb0,ga1,gb1,na,nb,wa,wb,z0,ea,eb,ea1,eb1,Zph,Zpi,hft',Int.toNat_natCast,List.length_map,Bool.not_true,List.map_nil])|((with_reducible refine Qab (v1) ?_ ?_ ?_);(with_reducible rfl);rfl)|((with_reducible refine Qab (v2) ?_ ?_ ?_);(with_reducible rfl);rfl)|(with_reducible exact Qaa _ _ (by kernel_rfl))|(with_reducible refine And.intro (Qaa _ _ (by kernel_rfl)) ?_))
end Go.Proofs.YtlpiamlgibomhaaGreat

namespace Go.Proofs.YtlpiamlgibomhaaGreat
open Go.Vl Go.RowKit Go.Dg
end Go.Proofs.YtlpiamlgibomhaaGreat

namespace Go.Proofs.YtlpiamlgibomhaaGreat
open Go.Vl Go.RowKit Go.Dg
end Go.Proofs.YtlpiamlgibomhaaGreat

namespace Go.Dg
end Go.Dg

namespace Go.Dg
theorem Qfe (F:Nat→Int) (n j:Nat) (h:j<n):((List.range n).map F).getD j 0=F j:=by simp [List.getD_eq_getElem?_getD,h]
def binL (n:Nat):List Int:=(List.range (n+1)).map fun j=>(bin n j:Int)
theorem Qu0 (n:Nat):(binL n).length=n+1:=by simp [binL]
theorem Zbi (n:Nat) (x y:Int):hev (binL n) x y=(x+y)^n:=by rw [binL,Ql5,Qmx]
def pieces (n:Nat):Nat→List Int→List (List Int)
 |0,f=>[f]
 |d+1,f=>pieces n d (Zp4 f n)++pieces n d (Zp5 f n)
end Go.Dg

namespace Go.Dg
def linA (α β:Int):List Int→Int→List Int
 | [],k=>[k]
 |c::q,k=>(k+β*c)::linA α β q (α*c)
theorem Qqg (α β:Int): ∀(l:List Int) (k:Int),(linA α β l k).length=l.length+1
 | [],_=>rfl
 |c::q,k=>by simp [linA,Qqg α β q]
theorem Qw0 (α β x y:Int): ∀(l:List Int) (k:Int),hev (linA α β l k) x y=k*y^l.length+(α*x+β*y)*hev l x y
 | [],k=>by simp [linA,hev]
 |c::q,k=>by
  rw [linA,hev,Qqg,Qw0 α β x y q,hev,List.length_cons]
  have e:y^(q.length+1)=y*y^q.length:=Qlk y _
  rw [e]
  generalize y^q.length=Y
  generalize hev q x y=V
  simp only [Int.add_mul,Int.mul_add]
  have h1:β*c*(y*Y)=β*y*(c*Y):=by simp only [Int.mul_comm,Int.mul_left_comm,Int.mul_assoc]
  have h2:x*(α*c*Y)=α*x*(c*Y):=by simp only [Int.mul_comm,Int.mul_left_comm,Int.mul_assoc]
  have h3:x*(α*x*V)=α*x*(x*V):=by simp only [Int.mul_comm,Int.mul_left_comm,Int.mul_assoc]
  have h4:x*(β*y*V)=β*y*(x*V):=by simp only [Int.mul_comm,Int.mul_left_comm,Int.mul_assoc]
  rw [h1,h2,h3,h4]
  omega
theorem Q11 {α β:Int} (ha:0≤α) (hb:0≤β): ∀(l:List Int) (k:Int),(∀c∈l,0≤c)→0≤k→ ∀c∈linA α β l k,0≤c
 | [],k,_,hk=>by intro c hc;simp [linA]at hc;omega
 |c::q,k,hl,hk=>by
  intro z hz
  have hc:=hl c (by simp)
  rcases List.mem_cons.1 hz with rfl|hz
  ·have:=Int.mul_nonneg hb hc;omega
  ·exact Q11 ha hb q (α*c) (fun c hc=>hl c (by simp [hc])) (Int.mul_nonneg ha hc) z hz
def pwL (α β:Int) (l:List Int):Nat→List Int
 |0=>l
 |m+1=>linA α β (pwL α β l m) 0
theorem Qt9 (α β:Int) (l:List Int): ∀m,(pwL α β l m).length=l.length+m
 |0=>rfl
 |m+1=>by rw [pwL,Qqg,Qt9 α β l m];omega
theorem Qua (α β:Int) (l:List Int) (x y:Int): ∀m,hev (pwL α β l m) x y=(α*x+β*y)^m*hev l x y
 |0=>by simp [pwL]
 |m+1=>by rw [pwL,Qw0,Qua α β l x y m,Int.zero_mul,Int.zero_add,Qlk,Int.mul_assoc]
theorem Q12 {α β:Int} (ha:0≤α) (hb:0≤β) {l:List Int} (hl: ∀c∈l,0≤c): ∀m,∀c∈pwL α β l m,0≤c
 |0=>hl
 |m+1=>Q11 ha hb _ _ (Q12 ha hb hl m) (Int.le_refl 0)
def gL (e1 e0 g1 g0:Int) (n j:Nat):List Int:=pwL e1 e0 (pwL g1 g0 [1] (n-j)) j
theorem Zpl (e1 e0 g1 g0:Int) {n j:Nat} (h:j≤n):(gL e1 e0 g1 g0 n j).length=n+1:=by
 unfold gL;rw [Qt9,Qt9];simp;omega
theorem Zpm (e1 e0 g1 g0 x y:Int) (n j:Nat):hev (gL e1 e0 g1 g0 n j) x y=(e1*x+e0*y)^j*(g1*x+g0*y)^(n-j):=by
 unfold gL;rw [Qua,Qua];simp [hev]
theorem Ztb {e1 e0 g1 g0:Int} (h1:0≤e1) (h2:0≤e0) (h3:0≤g1) (h4:0≤g0) (n j i:Nat):0≤(gL e1 e0 g1 g0 n j).getD i 0:=by
 have h: ∀c∈gL e1 e0 g1 g0 n j,0≤c:=Q12 h1 h2 (Q12 h3 h4 (by simp) _) _
 rw [List.getD_eq_getElem?_getD]
 cases e:(gL e1 e0 g1 g0 n j)[i]? with
 |none=>exact Int.le_refl 0
 |some c=>exact h c (List.mem_of_getElem? e)
def subH (H:List Int) (e1 e0 g1 g0:Int) (n:Nat):List Int:=(List.range (n+1)).map fun i=>sm (fun j=>H.getD j 0*(gL e1 e0 g1 g0 n j).getD i 0) (n+1)
theorem Zak (H:List Int) (e1 e0 g1 g0:Int) (n:Nat):(subH H e1 e0 g1 g0 n).length=n+1:=by simp [subH]
theorem Qw1 {H:List Int} {n:Nat} (hH:H.length=n+1) (e1 e0 g1 g0 x y:Int):hev (subH H e1 e0 g1 g0 n) x y=hev H (e1*x+e0*y) (g1*x+g0*y):=by
 rw [subH,Ql5,Qh2 H,hH]
 have e1': ∀i,i<n+1→sm (fun j=>H.getD j 0*(gL e1 e0 g1 g0 n j).getD i 0) (n+1)*(x^i*y^(n-i))=sm (fun j=>H.getD j 0*((gL e1 e0 g1 g0 n j).getD i 0*(x^i*y^(n-i)))) (n+1):=by
  intro i _
  rw [←Qie]
  exact Qa8 _ fun j _=>by rw [Int.mul_assoc]
 rw [Qa8 _ e1',Q2n]
 refine Qa8 _ fun j hj=> ?_
 rw [Qc6]
 congr 1
 have h:=Qh2 (gL e1 e0 g1 g0 n j) x y
 rw [Zpm,Zpl e1 e0 g1 g0 (show j≤n by omega)]at h
 simp only [Nat.add_sub_cancel]at h ⊢
 exact h.symm
theorem Qw2 (H:List Int) (e1 e0 g1 g0:Int) (n i:Nat) (h:i≤n):(subH H e1 e0 g1 g0 n).getD i 0=sm (fun j=>H.getD j 0*(gL e1 e0 g1 g0 n j).getD i 0) (n+1):=Qfe _ _ _ (by omega)
theorem Zal (a b:Int): ∀n:Nat,(a*b)^n=a^n*b^n:=Qqw a b
theorem Zpn {e1 e0 g1 g0 d:Int} (h1:e1+g1=d) (h0:e0+g0=d) (n i:Nat) (hi:i≤n):sm (fun j=>(bin n j:Int)*(gL e1 e0 g1 g0 n j).getD i 0) (n+1)=d^n*(bin n i:Int):=by
 have key:subH (binL n) e1 e0 g1 g0 n=(List.range (n+1)).map fun i=>d^n*(bin n i:Int):=by
  refine Qix (by simp [subH]) fun x _=> ?_
  rw [Qw1 (Qu0 n),Zbi,Ql5]
  have e:e1*x+e0*1+(g1*x+g0*1)=d*(x+1):=by
   rw [←h1,Int.add_mul,Int.mul_add,Int.mul_add];omega
  rw [e,Zal,←Qmx x 1 n,←Qc6]
  exact Qa8 _ fun j _=>by rw [Int.mul_assoc]
 have h2:(subH (binL n) e1 e0 g1 g0 n).getD i 0=((List.range (n+1)).map fun i=>d^n*(bin n i:Int)).getD i 0:=by rw [key]
 rw [Qw2 _ _ _ _ _ _ _ hi,Qfe _ _ _ (by omega)]at h2
 rw [←h2]
 refine Qa8 _ fun j hj=> ?_
 rw [binL,Qfe _ _ _ hj]
theorem Q13 {H:List Int} {e1 e0 g1 g0 d M:Int} (h1:0≤e1) (h2:0≤e0) (h3:0≤g1) (h4:0≤g0) (k1:e1+g1=d) (k0:e0+g0=d) {n:Nat}
  (hb: ∀j,j≤n→ -(M*(bin n j:Int))≤60*H.getD j 0∧60*H.getD j 0≤M*(bin n j:Int)) (i:Nat) (hi:i≤n):
  -(M*d^n*(bin n i:Int))≤60*(subH H e1 e0 g1 g0 n).getD i 0∧60*(subH H e1 e0 g1 g0 n).getD i 0≤M*d^n*(bin n i:Int):=by
 rw [Qw2 _ _ _ _ _ _ _ hi,Int.mul_assoc,←Zpn k1 k0 n i hi,←Qc6,←Qc6]
 have hw:=Ztb h1 h2 h3 h4 n
 constructor
 ·have e: -(sm (fun j=>M*((bin n j:Int)*(gL e1 e0 g1 g0 n j).getD i 0)) (n+1))=sm (fun j=> -1*(M*((bin n j:Int)*(gL e1 e0 g1 g0 n j).getD i 0))) (n+1):=by rw [Qc6 (-1)];omega
  rw [e]
  refine Q2o _ fun j hj=> ?_
  have:=Int.mul_le_mul_of_nonneg_right (hb j (by omega)).1 (hw j i)
  rw [Int.neg_mul,Int.mul_assoc,Int.mul_assoc]at this
  omega
 ·refine Q2o _ fun j hj=> ?_
  have:=Int.mul_le_mul_of_nonneg_right (hb j (by omega)).2 (hw j i)
  rw [Int.mul_assoc,Int.mul_assoc]at this
  exact this
end Go.Dg

namespace Go.Dg
theorem Qub: ∀(p:List Int) (n:Nat) (x:Int),p.length=n+1→hev p x 0=p.getD n 0*x^n
 | [],_,_,h=>by simp at h
 | [c],n,x,h=>by
  have:n=0:=by simpa using h.symm
  subst this;simp [hev]
 |c::d::q,n,x,h=>by
  obtain⟨m,rfl⟩: ∃m,n=m+1:=⟨n-1,by simp at h;omega⟩
  have ih:=Qub (d::q) m x (by simpa using h)
  rw [hev,ih,List.length_cons,List.getD_cons_succ,Qlk x m,Qlk 0]
  rw [Int.zero_mul,Int.mul_zero,Int.zero_add,Int.mul_left_comm]
theorem Qlu: ∀(p:List Int) (k x y:Int),hev (p.map (· *k)) x y=k*hev p x y
 | [],k,x,y=>by simp [hev]
 |c::q,k,x,y=>by
  rw [List.map_cons,hev,Qlu q k,List.length_map,hev,Int.mul_add]
  congr 1
  ·rw [Int.mul_comm c k,Int.mul_assoc]
  ·rw [Int.mul_left_comm]
theorem Qis (p:List Int) (k:Int) (i:Nat):(p.map (· *k)).getD i 0=p.getD i 0*k:=by
 rw [List.getD_eq_getElem?_getD,List.getD_eq_getElem?_getD,List.getElem?_map]
 cases p[i]? <;>simp
def Kq (c:List Int) (a b d:Int):List Int:=(subH (trans c 1 (c.length-1)) (a+b) a (d-a-b) (d-a) (c.length-1)).map (· *d^(6-c.length))
def cq (c:List Int) (a b d:Int):List Int:=trans (Kq c a b d) (-1) (c.length-1)
section
variable {c:List Int} {n:Nat} (hc:c.length=n+1) (a b d:Int)
include hc
theorem Q14:(Kq c a b d).length=n+1:=by
 unfold Kq;rw [List.length_map,Zak];omega
theorem Qgo:(cq c a b d).length=n+1:=by
 unfold cq;rw [Qe5];omega
theorem Zpo (x z:Int):hev (Kq c a b d) x z=d^(5-n)*hev c ((a+b)*x+a*z) (d*(x+z)):=by
 have hn:c.length-1=n:=by omega
 unfold Kq
 rw [Qlu,hn,Qw1 (Qe5 c 1 n),Qfj hc]
 have e:6-c.length=5-n:=by omega
 rw [e]
 congr 2
 simp only [Int.one_mul,Int.sub_mul,Int.add_mul,Int.mul_add]
 omega
theorem Qmj (x y:Int):hev (cq c a b d) x y=d^(5-n)*hev c (a*y+b*x) (d*y):=by
 have hn:c.length-1=n:=by omega
 unfold cq
 rw [hn,Qfj (Q14 hc a b d),Zpo hc]
 have e1:(a+b)*x+a*(-1*x+y)=a*y+b*x:=by
  simp only [Int.add_mul,Int.mul_add,Int.neg_mul,Int.one_mul,Int.mul_neg];omega
 have e2:x+(-1*x+y)=y:=by omega
 rw [e1,e2]
theorem Zh5:(cq c a b d).getD n 0=d^(5-n)*(c.getD n 0*b^n):=by
 have h:=Qub (cq c a b d) n 1 (Qgo hc a b d)
 rw [Qmj hc,Int.mul_zero,Int.mul_zero,Int.zero_add,Int.mul_one,Qub c n b hc,Int.one_pow,Int.mul_one]at h
 exact h.symm
theorem Zam:trans (cq c a b d) 1 n=Kq c a b d:=by
 have hn:c.length-1=n:=by omega
 refine Qix (by rw [Qe5,Q14 hc]) fun x _=> ?_
 rw [Qfj (Qgo hc a b d)]
 unfold cq
 rw [hn,Qfj (Q14 hc a b d)]
 congr 1
 omega
theorem Zpp (hn:n≤5) (u w:Int):plc (cq c a b d) u w=plc c (a*w+b*u) (d*w):=by
 rw [Qux (Qgo hc a b d) hn,Qmj hc,Qux hc hn,Int.mul_pow,←Int.mul_assoc,Int.mul_comm (w^(5-n))]
theorem Zpq (hn:n≤5) (h0:0≤a) (h1:a≤d) (h2:0≤a+b) (h3:a+b≤d) {M:Int} (hM: ∀j,j≤n→ -M≤ctl c j∧ctl c j≤M) (j:Nat) (hj:j≤n):
  -(M*d^5)≤ctl (cq c a b d) j∧ctl (cq c a b d) j≤M*d^5:=by
 have hn1:c.length-1=n:=by omega
 have hd:0≤d:=by omega
 have hH: ∀j,j≤n→ -(M*(bin n j:Int))≤60*(trans c 1 n).getD j 0∧60*(trans c 1 n).getD j 0≤M*(bin n j:Int):=by
  intro j hj
  have hp:(0:Int)≤(bin n j:Int):=Int.natCast_nonneg _
  have:=hM j hj
  rw [←Qm2 hc hn hj,Int.mul_comm (bin n j:Int),←Int.neg_mul]
  exact⟨Int.mul_le_mul_of_nonneg_right this.1 hp,Int.mul_le_mul_of_nonneg_right this.2 hp⟩
 have hs:=Q13 (d:=d) (M:=M) h2 h0 (show 0≤d-a-b by omega) (show 0≤d-a by omega) (by omega) (by omega) hH j hj
 have hk:(Kq c a b d).getD j 0=(subH (trans c 1 n) (a+b) a (d-a-b) (d-a) n).getD j 0*d^(5-n):=by
  unfold Kq
  have e:6-c.length=5-n:=by omega
  rw [Qis,hn1,e]
 have ht:=Qm2 (Qgo hc a b d) hn hj
 rw [Zam hc,hk]at ht
 have hb:(0:Int)<(bin n j:Int):=by have:=Qqv hj;omega
 have hD:0≤d^(5-n):=Int.pow_nonneg hd
 have hdd:d^5=d^n*d^(5-n):=by rw [←Int.pow_add];congr 1;omega
 rw [hdd]
 generalize (subH (trans c 1 n) (a+b) a (d-a-b) (d-a) n).getD j 0=S at*
 generalize d^(5-n)=D at*
 generalize d^n=E at*
 generalize ctl (cq c a b d) j=X at*
 generalize (bin n j:Int)=Bn at*
 have u1:=Int.mul_le_mul_of_nonneg_right hs.1 hD
 have u2:=Int.mul_le_mul_of_nonneg_right hs.2 hD
 rw [Int.mul_assoc 60 S D,←ht]at u1 u2
 constructor
 ·refine Int.le_of_mul_le_mul_left (a:=Bn) ?_ hb
  have e:Bn* -(M*(E*D))= -(M*E*Bn)*D:=by
   rw [Int.mul_neg,Int.neg_mul];congr 1;simp only [Int.mul_comm,Int.mul_left_comm,Int.mul_assoc]
  rw [e];exact u1
 ·refine Int.le_of_mul_le_mul_left (a:=Bn) ?_ hb
  have e:Bn*(M*(E*D))=M*E*Bn*D:=by simp only [Int.mul_comm,Int.mul_left_comm,Int.mul_assoc]
  rw [e];exact u2
theorem Zan {l:List Int} {n:Nat} (hl:l.length=n+1) (h:l.getD n 0≠0):Qaw l=l:=by
 have _hc:=hc
 rcases Qpg (c:=l) (fun _=>by rw [hl];exact h) (by omega)with e|e
 ·exact e
 ·subst e
  have:n=0:=by simpa using hl.symm
  subst this;simp at h
theorem Qw3 (hn:n≤5) (hl:1<c.length→c.getD (c.length-1) 0≠0):cmpC c a b d=Qaw (cq c a b d):=by
 have e1:cmpC c a b d=Qaw (cmpC c a b d):=by unfold cmpC Qeg;rw [Qhh]
 rw [e1]
 refine Qul _ _ fun u _=> ?_
 unfold cmpC
 rw [Qmz,Q3k,Q2u,Qmj hc,Int.mul_one,Int.mul_one]
 have e:6-c.length=5-n:=by omega
 rw [e,Int.mul_comm]
 congr 1
 rcases Qpg hl (by omega)with h|h
 ·rw [h]
 ·rw [h]
  simp [Qaw,hev]
theorem Ztc (hn:n≤5) (hl:1<c.length→c.getD (c.length-1) 0≠0) (hb:b≠0) (hd:d≠0) (G:Int):mkC G (cmpC c a b d)=(cq c a b d).map (· /G):=by
 rw [Qw3 hc a b d hn hl]
 have hq:=Qgo hc a b d
 by_cases ht:(cq c a b d).getD n 0=0
 ·have hn0:n=0:=by
   rcases Nat.eq_zero_or_pos n with h|h
   ·exact h
   ·exfalso
    rw [Zh5 hc]at ht
    have h1:=hl (by omega)
    have e:c.length-1=n:=by omega
    rw [e]at h1
    rcases Int.mul_eq_zero.1 ht with h2|h2
    ·exact Int.pow_ne_zero hd h2
    ·rcases Int.mul_eq_zero.1 h2 with h3|h3
     ·exact h1 h3
     ·exact Int.pow_ne_zero hb h3
  subst hn0
  match hcq:cq c a b d,hq with
  | [x],_=>
   rw [hcq]at ht
   have hx:x=0:=by simpa using ht
   subst hx
   simp [Qaw,mkC]
 ·rw [Zan hc hq ht]
  unfold mkC
  rw [if_neg (by intro e;rw [e]at hq;simp at hq)]
end
theorem Qo5 {x:Int}: ∀{l:List Int},x∈l→x=0∨x∈Qaw l
 | [],h=>nomatch h
 |c::r,h=>by
  rw [Qby]
  rcases List.mem_cons.1 h with rfl|h
  ·split
   ·split
    ·rename_i h0;exact .inl h0
    ·exact .inr (by simp)
   ·exact .inr (by simp)
  ·rcases Qo5 h with h0|h0
   ·exact .inl h0
   ·right
    split
    ·rename_i e;rw [e]at h0;exact nomatch h0
    ·exact List.mem_cons_of_mem _ h0
theorem Q15 (c:List Int) (k u w:Int) (i:Nat):plcT (c.map (· *k)) u w i=plcT c u w i*k:=by
 unfold plcT;rw [Qis];simp only [Int.mul_comm,Int.mul_left_comm,Int.mul_assoc]
theorem Zao (c:List Int) (k u w:Int):plc (c.map (· *k)) u w=plc c u w*k:=by
 unfold plc
 rw [List.length_map,←Qie]
 exact Qa8 _ fun i _=>Q15 c k u w i
theorem Zap (c:List Int) (k:Int) (j:Nat):ctl (c.map (· *k)) j=ctl c j*k:=by
 unfold ctl
 rw [List.length_map,←Qie]
 exact Qa8 _ fun i _=>by rw [Qis];simp only [Int.mul_comm,Int.mul_left_comm,Int.mul_assoc]
theorem Qqh {l:List Int} {G:Int} (h: ∀x∈l,G∣x):(l.map (· /G)).map (· *G)=l:=by
 rw [List.map_map]
 conv=>rhs;rw [←List.map_id l]
 exact List.map_congr_left fun x hx=>Int.ediv_mul_cancel (h x hx)
theorem Qck {k:Nat}: ∀{c:List Int} {g:Nat},k∣g→(∀x∈c,k∣x.natAbs)→k∣gcdL g c
 | [],_,hg,_=>hg
 |x::c,g,hg,h=>Qck (c:=c) (g:=Nat.gcd g x.natAbs) (Nat.dvd_gcd hg (h x (by simp))) fun y hy=>h y (by simp [hy])
end Go.Dg

namespace Go.Dg
theorem Zpr {s s':Sg} {a d a' d':Int} {k:Nat} (h: ∀i,i<3→plP s a d i=(k:Int)*plP s' a' d' i) (ho:s.o*d^5=(k:Int)*(s'.o*d'^5)): ∀i,i≤3→plG s a d i=k*plG s' a' d' i:=by
 intro i hi
 induction i with
 |zero=>
  show(s.o*d^5).natAbs=k*(s'.o*d'^5).natAbs
  rw [ho,Int.natAbs_mul,Int.natAbs_natCast]
 |succ i ih=>
  rw [Qde,Qde,ih (by omega),h i (by omega),Int.natAbs_mul,Int.natAbs_natCast,Nat.gcd_mul_left]
theorem Ztd {s s':Sg} {a d a' d':Int} {k:Nat} (hk:0<k) (h: ∀i,i<3→plP s a d i=(k:Int)*plP s' a' d' i) (ho:s.o*d^5=(k:Int)*(s'.o*d'^5)):
  (∀i,i<3→plQ s a d i=plQ s' a' d' i)∧plO s a d=plO s' a' d':=by
 have hg:=Zpr h ho 3 (by decide)
 constructor
 ·intro i hi
  unfold plQ
  rw [hg,h i hi,Int.natCast_mul]
  exact Int.mul_ediv_mul_of_pos _ _ (by omega)
 ·unfold plO
  rw [hg,ho,Int.natCast_mul]
  exact Int.mul_ediv_mul_of_pos _ _ (by omega)
structure turnOK (a b d:Int):Prop where
 a0:0≤a
 a1:a≤d
 b0:0≤a+b
 b1:a+b≤d
 b:b≠0
 d:1≤d
theorem Q16 {c:List Int} {o:Int} (h:axOK c o=true) (j:Nat) (hj:j≤c.length-1): -(62914560*o)≤ctl c j∧ctl c j≤62914560*o:=by
 obtain⟨l1,l6, -,hb⟩:=Qb5 h
 have:=Q28 hb j (by omega)
 exact Qc2 this
theorem Qkw {s:Sg} (hv:Qav s=true) (i:Nat) (hi:i<3): ∃n,(s.ax.getD i []).length=n+1∧n≤5∧(1<(s.ax.getD i []).length→(s.ax.getD i []).getD ((s.ax.getD i []).length-1) 0≠0):=by
 obtain⟨l1,l6,l3, -⟩:=Qb5 ((Qao hv).2.1 _ (Qgu s i hi))
 exact⟨(s.ax.getD i []).length-1,by omega,by omega,l3⟩
section
variable {s:Sg} (hv:Qav s=true) {a b d:Int} (ht:turnOK a b d) {f t O:Int} (hO:O=s.o*d^5)
include hv ht hO
theorem Zh6:0<O:=by
 obtain⟨⟨-, -, -,v4, -⟩, -, -⟩:=Qao hv
 rw [hO]
 exact Int.mul_pos (by omega) (Int.pow_pos (by have:=ht.d;omega))
theorem Qw4 (i:Nat) (hi:i<3): ∀x∈cq (s.ax.getD i []) a b d,(mdG (cmpL s a b d) O 3:Int)∣x:=by
 have _ht:=ht
 have _hO:=hO
 obtain⟨n,hn,hn5,hl⟩:=Qkw hv i hi
 intro x hx
 rcases Qo5 hx with rfl|h
 ·exact Int.dvd_zero _
 ·have e:cmpL s a b d i=Qaw (cq (s.ax.getD i []) a b d):=Qw3 hn a b d hn5 hl
  exact(Qm8 (cmpL s a b d) O).2 i hi x (by rw [e];exact h)
theorem Zaq (i:Nat) (hi:i<3):(Qc8 f t (cmpL s a b d) O).ax.getD i []=(cq (s.ax.getD i []) a b d).map (· /(mdG (cmpL s a b d) O 3:Int)):=by
 have _hO:=hO
 obtain⟨n,hn,hn5,hl⟩:=Qkw hv i hi
 have e:mdC (cmpL s a b d) O i=(cq (s.ax.getD i []) a b d).map (· /(mdG (cmpL s a b d) O 3:Int)):=Ztc hn a b d hn5 hl ht.b (by have:=ht.d;omega) _
 rw [←e]
 rcases(show i=0∨i=1∨i=2 by omega)with rfl|rfl|rfl<;>rfl
theorem Qw5 (u w:Int):(∀i,i<3→plQ (Qc8 f t (cmpL s a b d) O) u w i=plQ s (a*w+b*u) (d*w) i)∧plO (Qc8 f t (cmpL s a b d) O) u w=plO s (a*w+b*u) (d*w):=by
 have hp:=Zh6 hv ht hO
 have hG:=Qkd (L:=cmpL s a b d) hp 3
 have hdO:=(Qm8 (cmpL s a b d) O).1
 have h:=Ztd (s:=s) (s':=Qc8 f t (cmpL s a b d) O) (a:=a*w+b*u) (d:=d*w) (a':=u) (d':=w) hG ?_ ?_
 ·exact⟨fun i hi=>(h.1 i hi).symm,h.2.symm⟩
 ·intro i hi
  obtain⟨n,hn,hn5,hl⟩:=Qkw hv i hi
  unfold plP
  rw [Zaq hv ht hO i hi,Int.mul_comm (mdG (cmpL s a b d) O 3:Int),←Zao,Qqh (Qw4 hv ht hO i hi),Zpp hn a b d hn5]
 ·show s.o*(d*w)^5=(mdG (cmpL s a b d) O 3:Int)*(O/(mdG (cmpL s a b d) O 3:Int)*w^5)
  rw [←Int.mul_assoc,Int.mul_ediv_cancel' hdO,hO,Int.mul_pow,Int.mul_assoc]
theorem Qw6 (h0:0≤f) (h1:f<t) (h2:t≤3600000) (hf:Qll (cmpL s a b d) O=true):Qav (Qc8 f t (cmpL s a b d) O)=true:=by
 have hp:=Zh6 hv ht hO
 have hG:=Qkd (L:=cmpL s a b d) hp 3
 have hdO:=(Qm8 (cmpL s a b d) O).1
 have hO2:O/(mdG (cmpL s a b d) O 3:Int)*(mdG (cmpL s a b d) O 3:Int)=O:=Int.ediv_mul_cancel hdO
 have hf':O/(mdG (cmpL s a b d) O 3:Int)≤4294967296:=of_decide_eq_true hf
 have ho1:1≤O/(mdG (cmpL s a b d) O 3:Int):=by
  rcases Int.lt_or_le (O/(mdG (cmpL s a b d) O 3:Int)) 1 with q|q
  ·exfalso
   have:O/(mdG (cmpL s a b d) O 3:Int)*(mdG (cmpL s a b d) O 3:Int)≤0:=Int.mul_nonpos_of_nonpos_of_nonneg (by omega) (by omega)
   omega
  ·exact q
 have hrng:rngS (Qc8 f t (cmpL s a b d) O)=true:=by
  show(decide (0≤f)&&(decide (f<t)&&(decide (t≤3600000)&&(decide (1≤O/(mdG (cmpL s a b d) O 3:Int))&&decide (O/(mdG (cmpL s a b d) O 3:Int)≤4294967296)))))=true
  rw [decide_eq_true h0,decide_eq_true h1,decide_eq_true h2,decide_eq_true ho1,decide_eq_true hf']
  rfl
 have hax: ∀i,i<3→axOK ((Qc8 f t (cmpL s a b d) O).ax.getD i []) (O/(mdG (cmpL s a b d) O 3:Int))=true:=by
  intro i hi
  obtain⟨n,hn,hn5,hl⟩:=Qkw hv i hi
  have hok:=(Qao hv).2.1 _ (Qgu s i hi)
  have hdv:=Qw4 hv ht hO i hi
  have hm:=Qqh hdv
  rw [Zaq hv ht hO i hi]
  have hlen:((cq (s.ax.getD i []) a b d).map (· /(mdG (cmpL s a b d) O 3:Int))).length=n+1:=by rw [List.length_map,Qgo hn]
  have htop:1<n+1→((cq (s.ax.getD i []) a b d).map (· /(mdG (cmpL s a b d) O 3:Int))).getD n 0≠0:=by
   intro h1 e
   have h3:=Qis ((cq (s.ax.getD i []) a b d).map (· /(mdG (cmpL s a b d) O 3:Int))) (mdG (cmpL s a b d) O 3:Int) n
   rw [hm,e,Int.zero_mul,Zh5 hn]at h3
   have h4:=hl (by omega)
   have e2:(s.ax.getD i []).length-1=n:=by omega
   rw [e2]at h4
   rcases Int.mul_eq_zero.1 h3 with h5|h5
   ·exact Int.pow_ne_zero (by have:=ht.d;omega) h5
   ·rcases Int.mul_eq_zero.1 h5 with h6|h6
    ·exact h4 h6
    ·exact Int.pow_ne_zero ht.b h6
  have hctl: ∀j,j<n+1→((ctl ((cq (s.ax.getD i []) a b d).map (· /(mdG (cmpL s a b d) O 3:Int))) j).natAbs:Int)≤62914560*(O/(mdG (cmpL s a b d) O 3:Int)):=by
   intro j hj
   have h3:=Zap ((cq (s.ax.getD i []) a b d).map (· /(mdG (cmpL s a b d) O 3:Int))) (mdG (cmpL s a b d) O 3:Int) j
   rw [hm]at h3
   have h4:=Zpq hn a b d hn5 ht.a0 ht.a1 ht.b0 ht.b1 (M:=62914560*s.o) (fun j hj=>Q16 hok j (by omega)) j (by omega)
   rw [h3,Int.mul_assoc 62914560,←hO,←hO2,←Int.mul_assoc]at h4
   rw [hO2]at h4
   generalize ctl ((cq (s.ax.getD i []) a b d).map (· /(mdG (cmpL s a b d) O 3:Int))) j=X at*
   have hG':(0:Int)<(mdG (cmpL s a b d) O 3:Int):=by omega
   rw [←Int.neg_mul]at h4
   have h5:=Int.le_of_mul_le_mul_right h4.1 hG'
   have h6:=Int.le_of_mul_le_mul_right h4.2 hG'
   omega
  unfold axOK Qj9 Qc4
  rw [hlen,Bool.and_eq_true,Bool.and_eq_true,Bool.and_eq_true,List.all_eq_true]
  refine⟨⟨decide_eq_true (by omega),decide_eq_true (by omega),?_⟩,fun j hj=>decide_eq_true (hctl j (List.mem_range.1 hj))⟩
  rcases Nat.eq_zero_or_pos n with h|h
  ·subst h;rfl
  ·have:=htop (by omega)
   rw [Bool.or_eq_true];right
   simp only [Nat.add_sub_cancel,Bool.not_eq_true',beq_eq_false_iff_ne,ne_eq]
   exact this
 have hgcd:(Qc8 f t (cmpL s a b d) O).ax.foldl gcdL (O/(mdG (cmpL s a b d) O 3:Int)).natAbs=1:=by
  generalize he:(Qc8 f t (cmpL s a b d) O).ax.foldl gcdL (O/(mdG (cmpL s a b d) O 3:Int)).natAbs=e
  have hfold:(Qc8 f t (cmpL s a b d) O).ax.foldl gcdL (O/(mdG (cmpL s a b d) O 3:Int)).natAbs=gcdL (gcdL (gcdL (O/(mdG (cmpL s a b d) O 3:Int)).natAbs ((Qc8 f t (cmpL s a b d) O).ax.getD 0 [])) ((Qc8 f t (cmpL s a b d) O).ax.getD 1 [])) ((Qc8 f t (cmpL s a b d) O).ax.getD 2 []):=rfl
  rw [hfold]at he
  have d3:=Qhj (gcdL (gcdL (O/(mdG (cmpL s a b d) O 3:Int)).natAbs ((Qc8 f t (cmpL s a b d) O).ax.getD 0 [])) ((Qc8 f t (cmpL s a b d) O).ax.getD 1 [])) ((Qc8 f t (cmpL s a b d) O).ax.getD 2 [])
  have d2:=Qhj (gcdL (O/(mdG (cmpL s a b d) O 3:Int)).natAbs ((Qc8 f t (cmpL s a b d) O).ax.getD 0 [])) ((Qc8 f t (cmpL s a b d) O).ax.getD 1 [])
  have d1:=Qhj (O/(mdG (cmpL s a b d) O 3:Int)).natAbs ((Qc8 f t (cmpL s a b d) O).ax.getD 0 [])
  rw [he]at d3
  have q2:=Nat.dvd_trans d3.1 d2.1
  have hall: ∀i,i<3→ ∀x∈(Qc8 f t (cmpL s a b d) O).ax.getD i [],e∣x.natAbs:=by
   intro i hi x hx
   rcases(show i=0∨i=1∨i=2 by omega)with rfl|rfl|rfl
   ·exact Nat.dvd_trans q2 (d1.2 x hx)
   ·exact Nat.dvd_trans d3.1 (d2.2 x hx)
   ·exact d3.2 x hx
  have hbase:e∣(O/(mdG (cmpL s a b d) O 3:Int)).natAbs:=Nat.dvd_trans q2 d1.1
  have hk0:e*mdG (cmpL s a b d) O 3∣O.natAbs:=by
   have:O.natAbs=(O/(mdG (cmpL s a b d) O 3:Int)).natAbs*mdG (cmpL s a b d) O 3:=by
    have:=congrArg Int.natAbs hO2
    rw [Int.natAbs_mul,Int.natAbs_natCast]at this;exact this.symm
   rw [this];exact Nat.mul_dvd_mul_right hbase _
  have hki: ∀i,i<3→ ∀x∈cmpL s a b d i,e*mdG (cmpL s a b d) O 3∣x.natAbs:=by
   intro i hi x hx
   obtain⟨n,hn,hn5,hl⟩:=Qkw hv i hi
   have e1:cmpL s a b d i=Qaw (cq (s.ax.getD i []) a b d):=Qw3 hn a b d hn5 hl
   rw [e1]at hx
   have hx:=Qiy hx
   have hdx:=Qw4 hv ht hO i hi x hx
   have hm:x/(mdG (cmpL s a b d) O 3:Int)∈(Qc8 f t (cmpL s a b d) O).ax.getD i []:=by
    rw [Zaq hv ht hO i hi];exact List.mem_map.2 ⟨x,hx,rfl⟩
   have hq:=hall i hi _ hm
   have:x.natAbs=(x/(mdG (cmpL s a b d) O 3:Int)).natAbs*mdG (cmpL s a b d) O 3:=by
    have:=congrArg Int.natAbs (Int.ediv_mul_cancel hdx)
    rw [Int.natAbs_mul,Int.natAbs_natCast]at this;exact this.symm
   rw [this];exact Nat.mul_dvd_mul_right hq _
  have hdiv:e*mdG (cmpL s a b d) O 3∣mdG (cmpL s a b d) O 3:=
   Qck (Qck (Qck hk0 (hki 0 (by decide))) (hki 1 (by decide))) (hki 2 (by decide))
  have hle:=Nat.le_of_dvd hG hdiv
  have he0:0<e:=by
   rcases Nat.eq_zero_or_pos e with h|h
   ·exfalso
    rw [h]at hbase
    have:=Nat.eq_zero_of_zero_dvd hbase
    omega
   ·exact h
  have he2: ¬2≤e:=by
   intro h
   have:=Nat.mul_le_mul_right (mdG (cmpL s a b d) O 3) h
   omega
  omega
 unfold Qav
 rw [hrng,Bool.true_and,Bool.and_eq_true]
 refine⟨?_,by rw [beq_iff_eq];exact hgcd⟩
 rw [List.all_eq_true]
 intro c hc
 have h3:(Qc8 f t (cmpL s a b d) O).ax=[(Qc8 f t (cmpL s a b d) O).ax.getD 0 [],(Qc8 f t (cmpL s a b d) O).ax.getD 1 [],(Qc8 f t (cmpL s a b d) O).ax.getD 2 []]:=rfl
 rw [h3]at hc
 simp only [List.mem_cons,List.not_mem_nil,or_false]at hc
 rcases hc with rfl|rfl|rfl
 ·exact hax 0 (by decide)
 ·exact hax 1 (by decide)
 ·exact hax 2 (by decide)
end
end Go.Dg

namespace Go.Dg
theorem Qr9 {s:Sg} {a b:Int} (h1:s.f≤a) (h2:a<b) (h3:b≤s.t):turnOK (a-s.f) (b-a) (s.t-s.f):=⟨by omega,by omega,by omega,by omega,by omega,by omega⟩
theorem Qlv:turnOK 1 (-1) 1:=⟨by decide,by decide,by decide,by decide,by decide,by decide⟩
theorem Qy5 {s:Sg} {a b:Int} (hv:Qav s=true) (h1:s.f≤a) (h2:a<b) (h3:b≤s.t) (hf:ptF s a b=true):Qav (ptS s a b)=true:=by
 obtain⟨⟨v1,v2,v3, -, -⟩, -, -⟩:=Qao hv
 exact Qw6 hv (Qr9 h1 h2 h3) rfl (by omega) h2 (by omega) hf
theorem Qj5 {s:Sg} (hv:Qav s=true) {m x y:Int} (hm:0<m):(∀i,i<3→plQ s (m*x) (m*y) i=plQ s x y i)∧plO s (m*x) (m*y)=plO s x y:=by
 obtain⟨k,rfl⟩: ∃k:Nat,m=(k:Int):=⟨m.toNat,by omega⟩
 exact⟨fun i hi=>Q3b s k x y (by omega) (Qch hv) i hi,Q3c s k x y (by omega) (Qch hv)⟩
theorem Qy6 {s:Sg} {a b:Int} (hv:Qav s=true) (h1:s.f≤a) (h2:a<b) (h3:b≤s.t) (t:Int):
  (∀i,i<3→plQ (ptS s a b) (t-a) (b-a) i=plQ s (t-s.f) (s.t-s.f) i)∧plO (ptS s a b) (t-a) (b-a)=plO s (t-s.f) (s.t-s.f):=by
 have h:=Qw5 (f:=a) (t:=b) hv (Qr9 h1 h2 h3) (O:=ptO s) rfl (t-a) (b-a)
 have e1:(a-s.f)*(b-a)+(b-a)*(t-a)=(b-a)*(t-s.f):=by
  rw [Int.mul_comm (a-s.f),←Int.mul_add];congr 1;omega
 have e2:(s.t-s.f)*(b-a)=(b-a)*(s.t-s.f):=Int.mul_comm _ _
 rw [e1,e2]at h
 obtain⟨k1,k2⟩:=Qj5 (x:=t-s.f) (y:=s.t-s.f) hv (show 0<b-a by omega)
 exact⟨fun i hi=>(h.1 i hi).trans (k1 i hi),h.2.trans k2⟩
def rvS (W:Int) (s:Sg):Sg:=Qc8 (W-s.t) (W-s.f) (cmpL s 1 (-1) 1) s.o
theorem rv_O (s:Sg):s.o=s.o*1^5:=by rw [Int.one_pow,Int.mul_one]
theorem Zjg {s:Sg} (hv:Qav s=true):Qll (cmpL s 1 (-1) 1) s.o=true:=by
 obtain⟨⟨v1,v2,v3,v4,v5⟩, -, -⟩:=Qao hv
 refine decide_eq_true ?_
 unfold mdO
 exact Int.le_trans (Int.ediv_le_self _ (by omega)) v5
theorem Qit {s:Sg} {W:Int} (hv:Qav s=true) (h1:s.t≤W) (h2:W≤3600000+s.f):Qav (rvS W s)=true:=by
 obtain⟨⟨v1,v2,v3, -, -⟩, -, -⟩:=Qao hv
 exact Qw6 hv Qlv (rv_O s) (by omega) (by omega) (by omega) (Zjg hv)
theorem Qqi {s:Sg} {W:Int} (hv:Qav s=true) (t:Int):
  (∀i,i<3→plQ (rvS W s) (s.t-t) (s.t-s.f) i=plQ s (t-s.f) (s.t-s.f) i)∧plO (rvS W s) (s.t-t) (s.t-s.f)=plO s (t-s.f) (s.t-s.f):=by
 have h:=Qw5 (f:=W-s.t) (t:=W-s.f) hv Qlv (rv_O s) (s.t-t) (s.t-s.f)
 have e1:1*(s.t-s.f)+ -1*(s.t-t)=t-s.f:=by omega
 have e2:1*(s.t-s.f)=s.t-s.f:=by omega
 rw [e1,e2]at h
 exact h
theorem Zps {c:List Int} {n:Nat} (hc:c.length=n+1):cq (cq c 1 (-1) 1) 1 (-1) 1=c:=by
 have h1:=Qgo hc 1 (-1) 1
 refine Qix (by rw [Qgo h1,hc]) fun x _=> ?_
 rw [Qmj h1,Qmj hc,Int.one_pow,Int.one_mul,Int.one_mul]
 congr 1
 ·omega
theorem Zjh {c:List Int} {n:Nat} (hc:c.length=n+1) (a b d k:Int):cq (c.map (· *k)) a b d=(cq c a b d).map (· *k):=by
 have hk:(c.map (· *k)).length=n+1:=by rw [List.length_map,hc]
 refine Qix (by rw [Qgo hk,List.length_map,Qgo hc]) fun x _=> ?_
 rw [Qmj hk,Qlu,Qlu,Qmj hc,Int.mul_left_comm]
theorem Zpt {c:List Int} {n:Nat} (hc:c.length=n+1) {G:Int} (h: ∀x∈c,G∣x): ∀x∈cq c 1 (-1) 1,G∣x:=by
 have e:=Qqh h
 have h1:(c.map (· /G)).length=n+1:=by rw [List.length_map,hc]
 rw [←e,Zjh h1]
 intro x hx
 obtain⟨y,_,rfl⟩:=List.mem_map.1 hx
 exact Int.dvd_mul_left y G
theorem rv_G {s:Sg} (hv:Qav s=true):mdG (cmpL s 1 (-1) 1) s.o 3=1:=by
 obtain⟨⟨v1,v2,v3,v4,v5⟩, -,hg⟩:=Qao hv
 have hd:=Qw4 (O:=s.o) hv Qlv (rv_O s)
 have ho:=(Qm8 (cmpL s 1 (-1) 1) s.o).1
 have hp:=Qkd (L:=cmpL s 1 (-1) 1) (show 0<s.o by omega) 3
 generalize mdG (cmpL s 1 (-1) 1) s.o 3=G at*
 have hall: ∀i,i<3→ ∀x∈s.ax.getD i [],G∣x.natAbs:=by
  intro i hi x hx
  obtain⟨n,hn, -, -⟩:=Qkw hv i hi
  have h2:=Zpt (Qgo hn 1 (-1) 1) (hd i hi)
  rw [Zps hn]at h2
  exact Int.natCast_dvd_natCast.1 (Int.dvd_natAbs.2 (h2 x hx))
 have h1:G∣s.ax.foldl gcdL s.o.natAbs:=by
  have e:s.ax.foldl gcdL s.o.natAbs=gcdL (gcdL (gcdL s.o.natAbs (s.ax.getD 0 [])) (s.ax.getD 1 [])) (s.ax.getD 2 []):=rfl
  rw [e]
  exact Qck (Qck (Qck (Int.natCast_dvd_natCast.1 (Int.dvd_natAbs.2 ho)) (hall 0 (by decide))) (hall 1 (by decide))) (hall 2 (by decide))
 rw [hg]at h1
 exact Nat.eq_one_of_dvd_one h1
theorem Quc (l:List Int):l.map (· /((1:Nat):Int))=l:=by
 conv=>rhs;rw [←List.map_id l]
 exact List.map_congr_left fun x _=>Int.ediv_one x
theorem Zji {s:Sg} (hv:Qav s=true) (W:Int) (i:Nat) (hi:i<3):(rvS W s).ax.getD i []=cq (s.ax.getD i []) 1 (-1) 1:=by
 have h:=Zaq (f:=W-s.t) (t:=W-s.f) (O:=s.o) hv Qlv (rv_O s) i hi
 rw [rv_G hv,Quc]at h
 exact h
theorem rv_o {s:Sg} (hv:Qav s=true) (W:Int):(rvS W s).o=s.o:=by
 show s.o/(mdG (cmpL s 1 (-1) 1) s.o 3:Int)=s.o
 rw [rv_G hv];exact Int.ediv_one _
theorem Zte {s:Sg} {W:Int} (hv:Qav s=true) (h1:s.t≤W) (h2:W≤3600000+s.f):rvS W (rvS W s)=s:=by
 have hv2:=Qit hv h1 h2
 have hax: ∀i,i<3→(rvS W (rvS W s)).ax.getD i []=s.ax.getD i []:=by
  intro i hi
  obtain⟨n,hn, -, -⟩:=Qkw hv i hi
  rw [Zji hv2 W i hi,Zji hv W i hi,Zps hn]
 refine Zh9 ?_ ?_ ?_ (hax 0 (by decide)) (hax 1 (by decide)) (hax 2 (by decide))
 ·show W-(W-s.f)=s.f;omega
 ·show W-(W-s.t)=s.t;omega
 ·rw [rv_o hv2,rv_o hv]
theorem Qmk {s:Sg} (hv:Qav s=true): ∀c∈s.ax,∀x∈c,x.natAbs≤1094374710063759360:=by
 obtain⟨⟨v1,v2,v3,v4,v5⟩,hax, -⟩:=Qao hv
 intro c hc x hx
 have h1:=Zid (hax c hc) (by omega)
 have h2:=Q26 hx
 omega
theorem Zpu {s:Sg} (hv:Qav s=true) (i:Nat) (hi:i<3): ∀x∈cmpL s 1 (-1) 1 i,(x/(mdG (cmpL s 1 (-1) 1) s.o 3:Int)).natAbs≤4611686018427387904:=by
 intro x hx
 rw [rv_G hv]
 obtain⟨⟨v1,v2,v3,v4,v5⟩, -, -⟩:=Qao hv
 have hv2:=Qit (W:=s.t) hv (Int.le_refl _) (by omega)
 obtain⟨n,hn,hn5,hl⟩:=Qkw hv i hi
 have e1:cmpL s 1 (-1) 1 i=Qaw (cq (s.ax.getD i []) 1 (-1) 1):=Qw3 hn 1 (-1) 1 hn5 hl
 rw [e1]at hx
 have hx:=Qiy hx
 rw [←Zji hv s.t i hi]at hx
 have:=Qmk hv2 _ (Qgu _ i hi) x hx
 have e:x/((1:Nat):Int)=x:=Int.ediv_one x
 rw [e]
 omega
def plT (p:List Sg) (t:Int) (i:Nat):Int:=plQ (p.getD (atIx p t) sg0) (t-(p.getD (atIx p t) sg0).f) ((p.getD (atIx p t) sg0).t-(p.getD (atIx p t) sg0).f) i
def poT (p:List Sg) (t:Int):Int:=plO (p.getD (atIx p t) sg0) (t-(p.getD (atIx p t) sg0).f) ((p.getD (atIx p t) sg0).t-(p.getD (atIx p t) sg0).f)
theorem Qlw {a b:Sg} (h:Qc1 a b=true):a.t=b.f∧(∀i,i<3→plQ a 1 1 i=plQ b 0 1 i)∧plO a 1 1=plO b 0 1:=by
 unfold Qc1 Qm1 at h
 simp only [Bool.and_eq_true,decide_eq_true_eq]at h
 obtain⟨h1,h2,h3,h4,h5⟩:=h
 refine⟨h1,fun i hi=> ?_,h5⟩
 rcases(show i=0∨i=1∨i=2 by omega)with rfl|rfl|rfl<;>assumption
theorem Qid {s:Sg} (hv:Qav s=true) {m:Int} (hm:0<m):((∀i,i<3→plQ s m m i=plQ s 1 1 i)∧plO s m m=plO s 1 1)∧((∀i,i<3→plQ s 0 m i=plQ s 0 1 i)∧plO s 0 m=plO s 0 1):=by
 have h1:=Qj5 (x:=1) (y:=1) hv hm
 have h2:=Qj5 (x:=0) (y:=1) hv hm
 rw [Int.mul_one]at h1
 rw [Int.mul_one,Int.mul_zero]at h2
 exact⟨h1,h2⟩
theorem Zar {p:List Sg} (hV:Qa4 p=true) {t:Int} {i:Nat} (hi:i<p.length) (h1:p[i].f≤t) (h2:t≤p[i].t):
  (∀k,k<3→plT p t k=plQ p[i] (t-p[i].f) (p[i].t-p[i].f) k)∧poT p t=plO p[i] (t-p[i].f) (p[i].t-p[i].f):=by
 have hj:atIx p t≤i:=by
  rcases Nat.lt_or_ge i (atIx p t)with q|q
  ·have:=Qf0 q hi;omega
  ·exact q
 have hjl:atIx p t<p.length:=by omega
 have hjt:=Qkc hjl
 unfold plT poT
 rw [sgD hjl]
 rcases Nat.lt_or_ge (atIx p t) i with q|q
 ·obtain⟨k,rfl⟩: ∃k,i=k+1:=⟨i-1,by omega⟩
  have hm:=Qcs hV k (by omega)
  obtain⟨m1,m2,m3⟩:=Qlw hm
  have hmono:=Qdo hV k (atIx p t) (by omega) (by omega)
  have hjk:atIx p t=k:=by
   rcases Nat.lt_or_ge (atIx p t) k with r|r
   ·exfalso
    have s1:=Qm4 hV (atIx p t) (by omega)
    have s2:=Qdo hV k (atIx p t+1) (by omega) (by omega)
    omega
   ·omega
  have hvk:=Qbp hV k (by omega)
  have hvi:=Qbp hV (k+1) hi
  obtain⟨⟨-,a2, -, -, -⟩, -, -⟩:=Qao hvk
  obtain⟨⟨-,b2, -, -, -⟩, -, -⟩:=Qao hvi
  have et:t=p[k+1].f:=by
   have:p[atIx p t].t=p[k].t:=by congr 2
   omega
  have hx: ∀(j:Nat) (hj:j<p.length),j=k→(∀z,z<3→plQ p[j] (t-p[j].f) (p[j].t-p[j].f) z=plQ p[k] (p[k].t-p[k].f) (p[k].t-p[k].f) z)∧plO p[j] (t-p[j].f) (p[j].t-p[j].f)=plO p[k] (p[k].t-p[k].f) (p[k].t-p[k].f):=by
   rintro j hj rfl
   have e9:t-p[j].f=p[j].t-p[j].f:=by omega
   rw [e9]
   exact⟨fun _ _=>rfl,rfl⟩
  obtain⟨x1,x2⟩:=hx _ hjl hjk
  obtain⟨⟨e1,e2⟩, -⟩:=Qid hvk (m:=p[k].t-p[k].f) (by omega)
  obtain⟨-,f1,f2⟩:=Qid hvi (m:=p[k+1].t-p[k+1].f) (by omega)
  have e0:t-p[k+1].f=0:=by omega
  rw [e0]
  exact⟨fun z hz=>by rw [x1 z hz,e1 z hz,m2 z hz,f1 z hz],by rw [x2,e2,m3,f2]⟩
 ·have e:atIx p t=i:=by omega
  have hx: ∀(j:Nat) (hj:j<p.length),j=i→(∀z,z<3→plQ p[j] (t-p[j].f) (p[j].t-p[j].f) z=plQ p[i] (t-p[i].f) (p[i].t-p[i].f) z)∧plO p[j] (t-p[j].f) (p[j].t-p[j].f)=plO p[i] (t-p[i].f) (p[i].t-p[i].f):=by
   rintro j hj rfl
   exact⟨fun _ _=>rfl,rfl⟩
  exact hx _ hjl e
end Go.Dg
