/-
  Dws, HI7, HP4, HM1, HM2, HM3 (merged for the claim).
-/
import Derived.Test.YtciddhkfbgkejaaGreatDoorHI1
import Derived.Test.YtciddhkfbgkejaaGreatDoorDsr
import Derived.Test.YtciddhkfbgkejaaGreatDoorHI2
import Derived.Test.YtciddhkfbgkejaaGreatDoorUXS
set_option linter.unusedSimpArgs false
set_option linter.unusedVariables false
namespace Go.Dg
def putI (n:Int):List Int→List Int
 | []=>[n]
 |x::l=>if n<x then n::x::l else x::putI n l
def insU (n:Int) (l:List Int):List Int:=if n∈l then l else putI n l
theorem Qpb (n:Int): ∀(l:List Int) (y:Int),y∈putI n l↔y=n∨y∈l
 | [],y=>by simp [putI]
 |x::l,y=>by
  simp only [putI]
  split
  ·simp
  ·simp only [List.mem_cons,Qpb n l y]
   constructor
   ·rintro(h|h|h)<;>simp [h]
   ·rintro(h|h|h)<;>simp [h]
theorem Ql7 (n:Int): ∀(l:List Int),l.Pairwise (· < ·)→n ∉ l→(putI n l).Pairwise (· < ·)
 | [],_,_=>by simp [putI]
 |x::l,h,hn=>by
  simp only [putI]
  rw [List.pairwise_cons]at h
  simp only [List.mem_cons,not_or]at hn
  split
  ·rename_i hx
   rw [List.pairwise_cons]
   refine⟨fun y hy=> ?_,List.pairwise_cons.2 h⟩
   simp only [List.mem_cons]at hy
   rcases hy with rfl|hy
   ·exact hx
   ·have:=h.1 y hy;omega
  ·rename_i hx
   rw [List.pairwise_cons]
   refine⟨fun y hy=> ?_,Ql7 n l h.2 hn.2⟩
   rcases(Qpb n l y).1 hy with rfl|hy
   ·have:=hn.1;omega
   ·exact h.1 y hy
theorem Q9a (n:Int) (l:List Int) (y:Int):y∈insU n l↔y=n∨y∈l:=by
 unfold insU
 split
 ·rename_i h
  constructor
  ·exact .inr
  ·rintro(rfl|h2)
   ·exact h
   ·exact h2
 ·exact Qpb n l y
theorem Ql8 (n:Int) (l:List Int) (h:l.Pairwise (· < ·)):(insU n l).Pairwise (· < ·):=by
 unfold insU
 split
 ·exact h
 ·rename_i h2;exact Ql7 n l h h2
theorem Qpc (n:Int): ∀l:List Int,(putI n l).length=l.length+1
 | []=>rfl
 |x::l=>by
  simp only [putI]
  split
  ·rfl
  ·simp [Qpc n l]
theorem Qwa (n:Int) (l:List Int):(insU n l).length≤l.length+1:=by
 unfold insU
 split
 ·omega
 ·rw [Qpc];exact Nat.le_refl _
theorem Qtx: ∀(a b:List Int),a.Pairwise (· < ·)→b.Pairwise (· < ·)→(∀y,y∈a↔y∈b)→a=b
 | [],[],_,_,_=>rfl
 | [],y::b,_,_,h=>by have:=(h y).2 (by simp);simp at this
 |x::a,[],_,_,h=>by have:=(h x).1 (by simp);simp at this
 |x::a,y::b,h1,h2,h=>by
  rw [List.pairwise_cons]at h1 h2
  have e:x=y:=by
   have m1:=(h x).1 (by simp)
   have m2:=(h y).2 (by simp)
   simp only [List.mem_cons]at m1 m2
   rcases m1 with e|m1
   ·exact e
   ·rcases m2 with e|m2
    ·exact e.symm
    ·have:=h1.1 y m2;have:=h2.1 x m1;omega
  subst e
  rw [Qtx a b h1.2 h2.2 fun z=> ?_]
  have hz:=h z
  simp only [List.mem_cons]at hz
  constructor
  ·intro m
   rcases hz.1 (.inr m)with rfl|q
   ·have:=h1.1 z m;omega
   ·exact q
  ·intro m
   rcases hz.2 (.inr m)with rfl|q
   ·have:=h2.1 z m;omega
   ·exact q
def insL:List Int→List Int→List Int
 |acc,[]=>acc
 |acc,x::l=>insL (insU x acc) l
theorem Qwb: ∀(a b acc:List Int),insL acc (a++b)=insL (insL acc a) b
 | [],_,_=>rfl
 |x::a,b,acc=>Qwb a b (insU x acc)
theorem Qwc: ∀(l acc:List Int) (y:Int),y∈insL acc l↔y∈acc∨y∈l
 | [],acc,y=>by simp [insL]
 |x::l,acc,y=>by
  simp only [insL,Qwc l,Q9a,List.mem_cons]
  constructor
  ·rintro((h|h)|h)<;>simp [h]
  ·rintro(h|h|h)<;>simp [h]
theorem Qhx: ∀(l acc:List Int),acc.Pairwise (· < ·)→(insL acc l).Pairwise (· < ·)
 | [],_,h=>h
 |x::l,acc,h=>Qhx l _ (Ql8 x acc h)
theorem Zg3 (xs:List Int):insL [] xs=dd (Qbr xs):=by
 obtain⟨h1,h2⟩:=Qg5 xs
 refine Qtx _ _ (Qhx xs [] List.Pairwise.nil) (Qia _ h1) fun y=> ?_
 rw [Qwc,Qv4,h2];simp
theorem Qwd: ∀(l acc:List Int),(insL acc l).length≤acc.length+l.length
 | [],acc=>by simp [insL]
 |x::l,acc=>by
  have h1:=Qwd l (insU x acc)
  have h2:=Qwa x acc
  simp only [insL,List.length_cons];omega
def Qc5 (k:Nat) (w:Wd):List Int:=match k with
 |0=>[w.lx,w.hx+1]
 |1=>[w.ly,w.hy+1]
 |2=>[w.lz,w.hz+1]
 |_=>[w.f,w.t]
def allE (k:Nat) (l:List Wd):List Int:=l.flatMap (Qc5 k)
def numE (k:Nat) (l:List Wd):List Int:=dd (Qbr (allE k l))
theorem Qrm (k:Nat) (l:List Wd) (w:Wd):allE k (l++[w])=allE k l++Qc5 k w:=by simp [allE,List.flatMap_append]
theorem Zpi (k:Nat) (w:Wd):(Qc5 k w).length=2:=by unfold Qc5;split<;>rfl
theorem Qe1 (k:Nat): ∀l:List Wd,(allE k l).length=2*l.length
 | []=>rfl
 |w::l=>by
  have:=Qe1 k l
  simp only [allE,List.flatMap_cons,List.length_append,Zpi,List.length_cons]at this ⊢
  omega
def sqL (l:List Wd) (q:Int×Int×Int×Int):Int:=atW Wd.ux l q.1 q.2.1 q.2.2.1 q.2.2.2*atW Wd.ux l q.1 q.2.1 q.2.2.1 q.2.2.2+atW Wd.uy l q.1 q.2.1 q.2.2.1 q.2.2.2*atW Wd.uy l q.1 q.2.1 q.2.2.1 q.2.2.2+atW Wd.uz l q.1 q.2.1 q.2.2.1 q.2.2.2*atW Wd.uz l q.1 q.2.1 q.2.2.1 q.2.2.2
def Qdc (l:List Wd):Int→List (Int×Int×Int×Int)→Int
 |m,[]=>m
 |m,q::qs=>Qdc l (max m (sqL l q)) qs
theorem Ql9 (l:List Wd): ∀(a b:List (Int×Int×Int×Int)) (m:Int),Qdc l m (a++b)=Qdc l (Qdc l m a) b
 | [],_,_=>rfl
 |q::a,b,m=>Ql9 l a b _
def c3 (x y z:Int) (T:List Int):List (Int×Int×Int×Int):=T.map fun t=>(x,y,z,t)
def c2 (x y:Int) (Z T:List Int):List (Int×Int×Int×Int):=Z.flatMap fun z=>c3 x y z T
def c1 (x:Int) (Y Z T:List Int):List (Int×Int×Int×Int):=Y.flatMap fun y=>c2 x y Z T
def c0 (X Y Z T:List Int):List (Int×Int×Int×Int):=X.flatMap fun x=>c1 x Y Z T
def Qid (l:List Wd):List (Int×Int×Int×Int):=c0 (numE 0 l) (numE 1 l) (numE 2 l) (numE 3 l)
def Qek (l:List Wd):Int:=Qdc l 0 (Qid l)
theorem Qga {x:Int} (h: -40000≤x∧x≤40000):0≤x*x∧x*x≤1600000000:=by
 have h1:=Int.mul_le_mul (a:=(x.natAbs:Int)) (b:=(x.natAbs:Int)) (c:=40000) (d:=40000) (by omega) (by omega) (by omega) (by omega)
 have h2:(x.natAbs:Int)*(x.natAbs:Int)=x*x:=Int.natAbs_mul_self' x
 rw [h2]at h1
 have h3:0≤x*x:=by rw [←h2];exact Int.mul_nonneg (by omega) (by omega)
 omega
theorem Zmd {l:List Wd} (hv:Qau l=true) (q:Int×Int×Int×Int):0≤sqL l q∧sqL l q≤4800000000:=by
 have a:=Qga (Qf9 (g:=Wd.ux) (.inl rfl) hv q.1 q.2.1 q.2.2.1 q.2.2.2)
 have b:=Qga (Qf9 (g:=Wd.uy) (.inr (.inl rfl)) hv q.1 q.2.1 q.2.2.1 q.2.2.2)
 have c:=Qga (Qf9 (g:=Wd.uz) (.inr (.inr rfl)) hv q.1 q.2.1 q.2.2.1 q.2.2.2)
 unfold sqL;omega
theorem Qwe {l:List Wd} (hv:Qau l=true): ∀(qs:List (Int×Int×Int×Int)) (m:Int),0≤m∧m≤4800000000→0≤Qdc l m qs∧Qdc l m qs≤4800000000
 | [],_,h=>h
 |q::qs,m,h=>Qwe hv qs _ (by have:=Zmd hv q;omega)
theorem Qpd (l:List Wd): ∀(qs:List (Int×Int×Int×Int)) (m:Int),m≤Qdc l m qs
 | [],m=>Int.le_refl m
 |q::qs,m=>Int.le_trans (by omega) (Qpd l qs (max m (sqL l q)))
theorem Qrn (l:List Wd): ∀(qs:List (Int×Int×Int×Int)) (m:Int) (q),q∈qs→sqL l q≤Qdc l m qs
 |p::qs,m,q,h=>by
  simp only [List.mem_cons]at h
  rcases h with rfl|h
  ·exact Int.le_trans (by omega) (Qpd l qs (max m (sqL l q)))
  ·exact Qrn l qs _ q h
end Go.Dg

namespace Go.Proofs.YtciddhkfbgkejaaGreatDoor
open Go.Vl Go.RowKit Go.Dg
def oP (q:Int×Int×Int×Int):List PV:=[.agg [.int .i64 q.1,.int .i64 q.2.1,.int .i64 q.2.2.1],.int .i64 q.2.2.2]
theorem Qt8 {α β:Type} (f:α→List β) (L:List α) (i:Nat) (h:i<L.length):(L.take (i+1)).flatMap f=(L.take i).flatMap f++f L[i]:=by rw [Qa1 L i h,List.flatMap_append];simp
theorem Qpm {α β:Type} (f:α→List β) (L:List α) (i:Nat) (h:i<L.length):L.flatMap f=(L.take i).flatMap f++(f L[i]++(L.drop (i+1)).flatMap f):=by
 conv=>lhs;rw [←List.take_append_drop i L,List.flatMap_append,List.drop_eq_getElem_cons h,List.flatMap_cons]
theorem Zhm {α β:Type} {A B tot:List α} {a:α} (h:tot=A++a::B) (f:α→β):(tot.map f)[(A.map f).length]? =some (f a)∧(tot.map f).take ((A.map f).length+1)=A.map f++[f a]:=by
 subst h
 constructor
 ·rw [List.map_append,List.getElem?_append_right (Nat.le_refl _),Nat.sub_self];rfl
 ·rw [List.map_append,List.map_cons]
  have:=List.take_append_of_le_length (l₁:=A.map f++[f a]) (l₂:=B.map f) (i:=(A.map f).length+1) (by simp)
  rw [List.append_assoc,List.singleton_append]at this
  rw [this,List.take_of_length_le (by simp)]
theorem Qwr (L:List Int) (i:Nat) (h:i<L.length):(L.map (PV.int .i64))[i]? =some (.int .i64 L[i]):=by rw [List.getElem?_map,List.getElem?_eq_getElem h];rfl
set_option maxHeartbeats 8000000 in
theorem Q9r (X Y Z T:List Int) (hX:X.length≤100000) (hY:Y.length≤100000) (hZ:Z.length≤100000) (hT:T.length≤100000):
  Qth Tryz.prog 99 [.rp [.slc (X.map (PV.int .i64)),.slc (Y.map (PV.int .i64)),.slc (Z.map (PV.int .i64)),.slc (T.map (PV.int .i64))]] ((c0 X Y Z T).map oP):=by
 refine Q8o (tb:=[]) 51 [0,1,4,6,8,10,12,13,14,15,19,20,21,22,26,27,28,29,33,34,35,36,46] mixed Tryz.func99 rfl (by kernel_rfl) (by kernel_rfl) (by kernel_rfl) (by kernel_rfl) fun l stop=> ?_
 repeat (first|(simp -implicitDefEqProofs only [go_sem,Nat.reduceAdd,Nat.reduceMul,Nat.reduceEqDiff,Nat.reduceLT,Nat.reduceLeDiff,reduceCtorEq,Int.reduceLT,List.length_map]))
 generalize htot:c0 X Y Z T=tot at*
 refine Qar mixed (fun i:{i:Nat // i≤X.length∧(c0 (X.take i) Y Z T).length≤stop}=>St.ofG [(0,.yld l stop),(1,.rp [.slc (X.map (PV.int .i64)),.slc (Y.map (PV.int .i64)),.slc (Z.map (PV.int .i64)),.slc (T.map (PV.int .i64))]),(12,.slc (X.map (PV.int .i64))),(13,.int .i64 (X.length:Int)),(14,.int .i64 (i.1:Int))] [] ((c0 (X.take i.1) Y Z T).map oP) (some (l,stop,tot.map oP))) (fun i=>X.length-i.1) ⟨0,Nat.zero_le _,Nat.zero_le _⟩ ?_ ?_
 ·refine Qay ?_
  simp [Qad,lkp,ren1,ren0,Qal]
 rintro⟨i,hi,hst⟩
 simp only
 by_cases hA:i<X.length
 case neg=>
  have hA':=ltF hA
  have e:X.take i=X:=List.take_of_length_le (by omega)
  rw [e,htot]at hst ⊢
  have ht:(tot.map oP).take (stop+1)=tot.map oP:=List.take_of_length_le (by rw [List.length_map];omega)
  generalize tot.map oP=OO at*
  repeat (first|(simp -implicitDefEqProofs only [go_sem,Nat.reduceAdd,Nat.reduceMul,Nat.reduceEqDiff,Nat.reduceLT,Nat.reduceLeDiff,reduceCtorEq,hA',Qhm,ht]))
 have hA':=ltT hA
 have n0:=nnT i
 have hg:=Qwr X i hA
 have hwk:=Qai (a:=i) (by omega)
 have hP:c0 (X.take (i+1)) Y Z T=c0 (X.take i) Y Z T++c1 X[i] Y Z T:=Qt8 _ X i hA
 have hR: ∃R,tot=c0 (X.take i) Y Z T++(c1 X[i] Y Z T++R):=⟨_,by rw [←htot];exact Qpm (fun x=>c1 x Y Z T) X i hA⟩
 clear htot
 generalize hPN:c0 (X.take (i+1)) Y Z T=PN at*
 generalize c0 (X.take i) Y Z T=P at*
 generalize X[i]=x at*
 repeat (first|(simp -implicitDefEqProofs only [go_sem,Nat.reduceAdd,Nat.reduceMul,Nat.reduceEqDiff,Nat.reduceLT,Nat.reduceLeDiff,reduceCtorEq,Int.reduceLE,Int.reduceLT,Int.reduceToNat,hA',n0,hg,Int.toNat_natCast,List.length_map]))
 refine Qar mixed (fun j:{j:Nat // j≤Y.length∧(P++c1 x (Y.take j) Z T).length≤stop}=>St.ofG [(0,.yld l stop),(1,.rp [.slc (X.map (PV.int .i64)),.slc (Y.map (PV.int .i64)),.slc (Z.map (PV.int .i64)),.slc (T.map (PV.int .i64))]),(12,.slc (X.map (PV.int .i64))),(13,.int .i64 (X.length:Int)),(14,.int .i64 (i:Int)),(4,.int .i64 x),(19,.slc (Y.map (PV.int .i64))),(20,.int .i64 (Y.length:Int)),(21,.int .i64 (j.1:Int))] [] ((P++c1 x (Y.take j.1) Z T).map oP) (some (l,stop,tot.map oP))) (fun j=>Y.length-j.1) ⟨0,Nat.zero_le _,by simp only [List.take_zero,c1,List.flatMap_nil,List.append_nil];exact hst⟩ ?_ ?_
 ·simp only [List.take_zero,c1,List.flatMap_nil,List.append_nil]
  refine Qay ?_
  simp [Qad,lkp,ren1,ren0,Qal]
 rintro⟨j,hj,hst1⟩
 simp only
 by_cases hB:j<Y.length
 case neg=>
  have hB':=ltF hB
  have e:Y.take j=Y:=List.take_of_length_le (by omega)
  rw [e,←hP]at hst1 ⊢
  repeat (first|(simp -implicitDefEqProofs only [go_sem,Nat.reduceAdd,Nat.reduceMul,Nat.reduceEqDiff,Nat.reduceLT,Nat.reduceLeDiff,reduceCtorEq,hB',hwk]))
  refine⟨⟨i+1,hA,by rw [hPN];exact hst1⟩,by simp only;omega,?_⟩
  simp only [hPN]
  refine Qay ?_
  simp [Qad,lkp,ren1,ren0,Qal]
 have hB':=ltT hB
 have n1:=nnT j
 have hg1:=Qwr Y j hB
 have hwk1:=Qai (a:=j) (by omega)
 have hP1:P++c1 x (Y.take (j+1)) Z T=(P++c1 x (Y.take j) Z T)++c2 x Y[j] Z T:=by rw [List.append_assoc];exact congrArg _ (Qt8 _ Y j hB)
 have hR1: ∃R,tot=(P++c1 x (Y.take j) Z T)++(c2 x Y[j] Z T++R):=by
  obtain⟨R,hR⟩:=hR
  refine⟨(Y.drop (j+1)).flatMap (fun y=>c2 x y Z T)++R,?_⟩
  have hs:c1 x Y Z T=c1 x (Y.take j) Z T++(c2 x Y[j] Z T++(Y.drop (j+1)).flatMap (fun y=>c2 x y Z T)):=Qpm (fun y=>c2 x y Z T) Y j hB
  rw [hR,hs];simp only [List.append_assoc]
 clear hst hR
 generalize hPN1:P++c1 x (Y.take (j+1)) Z T=PN1 at*
 generalize hQ1:P++c1 x (Y.take j) Z T=Q1 at*
 generalize Y[j]=y at*
 repeat (first|(simp -implicitDefEqProofs only [go_sem,Nat.reduceAdd,Nat.reduceMul,Nat.reduceEqDiff,Nat.reduceLT,Nat.reduceLeDiff,reduceCtorEq,Int.reduceLE,Int.reduceLT,Int.reduceToNat,hB',n1,hg1,Int.toNat_natCast,List.length_map]))
 refine Qar mixed (fun k:{k:Nat // k≤Z.length∧(Q1++c2 x y (Z.take k) T).length≤stop}=>St.ofG [(0,.yld l stop),(1,.rp [.slc (X.map (PV.int .i64)),.slc (Y.map (PV.int .i64)),.slc (Z.map (PV.int .i64)),.slc (T.map (PV.int .i64))]),(12,.slc (X.map (PV.int .i64))),(13,.int .i64 (X.length:Int)),(14,.int .i64 (i:Int)),(4,.int .i64 x),(19,.slc (Y.map (PV.int .i64))),(20,.int .i64 (Y.length:Int)),(21,.int .i64 (j:Int)),(6,.int .i64 y),(26,.slc (Z.map (PV.int .i64))),(27,.int .i64 (Z.length:Int)),(28,.int .i64 (k.1:Int))] [] ((Q1++c2 x y (Z.take k.1) T).map oP) (some (l,stop,tot.map oP))) (fun k=>Z.length-k.1) ⟨0,Nat.zero_le _,by simp only [List.take_zero,c2,List.flatMap_nil,List.append_nil];exact hst1⟩ ?_ ?_
 ·simp only [List.take_zero,c2,List.flatMap_nil,List.append_nil]
  refine Qay ?_
  simp [Qad,lkp,ren1,ren0,Qal]
 rintro⟨k,hk,hst2⟩
 simp only
 by_cases hC:k<Z.length
 case neg=>
  have hC':=ltF hC
  have e:Z.take k=Z:=List.take_of_length_le (by omega)
  rw [e,←hP1]at hst2 ⊢
  repeat (first|(simp -implicitDefEqProofs only [go_sem,Nat.reduceAdd,Nat.reduceMul,Nat.reduceEqDiff,Nat.reduceLT,Nat.reduceLeDiff,reduceCtorEq,hC',hwk1]))
  refine⟨⟨j+1,hB,by rw [hPN1];exact hst2⟩,by simp only;omega,?_⟩
  simp only [hPN1]
  refine Qay ?_
  simp [Qad,lkp,ren1,ren0,Qal]
 have hC':=ltT hC
 have n2:=nnT k
 have hg2:=Qwr Z k hC
 have hwk2:=Qai (a:=k) (by omega)
 have hP2:Q1++c2 x y (Z.take (k+1)) T=(Q1++c2 x y (Z.take k) T)++c3 x y Z[k] T:=by rw [List.append_assoc];exact congrArg _ (Qt8 _ Z k hC)
 have hR2: ∃R,tot=(Q1++c2 x y (Z.take k) T)++(c3 x y Z[k] T++R):=by
  obtain⟨R,hR⟩:=hR1
  refine⟨(Z.drop (k+1)).flatMap (fun z=>c3 x y z T)++R,?_⟩
  have hs:c2 x y Z T=c2 x y (Z.take k) T++(c3 x y Z[k] T++(Z.drop (k+1)).flatMap (fun z=>c3 x y z T)):=Qpm (fun z=>c3 x y z T) Z k hC
  rw [hR,hs];simp only [List.append_assoc]
 clear hst1 hR1
 generalize hPN2:Q1++c2 x y (Z.take (k+1)) T=PN2 at*
 generalize hQ2:Q1++c2 x y (Z.take k) T=Q2 at*
 generalize Z[k]=z at*
 repeat (first|(simp -implicitDefEqProofs only [go_sem,Nat.reduceAdd,Nat.reduceMul,Nat.reduceEqDiff,Nat.reduceLT,Nat.reduceLeDiff,reduceCtorEq,Int.reduceLE,Int.reduceLT,Int.reduceToNat,hC',n2,hg2,Int.toNat_natCast,List.length_map]))
 refine Qar mixed (fun q:{q:Nat // q≤T.length∧(Q2++c3 x y z (T.take q)).length≤stop}=>St.ofG [(0,.yld l stop),(1,.rp [.slc (X.map (PV.int .i64)),.slc (Y.map (PV.int .i64)),.slc (Z.map (PV.int .i64)),.slc (T.map (PV.int .i64))]),(12,.slc (X.map (PV.int .i64))),(13,.int .i64 (X.length:Int)),(14,.int .i64 (i:Int)),(4,.int .i64 x),(19,.slc (Y.map (PV.int .i64))),(20,.int .i64 (Y.length:Int)),(21,.int .i64 (j:Int)),(6,.int .i64 y),(26,.slc (Z.map (PV.int .i64))),(27,.int .i64 (Z.length:Int)),(28,.int .i64 (k:Int)),(8,.int .i64 z),(33,.slc (T.map (PV.int .i64))),(34,.int .i64 (T.length:Int)),(35,.int .i64 (q.1:Int))] [] ((Q2++c3 x y z (T.take q.1)).map oP) (some (l,stop,tot.map oP))) (fun q=>T.length-q.1) ⟨0,Nat.zero_le _,by simp only [List.take_zero,c3,List.map_nil,List.append_nil];exact hst2⟩ ?_ ?_
 ·simp only [List.take_zero,c3,List.map_nil,List.append_nil]
  refine Qay ?_
  simp [Qad,lkp,ren1,ren0,Qal]
 rintro⟨q,hq,hst3⟩
 simp only
 by_cases hD:q<T.length
 case neg=>
  have hD':=ltF hD
  have e:T.take q=T:=List.take_of_length_le (by omega)
  rw [e,←hP2]at hst3 ⊢
  repeat (first|(simp -implicitDefEqProofs only [go_sem,Nat.reduceAdd,Nat.reduceMul,Nat.reduceEqDiff,Nat.reduceLT,Nat.reduceLeDiff,reduceCtorEq,hD',hwk2]))
  refine⟨⟨k+1,hC,by rw [hPN2];exact hst3⟩,by simp only;omega,?_⟩
  simp only [hPN2]
  refine Qay ?_
  simp [Qad,lkp,ren1,ren0,Qal]
 have hD':=ltT hD
 have n3:=nnT q
 have hg3:=Qwr T q hD
 have hwk3:=Qai (a:=q) (by omega)
 have hsn:Q2++c3 x y z (T.take (q+1))=(Q2++c3 x y z (T.take q))++[(x,y,z,T[q])]:=by
  rw [List.append_assoc];unfold c3;rw [Qa1 T q hD,List.map_append];rfl
 have hsp: ∃R,tot=(Q2++c3 x y z (T.take q))++(x,y,z,T[q])::R:=by
  obtain⟨R,hR⟩:=hR2
  refine⟨c3 x y z (T.drop (q+1))++R,?_⟩
  have hs:c3 x y z T=c3 x y z (T.take q)++(x,y,z,T[q])::c3 x y z (T.drop (q+1)):=by
   unfold c3
   conv=>lhs;rw [←List.take_append_drop q T,List.map_append,List.drop_eq_getElem_cons hD,List.map_cons]
  rw [hR,hs];simp only [List.append_assoc,List.cons_append]
 obtain⟨R,hsp⟩:=hsp
 obtain⟨hgt,htk⟩:=Zhm hsp oP
 have hL:((Q2++c3 x y z (T.take q)).map oP).length=(Q2++c3 x y z (T.take q)).length:=List.length_map _
 have hS:(Q2++c3 x y z (T.take (q+1))).length=(Q2++c3 x y z (T.take q)).length+1:=by rw [hsn,List.length_append];rfl
 have hsm:(Q2++c3 x y z (T.take (q+1))).map oP=(Q2++c3 x y z (T.take q)).map oP++[[.agg [.int .i64 x,.int .i64 y,.int .i64 z],.int .i64 T[q]]]:=by rw [hsn,List.map_append];rfl
 have eo:oP (x,y,z,T[q])=[.agg [.int .i64 x,.int .i64 y,.int .i64 z],.int .i64 T[q]]:=rfl
 rw [eo]at hgt htk
 clear hsp eo hsn hR2 hst2
 generalize hMN:(Q2++c3 x y z (T.take (q+1))).map oP=MN at*
 generalize (Q2++c3 x y z (T.take q)).map oP=M at*
 generalize T[q]=t at*
 generalize tot.map oP=OO at*
 have hst':(M.length≤stop)=True:=eq_true (by omega)
 by_cases hlt:M.length<stop
 case neg=>
  have hlt':(M.length<stop)=False:=eq_false hlt
  have e:M.length=stop:=by omega
  rw [e]at htk
  repeat (first|(simp -implicitDefEqProofs only [go_sem,Nat.reduceAdd,Nat.reduceMul,Nat.reduceEqDiff,Nat.reduceLT,Nat.reduceLeDiff,reduceCtorEq,hD',n3,hg3,hgt,hst',hlt',Qhm,htk,Int.toNat_natCast]))
 have hlt':(M.length<stop)=True:=eq_true hlt
 repeat (first|(simp -implicitDefEqProofs only [go_sem,Nat.reduceAdd,Nat.reduceMul,Nat.reduceEqDiff,Nat.reduceLT,Nat.reduceLeDiff,reduceCtorEq,hD',n3,hg3,hgt,hst',hlt',hwk3,Int.toNat_natCast]))
 refine⟨⟨q+1,hD,by rw [hS];omega⟩,by simp only;omega,?_⟩
 simp only [hMN,hsm]
 refine Qay ?_
 simp [Qad,lkp,ren1,ren0,Qal]
end Go.Proofs.YtciddhkfbgkejaaGreatDoor

namespace Go.Proofs.YtciddhkfbgkejaaGreatDoor
open Go.Vl Go.RowKit Go.Dg
end Go.Proofs.YtciddhkfbgkejaaGreatDoor

namespace Go.Proofs.YtciddhkfbgkejaaGreatDoor
open Go.Vl Go.RowKit Go.Dg
theorem Qgm {x y:Int} (hx:x.natAbs<2^65536) (hy:y.natAbs<2^65536) (h:(x+y).natAbs<2^65536):Qag Tryz.prog 68 [wPV x,wPV y] (wPV (x+y)):=by
 have h1:=Zm5 hx hy
 rw [Qpt h]at h1
 generalize x+y=S at*
 refine Qac (tb:=[]) 14 [.cell 4 71] [0,1,2,3,4,5] mixed Tryz.func68 rfl (by kernel_rfl) (by kernel_rfl) (by kernel_rfl) (by kernel_rfl) ?_
 repeat (first|(simp -implicitDefEqProofs only [go_sem,Nat.reduceAdd,Nat.reduceMul,Nat.reduceEqDiff,Nat.reduceLT,Nat.reduceLeDiff,reduceCtorEq,wPV])|((with_reducible refine Qab (h1) ?_ ?_ ?_);(with_reducible rfl);rfl))
theorem Qho {x y:Int} (hx:x.natAbs<2^65536) (hy:y.natAbs<2^65536) (h:(x*y).natAbs<2^65536):Qag Tryz.prog 155 [wPV x,wPV y] (wPV (x*y)):=by
 have h1:=Zm4 hx hy
 rw [Qpt h]at h1
 generalize x*y=S at*
 refine Qac (tb:=[]) 14 [.cell 4 71] [0,1,2,3,4,5] mixed Tryz.func155 rfl (by kernel_rfl) (by kernel_rfl) (by kernel_rfl) (by kernel_rfl) ?_
 repeat (first|(simp -implicitDefEqProofs only [go_sem,Nat.reduceAdd,Nat.reduceMul,Nat.reduceEqDiff,Nat.reduceLT,Nat.reduceLeDiff,reduceCtorEq,wPV])|((with_reducible refine Qab (h1) ?_ ?_ ?_);(with_reducible rfl);rfl))
theorem Zho {a b K:Nat} (ha:a<K) (hb:b<K):Nat.gcd a b<K:=by
 rcases Nat.eq_zero_or_pos a with h|h
 ·subst h;rw [Nat.gcd_zero_left];exact hb
 ·exact Nat.lt_of_le_of_lt (Nat.le_of_dvd h (Nat.gcd_dvd_left _ _)) ha
theorem Qrw {x y:Int} (hx:x.natAbs<2^65536) (hy:y.natAbs<2^65536):Qag Tryz.prog 118 [wPV x,wPV y] (wPV ((Nat.gcd x.natAbs y.natAbs:Nat):Int)):=by
 have h1:=Zm6 hx hy
 rw [Qpt (by rw [Int.natAbs_natCast];exact Zho hx hy)]at h1
 generalize ((Nat.gcd x.natAbs y.natAbs:Nat):Int)=S at*
 refine Qac (tb:=[]) 14 [.cell 4 71] [0,1,2,3,4,5] mixed Tryz.func118 rfl (by kernel_rfl) (by kernel_rfl) (by kernel_rfl) (by kernel_rfl) ?_
 repeat (first|(simp -implicitDefEqProofs only [go_sem,Nat.reduceAdd,Nat.reduceMul,Nat.reduceEqDiff,Nat.reduceLT,Nat.reduceLeDiff,reduceCtorEq,wPV])|((with_reducible refine Qab (h1) ?_ ?_ ?_);(with_reducible rfl);rfl))
theorem Q2h {n:Int} (h:n.natAbs<2^65536):outN n=n:=by rw [outN,if_neg (Nat.not_lt.2 (Qdx 65536 _ h))]
theorem Qwt {x y:Int} {B:Nat} (hx:x.natAbs<2^B) (hy:0<y):(x/y).natAbs<2^B∨(x/y).natAbs≤2^B:=by
 right
 obtain⟨m,rfl⟩: ∃m:Nat,y=(m+1:Nat):=⟨y.toNat-1,by omega⟩
 have:=Int.natAbs_ediv_le_natAbs x ((m+1:Nat):Int)
 omega
theorem Qmg {x y:Int} {B:Nat} (hx:x.natAbs<2^B) (hB:B≤65000) (hy:y.natAbs<2^65000) (h0:0<y):Qag Tryz.prog 67 [wPV x,wPV y] (wPV (x/y)):=by
 have h1:=Zm7 (Qa5 hx (by omega)) (Qa5 hy (by omega)) (show y≠0 by omega)
 have hq:(x/y).natAbs<2^(B+1):=by
  rw [Nat.pow_succ]
  have h2:0<2^B:=Nat.two_pow_pos B
  rcases Qwt hx h0 with h|h<;>omega
 have hr:(x%y).natAbs<2^65000:=by
  have h2:=Int.emod_nonneg x (show y≠0 by omega)
  have h3:=Int.emod_lt_of_pos x h0
  generalize 2^65000=K at*
  omega
 unfold Zes at h1
 rw [Q2h (Qa5 hq (by omega)),Q2h (Qa5 hr (by omega))]at h1
 generalize x/y=S at*
 generalize x%y=R at*
 refine Qac (tb:=[]) 16 [.cell 4 71] [0,1,2,3,4,5] mixed Tryz.func67 rfl (by kernel_rfl) (by kernel_rfl) (by kernel_rfl) (by kernel_rfl) ?_
 repeat (first|(simp -implicitDefEqProofs only [go_sem,Nat.reduceAdd,Nat.reduceMul,Nat.reduceEqDiff,Nat.reduceLT,Nat.reduceLeDiff,reduceCtorEq,wPV])|((with_reducible refine Qab (h1) ?_ ?_ ?_);(with_reducible rfl);rfl))
theorem Qrx {n:Int} {B:Nat} (h:n.natAbs<2^B) (k:Nat):(n^k).natAbs<2^(B*k+1):=Qg6 h k
theorem Qfu (n:Int) (k B:Nat) (hn: -9223372036854775808≤n) (hn2:n≤9223372036854775807) (hk:k≤100) (hB:B≤600) (hb:n.natAbs<2^B):Qag Tryz.prog 146 [.int .i64 n,.int .i64 (k:Int)] (wPV (n^k)):=by
 have h1:=Qiv 1 (by decide) (by decide)
 have h2:=Qiv n hn hn2
 refine Qac (tb:=[]) 16 [.cell 4 71] [0,1,4,5,7,8,9] mixed Tryz.func146 rfl (by kernel_rfl) (by kernel_rfl) (by kernel_rfl) (by kernel_rfl) ?_
 repeat (first|(simp -implicitDefEqProofs only [go_sem,Nat.reduceAdd,Nat.reduceMul,Nat.reduceEqDiff,Nat.reduceLT,Nat.reduceLeDiff,reduceCtorEq,Int.reduceLT,wPV])|((with_reducible refine Qab (h1) ?_ ?_ ?_);(with_reducible rfl);rfl)|(with_reducible exact Qaa _ _ (by kernel_rfl))|(with_reducible refine And.intro (Qaa _ _ (by kernel_rfl)) ?_))
 refine Qar mixed (fun i:{i:Nat // i≤k}=>St.of [(0,.int .i64 n),(4,.bp 0 2 0 0),(5,.bp 101 2 0 0),(7,.int .i64 (k:Int)),(8,.int .i64 (i.1:Int))]
  [(0,{els:=[.agg [.bool false,.str ⟨#[]⟩]],esz:=2,ety:=71,fro:=0,live:=true,arr:=false}),(101,{els:=[wPV (n^i.1)],esz:=2,ety:=71,fro:=0,live:=true,arr:=false})]) (fun i=>k-i.1) ⟨0,Nat.zero_le _⟩ ?_ ?_
 ·refine Qaj (θ:=[(0,0),(101,101)]) rfl ?_ ?_
  ·simp [Qad,lkp,ren1,ren0,Qal]
  ·refine⟨⟨rfl,rfl,rfl,rfl,rfl,.inr ⟨rfl,_,_,rfl,rfl,rfl,rfl⟩⟩,⟨rfl,rfl,rfl,rfl,rfl,.inr ⟨rfl,_,_,rfl,rfl,?_,rfl⟩⟩,trivial⟩
   simp only [Int.pow_zero];rfl
 ·rintro⟨i,hi⟩
  by_cases hA:i<k
  ·have hA':=ltT hA
   have hwk:=Qai (a:=i) (by omega)
   have hp:=Qrx hb i
   have hp1:=Qrx hb (i+1)
   have hBk:B*(i+1)≤600*100:=Nat.mul_le_mul hB (by omega)
   have hBi:B*i≤B*(i+1):=Nat.mul_le_mul_left _ (by omega)
   have e:n^(i+1)=n^i*n:=Int.pow_succ n i
   rw [e]at hp1
   have hm:=Qho (Qa5 hp (by omega)) (Qa5 hb (by omega)) (Qa5 hp1 (by omega))
   rw [←e]at hm
   generalize hX:n^(i+1)=Y at*
   generalize n^i=Z at*
   repeat (first|(simp -implicitDefEqProofs only [go_sem,Nat.reduceAdd,Nat.reduceMul,Nat.reduceEqDiff,Nat.reduceLT,Nat.reduceLeDiff,reduceCtorEq,wPV,hA',hwk])|((with_reducible refine Qab (h2) ?_ ?_ ?_);(with_reducible rfl);rfl)|((with_reducible refine Qab (hm) ?_ ?_ ?_);(with_reducible rfl);rfl)|(with_reducible exact Qaa _ _ (by kernel_rfl))|(with_reducible refine And.intro (Qaa _ _ (by kernel_rfl)) ?_))
   refine⟨⟨i+1,hA⟩,by simp only;omega,Qaj (θ:=[(0,0),(101,101)]) rfl ?_ ?_⟩
   ·simp [Qad,lkp,ren1,ren0,Qal]
   ·simp only [hX]
    exact⟨⟨rfl,rfl,rfl,rfl,rfl,.inr ⟨rfl,_,_,rfl,rfl,rfl,rfl⟩⟩,⟨rfl,rfl,rfl,rfl,rfl,.inr ⟨rfl,_,_,rfl,rfl,rfl,rfl⟩⟩,trivial⟩
  ·have hA':=ltF hA
   obtain rfl:i=k:=by omega
   generalize n^i=Z at*
   repeat (first|(simp -implicitDefEqProofs only [go_sem,Nat.reduceAdd,Nat.reduceMul,Nat.reduceEqDiff,Nat.reduceLT,Nat.reduceLeDiff,reduceCtorEq,wPV,hA'])|(with_reducible exact Qaa _ _ (by kernel_rfl))|(with_reducible refine And.intro (Qaa _ _ (by kernel_rfl)) ?_))
end Go.Proofs.YtciddhkfbgkejaaGreatDoor

namespace Go.Proofs.YtciddhkfbgkejaaGreatDoor
open Go.Vl Go.RowKit Go.Dg
def Qry:List PV:=(List.range 36).map fun i=> .int .i64 (bin (i/6) (i%6):Int)
theorem Q2i:Qag Tryz.prog 161 [] (.agg Qry):=Q8e mixed 200 5 (by kernel_rfl)
theorem Qrz (n k:Nat) (hn:n<6) (hk:k<6):Qry[n*6+k*1]? =some (.int .i64 (bin n k:Int)):=by
 unfold Qry
 rw [List.getElem?_map,List.getElem?_range (by omega)]
 have h1:(n*6+k*1)/6=n:=by omega
 have h2:(n*6+k*1)%6=k:=by omega
 show some (PV.int .i64 (bin ((n*6+k*1)/6) ((n*6+k*1)%6):Int))=_
 rw [h1,h2]
theorem Qyb:Qry.all Qu2=true:=by kernel_rfl
theorem Q9s:Qry.all PV.okCell=true:=by kernel_rfl
theorem Q2j:Qry.length=36:=by kernel_rfl
theorem Zpn:wPV 0= .agg [.bool false,.str ⟨#[]⟩]:=by unfold wPV;rw [(Qp6 0).2 rfl];rfl
theorem Q2k (c:List Int) (o:Int) (h1:1≤c.length) (h6:c.length≤6) (hc: ∀x∈c, -9223372036854775808≤x∧x≤9223372036854775807) (ho:1≤o) (ho2:o≤4294967296):
  Qag Tryz.prog 117 [Qat c,.int .i64 o] (.bool (Qc2 c o c.length)):=by
 have hch:=Q2i
 have w1:=Qiv 62914560 (by decide) (by decide)
 have w2:=Qiv o (by omega) (by omega)
 have p64:(2:Nat)^64=18446744073709551616:=rfl
 have b1:(62914560:Int).natAbs<2^64:=by decide
 have b2:o.natAbs<2^64:=by omega
 have b3:(62914560*o).natAbs<2^128:=Qr7 b1 b2
 have m1:=Qho (Qa5 b1 (by decide)) (Qa5 b2 (by decide)) (Qa5 b3 (by decide))
 have hcb:bd 64 c:=fun x hx=>by have:=hc x hx;omega
 have wl:=Qil (n:=c.length) (by omega) (by omega)
 generalize hM:62914560*o=M at*
 refine Qac (tb:=[]) 57 [.tmp 4] [0,1,4,5,6,7,8,9,10,20,21,22,25,26,27,55] mixed Tryz.func117 rfl (by kernel_rfl) (by kernel_rfl) (by kernel_rfl) (by kernel_rfl) ?_
 repeat (first|(simp -implicitDefEqProofs only [go_sem,Nat.reduceAdd,Nat.reduceMul,Nat.reduceEqDiff,Nat.reduceLT,Nat.reduceLeDiff,reduceCtorEq,Int.reduceLT,wPV,Qat,List.length_map,wl,Q2j,Qyb,Q9s])|((with_reducible refine Qab (hch) ?_ ?_ ?_);(with_reducible rfl);rfl)|((with_reducible refine Qab (w1) ?_ ?_ ?_);(with_reducible rfl);rfl)|((with_reducible refine Qab (w2) ?_ ?_ ?_);(with_reducible rfl);rfl)|((with_reducible refine Qab (m1) ?_ ?_ ?_);(with_reducible rfl);rfl)|(with_reducible exact Qaa _ _ (by kernel_rfl))|(with_reducible refine And.intro (Qaa _ _ (by kernel_rfl)) ?_))
 refine Qar mixed (fun j:{j:Nat // j≤c.length∧Qc2 c o j=true}=>St.of [(0,Qat c),(4,.bool false),(5,.bp 101 36 0 0),(6,.bp 204 2 0 0),(7,.int .i64 ((c.length-1:Nat):Int)),(20,.int .i64 (c.length:Int)),(21,.int .i64 (j.1:Int))]
  [(101,{els:=[.agg Qry],esz:=36,ety:=217,fro:=0,live:=true,arr:=false}),(204,{els:=[wPV M],esz:=2,ety:=71,fro:=0,live:=true,arr:=false})]) (fun j=>c.length-j.1) ⟨0,Nat.zero_le _,rfl⟩ ?_ ?_
 ·refine Qaj (θ:=[(101,101),(204,204)]) rfl ?_ ?_
  ·simp [Qad,lkp,ren1,ren0,Qal,Qat]
  ·exact⟨⟨rfl,rfl,rfl,rfl,rfl,.inr ⟨rfl,_,_,rfl,rfl,rfl,rfl⟩⟩,⟨rfl,rfl,rfl,rfl,rfl,.inr ⟨rfl,_,_,rfl,rfl,rfl,rfl⟩⟩,trivial⟩
 ·rintro⟨j,hj,hall⟩
  by_cases hA:j<c.length
  ·have hA':=ltT hA
   have hwk:=Qai (a:=j) (by omega)
   repeat (first|(simp -implicitDefEqProofs only [go_sem,Nat.reduceAdd,Nat.reduceMul,Nat.reduceEqDiff,Nat.reduceLT,Nat.reduceLeDiff,reduceCtorEq,hA',hwk])|(with_reducible exact Qaa _ _ (by kernel_rfl))|(with_reducible refine And.intro (Qaa _ _ (by kernel_rfl)) ?_))
   refine Qar mixed (fun k:{k:Nat // k≤j+1}=>St.of [(0,Qat c),(4,.bool false),(5,.bp 101 36 0 0),(6,.bp 204 2 0 0),(7,.int .i64 ((c.length-1:Nat):Int)),(20,.int .i64 (c.length:Int)),(21,.int .i64 (j:Int)),(8,.int .i64 (j:Int)),(9,.bp 700 2 0 0),(25,.int .i64 ((j+1:Nat):Int)),(26,.int .i64 (k.1:Int))]
    [(101,{els:=[.agg Qry],esz:=36,ety:=217,fro:=0,live:=true,arr:=false}),(204,{els:=[wPV M],esz:=2,ety:=71,fro:=0,live:=true,arr:=false}),(700,{els:=[wPV (sm (fun k=>c.getD k 0*(cw (c.length-1) j k:Int)) k.1)],esz:=2,ety:=71,fro:=0,live:=true,arr:=false})]) (fun k=>j+1-k.1) ⟨0,Nat.zero_le _⟩ ?_ ?_
   ·refine Qaj (θ:=[(101,101),(204,204),(700,700)]) rfl ?_ ?_
    ·simp [Qad,lkp,ren1,ren0,Qal,Qat]
    ·refine⟨⟨rfl,rfl,rfl,rfl,rfl,.inr ⟨rfl,_,_,rfl,rfl,rfl,rfl⟩⟩,⟨rfl,rfl,rfl,rfl,rfl,.inr ⟨rfl,_,_,rfl,rfl,rfl,rfl⟩⟩,⟨rfl,rfl,rfl,rfl,rfl,.inr ⟨rfl,_,_,rfl,rfl,?_,rfl⟩⟩,trivial⟩
     simp only [sm];rw [Zpn];rfl
   ·rintro⟨k,hk⟩
    by_cases hB:k<j+1
    ·have hB':=ltT hB
     have hkc:k<c.length:=by omega
     have h0:=nnT k
     have hg:=Qcn c k hkc
     have hwk2:=Qai (a:=k) (by omega)
     have g1:=Qrz (c.length-1) k (by omega) (by omega)
     have g2:=Qrz j k (by omega) (by omega)
     have hb0:((bin (c.length-1) k:Int)=0)=False:=eq_false (by have:=Qtq (n:=c.length-1) (k:=k) (by omega);omega)
     have t1:Int.tdiv 60 (bin (c.length-1) k:Int)=((60/bin (c.length-1) k:Nat):Int):=Qp2 60 _
     have d60:60/bin (c.length-1) k≤60:=Nat.div_le_self _ _
     have wk1:IntKind.i64.wrap ((60/bin (c.length-1) k:Nat):Int)=((60/bin (c.length-1) k:Nat):Int):=wrapn (by omega)
     have hcw:=Zgx (c.length-1) j k (by omega)
     have ecw:((60/bin (c.length-1) k:Nat):Int)*(bin j k:Int)=(cw (c.length-1) j k:Int):=by rw [cw,Int.natCast_mul]
     have wk2:IntKind.i64.wrap (cw (c.length-1) j k:Int)=(cw (c.length-1) j k:Int):=wrapn (by omega)
     obtain⟨k1,k2⟩:=hc _ (List.getElem_mem hkc)
     have o1:=Qiv c[k] k1 k2
     have o2:=Qiv (cw (c.length-1) j k:Int) (by omega) (by omega)
     have x1:(c[k]).natAbs<2^64:=hcb _ (List.getElem_mem hkc)
     have x2:(cw (c.length-1) j k:Int).natAbs<2^11:=by rw [Int.natAbs_natCast];omega
     have m2:=Qho (Qa5 x1 (by decide)) (Qa5 x2 (by decide)) (Qa5 (Qr7 x1 x2) (by decide))
     have y1:=Qg4 (n:=c.length-1) (j:=j) hcb (by omega) k (by omega)
     have y2:=Qg4 (n:=c.length-1) (j:=j) hcb (by omega) (k+1) (by omega)
     have es:sm (fun k=>c.getD k 0*(cw (c.length-1) j k:Int)) (k+1)=sm (fun k=>c.getD k 0*(cw (c.length-1) j k:Int)) k+c[k]*(cw (c.length-1) j k:Int):=by simp only [sm];rw [Qe6 hkc]
     rw [es]at y2
     have a1:=Qgm (Qa5 y1 (by decide)) (Qa5 (Qr7 x1 x2) (by decide)) (Qa5 y2 (by decide))
     rw [←es]at a1
     generalize hX:sm (fun k=>c.getD k 0*(cw (c.length-1) j k:Int)) (k+1)=X at*
     generalize sm (fun k=>c.getD k 0*(cw (c.length-1) j k:Int)) k=Y at*
     generalize c[k]*(cw (c.length-1) j k:Int)=Z at*
     generalize (cw (c.length-1) j k:Int)=V at*
     have l1:=ltT (show c.length-1<6 by omega)
     have l2:=ltT (show k<6 by omega)
     have l3:=ltT (show j<6 by omega)
     have n1:=nnT (c.length-1)
     have n2:=nnT j
     repeat (first|(simp -implicitDefEqProofs only [go_sem,Nat.reduceAdd,Nat.reduceMul,Nat.reduceEqDiff,Nat.reduceLT,Nat.reduceLeDiff,reduceCtorEq,Qat,wPV,hB',h0,l1,l2,l3,n1,n2,hg,hwk2,g1,g2,hb0,t1,wk1,ecw,wk2,Int.toNat_natCast,List.length_map])|((with_reducible refine Qab (o1) ?_ ?_ ?_);(with_reducible rfl);rfl)|((with_reducible refine Qab (o2) ?_ ?_ ?_);(with_reducible rfl);rfl)|((with_reducible refine Qab (m2) ?_ ?_ ?_);(with_reducible rfl);rfl)|((with_reducible refine Qab (a1) ?_ ?_ ?_);(with_reducible rfl);rfl)|(with_reducible exact Qaa _ _ (by kernel_rfl))|(with_reducible refine And.intro (Qaa _ _ (by kernel_rfl)) ?_))
     refine⟨⟨k+1,hB⟩,by simp only;omega,Qaj (θ:=[(101,101),(204,204),(700,700)]) rfl ?_ ?_⟩
     ·simp [Qad,lkp,ren1,ren0,Qal,Qat]
     ·simp only [hX]
      exact⟨⟨rfl,rfl,rfl,rfl,rfl,.inr ⟨rfl,_,_,rfl,rfl,rfl,rfl⟩⟩,⟨rfl,rfl,rfl,rfl,rfl,.inr ⟨rfl,_,_,rfl,rfl,rfl,rfl⟩⟩,⟨rfl,rfl,rfl,rfl,rfl,.inr ⟨rfl,_,_,rfl,rfl,rfl,rfl⟩⟩,trivial⟩
    ·have hB':=ltF hB
     obtain rfl:k=j+1:=by omega
     have ec:sm (fun k=>c.getD k 0*(cw (c.length-1) j k:Int)) (j+1)=ctl c j:=rfl
     simp only [ec]
     have y3:=Qg4 (n:=c.length-1) (j:=j) hcb (by omega) (j+1) (by omega)
     rw [ec]at y3
     have y4:(((ctl c j).natAbs:Nat):Int).natAbs<2^(64+11+7):=by rw [Int.natAbs_natCast];exact y3
     have hcm:=Qyc (Qa5 y4 (by decide)) (Qa5 b3 (by decide))
     have ea:wPV (((ctl c j).natAbs:Nat):Int)= .agg [.bool false,.str ⟨(magL (ctl c j).natAbs).toArray⟩]:=by
      unfold wPV
      have:decide ((((ctl c j).natAbs:Nat):Int)<0)=false:=by simp
      rw [this,Int.natAbs_natCast]
     rw [ea]at hcm
     by_cases hle:((ctl c j).natAbs:Int)≤M
     ·have hs:((0:Int)<((((ctl c j).natAbs:Nat):Int)-M).sign)=False:=eq_false (by have:=Int.sign_nonpos_iff.2 (show(((ctl c j).natAbs:Nat):Int)-M≤0 by omega);omega)
      have hn:Qc2 c o (j+1)=true:=by rw [Qfd,hall,hM];simp [hle]
      generalize ctl c j=X at*
      repeat (first|(simp -implicitDefEqProofs only [go_sem,Nat.reduceAdd,Nat.reduceMul,Nat.reduceEqDiff,Nat.reduceLT,Nat.reduceLeDiff,reduceCtorEq,wPV,hB',hs,hwk])|((with_reducible refine Qab (hcm) ?_ ?_ ?_);(with_reducible rfl);rfl)|(with_reducible exact Qaa _ _ (by kernel_rfl))|(with_reducible refine And.intro (Qaa _ _ (by kernel_rfl)) ?_))
      refine⟨⟨j+1,hA,hn⟩,by simp only;omega,Qaj (θ:=[(101,101),(204,204)]) rfl ?_ ?_⟩
      ·simp [Qad,lkp,ren1,ren0,Qal,Qat]
      ·exact⟨⟨rfl,rfl,rfl,rfl,rfl,.inr ⟨rfl,_,_,rfl,rfl,rfl,rfl⟩⟩,⟨rfl,rfl,rfl,rfl,rfl,.inr ⟨rfl,_,_,rfl,rfl,rfl,rfl⟩⟩,trivial⟩
     ·have hs:((0:Int)<((((ctl c j).natAbs:Nat):Int)-M).sign)=True:=eq_true (Int.sign_pos_iff.2 (by omega))
      have hn:Qc2 c o c.length=false:=Qo8 (j:=j+1) (by rw [Qfd,hall,hM];simp;omega) hA
      generalize ctl c j=X at*
      repeat (first|(simp -implicitDefEqProofs only [go_sem,Nat.reduceAdd,Nat.reduceMul,Nat.reduceEqDiff,Nat.reduceLT,Nat.reduceLeDiff,reduceCtorEq,wPV,hB',hs,hn])|((with_reducible refine Qab (hcm) ?_ ?_ ?_);(with_reducible rfl);rfl)|(with_reducible exact Qaa _ _ (by kernel_rfl))|(with_reducible refine And.intro (Qaa _ _ (by kernel_rfl)) ?_))
  ·have hA':=ltF hA
   obtain rfl:j=c.length:=by omega
   repeat (first|(simp -implicitDefEqProofs only [go_sem,Nat.reduceAdd,Nat.reduceMul,Nat.reduceEqDiff,Nat.reduceLT,Nat.reduceLeDiff,reduceCtorEq,hA',hall])|(with_reducible exact Qaa _ _ (by kernel_rfl))|(with_reducible refine And.intro (Qaa _ _ (by kernel_rfl)) ?_))
end Go.Proofs.YtciddhkfbgkejaaGreatDoor

namespace Go.Proofs.YtciddhkfbgkejaaGreatDoor
open Go.Vl Go.RowKit Go.Dg
def i64 (x:Int):Prop:= -9223372036854775808≤x∧x≤9223372036854775807
def sgPV (s:Sg):PV:= .agg [.int .i64 s.f,.int .i64 s.t,.int .i64 s.o,Qat s.x,Qat s.y,Qat s.z]
attribute [go_sem] Qat sgPV
structure okSg (s:Sg):Prop where
 f:i64 s.f
 t:i64 s.t
 o:i64 s.o
 c: ∀c∈s.ax,∀x∈c,i64 x
 l: ∀c∈s.ax,c.length≤1000
theorem Qbc {x:Int} (h:i64 x):x.natAbs<2^64:=by unfold i64 at h;have p64:(2:Nat)^64=18446744073709551616:=rfl;omega
theorem Zf2 (s:Sg):Qag Tryz.prog 116 [sgPV s] (.agg [Qat s.x,Qat s.y,Qat s.z]):=by
 unfold sgPV
 refine Qac (tb:=[]) 10 [.cell 2 169] [0,1,2] mixed Tryz.func116 rfl (by kernel_rfl) (by kernel_rfl) (by kernel_rfl) (by kernel_rfl) ?_
 repeat (first|(simp -implicitDefEqProofs only [go_sem,Nat.reduceAdd,Nat.reduceMul,Nat.reduceEqDiff,Nat.reduceLT,Nat.reduceLeDiff,reduceCtorEq,Qat,List.map_cons,List.map_nil]))
theorem Q2l (s:Sg):Qag Tryz.prog 82 [sgPV s] (.slc [Qat s.x,Qat s.y,Qat s.z]):=by
 unfold sgPV
 refine Qac (tb:=[]) 10 [.tmp 2] [0,1,2] mixed Tryz.func82 rfl (by kernel_rfl) (by kernel_rfl) (by kernel_rfl) (by kernel_rfl) ?_
 repeat (first|(simp -implicitDefEqProofs only [go_sem,Nat.reduceAdd,Nat.reduceMul,Nat.reduceEqDiff,Nat.reduceLT,Nat.reduceLeDiff,reduceIte,reduceCtorEq,Qat,List.map_cons,List.map_nil]))
theorem Q2m (s:Sg) (i:Nat) (h:i<s.ax.length):([.slc (s.x.map (PV.int .i64)),.slc (s.y.map (PV.int .i64)),.slc (s.z.map (PV.int .i64))]:List PV)[i]? =some (.slc ((s.ax[i]).map (PV.int .i64))):=by
 show(s.ax.map Qat)[i]? =_
 rw [List.getElem?_map,List.getElem?_eq_getElem h];rfl
theorem Q2n (s:Sg) (i:Nat) (h:i<s.ax.length):([.slc (s.x.map (PV.int .i64)),.slc (s.y.map (PV.int .i64)),.slc (s.z.map (PV.int .i64))]:List PV)[i*1]? =some (.slc ((s.ax[i]).map (PV.int .i64))):=by rw [Nat.mul_one,Q2m s i h]
theorem Zmx (x y:Int):(mB x==mB y)=decide (x.natAbs=y.natAbs):=by
 rw [Zm8,Bool.eq_iff_iff,beq_iff_eq,decide_eq_true_eq]
 constructor
 ·intro h
  rw [←Qpu x,←Qpu y,h]
 ·intro h;unfold mB;rw [h]
theorem Qmh (x y:Int):((decide (x<0)==decide (y<0))&&(mB x==mB y))=decide (x=y):=by
 rw [Zmx,Bool.eq_iff_iff,Bool.and_eq_true,beq_iff_eq,decide_eq_decide,decide_eq_true_eq,decide_eq_true_eq]
 omega
set_option maxHeartbeats 1000000 in
theorem Q9t (s:Sg) (hs:okSg s):Qag Tryz.prog 72 [sgPV s] (.bool (Qa4 s)):=by
 obtain⟨⟨a1,a2⟩,⟨a3,a4⟩,⟨a5,a6⟩,hc,hl⟩:=hs
 by_cases g1:s.f<0
 ·have g1':=eq_true g1
  have e:Qa4 s=false:=by unfold Qa4 rngS;rw [decide_eq_false (by omega)];rfl
  unfold sgPV
  refine Qac (tb:=[]) 85 [.tmp 2] [0,1,2,3,5,7,32,37,38,39,69,70,71,72,73] mixed Tryz.func72 rfl (by kernel_rfl) (by kernel_rfl) (by kernel_rfl) (by kernel_rfl) ?_
  repeat (first|(simp -implicitDefEqProofs only [go_sem,Nat.reduceAdd,Nat.reduceMul,Nat.reduceEqDiff,Nat.reduceLT,Nat.reduceLeDiff,reduceCtorEq,g1',e])|(with_reducible exact Qaa _ _ (by kernel_rfl))|(with_reducible refine And.intro (Qaa _ _ (by kernel_rfl)) ?_))
 have g1':=eq_false g1
 by_cases g2:s.t≤s.f
 ·have g2':=eq_true g2
  have e:Qa4 s=false:=by unfold Qa4 rngS;rw [decide_eq_true (show 0≤s.f by omega),decide_eq_false (show¬s.f<s.t by omega)];rfl
  unfold sgPV
  refine Qac (tb:=[]) 85 [.tmp 2] [0,1,2,3,5,7,32,37,38,39,69,70,71,72,73] mixed Tryz.func72 rfl (by kernel_rfl) (by kernel_rfl) (by kernel_rfl) (by kernel_rfl) ?_
  repeat (first|(simp -implicitDefEqProofs only [go_sem,Nat.reduceAdd,Nat.reduceMul,Nat.reduceEqDiff,Nat.reduceLT,Nat.reduceLeDiff,reduceCtorEq,g1',g2',e])|(with_reducible exact Qaa _ _ (by kernel_rfl))|(with_reducible refine And.intro (Qaa _ _ (by kernel_rfl)) ?_))
 have g2':=eq_false g2
 by_cases g3:3600000<s.t
 ·have g3':=eq_true g3
  have e:Qa4 s=false:=by unfold Qa4 rngS;rw [decide_eq_true (show 0≤s.f by omega),decide_eq_true (show s.f<s.t by omega),decide_eq_false (show¬s.t≤3600000 by omega)];rfl
  unfold sgPV
  refine Qac (tb:=[]) 85 [.tmp 2] [0,1,2,3,5,7,32,37,38,39,69,70,71,72,73] mixed Tryz.func72 rfl (by kernel_rfl) (by kernel_rfl) (by kernel_rfl) (by kernel_rfl) ?_
  repeat (first|(simp -implicitDefEqProofs only [go_sem,Nat.reduceAdd,Nat.reduceMul,Nat.reduceEqDiff,Nat.reduceLT,Nat.reduceLeDiff,reduceCtorEq,g1',g2',g3',e])|(with_reducible exact Qaa _ _ (by kernel_rfl))|(with_reducible refine And.intro (Qaa _ _ (by kernel_rfl)) ?_))
 have g3':=eq_false g3
 by_cases g4:s.o<1
 ·have g4':=eq_true g4
  have e:Qa4 s=false:=by unfold Qa4 rngS;rw [decide_eq_true (show 0≤s.f by omega),decide_eq_true (show s.f<s.t by omega),decide_eq_true (show s.t≤3600000 by omega),decide_eq_false (show¬1≤s.o by omega)];rfl
  unfold sgPV
  refine Qac (tb:=[]) 85 [.tmp 2] [0,1,2,3,5,7,32,37,38,39,69,70,71,72,73] mixed Tryz.func72 rfl (by kernel_rfl) (by kernel_rfl) (by kernel_rfl) (by kernel_rfl) ?_
  repeat (first|(simp -implicitDefEqProofs only [go_sem,Nat.reduceAdd,Nat.reduceMul,Nat.reduceEqDiff,Nat.reduceLT,Nat.reduceLeDiff,reduceCtorEq,g1',g2',g3',g4',e])|(with_reducible exact Qaa _ _ (by kernel_rfl))|(with_reducible refine And.intro (Qaa _ _ (by kernel_rfl)) ?_))
 have g4':=eq_false g4
 by_cases g5:4294967296<s.o
 ·have g5':=eq_true g5
  have e:Qa4 s=false:=by unfold Qa4 rngS;rw [decide_eq_true (show 0≤s.f by omega),decide_eq_true (show s.f<s.t by omega),decide_eq_true (show s.t≤3600000 by omega),decide_eq_true (show 1≤s.o by omega),decide_eq_false (show¬s.o≤4294967296 by omega)];rfl
  unfold sgPV
  refine Qac (tb:=[]) 85 [.tmp 2] [0,1,2,3,5,7,32,37,38,39,69,70,71,72,73] mixed Tryz.func72 rfl (by kernel_rfl) (by kernel_rfl) (by kernel_rfl) (by kernel_rfl) ?_
  repeat (first|(simp -implicitDefEqProofs only [go_sem,Nat.reduceAdd,Nat.reduceMul,Nat.reduceEqDiff,Nat.reduceLT,Nat.reduceLeDiff,reduceCtorEq,g1',g2',g3',g4',g5',e])|(with_reducible exact Qaa _ _ (by kernel_rfl))|(with_reducible refine And.intro (Qaa _ _ (by kernel_rfl)) ?_))
 have g5':=eq_false g5
 have er:rngS s=true:=by unfold rngS;rw [decide_eq_true (show 0≤s.f by omega),decide_eq_true (show s.f<s.t by omega),decide_eq_true (show s.t≤3600000 by omega),decide_eq_true (show 1≤s.o by omega),decide_eq_true (show s.o≤4294967296 by omega)];rfl
 have w1:=Qiv s.o a5 a6
 have hax:=Zf2 s
 have hsg:sgPV s= .agg [.int .i64 s.f,.int .i64 s.t,.int .i64 s.o,.slc (s.x.map (PV.int .i64)),.slc (s.y.map (PV.int .i64)),.slc (s.z.map (PV.int .i64))]:=rfl
 rw [hsg]at hax ⊢
 have wone:=Qiv 1 (by decide) (by decide)
 have hG: ∀i,((s.ax.take i).foldl gcdL s.o.natAbs)<2^64:=by
  intro i
  have: ∀(L:List (List Int)) (g:Nat),g<2^64→(∀c∈L,∀x∈c,x.natAbs<2^64)→L.foldl gcdL g<2^64:=by
   intro L
   induction L with
   |nil=>intro g hg _;exact hg
   |cons c L ih=>intro g hg h;exact ih _ (Qgi c hg (h c (by simp))) fun c' hc'=>h c' (by simp [hc'])
  exact this _ _ (Qbc ⟨a5,a6⟩) fun c hc' x hx=>Qbc (hc c (List.mem_of_mem_take hc') x hx)
 refine Qac (tb:=[]) 85 [.tmp 2] [0,1,2,3,5,7,32,37,38,39,69,70,71,72,73] mixed Tryz.func72 rfl (by kernel_rfl) (by kernel_rfl) (by kernel_rfl) (by kernel_rfl) ?_
 repeat (first|(simp -implicitDefEqProofs only [go_sem,Nat.reduceAdd,Nat.reduceMul,Nat.reduceEqDiff,Nat.reduceLT,Nat.reduceLeDiff,reduceCtorEq,wPV,g1',g2',g3',g4',g5'])|((with_reducible refine Qab (w1) ?_ ?_ ?_);(with_reducible rfl);rfl)|((with_reducible refine Qab (hax) ?_ ?_ ?_);(with_reducible rfl);rfl)|(with_reducible exact Qaa _ _ (by kernel_rfl))|(with_reducible refine And.intro (Qaa _ _ (by kernel_rfl)) ?_))
 have z0:0≤3∧((s.ax.take 0).all fun c=>axOK c s.o)=true:=⟨Nat.zero_le _,rfl⟩
 refine Qar mixed (fun i:{i:Nat // i≤3∧((s.ax.take i).all fun c=>axOK c s.o)=true}=>St.of [(1,.bp 0 6 0 0),(2,.bool false),(3,.bp 303 2 0 0),(37,.agg [Qat s.x,Qat s.y,Qat s.z]),(38,.int .i64 (i.1:Int))]
  [(0,{els:=[sgPV s],esz:=6,ety:=56,fro:=0,live:=true,arr:=false}),(303,{els:=[wPV (((s.ax.take i.1).foldl gcdL s.o.natAbs:Nat):Int)],esz:=2,ety:=71,fro:=0,live:=true,arr:=false})]) (fun i=>3-i.1) ⟨0,z0⟩ ?_ ?_
 ·refine Qaj (θ:=[(0,0),(303,303)]) rfl ?_ ?_
  ·simp [Qad,lkp,ren1,ren0,Qal,Qat]
  ·refine⟨⟨rfl,rfl,rfl,rfl,rfl,.inr ⟨rfl,_,_,rfl,rfl,rfl,rfl⟩⟩,⟨rfl,rfl,rfl,rfl,rfl,.inr ⟨rfl,_,_,rfl,rfl,?_,rfl⟩⟩,trivial⟩
   have:((((s.ax.take 0).foldl gcdL s.o.natAbs:Nat):Nat):Int)=s.o:=by simp;omega
   rw [this];rfl
 ·rintro⟨i,hi,hall⟩
  have hGi:=hG i
  by_cases hA:i<3
  ·have hA':((i:Int)<3)=True:=eq_true (by omega)
   have hA2:=ltT hA
   have h0:=nnT i
   have hx:=Q2n s i hA
   have hwk:=Qai (a:=i) (by omega)
   have hcx:=hc (s.ax[i]) (List.getElem_mem hA)
   have hlx:=hl (s.ax[i]) (List.getElem_mem hA)
   have htk:(s.ax.take (i+1)).all (fun c=>axOK c s.o)=axOK s.ax[i] s.o:=by rw [Qa1 s.ax i hA,List.all_append,hall];simp
   have hbad:axOK s.ax[i] s.o=false→Qa4 s=false:=fun h=>by
    unfold Qa4;rw [Q2x (p:=fun c=>axOK c s.o) (l:=s.ax) (i:=i) hA h];simp
   have hfd:(s.ax.take (i+1)).foldl gcdL s.o.natAbs=gcdL ((s.ax.take i).foldl gcdL s.o.natAbs) s.ax[i]:=by rw [Qa1 s.ax i hA,List.foldl_append];rfl
   generalize hC:s.ax[i]=c at*
   generalize (s.ax.take i).foldl gcdL s.o.natAbs=G at*
   by_cases q1:c.length<1
   ·have q1':((c.length:Int)<1)=True:=eq_true (by omega)
    have e:=hbad (by unfold axOK Qku;rw [decide_eq_false (show¬1≤c.length by omega)];rfl)
    repeat (first|(simp -implicitDefEqProofs only [go_sem,Nat.reduceAdd,Nat.reduceMul,Nat.reduceEqDiff,Nat.reduceLT,Nat.reduceLeDiff,reduceCtorEq,hA',hA2,h0,hx,hwk,Int.toNat_natCast,List.length_map,q1',e])|(with_reducible exact Qaa _ _ (by kernel_rfl))|(with_reducible refine And.intro (Qaa _ _ (by kernel_rfl)) ?_))
   have q1':((c.length:Int)<1)=False:=eq_false (by omega)
   by_cases q2:6<c.length
   ·have q2':((6:Int)<(c.length:Int))=True:=eq_true (by omega)
    have e:=hbad (by unfold axOK Qku;rw [decide_eq_false (show¬c.length≤6 by omega)];simp)
    repeat (first|(simp -implicitDefEqProofs only [go_sem,Nat.reduceAdd,Nat.reduceMul,Nat.reduceEqDiff,Nat.reduceLT,Nat.reduceLeDiff,reduceCtorEq,hA',hA2,h0,hx,hwk,Int.toNat_natCast,List.length_map,q1',q2',e])|(with_reducible exact Qaa _ _ (by kernel_rfl))|(with_reducible refine And.intro (Qaa _ _ (by kernel_rfl)) ?_))
   have q2':((6:Int)<(c.length:Int))=False:=eq_false (by omega)
   have hbv:=Q2k c s.o (by omega) (by omega) hcx (by omega) (by omega)
   have hlt:c.length-1<c.length:=by omega
   have wl:=Qil (n:=c.length) (by omega) (by omega)
   have hgl:=Qcn c (c.length-1) hlt
   have n1:=nnT (c.length-1)
   have hl0:=Qe6 hlt
   -- the rest, behind the test of the last coefficient
   have rest:axOK c s.o=Qc2 c s.o c.length→ ∀(t:Bool),Qc2 c s.o c.length=t→True:=fun _ _ _=>trivial
   by_cases q3:1<c.length
   ·have q3':((1:Int)<(c.length:Int))=True:=eq_true (by omega)
    by_cases q4:c[c.length-1]=0
    ·have q4':(c[c.length-1]==0)=true:=by rw [q4];rfl
     have e:=hbad (by unfold axOK Qku;rw [hl0,q4',decide_eq_false (show¬c.length≤1 by omega)];simp)
     repeat (first|(simp -implicitDefEqProofs only [go_sem,Nat.reduceAdd,Nat.reduceMul,Nat.reduceEqDiff,Nat.reduceLT,Nat.reduceLeDiff,reduceCtorEq,hA',hA2,h0,hx,hwk,Int.toNat_natCast,List.length_map,q1',q2',q3',q4',wl,n1,hgl,e])|(with_reducible exact Qaa _ _ (by kernel_rfl))|(with_reducible refine And.intro (Qaa _ _ (by kernel_rfl)) ?_))
    have q4':(c[c.length-1]==0)=false:=by simp only [beq_eq_false_iff_ne,ne_eq];exact q4
    have e1:axOK c s.o=Qc2 c s.o c.length:=by unfold axOK Qku;rw [hl0,q4',decide_eq_true (show 1≤c.length by omega),decide_eq_true (show c.length≤6 by omega)];simp
    cases hb:Qc2 c s.o c.length with
    |false=>
     rw [hb]at hbv e1
     have e:=hbad e1
     repeat (first|(simp -implicitDefEqProofs only [go_sem,Nat.reduceAdd,Nat.reduceMul,Nat.reduceEqDiff,Nat.reduceLT,Nat.reduceLeDiff,reduceCtorEq,hA',hA2,h0,hx,hwk,Int.toNat_natCast,List.length_map,q1',q2',q3',q4',wl,n1,hgl,e])|((with_reducible refine Qab (hbv) ?_ ?_ ?_);(with_reducible rfl);rfl)|(with_reducible exact Qaa _ _ (by kernel_rfl))|(with_reducible refine And.intro (Qaa _ _ (by kernel_rfl)) ?_))
    |true=>
     rw [hb]at hbv e1
     repeat (first|(simp -implicitDefEqProofs only [go_sem,Nat.reduceAdd,Nat.reduceMul,Nat.reduceEqDiff,Nat.reduceLT,Nat.reduceLeDiff,reduceCtorEq,hA',hA2,h0,hx,hwk,Int.toNat_natCast,List.length_map,q1',q2',q3',q4',wl,n1,hgl])|((with_reducible refine Qab (hbv) ?_ ?_ ?_);(with_reducible rfl);rfl)|(with_reducible exact Qaa _ _ (by kernel_rfl))|(with_reducible refine And.intro (Qaa _ _ (by kernel_rfl)) ?_))
     refine Qar mixed (fun k:{k:Nat // k≤c.length}=>St.of [(1,.bp 0 6 0 0),(2,.bool false),(3,.bp 303 2 0 0),(37,.agg [Qat s.x,Qat s.y,Qat s.z]),(38,.int .i64 (i:Int)),(70,Qat c),(71,.int .i64 (c.length:Int)),(72,.int .i64 (k.1:Int))]
      [(0,{els:=[sgPV s],esz:=6,ety:=56,fro:=0,live:=true,arr:=false}),(303,{els:=[wPV ((gcdL G (c.take k.1):Nat):Int)],esz:=2,ety:=71,fro:=0,live:=true,arr:=false})]) (fun k=>c.length-k.1) ⟨0,Nat.zero_le _⟩ ?_ ?_
     ·refine Qaj (θ:=[(0,0),(303,303)]) rfl ?_ ?_
      ·simp [Qad,lkp,ren1,ren0,Qal,Qat]
      ·exact⟨⟨rfl,rfl,rfl,rfl,rfl,.inr ⟨rfl,_,_,rfl,rfl,rfl,rfl⟩⟩,⟨rfl,rfl,rfl,rfl,rfl,.inr ⟨rfl,_,_,rfl,rfl,rfl,rfl⟩⟩,trivial⟩
     ·rintro⟨k,hk⟩
      by_cases hB:k<c.length
      ·have hB':=ltT hB
       have n0:=nnT k
       have hgk:=Qcn c k hB
       have hwk2:=Qai (a:=k) (by omega)
       obtain⟨k1,k2⟩:=hcx _ (List.getElem_mem hB)
       have o1:=Qiv c[k] k1 k2
       have x1:=Qbc (hcx _ (List.getElem_mem hB))
       have x2:((gcdL G (c.take k):Nat):Int).natAbs<2^64:=by rw [Int.natAbs_natCast];exact Qgi _ hGi fun x hx=>Qbc (hcx x (List.mem_of_mem_take hx))
       have m:=Qrw (Qa5 x2 (by decide)) (Qa5 x1 (by decide))
       rw [Int.natAbs_natCast,←Qfc,←Qa1 c k hB]at m
       generalize hX:gcdL G (c.take (k+1))=X at*
       generalize gcdL G (c.take k)=Y at*
       repeat (first|(simp -implicitDefEqProofs only [go_sem,Nat.reduceAdd,Nat.reduceMul,Nat.reduceEqDiff,Nat.reduceLT,Nat.reduceLeDiff,reduceCtorEq,hB',n0,hgk,hwk2,wPV,Int.toNat_natCast])|((with_reducible refine Qab (o1) ?_ ?_ ?_);(with_reducible rfl);rfl)|((with_reducible refine Qab (m) ?_ ?_ ?_);(with_reducible rfl);rfl)|(with_reducible exact Qaa _ _ (by kernel_rfl))|(with_reducible refine And.intro (Qaa _ _ (by kernel_rfl)) ?_))
       refine⟨⟨k+1,hB⟩,by simp only;omega,Qaj (θ:=[(0,0),(303,303)]) rfl ?_ ?_⟩
       ·simp [Qad,lkp,ren1,ren0,Qal,Qat]
       ·simp only [hX]
        exact⟨⟨rfl,rfl,rfl,rfl,rfl,.inr ⟨rfl,_,_,rfl,rfl,rfl,rfl⟩⟩,⟨rfl,rfl,rfl,rfl,rfl,.inr ⟨rfl,_,_,rfl,rfl,rfl,rfl⟩⟩,trivial⟩
      ·have hB':=ltF hB
       obtain rfl:k=c.length:=by omega
       repeat (first|(simp -implicitDefEqProofs only [go_sem,Nat.reduceAdd,Nat.reduceMul,Nat.reduceEqDiff,Nat.reduceLT,Nat.reduceLeDiff,reduceCtorEq,hB',hwk])|(with_reducible exact Qaa _ _ (by kernel_rfl))|(with_reducible refine And.intro (Qaa _ _ (by kernel_rfl)) ?_))
       refine⟨⟨i+1,hA,by rw [htk];exact e1⟩,by simp only;omega,Qaj (θ:=[(0,0),(303,303)]) rfl ?_ ?_⟩
       ·simp [Qad,lkp,ren1,ren0,Qal,Qat]
       ·simp only [hfd]
        rw [List.take_length]
        exact⟨⟨rfl,rfl,rfl,rfl,rfl,.inr ⟨rfl,_,_,rfl,rfl,rfl,rfl⟩⟩,⟨rfl,rfl,rfl,rfl,rfl,.inr ⟨rfl,_,_,rfl,rfl,rfl,rfl⟩⟩,trivial⟩
   ·have q3':((1:Int)<(c.length:Int))=False:=eq_false (by omega)
    have e1:axOK c s.o=Qc2 c s.o c.length:=by unfold axOK Qku;rw [decide_eq_true (show 1≤c.length by omega),decide_eq_true (show c.length≤6 by omega),decide_eq_true (show c.length≤1 by omega)];simp
    cases hb:Qc2 c s.o c.length with
    |false=>
     rw [hb]at hbv e1
     have e:=hbad e1
     repeat (first|(simp -implicitDefEqProofs only [go_sem,Nat.reduceAdd,Nat.reduceMul,Nat.reduceEqDiff,Nat.reduceLT,Nat.reduceLeDiff,reduceCtorEq,hA',hA2,h0,hx,hwk,Int.toNat_natCast,List.length_map,q1',q2',q3',wl,n1,hgl,e])|((with_reducible refine Qab (hbv) ?_ ?_ ?_);(with_reducible rfl);rfl)|(with_reducible exact Qaa _ _ (by kernel_rfl))|(with_reducible refine And.intro (Qaa _ _ (by kernel_rfl)) ?_))
    |true=>
     rw [hb]at hbv e1
     repeat (first|(simp -implicitDefEqProofs only [go_sem,Nat.reduceAdd,Nat.reduceMul,Nat.reduceEqDiff,Nat.reduceLT,Nat.reduceLeDiff,reduceCtorEq,hA',hA2,h0,hx,hwk,Int.toNat_natCast,List.length_map,q1',q2',q3',wl,n1,hgl])|((with_reducible refine Qab (hbv) ?_ ?_ ?_);(with_reducible rfl);rfl)|(with_reducible exact Qaa _ _ (by kernel_rfl))|(with_reducible refine And.intro (Qaa _ _ (by kernel_rfl)) ?_))
     refine Qar mixed (fun k:{k:Nat // k≤c.length}=>St.of [(1,.bp 0 6 0 0),(2,.bool false),(3,.bp 303 2 0 0),(37,.agg [Qat s.x,Qat s.y,Qat s.z]),(38,.int .i64 (i:Int)),(70,Qat c),(71,.int .i64 (c.length:Int)),(72,.int .i64 (k.1:Int))]
      [(0,{els:=[sgPV s],esz:=6,ety:=56,fro:=0,live:=true,arr:=false}),(303,{els:=[wPV ((gcdL G (c.take k.1):Nat):Int)],esz:=2,ety:=71,fro:=0,live:=true,arr:=false})]) (fun k=>c.length-k.1) ⟨0,Nat.zero_le _⟩ ?_ ?_
     ·refine Qaj (θ:=[(0,0),(303,303)]) rfl ?_ ?_
      ·simp [Qad,lkp,ren1,ren0,Qal,Qat]
      ·exact⟨⟨rfl,rfl,rfl,rfl,rfl,.inr ⟨rfl,_,_,rfl,rfl,rfl,rfl⟩⟩,⟨rfl,rfl,rfl,rfl,rfl,.inr ⟨rfl,_,_,rfl,rfl,rfl,rfl⟩⟩,trivial⟩
     ·rintro⟨k,hk⟩
      by_cases hB:k<c.length
      ·have hB':=ltT hB
       have n0:=nnT k
       have hgk:=Qcn c k hB
       have hwk2:=Qai (a:=k) (by omega)
       obtain⟨k1,k2⟩:=hcx _ (List.getElem_mem hB)
       have o1:=Qiv c[k] k1 k2
       have x1:=Qbc (hcx _ (List.getElem_mem hB))
       have x2:((gcdL G (c.take k):Nat):Int).natAbs<2^64:=by rw [Int.natAbs_natCast];exact Qgi _ hGi fun x hx=>Qbc (hcx x (List.mem_of_mem_take hx))
       have m:=Qrw (Qa5 x2 (by decide)) (Qa5 x1 (by decide))
       rw [Int.natAbs_natCast,←Qfc,←Qa1 c k hB]at m
       generalize hX:gcdL G (c.take (k+1))=X at*
       generalize gcdL G (c.take k)=Y at*
       repeat (first|(simp -implicitDefEqProofs only [go_sem,Nat.reduceAdd,Nat.reduceMul,Nat.reduceEqDiff,Nat.reduceLT,Nat.reduceLeDiff,reduceCtorEq,hB',n0,hgk,hwk2,wPV,Int.toNat_natCast])|((with_reducible refine Qab (o1) ?_ ?_ ?_);(with_reducible rfl);rfl)|((with_reducible refine Qab (m) ?_ ?_ ?_);(with_reducible rfl);rfl)|(with_reducible exact Qaa _ _ (by kernel_rfl))|(with_reducible refine And.intro (Qaa _ _ (by kernel_rfl)) ?_))
       refine⟨⟨k+1,hB⟩,by simp only;omega,Qaj (θ:=[(0,0),(303,303)]) rfl ?_ ?_⟩
       ·simp [Qad,lkp,ren1,ren0,Qal,Qat]
       ·simp only [hX]
        exact⟨⟨rfl,rfl,rfl,rfl,rfl,.inr ⟨rfl,_,_,rfl,rfl,rfl,rfl⟩⟩,⟨rfl,rfl,rfl,rfl,rfl,.inr ⟨rfl,_,_,rfl,rfl,rfl,rfl⟩⟩,trivial⟩
      ·have hB':=ltF hB
       obtain rfl:k=c.length:=by omega
       repeat (first|(simp -implicitDefEqProofs only [go_sem,Nat.reduceAdd,Nat.reduceMul,Nat.reduceEqDiff,Nat.reduceLT,Nat.reduceLeDiff,reduceCtorEq,hB',hwk])|(with_reducible exact Qaa _ _ (by kernel_rfl))|(with_reducible refine And.intro (Qaa _ _ (by kernel_rfl)) ?_))
       refine⟨⟨i+1,hA,by rw [htk];exact e1⟩,by simp only;omega,Qaj (θ:=[(0,0),(303,303)]) rfl ?_ ?_⟩
       ·simp [Qad,lkp,ren1,ren0,Qal,Qat]
       ·simp only [hfd]
        rw [List.take_length]
        exact⟨⟨rfl,rfl,rfl,rfl,rfl,.inr ⟨rfl,_,_,rfl,rfl,rfl,rfl⟩⟩,⟨rfl,rfl,rfl,rfl,rfl,.inr ⟨rfl,_,_,rfl,rfl,rfl,rfl⟩⟩,trivial⟩
  ·have hA':((i:Int)<3)=False:=eq_false (by omega)
   obtain rfl:i=3:=by omega
   have et:s.ax.take 3=s.ax:=rfl
   have e:Qa4 s=((s.ax.take 3).foldl gcdL s.o.natAbs==1):=by rw [et]at hall ⊢;unfold Qa4;rw [er,hall];simp
   rw [e]
   simp only
   generalize (s.ax.take 3).foldl gcdL s.o.natAbs=G at*
   repeat (first|(simp -implicitDefEqProofs only [go_sem,Nat.reduceAdd,Nat.reduceMul,Nat.reduceEqDiff,Nat.reduceLT,Nat.reduceLeDiff,Nat.reduceSub,reduceCtorEq,Int.reduceLT,hA',wPV])|((with_reducible refine Qab (wone) ?_ ?_ ?_);(with_reducible rfl);rfl)|(with_reducible exact Qaa _ _ (by kernel_rfl))|(with_reducible refine And.intro (Qaa _ _ (by kernel_rfl)) ?_))
   have h1:=Qmh (G:Int) 1
   have h2:decide ((1:Int)<0)=false:=rfl
   rw [h2]at h1
   have h3:(decide ((G:Int)<0)==false)= !decide ((G:Int)<0):=by cases decide ((G:Int)<0)<;>rfl
   rw [h3]at h1
   rw [h1]
   congr 1
   rw [Bool.eq_iff_iff,decide_eq_true_eq,beq_iff_eq]
   omega
end Go.Proofs.YtciddhkfbgkejaaGreatDoor
