/-
  Ds, SP3, Du, SP4, Dsg, SM1, SM2 (merged for the claim).
-/
import Derived.Test.YtlpiamlgibomhaaGreatSN2
set_option linter.unusedSimpArgs false
set_option linter.unusedVariables false
namespace Go.Dg
def Qav:List Int→List Int
 | []=>[]
 |c::r=>match Qav r with
  | []=>if c=0 then []else [c]
  |d::t=>c::d::t
theorem Qbz (c:Int) (r:List Int):Qav (c::r)=if Qav r=[]then(if c=0 then []else [c])else c::Qav r:=by
 rw [Qav];cases h:Qav r<;>simp
theorem Qhf: ∀l:List Int,Qav (l++[0])=Qav l
 | []=>rfl
 |c::r=>by rw [List.cons_append,Qbz,Qhf r,Qbz]
theorem Qm8: ∀(l:List Int) (c:Int),c≠0→Qav (l++[c])=l++[c]
 | [],c,h=>by simp [Qav,h]
 |a::r,c,h=>by rw [List.cons_append,Qbz,Qm8 r c h,if_neg (by simp)]
theorem Qbi: ∀l:List Int,(Qav l).length≤l.length
 | []=>Nat.le_refl _
 |c::r=>by
  have:=Qbi r
  rw [Qbz];split
  ·split<;>simp
  ·simp only [List.length_cons];omega
theorem Qqa {l:List Int} {x:Int} (h:x∈Qav l):x∈l:=by
 induction l with
 |nil=>exact h
 |cons c r ih=>
  rw [Qbz]at h
  split at h
  ·split at h
   ·cases h
   ·simp at h;simp [h]
  ·rcases List.mem_cons.1 h with rfl|h
   ·simp
   ·exact List.mem_cons_of_mem _ (ih h)
theorem Qi5: ∀l:List Int,Qav (Qav l)=Qav l
 | []=>rfl
 |c::r=>by
  have ih:=Qi5 r
  rw [Qbz]
  split
  ·split
   ·rfl
   ·rename_i h;simp [Qav,h]
  ·rename_i h;rw [Qbz,ih,if_neg h]
def ev:List Int→Int→Int
 | [],_=>0
 |c::r,u=>c+u*ev r u
theorem Zd2: ∀(p:List Int) (u:Int),ev p u=hev p u 1
 | [],_=>rfl
 |c::r,u=>by rw [ev,hev,Zd2 r u,Int.one_pow,Int.mul_one]
theorem Qep: ∀(p:List Int) (u:Int),ev (Qav p) u=ev p u
 | [],_=>rfl
 |c::r,u=>by
  have ih:=Qep r u
  rw [Qbz]
  split
  ·rename_i h
   rw [h]at ih
   have h0:ev r u=0:=ih.symm
   split
   ·rename_i hc;rw [ev,ev,h0,hc];simp
   ·rw [ev,ev,ev,h0]
  ·rw [ev,ev,ih]
theorem Qsp: ∀(p:List Int),(∀u:Int,1≤u→ev p u=0)→Qav p=[]
 | [],_=>rfl
 |c::r,h=>by
  have hc:c=0:=by
   have h1:=h (c.natAbs+1) (by omega)
   rw [ev]at h1
   generalize ev r _=A at h1
   have h2:c=((c.natAbs:Int)+1)*(-A):=by rw [Int.mul_neg];omega
   have h3:((c.natAbs:Int)+1)∣c:=⟨_,h2⟩
   have h4:=Int.natAbs_dvd_natAbs.2 h3
   rcases Nat.eq_zero_or_pos c.natAbs with h0|h0
   ·omega
   ·have:=Nat.le_of_dvd h0 h4
    omega
  subst hc
  rw [Qbz,Qsp r ?_]
  ·rfl
  ·intro u hu
   have:=h u hu
   rw [ev,Int.zero_add]at this
   rcases Int.mul_eq_zero.1 this with h|h
   ·omega
   ·exact h
theorem Q3f: ∀(p q:List Int),(∀u:Int,1≤u→ev p u=ev q u)→Qav p=Qav q
 | [],q,h=>(Qsp q fun u hu=>(h u hu).symm).symm
 |p,[],h=>Qsp p h
 |a::p,b::q,h=>by
  have hab:a=b:=by
   have h1:=h ((a-b).natAbs+1) (by omega)
   rw [ev,ev]at h1
   generalize ev p _=A at h1
   generalize ev q _=B at h1
   have h2:a-b=(((a-b).natAbs:Int)+1)*(B-A):=by rw [Int.mul_sub];omega
   have h3:(((a-b).natAbs:Int)+1)∣(a-b):=⟨_,h2⟩
   have h4:=Int.natAbs_dvd_natAbs.2 h3
   rcases Nat.eq_zero_or_pos (a-b).natAbs with h0|h0
   ·omega
   ·have:=Nat.le_of_dvd h0 h4
    omega
  subst hab
  have ih:=Q3f p q fun u hu=>by
   have h1:=h u hu
   rw [ev,ev]at h1
   exact Int.eq_of_mul_eq_mul_left (a:=u) (by omega) (by omega)
  rw [Qbz,Qbz,ih]
theorem Q3g (p:List Int) (u:Int) {N:Nat} (h:p.length≤N):ev p u=sm (fun i=>p.getD i 0*u^i) N:=by
 rw [Zd2,Qjn,Q36 _ h (fun i h1 _=>by rw [List.getD_eq_getElem?_getD,List.getElem?_eq_none h1];simp)]
 exact Qbm _ fun i _=>by rw [Int.one_pow,Int.mul_one]
theorem Qk6 (F:Nat→Int) (N i:Nat):((List.range N).map F).getD i 0=if i<N then F i else 0:=by
 rw [List.getD_eq_getElem?_getD,List.getElem?_map]
 by_cases h:i<N
 ·simp [h]
 ·rw [List.getElem?_eq_none (by simpa using h),if_neg h];rfl
theorem Q3h (F:Nat→Int) (N:Nat) (u:Int):ev ((List.range N).map F) u=sm (fun i=>F i*u^i) N:=by
 rw [Q3g _ u (N:=N) (by simp)]
 exact Qbm _ fun i hi=>by rw [Qk6,if_pos hi]
def zipA (p q:List Int):List Int:=(List.range (max p.length q.length)).map fun i=>p.getD i 0+q.getD i 0
def pAdd (p q:List Int):List Int:=Qav (zipA p q)
def Qee (p:List Int) (c:Int):List Int:=Qav (p.map (· *c))
def conv (p q:List Int):List Int:=(List.range (p.length+q.length-1)).map fun i=>sm (fun k=>p.getD k 0*q.getD (i-k) 0) (i+1)
def pMul (p q:List Int):List Int:=Qav (conv p q)
def pPow (p:List Int):Nat→List Int
 |0=>Qav [1]
 |n+1=>pMul (pPow p n) p
theorem Q3i (p q:List Int) (u:Int):ev (pAdd p q) u=ev p u+ev q u:=by
 rw [pAdd,Qep,zipA,Q3h,Q3g p u (N:=max p.length q.length) (Nat.le_max_left _ _),Q3g q u (N:=max p.length q.length) (Nat.le_max_right _ _),←Qum]
 exact Qbm _ fun i _=>Int.add_mul _ _ _
theorem Qqb (p:List Int) (c u:Int):ev (Qee p c) u=ev p u*c:=by
 rw [Qee,Qep]
 induction p with
 |nil=>simp [ev]
 |cons a r ih=>rw [List.map_cons,ev,ev,ih,Int.add_mul,Int.mul_assoc]
theorem Zit (p q:List Int) (u:Int):ev (pMul p q) u=ev p u*ev q u:=by
 rw [pMul,Qep,conv,Q3h]
 have h1:sm (fun i=>sm (fun k=>p.getD k 0*q.getD (i-k) 0) (i+1)*u^i) (p.length+q.length-1)
   =sm (fun i=>sm (fun k=>p.getD k 0*q.getD (i-k) 0*u^i) (i+1)) (p.length+q.length-1):=Qbm _ fun i _=>(Qor _ _ _).symm
 rw [h1,Q37 (fun k i=>p.getD k 0*q.getD (i-k) 0*u^i)]
 rcases Nat.eq_zero_or_pos q.length with hq|hq
 ·have e:q=[]:=List.length_eq_zero_iff.1 hq
  subst e
  rw [Qoq _ fun i _=>Qoq _ fun k _=>by simp]
  simp [ev]
 ·have hN:p.length≤p.length+q.length-1:=by omega
  rw [Q3g p u hN,←Qor]
  refine Qbm _ fun i hi=> ?_
  by_cases hip:i<p.length
  ·rw [Q3g q u (N:=p.length+q.length-1-i) (by omega),←Qdz]
   refine Qbm _ fun k _=> ?_
   rw [show i+k-i=k by omega,Int.pow_add]
   simp only [Int.mul_comm,Int.mul_left_comm,Int.mul_assoc]
  ·have e:p.getD i 0=0:=by rw [List.getD_eq_getElem?_getD,List.getElem?_eq_none (by omega)];rfl
   rw [Qoq _ fun k _=>by rw [e,Int.zero_mul,Int.zero_mul],e,Int.zero_mul,Int.zero_mul]
theorem Zl5 (u:Int):ev (Qav [1]) u=1:=by rw [Qep];simp [ev]
theorem Q3j (p:List Int) (u:Int): ∀n,ev (pPow p n) u=ev p u^n
 |0=>by rw [pPow,Zl5,Int.pow_zero]
 |n+1=>by rw [pPow,Zit,Q3j p u n,Int.pow_succ]
theorem Qsq (p q:List Int):(zipA p q).length=max p.length q.length:=by simp [zipA]
theorem Qsr (p q:List Int):(conv p q).length=p.length+q.length-1:=by simp [conv]
theorem Qss (p q:List Int):(pAdd p q).length≤max p.length q.length:=by rw [←Qsq];exact Qbi _
theorem Qh3 (p:List Int) (c:Int):(Qee p c).length≤p.length:=by rw [Qee];exact Nat.le_trans (Qbi _) (by simp)
theorem Qst (p q:List Int):(pMul p q).length≤p.length+q.length-1:=by rw [←Qsr];exact Qbi _
theorem Qhg {p:List Int} {m:Nat} (h:p.length≤m+1): ∀n,(pPow p n).length≤m*n+1
 |0=>by simp [pPow,Qav]
 |n+1=>by
  have h1:=Qst (pPow p n) p
  have h2:=Qhg h n
  rw [pPow,Nat.mul_succ];omega
def bd (B:Nat) (p:List Int):Prop:= ∀x∈p,x.natAbs<2^B
theorem Qk7 {B C:Nat} {p:List Int} (h:bd B p) (hc:B≤C):bd C p:=fun x hx=>Nat.lt_of_lt_of_le (h x hx) (Nat.pow_le_pow_right (by decide) hc)
theorem Qeq {B:Nat} {p:List Int} (h:bd B p):bd B (Qav p):=fun x hx=>h x (Qqa hx)
theorem Qef {B:Nat} {p:List Int} (h:bd B p) (i:Nat):(p.getD i 0).natAbs<2^B:=Zb6 h i
theorem Ziu {B:Nat} {p q:List Int} (hp:bd B p) (hq:bd B q):bd (B+1) (pAdd p q):=by
 refine Qeq fun x hx=> ?_
 obtain⟨i,_,rfl⟩:=List.mem_map.1 hx
 have h1:=Qef hp i
 have h2:=Qef hq i
 rw [Nat.pow_succ]
 generalize 2^B=K at*
 omega
theorem Qqc {B C:Nat} {p:List Int} {c:Int} (hp:bd B p) (hc:c.natAbs<2^C):bd (B+C) (Qee p c):=by
 refine Qeq fun x hx=> ?_
 obtain⟨y,hy,rfl⟩:=List.mem_map.1 hx
 rw [Int.natAbs_mul,Nat.pow_add]
 exact Nat.mul_lt_mul'' (hp y hy) hc
theorem Qsu {f:Nat→Int} {B m:Nat} (hm:m≤64) (h: ∀i,i<m→(f i).natAbs<2^B):(sm f m).natAbs<2^(B+7):=by
 have h1:=Zef m (fun i hi=>Nat.le_of_lt (h i hi))
 have h2:m*2^B≤64*2^B:=Nat.mul_le_mul_right _ hm
 have hp:0<2^B:=Nat.pow_pos (by decide)
 rw [Nat.pow_add,show(2:Nat)^7=128 from rfl]
 omega
theorem Ziv {B C:Nat} {p q:List Int} (hp:bd B p) (hq:bd C q) (hl:p.length+q.length≤64) (i m:Nat) (hm:m≤i+1) (hi:i<p.length+q.length-1):
  (sm (fun k=>p.getD k 0*q.getD (i-k) 0) m).natAbs<2^(B+C+7):=
 Qsu (by omega) fun k _=>by
  rw [Int.natAbs_mul,Nat.pow_add]
  exact Nat.mul_lt_mul'' (Qef hp k) (Qef hq (i-k))
theorem Ziw {B C:Nat} {p q:List Int} (hp:bd B p) (hq:bd C q) (hl:p.length+q.length≤64):bd (B+C+7) (pMul p q):=by
 refine Qeq fun x hx=> ?_
 obtain⟨i,hi,rfl⟩:=List.mem_map.1 hx
 exact Ziv hp hq hl i (i+1) (Nat.le_refl _) (List.mem_range.1 hi)
theorem Q3k {B m:Nat} {p:List Int} (hp:bd B p) (hl:p.length≤m+1): ∀n,m*n+m≤62→bd ((B+7)*n+1) (pPow p n)
 |0,_=>by intro x hx;simp [pPow,Qav]at hx;subst hx;simp
 |n+1,h=>by
  have ih:=Q3k hp hl n (by rw [Nat.mul_succ]at h;omega)
  have h1:=Qhg hl n
  have:=Ziw ih hp (by rw [Nat.mul_succ]at h;omega)
  refine Qk7 this ?_
  rw [Nat.mul_succ];omega
end Go.Dg

namespace Go.Proofs.YtlpiamlgibomhaaGreat
open Go.Vl Go.RowKit Go.Dg
theorem Qfd {n:Nat} (h:0<n) (hn:n<9223372036854775808):IntKind.i64.wrap ((n:Int)-1)=((n-1:Nat):Int):=by rw [Qah (by omega) (by omega)];omega
def Qan (l:List Int):PV:= .slc (l.map (PV.int .i64))
theorem Qb2 (l:List Int) (i:Nat) (h:i<l.length):(l.map (PV.int .i64))[i]? =some (.int .i64 l[i]):=by rw [List.getElem?_map,List.getElem?_eq_getElem h];rfl
theorem map_take {α β:Type} (f:α→β) (l:List α) (i:Nat) (hi:i<l.length):(l.take (i+1)).map f=(l.take i).map f++[f l[i]]:=by rw [Qbl l i hi,List.map_append];rfl
end Go.Proofs.YtlpiamlgibomhaaGreat

namespace Go.Dg
def Qc0 (p:List Int) (a b d:Int):Nat→List Int
 |0=>[]
 |i+1=>pAdd (Qc0 p a b d i) (Qee (pPow (Qav [a,b]) i) (p.getD i 0*d^(p.length-1-i)))
theorem Qg5 (a b:Int):(Qav [a,b]).length≤1+1:=Qbi _
theorem Zix (a b u:Int):ev (Qav [a,b]) u=a+b*u:=by rw [Qep];simp [ev,Int.mul_comm]
theorem Que (p:List Int) (a b d u:Int): ∀i,ev (Qc0 p a b d i) u=sm (fun k=>p.getD k 0*((a+b*u)^k*d^(p.length-1-k))) i
 |0=>rfl
 |i+1=>by
  rw [Qc0,Q3i,Que p a b d u i,Qqb,Q3j,Zix,sm]
  congr 1
  simp only [Int.mul_comm,Int.mul_left_comm,Int.mul_assoc]
theorem Ziy (p:List Int) (a b d u:Int):ev (Qc0 p a b d p.length) u=hev p (a+b*u) d:=by rw [Que,Qjn]
theorem Qgt (p:List Int) (a b d:Int): ∀i,Qav (Qc0 p a b d i)=Qc0 p a b d i
 |0=>rfl
 |i+1=>by rw [Qc0,pAdd,Qi5]
theorem Qdp (p:List Int) (a b d:Int): ∀i,(Qc0 p a b d i).length≤i
 |0=>Nat.le_refl _
 |i+1=>by
  rw [Qc0]
  have h1:=Qss (Qc0 p a b d i) (Qee (pPow (Qav [a,b]) i) (p.getD i 0*d^(p.length-1-i)))
  have h2:=Qdp p a b d i
  have h3:=Qh3 (pPow (Qav [a,b]) i) (p.getD i 0*d^(p.length-1-i))
  have h4:=Qhg (m:=1) (Qg5 a b) i
  omega
theorem Ziz {B:Nat} {a b:Int} (ha:a.natAbs<2^B) (hb:b.natAbs<2^B):bd B (Qav [a,b]):=Qeq fun x hx=>by
 rcases List.mem_cons.1 hx with rfl|hx
 ·exact ha
 ·rw [List.mem_singleton]at hx;subst hx;exact hb
theorem Qb0 {d:Int} {D:Nat} (h:d.natAbs<2^D) (k:Nat):(d^k).natAbs<2^(D*k+1):=by
 rw [Int.natAbs_pow]
 have h1:d.natAbs^k≤(2^D)^k:=Nat.pow_le_pow_left (Nat.le_of_lt h) k
 rw [←Nat.pow_mul]at h1
 rw [Nat.pow_succ]
 have:=Nat.pow_pos (n:=D*k) (show 0<2 by decide)
 omega
theorem Quf {B C D:Nat} {p:List Int} {a b d:Int} (hp:bd B p) (ha:a.natAbs<2^C) (hb:b.natAbs<2^C) (hd:d.natAbs<2^D) (hl:p.length≤30):
  ∀i,i≤p.length→bd ((C+7)*30+1+(B+(D*30+1))+i) (Qc0 p a b d i)
 |0,_=>fun x hx=>by cases hx
 |i+1,h=>by
  have ih:=Quf hp ha hb hd hl i (by omega)
  have h1:=Q3k (m:=1) (Ziz ha hb) (Qg5 a b) i (by omega)
  have h2:(C+7)*i≤(C+7)*30:=Nat.mul_le_mul_left _ (by omega)
  have h3:=Qb0 hd (p.length-1-i)
  have h4:D*(p.length-1-i)≤D*30:=Nat.mul_le_mul_left _ (by omega)
  have h5:(p.getD i 0*d^(p.length-1-i)).natAbs<2^(B+(D*30+1)):=by
   rw [Int.natAbs_mul,Nat.pow_add]
   exact Nat.mul_lt_mul'' (Qef hp i) (Nat.lt_of_lt_of_le h3 (Nat.pow_le_pow_right (by decide) (by omega)))
  have h6:=Qqc (Qk7 h1 (show(C+7)*i+1≤(C+7)*30+1 by omega)) h5
  exact Ziu ih (Qk7 h6 (Nat.le_add_right _ i))
end Go.Dg

namespace Go.Proofs.YtlpiamlgibomhaaGreat
open Go.Vl Go.RowKit Go.Dg
end Go.Proofs.YtlpiamlgibomhaaGreat

namespace Go.Dg

structure Sg where
  f:Int
  t:Int
  o:Int
  x:List Int
  y:List Int
  z:List Int

/-- The weight of a coefficient in a control value,times 60. -/
def cw (n j k:Nat):Nat:=60/bin n k*bin j k
def ctl (c:List Int) (j:Nat):Int:=sm (fun k=>c.getD k 0*(cw (c.length-1) j k:Int)) (j+1)
/-- The first j control values are within the bounds. -/
def Qcw (c:List Int) (o:Int) (j:Nat):Bool:=(List.range j).all fun j=>decide (((ctl c j).natAbs:Int)≤62914560*o)
def Qj8 (c:List Int):Bool:=decide (1≤c.length)&&(decide (c.length≤6)&&(decide (c.length≤1)|| !(c.getD (c.length-1) 0==0)))
def axOK (c:List Int) (o:Int):Bool:=Qj8 c&&Qcw c o c.length
def gcdL (g:Nat) (c:List Int):Nat:=c.foldl (fun g x=>Nat.gcd g x.natAbs) g
def Sg.ax (s:Sg):List (List Int):=[s.x,s.y,s.z]
def rngS (s:Sg):Bool:=decide (0≤s.f)&&(decide (s.f<s.t)&&(decide (s.t≤3600000)&&(decide (1≤s.o)&&decide (s.o≤4294967296))))
def Qa2 (s:Sg):Bool:=rngS s&&((s.ax.all fun c=>axOK c s.o)&&(s.ax.foldl gcdL s.o.natAbs==1))

theorem Qeg (g:Nat) (c:List Int) (x:Int):gcdL g (c++[x])=Nat.gcd (gcdL g c) x.natAbs:=by simp [gcdL]
theorem Qex {g:Nat} (c:List Int) {K:Nat} (hg:g<K) (hc: ∀x∈c,x.natAbs<K):gcdL g c<K:=by
  induction c generalizing g with
  |nil=>exact hg
  |cons x c ih=>
    refine ih (g:=Nat.gcd g x.natAbs) ?_ fun y hy=>hc y (by simp [hy])
    rcases Nat.eq_zero_or_pos g with h|h
    · subst h;rw [Nat.gcd_zero_left];exact hc x (by simp)
    · exact Nat.lt_of_le_of_lt (Nat.le_of_dvd h (Nat.gcd_dvd_left _ _)) hg
theorem Qe2 (c:List Int) (o:Int) (j:Nat):Qcw c o (j+1)=(Qcw c o j&&decide (((ctl c j).natAbs:Int)≤62914560*o)):=by
  simp [Qcw,List.range_succ]
theorem Qol {c:List Int} {o:Int} {j m:Nat} (h:Qcw c o j=false) (hm:j≤m):Qcw c o m=false:=by
  induction m with
  |zero=>obtain rfl:j=0:=by omega
         exact h
  |succ m ih=>
    rw [Qe2]
    by_cases e:j=m+1
    · subst e;rw [Qe2]at h;exact h
    · rw [ih (by omega)];rfl
theorem Zi0 (n j k:Nat) (hj:j≤5):cw n j k≤1920:=by
  unfold cw
  have h1:60/bin n k≤60:=Nat.div_le_self _ _
  have h2:=Qgv j k
  have h3:2^j≤2^5:=Nat.pow_le_pow_right (by decide) hj
  have h4:=Nat.mul_le_mul h1 (Nat.le_trans h2 h3)
  omega
theorem Qgu {c:List Int} {B n j:Nat} (hc:bd B c) (hj:j≤5) (m:Nat) (hm:m≤6):(sm (fun k=>c.getD k 0*(cw n j k:Int)) m).natAbs<2^(B+11+7):=by
  refine Qsu (by omega) fun i hi=> ?_
  rw [Int.natAbs_mul,Nat.pow_add]
  refine Nat.mul_lt_mul'' (Qef hc i) ?_
  rw [Int.natAbs_natCast]
  have:=Zi0 n j i hj
  omega
/-- A coordinate at a/d,times the denominator to the power of 5. -/
def plcT (c:List Int) (a d:Int) (k:Nat):Int:=c.getD k 0*(a^k*d^(5-k))
def plc (c:List Int) (a d:Int):Int:=sm (plcT c a d) c.length
def plP (s:Sg) (a d:Int) (i:Nat):Int:=plc (s.ax.getD i []) a d
def plG (s:Sg) (a d:Int) (i:Nat):Nat:=gcdL (s.o*d^5).natAbs ((List.range i).map (plP s a d))
def at3 (P:Nat→Int) (i m:Nat):Int:=if m<i then P m else 0
theorem Qfe (s:Sg) (a d:Int) (i:Nat):plG s a d (i+1)=Nat.gcd (plG s a d i) (plP s a d i).natAbs:=by
  unfold plG;rw [List.range_succ,List.map_append];exact Qeg _ _ _
theorem Qhh {c:List Int} {a d:Int} {B:Nat} (hc:bd B c) (ha:a.natAbs<2^B) (hd:d.natAbs<2^B) (k:Nat) (hk:k≤5):
    (a^k).natAbs<2^(B*5+1)∧(d^(5-k)).natAbs<2^(B*5+1)∧(a^k*d^(5-k)).natAbs<2^(B*5+1+(B*5+1))∧(plcT c a d k).natAbs<2^(B+(B*5+1+(B*5+1))):=by
  have h1:(a^k).natAbs<2^(B*5+1):=Nat.lt_of_lt_of_le (Qb0 ha k) (Nat.pow_le_pow_right (by decide) (by have:=Nat.mul_le_mul_left B hk;omega))
  have h2:(d^(5-k)).natAbs<2^(B*5+1):=Nat.lt_of_lt_of_le (Qb0 hd (5-k)) (Nat.pow_le_pow_right (by decide) (by have:=Nat.mul_le_mul_left B (show 5-k≤5 by omega);omega))
  have h3:(a^k*d^(5-k)).natAbs<2^(B*5+1+(B*5+1)):=by rw [Int.natAbs_mul,Nat.pow_add];exact Nat.mul_lt_mul'' h1 h2
  refine⟨h1,h2,h3,?_⟩
  unfold plcT
  rw [Int.natAbs_mul,Nat.pow_add _ B]
  exact Nat.mul_lt_mul'' (Qef hc k) h3
theorem Qdl {c:List Int} {a d:Int} {B:Nat} (hc:bd B c) (ha:a.natAbs<2^B) (hd:d.natAbs<2^B) (m:Nat) (hm:m≤6):(sm (plcT c a d) m).natAbs<2^(B+(B*5+1+(B*5+1))+7):=
  Qsu (by omega) fun i hi=>(Qhh hc ha hd i (by omega)).2.2.2
theorem Qsv {s:Sg} {a d:Int} (ho:1≤s.o) (hd:1≤d) (i:Nat):0<plG s a d i:=by
  induction i with
  |zero=>
    show 0<(s.o*d^5).natAbs
    have h:0<s.o*d^5:=Int.mul_pos (by omega) (Int.pow_pos (by omega))
    omega
  |succ i ih=>rw [Qfe];exact Nat.gcd_pos_of_pos_left _ ih
theorem Zbq {s:Sg} {d:Int} {B:Nat} (ho:s.o.natAbs<2^B) (hd:d.natAbs<2^B):(s.o*d^5).natAbs<2^(B+(B*5+1)):=by
  rw [Int.natAbs_mul,Nat.pow_add _ B]
  exact Nat.mul_lt_mul'' ho (Qb0 hd 5)
theorem Qug {s:Sg} {a d:Int} {B:Nat} (hc: ∀c∈s.ax,bd B c) (h6: ∀c∈s.ax,c.length≤6) (ha:a.natAbs<2^B) (hd:d.natAbs<2^B) (i:Nat) (hi:i<3):
    (plP s a d i).natAbs<2^(B+(B*5+1+(B*5+1))+7):=by
  have hi':i<s.ax.length:=hi
  have hm:s.ax.getD i []=s.ax[i]:=by rw [List.getD_eq_getElem?_getD,List.getElem?_eq_getElem hi'];rfl
  unfold plP plc
  rw [hm]
  exact Qdl (hc _ (List.getElem_mem hi')) ha hd _ (h6 _ (List.getElem_mem hi'))
theorem Zl6 {s:Sg} {a d:Int} {B:Nat} (hc: ∀c∈s.ax,bd B c) (h6: ∀c∈s.ax,c.length≤6) (ho:s.o.natAbs<2^B) (ha:a.natAbs<2^B) (hd:d.natAbs<2^B) (i:Nat) (hi:i≤3):
    ((plG s a d i:Nat):Int).natAbs<2^(B+(B*5+1+(B*5+1))+7):=by
  rw [Int.natAbs_natCast]
  refine Qex _ (Nat.lt_of_lt_of_le (Zbq ho hd) (Nat.pow_le_pow_right (by decide) (by omega))) ?_
  intro x hx
  simp only [List.mem_map,List.mem_range]at hx
  obtain⟨m,hm,rfl⟩:=hx
  exact Qug hc h6 ha hd m (by omega)
end Go.Dg

namespace Go.Proofs.YtlpiamlgibomhaaGreat
open Go.Vl Go.RowKit Go.Dg
theorem Qf2 {x y:Int} (hx:x.natAbs<2^65536) (hy:y.natAbs<2^65536) (h:(x+y).natAbs<2^65536):Qag Tryz.prog 63 [wPV x,wPV y] (wPV (x+y)):=by
 have h1:=Zea hx hy
 rw [Qh9 h]at h1
 generalize x+y=S at*
 refine Qac (tb:=[]) 14 [.cell 4 31] [0,1,2,3,4,5] mixed Tryz.func63 rfl (by kernel_rfl) (by kernel_rfl) (by kernel_rfl) (by kernel_rfl) ?_
 repeat (first|(simp -implicitDefEqProofs only [go_sem,Nat.reduceAdd,Nat.reduceMul,Nat.reduceEqDiff,Nat.reduceLT,Nat.reduceLeDiff,reduceCtorEq,wPV])|((with_reducible refine Qab (h1) ?_ ?_ ?_);(with_reducible rfl);rfl))
theorem Qf3 {x y:Int} (hx:x.natAbs<2^65536) (hy:y.natAbs<2^65536) (h:(x*y).natAbs<2^65536):Qag Tryz.prog 88 [wPV x,wPV y] (wPV (x*y)):=by
 have h1:=Zd9 hx hy
 rw [Qh9 h]at h1
 generalize x*y=S at*
 refine Qac (tb:=[]) 14 [.cell 4 31] [0,1,2,3,4,5] mixed Tryz.func88 rfl (by kernel_rfl) (by kernel_rfl) (by kernel_rfl) (by kernel_rfl) ?_
 repeat (first|(simp -implicitDefEqProofs only [go_sem,Nat.reduceAdd,Nat.reduceMul,Nat.reduceEqDiff,Nat.reduceLT,Nat.reduceLeDiff,reduceCtorEq,wPV])|((with_reducible refine Qab (h1) ?_ ?_ ?_);(with_reducible rfl);rfl))
theorem Zi1 {a b K:Nat} (ha:a<K) (hb:b<K):Nat.gcd a b<K:=by
 rcases Nat.eq_zero_or_pos a with h|h
 ·subst h;rw [Nat.gcd_zero_left];exact hb
 ·exact Nat.lt_of_le_of_lt (Nat.le_of_dvd h (Nat.gcd_dvd_left _ _)) ha
theorem Qm9 {x y:Int} (hx:x.natAbs<2^65536) (hy:y.natAbs<2^65536):Qag Tryz.prog 50 [wPV x,wPV y] (wPV ((Nat.gcd x.natAbs y.natAbs:Nat):Int)):=by
 have h1:=Zml hx hy
 rw [Qh9 (by rw [Int.natAbs_natCast];exact Zi1 hx hy)]at h1
 generalize ((Nat.gcd x.natAbs y.natAbs:Nat):Int)=S at*
 refine Qac (tb:=[]) 14 [.cell 4 31] [0,1,2,3,4,5] mixed Tryz.func50 rfl (by kernel_rfl) (by kernel_rfl) (by kernel_rfl) (by kernel_rfl) ?_
 repeat (first|(simp -implicitDefEqProofs only [go_sem,Nat.reduceAdd,Nat.reduceMul,Nat.reduceEqDiff,Nat.reduceLT,Nat.reduceLeDiff,reduceCtorEq,wPV])|((with_reducible refine Qab (h1) ?_ ?_ ?_);(with_reducible rfl);rfl))
theorem Q3l {n:Int} (h:n.natAbs<2^65536):outN n=n:=by rw [outN,if_neg (Nat.not_lt.2 (Qde 65536 _ h))]
theorem Quh {x y:Int} {B:Nat} (hx:x.natAbs<2^B) (hy:0<y):(x/y).natAbs<2^B∨(x/y).natAbs≤2^B:=by
 right
 obtain⟨m,rfl⟩: ∃m:Nat,y=(m+1:Nat):=⟨y.toNat-1,by omega⟩
 have:=Int.natAbs_ediv_le_natAbs x ((m+1:Nat):Int)
 omega
theorem Qh4 {x y:Int} {B:Nat} (hx:x.natAbs<2^B) (hB:B≤65000) (hy:y.natAbs<2^65000) (h0:0<y):Qag Tryz.prog 62 [wPV x,wPV y] (wPV (x/y)):=by
 have h1:=Zmo (Qar hx (by omega)) (Qar hy (by omega)) (show y≠0 by omega)
 have hq:(x/y).natAbs<2^(B+1):=by
  rw [Nat.pow_succ]
  have h2:0<2^B:=Nat.two_pow_pos B
  rcases Quh hx h0 with h|h<;>omega
 have hr:(x%y).natAbs<2^65000:=by
  have h2:=Int.emod_nonneg x (show y≠0 by omega)
  have h3:=Int.emod_lt_of_pos x h0
  generalize 2^65000=K at*
  omega
 unfold Zcj at h1
 rw [Q3l (Qar hq (by omega)),Q3l (Qar hr (by omega))]at h1
 generalize x/y=S at*
 generalize x%y=R at*
 refine Qac (tb:=[]) 16 [.cell 4 31] [0,1,2,3,4,5] mixed Tryz.func62 rfl (by kernel_rfl) (by kernel_rfl) (by kernel_rfl) (by kernel_rfl) ?_
 repeat (first|(simp -implicitDefEqProofs only [go_sem,Nat.reduceAdd,Nat.reduceMul,Nat.reduceEqDiff,Nat.reduceLT,Nat.reduceLeDiff,reduceCtorEq,wPV])|((with_reducible refine Qab (h1) ?_ ?_ ?_);(with_reducible rfl);rfl))
theorem Qk8 {n:Int} {B:Nat} (h:n.natAbs<2^B) (k:Nat):(n^k).natAbs<2^(B*k+1):=Qb0 h k
theorem Qc2 (n:Int) (k B:Nat) (hn: -9223372036854775808≤n) (hn2:n≤9223372036854775807) (hk:k≤100) (hB:B≤600) (hb:n.natAbs<2^B):Qag Tryz.prog 99 [.int .i64 n,.int .i64 (k:Int)] (wPV (n^k)):=by
 have h1:=Qen 1 (by decide) (by decide)
 have h2:=Qen n hn hn2
 refine Qac (tb:=[]) 16 [.cell 4 31] [0,1,4,5,7,8,9] mixed Tryz.func99 rfl (by kernel_rfl) (by kernel_rfl) (by kernel_rfl) (by kernel_rfl) ?_
 repeat (first|(simp -implicitDefEqProofs only [go_sem,Nat.reduceAdd,Nat.reduceMul,Nat.reduceEqDiff,Nat.reduceLT,Nat.reduceLeDiff,reduceCtorEq,Int.reduceLT,wPV])|((with_reducible refine Qab (h1) ?_ ?_ ?_);(with_reducible rfl);rfl)|(with_reducible exact Qaa _ _ (by kernel_rfl))|(with_reducible refine And.intro (Qaa _ _ (by kernel_rfl)) ?_))
 refine Qas mixed (fun i:{i:Nat // i≤k}=>St.of [(0,.int .i64 n),(4,.bp 0 2 0 0),(5,.bp 101 2 0 0),(7,.int .i64 (k:Int)),(8,.int .i64 (i.1:Int))]
  [(0,{els:=[.agg [.bool false,.str ⟨#[]⟩]],esz:=2,ety:=31,fro:=0,live:=true,arr:=false}),(101,{els:=[wPV (n^i.1)],esz:=2,ety:=31,fro:=0,live:=true,arr:=false})]) (fun i=>k-i.1) ⟨0,Nat.zero_le _⟩ ?_ ?_
 ·refine Qal (θ:=[(0,0),(101,101)]) rfl ?_ ?_
  ·simp [Qad,lkp,ren1,ren0]
  ·refine⟨⟨rfl,rfl,rfl,rfl,rfl,.inr ⟨rfl,_,_,rfl,rfl,rfl,rfl⟩⟩,⟨rfl,rfl,rfl,rfl,rfl,.inr ⟨rfl,_,_,rfl,rfl,?_,rfl⟩⟩,trivial⟩
   simp only [Int.pow_zero];rfl
 ·rintro⟨i,hi⟩
  by_cases hA:i<k
  ·have hA':=ltT hA
   have hwk:=Qaj (a:=i) (by omega)
   have hp:=Qk8 hb i
   have hp1:=Qk8 hb (i+1)
   have hBk:B*(i+1)≤600*100:=Nat.mul_le_mul hB (by omega)
   have hBi:B*i≤B*(i+1):=Nat.mul_le_mul_left _ (by omega)
   have e:n^(i+1)=n^i*n:=Int.pow_succ n i
   rw [e]at hp1
   have hm:=Qf3 (Qar hp (by omega)) (Qar hb (by omega)) (Qar hp1 (by omega))
   rw [←e]at hm
   generalize hX:n^(i+1)=Y at*
   generalize n^i=Z at*
   repeat (first|(simp -implicitDefEqProofs only [go_sem,Nat.reduceAdd,Nat.reduceMul,Nat.reduceEqDiff,Nat.reduceLT,Nat.reduceLeDiff,reduceCtorEq,wPV,hA',hwk])|((with_reducible refine Qab (h2) ?_ ?_ ?_);(with_reducible rfl);rfl)|((with_reducible refine Qab (hm) ?_ ?_ ?_);(with_reducible rfl);rfl)|(with_reducible exact Qaa _ _ (by kernel_rfl))|(with_reducible refine And.intro (Qaa _ _ (by kernel_rfl)) ?_))
   refine⟨⟨i+1,hA⟩,by simp only;omega,Qal (θ:=[(0,0),(101,101)]) rfl ?_ ?_⟩
   ·simp [Qad,lkp,ren1,ren0]
   ·simp only [hX]
    exact⟨⟨rfl,rfl,rfl,rfl,rfl,.inr ⟨rfl,_,_,rfl,rfl,rfl,rfl⟩⟩,⟨rfl,rfl,rfl,rfl,rfl,.inr ⟨rfl,_,_,rfl,rfl,rfl,rfl⟩⟩,trivial⟩
  ·have hA':=ltF hA
   obtain rfl:i=k:=by omega
   generalize n^i=Z at*
   repeat (first|(simp -implicitDefEqProofs only [go_sem,Nat.reduceAdd,Nat.reduceMul,Nat.reduceEqDiff,Nat.reduceLT,Nat.reduceLeDiff,reduceCtorEq,wPV,hA'])|(with_reducible exact Qaa _ _ (by kernel_rfl))|(with_reducible refine And.intro (Qaa _ _ (by kernel_rfl)) ?_))
end Go.Proofs.YtlpiamlgibomhaaGreat

namespace Go.Proofs.YtlpiamlgibomhaaGreat
open Go.Vl Go.RowKit Go.Dg
def Qqd:List PV:=(List.range 36).map fun i=> .int .i64 (bin (i/6) (i%6):Int)
theorem Q3m:Qag Tryz.prog 87 [] (.agg Qqd):=Q56 mixed 200 5 (by kernel_rfl)
theorem Qqe (n k:Nat) (hn:n<6) (hk:k<6):Qqd[n*6+k*1]? =some (.int .i64 (bin n k:Int)):=by
 unfold Qqd
 rw [List.getElem?_map,List.getElem?_range (by omega)]
 have h1:(n*6+k*1)/6=n:=by omega
 have h2:(n*6+k*1)%6=k:=by omega
 show some (PV.int .i64 (bin ((n*6+k*1)/6) ((n*6+k*1)%6):Int))=_
 rw [h1,h2]
theorem Qxn:Qqd.all Qtg=true:=by kernel_rfl
theorem Zbr:Qqd.all PV.okCell=true:=by kernel_rfl
theorem Q3n:Qqd.length=36:=by kernel_rfl
theorem Zl7:wPV 0= .agg [.bool false,.str ⟨#[]⟩]:=by unfold wPV;rw [(Qox 0).2 rfl];rfl
theorem Q3o (c:List Int) (o:Int) (h1:1≤c.length) (h6:c.length≤6) (hc: ∀x∈c, -9223372036854775808≤x∧x≤9223372036854775807) (ho:1≤o) (ho2:o≤4294967296):
  Qag Tryz.prog 49 [Qan c,.int .i64 o] (.bool (Qcw c o c.length)):=by
 have hch:=Q3m
 have w1:=Qen 62914560 (by decide) (by decide)
 have w2:=Qen o (by omega) (by omega)
 have p64:(2:Nat)^64=18446744073709551616:=rfl
 have b1:(62914560:Int).natAbs<2^64:=by decide
 have b2:o.natAbs<2^64:=by omega
 have b3:(62914560*o).natAbs<2^128:=Qf4 b1 b2
 have m1:=Qf3 (Qar b1 (by decide)) (Qar b2 (by decide)) (Qar b3 (by decide))
 have hcb:bd 64 c:=fun x hx=>by have:=hc x hx;omega
 have wl:=Qfd (n:=c.length) (by omega) (by omega)
 generalize hM:62914560*o=M at*
 refine Qac (tb:=[]) 57 [.tmp 4] [0,1,4,5,6,7,8,9,10,20,21,22,25,26,27,55] mixed Tryz.func49 rfl (by kernel_rfl) (by kernel_rfl) (by kernel_rfl) (by kernel_rfl) ?_
 repeat (first|(simp -implicitDefEqProofs only [go_sem,Nat.reduceAdd,Nat.reduceMul,Nat.reduceEqDiff,Nat.reduceLT,Nat.reduceLeDiff,reduceCtorEq,Int.reduceLT,wPV,Qan,List.length_map,wl,Q3n,Qxn,Zbr])|((with_reducible refine Qab (hch) ?_ ?_ ?_);(with_reducible rfl);rfl)|((with_reducible refine Qab (w1) ?_ ?_ ?_);(with_reducible rfl);rfl)|((with_reducible refine Qab (w2) ?_ ?_ ?_);(with_reducible rfl);rfl)|((with_reducible refine Qab (m1) ?_ ?_ ?_);(with_reducible rfl);rfl)|(with_reducible exact Qaa _ _ (by kernel_rfl))|(with_reducible refine And.intro (Qaa _ _ (by kernel_rfl)) ?_))
 refine Qas mixed (fun j:{j:Nat // j≤c.length∧Qcw c o j=true}=>St.of [(0,Qan c),(4,.bool false),(5,.bp 101 36 0 0),(6,.bp 204 2 0 0),(7,.int .i64 ((c.length-1:Nat):Int)),(20,.int .i64 (c.length:Int)),(21,.int .i64 (j.1:Int))]
  [(101,{els:=[.agg Qqd],esz:=36,ety:=131,fro:=0,live:=true,arr:=false}),(204,{els:=[wPV M],esz:=2,ety:=31,fro:=0,live:=true,arr:=false})]) (fun j=>c.length-j.1) ⟨0,Nat.zero_le _,rfl⟩ ?_ ?_
 ·refine Qal (θ:=[(101,101),(204,204)]) rfl ?_ ?_
  ·simp [Qad,lkp,ren1,ren0,Qan]
  ·exact⟨⟨rfl,rfl,rfl,rfl,rfl,.inr ⟨rfl,_,_,rfl,rfl,rfl,rfl⟩⟩,⟨rfl,rfl,rfl,rfl,rfl,.inr ⟨rfl,_,_,rfl,rfl,rfl,rfl⟩⟩,trivial⟩
 ·rintro⟨j,hj,hall⟩
  by_cases hA:j<c.length
  ·have hA':=ltT hA
   have hwk:=Qaj (a:=j) (by omega)
   repeat (first|(simp -implicitDefEqProofs only [go_sem,Nat.reduceAdd,Nat.reduceMul,Nat.reduceEqDiff,Nat.reduceLT,Nat.reduceLeDiff,reduceCtorEq,hA',hwk])|(with_reducible exact Qaa _ _ (by kernel_rfl))|(with_reducible refine And.intro (Qaa _ _ (by kernel_rfl)) ?_))
   refine Qas mixed (fun k:{k:Nat // k≤j+1}=>St.of [(0,Qan c),(4,.bool false),(5,.bp 101 36 0 0),(6,.bp 204 2 0 0),(7,.int .i64 ((c.length-1:Nat):Int)),(20,.int .i64 (c.length:Int)),(21,.int .i64 (j:Int)),(8,.int .i64 (j:Int)),(9,.bp 700 2 0 0),(25,.int .i64 ((j+1:Nat):Int)),(26,.int .i64 (k.1:Int))]
    [(101,{els:=[.agg Qqd],esz:=36,ety:=131,fro:=0,live:=true,arr:=false}),(204,{els:=[wPV M],esz:=2,ety:=31,fro:=0,live:=true,arr:=false}),(700,{els:=[wPV (sm (fun k=>c.getD k 0*(cw (c.length-1) j k:Int)) k.1)],esz:=2,ety:=31,fro:=0,live:=true,arr:=false})]) (fun k=>j+1-k.1) ⟨0,Nat.zero_le _⟩ ?_ ?_
   ·refine Qal (θ:=[(101,101),(204,204),(700,700)]) rfl ?_ ?_
    ·simp [Qad,lkp,ren1,ren0,Qan]
    ·refine⟨⟨rfl,rfl,rfl,rfl,rfl,.inr ⟨rfl,_,_,rfl,rfl,rfl,rfl⟩⟩,⟨rfl,rfl,rfl,rfl,rfl,.inr ⟨rfl,_,_,rfl,rfl,rfl,rfl⟩⟩,⟨rfl,rfl,rfl,rfl,rfl,.inr ⟨rfl,_,_,rfl,rfl,?_,rfl⟩⟩,trivial⟩
     simp only [sm];rw [Zl7];rfl
   ·rintro⟨k,hk⟩
    by_cases hB:k<j+1
    ·have hB':=ltT hB
     have hkc:k<c.length:=by omega
     have h0:=nnT k
     have hg:=Qb2 c k hkc
     have hwk2:=Qaj (a:=k) (by omega)
     have g1:=Qqe (c.length-1) k (by omega) (by omega)
     have g2:=Qqe j k (by omega) (by omega)
     have hb0:((bin (c.length-1) k:Int)=0)=False:=eq_false (by have:=Qs2 (n:=c.length-1) (k:=k) (by omega);omega)
     have t1:Int.tdiv 60 (bin (c.length-1) k:Int)=((60/bin (c.length-1) k:Nat):Int):=Qos 60 _
     have d60:60/bin (c.length-1) k≤60:=Nat.div_le_self _ _
     have wk1:IntKind.i64.wrap ((60/bin (c.length-1) k:Nat):Int)=((60/bin (c.length-1) k:Nat):Int):=wrapn (by omega)
     have hcw:=Zi0 (c.length-1) j k (by omega)
     have ecw:((60/bin (c.length-1) k:Nat):Int)*(bin j k:Int)=(cw (c.length-1) j k:Int):=by rw [cw,Int.natCast_mul]
     have wk2:IntKind.i64.wrap (cw (c.length-1) j k:Int)=(cw (c.length-1) j k:Int):=wrapn (by omega)
     obtain⟨k1,k2⟩:=hc _ (List.getElem_mem hkc)
     have o1:=Qen c[k] k1 k2
     have o2:=Qen (cw (c.length-1) j k:Int) (by omega) (by omega)
     have x1:(c[k]).natAbs<2^64:=hcb _ (List.getElem_mem hkc)
     have x2:(cw (c.length-1) j k:Int).natAbs<2^11:=by rw [Int.natAbs_natCast];omega
     have m2:=Qf3 (Qar x1 (by decide)) (Qar x2 (by decide)) (Qar (Qf4 x1 x2) (by decide))
     have y1:=Qgu (n:=c.length-1) (j:=j) hcb (by omega) k (by omega)
     have y2:=Qgu (n:=c.length-1) (j:=j) hcb (by omega) (k+1) (by omega)
     have es:sm (fun k=>c.getD k 0*(cw (c.length-1) j k:Int)) (k+1)=sm (fun k=>c.getD k 0*(cw (c.length-1) j k:Int)) k+c[k]*(cw (c.length-1) j k:Int):=by simp only [sm];rw [Qb6 hkc]
     rw [es]at y2
     have a1:=Qf2 (Qar y1 (by decide)) (Qar (Qf4 x1 x2) (by decide)) (Qar y2 (by decide))
     rw [←es]at a1
     generalize hX:sm (fun k=>c.getD k 0*(cw (c.length-1) j k:Int)) (k+1)=X at*
     generalize sm (fun k=>c.getD k 0*(cw (c.length-1) j k:Int)) k=Y at*
     generalize c[k]*(cw (c.length-1) j k:Int)=Z at*
     generalize (cw (c.length-1) j k:Int)=V at*
     have l1:=ltT (show c.length-1<6 by omega)
     have l2:=ltT (show k<6 by omega)
     have l3:=ltT (show j<6 by omega)
     have n1:=nnT (c.length-1)
     have n2:=nnT j
     repeat (first|(simp -implicitDefEqProofs only [go_sem,Nat.reduceAdd,Nat.reduceMul,Nat.reduceEqDiff,Nat.reduceLT,Nat.reduceLeDiff,reduceCtorEq,Qan,wPV,hB',h0,l1,l2,l3,n1,n2,hg,hwk2,g1,g2,hb0,t1,wk1,ecw,wk2,Int.toNat_natCast,List.length_map])|((with_reducible refine Qab (o1) ?_ ?_ ?_);(with_reducible rfl);rfl)|((with_reducible refine Qab (o2) ?_ ?_ ?_);(with_reducible rfl);rfl)|((with_reducible refine Qab (m2) ?_ ?_ ?_);(with_reducible rfl);rfl)|((with_reducible refine Qab (a1) ?_ ?_ ?_);(with_reducible rfl);rfl)|(with_reducible exact Qaa _ _ (by kernel_rfl))|(with_reducible refine And.intro (Qaa _ _ (by kernel_rfl)) ?_))
     refine⟨⟨k+1,hB⟩,by simp only;omega,Qal (θ:=[(101,101),(204,204),(700,700)]) rfl ?_ ?_⟩
     ·simp [Qad,lkp,ren1,ren0,Qan]
     ·simp only [hX]
      exact⟨⟨rfl,rfl,rfl,rfl,rfl,.inr ⟨rfl,_,_,rfl,rfl,rfl,rfl⟩⟩,⟨rfl,rfl,rfl,rfl,rfl,.inr ⟨rfl,_,_,rfl,rfl,rfl,rfl⟩⟩,⟨rfl,rfl,rfl,rfl,rfl,.inr ⟨rfl,_,_,rfl,rfl,rfl,rfl⟩⟩,trivial⟩
    ·have hB':=ltF hB
     obtain rfl:k=j+1:=by omega
     have ec:sm (fun k=>c.getD k 0*(cw (c.length-1) j k:Int)) (j+1)=ctl c j:=rfl
     simp only [ec]
     have y3:=Qgu (n:=c.length-1) (j:=j) hcb (by omega) (j+1) (by omega)
     rw [ec]at y3
     have y4:(((ctl c j).natAbs:Nat):Int).natAbs<2^(64+11+7):=by rw [Int.natAbs_natCast];exact y3
     have hcm:=Qnf (Qar y4 (by decide)) (Qar b3 (by decide))
     have ea:wPV (((ctl c j).natAbs:Nat):Int)= .agg [.bool false,.str ⟨(magL (ctl c j).natAbs).toArray⟩]:=by
      unfold wPV
      have:decide ((((ctl c j).natAbs:Nat):Int)<0)=false:=by simp
      rw [this,Int.natAbs_natCast]
     rw [ea]at hcm
     by_cases hle:((ctl c j).natAbs:Int)≤M
     ·have hs:((0:Int)<((((ctl c j).natAbs:Nat):Int)-M).sign)=False:=eq_false (by have:=Int.sign_nonpos_iff.2 (show(((ctl c j).natAbs:Nat):Int)-M≤0 by omega);omega)
      have hn:Qcw c o (j+1)=true:=by rw [Qe2,hall,hM];simp [hle]
      generalize ctl c j=X at*
      repeat (first|(simp -implicitDefEqProofs only [go_sem,Nat.reduceAdd,Nat.reduceMul,Nat.reduceEqDiff,Nat.reduceLT,Nat.reduceLeDiff,reduceCtorEq,wPV,hB',hs,hwk])|((with_reducible refine Qab (hcm) ?_ ?_ ?_);(with_reducible rfl);rfl)|(with_reducible exact Qaa _ _ (by kernel_rfl))|(with_reducible refine And.intro (Qaa _ _ (by kernel_rfl)) ?_))
      refine⟨⟨j+1,hA,hn⟩,by simp only;omega,Qal (θ:=[(101,101),(204,204)]) rfl ?_ ?_⟩
      ·simp [Qad,lkp,ren1,ren0,Qan]
      ·exact⟨⟨rfl,rfl,rfl,rfl,rfl,.inr ⟨rfl,_,_,rfl,rfl,rfl,rfl⟩⟩,⟨rfl,rfl,rfl,rfl,rfl,.inr ⟨rfl,_,_,rfl,rfl,rfl,rfl⟩⟩,trivial⟩
     ·have hs:((0:Int)<((((ctl c j).natAbs:Nat):Int)-M).sign)=True:=eq_true (Int.sign_pos_iff.2 (by omega))
      have hn:Qcw c o c.length=false:=Qol (j:=j+1) (by rw [Qe2,hall,hM];simp;omega) hA
      generalize ctl c j=X at*
      repeat (first|(simp -implicitDefEqProofs only [go_sem,Nat.reduceAdd,Nat.reduceMul,Nat.reduceEqDiff,Nat.reduceLT,Nat.reduceLeDiff,reduceCtorEq,wPV,hB',hs,hn])|((with_reducible refine Qab (hcm) ?_ ?_ ?_);(with_reducible rfl);rfl)|(with_reducible exact Qaa _ _ (by kernel_rfl))|(with_reducible refine And.intro (Qaa _ _ (by kernel_rfl)) ?_))
  ·have hA':=ltF hA
   obtain rfl:j=c.length:=by omega
   repeat (first|(simp -implicitDefEqProofs only [go_sem,Nat.reduceAdd,Nat.reduceMul,Nat.reduceEqDiff,Nat.reduceLT,Nat.reduceLeDiff,reduceCtorEq,hA',hall])|(with_reducible exact Qaa _ _ (by kernel_rfl))|(with_reducible refine And.intro (Qaa _ _ (by kernel_rfl)) ?_))
end Go.Proofs.YtlpiamlgibomhaaGreat
