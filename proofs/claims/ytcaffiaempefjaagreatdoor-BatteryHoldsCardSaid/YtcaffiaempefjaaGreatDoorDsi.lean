/-
  Ds, KP3, Du, KP4, Dsg, KM1, US4, UX, UX1, KM2, KM3, UXS, Dsh, Dsi (merged for the claim).
-/
import Derived.Test.YtcaffiaempefjaaGreatDoorKN2
import Derived.Test.YtcaffiaempefjaaGreatDoorKW25
import Derived.Test.YtcaffiaempefjaaGreatDoorUV
set_option linter.unusedSimpArgs false
set_option linter.unusedVariables false
namespace Go.Dg
def Qay:List Int→List Int
 | []=>[]
 |c::r=>match Qay r with
  | []=>if c=0 then []else [c]
  |d::t=>c::d::t
theorem Qce (c:Int) (r:List Int):Qay (c::r)=if Qay r=[]then(if c=0 then []else [c])else c::Qay r:=by
 rw [Qay];cases h:Qay r<;>simp
theorem Qi1: ∀l:List Int,Qay (l++[0])=Qay l
 | []=>rfl
 |c::r=>by rw [List.cons_append,Qce,Qi1 r,Qce]
theorem Qkr: ∀(l:List Int) (c:Int),c≠0→Qay (l++[c])=l++[c]
 | [],c,h=>by simp [Qay,h]
 |a::r,c,h=>by rw [List.cons_append,Qce,Qkr r c h,if_neg (by simp)]
theorem Qbv: ∀l:List Int,(Qay l).length≤l.length
 | []=>Nat.le_refl _
 |c::r=>by
  have:=Qbv r;rw [Qce];split
  ·split<;>simp
  ·simp only [List.length_cons];omega
theorem Qjj {l:List Int} {x:Int} (h:x∈Qay l):x∈l:=by
 induction l with
 |nil=>exact h
 |cons c r ih=>
  rw [Qce]at h;split at h
  ·split at h
   ·cases h
   ·simp at h;simp [h]
  ·rcases List.mem_cons.1 h with rfl|h
   ·simp
   ·exact List.mem_cons_of_mem _ (ih h)
theorem Qhx: ∀l:List Int,Qay (Qay l)=Qay l
 | []=>rfl
 |c::r=>by
  have ih:=Qhx r;rw [Qce];split
  ·split
   ·rfl
   ·rename_i h;simp [Qay,h]
  ·rename_i h;rw [Qce,ih,if_neg h]
def ev:List Int→Int→Int
 | [],_=>0
 |c::r,u=>c+u*ev r u
theorem Q5o: ∀(p:List Int) (u:Int),ev p u=hev p u 1
 | [],_=>rfl
 |c::r,u=>by rw [ev,hev,Q5o r u,Int.one_pow,Int.mul_one]
theorem Qfr: ∀(p:List Int) (u:Int),ev (Qay p) u=ev p u
 | [],_=>rfl
 |c::r,u=>by
  have ih:=Qfr r u;rw [Qce];split
  ·rename_i h;rw [h]at ih;have h0:ev r u=0:=ih.symm;split
   ·rename_i hc;rw [ev,ev,h0,hc];simp
   ·rw [ev,ev,ev,h0]
  ·rw [ev,ev,ih]
theorem Qvy: ∀(p:List Int),(∀u:Int,1≤u→ev p u=0)→Qay p=[]
 | [],_=>rfl
 |c::r,h=>by
  have hc:c=0:=by
   have h1:=h (c.natAbs+1) (by omega);rw [ev]at h1;generalize ev r _=A at h1;have h2:c=((c.natAbs:Int)+1)*(-A):=by rw [Int.mul_neg];omega
   have h3:((c.natAbs:Int)+1)∣c:=⟨_,h2⟩;have h4:=Int.natAbs_dvd_natAbs.2 h3;rcases Nat.eq_zero_or_pos c.natAbs with h0|h0
   ·omega
   ·have:=Nat.le_of_dvd h0 h4;omega
  subst hc;rw [Qce,Qvy r ?_]
  ·rfl
  ·intro u hu;have:=h u hu;rw [ev,Int.zero_add]at this;rcases Int.mul_eq_zero.1 this with h|h
   ·omega
   ·exact h
theorem Qvz: ∀(p q:List Int),(∀u:Int,1≤u→ev p u=ev q u)→Qay p=Qay q
 | [],q,h=>(Qvy q fun u hu=>(h u hu).symm).symm
 |p,[],h=>Qvy p h
 |a::p,b::q,h=>by
  have hab:a=b:=by
   have h1:=h ((a-b).natAbs+1) (by omega);rw [ev,ev]at h1;generalize ev p _=A at h1;generalize ev q _=B at h1;have h2:a-b=(((a-b).natAbs:Int)+1)*(B-A):=by rw [Int.mul_sub];omega
   have h3:(((a-b).natAbs:Int)+1)∣(a-b):=⟨_,h2⟩;have h4:=Int.natAbs_dvd_natAbs.2 h3;rcases Nat.eq_zero_or_pos (a-b).natAbs with h0|h0
   ·omega
   ·have:=Nat.le_of_dvd h0 h4;omega
  subst hab;have ih:=Qvz p q fun u hu=>by
   have h1:=h u hu;rw [ev,ev]at h1;exact Int.eq_of_mul_eq_mul_left (a:=u) (by omega) (by omega)
  rw [Qce,Qce,ih]
theorem Q5p (p:List Int) (u:Int) {N:Nat} (h:p.length≤N):ev p u=sm (fun i=>p.getD i 0*u^i) N:=by
 rw [Q5o,Qim,Q5f _ h (fun i h1 _=>by rw [List.getD_eq_getElem?_getD,List.getElem?_eq_none h1];simp)];exact Qbd _ fun i _=>by rw [Int.one_pow,Int.mul_one]
theorem Qni (F:Nat→Int) (N i:Nat):((List.range N).map F).getD i 0=if i<N then F i else 0:=by
 rw [List.getD_eq_getElem?_getD,List.getElem?_map];by_cases h:i<N
 ·simp [h]
 ·rw [List.getElem?_eq_none (by simpa using h),if_neg h];rfl
theorem Q5q (F:Nat→Int) (N:Nat) (u:Int):ev ((List.range N).map F) u=sm (fun i=>F i*u^i) N:=by
 rw [Q5p _ u (N:=N) (by simp)];exact Qbd _ fun i hi=>by rw [Qni,if_pos hi]
def zipA (p q:List Int):List Int:=(List.range (max p.length q.length)).map fun i=>p.getD i 0+q.getD i 0
def pAdd (p q:List Int):List Int:=Qay (zipA p q)
def Qe9 (p:List Int) (c:Int):List Int:=Qay (p.map (· *c))
def conv (p q:List Int):List Int:=(List.range (p.length+q.length-1)).map fun i=>sm (fun k=>p.getD k 0*q.getD (i-k) 0) (i+1)
def pMul (p q:List Int):List Int:=Qay (conv p q)
def pPow (p:List Int):Nat→List Int
 |0=>Qay [1]
 |n+1=>pMul (pPow p n) p
theorem Q5r (p q:List Int) (u:Int):ev (pAdd p q) u=ev p u+ev q u:=by
 rw [pAdd,Qfr,zipA,Q5q,Q5p p u (N:=max p.length q.length) (Nat.le_max_left _ _),Q5p q u (N:=max p.length q.length) (Nat.le_max_right _ _),←Qti];exact Qbd _ fun i _=>Int.add_mul _ _ _
theorem Qnj (p:List Int) (c u:Int):ev (Qe9 p c) u=ev p u*c:=by
 rw [Qe9,Qfr]
 induction p with
 |nil=>simp [ev]
 |cons a r ih=>rw [List.map_cons,ev,ev,ih,Int.add_mul,Int.mul_assoc]
theorem Zpw (p q:List Int) (u:Int):ev (pMul p q) u=ev p u*ev q u:=by
 rw [pMul,Qfr,conv,Q5q];have h1:sm (fun i=>sm (fun k=>p.getD k 0*q.getD (i-k) 0) (i+1)*u^i) (p.length+q.length-1)
   =sm (fun i=>sm (fun k=>p.getD k 0*q.getD (i-k) 0*u^i) (i+1)) (p.length+q.length-1):=Qbd _ fun i _=>(Qi0 _ _ _).symm
 rw [h1,Q5g (fun k i=>p.getD k 0*q.getD (i-k) 0*u^i)];rcases Nat.eq_zero_or_pos q.length with hq|hq
 ·have e:q=[]:=List.length_eq_zero_iff.1 hq;subst e;rw [Qng _ fun i _=>Qng _ fun k _=>by simp];simp [ev]
 ·have hN:p.length≤p.length+q.length-1:=by omega
  rw [Q5p p u hN,←Qi0];refine Qbd _ fun i hi=> ?_;by_cases hip:i<p.length
  ·rw [Q5p q u (N:=p.length+q.length-1-i) (by omega),←Qdf];refine Qbd _ fun k _=> ?_;rw [show i+k-i=k by omega,Int.pow_add];simp only [Int.mul_comm,Int.mul_left_comm,Int.mul_assoc]
  ·have e:p.getD i 0=0:=by rw [List.getD_eq_getElem?_getD,List.getElem?_eq_none (by omega)];rfl
   rw [Qng _ fun k _=>by rw [e,Int.zero_mul,Int.zero_mul],e,Int.zero_mul,Int.zero_mul]
theorem Zwo (u:Int):ev (Qay [1]) u=1:=by rw [Qfr];simp [ev]
theorem Q5s (p:List Int) (u:Int): ∀n,ev (pPow p n) u=ev p u^n
 |0=>by rw [pPow,Zwo,Int.pow_zero]
 |n+1=>by rw [pPow,Zpw,Q5s p u n,Int.pow_succ]
theorem Qv0 (p q:List Int):(zipA p q).length=max p.length q.length:=by simp [zipA]
theorem Qv1 (p q:List Int):(conv p q).length=p.length+q.length-1:=by simp [conv]
theorem Qv2 (p q:List Int):(pAdd p q).length≤max p.length q.length:=by rw [←Qv0];exact Qbv _
theorem Qjk (p:List Int) (c:Int):(Qe9 p c).length≤p.length:=by rw [Qe9];exact Nat.le_trans (Qbv _) (by simp)
theorem Qv3 (p q:List Int):(pMul p q).length≤p.length+q.length-1:=by rw [←Qv1];exact Qbv _
theorem Qi2 {p:List Int} {m:Nat} (h:p.length≤m+1): ∀n,(pPow p n).length≤m*n+1
 |0=>by simp [pPow,Qay]
 |n+1=>by
  have h1:=Qv3 (pPow p n) p;have h2:=Qi2 h n;rw [pPow,Nat.mul_succ];omega
def bd (B:Nat) (p:List Int):Prop:= ∀x∈p,x.natAbs<2^B
theorem Qnk {B C:Nat} {p:List Int} (h:bd B p) (hc:B≤C):bd C p:=fun x hx=>Nat.lt_of_lt_of_le (h x hx) (Nat.pow_le_pow_right (by decide) hc)
theorem Qfs {B:Nat} {p:List Int} (h:bd B p):bd B (Qay p):=fun x hx=>h x (Qjj hx)
theorem Qfa {B:Nat} {p:List Int} (h:bd B p) (i:Nat):(p.getD i 0).natAbs<2^B:=Zev h i
theorem Zpx {B:Nat} {p q:List Int} (hp:bd B p) (hq:bd B q):bd (B+1) (pAdd p q):=by
 refine Qfs fun x hx=> ?_;obtain⟨i,_,rfl⟩:=List.mem_map.1 hx;have h1:=Qfa hp i;have h2:=Qfa hq i;rw [Nat.pow_succ];generalize 2^B=K at*;omega
theorem Qtj {B C:Nat} {p:List Int} {c:Int} (hp:bd B p) (hc:c.natAbs<2^C):bd (B+C) (Qe9 p c):=by
 refine Qfs fun x hx=> ?_;obtain⟨y,hy,rfl⟩:=List.mem_map.1 hx;rw [Int.natAbs_mul,Nat.pow_add];exact Nat.mul_lt_mul'' (hp y hy) hc
theorem Qv4 {f:Nat→Int} {B m:Nat} (hm:m≤64) (h: ∀i,i<m→(f i).natAbs<2^B):(sm f m).natAbs<2^(B+7):=by
 have h1:=Znz m (fun i hi=>Nat.le_of_lt (h i hi));have h2:m*2^B≤64*2^B:=Nat.mul_le_mul_right _ hm;have hp:0<2^B:=Nat.pow_pos (by decide);rw [Nat.pow_add,show(2:Nat)^7=128 from rfl];omega
theorem Zpy {B C:Nat} {p q:List Int} (hp:bd B p) (hq:bd C q) (hl:p.length+q.length≤64) (i m:Nat) (hm:m≤i+1) (hi:i<p.length+q.length-1):
  (sm (fun k=>p.getD k 0*q.getD (i-k) 0) m).natAbs<2^(B+C+7):=
 Qv4 (by omega) fun k _=>by
  rw [Int.natAbs_mul,Nat.pow_add];exact Nat.mul_lt_mul'' (Qfa hp k) (Qfa hq (i-k))
theorem Zpz {B C:Nat} {p q:List Int} (hp:bd B p) (hq:bd C q) (hl:p.length+q.length≤64):bd (B+C+7) (pMul p q):=by
 refine Qfs fun x hx=> ?_;obtain⟨i,hi,rfl⟩:=List.mem_map.1 hx;exact Zpy hp hq hl i (i+1) (Nat.le_refl _) (List.mem_range.1 hi)
theorem Q5t {B m:Nat} {p:List Int} (hp:bd B p) (hl:p.length≤m+1): ∀n,m*n+m≤62→bd ((B+7)*n+1) (pPow p n)
 |0,_=>by intro x hx;simp [pPow,Qay]at hx;subst hx;simp
 |n+1,h=>by
  have ih:=Q5t hp hl n (by rw [Nat.mul_succ]at h;omega);have h1:=Qi2 hl n;have:=Zpz ih hp (by rw [Nat.mul_succ]at h;omega);refine Qnk this ?_;rw [Nat.mul_succ];omega
def Zwp (f:List Int) (n:Nat):List Int:=Zwn 2 n (trans f 1 n)
def Zwq (f:List Int) (n:Nat):List Int:=(Zwp f.reverse n).reverse
end Go.Dg

namespace Go.Proofs.YtcaffiaempefjaaGreatDoor
open Go.Vl Go.RowKit Go.Dg
theorem Qgt {n:Nat} (h:0<n) (hn:n<9223372036854775808):IntKind.i64.wrap ((n:Int)-1)=((n-1:Nat):Int):=by rw [Qah (by omega) (by omega)];omega
def Qas (l:List Int):PV:= .slc (l.map (PV.int .i64))
theorem Qcv (l:List Int) (i:Nat) (h:i<l.length):(l.map (PV.int .i64))[i]? =some (.int .i64 l[i]):=by rw [List.getElem?_map,List.getElem?_eq_getElem h];rfl
theorem map_take {α β:Type} (f:α→β) (l:List α) (i:Nat) (hi:i<l.length):(l.take (i+1)).map f=(l.take i).map f++[f l[i]]:=by rw [Qbq l i hi,List.map_append];rfl
end Go.Proofs.YtcaffiaempefjaaGreatDoor

namespace Go.Dg
def Qdt (p:List Int) (a b d:Int):Nat→List Int
 |0=>[]
 |i+1=>pAdd (Qdt p a b d i) (Qe9 (pPow (Qay [a,b]) i) (p.getD i 0*d^(p.length-1-i)))
theorem Qin (a b:Int):(Qay [a,b]).length≤1+1:=Qbv _
theorem Zqe (a b u:Int):ev (Qay [a,b]) u=a+b*u:=by rw [Qfr];simp [ev,Int.mul_comm]
theorem Qy7 (p:List Int) (a b d u:Int): ∀i,ev (Qdt p a b d i) u=sm (fun k=>p.getD k 0*((a+b*u)^k*d^(p.length-1-k))) i
 |0=>rfl
 |i+1=>by
  rw [Qdt,Q5r,Qy7 p a b d u i,Qnj,Q5s,Zqe,sm];congr 1;simp only [Int.mul_comm,Int.mul_left_comm,Int.mul_assoc]
theorem Q54 (p:List Int) (a b d u:Int):ev (Qdt p a b d p.length) u=hev p (a+b*u) d:=by rw [Qy7,Qim]
theorem Qh0 (p:List Int) (a b d:Int): ∀i,Qay (Qdt p a b d i)=Qdt p a b d i
 |0=>rfl
 |i+1=>by rw [Qdt,pAdd,Qhx]
theorem Qek (p:List Int) (a b d:Int): ∀i,(Qdt p a b d i).length≤i
 |0=>Nat.le_refl _
 |i+1=>by
  rw [Qdt];have h1:=Qv2 (Qdt p a b d i) (Qe9 (pPow (Qay [a,b]) i) (p.getD i 0*d^(p.length-1-i)));have h2:=Qek p a b d i;have h3:=Qjk (pPow (Qay [a,b]) i) (p.getD i 0*d^(p.length-1-i));have h4:=Qi2 (m:=1) (Qin a b) i;omega
theorem Zqf {B:Nat} {a b:Int} (ha:a.natAbs<2^B) (hb:b.natAbs<2^B):bd B (Qay [a,b]):=Qfs fun x hx=>by
 rcases List.mem_cons.1 hx with rfl|hx
 ·exact ha
 ·rw [List.mem_singleton]at hx;subst hx;exact hb
theorem Qcf {d:Int} {D:Nat} (h:d.natAbs<2^D) (k:Nat):(d^k).natAbs<2^(D*k+1):=by
 rw [Int.natAbs_pow];have h1:d.natAbs^k≤(2^D)^k:=Nat.pow_le_pow_left (Nat.le_of_lt h) k;rw [←Nat.pow_mul]at h1;rw [Nat.pow_succ];have:=Nat.pow_pos (n:=D*k) (show 0<2 by decide);omega
theorem Qy8 {B C D:Nat} {p:List Int} {a b d:Int} (hp:bd B p) (ha:a.natAbs<2^C) (hb:b.natAbs<2^C) (hd:d.natAbs<2^D) (hl:p.length≤30):
  ∀i,i≤p.length→bd ((C+7)*30+1+(B+(D*30+1))+i) (Qdt p a b d i)
 |0,_=>fun x hx=>by cases hx
 |i+1,h=>by
  have ih:=Qy8 hp ha hb hd hl i (by omega);have h1:=Q5t (m:=1) (Zqf ha hb) (Qin a b) i (by omega);have h2:(C+7)*i≤(C+7)*30:=Nat.mul_le_mul_left _ (by omega);have h3:=Qcf hd (p.length-1-i);have h4:D*(p.length-1-i)≤D*30:=Nat.mul_le_mul_left _ (by omega);have h5:(p.getD i 0*d^(p.length-1-i)).natAbs<2^(B+(D*30+1)):=by
   rw [Int.natAbs_mul,Nat.pow_add];exact Nat.mul_lt_mul'' (Qfa hp i) (Nat.lt_of_lt_of_le h3 (Nat.pow_le_pow_right (by decide) (by omega)))
  have h6:=Qtj (Qnk h1 (show(C+7)*i+1≤(C+7)*30+1 by omega)) h5;exact Zpx ih (Qnk h6 (Nat.le_add_right _ i))
end Go.Dg

namespace Go.Proofs.YtcaffiaempefjaaGreatDoor
open Go.Vl Go.RowKit Go.Dg
end Go.Proofs.YtcaffiaempefjaaGreatDoor

namespace Go.Dg

structure Sg where
  f:Int
  t:Int
  o:Int
  x:List Int
  y:List Int
  z:List Int

/-- The weight of a coefficient in a control value,times 60. -/
def cw (n j k:Nat):Nat:=60/bin n k*bin j k
def ctl (c:List Int) (j:Nat):Int:=sm (fun k=>c.getD k 0*(cw (c.length-1) j k:Int)) (j+1)
/-- The first j control values are within the bounds. -/
def Qdd (c:List Int) (o:Int) (j:Nat):Bool:=(List.range j).all fun j=>decide (((ctl c j).natAbs:Int)≤62914560*o)
def Qi3 (c:List Int):Bool:=decide (1≤c.length)&&(decide (c.length≤6)&&(decide (c.length≤1)|| !(c.getD (c.length-1) 0==0)))
def axOK (c:List Int) (o:Int):Bool:=Qi3 c&&Qdd c o c.length
def gcdL (g:Nat) (c:List Int):Nat:=c.foldl (fun g x=>Nat.gcd g x.natAbs) g
def Sg.ax (s:Sg):List (List Int):=[s.x,s.y,s.z]
def rngS (s:Sg):Bool:=decide (0≤s.f)&&(decide (s.f<s.t)&&(decide (s.t≤3600000)&&(decide (1≤s.o)&&decide (s.o≤4294967296))))
def Qau (s:Sg):Bool:=rngS s&&((s.ax.all fun c=>axOK c s.o)&&(s.ax.foldl gcdL s.o.natAbs==1))

theorem Qfb (g:Nat) (c:List Int) (x:Int):gcdL g (c++[x])=Nat.gcd (gcdL g c) x.natAbs:=by simp [gcdL]
theorem Qf0 {g:Nat} (c:List Int) {K:Nat} (hg:g<K) (hc: ∀x∈c,x.natAbs<K):gcdL g c<K:=by
  induction c generalizing g with
  |nil=>exact hg
  |cons x c ih=>
    refine ih (g:=Nat.gcd g x.natAbs) ?_ fun y hy=>hc y (by simp [hy]);rcases Nat.eq_zero_or_pos g with h|h
    · subst h;rw [Nat.gcd_zero_left];exact hc x (by simp)
    · exact Nat.lt_of_le_of_lt (Nat.le_of_dvd h (Nat.gcd_dvd_left _ _)) hg
theorem Qga (c:List Int) (o:Int) (j:Nat):Qdd c o (j+1)=(Qdd c o j&&decide (((ctl c j).natAbs:Int)≤62914560*o)):=by
  simp [Qdd,List.range_succ]
theorem Qri {c:List Int} {o:Int} {j m:Nat} (h:Qdd c o j=false) (hm:j≤m):Qdd c o m=false:=by
  induction m with
  |zero=>
        obtain rfl:j=0:=by omega
        exact h
  |succ m ih=>
    rw [Qga];by_cases e:j=m+1
    · subst e;rw [Qga]at h;exact h
    · rw [ih (by omega)];rfl
theorem Zp0 (n j k:Nat) (hj:j≤5):cw n j k≤1920:=by
  unfold cw;have h1:60/bin n k≤60:=Nat.div_le_self _ _;have h2:=Qhw j k;have h3:2^j≤2^5:=Nat.pow_le_pow_right (by decide) hj;have h4:=Nat.mul_le_mul h1 (Nat.le_trans h2 h3);omega
theorem Qhy {c:List Int} {B n j:Nat} (hc:bd B c) (hj:j≤5) (m:Nat) (hm:m≤6):(sm (fun k=>c.getD k 0*(cw n j k:Int)) m).natAbs<2^(B+11+7):=by
  refine Qv4 (by omega) fun i hi=> ?_;rw [Int.natAbs_mul,Nat.pow_add];refine Nat.mul_lt_mul'' (Qfa hc i) ?_;rw [Int.natAbs_natCast];have:=Zp0 n j i hj;omega
/-- A coordinate at a/d,times the denominator to the power of 5. -/
def plcT (c:List Int) (a d:Int) (k:Nat):Int:=c.getD k 0*(a^k*d^(5-k))
def plc (c:List Int) (a d:Int):Int:=sm (plcT c a d) c.length
def plP (s:Sg) (a d:Int) (i:Nat):Int:=plc (s.ax.getD i []) a d
def plG (s:Sg) (a d:Int) (i:Nat):Nat:=gcdL (s.o*d^5).natAbs ((List.range i).map (plP s a d))
def at3 (P:Nat→Int) (i m:Nat):Int:=if m<i then P m else 0
theorem Qdq (s:Sg) (a d:Int) (i:Nat):plG s a d (i+1)=Nat.gcd (plG s a d i) (plP s a d i).natAbs:=by
  unfold plG;rw [List.range_succ,List.map_append];exact Qfb _ _ _
theorem Qi4 {c:List Int} {a d:Int} {B:Nat} (hc:bd B c) (ha:a.natAbs<2^B) (hd:d.natAbs<2^B) (k:Nat) (hk:k≤5):
    (a^k).natAbs<2^(B*5+1)∧(d^(5-k)).natAbs<2^(B*5+1)∧(a^k*d^(5-k)).natAbs<2^(B*5+1+(B*5+1))∧(plcT c a d k).natAbs<2^(B+(B*5+1+(B*5+1))):=by
  have h1:(a^k).natAbs<2^(B*5+1):=Nat.lt_of_lt_of_le (Qcf ha k) (Nat.pow_le_pow_right (by decide) (by have:=Nat.mul_le_mul_left B hk;omega));have h2:(d^(5-k)).natAbs<2^(B*5+1):=Nat.lt_of_lt_of_le (Qcf hd (5-k)) (Nat.pow_le_pow_right (by decide) (by have:=Nat.mul_le_mul_left B (show 5-k≤5 by omega);omega));have h3:(a^k*d^(5-k)).natAbs<2^(B*5+1+(B*5+1)):=by rw [Int.natAbs_mul,Nat.pow_add];exact Nat.mul_lt_mul'' h1 h2
  refine⟨h1,h2,h3,?_⟩;unfold plcT;rw [Int.natAbs_mul,Nat.pow_add _ B];exact Nat.mul_lt_mul'' (Qfa hc k) h3
theorem Qec {c:List Int} {a d:Int} {B:Nat} (hc:bd B c) (ha:a.natAbs<2^B) (hd:d.natAbs<2^B) (m:Nat) (hm:m≤6):(sm (plcT c a d) m).natAbs<2^(B+(B*5+1+(B*5+1))+7):=
  Qv4 (by omega) fun i hi=>(Qi4 hc ha hd i (by omega)).2.2.2
theorem Qv5 {s:Sg} {a d:Int} (ho:1≤s.o) (hd:1≤d) (i:Nat):0<plG s a d i:=by
  induction i with
  |zero=>
    show 0<(s.o*d^5).natAbs;have h:0<s.o*d^5:=Int.mul_pos (by omega) (Int.pow_pos (by omega));omega
  |succ i ih=>rw [Qdq];exact Nat.gcd_pos_of_pos_left _ ih
theorem Zew {s:Sg} {d:Int} {B:Nat} (ho:s.o.natAbs<2^B) (hd:d.natAbs<2^B):(s.o*d^5).natAbs<2^(B+(B*5+1)):=by
  rw [Int.natAbs_mul,Nat.pow_add _ B];exact Nat.mul_lt_mul'' ho (Qcf hd 5)
theorem Qy4 {s:Sg} {a d:Int} {B:Nat} (hc: ∀c∈s.ax,bd B c) (h6: ∀c∈s.ax,c.length≤6) (ha:a.natAbs<2^B) (hd:d.natAbs<2^B) (i:Nat) (hi:i<3):
    (plP s a d i).natAbs<2^(B+(B*5+1+(B*5+1))+7):=by
  have hi':i<s.ax.length:=hi;have hm:s.ax.getD i []=s.ax[i]:=by rw [List.getD_eq_getElem?_getD,List.getElem?_eq_getElem hi'];rfl
  unfold plP plc;rw [hm];exact Qec (hc _ (List.getElem_mem hi')) ha hd _ (h6 _ (List.getElem_mem hi'))
theorem Zwr {s:Sg} {a d:Int} {B:Nat} (hc: ∀c∈s.ax,bd B c) (h6: ∀c∈s.ax,c.length≤6) (ho:s.o.natAbs<2^B) (ha:a.natAbs<2^B) (hd:d.natAbs<2^B) (i:Nat) (hi:i≤3):
    ((plG s a d i:Nat):Int).natAbs<2^(B+(B*5+1+(B*5+1))+7):=by
  rw [Int.natAbs_natCast];refine Qf0 _ (Nat.lt_of_lt_of_le (Zew ho hd) (Nat.pow_le_pow_right (by decide) (by omega))) ?_;intro x hx;simp only [List.mem_map,List.mem_range]at hx;obtain⟨m,hm,rfl⟩:=hx;exact Qy4 hc h6 ha hd m (by omega)
end Go.Dg

namespace Go.Proofs.YtcaffiaempefjaaGreatDoor
open Go.Vl Go.RowKit Go.Dg
theorem Qhg {x y:Int} (hx:x.natAbs<2^65536) (hy:y.natAbs<2^65536) (h:(x+y).natAbs<2^65536):Qaf Tryz.prog 110 [wPV x,wPV y] (wPV (x+y)):=by
 have h1:=Zon hx hy;rw [Qh3 h]at h1;generalize x+y=S at*;refine Qab (tb:=[]) 14 [.cell 4 36] [0,1,2,3,4,5] mixed Tryz.func110 rfl (by kernel_rfl) ?_;repeat (first|simp -implicitDefEqProofs only [go_sem,seval,wPV]|(with_reducible refine Qaa h1 ?_ ?_ ?_);rfl;rfl)
theorem Qio {x y:Int} (hx:x.natAbs<2^65536) (hy:y.natAbs<2^65536) (h:(x*y).natAbs<2^65536):Qaf Tryz.prog 102 [wPV x,wPV y] (wPV (x*y)):=by
 have h1:=Zom hx hy;rw [Qh3 h]at h1;generalize x*y=S at*;refine Qab (tb:=[]) 14 [.cell 4 36] [0,1,2,3,4,5] mixed Tryz.func102 rfl (by kernel_rfl) ?_;repeat (first|simp -implicitDefEqProofs only [go_sem,seval,wPV]|(with_reducible refine Qaa h1 ?_ ?_ ?_);rfl;rfl)
theorem Zq8 {a b K:Nat} (ha:a<K) (hb:b<K):Nat.gcd a b<K:=by
 rcases Nat.eq_zero_or_pos a with h|h
 ·subst h;rw [Nat.gcd_zero_left];exact hb
 ·exact Nat.lt_of_le_of_lt (Nat.le_of_dvd h (Nat.gcd_dvd_left _ _)) ha
theorem Qp3 {x y:Int} (hx:x.natAbs<2^65536) (hy:y.natAbs<2^65536):Qaf Tryz.prog 56 [wPV x,wPV y] (wPV ((Nat.gcd x.natAbs y.natAbs:Nat):Int)):=by
 have h1:=Zxl hx hy;rw [Qh3 (by rw [Int.natAbs_natCast];exact Zq8 hx hy)]at h1;generalize ((Nat.gcd x.natAbs y.natAbs:Nat):Int)=S at*;refine Qab (tb:=[]) 14 [.cell 4 36] [0,1,2,3,4,5] mixed Tryz.func56 rfl (by kernel_rfl) ?_;repeat (first|simp -implicitDefEqProofs only [go_sem,seval,wPV]|(with_reducible refine Qaa h1 ?_ ?_ ?_);rfl;rfl)
theorem Q6z {n:Int} (h:n.natAbs<2^65536):outN n=n:=by rw [outN,if_neg (Nat.not_lt.2 (Qdh 65536 _ h))]
theorem Qzn {x y:Int} {B:Nat} (hx:x.natAbs<2^B) (hy:0<y):(x/y).natAbs<2^B∨(x/y).natAbs≤2^B:=by
 right;obtain⟨m,rfl⟩: ∃m:Nat,y=(m+1:Nat):=⟨y.toNat-1,by omega⟩;have:=Int.natAbs_ediv_le_natAbs x ((m+1:Nat):Int);omega
theorem Qjr {x y:Int} {B:Nat} (hx:x.natAbs<2^B) (hB:B≤65000) (hy:y.natAbs<2^65000) (h0:0<y):Qaf Tryz.prog 57 [wPV x,wPV y] (wPV (x/y)):=by
 have h1:=Zxn (Qav hx (by omega)) (Qav hy (by omega)) (show y≠0 by omega);have hq:(x/y).natAbs<2^(B+1):=by
  rw [Nat.pow_succ];have h2:0<2^B:=Nat.two_pow_pos B;rcases Qzn hx h0 with h|h<;>omega
 have hr:(x%y).natAbs<2^65000:=by
  have h2:=Int.emod_nonneg x (show y≠0 by omega);have h3:=Int.emod_lt_of_pos x h0;generalize 2^65000=K at*;omega
 unfold Zmo at h1;rw [Q6z (Qav hq (by omega)),Q6z (Qav hr (by omega))]at h1;generalize x/y=S at*;generalize x%y=R at*;refine Qab (tb:=[]) 16 [.cell 4 36] [0,1,2,3,4,5] mixed Tryz.func57 rfl (by kernel_rfl) ?_;repeat (first|simp -implicitDefEqProofs only [go_sem,seval,wPV]|(with_reducible refine Qaa h1 ?_ ?_ ?_);rfl;rfl)
theorem Qt1 {n:Int} {B:Nat} (h:n.natAbs<2^B) (k:Nat):(n^k).natAbs<2^(B*k+1):=Qcf h k
theorem Qed (n:Int) (k B:Nat) (hn: -9223372036854775808≤n) (hn2:n≤9223372036854775807) (hk:k≤100) (hB:B≤600) (hb:n.natAbs<2^B):Qaf Tryz.prog 64 [.int .i64 n,.int .i64 (k:Int)] (wPV (n^k)):=by
 have h1:=Qfe 1 (by decide) (by decide);have h2:=Qfe n hn hn2;refine Qab (tb:=[]) 16 [.cell 4 36] [0,1,4,5,7,8,9] mixed Tryz.func64 rfl (by kernel_rfl) ?_;repeat (first|simp -implicitDefEqProofs only [go_sem,seval,wPV]|(with_reducible refine Qaa h1 ?_ ?_ ?_);rfl;rfl)
 refine Qat mixed (fun i:{i:Nat // i≤k}=>St.of [(0,.int .i64 n),(4,.bp 0 2 0 0),(5,.bp 101 2 0 0),(7,.int .i64 (k:Int)),(8,.int .i64 (i.1:Int))]
  [(0,{els:=[.agg [.bool false,.str ⟨#[]⟩]],esz:=2,ety:=36,fro:=0,live:=true,arr:=false}),(101,{els:=[wPV (n^i.1)],esz:=2,ety:=36,fro:=0,live:=true,arr:=false})]) (fun i=>k-i.1) ⟨0,Nat.zero_le _⟩ ?_ ?_
 ·refine Qak (θ:=[(0,0),(101,101)]) rfl ?_ ?_
  ·simp [Qae,lkp,ren1,ren0,Qan]
  ·refine⟨⟨rfl,rfl,rfl,rfl,rfl,.inr ⟨rfl,_,_,rfl,rfl,rfl,rfl⟩⟩,⟨rfl,rfl,rfl,rfl,rfl,.inr ⟨rfl,_,_,rfl,rfl,?_,rfl⟩⟩,trivial⟩;simp only [Int.pow_zero];rfl
 ·rintro⟨i,hi⟩;by_cases hA:i<k
  ·have hA':=ltT hA;have hwk:=Qai (a:=i) (by omega);have hp:=Qt1 hb i;have hp1:=Qt1 hb (i+1);have hBk:B*(i+1)≤600*100:=Nat.mul_le_mul hB (by omega);have hBi:B*i≤B*(i+1):=Nat.mul_le_mul_left _ (by omega);have e:n^(i+1)=n^i*n:=Int.pow_succ n i;rw [e]at hp1;have hm:=Qio (Qav hp (by omega)) (Qav hb (by omega)) (Qav hp1 (by omega));rw [←e]at hm;generalize hX:n^(i+1)=Y at*;generalize n^i=Z at*;repeat (first|simp -implicitDefEqProofs only [go_sem,seval,wPV,hA',hwk]|(with_reducible refine Qaa h2 ?_ ?_ ?_);rfl;rfl|(with_reducible refine Qaa hm ?_ ?_ ?_);rfl;rfl|(with_reducible refine And.intro (Qac _ _ (by kernel_rfl)) ?_))
   refine⟨⟨i+1,hA⟩,by simp only;omega,Qak (θ:=[(0,0),(101,101)]) rfl ?_ ?_⟩
   ·simp [Qae,lkp,ren1,ren0,Qan]
   ·simp only [hX];exact⟨⟨rfl,rfl,rfl,rfl,rfl,.inr ⟨rfl,_,_,rfl,rfl,rfl,rfl⟩⟩,⟨rfl,rfl,rfl,rfl,rfl,.inr ⟨rfl,_,_,rfl,rfl,rfl,rfl⟩⟩,trivial⟩
  ·have hA':=ltF hA;obtain rfl:i=k:=by omega
   generalize n^i=Z at*;repeat simp -implicitDefEqProofs only [go_sem,seval,wPV,hA']
end Go.Proofs.YtcaffiaempefjaaGreatDoor

namespace Go.Vl
open Go.RowKit
variable {P:Program} {tb:Tab} {nt:Nat} {ks:List Nat} {ops:Array Oper} {base i:Nat} {rest:List Oper} {accs:List Acc} {draw:Bool} {k:List It} {Q:Exit→St→Prop} {st:St}
theorem Qc0 {dst:Option Tmp} {f f':FuncId} {args args':List PV} {bxs bxsA:List (Nat×Box)} {es:List Eff} {θ ν:List (Nat×Nat)} {l:Acc} {r:PV} {bxs':List (Nat×Box)} (hs:Qdz P f' args' bxsA r bxs') (hf:f'=f) (ha:args'=args) (hb:bxsA=bxs)
  (h:gland P tb nt ks (land θ ν bxs' r) (Ql8 r bxs') es l ops base i dst rest accs draw k Q st):Zdw P tb nt ks f args bxs es θ ν l ops base i dst rest accs draw k Q st:=by
 subst hf;subst ha;subst hb;exact Qb6 _ _ _ _ _ _ _ _ _ hs h
end Go.Vl

namespace Go.Vl
open Go.RowKit
mutual
def Vgo (P:Program) (nt:Nat):List It→(Exit→St→Prop)→St→Prop
 | [],Q,st=>Q .normal st
 | .blk _::k,Q,st=>Vgo P nt k Q st
 | .again J::_,_,st=>J st
 | .code c::k,Q,st=>Vwp P nt c (fun e s=>Vleave P nt k Q e s) st
def Vleave (P:Program) (nt:Nat):List It→(Exit→St→Prop)→Exit→St→Prop
 | [],Q,e,st=>Q e st
 | .blk j::k,Q,e,st=>match e with
  | .exit i=>if i=j then Vgo P nt k Q st else Vleave P nt k Q (.exit i) st
  | .normal=>Vgo P nt k Q st
  |e=>Vleave P nt k Q e st
 | .again J::k,Q,e,st=>match e with
  | .normal=>J st
  |e=>Vleave P nt k Q e st
 | .code c::k,Q,e,st=>match e with
  | .normal=>Vwp P nt c (fun e s=>Vleave P nt k Q e s) st
  |e=>Vleave P nt k Q e st
end
section
variable {P:Program} {tb:Tab} {nt:Nat} {ks:List Nat} {Q:Exit→St→Prop}
theorem Qmz (hm:P.follows .mixedOrders=true): ∀(k:List It),(∀st,go P tb nt ks k Q st→Vgo P nt k Q st)∧ ∀e st,gleave P tb nt ks k Q e st→Vleave P nt k Q e st
 | []=>⟨fun st h=>by simpa only [go,Vgo]using h,fun e st h=>by simpa only [gleave,Vleave]using h⟩
 | .blk j::k=>by
  obtain⟨h1,h2⟩:=Qmz hm k;refine⟨fun st h=> ?_,fun e st h=> ?_⟩
  ·simp only [go]at h;simp only [Vgo];exact h1 st h
  ·cases e with
   |exit i=>
    simp only [gleave]at h;simp only [Vleave];split at h
    ·rename_i e;rw [if_pos e];exact h1 st h
    ·rename_i e;rw [if_neg e];exact h2 _ st h
   |normal=>simp only [gleave]at h;simp only [Vleave];exact h1 st h
   |_=>simp only [gleave]at h;simp only [Vleave];exact h2 _ st h
 | .again J::k=>by
  obtain⟨h1,h2⟩:=Qmz hm k;refine⟨fun st h=>by simpa only [go,Vgo]using h,fun e st h=> ?_⟩;cases e with
  |normal=>simpa only [gleave,Vleave]using h
  |_=>simp only [gleave]at h;simp only [Vleave];exact h2 _ st h
 | .code c::k=>by
  obtain⟨h1,h2⟩:=Qmz hm k;have key: ∀st,vx P tb nt ks c (fun e s=>gleave P tb nt ks k Q e s) st→Vwp P nt c (fun e s=>Vleave P nt k Q e s) st:=fun st h=>Qeh (Qcj hm c _ _ h) fun e s q=>h2 e s q;refine⟨fun st h=> ?_,fun e st h=> ?_⟩
  ·simp only [go]at h;simp only [Vgo];exact key st h
  ·cases e with
   |normal=>simp only [gleave]at h;simp only [Vleave];exact key st h
   |_=>simp only [gleave]at h;simp only [Vleave];exact h2 _ st h
theorem v_go (hm:P.follows .mixedOrders=true) {k:List It} {st:St} (h:go P tb nt ks k Q st):Vgo P nt k Q st:=(Qmz hm k).1 st h
def codes (L:List Code) (k:List It):List It:=L.foldr (fun c k=> .code c::k) k
theorem Zdz {st1:St} {c:Code} {k:List It} (h2:Vgo P nt (.code c::k) Q st1): ∀(L:List Code),(∀st,Vgo P nt (codes L (.again (fun s=>Le s st1):: .code c::k)) Q st→Vgo P nt (codes L (.code c::k)) Q st)∧
  ∀e st,Vleave P nt (codes L (.again (fun s=>Le s st1):: .code c::k)) Q e st→Vleave P nt (codes L (.code c::k)) Q e st
 | []=>by
  have base: ∀st,Le st st1→Vgo P nt (.code c::k) Q st:=fun st h=>by
   simp only [Vgo]at h2 ⊢;exact Zyv h2 h
  refine⟨fun st h=>base st (by simpa only [codes,List.foldr,Vgo]using h),fun e st h=> ?_⟩;cases e with
  |normal=>
   have:=base st (by simpa only [codes,List.foldr,Vleave]using h);simp only [codes,List.foldr,Vleave];simpa only [Vgo]using this
  |_=>simpa only [codes,List.foldr,Vleave]using h
 |d::L=>by
  obtain⟨h3,h4⟩:=Zdz h2 L;refine⟨fun st h=> ?_,fun e st h=> ?_⟩
  ·simp only [codes,List.foldr,Vgo]at h ⊢;exact Qeh h fun e s q=>h4 e s q
  ·cases e with
   |normal=>
    simp only [codes,List.foldr,Vleave]at h ⊢;exact Qeh h fun e s q=>h4 e s q
   |_=>simp only [codes,List.foldr,Vleave]at h ⊢;exact h4 _ _ h
theorem Zzi (hm:P.follows .mixedOrders=true) (tb:Tab) (ks:List Nat) {st st1:St} (L:List Code) {c:Code} {k:List It} (h1:go P tb nt ks (codes L (.again (fun s=>Le s st1):: .code c::k)) Q st) (h2:Vgo P nt (.code c::k) Q st1):
  Vgo P nt (codes L (.code c::k)) Q st:=(Zdz h2 L).1 st (v_go hm h1)
def Qij:Code→List Code
 | .seq a b=>a::Qij b
 |c=>[c]
theorem Zd0 {k:List It}: ∀(c:Code),(∀st,Vgo P nt (codes (Qij c) k) Q st→Vgo P nt (.code c::k) Q st)∧ ∀e st,Vleave P nt (codes (Qij c) k) Q e st→Vleave P nt (.code c::k) Q e st
 | .seq a b=>by
  obtain⟨h1,h2⟩:=Zd0 (k:=k) b;have key: ∀st,Vwp P nt a (fun e s=>Vleave P nt (codes (Qij b) k) Q e s) st→Vwp P nt (.seq a b) (fun e s=>Vleave P nt k Q e s) st:=fun st h=>Zdf (Qeh h fun e s q=>by
   have q:=h2 e s q;cases e with
   |normal=>simpa only [Vleave,vthen]using q
   |_=>simpa only [Vleave,vthen]using q)
  refine⟨fun st h=> ?_,fun e st h=> ?_⟩
  ·simp only [Qij,codes,List.foldr,Vgo]at h ⊢;exact key st h
  ·cases e with
   |normal=>simp only [Qij,codes,List.foldr,Vleave]at h ⊢;exact key st h
   |_=>
    simp only [Qij,codes,List.foldr,Vleave]at h ⊢;have:=h2 _ _ h;simpa only [Vleave]using this
 | .skip| .label _| .exit _| .ret| .region _ _ _| .cond _ _ _| .block _ _| .loop _| .rangeFunc _ _ _ _| .scope _| .goto _| .refuse _=>⟨fun _ h=>h,fun _ _ h=>h⟩
theorem Zzj {k:List It} {c:Code} {st:St} (h:Vgo P nt (codes (Qij c) k) Q st):Vgo P nt (.code c::k) Q st:=(Zd0 c).1 st h
theorem Qve (k:List It): ∀(A B:List Code),codes (A++B) k=codes A (codes B k)
 | [],_=>rfl
 |a::A,B=>by simp only [List.cons_append,codes,List.foldr];rw [←codes,Qve k A B];rfl
theorem Qo1 (hm:P.follows .mixedOrders=true) (tb:Tab) (ks:List Nat) {C:List Code} (n:Nat) (hn:Nat.blt n C.length=true) {st:St} (st1:St)
  (h1:go P tb nt ks (codes (C.take n) (.again (fun s=>Le s st1)::codes (C.drop n) [])) Q st) (h2:Vgo P nt (codes (C.drop n) []) Q st1):Vgo P nt (codes C []) Q st:=by
 have hn:n<C.length:=by rw [Nat.blt_eq]at hn;exact hn
 have e:C.drop n=C[n]::C.drop (n+1):=List.drop_eq_getElem_cons hn;have e2:codes C []=codes (C.take n) (.code C[n]::codes (C.drop (n+1)) []):=by
  have:=Qve [] (C.take n) (C.drop n);rw [List.take_append_drop]at this;rw [this,e];rfl
 rw [e2];have e3:codes (C.drop n) []= .code C[n]::codes (C.drop (n+1)) []:=by rw [e];rfl
 rw [e3]at h1 h2;exact Zzi hm tb ks _ h1 h2
theorem Zo4 {f:FuncId} {fn:Func} {c:Code} {args:List PV} {r:PV} (nt:Nat) (rs:List ResultVar) (hf:P.funcs[f]? =some fn) (hb:fn.body=some c)
  (hc:callable P f=true) (hnt:fn.ntmps=nt) (hrs:fn.results.toList=rs) (hn:Nat.ble args.length nt=true)
  (h:Vgo P nt (codes (Qij c) []) (vret P rs (· =r)) (St.of (Qci 0 args) [])):Qaf P f args r:=
 Q0t nt rs hf hb hc hnt hrs hn (by
  have h:=Zzj h;simp only [Vgo,Vleave]at h;exact h)
end
def Q4f (P:Program) (tb:Tab) (nt:Nat) (ks:List Nat) (c:Code) (k:List It) (Q:Exit→St→Prop):List Nat→St→Prop
 | [],_=>False
 |_::l,st=>go P tb nt ks (.code c:: .again (Q4f P tb nt ks c k Q l)::k) Q st
theorem Q4g (P:Program) (tb:Tab) (nt:Nat) (ks:List Nat) (c:Code) (k:List It) (Q:Exit→St→Prop) (i:Nat) (l:List Nat) (st:St):Q4f P tb nt ks c k Q (i::l) st=go P tb nt ks (.code c:: .again (Q4f P tb nt ks c k Q l)::k) Q st:=rfl
attribute [go_sem] Q4g
theorem Qbt {P:Program} {tb:Tab} {nt:Nat} {ks:List Nat} {k:List It} {Q:Exit→St→Prop} {st:St} (hm:P.follows .mixedOrders=true) {c:Code} (l:List Nat) (h:Q4f P tb nt ks c k Q l st):go P tb nt ks (.code (.loop c)::k) Q st:=by
 simp only [go,vx];refine Q0q (fun x:{x:List Nat×St // Q4f P tb nt ks c k Q x.1 x.2}=>x.1.2) (fun x=>x.1.1.length) ⟨(l,st),h⟩ (fun _ _ _ h=>h) ?_;rintro⟨⟨l,s⟩,h⟩;cases l with
 |nil=>exact h.elim
 |cons i l=>
  simp only [Q4f,go]at h;refine Qeh (Qcj (tb:=tb) (ks:=ks) hm c _ _ h) ?_;intro e s q;cases e with
  |normal=>simp only [gleave]at q;exact⟨⟨(l,s),q⟩,by simp,fun _ _ _ h=>h⟩
  |_=>simpa only [gleave,vthen]using q
end Go.Vl

namespace Go.Proofs.YtcaffiaempefjaaGreatDoor
open Go.Vl Go.RowKit Go.Dg
def Qr2:List PV:=(List.range 36).map fun i=> .int .i64 (bin (i/6) (i%6):Int)
set_option maxHeartbeats 8000000 in
set_option maxRecDepth 100000 in
theorem Q63:Qaf Tryz.prog 128 [] (.agg Qr2):=by
 have hw:Qr2=[1,0,0,0,0,0,1,1,0,0,0,0,1,2,1,0,0,0,1,3,3,1,0,0,1,4,6,4,1,0,1,5,10,10,5,1].map (PV.int .i64):=by kernel_rfl
 rw [hw];have h6:((6:Nat):Int)=6:=rfl;have w0:IntKind.i64.wrap 0=0:=rfl;have w1:IntKind.i64.wrap 1=1:=rfl;have w2:IntKind.i64.wrap 2=2:=rfl;have w3:IntKind.i64.wrap 3=3:=rfl;have w4:IntKind.i64.wrap 4=4:=rfl;have w5:IntKind.i64.wrap 5=5:=rfl;have w6:IntKind.i64.wrap 6=6:=rfl;have w7:IntKind.i64.wrap 7=7:=rfl;have w8:IntKind.i64.wrap 8=8:=rfl;have w9:IntKind.i64.wrap 9=9:=rfl;have w10:IntKind.i64.wrap 10=10:=rfl;refine Qab (tb:=[]) 35 [.cell 0 193] [0,1,2,3,4,5,12] mixed Tryz.func128 rfl (by kernel_rfl) ?_;repeat simp -implicitDefEqProofs only [go_sem,seval]
 iterate 7
  refine Qbt mixed [0,1,2,3,4,5,6] ?_;repeat (first|simp -implicitDefEqProofs only [go_sem,seval,h6,w0,w1,w2,w3,w4,w5,w6,w10]|(with_reducible exact Qac _ _ (by kernel_rfl))|(with_reducible refine And.intro (Qac _ _ (by kernel_rfl)) ?_))
theorem Qt4 (n k:Nat) (hn:n<6) (hk:k<6):Qr2[n*6+k*1]? =some (.int .i64 (bin n k:Int)):=by
 unfold Qr2;rw [List.getElem?_map,List.getElem?_range (by omega)];have h1:(n*6+k*1)/6=n:=by omega
 have h2:(n*6+k*1)%6=k:=by omega
 show some (PV.int .i64 (bin ((n*6+k*1)/6) ((n*6+k*1)%6):Int))=_;rw [h1,h2]
theorem Q1p:Qr2.all Qxu=true:=by kernel_rfl
theorem Zfp:Qr2.all PV.okCell=true:=by kernel_rfl
theorem Q64:Qr2.length=36:=by kernel_rfl
theorem Zxc:wPV 0= .agg [.bool false,.str ⟨#[]⟩]:=by unfold wPV;rw [(Qmu 0).2 rfl];rfl
theorem Q65 (c:List Int) (o:Int) (h1:1≤c.length) (h6:c.length≤6) (hc: ∀x∈c, -9223372036854775808≤x∧x≤9223372036854775807) (ho:1≤o) (ho2:o≤4294967296):
  Qaf Tryz.prog 106 [Qas c,.int .i64 o] (.bool (Qdd c o c.length)):=by
 have hch:=Q63;have w1:=Qfe 62914560 (by decide) (by decide);have w2:=Qfe o (by omega) (by omega);have p64:(2:Nat)^64=18446744073709551616:=rfl;have b1:(62914560:Int).natAbs<2^64:=by decide
 have b2:o.natAbs<2^64:=by omega
 have b3:(62914560*o).natAbs<2^128:=Qip b1 b2;have m1:=Qio (Qav b1 (by decide)) (Qav b2 (by decide)) (Qav b3 (by decide));have hcb:bd 64 c:=fun x hx=>by have:=hc x hx;omega
 have wl:=Qgt (n:=c.length) (by omega) (by omega);generalize hM:62914560*o=M at*;refine Qab (tb:=[]) 57 [.tmp 4] [0,1,4,5,6,7,8,9,10,20,21,22,25,26,27,55] mixed Tryz.func106 rfl (by kernel_rfl) ?_;repeat (first|simp -implicitDefEqProofs only [go_sem,Nat.reduceAdd,Nat.reduceMul,Nat.reduceEqDiff,Nat.reduceLT,Nat.reduceLeDiff,reduceCtorEq,Int.reduceLT,wPV,Qas,List.length_map,wl,Q64,Q1p,Zfp]|(with_reducible refine Qaa hch ?_ ?_ ?_);rfl;rfl|(with_reducible refine Qaa w1 ?_ ?_ ?_);rfl;rfl|(with_reducible refine Qaa w2 ?_ ?_ ?_);rfl;rfl|(with_reducible refine Qaa m1 ?_ ?_ ?_);rfl;rfl)
 refine Qat mixed (fun j:{j:Nat // j≤c.length∧Qdd c o j=true}=>St.of [(0,Qas c),(4,.bool false),(5,.bp 101 36 0 0),(6,.bp 204 2 0 0),(7,.int .i64 ((c.length-1:Nat):Int)),(20,.int .i64 (c.length:Int)),(21,.int .i64 (j.1:Int))]
  [(101,{els:=[.agg Qr2],esz:=36,ety:=193,fro:=0,live:=true,arr:=false}),(204,{els:=[wPV M],esz:=2,ety:=36,fro:=0,live:=true,arr:=false})]) (fun j=>c.length-j.1) ⟨0,Nat.zero_le _,rfl⟩ ?_ ?_
 ·refine Qak (θ:=[(101,101),(204,204)]) rfl ?_ ?_
  ·simp [Qae,lkp,ren1,ren0,Qan,Qas]
  ·exact⟨⟨rfl,rfl,rfl,rfl,rfl,.inr ⟨rfl,_,_,rfl,rfl,rfl,rfl⟩⟩,⟨rfl,rfl,rfl,rfl,rfl,.inr ⟨rfl,_,_,rfl,rfl,rfl,rfl⟩⟩,trivial⟩
 ·rintro⟨j,hj,hall⟩;by_cases hA:j<c.length
  ·have hA':=ltT hA;have hwk:=Qai (a:=j) (by omega);repeat simp -implicitDefEqProofs only [go_sem,Nat.reduceAdd,Nat.reduceMul,Nat.reduceEqDiff,Nat.reduceLT,Nat.reduceLeDiff,reduceCtorEq,hA',hwk]
   refine Qat mixed (fun k:{k:Nat // k≤j+1}=>St.of [(0,Qas c),(4,.bool false),(5,.bp 101 36 0 0),(6,.bp 204 2 0 0),(7,.int .i64 ((c.length-1:Nat):Int)),(20,.int .i64 (c.length:Int)),(21,.int .i64 (j:Int)),(8,.int .i64 (j:Int)),(9,.bp 700 2 0 0),(25,.int .i64 ((j+1:Nat):Int)),(26,.int .i64 (k.1:Int))]
    [(101,{els:=[.agg Qr2],esz:=36,ety:=193,fro:=0,live:=true,arr:=false}),(204,{els:=[wPV M],esz:=2,ety:=36,fro:=0,live:=true,arr:=false}),(700,{els:=[wPV (sm (fun k=>c.getD k 0*(cw (c.length-1) j k:Int)) k.1)],esz:=2,ety:=36,fro:=0,live:=true,arr:=false})]) (fun k=>j+1-k.1) ⟨0,Nat.zero_le _⟩ ?_ ?_
   ·refine Qak (θ:=[(101,101),(204,204),(700,700)]) rfl ?_ ?_
    ·simp [Qae,lkp,ren1,ren0,Qan,Qas]
    ·refine⟨⟨rfl,rfl,rfl,rfl,rfl,.inr ⟨rfl,_,_,rfl,rfl,rfl,rfl⟩⟩,⟨rfl,rfl,rfl,rfl,rfl,.inr ⟨rfl,_,_,rfl,rfl,rfl,rfl⟩⟩,⟨rfl,rfl,rfl,rfl,rfl,.inr ⟨rfl,_,_,rfl,rfl,?_,rfl⟩⟩,trivial⟩;simp only [sm];rw [Zxc];rfl
   ·rintro⟨k,hk⟩;by_cases hB:k<j+1
    ·have hB':=ltT hB;have hkc:k<c.length:=by omega
     have h0:=nnT k;have hg:=Qcv c k hkc;have hwk2:=Qai (a:=k) (by omega);have g1:=Qt4 (c.length-1) k (by omega) (by omega);have g2:=Qt4 j k (by omega) (by omega);have hb0:((bin (c.length-1) k:Int)=0)=False:=eq_false (by have:=Qrg (n:=c.length-1) (k:=k) (by omega);omega);have t1:Int.tdiv 60 (bin (c.length-1) k:Int)=((60/bin (c.length-1) k:Nat):Int):=Qr7 60 _;have d60:60/bin (c.length-1) k≤60:=Nat.div_le_self _ _;have wk1:IntKind.i64.wrap ((60/bin (c.length-1) k:Nat):Int)=((60/bin (c.length-1) k:Nat):Int):=wrapn (by omega);have hcw:=Zp0 (c.length-1) j k (by omega);have ecw:((60/bin (c.length-1) k:Nat):Int)*(bin j k:Int)=(cw (c.length-1) j k:Int):=by rw [cw,Int.natCast_mul]
     have wk2:IntKind.i64.wrap (cw (c.length-1) j k:Int)=(cw (c.length-1) j k:Int):=wrapn (by omega);obtain⟨k1,k2⟩:=hc _ (List.getElem_mem hkc);have o1:=Qfe c[k] k1 k2;have o2:=Qfe (cw (c.length-1) j k:Int) (by omega) (by omega);have x1:(c[k]).natAbs<2^64:=hcb _ (List.getElem_mem hkc);have x2:(cw (c.length-1) j k:Int).natAbs<2^11:=by rw [Int.natAbs_natCast];omega
     have m2:=Qio (Qav x1 (by decide)) (Qav x2 (by decide)) (Qav (Qip x1 x2) (by decide));have y1:=Qhy (n:=c.length-1) (j:=j) hcb (by omega) k (by omega);have y2:=Qhy (n:=c.length-1) (j:=j) hcb (by omega) (k+1) (by omega);have es:sm (fun k=>c.getD k 0*(cw (c.length-1) j k:Int)) (k+1)=sm (fun k=>c.getD k 0*(cw (c.length-1) j k:Int)) k+c[k]*(cw (c.length-1) j k:Int):=by simp only [sm];rw [Qc5 hkc]
     rw [es]at y2;have a1:=Qhg (Qav y1 (by decide)) (Qav (Qip x1 x2) (by decide)) (Qav y2 (by decide));rw [←es]at a1;generalize hX:sm (fun k=>c.getD k 0*(cw (c.length-1) j k:Int)) (k+1)=X at*;generalize sm (fun k=>c.getD k 0*(cw (c.length-1) j k:Int)) k=Y at*;generalize c[k]*(cw (c.length-1) j k:Int)=Z at*;generalize (cw (c.length-1) j k:Int)=V at*;have l1:=ltT (show c.length-1<6 by omega);have l2:=ltT (show k<6 by omega);have l3:=ltT (show j<6 by omega);have n1:=nnT (c.length-1);have n2:=nnT j;repeat (first|simp -implicitDefEqProofs only [go_sem,Nat.reduceAdd,Nat.reduceMul,Nat.reduceEqDiff,Nat.reduceLT,Nat.reduceLeDiff,reduceCtorEq,Qas,wPV,hB',h0,l1,l2,l3,n1,n2,hg,hwk2,g1,g2,hb0,t1,wk1,ecw,wk2,Int.toNat_natCast]|(with_reducible refine Qaa o1 ?_ ?_ ?_);rfl;rfl|(with_reducible refine Qaa o2 ?_ ?_ ?_);rfl;rfl|(with_reducible refine Qaa m2 ?_ ?_ ?_);rfl;rfl|(with_reducible refine Qaa a1 ?_ ?_ ?_);rfl;rfl|(with_reducible refine And.intro (Qac _ _ (by kernel_rfl)) ?_))
     refine⟨⟨k+1,hB⟩,by simp only;omega,Qak (θ:=[(101,101),(204,204),(700,700)]) rfl ?_ ?_⟩
     ·simp [Qae,lkp,ren1,ren0,Qan,Qas]
     ·simp only [hX];exact⟨⟨rfl,rfl,rfl,rfl,rfl,.inr ⟨rfl,_,_,rfl,rfl,rfl,rfl⟩⟩,⟨rfl,rfl,rfl,rfl,rfl,.inr ⟨rfl,_,_,rfl,rfl,rfl,rfl⟩⟩,⟨rfl,rfl,rfl,rfl,rfl,.inr ⟨rfl,_,_,rfl,rfl,rfl,rfl⟩⟩,trivial⟩
    ·have hB':=ltF hB;obtain rfl:k=j+1:=by omega
     have ec:sm (fun k=>c.getD k 0*(cw (c.length-1) j k:Int)) (j+1)=ctl c j:=rfl;simp only [ec];have y3:=Qhy (n:=c.length-1) (j:=j) hcb (by omega) (j+1) (by omega);rw [ec]at y3;have y4:(((ctl c j).natAbs:Nat):Int).natAbs<2^(64+11+7):=by rw [Int.natAbs_natCast];exact y3
     have hcm:=Qp6 (Qav y4 (by decide)) (Qav b3 (by decide));have ea:wPV (((ctl c j).natAbs:Nat):Int)= .agg [.bool false,.str ⟨(magL (ctl c j).natAbs).toArray⟩]:=by
      unfold wPV;have:decide ((((ctl c j).natAbs:Nat):Int)<0)=false:=by simp
      rw [this,Int.natAbs_natCast]
     rw [ea]at hcm;by_cases hle:((ctl c j).natAbs:Int)≤M
     ·have hs:((0:Int)<((((ctl c j).natAbs:Nat):Int)-M).sign)=False:=eq_false (by have:=Int.sign_nonpos_iff.2 (show(((ctl c j).natAbs:Nat):Int)-M≤0 by omega);omega);have hn:Qdd c o (j+1)=true:=by rw [Qga,hall,hM];simp [hle]
      generalize ctl c j=X at*;repeat (first|simp -implicitDefEqProofs only [go_sem,Nat.reduceAdd,Nat.reduceMul,Nat.reduceEqDiff,Nat.reduceLT,Nat.reduceLeDiff,reduceCtorEq,wPV,hB',hs,hwk]|(with_reducible refine Qaa hcm ?_ ?_ ?_);rfl;rfl)
      refine⟨⟨j+1,hA,hn⟩,by simp only;omega,Qak (θ:=[(101,101),(204,204)]) rfl ?_ ?_⟩
      ·simp [Qae,lkp,ren1,ren0,Qan,Qas]
      ·exact⟨⟨rfl,rfl,rfl,rfl,rfl,.inr ⟨rfl,_,_,rfl,rfl,rfl,rfl⟩⟩,⟨rfl,rfl,rfl,rfl,rfl,.inr ⟨rfl,_,_,rfl,rfl,rfl,rfl⟩⟩,trivial⟩
     ·have hs:((0:Int)<((((ctl c j).natAbs:Nat):Int)-M).sign)=True:=eq_true (Int.sign_pos_iff.2 (by omega));have hn:Qdd c o c.length=false:=Qri (j:=j+1) (by rw [Qga,hall,hM];simp;omega) hA;generalize ctl c j=X at*;repeat (first|simp -implicitDefEqProofs only [go_sem,Nat.reduceAdd,Nat.reduceMul,Nat.reduceEqDiff,Nat.reduceLT,Nat.reduceLeDiff,reduceCtorEq,wPV,hB',hs,hn]|(with_reducible refine Qaa hcm ?_ ?_ ?_);rfl;rfl)
  ·have hA':=ltF hA;obtain rfl:j=c.length:=by omega
   repeat simp -implicitDefEqProofs only [go_sem,Nat.reduceAdd,Nat.reduceMul,Nat.reduceEqDiff,Nat.reduceLT,Nat.reduceLeDiff,reduceCtorEq,hA',hall]
def i64 (x:Int):Prop:= -9223372036854775808≤x∧x≤9223372036854775807
def sgPV (s:Sg):PV:= .agg [.int .i64 s.f,.int .i64 s.t,.int .i64 s.o,Qas s.x,Qas s.y,Qas s.z]
attribute [go_sem] Qas sgPV
structure okSg (s:Sg):Prop where
 f:i64 s.f
 t:i64 s.t
 o:i64 s.o
 c: ∀c∈s.ax,∀x∈c,i64 x
 l: ∀c∈s.ax,c.length≤1000
theorem Qa2 {x:Int} (h:i64 x):x.natAbs<2^64:=by unfold i64 at h;have p64:(2:Nat)^64=18446744073709551616:=rfl;omega
theorem Q67 (s:Sg):Qaf Tryz.prog 60 [sgPV s] (.agg [Qas s.x,Qas s.y,Qas s.z]):=by
 unfold sgPV;refine Qab (tb:=[]) 10 [.cell 2 108] [0,1,2] mixed Tryz.func60 rfl (by kernel_rfl) ?_;repeat simp -implicitDefEqProofs only [go_sem,seval,Qas,List.map_cons,List.map_nil]
theorem Q68 (s:Sg):Qaf Tryz.prog 21 [sgPV s] (.slc [Qas s.x,Qas s.y,Qas s.z]):=by
 unfold sgPV;refine Qab (tb:=[]) 10 [.tmp 2] [0,1,2] mixed Tryz.func21 rfl (by kernel_rfl) ?_;repeat simp -implicitDefEqProofs only [go_sem,seval,Qas,List.map_cons,List.map_nil]
theorem Q69 (s:Sg) (i:Nat) (h:i<s.ax.length):([.slc (s.x.map (PV.int .i64)),.slc (s.y.map (PV.int .i64)),.slc (s.z.map (PV.int .i64))]:List PV)[i]? =some (.slc ((s.ax[i]).map (PV.int .i64))):=by
 show(s.ax.map Qas)[i]? =_;rw [List.getElem?_map,List.getElem?_eq_getElem h];rfl
theorem Qwn (s:Sg) (i:Nat) (h:i<s.ax.length):([.slc (s.x.map (PV.int .i64)),.slc (s.y.map (PV.int .i64)),.slc (s.z.map (PV.int .i64))]:List PV)[i*1]? =some (.slc ((s.ax[i]).map (PV.int .i64))):=by rw [Nat.mul_one,Q69 s i h]
theorem Zxf (x y:Int):(mB x==mB y)=decide (x.natAbs=y.natAbs):=by
 rw [Zxo,Bool.eq_iff_iff,beq_iff_eq,decide_eq_true_eq];constructor
 ·intro h;rw [←Qn2 x,←Qn2 y,h]
 ·intro h;unfold mB;rw [h]
theorem Qk1 (x y:Int):((decide (x<0)==decide (y<0))&&(mB x==mB y))=decide (x=y):=by
 rw [Zxf,Bool.eq_iff_iff,Bool.and_eq_true,beq_iff_eq,decide_eq_decide,decide_eq_true_eq,decide_eq_true_eq];omega
set_option maxHeartbeats 1000000 in
theorem Qzq (s:Sg) (hs:okSg s):Qaf Tryz.prog 71 [sgPV s] (.bool (Qau s)):=by
 obtain⟨⟨a1,a2⟩,⟨a3,a4⟩,⟨a5,a6⟩,hc,hl⟩:=hs;by_cases g1:s.f<0
 ·have g1':=eq_true g1;have e:Qau s=false:=by unfold Qau rngS;rw [decide_eq_false (by omega)];rfl
  unfold sgPV;refine Qab (tb:=[]) 85 [.tmp 2] [0,1,2,3,5,7,32,37,38,39,69,70,71,72,73] mixed Tryz.func71 rfl (by kernel_rfl) ?_;repeat simp -implicitDefEqProofs only [go_sem,Nat.reduceAdd,Nat.reduceMul,Nat.reduceEqDiff,Nat.reduceLT,Nat.reduceLeDiff,reduceCtorEq,g1',e]
 have g1':=eq_false g1;by_cases g2:s.t≤s.f
 ·have g2':=eq_true g2;have e:Qau s=false:=by unfold Qau rngS;rw [decide_eq_true (show 0≤s.f by omega),decide_eq_false (show¬s.f<s.t by omega)];rfl
  unfold sgPV;refine Qab (tb:=[]) 85 [.tmp 2] [0,1,2,3,5,7,32,37,38,39,69,70,71,72,73] mixed Tryz.func71 rfl (by kernel_rfl) ?_;repeat simp -implicitDefEqProofs only [go_sem,Nat.reduceAdd,Nat.reduceMul,Nat.reduceEqDiff,Nat.reduceLT,Nat.reduceLeDiff,reduceCtorEq,g1',g2',e]
 have g2':=eq_false g2;by_cases g3:3600000<s.t
 ·have g3':=eq_true g3;have e:Qau s=false:=by unfold Qau rngS;rw [decide_eq_true (show 0≤s.f by omega),decide_eq_true (show s.f<s.t by omega),decide_eq_false (show¬s.t≤3600000 by omega)];rfl
  unfold sgPV;refine Qab (tb:=[]) 85 [.tmp 2] [0,1,2,3,5,7,32,37,38,39,69,70,71,72,73] mixed Tryz.func71 rfl (by kernel_rfl) ?_;repeat simp -implicitDefEqProofs only [go_sem,Nat.reduceAdd,Nat.reduceMul,Nat.reduceEqDiff,Nat.reduceLT,Nat.reduceLeDiff,reduceCtorEq,g1',g2',g3',e]
 have g3':=eq_false g3;by_cases g4:s.o<1
 ·have g4':=eq_true g4;have e:Qau s=false:=by unfold Qau rngS;rw [decide_eq_true (show 0≤s.f by omega),decide_eq_true (show s.f<s.t by omega),decide_eq_true (show s.t≤3600000 by omega),decide_eq_false (show¬1≤s.o by omega)];rfl
  unfold sgPV;refine Qab (tb:=[]) 85 [.tmp 2] [0,1,2,3,5,7,32,37,38,39,69,70,71,72,73] mixed Tryz.func71 rfl (by kernel_rfl) ?_;repeat simp -implicitDefEqProofs only [go_sem,Nat.reduceAdd,Nat.reduceMul,Nat.reduceEqDiff,Nat.reduceLT,Nat.reduceLeDiff,reduceCtorEq,g1',g2',g3',g4',e]
 have g4':=eq_false g4;by_cases g5:4294967296<s.o
 ·have g5':=eq_true g5;have e:Qau s=false:=by unfold Qau rngS;rw [decide_eq_true (show 0≤s.f by omega),decide_eq_true (show s.f<s.t by omega),decide_eq_true (show s.t≤3600000 by omega),decide_eq_true (show 1≤s.o by omega),decide_eq_false (show¬s.o≤4294967296 by omega)];rfl
  unfold sgPV;refine Qab (tb:=[]) 85 [.tmp 2] [0,1,2,3,5,7,32,37,38,39,69,70,71,72,73] mixed Tryz.func71 rfl (by kernel_rfl) ?_;repeat simp -implicitDefEqProofs only [go_sem,Nat.reduceAdd,Nat.reduceMul,Nat.reduceEqDiff,Nat.reduceLT,Nat.reduceLeDiff,reduceCtorEq,g1',g2',g3',g4',g5',e]
 have g5':=eq_false g5;have er:rngS s=true:=by unfold rngS;rw [decide_eq_true (show 0≤s.f by omega),decide_eq_true (show s.f<s.t by omega),decide_eq_true (show s.t≤3600000 by omega),decide_eq_true (show 1≤s.o by omega),decide_eq_true (show s.o≤4294967296 by omega)];rfl
 have w1:=Qfe s.o a5 a6;have hax:=Q67 s;have hsg:sgPV s= .agg [.int .i64 s.f,.int .i64 s.t,.int .i64 s.o,.slc (s.x.map (PV.int .i64)),.slc (s.y.map (PV.int .i64)),.slc (s.z.map (PV.int .i64))]:=rfl;rw [hsg]at hax ⊢;have wone:=Qfe 1 (by decide) (by decide);have hG: ∀i,((s.ax.take i).foldl gcdL s.o.natAbs)<2^64:=by
  intro i;have: ∀(L:List (List Int)) (g:Nat),g<2^64→(∀c∈L,∀x∈c,x.natAbs<2^64)→L.foldl gcdL g<2^64:=by
   intro L
   induction L with
   |nil=>intro g hg _;exact hg
   |cons c L ih=>intro g hg h;exact ih _ (Qf0 c hg (h c (by simp))) fun c' hc'=>h c' (by simp [hc'])
  exact this _ _ (Qa2 ⟨a5,a6⟩) fun c hc' x hx=>Qa2 (hc c (List.mem_of_mem_take hc') x hx)
 refine Qab (tb:=[]) 85 [.tmp 2] [0,1,2,3,5,7,32,37,38,39,69,70,71,72,73] mixed Tryz.func71 rfl (by kernel_rfl) ?_;repeat (first|simp -implicitDefEqProofs only [go_sem,Nat.reduceAdd,Nat.reduceMul,Nat.reduceEqDiff,Nat.reduceLT,Nat.reduceLeDiff,reduceCtorEq,wPV,g1',g2',g3',g4',g5']|(with_reducible refine Qaa w1 ?_ ?_ ?_);rfl;rfl|(with_reducible refine Qaa hax ?_ ?_ ?_);rfl;rfl)
 have z0:0≤3∧((s.ax.take 0).all fun c=>axOK c s.o)=true:=⟨Nat.zero_le _,rfl⟩;refine Qat mixed (fun i:{i:Nat // i≤3∧((s.ax.take i).all fun c=>axOK c s.o)=true}=>St.of [(1,.bp 0 6 0 0),(2,.bool false),(3,.bp 303 2 0 0),(37,.agg [Qas s.x,Qas s.y,Qas s.z]),(38,.int .i64 (i.1:Int))]
  [(0,{els:=[sgPV s],esz:=6,ety:=47,fro:=0,live:=true,arr:=false}),(303,{els:=[wPV (((s.ax.take i.1).foldl gcdL s.o.natAbs:Nat):Int)],esz:=2,ety:=36,fro:=0,live:=true,arr:=false})]) (fun i=>3-i.1) ⟨0,z0⟩ ?_ ?_
 ·refine Qak (θ:=[(0,0),(303,303)]) rfl ?_ ?_
  ·simp [Qae,lkp,ren1,ren0,Qan,Qas]
  ·refine⟨⟨rfl,rfl,rfl,rfl,rfl,.inr ⟨rfl,_,_,rfl,rfl,rfl,rfl⟩⟩,⟨rfl,rfl,rfl,rfl,rfl,.inr ⟨rfl,_,_,rfl,rfl,?_,rfl⟩⟩,trivial⟩;have:((((s.ax.take 0).foldl gcdL s.o.natAbs:Nat):Nat):Int)=s.o:=by simp;omega
   rw [this];rfl
 ·rintro⟨i,hi,hall⟩;have hGi:=hG i;by_cases hA:i<3
  ·have hA':((i:Int)<3)=True:=eq_true (by omega);have hA2:=ltT hA;have h0:=nnT i;have hx:=Qwn s i hA;have hwk:=Qai (a:=i) (by omega);have hcx:=hc (s.ax[i]) (List.getElem_mem hA);have hlx:=hl (s.ax[i]) (List.getElem_mem hA);have htk:(s.ax.take (i+1)).all (fun c=>axOK c s.o)=axOK s.ax[i] s.o:=by rw [Qbq s.ax i hA,List.all_append,hall];simp
   have hbad:axOK s.ax[i] s.o=false→Qau s=false:=fun h=>by
    unfold Qau;rw [Qwu (p:=fun c=>axOK c s.o) (l:=s.ax) (i:=i) hA h];simp
   have hfd:(s.ax.take (i+1)).foldl gcdL s.o.natAbs=gcdL ((s.ax.take i).foldl gcdL s.o.natAbs) s.ax[i]:=by rw [Qbq s.ax i hA,List.foldl_append];rfl
   generalize hC:s.ax[i]=c at*;generalize (s.ax.take i).foldl gcdL s.o.natAbs=G at*;by_cases q1:c.length<1
   ·have q1':((c.length:Int)<1)=True:=eq_true (by omega);have e:=hbad (by unfold axOK Qi3;rw [decide_eq_false (show¬1≤c.length by omega)];rfl);repeat simp -implicitDefEqProofs only [go_sem,Nat.reduceAdd,Nat.reduceMul,Nat.reduceEqDiff,Nat.reduceLT,Nat.reduceLeDiff,reduceCtorEq,hA',hA2,h0,hx,Int.toNat_natCast,List.length_map,q1',e]
   have q1':((c.length:Int)<1)=False:=eq_false (by omega);by_cases q2:6<c.length
   ·have q2':((6:Int)<(c.length:Int))=True:=eq_true (by omega);have e:=hbad (by unfold axOK Qi3;rw [decide_eq_false (show¬c.length≤6 by omega)];simp);repeat simp -implicitDefEqProofs only [go_sem,Nat.reduceAdd,Nat.reduceMul,Nat.reduceEqDiff,Nat.reduceLT,Nat.reduceLeDiff,reduceCtorEq,hA',hA2,h0,hx,Int.toNat_natCast,List.length_map,q1',q2',e]
   have q2':((6:Int)<(c.length:Int))=False:=eq_false (by omega);have hbv:=Q65 c s.o (by omega) (by omega) hcx (by omega) (by omega);have hlt:c.length-1<c.length:=by omega
   have wl:=Qgt (n:=c.length) (by omega) (by omega);have hgl:=Qcv c (c.length-1) hlt;have n1:=nnT (c.length-1);have hl0:=Qc5 hlt
   -- the rest, behind the test of the last coefficient
   have rest:axOK c s.o=Qdd c s.o c.length→ ∀(t:Bool),Qdd c s.o c.length=t→True:=fun _ _ _=>trivial;by_cases q3:1<c.length
   ·have q3':((1:Int)<(c.length:Int))=True:=eq_true (by omega);by_cases q4:c[c.length-1]=0
    ·have q4':(c[c.length-1]==0)=true:=by rw [q4];rfl
     have e:=hbad (by unfold axOK Qi3;rw [hl0,q4',decide_eq_false (show¬c.length≤1 by omega)];simp);repeat simp -implicitDefEqProofs only [go_sem,Nat.reduceAdd,Nat.reduceMul,Nat.reduceEqDiff,Nat.reduceLT,Nat.reduceLeDiff,reduceCtorEq,hA',hA2,h0,hx,Int.toNat_natCast,List.length_map,q1',q2',q3',q4',wl,n1,hgl,e]
    have q4':(c[c.length-1]==0)=false:=by simp only [beq_eq_false_iff_ne,ne_eq];exact q4
    have e1:axOK c s.o=Qdd c s.o c.length:=by unfold axOK Qi3;rw [hl0,q4',decide_eq_true (show 1≤c.length by omega),decide_eq_true (show c.length≤6 by omega)];simp
    cases hb:Qdd c s.o c.length with
    |false=>
     rw [hb]at hbv e1;have e:=hbad e1;repeat (first|simp -implicitDefEqProofs only [go_sem,Nat.reduceAdd,Nat.reduceMul,Nat.reduceEqDiff,Nat.reduceLT,Nat.reduceLeDiff,reduceCtorEq,hA',hA2,h0,hx,Int.toNat_natCast,List.length_map,q1',q2',q3',q4',wl,n1,hgl,e]|(with_reducible refine Qaa hbv ?_ ?_ ?_);rfl;rfl)
    |true=>
     rw [hb]at hbv e1;repeat (first|simp -implicitDefEqProofs only [go_sem,Nat.reduceAdd,Nat.reduceMul,Nat.reduceEqDiff,Nat.reduceLT,Nat.reduceLeDiff,reduceCtorEq,hA',hA2,h0,hx,Int.toNat_natCast,List.length_map,q1',q2',q3',q4',wl,n1,hgl]|(with_reducible refine Qaa hbv ?_ ?_ ?_);rfl;rfl)
     refine Qat mixed (fun k:{k:Nat // k≤c.length}=>St.of [(1,.bp 0 6 0 0),(2,.bool false),(3,.bp 303 2 0 0),(37,.agg [Qas s.x,Qas s.y,Qas s.z]),(38,.int .i64 (i:Int)),(70,Qas c),(71,.int .i64 (c.length:Int)),(72,.int .i64 (k.1:Int))]
      [(0,{els:=[sgPV s],esz:=6,ety:=47,fro:=0,live:=true,arr:=false}),(303,{els:=[wPV ((gcdL G (c.take k.1):Nat):Int)],esz:=2,ety:=36,fro:=0,live:=true,arr:=false})]) (fun k=>c.length-k.1) ⟨0,Nat.zero_le _⟩ ?_ ?_
     ·refine Qak (θ:=[(0,0),(303,303)]) rfl ?_ ?_
      ·simp [Qae,lkp,ren1,ren0,Qan,Qas]
      ·exact⟨⟨rfl,rfl,rfl,rfl,rfl,.inr ⟨rfl,_,_,rfl,rfl,rfl,rfl⟩⟩,⟨rfl,rfl,rfl,rfl,rfl,.inr ⟨rfl,_,_,rfl,rfl,rfl,rfl⟩⟩,trivial⟩
     ·rintro⟨k,hk⟩;by_cases hB:k<c.length
      ·have hB':=ltT hB;have n0:=nnT k;have hgk:=Qcv c k hB;have hwk2:=Qai (a:=k) (by omega);obtain⟨k1,k2⟩:=hcx _ (List.getElem_mem hB);have o1:=Qfe c[k] k1 k2;have x1:=Qa2 (hcx _ (List.getElem_mem hB));have x2:((gcdL G (c.take k):Nat):Int).natAbs<2^64:=by rw [Int.natAbs_natCast];exact Qf0 _ hGi fun x hx=>Qa2 (hcx x (List.mem_of_mem_take hx))
       have m:=Qp3 (Qav x2 (by decide)) (Qav x1 (by decide));rw [Int.natAbs_natCast,←Qfb,←Qbq c k hB]at m;generalize hX:gcdL G (c.take (k+1))=X at*;generalize gcdL G (c.take k)=Y at*;repeat (first|simp -implicitDefEqProofs only [go_sem,Nat.reduceAdd,Nat.reduceMul,Nat.reduceEqDiff,Nat.reduceLT,Nat.reduceLeDiff,reduceCtorEq,hB',n0,hgk,hwk2,wPV,Int.toNat_natCast]|(with_reducible refine Qaa o1 ?_ ?_ ?_);rfl;rfl|(with_reducible refine Qaa m ?_ ?_ ?_);rfl;rfl|(with_reducible refine And.intro (Qac _ _ (by kernel_rfl)) ?_))
       refine⟨⟨k+1,hB⟩,by simp only;omega,Qak (θ:=[(0,0),(303,303)]) rfl ?_ ?_⟩
       ·simp [Qae,lkp,ren1,ren0,Qan,Qas]
       ·simp only [hX];exact⟨⟨rfl,rfl,rfl,rfl,rfl,.inr ⟨rfl,_,_,rfl,rfl,rfl,rfl⟩⟩,⟨rfl,rfl,rfl,rfl,rfl,.inr ⟨rfl,_,_,rfl,rfl,rfl,rfl⟩⟩,trivial⟩
      ·have hB':=ltF hB;obtain rfl:k=c.length:=by omega
       repeat simp -implicitDefEqProofs only [go_sem,Nat.reduceAdd,Nat.reduceMul,Nat.reduceEqDiff,Nat.reduceLT,Nat.reduceLeDiff,reduceCtorEq,hB',hwk]
       refine⟨⟨i+1,hA,by rw [htk];exact e1⟩,by simp only;omega,Qak (θ:=[(0,0),(303,303)]) rfl ?_ ?_⟩
       ·simp [Qae,lkp,ren1,ren0,Qan,Qas]
       ·simp only [hfd];rw [List.take_length];exact⟨⟨rfl,rfl,rfl,rfl,rfl,.inr ⟨rfl,_,_,rfl,rfl,rfl,rfl⟩⟩,⟨rfl,rfl,rfl,rfl,rfl,.inr ⟨rfl,_,_,rfl,rfl,rfl,rfl⟩⟩,trivial⟩
   ·have q3':((1:Int)<(c.length:Int))=False:=eq_false (by omega);have e1:axOK c s.o=Qdd c s.o c.length:=by unfold axOK Qi3;rw [decide_eq_true (show 1≤c.length by omega),decide_eq_true (show c.length≤6 by omega),decide_eq_true (show c.length≤1 by omega)];simp
    cases hb:Qdd c s.o c.length with
    |false=>
     rw [hb]at hbv e1;have e:=hbad e1;repeat (first|simp -implicitDefEqProofs only [go_sem,Nat.reduceAdd,Nat.reduceMul,Nat.reduceEqDiff,Nat.reduceLT,Nat.reduceLeDiff,reduceCtorEq,hA',hA2,h0,hx,Int.toNat_natCast,List.length_map,q1',q2',q3',e]|(with_reducible refine Qaa hbv ?_ ?_ ?_);rfl;rfl)
    |true=>
     rw [hb]at hbv e1;repeat (first|simp -implicitDefEqProofs only [go_sem,Nat.reduceAdd,Nat.reduceMul,Nat.reduceEqDiff,Nat.reduceLT,Nat.reduceLeDiff,reduceCtorEq,hA',hA2,h0,hx,Int.toNat_natCast,List.length_map,q1',q2',q3']|(with_reducible refine Qaa hbv ?_ ?_ ?_);rfl;rfl)
     refine Qat mixed (fun k:{k:Nat // k≤c.length}=>St.of [(1,.bp 0 6 0 0),(2,.bool false),(3,.bp 303 2 0 0),(37,.agg [Qas s.x,Qas s.y,Qas s.z]),(38,.int .i64 (i:Int)),(70,Qas c),(71,.int .i64 (c.length:Int)),(72,.int .i64 (k.1:Int))]
      [(0,{els:=[sgPV s],esz:=6,ety:=47,fro:=0,live:=true,arr:=false}),(303,{els:=[wPV ((gcdL G (c.take k.1):Nat):Int)],esz:=2,ety:=36,fro:=0,live:=true,arr:=false})]) (fun k=>c.length-k.1) ⟨0,Nat.zero_le _⟩ ?_ ?_
     ·refine Qak (θ:=[(0,0),(303,303)]) rfl ?_ ?_
      ·simp [Qae,lkp,ren1,ren0,Qan,Qas]
      ·exact⟨⟨rfl,rfl,rfl,rfl,rfl,.inr ⟨rfl,_,_,rfl,rfl,rfl,rfl⟩⟩,⟨rfl,rfl,rfl,rfl,rfl,.inr ⟨rfl,_,_,rfl,rfl,rfl,rfl⟩⟩,trivial⟩
     ·rintro⟨k,hk⟩;by_cases hB:k<c.length
      ·have hB':=ltT hB;have n0:=nnT k;have hgk:=Qcv c k hB;have hwk2:=Qai (a:=k) (by omega);obtain⟨k1,k2⟩:=hcx _ (List.getElem_mem hB);have o1:=Qfe c[k] k1 k2;have x1:=Qa2 (hcx _ (List.getElem_mem hB));have x2:((gcdL G (c.take k):Nat):Int).natAbs<2^64:=by rw [Int.natAbs_natCast];exact Qf0 _ hGi fun x hx=>Qa2 (hcx x (List.mem_of_mem_take hx))
       have m:=Qp3 (Qav x2 (by decide)) (Qav x1 (by decide));rw [Int.natAbs_natCast,←Qfb,←Qbq c k hB]at m;generalize hX:gcdL G (c.take (k+1))=X at*;generalize gcdL G (c.take k)=Y at*;repeat (first|simp -implicitDefEqProofs only [go_sem,Nat.reduceAdd,Nat.reduceMul,Nat.reduceEqDiff,Nat.reduceLT,Nat.reduceLeDiff,reduceCtorEq,hB',n0,hgk,hwk2,wPV,Int.toNat_natCast]|(with_reducible refine Qaa o1 ?_ ?_ ?_);rfl;rfl|(with_reducible refine Qaa m ?_ ?_ ?_);rfl;rfl|(with_reducible refine And.intro (Qac _ _ (by kernel_rfl)) ?_))
       refine⟨⟨k+1,hB⟩,by simp only;omega,Qak (θ:=[(0,0),(303,303)]) rfl ?_ ?_⟩
       ·simp [Qae,lkp,ren1,ren0,Qan,Qas]
       ·simp only [hX];exact⟨⟨rfl,rfl,rfl,rfl,rfl,.inr ⟨rfl,_,_,rfl,rfl,rfl,rfl⟩⟩,⟨rfl,rfl,rfl,rfl,rfl,.inr ⟨rfl,_,_,rfl,rfl,rfl,rfl⟩⟩,trivial⟩
      ·have hB':=ltF hB;obtain rfl:k=c.length:=by omega
       repeat simp -implicitDefEqProofs only [go_sem,Nat.reduceAdd,Nat.reduceMul,Nat.reduceEqDiff,Nat.reduceLT,Nat.reduceLeDiff,reduceCtorEq,hB',hwk]
       refine⟨⟨i+1,hA,by rw [htk];exact e1⟩,by simp only;omega,Qak (θ:=[(0,0),(303,303)]) rfl ?_ ?_⟩
       ·simp [Qae,lkp,ren1,ren0,Qan,Qas]
       ·simp only [hfd];rw [List.take_length];exact⟨⟨rfl,rfl,rfl,rfl,rfl,.inr ⟨rfl,_,_,rfl,rfl,rfl,rfl⟩⟩,⟨rfl,rfl,rfl,rfl,rfl,.inr ⟨rfl,_,_,rfl,rfl,rfl,rfl⟩⟩,trivial⟩
  ·have hA':((i:Int)<3)=False:=eq_false (by omega);obtain rfl:i=3:=by omega
   have et:s.ax.take 3=s.ax:=rfl;have e:Qau s=((s.ax.take 3).foldl gcdL s.o.natAbs==1):=by rw [et]at hall ⊢;unfold Qau;rw [er,hall];simp
   rw [e];simp only;generalize (s.ax.take 3).foldl gcdL s.o.natAbs=G at*;repeat (first|simp -implicitDefEqProofs only [go_sem,Nat.reduceAdd,Nat.reduceMul,Nat.reduceEqDiff,Nat.reduceLT,Nat.reduceLeDiff,Nat.reduceSub,reduceCtorEq,Int.reduceLT,hA',wPV]|(with_reducible refine Qaa wone ?_ ?_ ?_);rfl;rfl|(with_reducible refine And.intro (Qac _ _ (by kernel_rfl)) ?_))
   have h1:=Qk1 (G:Int) 1;have h2:decide ((1:Int)<0)=false:=rfl;rw [h2]at h1;have h3:(decide ((G:Int)<0)==false)= !decide ((G:Int)<0):=by cases decide ((G:Int)<0)<;>rfl
   rw [h3]at h1;rw [h1];congr 1;rw [Bool.eq_iff_iff,decide_eq_true_eq,beq_iff_eq];omega
end Go.Proofs.YtcaffiaempefjaaGreatDoor

namespace Go.Vl
open Go.RowKit
section
variable {P:Program} {b:Frame} {a:Act} {k:List Item} {cs:List Frame} {w:World}
theorem Qfl {c:Code}:step P (lone (b.atR a (.code (.scope c)::k)) cs w)= .next (lone (b.atR a (.code c:: .inScope c::k)) cs w):=
 step_lone_go (by simp [stepG,stepG.exec,Frame.atR])
theorem Qs2 {c:Code}:step P (lone (b.atR a (.inScope c::k)) cs w)= .next (lone (b.atR a k) cs w):=
 step_lone_go (by simp [stepG,stepG.exec,Frame.atR])
end
theorem Zd1 {P:Program} {nt:Nat} {Q:Exit→St→Prop} {st:St} {c:Code} (h:Vwp P nt c (fun e s=>(∀l,e≠ .goto l)∧Q e s) st):Vwp P nt (.scope c) Q st:=fun C h1 h2 rd a w hr=>by
 subst h1;subst h2;intro b k cs hro hb hroom;obtain⟨e,a₁,w₁,⟨s,hq,hr1⟩,harr⟩:=h C rfl rfl rd a w hr b (.inScope c::k) cs hro hb hroom;cases e with
 |normal=>exact⟨_,a₁,w₁,⟨s,hq.2,hr1⟩,.of_steps (.one (fenced_calm hb hroom rfl) Qfl) (StepsIn.trans harr (.one (fenced_calm hb hroom rfl) Qs2))⟩
 |exit id=>exact⟨_,a₁,w₁,⟨s,hq.2,hr1⟩,.of_steps (.one (fenced_calm hb hroom rfl) Qfl) ⟨fun k' hk=>harr.1 k' (by simp [exitTo,hk]),fun hr hk=>harr.2 hr (by simp [exitTo,hk])⟩⟩
 |goto l=>exact(hq.1 l rfl).elim
 |ret=>exact⟨_,a₁,w₁,⟨s,hq.2,hr1⟩,.of_steps (.one (fenced_calm hb hroom rfl) Qfl) harr⟩
 |panic ch=>exact⟨_,a₁,w₁,⟨s,hq.2,hr1⟩,.of_steps (.one (fenced_calm hb hroom rfl) Qfl) harr⟩
 |outgrown=>exact⟨_,a₁,w₁,⟨s,hq.2,hr1⟩,.of_steps (.one (fenced_calm hb hroom rfl) Qfl) harr⟩
def Ql0 (P:Program) (tb:Tab) (nt:Nat) (ks:List Nat) (k:List It) (Q:Exit→St→Prop) (e:Exit) (s:St):Prop:=(∀l,e≠ .goto l)∧gleave P tb nt ks k Q e s
section
variable (P:Program) (tb:Tab) (nt:Nat) (ks:List Nat) (k:List It) (Q:Exit→St→Prop) (s:St)
theorem Qs3:Ql0 P tb nt ks k Q .normal s=go P tb nt ks k Q s:=by
 unfold Ql0;rw [Qcy];exact propext ⟨fun h=>h.2,fun h=>⟨fun l=>by simp,h⟩⟩
theorem Qyf (i:Nat):Ql0 P tb nt ks k Q (.exit i) s=gleave P tb nt ks k Q (.exit i) s:=by
 unfold Ql0;exact propext ⟨fun h=>h.2,fun h=>⟨fun l=>by simp,h⟩⟩
theorem Q4h:Ql0 P tb nt ks k Q .ret s=gleave P tb nt ks k Q .ret s:=by
 unfold Ql0;exact propext ⟨fun h=>h.2,fun h=>⟨fun l=>by simp,h⟩⟩
end
attribute [go_sem] Qs3 Qyf Q4h List.append_eq
theorem Zvy {P:Program} {tb:Tab} {nt:Nat} {ks:List Nat} {k:List It} {Q:Exit→St→Prop} {st:St} (hm:P.follows .mixedOrders=true) {c:Code} (h:go P tb nt ks [.code c] (Ql0 P tb nt ks k Q) st):go P tb nt ks (.code (.scope c)::k) Q st:=by
 simp only [go,vx]at h ⊢;refine Zd1 (Qeh (Qcj (tb:=tb) (ks:=ks) hm c _ _ h) ?_);intro e s q;have q:gleave P tb nt ks [] (Ql0 P tb nt ks k Q) e s:=q;simp only [gleave]at q;exact q
end Go.Vl

namespace Go.Dg
def plQ (s:Sg) (a d:Int) (i:Nat):Int:=plP s a d i/(plG s a d 3:Int)
def plO (s:Sg) (a d:Int):Int:=s.o*d^5/(plG s a d 3:Int)
def Qnl (s:Sg) (a d:Int) (s':Sg) (a' d':Int):Bool:=decide (plQ s a d 0=plQ s' a' d' 0)&&(decide (plQ s a d 1=plQ s' a' d' 1)&&(decide (plQ s a d 2=plQ s' a' d' 2)&&decide (plO s a d=plO s' a' d')))
theorem Qv6 (s:Sg) (a d:Int) (s':Sg) (a' d':Int):Qnl s a d s' a' d'=Qnl s' a' d' s a d:=by
 unfold Qnl;rw [Bool.eq_iff_iff];simp only [Bool.and_eq_true,decide_eq_true_eq];constructor<;>(rintro⟨h1,h2,h3,h4⟩;exact⟨h1.symm,h2.symm,h3.symm,h4.symm⟩)
def Qdr (a b:Sg):Bool:=decide (a.t=b.f)&&Qnl a 1 1 b 0 1
def sg0:Sg:=⟨0,0,0,[],[],[]⟩
def vpAt (p:List Sg) (j:Nat):Bool:=Qau (p.getD j sg0)&&(decide (j=0)||Qdr (p.getD (j-1) sg0) (p.getD j sg0))
def vpTo (p:List Sg) (i:Nat):Bool:=(List.range i).all (vpAt p)
def Qa7 (p:List Sg):Bool:=vpTo p p.length&&(decide (1≤p.length)&&decide (p.length≤256))
theorem Qjl (p:List Sg) (i:Nat):vpTo p (i+1)=(vpTo p i&&vpAt p i):=by simp [vpTo,List.range_succ]
theorem Zp1 {p:List Sg} {j m:Nat} (h:vpAt p j=false) (hm:j<m):vpTo p m=false:=by
 unfold vpTo;rw [List.all_eq_false];exact⟨j,List.mem_range.2 hm,by simp [h]⟩
theorem Qgb {p:List Sg} {j:Nat} (h:vpAt p j=false) (hm:j<p.length):Qa7 p=false:=by unfold Qa7;rw [Zp1 h hm];rfl
theorem sgD {p:List Sg} {i:Nat} (h:i<p.length):p.getD i sg0=p[i]:=by rw [List.getD_eq_getElem?_getD,List.getElem?_eq_getElem h];rfl
theorem Qks {p:List Sg} {i j:Nat} (h:vpTo p i=true) (hj:j<i):Qau (p.getD j sg0)=true:=by
 have:=List.all_eq_true.1 h j (List.mem_range.2 hj);unfold vpAt at this;simp only [Bool.and_eq_true]at this;exact this.1
theorem Qaq {s:Sg} (h:Qau s=true):(0≤s.f∧s.f<s.t∧s.t≤3600000∧1≤s.o∧s.o≤4294967296)∧(∀c∈s.ax,axOK c s.o=true)∧s.ax.foldl gcdL s.o.natAbs=1:=by
 unfold Qau rngS at h;simp only [Bool.and_eq_true,decide_eq_true_eq,List.all_eq_true,beq_iff_eq]at h;obtain⟨⟨h1,h2,h3,h4,h5⟩,h6,h7⟩:=h;exact⟨⟨h1,h2,h3,h4,h5⟩,h6,h7⟩
theorem Qa9 {c:List Int} {o:Int} (h:axOK c o=true):1≤c.length∧c.length≤6∧(1<c.length→c.getD (c.length-1) 0≠0)∧Qdd c o c.length=true:=by
 unfold axOK Qi3 at h;simp only [Bool.and_eq_true,decide_eq_true_eq,Bool.or_eq_true,Bool.not_eq_true',beq_eq_false_iff_ne]at h;obtain⟨⟨h1,h2,h3⟩,h4⟩:=h;exact⟨h1,h2,fun h5=>h3.elim (fun h6=>by omega) id,h4⟩
theorem Qdg {s:Sg} (h:Qau s=true): ∀c∈s.ax,c.length≤6:=fun c hc=>(Qa9 ((Qaq h).2.1 c hc)).2.1
theorem Qc7 {s:Sg} (h:Qau s=true):1≤s.o:=(Qaq h).1.2.2.2.1
def few1 (s:Sg):Bool:=decide (s.x.length≤8)&&(decide (s.y.length≤8)&&decide (s.z.length≤8))
def fewB (p:List Sg) (m:Nat):Bool:=((p.take (m+1)).all few1)&&decide (p.length≤m)
theorem Q1e {p:List Sg} {m:Nat} (h:fewB p m=true):p.length≤m∧ ∀s∈p,∀c∈s.ax,c.length≤8:=by
 unfold fewB at h;simp only [Bool.and_eq_true,decide_eq_true_eq]at h;obtain⟨h1,h2⟩:=h;rw [List.take_of_length_le (by omega)]at h1;refine⟨h2,fun s hs c hc=> ?_⟩;have:=List.all_eq_true.1 h1 s hs;unfold few1 at this;simp only [Bool.and_eq_true,decide_eq_true_eq]at this;obtain⟨a1,a2,a3⟩:=this;unfold Sg.ax at hc;simp only [List.mem_cons,List.not_mem_nil,or_false]at hc;rcases hc with rfl|rfl|rfl<;>assumption
theorem Qrj {p:List Sg} {m i:Nat} (hi:i<p.length) (hm:i≤m) (h:few1 p[i]=false):fewB p m=false:=by
 unfold fewB;have:(p.take (m+1)).all few1=false:=by
  rw [List.all_eq_false];refine⟨p[i],?_,by simp [h]⟩;rw [List.mem_take_iff_getElem];exact⟨i,by omega,rfl⟩
 rw [this];rfl
end Go.Dg
