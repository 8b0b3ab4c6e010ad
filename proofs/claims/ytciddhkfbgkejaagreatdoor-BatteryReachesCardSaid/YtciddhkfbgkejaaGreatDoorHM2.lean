/-
  HP1, HP2, Dbr, HB1, Dr, HN1, Bn, HN2, Ds, HP3, Du, HP4, Dsg, HM1, US4, UX, UX1, HM2 (merged for the claim).
-/
import Derived.Test.YtciddhkfbgkejaaGreatDoorDq
import Derived.Test.YtciddhkfbgkejaaGreatDoorHW30
import Derived.Test.YtciddhkfbgkejaaGreatDoorHW2
import Derived.Test.YtciddhkfbgkejaaGreatDoorUV
set_option linter.unusedSimpArgs false
set_option linter.unusedVariables false
namespace Go.Proofs.YtciddhkfbgkejaaGreatDoor
open Go.Vl Go.RowKit Go.Dg
theorem Qis {x y:Int} {B:Nat} (hx:x.natAbs<2^B) (hy:y.natAbs<2^B):(x+y).natAbs<2^(B+1):=by
 rw [Nat.pow_succ];generalize 2^B=K at*;omega
theorem Qhw {x y:Int} {B C:Nat} (hx:x.natAbs<2^B) (hy:y.natAbs<2^C):(x*y).natAbs<2^(B+C):=by
 rw [Int.natAbs_mul,Nat.pow_add];exact Nat.mul_lt_mul'' hx hy
theorem Q26 {x:Int} {B:Nat} (hx:x.natAbs<2^B):(-x).natAbs<2^B:=by rw [Int.natAbs_neg];exact hx
theorem Zhw {x:Int} (h:x.natAbs<2^65536):(digs 256 x.natAbs).length≤8192:=(Qal (by decide) x.natAbs 8192).2 (Qhu (k:=8192) h (by decide))
theorem Qli {n:Int} (h:n.natAbs<2^65536):Qe8 n= .tup [wPV n,.int .i64 0]:=by
 rw [Qe8,if_neg (Nat.not_lt.2 (Qde 65536 _ h))]
abbrev mB (x:Int):ByteArray:=⟨(magL x.natAbs).toArray⟩
theorem Qca {x:Int} (h:x.natAbs<2^65536):(mB x).size≤100000:=by rw [Qma];have:=Zhw h;omega
theorem Qc0 {x:Int} (h:x.natAbs<2^65536):Qbl (decide (x<0)) (mB x).data.toList=true:=Qic x (Zhw h)
theorem Qqb (x:Int):(bnum (mB x).data.toList)=x.natAbs:=by
 have h:=Qbi x
 unfold wnum at h
 have h2:=congrArg Int.natAbs h
 rwa [Q7o]at h2
theorem Zpt {x y:Int} (hx:x.natAbs<2^65536) (hy:y.natAbs<2^65536):Qad Tryz.prog 190 [wPV x,wPV y] (Qe8 (x*y)):=by
 have h:=Zqu (decide (x<0)) (decide (y<0)) (mB x) (mB y) (Qc0 hx) (Qc0 hy) (Qca hx) (Qca hy)
 rwa [Qbi,Qbi]at h
theorem Zpu {x y:Int} (hx:x.natAbs<2^65536) (hy:y.natAbs<2^65536):Qad Tryz.prog 113 [wPV x,wPV y] (Qe8 (x+y)):=by
 have h:=Zqq (decide (x<0)) (decide (y<0)) (mB x) (mB y) (Qc0 hx) (Qc0 hy) (Qca hx) (Qca hy)
 rwa [Qbi,Qbi]at h
theorem Zpv {x y:Int} (hx:x.natAbs<2^65536) (hy:y.natAbs<2^65536):Qad Tryz.prog 162 [wPV x,wPV y] (Qe8 ((Nat.gcd x.natAbs y.natAbs:Nat):Int)):=by
 have h:=Zqv (decide (x<0)) (decide (y<0)) (mB x) (mB y) (Qc0 hx) (Qc0 hy) (Qca hx) (Qca hy)
 rwa [Qqb,Qqb]at h
theorem Qwq {x:Int} (hx:x.natAbs<2^65536):Qad Tryz.prog 66 [wPV x] (Qfm x):=by
 have h:=Zqs (decide (x<0)) (mB x) (Qc0 hx) (Qca hx)
 rwa [Qbi]at h
theorem Qyb {x y:Int} (hx:x.natAbs<2^65536) (hy:y.natAbs<2^65536):Qad Tryz.prog 142 [wPV x,wPV y] (.int .i64 (x-y).sign):=by
 have h:=Qzq (decide (x<0)) (decide (y<0)) (mB x) (mB y) (Qc0 hx) (Qc0 hy) (Qca hx) (Qca hy)
 rwa [Qbi,Qbi]at h
theorem Zpw {x:Int} (h:x≠0):(mB x).data.toList≠ []:=fun e=>h ((Qll x).1 e)
theorem Zpx {x y:Int} (hx:x.natAbs<2^65536) (hy:y.natAbs<2^65536) (h0:y≠0):Qad Tryz.prog 112 [wPV x,wPV y] (Zf6 x y):=by
 have h:=Zqx (decide (x<0)) (decide (y<0)) (mB x) (mB y) (Qc0 hx) (Qc0 hy) (Zpw h0) (Qca hx) (Qca hy)
 rwa [Qbi,Qbi]at h
theorem Qsb {x y:Int} (hx:x.natAbs<2^65536) (hy:y.natAbs<2^65536) (h0:0<y):vRat (decide (x<0)) (mB x) (decide (y<0)) (mB y)=true:=by
 unfold vRat
 rw [Qc0 hx,Qc0 hy,Qlk (Zpw (show y≠0 by omega))]
 have:decide (y<0)=false:=by simp;omega
 rw [this];rfl
theorem Qt5 {a b c d:Int} (ha:a.natAbs<2^65536) (hb:b.natAbs<2^65536) (hc:c.natAbs<2^65536) (hd:d.natAbs<2^65536) (b0:0<b) (d0:0<d):
  Qad Tryz.prog 164 [Qdp a b,Qdp c d] (outQ (Qus a b c d) (Qut a b c d)):=by
 have h:=Quu (decide (a<0)) (decide (b<0)) (decide (c<0)) (decide (d<0)) (mB a) (mB b) (mB c) (mB d) (Qsb ha hb b0) (Qsb hc hd d0) (Qca ha) (Qca hb) (Qca hc) (Qca hd)
 rwa [Qbi,Qbi,Qbi,Qbi]at h
theorem Qt6 {a b c d:Int} (ha:a.natAbs<2^65536) (hb:b.natAbs<2^65536) (hc:c.natAbs<2^65536) (hd:d.natAbs<2^65536) (b0:0<b) (d0:0<d):
  Qad Tryz.prog 165 [Qdp a b,Qdp c d] (outQ (lowN (a*c) (b*d)) (lowD (a*c) (b*d))):=by
 have h:=Quv (decide (a<0)) (decide (b<0)) (decide (c<0)) (decide (d<0)) (mB a) (mB b) (mB c) (mB d) (Qsb ha hb b0) (Qsb hc hd d0) (Qca ha) (Qca hb) (Qca hc) (Qca hd)
 rwa [Qbi,Qbi,Qbi,Qbi]at h
theorem Zas {a b:Int} (ha:a.natAbs<2^65536) (hb:b.natAbs<2^65536) (b0:0<b):Qad Tryz.prog 166 [Qdp a b] (Qe8 (a/b)):=by
 have h:=Zf8 (decide (a<0)) (decide (b<0)) (mB a) (mB b) (Qsb ha hb b0) (Qca ha) (Qca hb)
 rwa [Qbi,Qbi]at h
theorem Qt7 {x:Int} {B k:Nat} (h:x.natAbs<2^B) (hk:B≤8*k):(digs E9 x.natAbs).length≤k:=(Qbp x k (Qhu h hk)).1
theorem Zsu {x:Int} {B k:Nat} (h:x.natAbs<2^B) (hk:B≤8*k):(digs 256 x.natAbs).length≤k:=(Qbp x k (Qhu h hk)).2
theorem Zat {x:Int} (h:x.natAbs<2^8000000):Qad Tryz.prog 87 [rI x] (wPV x):=Zsb x (Qt7 h (by decide)) (Nat.le_trans (Zsu h (k:=1000000) (by decide)) (by decide))
theorem Qkj {x y:Int} (hx:x.natAbs<2^7000000) (hy:y.natAbs<2^7000000):Qad Tryz.prog 83 [rI x,rI y] (rI (x+y)):=
 Qwe x y (Qww (k:=1000000) (by decide) (Qhu (k:=1000000) hx (by decide)) (Qhu (k:=1000000) hy (by decide)))
theorem Qe1 {x y:Int} (hx:x.natAbs<2^7000000) (hy:y.natAbs<2^7000000):Qad Tryz.prog 84 [rI x,rI y] (rI (x*y)):=
 Qge x y (by have:=Qt7 hx (k:=1000000) (by decide);have:=Qt7 hy (k:=1000000) (by decide);omega)
theorem Qwr {x y:Int} (hx:x.natAbs<2^7000000) (hy:y.natAbs<2^7000000) (h0:y≠0):Qad Tryz.prog 125 [rI x,rI y] (.tup [rI (x/y),rI (x%y)]):=
 Q17 x y h0 (Qt7 hx (by decide)) (Qt7 hy (by decide))
theorem Q27 {x y:Int} (hx:x.natAbs<2^7000000) (hy:y.natAbs<2^7000000):Qad Tryz.prog 103 [rI x,rI y] (rI ((Nat.gcd x.natAbs y.natAbs:Nat):Int)):=
 Zhg x y (Qt7 hx (by decide)) (Qt7 hy (by decide))
theorem Qeh {x y:Int} (hx:x.natAbs<2^7000000) (hy:y.natAbs<2^7000000):Qad Tryz.prog 77 [rI x,rI y] (.int .i64 (x-y).sign):=
 Qx7 x y (Qww (k:=1000000) (by decide) (Qhu (k:=1000000) hx (by decide)) (Qhu (k:=1000000) hy (by decide)))
end Go.Proofs.YtciddhkfbgkejaaGreatDoor

namespace Go.Proofs.YtciddhkfbgkejaaGreatDoor
open Go.Vl Go.RowKit Go.Dg
theorem Zpy (a b:ByteArray):(a==b)=(a.data==b.data):=rfl
def rL (xs:List Int):PV:= .slc (xs.map rI)
theorem Zhx (xs:List Int) (i:Nat) (h:i<xs.length):(xs.map rI)[i]? =some (.agg [.bool (decide (xs[i]<0)),di (digs E9 xs[i].natAbs)]):=by
 rw [List.getElem?_map,List.getElem?_eq_getElem h];rfl
theorem Zpz (xs:List Int):(((xs.map rI).flatMap PV.cells).all PV.okCell)=true:=by
 rw [List.all_flatMap,List.all_map,List.all_eq_true];intro _ _;rfl
theorem Zau {α:Type} {p:α→Bool} {l:List α} {i:Nat} (hi:i<l.length) (h:(l.take i).all p=true) (hp:p l[i]=true):(l.take (i+1)).all p=true:=by
 rw [List.take_add_one,List.all_append,h];simp [hi,hp]
theorem Q28 {α:Type} {p:α→Bool} {l:List α} {i:Nat} (hi:i<l.length) (hp:p l[i]=false):l.all p=false:=by
 rw [List.all_eq_false];exact⟨l[i],List.getElem_mem hi,by simp [hp]⟩
theorem Qb0 {α:Type} (l:List α) (i:Nat) (hi:i<l.length):l.take (i+1)=l.take i++[l[i]]:=by rw [List.take_add_one];simp [hi]
theorem ltT {i n:Nat} (h:i<n):((i:Int)<(n:Int))=True:=by simp only [eq_iff_iff,iff_true];omega
theorem ltF {i n:Nat} (h: ¬i<n):((i:Int)<(n:Int))=False:=by simp only [eq_iff_iff,iff_false];omega
theorem leT {i n:Nat} (h:i≤n):((i:Int)≤(n:Int))=True:=by simp only [eq_iff_iff,iff_true];omega
theorem leF {i n:Nat} (h: ¬i≤n):((i:Int)≤(n:Int))=False:=by simp only [eq_iff_iff,iff_false];omega
theorem nnT (i:Nat):((0:Int)≤(i:Int))=True:=by simp
end Go.Proofs.YtciddhkfbgkejaaGreatDoor

namespace Go.Dg
def fitQ (k:Nat) (q:Rat):Prop:=q.num.natAbs<2^k∧q.den<2^k
theorem fitQ.mono {k l:Nat} {q:Rat} (h:fitQ k q) (hk:k≤l):fitQ l q:=
 ⟨Nat.lt_of_lt_of_le h.1 (Nat.pow_le_pow_right (by decide) hk),Nat.lt_of_lt_of_le h.2 (Nat.pow_le_pow_right (by decide) hk)⟩
theorem Zg9 {k:Nat} {n:Int} {d:Nat} (h1:n.natAbs<2^k) (h2:d<2^k) (hd:d≠0):fitQ k (mkRat n d):=by
 refine⟨?_,?_⟩
 ·rw [Rat.num_mkRat,if_neg hd]
  exact Nat.lt_of_le_of_lt (Int.natAbs_ediv_le_natAbs _ _) h1
 ·rw [Rat.den_mkRat,if_neg hd]
  exact Nat.lt_of_le_of_lt (Nat.div_le_self _ _) h2
theorem Qh5 {k:Nat} {n d:Int} (h1:n.natAbs<2^k) (h2:d.natAbs<2^k) (hd:d≠0):fitQ k ((n:Rat)/(d:Rat)):=by
 rw [←Rat.divInt_eq_div]
 refine⟨?_,?_⟩
 ·rw [Rat.num_divInt]
  refine Nat.lt_of_le_of_lt (Int.natAbs_ediv_le_natAbs _ _) (Nat.lt_of_le_of_lt ?_ h1)
  rw [Int.natAbs_mul]
  have:d.sign.natAbs≤1:=by
    rcases Int.lt_trichotomy d 0 with h|h|h
    ·rw [Int.sign_eq_neg_one_of_neg h];decide
    ·exact absurd h hd
    ·rw [Int.sign_eq_one_of_pos h];decide
  calc d.sign.natAbs*n.natAbs≤1*n.natAbs:=Nat.mul_le_mul_right _ this
   _=n.natAbs:=Nat.one_mul _
 ·rw [Rat.den_divInt,if_neg hd]
  exact Nat.lt_of_le_of_lt (Nat.div_le_self _ _) h2
theorem Qb5 {k l:Nat} {x y:Rat} (h1:fitQ k x) (h2:fitQ l y):fitQ (k+l) (x*y):=by
 rw [Rat.mul_def']
 refine Zg9 ?_ ?_ (Nat.mul_ne_zero x.den_nz y.den_nz)
 ·rw [Int.natAbs_mul,Nat.pow_add];exact Nat.mul_lt_mul'' h1.1 h2.1
 ·rw [Nat.pow_add];exact Nat.mul_lt_mul'' h1.2 h2.2
theorem Q02 {k l:Nat} {x y:Rat} {n:Int} (hn:n.natAbs≤x.num.natAbs*y.den+y.num.natAbs*x.den) (h1:fitQ k x) (h2:fitQ l y):fitQ (k+l+1) (mkRat n (x.den*y.den)):=by
 refine Zg9 ?_ ?_ (Nat.mul_ne_zero x.den_nz y.den_nz)
 ·have e1:x.num.natAbs*y.den<2^(k+l):=by rw [Nat.pow_add];exact Nat.mul_lt_mul'' h1.1 h2.2
  have e2:y.num.natAbs*x.den<2^(k+l):=by rw [Nat.pow_add,Nat.mul_comm (2^k)];exact Nat.mul_lt_mul'' h2.1 h1.2
  rw [Nat.pow_succ];omega
 ·have e2:x.den*y.den<2^(k+l):=by rw [Nat.pow_add];exact Nat.mul_lt_mul'' h1.2 h2.2
  rw [Nat.pow_succ];omega
theorem Qdk {k l:Nat} {x y:Rat} (h1:fitQ k x) (h2:fitQ l y):fitQ (k+l+1) (x+y):=by
 rw [Rat.add_def']
 refine Q02 ?_ h1 h2
 refine Nat.le_trans (Int.natAbs_add_le _ _) ?_
 rw [Int.natAbs_mul,Int.natAbs_mul];simp
theorem Zii {k l:Nat} {x y:Rat} (h1:fitQ k x) (h2:fitQ l y):fitQ (k+l+1) (x-y):=by
 rw [Rat.sub_def']
 refine Q02 ?_ h1 h2
 have:=Int.natAbs_add_le (x.num*y.den) (-(y.num*x.den))
 rw [Int.natAbs_neg,Int.natAbs_mul,Int.natAbs_mul]at this
 simpa [Int.sub_eq_add_neg]using this
def qs (f:Nat→Rat):Nat→Rat
 |0=>0
 |n+1=>qs f n+f n
theorem Qn2 {k:Nat} {f:Nat→Rat}: ∀(n:Nat),(∀i,i<n→fitQ k (f i))→fitQ (n*(k+1)+1) (qs f n)
 |0,_=>⟨by show(0:Int).natAbs<2^(0*(k+1)+1);simp,by show 1<2^(0*(k+1)+1);simp⟩
 |n+1,h=>(Qdk (Qn2 n fun i hi=>h i (by omega)) (h n (Nat.lt_succ_self _))).mono (by rw [Nat.succ_mul];omega)
theorem Q03 (c:Rat) (f:Nat→Rat): ∀n,qs (fun i=>f i*c) n=qs f n*c
 |0=>by simp [qs]
 |n+1=>by simp only [qs];rw [Q03 c f n,Rat.add_mul]
theorem Qo9 {f g:Nat→Rat}: ∀n,(∀i,i<n→f i=g i)→qs f n=qs g n
 |0,_=>rfl
 |n+1,h=>by simp only [qs];rw [Qo9 n fun i hi=>h i (by omega),h n (by omega)]
def upQ (x:Rat):Int:= -((-x).num/((-x).den:Int))
theorem Qdl (x:Rat):0≤x*x:=by
 rcases Rat.le_total (a:=0) (b:=x)with h|h
 ·exact Rat.mul_nonneg h h
 ·have:=Rat.neg_le_neg h
  have:=Rat.mul_nonneg (a:= -x) (b:= -x) (by simpa using this) (by simpa using this)
  grind
theorem Qhp {x K:Rat} (h1: -K≤x) (h2:x≤K):x*x≤K*K:=by
 have e1:0≤K-x:=by grind
 have e2:0≤K+x:=by grind
 have:=Rat.mul_nonneg e1 e2
 grind
theorem Qrd (x1 x2 x3 x4 x5:Rat):(x1+x2+x3+x4+x5)*(x1+x2+x3+x4+x5)≤
  x1*x1+x2*x2*(4/3)+x3*x3*(9/5)+x4*x4*(16/7)+x5*x5*(25/9)+2*(x1*x2+x1*x3+x1*x4+x1*x5)+x2*x3*3+x2*x4*(16/5)+x2*x5*(10/3)
   +x3*x4*4+x3*x5*(30/7)+x4*x5*5:=by
 have h1:=Qdl (2*x2+3*x3+18/5*x4+4*x5)
 have h2:=Qdl (3*x3+6*x4+60/7*x5)
 have h3:=Qdl (4*x4+10*x5)
 have h4:=Qdl (5*x5)
 grind
theorem Zol {a1 d0 K:Rat} (e0:d0=a1*1) (h0: -K≤d0∧d0≤K):a1*a1*1≤1*(K*K):=by
 have s0:=Qhp h0.1 h0.2
 have key:a1*a1*1+(0)=1*(d0*d0):=by subst e0;grind
 clear e0 h0
 grind
theorem Zom {a1 a2 d0 d1 K:Rat} (e0:d0=a1*(1/2)) (e1:d1=a1*(1/2)+a2*1) (h0: -K≤d0∧d0≤K) (h1: -K≤d1∧d1≤K):a1*a1*1+a1*a2*1+a2*a1*1+a2*a2*(4/3)≤4*(K*K):=by
 have s0:=Qhp h0.1 h0.2
 have s1:=Qhp h1.1 h1.2
 have q01:=Qdl (d0-d1)
 have key:a1*a1*1+a1*a2*1+a2*a1*1+a2*a2*(4/3)+((2/3)*((d0-d1)*(d0-d1)))=2*(d0*d0+d1*d1):=by subst e0 e1;grind
 clear e0 h0 e1 h1
 grind
theorem Zon {a1 a2 a3 d0 d1 d2 K:Rat} (e0:d0=a1*(1/3)) (e1:d1=a1*(1/3)+a2*(1/3)) (e2:d2=a1*(1/3)+a2*(2/3)+a3*1) (h0: -K≤d0∧d0≤K) (h1: -K≤d1∧d1≤K) (h2: -K≤d2∧d2≤K):a1*a1*1+a1*a2*1+a1*a3*1+a2*a1*1+a2*a2*(4/3)+a2*a3*(3/2)+a3*a1*1+a3*a2*(3/2)+a3*a3*(9/5)≤9*(K*K):=by
 have s0:=Qhp h0.1 h0.2
 have s1:=Qhp h1.1 h1.2
 have s2:=Qhp h2.1 h2.2
 have q01:=Qdl (d0-d1)
 have q02:=Qdl (d0-d2)
 have q12:=Qdl (d1-d2)
 have key:a1*a1*1+a1*a2*1+a1*a3*1+a2*a1*1+a2*a2*(4/3)+a2*a3*(3/2)+a3*a1*1+a3*a2*(3/2)+a3*a3*(9/5)+((9/10)*((d0-d1)*(d0-d1))+(3/10)*((d0-d2)*(d0-d2))+(9/10)*((d1-d2)*(d1-d2)))=3*(d0*d0+d1*d1+d2*d2):=by subst e0 e1 e2;grind
 clear e0 h0 e1 h1 e2 h2
 grind
theorem Zoo {a1 a2 a3 a4 d0 d1 d2 d3 K:Rat} (e0:d0=a1*(1/4)) (e1:d1=a1*(1/4)+a2*(1/6)) (e2:d2=a1*(1/4)+a2*(1/3)+a3*(1/4)) (e3:d3=a1*(1/4)+a2*(1/2)+a3*(3/4)+a4*1) (h0: -K≤d0∧d0≤K) (h1: -K≤d1∧d1≤K) (h2: -K≤d2∧d2≤K) (h3: -K≤d3∧d3≤K):a1*a1*1+a1*a2*1+a1*a3*1+a1*a4*1+a2*a1*1+a2*a2*(4/3)+a2*a3*(3/2)+a2*a4*(8/5)+a3*a1*1+a3*a2*(3/2)+a3*a3*(9/5)+a3*a4*2+a4*a1*1+a4*a2*(8/5)+a4*a3*2+a4*a4*(16/7)≤16*(K*K):=by
 have s0:=Qhp h0.1 h0.2
 have s1:=Qhp h1.1 h1.2
 have s2:=Qhp h2.1 h2.2
 have s3:=Qhp h3.1 h3.2
 have q01:=Qdl (d0-d1)
 have q02:=Qdl (d0-d2)
 have q03:=Qdl (d0-d3)
 have q12:=Qdl (d1-d2)
 have q13:=Qdl (d1-d3)
 have q23:=Qdl (d2-d3)
 have key:a1*a1*1+a1*a2*1+a1*a3*1+a1*a4*1+a2*a1*1+a2*a2*(4/3)+a2*a3*(3/2)+a2*a4*(8/5)+a3*a1*1+a3*a2*(3/2)+a3*a3*(9/5)+a3*a4*2+a4*a1*1+a4*a2*(8/5)+a4*a3*2+a4*a4*(16/7)+((8/7)*((d0-d1)*(d0-d1))+(16/35)*((d0-d2)*(d0-d2))+(4/35)*((d0-d3)*(d0-d3))+(36/35)*((d1-d2)*(d1-d2))+(16/35)*((d1-d3)*(d1-d3))+(8/7)*((d2-d3)*(d2-d3)))=4*(d0*d0+d1*d1+d2*d2+d3*d3):=by subst e0 e1 e2 e3;grind
 clear e0 h0 e1 h1 e2 h2 e3 h3
 grind
theorem Zop {a1 a2 a3 a4 a5 d0 d1 d2 d3 d4 K:Rat} (e0:d0=a1*(1/5)) (e1:d1=a1*(1/5)+a2*(1/10)) (e2:d2=a1*(1/5)+a2*(1/5)+a3*(1/10)) (e3:d3=a1*(1/5)+a2*(3/10)+a3*(3/10)+a4*(1/5)) (e4:d4=a1*(1/5)+a2*(2/5)+a3*(3/5)+a4*(4/5)+a5*1) (h0: -K≤d0∧d0≤K) (h1: -K≤d1∧d1≤K) (h2: -K≤d2∧d2≤K) (h3: -K≤d3∧d3≤K) (h4: -K≤d4∧d4≤K):a1*a1*1+a1*a2*1+a1*a3*1+a1*a4*1+a1*a5*1+a2*a1*1+a2*a2*(4/3)+a2*a3*(3/2)+a2*a4*(8/5)+a2*a5*(5/3)+a3*a1*1+a3*a2*(3/2)+a3*a3*(9/5)+a3*a4*2+a3*a5*(15/7)+a4*a1*1+a4*a2*(8/5)+a4*a3*2+a4*a4*(16/7)+a4*a5*(5/2)+a5*a1*1+a5*a2*(5/3)+a5*a3*(15/7)+a5*a4*(5/2)+a5*a5*(25/9)≤25*(K*K):=by
 have s0:=Qhp h0.1 h0.2
 have s1:=Qhp h1.1 h1.2
 have s2:=Qhp h2.1 h2.2
 have s3:=Qhp h3.1 h3.2
 have s4:=Qhp h4.1 h4.2
 have q01:=Qdl (d0-d1)
 have q02:=Qdl (d0-d2)
 have q03:=Qdl (d0-d3)
 have q04:=Qdl (d0-d4)
 have q12:=Qdl (d1-d2)
 have q13:=Qdl (d1-d3)
 have q14:=Qdl (d1-d4)
 have q23:=Qdl (d2-d3)
 have q24:=Qdl (d2-d4)
 have q34:=Qdl (d3-d4)
 have key:a1*a1*1+a1*a2*1+a1*a3*1+a1*a4*1+a1*a5*1+a2*a1*1+a2*a2*(4/3)+a2*a3*(3/2)+a2*a4*(8/5)+a2*a5*(5/3)+a3*a1*1+a3*a2*(3/2)+a3*a3*(9/5)+a3*a4*2+a3*a5*(15/7)+a4*a1*1+a4*a2*(8/5)+a4*a3*2+a4*a4*(16/7)+a4*a5*(5/2)+a5*a1*1+a5*a2*(5/3)+a5*a3*(15/7)+a5*a4*(5/2)+a5*a5*(25/9)+((25/18)*((d0-d1)*(d0-d1))+(25/42)*((d0-d2)*(d0-d2))+(25/126)*((d0-d3)*(d0-d3))+(5/126)*((d0-d4)*(d0-d4))+(25/21)*((d1-d2)*(d1-d2))+(40/63)*((d1-d3)*(d1-d3))+(25/126)*((d1-d4)*(d1-d4))+(25/21)*((d2-d3)*(d2-d3))+(25/42)*((d2-d4)*(d2-d4))+(25/18)*((d3-d4)*(d3-d4)))=5*(d0*d0+d1*d1+d2*d2+d3*d3+d4*d4):=by subst e0 e1 e2 e3 e4;grind
 clear e0 h0 e1 h1 e2 h2 e3 h3 e4 h4
 grind
end Go.Dg

namespace Go.Proofs.YtciddhkfbgkejaaGreatDoor
open Go.Vl Go.RowKit Go.Dg
theorem Qme {n d:Int} (hd:d≠0):lowN n d=((n:Rat)/(d:Rat)).num∧lowD n d=(((n:Rat)/(d:Rat)).den:Int):=by
 rw [←Rat.divInt_eq_div,Rat.num_divInt,Rat.den_divInt,if_neg hd]
 have hc:d.gcd n=Nat.gcd n.natAbs d.natAbs:=Nat.gcd_comm _ _
 rw [hc]
 have d1:((Nat.gcd n.natAbs d.natAbs:Nat):Int)∣n:=Int.ofNat_dvd_left.2 (Nat.gcd_dvd_left _ _)
 have d2:((Nat.gcd n.natAbs d.natAbs:Nat):Int)∣d:=Int.ofNat_dvd_left.2 (Nat.gcd_dvd_right _ _)
 unfold lowN lowD gN
 generalize Nat.gcd n.natAbs d.natAbs=g at*
 by_cases h:d<0
 ·rw [if_pos h,Int.sign_eq_neg_one_of_neg h,Int.ediv_neg,Int.ediv_neg,←Int.neg_ediv_of_dvd d1,←Int.neg_ediv_of_dvd d2]
  refine⟨by rw [Int.neg_mul,Int.one_mul],?_⟩
  rw [Int.natCast_ediv]
  congr 1
  omega
 ·rw [if_neg h,Int.sign_eq_one_of_pos (by omega)]
  refine⟨by rw [Int.one_mul],?_⟩
  rw [Int.natCast_ediv]
  congr 1
  omega
def ratQ (q:Rat):PV:=Qdp q.num (q.den:Int)
def rQq (q:Rat):PV:=rQ q.num (q.den:Int)
theorem Qpv {n d:Int} {k:Nat} (hd:d≠0) (h:fitQ k ((n:Rat)/(d:Rat))) (hk:k≤65536):outQ (lowN n d) (lowD n d)= .tup [ratQ ((n:Rat)/(d:Rat)),.int .i64 0]:=by
 obtain⟨e1,e2⟩:=Qme (n:=n) hd
 rw [e1,e2]
 refine Qop ?_
 unfold big
 have h1:=Qde k _ h.1
 have h2:=Qde k _ h.2
 simp only [Int.natAbs_natCast,Bool.or_eq_false_iff,decide_eq_false_iff_not]
 omega
theorem Q19 {n:Int} (h1: -9223372036854775808≤n) (h2:n≤9223372036854775807):n.natAbs<2^64:=by omega
theorem Zsc (n d:Int) (h1: -9223372036854775808≤n) (h2:n≤9223372036854775807) (h3: -9223372036854775808≤d) (h4:d≤9223372036854775807) (h0:d≠0):
  Qad Tryz.prog 163 [.int .i64 n,.int .i64 d] (.tup [ratQ ((n:Rat)/(d:Rat)),.int .i64 0]):=by
 have h:=Qzs n d h1 h2 h3 h4 h0
 rwa [Qpv h0 (Qh5 (Q19 h1 h2) (Q19 h3 h4) h0) (by decide)]at h
theorem den0 (x:Rat):(0:Int)<(x.den:Int):=by have:=x.den_pos;omega
theorem Qrr (x y:Rat):(x.den:Int)*(y.den:Int)≠0:=Int.ne_of_gt (Int.mul_pos (den0 x) (den0 y))
theorem Q2a (x y:Rat):((x.num*(y.den:Int)+y.num*(x.den:Int):Int):Rat)/((((x.den:Int)*(y.den:Int):Int)):Rat)=x+y:=by
 rw [Rat.add_def',Rat.mkRat_eq_div,←Rat.intCast_natCast,Int.natCast_mul]
theorem Q2b (x y:Rat):((x.num*y.num:Int):Rat)/((((x.den:Int)*(y.den:Int):Int)):Rat)=x*y:=by
 rw [Rat.mul_def',Rat.mkRat_eq_div,←Rat.intCast_natCast,Int.natCast_mul]
theorem Zjg (x y:Rat):((x.num*(y.den:Int)-y.num*(x.den:Int):Int):Rat)/((((x.den:Int)*(y.den:Int):Int)):Rat)=x-y:=by
 rw [Rat.sub_def',Rat.mkRat_eq_div,←Rat.intCast_natCast,Int.natCast_mul]
theorem Q2c {k:Nat} {x:Rat} (h:fitQ k x) (hk:k≤65536):x.num.natAbs<2^65536∧((x.den:Int)).natAbs<2^65536:=
 ⟨Qa4 h.1 hk,by rw [Int.natAbs_natCast];exact Qa4 h.2 hk⟩
theorem Zpb {k l:Nat} {x y:Rat} (hx:fitQ k x) (hy:fitQ l y) (hk:k+l+1≤65536):Qad Tryz.prog 164 [ratQ x,ratQ y] (.tup [ratQ (x+y),.int .i64 0]):=by
 obtain⟨a1,a2⟩:=Q2c hx (by omega)
 obtain⟨b1,b2⟩:=Q2c hy (by omega)
 have h:=Qt5 a1 a2 b1 b2 (den0 x) (den0 y)
 unfold Qus Qut at h
 have e:=Q2a x y
 rw [Qpv (k:=k+l+1) (Qrr x y) (by rw [e];exact Qdk hx hy) hk,e]at h
 exact h
theorem Q2d {k l:Nat} {x y:Rat} (hx:fitQ k x) (hy:fitQ l y) (hk:k+l≤65536):Qad Tryz.prog 165 [ratQ x,ratQ y] (.tup [ratQ (x*y),.int .i64 0]):=by
 obtain⟨a1,a2⟩:=Q2c hx (by omega)
 obtain⟨b1,b2⟩:=Q2c hy (by omega)
 have h:=Qt6 a1 a2 b1 b2 (den0 x) (den0 y)
 have e:=Q2b x y
 rw [Qpv (k:=k+l) (Qrr x y) (by rw [e];exact Qb5 hx hy) hk,e]at h
 exact h
theorem Q93 {k:Nat} {x:Rat} (hx:fitQ k x) (hk:k+1≤65536):Qad Tryz.prog 166 [ratQ x] (.tup [wPV (x.num/(x.den:Int)),.int .i64 0]):=by
 obtain⟨a1,a2⟩:=Q2c hx (by omega)
 have h:=Zas a1 a2 (den0 x)
 rwa [Qli (Nat.lt_of_le_of_lt (Int.natAbs_ediv_le_natAbs _ _) a1)]at h
theorem Qoi {k m:Nat} {x:Rat} (h:fitQ k x) (hk:k≤8*m):x.num.natAbs<256^m∧((x.den:Int)).natAbs<256^m:=
 ⟨Qhu h.1 hk,by rw [Int.natAbs_natCast];exact Qhu h.2 hk⟩
theorem Q94 (n d:Int) (m:Nat) (hm:m≤100000) (h1:n.natAbs<256^m) (h2:d.natAbs<256^m) (h0:d≠0):Qad Tryz.prog 132 [rI n,rI d] (rQq ((n:Rat)/(d:Rat))):=by
 have h:=Qiq n d h0 m hm h1 h2
 obtain⟨e1,e2⟩:=Qme (n:=n) h0
 rwa [e1,e2]at h
theorem Qmf {k:Nat} {x y:Rat} (hx:fitQ k x) (hy:fitQ k y) (hk:k≤80000):Qad Tryz.prog 129 [rQq x,rQq y] (rQq (x+y)):=by
 obtain⟨a1,a2⟩:=Qoi (m:=10000) hx (by omega)
 obtain⟨b1,b2⟩:=Qoi (m:=10000) hy (by omega)
 have h:=Zi9 x.num x.den y.num y.den 10000 (Nat.le_refl _) a1 a2 b1 b2 (Int.ne_of_gt (den0 x)) (Int.ne_of_gt (den0 y))
 unfold Qus Qut at h
 obtain⟨e1,e2⟩:=Qme (n:=x.num*(y.den:Int)+y.num*(x.den:Int)) (Qrr x y)
 rwa [e1,e2,Q2a]at h
theorem Zjh {k:Nat} {x y:Rat} (hx:fitQ k x) (hy:fitQ k y) (hk:k≤80000):Qad Tryz.prog 133 [rQq x,rQq y] (rQq (x-y)):=by
 obtain⟨a1,a2⟩:=Qoi (m:=10000) hx (by omega)
 obtain⟨b1,b2⟩:=Qoi (m:=10000) hy (by omega)
 have h:=Zja x.num x.den y.num y.den 10000 (Nat.le_refl _) a1 a2 b1 b2 (Int.ne_of_gt (den0 x)) (Int.ne_of_gt (den0 y))
 unfold Znr Zns at h
 obtain⟨e1,e2⟩:=Qme (n:=x.num*(y.den:Int)-y.num*(x.den:Int)) (Qrr x y)
 rwa [e1,e2,Zjg]at h
theorem Qjv {k:Nat} {x y:Rat} (hx:fitQ k x) (hy:fitQ k y) (hk:k≤80000):Qad Tryz.prog 130 [rQq x,rQq y] (rQq (x*y)):=by
 obtain⟨a1,a2⟩:=Qoi (m:=10000) hx (by omega)
 obtain⟨b1,b2⟩:=Qoi (m:=10000) hy (by omega)
 have h:=Zjb x.num x.den y.num y.den 10000 (Nat.le_refl _) a1 a2 b1 b2 (Int.ne_of_gt (den0 x)) (Int.ne_of_gt (den0 y))
 obtain⟨e1,e2⟩:=Qme (n:=x.num*y.num) (Qrr x y)
 rwa [e1,e2,Q2b]at h
end Go.Proofs.YtciddhkfbgkejaaGreatDoor

namespace Go.Dg
theorem Zhe {f:Nat→Int} {C:Nat}: ∀(m:Nat),(∀i,i<m→(f i).natAbs≤C)→(sm f m).natAbs≤m*C
 |0,_=>by simp [sm]
 |m+1,h=>by
  have h1:=Zhe m (fun i hi=>h i (by omega))
  have h2:=h m (Nat.lt_succ_self m)
  rw [sm,Nat.succ_mul]
  omega
theorem Q9r {xs:List Int} {B:Nat} (h: ∀x∈xs,x.natAbs<2^B) (i:Nat):(xs.getD i 0).natAbs<2^B:=by
 rw [List.getD_eq_getElem?_getD]
 cases e:xs[i]? with
 |none=>exact Nat.pow_pos (by decide)
 |some x=>exact h x (List.mem_of_getElem? e)
theorem Q1q {n k:Nat} (h:k≤n):bin n k*(n-k)=bin n (k+1)*(k+1):=by
 have h1:=Qlg n k
 have e:((n-k:Nat):Int)=(n:Int)-(k:Int):=by omega
 rw [←e]at h1
 have h2:((bin n (k+1)*(k+1):Nat):Int)=((bin n k*(n-k):Nat):Int):=by rw [Int.natCast_mul,Int.natCast_mul,←h1];rfl
 omega
end Go.Dg

namespace Go.Proofs.YtciddhkfbgkejaaGreatDoor
open Go.Vl Go.RowKit Go.Dg
theorem Zar {a b:Nat} (h:b≤a) (ha:a<9223372036854775808):IntKind.i64.wrap ((a:Int)-(b:Int))=((a-b:Nat):Int):=by rw [Qah (by omega) (by omega)];omega
theorem ne0 (a:Nat):(((a+1:Nat):Int)=0)=False:=by simp only [eq_iff_iff,iff_false];omega
theorem Qsa {n i m:Nat} (hn:n≤50) (hm:m≤50):bin n i*m<9223372036854775808:=by
 have h1:=Qg9 n i
 have h2:2^n≤2^50:=Nat.pow_le_pow_right (by decide) hn
 have h3:bin n i*m≤2^50*50:=Nat.mul_le_mul (Nat.le_trans h1 h2) hm
 have e:(2:Nat)^50*50=56294995342131200:=rfl
 omega
end Go.Proofs.YtciddhkfbgkejaaGreatDoor

namespace Go.Vl
def Qke:PV→PV
 | .nilS=> .slc []
 |v=>v
def Qxu:PV→PV
 | .agg cs=> .agg (cs.map Qke)
 |v=>Qke v
theorem Qlt (v:PV):(Qxu v).cells=v.cells.map Qke:=by
 cases v<;>rfl
theorem Qn1 (l:List PV):(l.map Qxu).flatMap PV.cells=(l.flatMap PV.cells).map Qke:=by
 induction l with
 |nil=>rfl
 |cons v l ih=>simp only [List.map_cons,List.flatMap_cons,List.map_append,Qlt,ih]
theorem Rep.up {w:World} {im:Im} {v:PV} {u:Value} (h:Rep w im v u):Rep w im (Qke v) u:=by
 cases v with
 |nilS=>cases h;exact .slcNil 0 (Nat.zero_le _)
 |_=>exact h
theorem LR.up {w:World} {im:Im} {ρ:Rho} {v:PV} {u:Value} (h:LR w im ρ v u):LR w im ρ (Qke v) u:=by
 cases v with
 |nilS=>rw [h.nilS_inv];exact .ext _ _ (.slcNil 0 (Nat.zero_le _))
 |_=>exact h
theorem RepL.up {w:World} {im:Im}: ∀{vs:List PV} {us:List Value},RepL w im vs us→RepL w im (vs.map Qke) us
 |_,_,.nil=> .nil
 |_,_,.cons _ _ _ _ h t=> .cons _ _ _ _ h.up t.up
theorem LRL.up {w:World} {im:Im} {ρ:Rho}: ∀{vs:List PV} {us:List Value},LRL w im ρ vs us→LRL w im ρ (vs.map Qke) us
 |_,_,.nil=> .nil
 |_,_,.cons _ _ _ _ h t=> .cons _ _ _ _ h.up t.up
theorem Qdr.up {own:Nat→Prop} {w:World} {im:Im} {ρ:Rho} {B:Box} {x:Option Nat} (h:Qdr own w im ρ B x):Qdr own w im ρ {B with els:=B.els.map Qxu} x:=by
 cases x with
 |none=>obtain⟨h1,h2,h3,h4⟩:=h;exact⟨by simp [h1],h2,h3,h4⟩
 |some g=>
  obtain⟨h1,h2,h3,h4,cur,us,rest,h5,h6,h7,h8,h9,h10,h11⟩:=h
  refine⟨h1,by simpa using h2,h3,?_,cur,us,rest,h5,h6,?_,?_,h9,h10,h11⟩
  ·intro e he
   obtain⟨v,hv,rfl⟩:=List.mem_map.1 he
   rw [Qlt,List.length_map];exact h4 v hv
  ·simp only [Qn1];exact h7.up
  ·intro ha;simp only [Qn1];exact(h8 ha).up
theorem Zrv {st:St} {b:Nat} {B:Box} (hB:st.box b=some B):Le st (st.setBox b {B with els:=B.els.map Qxu}):=by
 rintro C a w ⟨ρ,im,h⟩
 refine⟨ρ,im,h.root,h.nt,h.dfr,h.imc,h.var,?_,?_,?_⟩
 ·intro b'
  by_cases e:b'=b
  ·subst e;simp [St.setBox,Qau,h.rho b',hB]
  ·simp [St.setBox,Qaq _ _ _ _ e,h.rho b']
 ·intro b' x B' hx hB'
  by_cases e:b'=b
  ·subst e
   simp only [St.setBox,Qau,Option.some.injEq]at hB'
   subst hB'
   exact(h.box b' x B hx hB).up
  ·simp only [St.setBox,Qaq _ _ _ _ e]at hB'
   exact h.box b' x B' hx hB'
 ·have key: ∀b' B',(st.setBox b {B with els:=B.els.map Qxu}).box b'=some B'→ ∃B0,st.box b'=some B0∧B0.live=B'.live:=fun b' B' e=>by
   by_cases y:b'=b
   ·subst y
    simp only [St.setBox,Qau,Option.some.injEq]at e
    subst e;exact⟨B,hB,rfl⟩
   ·exact⟨B',by simpa only [St.setBox,Qaq _ _ _ _ y]using e,rfl⟩
  intro b1 b2 g B1 B2 g1 g2 e1 e2 l1 l2
  obtain⟨C1,x1,y1⟩:=key _ _ e1
  obtain⟨C2,x2,y2⟩:=key _ _ e2
  exact h.inj b1 b2 g C1 C2 g1 g2 x1 x2 (y1.trans l1) (y2.trans l2)
theorem Qq9 {vs:List (Nat×PV)} {bs:List (Nat×Box)} {o:List (List PV)} {y:Yl} (b:Nat) {B:Box} (hB:lkp bs b=some B):
  Le (St.ofG vs bs o y) (St.ofG vs ((b,{B with els:=B.els.map Qxu})::bs) o y):=Zrv (st:=St.ofG vs bs o y) hB
end Go.Vl

namespace Go.Proofs.YtciddhkfbgkejaaGreatDoor
open Go.Vl Go.RowKit Go.Dg
theorem rI_z:rI 0= .agg [.bool false,.slc []]:=by simp [rI,di,Qay]
theorem Qfa {xs:List Int} {i:Nat} (h:i<xs.length):xs.getD i 0=xs[i]:=by rw [List.getD_eq_getElem?_getD,List.getElem?_eq_getElem h];rfl
end Go.Proofs.YtciddhkfbgkejaaGreatDoor

namespace Go.Dg
def ev:List Int→Int→Int
 | [],_=>0
 |c::r,u=>c+u*ev r u
theorem Q1r (F:Nat→Int) (N i:Nat):((List.range N).map F).getD i 0=if i<N then F i else 0:=by
 rw [List.getD_eq_getElem?_getD,List.getElem?_map]
 by_cases h:i<N
 ·simp [h]
 ·rw [List.getElem?_eq_none (by simpa using h),if_neg h];rfl
def conv (p q:List Int):List Int:=(List.range (p.length+q.length-1)).map fun i=>sm (fun k=>p.getD k 0*q.getD (i-k) 0) (i+1)
def bd (B:Nat) (p:List Int):Prop:= ∀x∈p,x.natAbs<2^B
theorem Zhf {B:Nat} {p:List Int} (h:bd B p) (i:Nat):(p.getD i 0).natAbs<2^B:=Q9r h i
theorem Q1s {f:Nat→Int} {B m:Nat} (hm:m≤64) (h: ∀i,i<m→(f i).natAbs<2^B):(sm f m).natAbs<2^(B+7):=by
 have h1:=Zhe m (fun i hi=>Nat.le_of_lt (h i hi))
 have h2:m*2^B≤64*2^B:=Nat.mul_le_mul_right _ hm
 have hp:0<2^B:=Nat.pow_pos (by decide)
 rw [Nat.pow_add,show(2:Nat)^7=128 from rfl]
 omega
end Go.Dg

namespace Go.Proofs.YtciddhkfbgkejaaGreatDoor
open Go.Vl Go.RowKit Go.Dg
theorem Qhe {n:Nat} (h:0<n) (hn:n<9223372036854775808):IntKind.i64.wrap ((n:Int)-1)=((n-1:Nat):Int):=by rw [Qah (by omega) (by omega)];omega
def Qas (l:List Int):PV:= .slc (l.map (PV.int .i64))
theorem Qct (l:List Int) (i:Nat) (h:i<l.length):(l.map (PV.int .i64))[i]? =some (.int .i64 l[i]):=by rw [List.getElem?_map,List.getElem?_eq_getElem h];rfl
theorem map_take {α β:Type} (f:α→β) (l:List α) (i:Nat) (hi:i<l.length):(l.take (i+1)).map f=(l.take i).map f++[f l[i]]:=by rw [Qb0 l i hi,List.map_append];rfl
end Go.Proofs.YtciddhkfbgkejaaGreatDoor

namespace Go.Dg
theorem Qhb {d:Int} {D:Nat} (h:d.natAbs<2^D) (k:Nat):(d^k).natAbs<2^(D*k+1):=by
 rw [Int.natAbs_pow]
 have h1:d.natAbs^k≤(2^D)^k:=Nat.pow_le_pow_left (Nat.le_of_lt h) k
 rw [←Nat.pow_mul]at h1
 rw [Nat.pow_succ]
 have:=Nat.pow_pos (n:=D*k) (show 0<2 by decide)
 omega
end Go.Dg

namespace Go.Proofs.YtciddhkfbgkejaaGreatDoor
open Go.Vl Go.RowKit Go.Dg
end Go.Proofs.YtciddhkfbgkejaaGreatDoor

namespace Go.Dg

structure Sg where
  f:Int
  t:Int
  o:Int
  x:List Int
  y:List Int
  z:List Int

/-- The weight of a coefficient in a control value,times 60. -/
def cw (n j k:Nat):Nat:=60/bin n k*bin j k
def ctl (c:List Int) (j:Nat):Int:=sm (fun k=>c.getD k 0*(cw (c.length-1) j k:Int)) (j+1)
/-- The first j control values are within the bounds. -/
def Qc8 (c:List Int) (o:Int) (j:Nat):Bool:=(List.range j).all fun j=>decide (((ctl c j).natAbs:Int)≤62914560*o)
def Qjq (c:List Int):Bool:=decide (1≤c.length)&&(decide (c.length≤6)&&(decide (c.length≤1)|| !(c.getD (c.length-1) 0==0)))
def axOK (c:List Int) (o:Int):Bool:=Qjq c&&Qc8 c o c.length
def gcdL (g:Nat) (c:List Int):Nat:=c.foldl (fun g x=>Nat.gcd g x.natAbs) g
def Sg.ax (s:Sg):List (List Int):=[s.x,s.y,s.z]
def rngS (s:Sg):Bool:=decide (0≤s.f)&&(decide (s.f<s.t)&&(decide (s.t≤3600000)&&(decide (1≤s.o)&&decide (s.o≤4294967296))))
def Qa2 (s:Sg):Bool:=rngS s&&((s.ax.all fun c=>axOK c s.o)&&(s.ax.foldl gcdL s.o.natAbs==1))

theorem Qfg (g:Nat) (c:List Int) (x:Int):gcdL g (c++[x])=Nat.gcd (gcdL g c) x.natAbs:=by simp [gcdL]
theorem Qgq {g:Nat} (c:List Int) {K:Nat} (hg:g<K) (hc: ∀x∈c,x.natAbs<K):gcdL g c<K:=by
  induction c generalizing g with
  |nil=>exact hg
  |cons x c ih=>
    refine ih (g:=Nat.gcd g x.natAbs) ?_ fun y hy=>hc y (by simp [hy])
    rcases Nat.eq_zero_or_pos g with h|h
    · subst h;rw [Nat.gcd_zero_left];exact hc x (by simp)
    · exact Nat.lt_of_le_of_lt (Nat.le_of_dvd h (Nat.gcd_dvd_left _ _)) hg
theorem Qfh (c:List Int) (o:Int) (j:Nat):Qc8 c o (j+1)=(Qc8 c o j&&decide (((ctl c j).natAbs:Int)≤62914560*o)):=by
  simp [Qc8,List.range_succ]
theorem Qpp {c:List Int} {o:Int} {j m:Nat} (h:Qc8 c o j=false) (hm:j≤m):Qc8 c o m=false:=by
  induction m with
  |zero=>
        obtain rfl:j=0:=by omega
        exact h
  |succ m ih=>
    rw [Qfh]
    by_cases e:j=m+1
    · subst e;rw [Qfh]at h;exact h
    · rw [ih (by omega)];rfl
theorem Ziy (n j k:Nat) (hj:j≤5):cw n j k≤1920:=by
  unfold cw
  have h1:60/bin n k≤60:=Nat.div_le_self _ _
  have h2:=Qg9 j k
  have h3:2^j≤2^5:=Nat.pow_le_pow_right (by decide) hj
  have h4:=Nat.mul_le_mul h1 (Nat.le_trans h2 h3)
  omega
theorem Qha {c:List Int} {B n j:Nat} (hc:bd B c) (hj:j≤5) (m:Nat) (hm:m≤6):(sm (fun k=>c.getD k 0*(cw n j k:Int)) m).natAbs<2^(B+11+7):=by
  refine Q1s (by omega) fun i hi=> ?_
  rw [Int.natAbs_mul,Nat.pow_add]
  refine Nat.mul_lt_mul'' (Zhf hc i) ?_
  rw [Int.natAbs_natCast]
  have:=Ziy n j i hj
  omega
/-- A coordinate at a/d,times the denominator to the power of 5. -/
def plcT (c:List Int) (a d:Int) (k:Nat):Int:=c.getD k 0*(a^k*d^(5-k))
def plc (c:List Int) (a d:Int):Int:=sm (plcT c a d) c.length
def plP (s:Sg) (a d:Int) (i:Nat):Int:=plc (s.ax.getD i []) a d
def plG (s:Sg) (a d:Int) (i:Nat):Nat:=gcdL (s.o*d^5).natAbs ((List.range i).map (plP s a d))
def at3 (P:Nat→Int) (i m:Nat):Int:=if m<i then P m else 0
theorem Qfv (s:Sg) (a d:Int) (i:Nat):plG s a d (i+1)=Nat.gcd (plG s a d i) (plP s a d i).natAbs:=by
  unfold plG;rw [List.range_succ,List.map_append];exact Qfg _ _ _
theorem Qh7 {c:List Int} {a d:Int} {B:Nat} (hc:bd B c) (ha:a.natAbs<2^B) (hd:d.natAbs<2^B) (k:Nat) (hk:k≤5):
    (a^k).natAbs<2^(B*5+1)∧(d^(5-k)).natAbs<2^(B*5+1)∧(a^k*d^(5-k)).natAbs<2^(B*5+1+(B*5+1))∧(plcT c a d k).natAbs<2^(B+(B*5+1+(B*5+1))):=by
  have h1:(a^k).natAbs<2^(B*5+1):=Nat.lt_of_lt_of_le (Qhb ha k) (Nat.pow_le_pow_right (by decide) (by have:=Nat.mul_le_mul_left B hk;omega))
  have h2:(d^(5-k)).natAbs<2^(B*5+1):=Nat.lt_of_lt_of_le (Qhb hd (5-k)) (Nat.pow_le_pow_right (by decide) (by have:=Nat.mul_le_mul_left B (show 5-k≤5 by omega);omega))
  have h3:(a^k*d^(5-k)).natAbs<2^(B*5+1+(B*5+1)):=by rw [Int.natAbs_mul,Nat.pow_add];exact Nat.mul_lt_mul'' h1 h2
  refine⟨h1,h2,h3,?_⟩
  unfold plcT
  rw [Int.natAbs_mul,Nat.pow_add _ B]
  exact Nat.mul_lt_mul'' (Zhf hc k) h3
theorem Qdu {c:List Int} {a d:Int} {B:Nat} (hc:bd B c) (ha:a.natAbs<2^B) (hd:d.natAbs<2^B) (m:Nat) (hm:m≤6):(sm (plcT c a d) m).natAbs<2^(B+(B*5+1+(B*5+1))+7):=
  Q1s (by omega) fun i hi=>(Qh7 hc ha hd i (by omega)).2.2.2
theorem Qts {s:Sg} {a d:Int} (ho:1≤s.o) (hd:1≤d) (i:Nat):0<plG s a d i:=by
  induction i with
  |zero=>
    show 0<(s.o*d^5).natAbs
    have h:0<s.o*d^5:=Int.mul_pos (by omega) (Int.pow_pos (by omega))
    omega
  |succ i ih=>rw [Qfv];exact Nat.gcd_pos_of_pos_left _ ih
theorem Q9s {s:Sg} {d:Int} {B:Nat} (ho:s.o.natAbs<2^B) (hd:d.natAbs<2^B):(s.o*d^5).natAbs<2^(B+(B*5+1)):=by
  rw [Int.natAbs_mul,Nat.pow_add _ B]
  exact Nat.mul_lt_mul'' ho (Qhb hd 5)
theorem Qv4 {s:Sg} {a d:Int} {B:Nat} (hc: ∀c∈s.ax,bd B c) (h6: ∀c∈s.ax,c.length≤6) (ha:a.natAbs<2^B) (hd:d.natAbs<2^B) (i:Nat) (hi:i<3):
    (plP s a d i).natAbs<2^(B+(B*5+1+(B*5+1))+7):=by
  have hi':i<s.ax.length:=hi
  have hm:s.ax.getD i []=s.ax[i]:=by rw [List.getD_eq_getElem?_getD,List.getElem?_eq_getElem hi'];rfl
  unfold plP plc
  rw [hm]
  exact Qdu (hc _ (List.getElem_mem hi')) ha hd _ (h6 _ (List.getElem_mem hi'))
theorem Zo4 {s:Sg} {a d:Int} {B:Nat} (hc: ∀c∈s.ax,bd B c) (h6: ∀c∈s.ax,c.length≤6) (ho:s.o.natAbs<2^B) (ha:a.natAbs<2^B) (hd:d.natAbs<2^B) (i:Nat) (hi:i≤3):
    ((plG s a d i:Nat):Int).natAbs<2^(B+(B*5+1+(B*5+1))+7):=by
  rw [Int.natAbs_natCast]
  refine Qgq _ (Nat.lt_of_lt_of_le (Q9s ho hd) (Nat.pow_le_pow_right (by decide) (by omega))) ?_
  intro x hx
  simp only [List.mem_map,List.mem_range]at hx
  obtain⟨m,hm,rfl⟩:=hx
  exact Qv4 hc h6 ha hd m (by omega)
end Go.Dg

namespace Go.Proofs.YtciddhkfbgkejaaGreatDoor
open Go.Vl Go.RowKit Go.Dg
theorem Qgs {x y:Int} (hx:x.natAbs<2^65536) (hy:y.natAbs<2^65536) (h:(x+y).natAbs<2^65536):Qad Tryz.prog 68 [wPV x,wPV y] (wPV (x+y)):=by
 have h1:=Zpu hx hy
 rw [Qli h]at h1
 generalize x+y=S at*
 refine Qac (tb:=[]) 14 [.cell 4 71] [0,1,2,3,4,5] mixed Tryz.func68 rfl (by kernel_rfl) (by kernel_rfl) (by kernel_rfl) (by kernel_rfl) ?_
 repeat (first|(simp -implicitDefEqProofs only [go_sem,Nat.reduceAdd,Nat.reduceMul,Nat.reduceEqDiff,Nat.reduceLT,Nat.reduceLeDiff,reduceCtorEq,wPV])|((with_reducible refine Qab (h1) ?_ ?_ ?_);(with_reducible rfl);rfl))
theorem Qhv {x y:Int} (hx:x.natAbs<2^65536) (hy:y.natAbs<2^65536) (h:(x*y).natAbs<2^65536):Qad Tryz.prog 155 [wPV x,wPV y] (wPV (x*y)):=by
 have h1:=Zpt hx hy
 rw [Qli h]at h1
 generalize x*y=S at*
 refine Qac (tb:=[]) 14 [.cell 4 71] [0,1,2,3,4,5] mixed Tryz.func155 rfl (by kernel_rfl) (by kernel_rfl) (by kernel_rfl) (by kernel_rfl) ?_
 repeat (first|(simp -implicitDefEqProofs only [go_sem,Nat.reduceAdd,Nat.reduceMul,Nat.reduceEqDiff,Nat.reduceLT,Nat.reduceLeDiff,reduceCtorEq,wPV])|((with_reducible refine Qab (h1) ?_ ?_ ?_);(with_reducible rfl);rfl))
theorem Zjv {a b K:Nat} (ha:a<K) (hb:b<K):Nat.gcd a b<K:=by
 rcases Nat.eq_zero_or_pos a with h|h
 ·subst h;rw [Nat.gcd_zero_left];exact hb
 ·exact Nat.lt_of_le_of_lt (Nat.le_of_dvd h (Nat.gcd_dvd_left _ _)) ha
theorem Qrz {x y:Int} (hx:x.natAbs<2^65536) (hy:y.natAbs<2^65536):Qad Tryz.prog 118 [wPV x,wPV y] (wPV ((Nat.gcd x.natAbs y.natAbs:Nat):Int)):=by
 have h1:=Zpv hx hy
 rw [Qli (by rw [Int.natAbs_natCast];exact Zjv hx hy)]at h1
 generalize ((Nat.gcd x.natAbs y.natAbs:Nat):Int)=S at*
 refine Qac (tb:=[]) 14 [.cell 4 71] [0,1,2,3,4,5] mixed Tryz.func118 rfl (by kernel_rfl) (by kernel_rfl) (by kernel_rfl) (by kernel_rfl) ?_
 repeat (first|(simp -implicitDefEqProofs only [go_sem,Nat.reduceAdd,Nat.reduceMul,Nat.reduceEqDiff,Nat.reduceLT,Nat.reduceLeDiff,reduceCtorEq,wPV])|((with_reducible refine Qab (h1) ?_ ?_ ?_);(with_reducible rfl);rfl))
theorem Q2x {n:Int} (h:n.natAbs<2^65536):outN n=n:=by rw [outN,if_neg (Nat.not_lt.2 (Qde 65536 _ h))]
theorem Qwm {x y:Int} {B:Nat} (hx:x.natAbs<2^B) (hy:0<y):(x/y).natAbs<2^B∨(x/y).natAbs≤2^B:=by
 right
 obtain⟨m,rfl⟩: ∃m:Nat,y=(m+1:Nat):=⟨y.toNat-1,by omega⟩
 have:=Int.natAbs_ediv_le_natAbs x ((m+1:Nat):Int)
 omega
theorem Qmk {x y:Int} {B:Nat} (hx:x.natAbs<2^B) (hB:B≤65000) (hy:y.natAbs<2^65000) (h0:0<y):Qad Tryz.prog 67 [wPV x,wPV y] (wPV (x/y)):=by
 have h1:=Zpx (Qa4 hx (by omega)) (Qa4 hy (by omega)) (show y≠0 by omega)
 have hq:(x/y).natAbs<2^(B+1):=by
  rw [Nat.pow_succ]
  have h2:0<2^B:=Nat.two_pow_pos B
  rcases Qwm hx h0 with h|h<;>omega
 have hr:(x%y).natAbs<2^65000:=by
  have h2:=Int.emod_nonneg x (show y≠0 by omega)
  have h3:=Int.emod_lt_of_pos x h0
  generalize 2^65000=K at*
  omega
 unfold Zf6 at h1
 rw [Q2x (Qa4 hq (by omega)),Q2x (Qa4 hr (by omega))]at h1
 generalize x/y=S at*
 generalize x%y=R at*
 refine Qac (tb:=[]) 16 [.cell 4 71] [0,1,2,3,4,5] mixed Tryz.func67 rfl (by kernel_rfl) (by kernel_rfl) (by kernel_rfl) (by kernel_rfl) ?_
 repeat (first|(simp -implicitDefEqProofs only [go_sem,Nat.reduceAdd,Nat.reduceMul,Nat.reduceEqDiff,Nat.reduceLT,Nat.reduceLeDiff,reduceCtorEq,wPV])|((with_reducible refine Qab (h1) ?_ ?_ ?_);(with_reducible rfl);rfl))
theorem Qr0 {n:Int} {B:Nat} (h:n.natAbs<2^B) (k:Nat):(n^k).natAbs<2^(B*k+1):=Qhb h k
theorem Qfy (n:Int) (k B:Nat) (hn: -9223372036854775808≤n) (hn2:n≤9223372036854775807) (hk:k≤100) (hB:B≤600) (hb:n.natAbs<2^B):Qad Tryz.prog 146 [.int .i64 n,.int .i64 (k:Int)] (wPV (n^k)):=by
 have h1:=Qhs 1 (by decide) (by decide)
 have h2:=Qhs n hn hn2
 refine Qac (tb:=[]) 16 [.cell 4 71] [0,1,4,5,7,8,9] mixed Tryz.func146 rfl (by kernel_rfl) (by kernel_rfl) (by kernel_rfl) (by kernel_rfl) ?_
 repeat (first|(simp -implicitDefEqProofs only [go_sem,Nat.reduceAdd,Nat.reduceMul,Nat.reduceEqDiff,Nat.reduceLT,Nat.reduceLeDiff,reduceCtorEq,Int.reduceLT,wPV])|((with_reducible refine Qab (h1) ?_ ?_ ?_);(with_reducible rfl);rfl)|(with_reducible exact Qaa _ _ (by kernel_rfl))|(with_reducible refine And.intro (Qaa _ _ (by kernel_rfl)) ?_))
 refine Qar mixed (fun i:{i:Nat // i≤k}=>St.of [(0,.int .i64 n),(4,.bp 0 2 0 0),(5,.bp 101 2 0 0),(7,.int .i64 (k:Int)),(8,.int .i64 (i.1:Int))]
  [(0,{els:=[.agg [.bool false,.str ⟨#[]⟩]],esz:=2,ety:=71,fro:=0,live:=true,arr:=false}),(101,{els:=[wPV (n^i.1)],esz:=2,ety:=71,fro:=0,live:=true,arr:=false})]) (fun i=>k-i.1) ⟨0,Nat.zero_le _⟩ ?_ ?_
 ·refine Qak (θ:=[(0,0),(101,101)]) rfl ?_ ?_
  ·simp [Qaf,lkp,ren1,ren0,Qap]
  ·refine⟨⟨rfl,rfl,rfl,rfl,rfl,.inr ⟨rfl,_,_,rfl,rfl,rfl,rfl⟩⟩,⟨rfl,rfl,rfl,rfl,rfl,.inr ⟨rfl,_,_,rfl,rfl,?_,rfl⟩⟩,trivial⟩
   simp only [Int.pow_zero];rfl
 ·rintro⟨i,hi⟩
  by_cases hA:i<k
  ·have hA':=ltT hA
   have hwk:=Qaj (a:=i) (by omega)
   have hp:=Qr0 hb i
   have hp1:=Qr0 hb (i+1)
   have hBk:B*(i+1)≤600*100:=Nat.mul_le_mul hB (by omega)
   have hBi:B*i≤B*(i+1):=Nat.mul_le_mul_left _ (by omega)
   have e:n^(i+1)=n^i*n:=Int.pow_succ n i
   rw [e]at hp1
   have hm:=Qhv (Qa4 hp (by omega)) (Qa4 hb (by omega)) (Qa4 hp1 (by omega))
   rw [←e]at hm
   generalize hX:n^(i+1)=Y at*
   generalize n^i=Z at*
   repeat (first|(simp -implicitDefEqProofs only [go_sem,Nat.reduceAdd,Nat.reduceMul,Nat.reduceEqDiff,Nat.reduceLT,Nat.reduceLeDiff,reduceCtorEq,wPV,hA',hwk])|((with_reducible refine Qab (h2) ?_ ?_ ?_);(with_reducible rfl);rfl)|((with_reducible refine Qab (hm) ?_ ?_ ?_);(with_reducible rfl);rfl)|(with_reducible exact Qaa _ _ (by kernel_rfl))|(with_reducible refine And.intro (Qaa _ _ (by kernel_rfl)) ?_))
   refine⟨⟨i+1,hA⟩,by simp only;omega,Qak (θ:=[(0,0),(101,101)]) rfl ?_ ?_⟩
   ·simp [Qaf,lkp,ren1,ren0,Qap]
   ·simp only [hX]
    exact⟨⟨rfl,rfl,rfl,rfl,rfl,.inr ⟨rfl,_,_,rfl,rfl,rfl,rfl⟩⟩,⟨rfl,rfl,rfl,rfl,rfl,.inr ⟨rfl,_,_,rfl,rfl,rfl,rfl⟩⟩,trivial⟩
  ·have hA':=ltF hA
   obtain rfl:i=k:=by omega
   generalize n^i=Z at*
   repeat (first|(simp -implicitDefEqProofs only [go_sem,Nat.reduceAdd,Nat.reduceMul,Nat.reduceEqDiff,Nat.reduceLT,Nat.reduceLeDiff,reduceCtorEq,wPV,hA'])|(with_reducible exact Qaa _ _ (by kernel_rfl))|(with_reducible refine And.intro (Qaa _ _ (by kernel_rfl)) ?_))
end Go.Proofs.YtciddhkfbgkejaaGreatDoor

namespace Go.Vl
open Go.RowKit
variable {P:Program} {tb:Tab} {nt:Nat} {ks:List Nat} {ops:Array Oper} {base i:Nat} {rest:List Oper} {accs:List Acc} {draw:Bool} {k:List It} {Q:Exit→St→Prop} {st:St}
theorem Q80 {dst:Option Tmp} {f f':FuncId} {args args':List PV} {bxs bxsA:List (Nat×Box)} {es:List Eff} {θ ν:List (Nat×Nat)} {l:Acc} {r:PV} {bxs':List (Nat×Box)} (hs:Qe4 P f' args' bxsA r bxs') (hf:f'=f) (ha:args'=args) (hb:bxsA=bxs)
  (h:gland P tb nt ks (land θ ν bxs' r) (Qk4 r bxs') es l ops base i dst rest accs draw k Q st):Q8z P tb nt ks f args bxs es θ ν l ops base i dst rest accs draw k Q st:=by
 subst hf;subst ha;subst hb;exact Qby _ _ _ _ _ _ _ _ _ hs h
end Go.Vl

namespace Go.Vl
open Go.RowKit
mutual
def Vgo (P:Program) (nt:Nat):List It→(Exit→St→Prop)→St→Prop
 | [],Q,st=>Q .normal st
 | .blk _::k,Q,st=>Vgo P nt k Q st
 | .again J::_,_,st=>J st
 | .code c::k,Q,st=>Vwp P nt c (fun e s=>Vleave P nt k Q e s) st
def Vleave (P:Program) (nt:Nat):List It→(Exit→St→Prop)→Exit→St→Prop
 | [],Q,e,st=>Q e st
 | .blk j::k,Q,e,st=>match e with
  | .exit i=>if i=j then Vgo P nt k Q st else Vleave P nt k Q (.exit i) st
  | .normal=>Vgo P nt k Q st
  |e=>Vleave P nt k Q e st
 | .again J::k,Q,e,st=>match e with
  | .normal=>J st
  |e=>Vleave P nt k Q e st
 | .code c::k,Q,e,st=>match e with
  | .normal=>Vwp P nt c (fun e s=>Vleave P nt k Q e s) st
  |e=>Vleave P nt k Q e st
end
section
variable {P:Program} {tb:Tab} {nt:Nat} {ks:List Nat} {Q:Exit→St→Prop}
theorem Qls (hm:P.follows .mixedOrders=true): ∀(k:List It),(∀st,go P tb nt ks k Q st→Vgo P nt k Q st)∧ ∀e st,gleave P tb nt ks k Q e st→Vleave P nt k Q e st
 | []=>⟨fun st h=>by simpa only [go,Vgo]using h,fun e st h=>by simpa only [gleave,Vleave]using h⟩
 | .blk j::k=>by
  obtain⟨h1,h2⟩:=Qls hm k
  refine⟨fun st h=> ?_,fun e st h=> ?_⟩
  ·simp only [go]at h;simp only [Vgo];exact h1 st h
  ·cases e with
   |exit i=>
    simp only [gleave]at h;simp only [Vleave]
    split at h
    ·rename_i e;rw [if_pos e];exact h1 st h
    ·rename_i e;rw [if_neg e];exact h2 _ st h
   |normal=>simp only [gleave]at h;simp only [Vleave];exact h1 st h
   |_=>simp only [gleave]at h;simp only [Vleave];exact h2 _ st h
 | .again J::k=>by
  obtain⟨h1,h2⟩:=Qls hm k
  refine⟨fun st h=>by simpa only [go,Vgo]using h,fun e st h=> ?_⟩
  cases e with
  |normal=>simpa only [gleave,Vleave]using h
  |_=>simp only [gleave]at h;simp only [Vleave];exact h2 _ st h
 | .code c::k=>by
  obtain⟨h1,h2⟩:=Qls hm k
  have key: ∀st,vx P tb nt ks c (fun e s=>gleave P tb nt ks k Q e s) st→Vwp P nt c (fun e s=>Vleave P nt k Q e s) st:=fun st h=>Qee (Qcv hm c _ _ h) fun e s q=>h2 e s q
  refine⟨fun st h=> ?_,fun e st h=> ?_⟩
  ·simp only [go]at h;simp only [Vgo];exact key st h
  ·cases e with
   |normal=>simp only [gleave]at h;simp only [Vleave];exact key st h
   |_=>simp only [gleave]at h;simp only [Vleave];exact h2 _ st h
theorem v_go (hm:P.follows .mixedOrders=true) {k:List It} {st:St} (h:go P tb nt ks k Q st):Vgo P nt k Q st:=(Qls hm k).1 st h
def codes (L:List Code) (k:List It):List It:=L.foldr (fun c k=> .code c::k) k
theorem Q83 {st1:St} {c:Code} {k:List It} (h2:Vgo P nt (.code c::k) Q st1): ∀(L:List Code),(∀st,Vgo P nt (codes L (.again (fun s=>Le s st1):: .code c::k)) Q st→Vgo P nt (codes L (.code c::k)) Q st)∧
  ∀e st,Vleave P nt (codes L (.again (fun s=>Le s st1):: .code c::k)) Q e st→Vleave P nt (codes L (.code c::k)) Q e st
 | []=>by
  have base: ∀st,Le st st1→Vgo P nt (.code c::k) Q st:=fun st h=>by
   simp only [Vgo]at h2 ⊢;exact Zq4 h2 h
  refine⟨fun st h=>base st (by simpa only [codes,List.foldr,Vgo]using h),fun e st h=> ?_⟩
  cases e with
  |normal=>
   have:=base st (by simpa only [codes,List.foldr,Vleave]using h)
   simp only [codes,List.foldr,Vleave];simpa only [Vgo]using this
  |_=>simpa only [codes,List.foldr,Vleave]using h
 |d::L=>by
  obtain⟨h3,h4⟩:=Q83 h2 L
  refine⟨fun st h=> ?_,fun e st h=> ?_⟩
  ·simp only [codes,List.foldr,Vgo]at h ⊢
   exact Qee h fun e s q=>h4 e s q
  ·cases e with
   |normal=>
    simp only [codes,List.foldr,Vleave]at h ⊢
    exact Qee h fun e s q=>h4 e s q
   |_=>simp only [codes,List.foldr,Vleave]at h ⊢;exact h4 _ _ h
theorem Zrs (hm:P.follows .mixedOrders=true) (tb:Tab) (ks:List Nat) {st st1:St} (L:List Code) {c:Code} {k:List It} (h1:go P tb nt ks (codes L (.again (fun s=>Le s st1):: .code c::k)) Q st) (h2:Vgo P nt (.code c::k) Q st1):
  Vgo P nt (codes L (.code c::k)) Q st:=(Q83 h2 L).1 st (v_go hm h1)
def Qkd:Code→List Code
 | .seq a b=>a::Qkd b
 |c=>[c]
theorem Q84 {k:List It}: ∀(c:Code),(∀st,Vgo P nt (codes (Qkd c) k) Q st→Vgo P nt (.code c::k) Q st)∧ ∀e st,Vleave P nt (codes (Qkd c) k) Q e st→Vleave P nt (.code c::k) Q e st
 | .seq a b=>by
  obtain⟨h1,h2⟩:=Q84 (k:=k) b
  have key: ∀st,Vwp P nt a (fun e s=>Vleave P nt (codes (Qkd b) k) Q e s) st→Vwp P nt (.seq a b) (fun e s=>Vleave P nt k Q e s) st:=fun st h=>Q8i (Qee h fun e s q=>by
   have q:=h2 e s q
   cases e with
   |normal=>simpa only [Vleave,vthen]using q
   |_=>simpa only [Vleave,vthen]using q)
  refine⟨fun st h=> ?_,fun e st h=> ?_⟩
  ·simp only [Qkd,codes,List.foldr,Vgo]at h ⊢;exact key st h
  ·cases e with
   |normal=>simp only [Qkd,codes,List.foldr,Vleave]at h ⊢;exact key st h
   |_=>
    simp only [Qkd,codes,List.foldr,Vleave]at h ⊢
    have:=h2 _ _ h
    simpa only [Vleave]using this
 | .skip| .label _| .exit _| .ret| .region _ _ _| .cond _ _ _| .block _ _| .loop _| .rangeFunc _ _ _ _| .scope _| .goto _| .refuse _=>⟨fun _ h=>h,fun _ _ h=>h⟩
theorem Zrt {k:List It} {c:Code} {st:St} (h:Vgo P nt (codes (Qkd c) k) Q st):Vgo P nt (.code c::k) Q st:=(Q84 c).1 st h
theorem Qtd (k:List It): ∀(A B:List Code),codes (A++B) k=codes A (codes B k)
 | [],_=>rfl
 |a::A,B=>by simp only [List.cons_append,codes,List.foldr];rw [←codes,Qtd k A B];rfl
theorem Q85 (hm:P.follows .mixedOrders=true) (tb:Tab) (ks:List Nat) {C:List Code} (n:Nat) (hn:Nat.blt n C.length=true) {st:St} (st1:St)
  (h1:go P tb nt ks (codes (C.take n) (.again (fun s=>Le s st1)::codes (C.drop n) [])) Q st) (h2:Vgo P nt (codes (C.drop n) []) Q st1):Vgo P nt (codes C []) Q st:=by
 have hn:n<C.length:=by rw [Nat.blt_eq]at hn;exact hn
 have e:C.drop n=C[n]::C.drop (n+1):=List.drop_eq_getElem_cons hn
 have e2:codes C []=codes (C.take n) (.code C[n]::codes (C.drop (n+1)) []):=by
  have:=Qtd [] (C.take n) (C.drop n)
  rw [List.take_append_drop]at this
  rw [this,e];rfl
 rw [e2]
 have e3:codes (C.drop n) []= .code C[n]::codes (C.drop (n+1)) []:=by rw [e];rfl
 rw [e3]at h1 h2
 exact Zrs hm tb ks _ h1 h2
theorem Zib {f:FuncId} {fn:Func} {c:Code} {args:List PV} {r:PV} (nt:Nat) (rs:List ResultVar) (hf:P.funcs[f]? =some fn) (hb:fn.body=some c)
  (hc:callable P f=true) (hnt:fn.ntmps=nt) (hrs:fn.results.toList=rs) (hn:Nat.ble args.length nt=true)
  (h:Vgo P nt (codes (Qkd c) []) (vret P rs (· =r)) (St.of (Qcu 0 args) [])):Qad P f args r:=
 Qxp nt rs hf hb hc hnt hrs hn (by
  have h:=Zrt h
  simp only [Vgo,Vleave]at h
  exact h)
end
end Go.Vl

namespace Go.Vl
open Go.RowKit
def Q0r (P:Program) (tb:Tab) (nt:Nat) (ks:List Nat) (c:Code) (k:List It) (Q:Exit→St→Prop):List Nat→St→Prop
 | [],_=>False
 |_::l,st=>go P tb nt ks (.code c:: .again (Q0r P tb nt ks c k Q l)::k) Q st
theorem Q0s (P:Program) (tb:Tab) (nt:Nat) (ks:List Nat) (c:Code) (k:List It) (Q:Exit→St→Prop) (i:Nat) (l:List Nat) (st:St):Q0r P tb nt ks c k Q (i::l) st=go P tb nt ks (.code c:: .again (Q0r P tb nt ks c k Q l)::k) Q st:=rfl
attribute [go_sem] Q0s
theorem Qbn {P:Program} {tb:Tab} {nt:Nat} {ks:List Nat} {k:List It} {Q:Exit→St→Prop} {st:St} (hm:P.follows .mixedOrders=true) {c:Code} (l:List Nat) (h:Q0r P tb nt ks c k Q l st):go P tb nt ks (.code (.loop c)::k) Q st:=by
 simp only [go,vx]
 refine Qxm (fun x:{x:List Nat×St // Q0r P tb nt ks c k Q x.1 x.2}=>x.1.2) (fun x=>x.1.1.length) ⟨(l,st),h⟩ (fun _ _ _ h=>h) ?_
 rintro⟨⟨l,s⟩,h⟩
 cases l with
 |nil=>exact h.elim
 |cons i l=>
  simp only [Q0r,go]at h
  refine Qee (Qcv (tb:=tb) (ks:=ks) hm c _ _ h) ?_
  intro e s q
  cases e with
  |normal=>simp only [gleave]at q;exact⟨⟨(l,s),q⟩,by simp,fun _ _ _ h=>h⟩
  |_=>simpa only [gleave,vthen]using q
end Go.Vl

namespace Go.Proofs.YtciddhkfbgkejaaGreatDoor
open Go.Vl Go.RowKit Go.Dg
def Qp6:List PV:=(List.range 36).map fun i=> .int .i64 (bin (i/6) (i%6):Int)
set_option maxHeartbeats 8000000 in
set_option maxRecDepth 100000 in
theorem Q2y:Qad Tryz.prog 161 [] (.agg Qp6):=by
 have hw:Qp6=[1,0,0,0,0,0,1,1,0,0,0,0,1,2,1,0,0,0,1,3,3,1,0,0,1,4,6,4,1,0,1,5,10,10,5,1].map (PV.int .i64):=by kernel_rfl
 rw [hw]
 have h6:((6:Nat):Int)=6:=rfl
 have w0:IntKind.i64.wrap 0=0:=rfl
 have w1:IntKind.i64.wrap 1=1:=rfl
 have w2:IntKind.i64.wrap 2=2:=rfl
 have w3:IntKind.i64.wrap 3=3:=rfl
 have w4:IntKind.i64.wrap 4=4:=rfl
 have w5:IntKind.i64.wrap 5=5:=rfl
 have w6:IntKind.i64.wrap 6=6:=rfl
 have w7:IntKind.i64.wrap 7=7:=rfl
 have w8:IntKind.i64.wrap 8=8:=rfl
 have w9:IntKind.i64.wrap 9=9:=rfl
 have w10:IntKind.i64.wrap 10=10:=rfl
 refine Qac (tb:=[]) 35 [.cell 0 217] [0,1,2,3,4,5,12] mixed Tryz.func161 rfl (by kernel_rfl) (by kernel_rfl) (by kernel_rfl) (by kernel_rfl) ?_
 repeat (first|(simp -implicitDefEqProofs only [go_sem,Nat.reduceAdd,Nat.reduceMul,Nat.reduceEqDiff,Nat.reduceLT,Nat.reduceLeDiff,reduceCtorEq])|(with_reducible exact Qaa _ _ (by kernel_rfl))|(with_reducible refine And.intro (Qaa _ _ (by kernel_rfl)) ?_))
 iterate 7
  refine Qbn mixed [0,1,2,3,4,5,6] ?_
  repeat (first|(simp -implicitDefEqProofs only [go_sem,Nat.reduceAdd,Nat.reduceMul,Nat.reduceEqDiff,Nat.reduceLT,Nat.reduceLeDiff,reduceCtorEq,Int.reduceLE,Int.reduceLT,Int.reduceToNat,Int.reduceAdd,Int.reduceSub,h6,w0,w1,w2,w3,w4,w5,w6,w7,w8,w9,w10])|(with_reducible exact Qaa _ _ (by kernel_rfl))|(with_reducible refine And.intro (Qaa _ _ (by kernel_rfl)) ?_))
theorem Qr1 (n k:Nat) (hn:n<6) (hk:k<6):Qp6[n*6+k*1]? =some (.int .i64 (bin n k:Int)):=by
 unfold Qp6
 rw [List.getElem?_map,List.getElem?_range (by omega)]
 have h1:(n*6+k*1)/6=n:=by omega
 have h2:(n*6+k*1)%6=k:=by omega
 show some (PV.int .i64 (bin ((n*6+k*1)/6) ((n*6+k*1)%6):Int))=_
 rw [h1,h2]
theorem Qya:Qp6.all Qu4=true:=by kernel_rfl
theorem Zag:Qp6.all PV.okCell=true:=by kernel_rfl
theorem Q2z:Qp6.length=36:=by kernel_rfl
theorem Zsn:wPV 0= .agg [.bool false,.str ⟨#[]⟩]:=by unfold wPV;rw [(Qll 0).2 rfl];rfl
theorem Q20 (c:List Int) (o:Int) (h1:1≤c.length) (h6:c.length≤6) (hc: ∀x∈c, -9223372036854775808≤x∧x≤9223372036854775807) (ho:1≤o) (ho2:o≤4294967296):
  Qad Tryz.prog 117 [Qas c,.int .i64 o] (.bool (Qc8 c o c.length)):=by
 have hch:=Q2y
 have w1:=Qhs 62914560 (by decide) (by decide)
 have w2:=Qhs o (by omega) (by omega)
 have p64:(2:Nat)^64=18446744073709551616:=rfl
 have b1:(62914560:Int).natAbs<2^64:=by decide
 have b2:o.natAbs<2^64:=by omega
 have b3:(62914560*o).natAbs<2^128:=Qhw b1 b2
 have m1:=Qhv (Qa4 b1 (by decide)) (Qa4 b2 (by decide)) (Qa4 b3 (by decide))
 have hcb:bd 64 c:=fun x hx=>by have:=hc x hx;omega
 have wl:=Qhe (n:=c.length) (by omega) (by omega)
 generalize hM:62914560*o=M at*
 refine Qac (tb:=[]) 57 [.tmp 4] [0,1,4,5,6,7,8,9,10,20,21,22,25,26,27,55] mixed Tryz.func117 rfl (by kernel_rfl) (by kernel_rfl) (by kernel_rfl) (by kernel_rfl) ?_
 repeat (first|(simp -implicitDefEqProofs only [go_sem,Nat.reduceAdd,Nat.reduceMul,Nat.reduceEqDiff,Nat.reduceLT,Nat.reduceLeDiff,reduceCtorEq,Int.reduceLT,wPV,Qas,List.length_map,wl,Q2z,Qya,Zag])|((with_reducible refine Qab (hch) ?_ ?_ ?_);(with_reducible rfl);rfl)|((with_reducible refine Qab (w1) ?_ ?_ ?_);(with_reducible rfl);rfl)|((with_reducible refine Qab (w2) ?_ ?_ ?_);(with_reducible rfl);rfl)|((with_reducible refine Qab (m1) ?_ ?_ ?_);(with_reducible rfl);rfl)|(with_reducible exact Qaa _ _ (by kernel_rfl))|(with_reducible refine And.intro (Qaa _ _ (by kernel_rfl)) ?_))
 refine Qar mixed (fun j:{j:Nat // j≤c.length∧Qc8 c o j=true}=>St.of [(0,Qas c),(4,.bool false),(5,.bp 101 36 0 0),(6,.bp 204 2 0 0),(7,.int .i64 ((c.length-1:Nat):Int)),(20,.int .i64 (c.length:Int)),(21,.int .i64 (j.1:Int))]
  [(101,{els:=[.agg Qp6],esz:=36,ety:=217,fro:=0,live:=true,arr:=false}),(204,{els:=[wPV M],esz:=2,ety:=71,fro:=0,live:=true,arr:=false})]) (fun j=>c.length-j.1) ⟨0,Nat.zero_le _,rfl⟩ ?_ ?_
 ·refine Qak (θ:=[(101,101),(204,204)]) rfl ?_ ?_
  ·simp [Qaf,lkp,ren1,ren0,Qap,Qas]
  ·exact⟨⟨rfl,rfl,rfl,rfl,rfl,.inr ⟨rfl,_,_,rfl,rfl,rfl,rfl⟩⟩,⟨rfl,rfl,rfl,rfl,rfl,.inr ⟨rfl,_,_,rfl,rfl,rfl,rfl⟩⟩,trivial⟩
 ·rintro⟨j,hj,hall⟩
  by_cases hA:j<c.length
  ·have hA':=ltT hA
   have hwk:=Qaj (a:=j) (by omega)
   repeat (first|(simp -implicitDefEqProofs only [go_sem,Nat.reduceAdd,Nat.reduceMul,Nat.reduceEqDiff,Nat.reduceLT,Nat.reduceLeDiff,reduceCtorEq,hA',hwk])|(with_reducible exact Qaa _ _ (by kernel_rfl))|(with_reducible refine And.intro (Qaa _ _ (by kernel_rfl)) ?_))
   refine Qar mixed (fun k:{k:Nat // k≤j+1}=>St.of [(0,Qas c),(4,.bool false),(5,.bp 101 36 0 0),(6,.bp 204 2 0 0),(7,.int .i64 ((c.length-1:Nat):Int)),(20,.int .i64 (c.length:Int)),(21,.int .i64 (j:Int)),(8,.int .i64 (j:Int)),(9,.bp 700 2 0 0),(25,.int .i64 ((j+1:Nat):Int)),(26,.int .i64 (k.1:Int))]
    [(101,{els:=[.agg Qp6],esz:=36,ety:=217,fro:=0,live:=true,arr:=false}),(204,{els:=[wPV M],esz:=2,ety:=71,fro:=0,live:=true,arr:=false}),(700,{els:=[wPV (sm (fun k=>c.getD k 0*(cw (c.length-1) j k:Int)) k.1)],esz:=2,ety:=71,fro:=0,live:=true,arr:=false})]) (fun k=>j+1-k.1) ⟨0,Nat.zero_le _⟩ ?_ ?_
   ·refine Qak (θ:=[(101,101),(204,204),(700,700)]) rfl ?_ ?_
    ·simp [Qaf,lkp,ren1,ren0,Qap,Qas]
    ·refine⟨⟨rfl,rfl,rfl,rfl,rfl,.inr ⟨rfl,_,_,rfl,rfl,rfl,rfl⟩⟩,⟨rfl,rfl,rfl,rfl,rfl,.inr ⟨rfl,_,_,rfl,rfl,rfl,rfl⟩⟩,⟨rfl,rfl,rfl,rfl,rfl,.inr ⟨rfl,_,_,rfl,rfl,?_,rfl⟩⟩,trivial⟩
     simp only [sm];rw [Zsn];rfl
   ·rintro⟨k,hk⟩
    by_cases hB:k<j+1
    ·have hB':=ltT hB
     have hkc:k<c.length:=by omega
     have h0:=nnT k
     have hg:=Qct c k hkc
     have hwk2:=Qaj (a:=k) (by omega)
     have g1:=Qr1 (c.length-1) k (by omega) (by omega)
     have g2:=Qr1 j k (by omega) (by omega)
     have hb0:((bin (c.length-1) k:Int)=0)=False:=eq_false (by have:=Qtq (n:=c.length-1) (k:=k) (by omega);omega)
     have t1:Int.tdiv 60 (bin (c.length-1) k:Int)=((60/bin (c.length-1) k:Nat):Int):=Qqd 60 _
     have d60:60/bin (c.length-1) k≤60:=Nat.div_le_self _ _
     have wk1:IntKind.i64.wrap ((60/bin (c.length-1) k:Nat):Int)=((60/bin (c.length-1) k:Nat):Int):=wrapn (by omega)
     have hcw:=Ziy (c.length-1) j k (by omega)
     have ecw:((60/bin (c.length-1) k:Nat):Int)*(bin j k:Int)=(cw (c.length-1) j k:Int):=by rw [cw,Int.natCast_mul]
     have wk2:IntKind.i64.wrap (cw (c.length-1) j k:Int)=(cw (c.length-1) j k:Int):=wrapn (by omega)
     obtain⟨k1,k2⟩:=hc _ (List.getElem_mem hkc)
     have o1:=Qhs c[k] k1 k2
     have o2:=Qhs (cw (c.length-1) j k:Int) (by omega) (by omega)
     have x1:(c[k]).natAbs<2^64:=hcb _ (List.getElem_mem hkc)
     have x2:(cw (c.length-1) j k:Int).natAbs<2^11:=by rw [Int.natAbs_natCast];omega
     have m2:=Qhv (Qa4 x1 (by decide)) (Qa4 x2 (by decide)) (Qa4 (Qhw x1 x2) (by decide))
     have y1:=Qha (n:=c.length-1) (j:=j) hcb (by omega) k (by omega)
     have y2:=Qha (n:=c.length-1) (j:=j) hcb (by omega) (k+1) (by omega)
     have es:sm (fun k=>c.getD k 0*(cw (c.length-1) j k:Int)) (k+1)=sm (fun k=>c.getD k 0*(cw (c.length-1) j k:Int)) k+c[k]*(cw (c.length-1) j k:Int):=by simp only [sm];rw [Qfa hkc]
     rw [es]at y2
     have a1:=Qgs (Qa4 y1 (by decide)) (Qa4 (Qhw x1 x2) (by decide)) (Qa4 y2 (by decide))
     rw [←es]at a1
     generalize hX:sm (fun k=>c.getD k 0*(cw (c.length-1) j k:Int)) (k+1)=X at*
     generalize sm (fun k=>c.getD k 0*(cw (c.length-1) j k:Int)) k=Y at*
     generalize c[k]*(cw (c.length-1) j k:Int)=Z at*
     generalize (cw (c.length-1) j k:Int)=V at*
     have l1:=ltT (show c.length-1<6 by omega)
     have l2:=ltT (show k<6 by omega)
     have l3:=ltT (show j<6 by omega)
     have n1:=nnT (c.length-1)
     have n2:=nnT j
     repeat (first|(simp -implicitDefEqProofs only [go_sem,Nat.reduceAdd,Nat.reduceMul,Nat.reduceEqDiff,Nat.reduceLT,Nat.reduceLeDiff,reduceCtorEq,Qas,wPV,hB',h0,l1,l2,l3,n1,n2,hg,hwk2,g1,g2,hb0,t1,wk1,ecw,wk2,Int.toNat_natCast,List.length_map])|((with_reducible refine Qab (o1) ?_ ?_ ?_);(with_reducible rfl);rfl)|((with_reducible refine Qab (o2) ?_ ?_ ?_);(with_reducible rfl);rfl)|((with_reducible refine Qab (m2) ?_ ?_ ?_);(with_reducible rfl);rfl)|((with_reducible refine Qab (a1) ?_ ?_ ?_);(with_reducible rfl);rfl)|(with_reducible exact Qaa _ _ (by kernel_rfl))|(with_reducible refine And.intro (Qaa _ _ (by kernel_rfl)) ?_))
     refine⟨⟨k+1,hB⟩,by simp only;omega,Qak (θ:=[(101,101),(204,204),(700,700)]) rfl ?_ ?_⟩
     ·simp [Qaf,lkp,ren1,ren0,Qap,Qas]
     ·simp only [hX]
      exact⟨⟨rfl,rfl,rfl,rfl,rfl,.inr ⟨rfl,_,_,rfl,rfl,rfl,rfl⟩⟩,⟨rfl,rfl,rfl,rfl,rfl,.inr ⟨rfl,_,_,rfl,rfl,rfl,rfl⟩⟩,⟨rfl,rfl,rfl,rfl,rfl,.inr ⟨rfl,_,_,rfl,rfl,rfl,rfl⟩⟩,trivial⟩
    ·have hB':=ltF hB
     obtain rfl:k=j+1:=by omega
     have ec:sm (fun k=>c.getD k 0*(cw (c.length-1) j k:Int)) (j+1)=ctl c j:=rfl
     simp only [ec]
     have y3:=Qha (n:=c.length-1) (j:=j) hcb (by omega) (j+1) (by omega)
     rw [ec]at y3
     have y4:(((ctl c j).natAbs:Nat):Int).natAbs<2^(64+11+7):=by rw [Int.natAbs_natCast];exact y3
     have hcm:=Qyb (Qa4 y4 (by decide)) (Qa4 b3 (by decide))
     have ea:wPV (((ctl c j).natAbs:Nat):Int)= .agg [.bool false,.str ⟨(magL (ctl c j).natAbs).toArray⟩]:=by
      unfold wPV
      have:decide ((((ctl c j).natAbs:Nat):Int)<0)=false:=by simp
      rw [this,Int.natAbs_natCast]
     rw [ea]at hcm
     by_cases hle:((ctl c j).natAbs:Int)≤M
     ·have hs:((0:Int)<((((ctl c j).natAbs:Nat):Int)-M).sign)=False:=eq_false (by have:=Int.sign_nonpos_iff.2 (show(((ctl c j).natAbs:Nat):Int)-M≤0 by omega);omega)
      have hn:Qc8 c o (j+1)=true:=by rw [Qfh,hall,hM];simp [hle]
      generalize ctl c j=X at*
      repeat (first|(simp -implicitDefEqProofs only [go_sem,Nat.reduceAdd,Nat.reduceMul,Nat.reduceEqDiff,Nat.reduceLT,Nat.reduceLeDiff,reduceCtorEq,wPV,hB',hs,hwk])|((with_reducible refine Qab (hcm) ?_ ?_ ?_);(with_reducible rfl);rfl)|(with_reducible exact Qaa _ _ (by kernel_rfl))|(with_reducible refine And.intro (Qaa _ _ (by kernel_rfl)) ?_))
      refine⟨⟨j+1,hA,hn⟩,by simp only;omega,Qak (θ:=[(101,101),(204,204)]) rfl ?_ ?_⟩
      ·simp [Qaf,lkp,ren1,ren0,Qap,Qas]
      ·exact⟨⟨rfl,rfl,rfl,rfl,rfl,.inr ⟨rfl,_,_,rfl,rfl,rfl,rfl⟩⟩,⟨rfl,rfl,rfl,rfl,rfl,.inr ⟨rfl,_,_,rfl,rfl,rfl,rfl⟩⟩,trivial⟩
     ·have hs:((0:Int)<((((ctl c j).natAbs:Nat):Int)-M).sign)=True:=eq_true (Int.sign_pos_iff.2 (by omega))
      have hn:Qc8 c o c.length=false:=Qpp (j:=j+1) (by rw [Qfh,hall,hM];simp;omega) hA
      generalize ctl c j=X at*
      repeat (first|(simp -implicitDefEqProofs only [go_sem,Nat.reduceAdd,Nat.reduceMul,Nat.reduceEqDiff,Nat.reduceLT,Nat.reduceLeDiff,reduceCtorEq,wPV,hB',hs,hn])|((with_reducible refine Qab (hcm) ?_ ?_ ?_);(with_reducible rfl);rfl)|(with_reducible exact Qaa _ _ (by kernel_rfl))|(with_reducible refine And.intro (Qaa _ _ (by kernel_rfl)) ?_))
  ·have hA':=ltF hA
   obtain rfl:j=c.length:=by omega
   repeat (first|(simp -implicitDefEqProofs only [go_sem,Nat.reduceAdd,Nat.reduceMul,Nat.reduceEqDiff,Nat.reduceLT,Nat.reduceLeDiff,reduceCtorEq,hA',hall])|(with_reducible exact Qaa _ _ (by kernel_rfl))|(with_reducible refine And.intro (Qaa _ _ (by kernel_rfl)) ?_))
end Go.Proofs.YtciddhkfbgkejaaGreatDoor
