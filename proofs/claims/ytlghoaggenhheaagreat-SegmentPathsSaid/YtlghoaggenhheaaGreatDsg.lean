/-
  Dq, PP1, PP2, Dr, PN1, Bn, PN2, Ds, PP3, Du, PP4, Dsg (merged for the claim).
-/
import Derived.Test.YtlghoaggenhheaaGreatPA13
import Derived.Test.YtlghoaggenhheaaGreatPW6
set_option linter.unusedSimpArgs false
set_option linter.unusedVariables false
namespace Go.Dg

/-! ### sums -/
/-- The sum of the first n values. -/
def sm (f:Nat→Int):Nat→Int
  |0=>0
  |n+1=>sm f n+f n
theorem Qbg {f g:Nat→Int}: ∀(n:Nat),(∀i,i<n→f i=g i)→sm f n=sm g n
  |0,_=>rfl
  |n+1,h=>by rw [sm,sm,Qbg n (fun i hi=>h i (Nat.lt_succ_of_lt hi)),h n (Nat.lt_succ_self n)]
theorem Qnz {f:Nat→Int}: ∀(n:Nat),(∀i,i<n→f i=0)→sm f n=0
  |0,_=>rfl
  |n+1,h=>by rw [sm,Qnz n (fun i hi=>h i (Nat.lt_succ_of_lt hi)),h n (Nat.lt_succ_self n)];rfl
theorem Qud (f g:Nat→Int): ∀n,sm (fun i=>f i+g i) n=sm f n+sm g n
  |0=>rfl
  |n+1=>by simp only [sm,Qud f g n];omega
theorem Qdd (c:Int) (f:Nat→Int): ∀n,sm (fun i=>c*f i) n=c*sm f n
  |0=>by simp [sm]
  |n+1=>by simp only [sm,Qdd c f n,Int.mul_add]
theorem Qjv (f:Nat→Int): ∀n,sm f (n+1)=f 0+sm (fun i=>f (i+1)) n
  |0=>by simp [sm]
  |n+1=>by rw [sm,Qjv f n,sm];omega
theorem Q44 (f:Nat→Int) {n m:Nat} (h:n≤m) (hz: ∀i,n≤i→i<m→f i=0):sm f m=sm f n:=by
  induction m with
  |zero=>
        obtain rfl:n=0:=by omega
        rfl
  |succ m ih=>
    rcases Nat.lt_or_eq_of_le h with h1|h1
    · rw [sm,ih (by omega) (fun i a b=>hz i a (by omega)),hz m (by omega) (by omega),Int.add_zero]
    · rw [h1]
theorem Q45 (g:Nat→Nat→Int): ∀n,sm (fun j=>sm (fun i=>g i j) (j+1)) n=sm (fun i=>sm (fun k=>g i (i+k)) (n-i)) n
  |0=>rfl
  |n+1=>by
    rw [sm,Q45 g n];have h1:sm (fun i=>sm (fun k=>g i (i+k)) (n+1-i)) n=sm (fun i=>sm (fun k=>g i (i+k)) (n-i)+g i n) n:=
      Qbg n fun i hi=>by
        have e:n+1-i=(n-i)+1:=by omega
        have e2:i+(n-i)=n:=by omega
        rw [e,sm,e2]
    have e3:n+1-n=1:=by omega
    rw [sm,sm,h1,Qud,e3];simp only [sm,Nat.add_zero,Int.zero_add];omega
theorem Q46 (f:Nat→Nat→Int) (m:Nat): ∀n,sm (fun i=>sm (fun j=>f i j) m) n=sm (fun j=>sm (fun i=>f i j) n) m
  |0=>(Qnz m (fun _ _=>rfl)).symm
  |n+1=>by rw [sm,Q46 f m n,←Qud];rfl
theorem Q47 {f g:Nat→Int}: ∀(n:Nat),(∀i,i<n→f i≤g i)→sm f n≤sm g n
  |0,_=>Int.le_refl 0
  |n+1,h=>Int.add_le_add (Q47 n fun i hi=>h i (Nat.lt_succ_of_lt hi)) (h n (Nat.lt_succ_self n))

/-! ### binomials -/
/-- The number of ways to choose k of n elements. -/
def bin:Nat→Nat→Nat
  |_,0=>1
  |0,_+1=>0
  |n+1,k+1=>bin n k+bin n (k+1)
theorem Qgn (n:Nat):bin n 0=1:=by cases n<;>rfl
theorem Q48: ∀{n k:Nat},n<k→bin n k=0
  |0,0,h=>absurd h (Nat.lt_irrefl 0)
  |0,_+1,_=>rfl
  |n+1,0,h=>absurd h (Nat.not_lt_zero _)
  |n+1,k+1,h=>by rw [bin,Q48 (by omega),Q48 (by omega)]
/-- The next one of a row. -/
theorem Qm7: ∀(n k:Nat),(bin n (k+1):Int)*((k:Int)+1)=(bin n k:Int)*((n:Int)-(k:Int))
  |0,0=>by simp [bin]
  |0,k+1=>by simp [bin]
  |n+1,0=>by
    have h:=Qm7 n 0;rw [Qgn]at h ⊢;rw [bin,Qgn];simp only [Int.natCast_add,Int.natCast_zero,Int.zero_add,Int.mul_one,Int.sub_zero,Int.one_mul]at h ⊢;omega
  |n+1,k+1=>by
    have h1:=Qm7 n k;have h2:=Qm7 n (k+1);rw [bin,bin];simp only [Int.natCast_add]at h1 h2 ⊢;generalize (bin n k:Int)=a at*;generalize (bin n (k+1):Int)=b at*;generalize (bin n (k+1+1):Int)=c at*;generalize (n:Int)=N at*;generalize (k:Int)=K at*;simp only [Int.mul_add,Int.add_mul,Int.mul_sub,Int.sub_mul]at h1 h2 ⊢;simp only [Int.mul_one]at h1 h2 ⊢;omega
theorem Qr6: ∀{n k:Nat},k≤n→0<bin n k
  |_,0,_=>by rw [Qgn];decide
  |0,k+1,h=>absurd h (by omega)
  |n+1,k+1,h=>by rw [bin];have:=Qr6 (n:=n) (k:=k) (by omega);omega
theorem Qig: ∀(n k:Nat),bin n k≤2^n
  |0,0=>by decide
  |0,_+1=>by simp [bin]
  |n+1,0=>by rw [Qgn];exact Nat.pow_pos (by decide)
  |n+1,k+1=>by rw [bin,Nat.pow_succ];have:=Qig n k;have:=Qig n (k+1);omega
theorem Qms (x:Int) (n:Nat):x^(n+1)=x*x^n:=by rw [Int.pow_succ,Int.mul_comm]
/-- The power of a sum. -/
theorem Qn0 (a b:Int): ∀n,sm (fun k=>(bin n k:Int)*(a^k*b^(n-k))) (n+1)=(a+b)^n
  |0=>by simp [sm,bin]
  |n+1=>by
    have ih:=Qn0 a b n;rw [Qjv];have h1:sm (fun k=>(bin (n+1) (k+1):Int)*(a^(k+1)*b^(n+1-(k+1)))) (n+1)
        =sm (fun k=>a*((bin n k:Int)*(a^k*b^(n-k)))+(bin n (k+1):Int)*(a^(k+1)*b^(n-k))) (n+1):=
      Qbg _ fun k _=>by
        have e:n+1-(k+1)=n-k:=by omega
        rw [e,bin,Int.natCast_add,Int.add_mul,Qms];congr 1;rw [Int.mul_assoc,Int.mul_left_comm]
    rw [h1,Qud,Qdd,ih];have h2:sm (fun k=>(bin n (k+1):Int)*(a^(k+1)*b^(n-k))) (n+1)=sm (fun k=>b*((bin n (k+1):Int)*(a^(k+1)*b^(n-(k+1))))) n:=by
      rw [sm,Q48 (Nat.lt_succ_self n),Int.natCast_zero,Int.zero_mul,Int.add_zero];refine Qbg _ fun k hk=> ?_;have e:n-k=(n-(k+1))+1:=by omega
      rw [e,Qms b];simp only [Int.mul_comm,Int.mul_left_comm,Int.mul_assoc]
    have h3:=Qjv (fun k=>(bin n k:Int)*(a^k*b^(n-k))) n;rw [ih]at h3;rw [h2,Qdd,Qgn];rw [Qgn]at h3;simp only [Int.pow_zero,Int.one_mul,Nat.sub_zero,Int.natCast_one]at h3 ⊢;rw [Qms,Qms,Int.add_mul,h3];simp only [Int.mul_add];omega

/-! ### polynomials by their values -/
/-- A polynomial at x/y,times y to the power of its degree. -/
def hev:List Int→Int→Int→Int
  | [],_,_=>0
  |c::r,x,y=>c*y^r.length+x*hev r x y
theorem Qi4: ∀(p:List Int) (x y:Int),hev p x y=sm (fun i=>p.getD i 0*(x^i*y^(p.length-1-i))) p.length
  | [],_,_=>rfl
  |c::r,x,y=>by
    rw [hev,List.length_cons,Qjv,Qi4 r x y,←Qdd];congr 1
    · simp
    · refine Qbg _ fun i hi=> ?_;have e:r.length+1-1-(i+1)=r.length-1-i:=by omega
      rw [e,Qms,List.getD_cons_succ];simp only [Int.mul_comm,Int.mul_left_comm,Int.mul_assoc]
/-- Lists of equal length with equal values are equal. -/
theorem Qjw: ∀{p q:List Int},p.length=q.length→(∀x:Int,1≤x→hev p x 1=hev q x 1)→p=q
  | [],[],_,_=>rfl
  | [],_::_,h,_=>by simp at h
  |_::_,[],h,_=>by simp at h
  |a::p,b::q,hl,h=>by
    simp only [hev,Int.one_pow,Int.mul_one]at h;have hab:a=b:=by
      have h1:=h ((a-b).natAbs+1) (by omega);generalize hev p _ 1=A at h1;generalize hev q _ 1=B at h1;have h2:a-b=(((a-b).natAbs:Int)+1)*(B-A):=by rw [Int.mul_sub];omega
      have h3:(((a-b).natAbs:Int)+1)∣(a-b):=⟨_,h2⟩;have h4:=Int.natAbs_dvd_natAbs.2 h3;rcases Nat.eq_zero_or_pos (a-b).natAbs with h0|h0
      · omega
      · have:=Nat.le_of_dvd h0 h4;omega
    subst hab;congr 1;refine Qjw (by simpa using hl) fun x hx=> ?_;have h1:=h x hx;have h2:x*hev p x 1=x*hev q x 1:=by omega
    exact Int.eq_of_mul_eq_mul_left (by omega) h2
/-- A list of sums of products,at two values. -/
theorem Qm8 (F:Nat→Int) (n:Nat) (x y:Int):hev ((List.range (n+1)).map F) x y=sm (fun j=>F j*(x^j*y^(n-j))) (n+1):=by
  rw [Qi4];simp only [List.length_map,List.length_range];refine Qbg _ fun j hj=> ?_;rw [List.getD_eq_getElem?_getD];simp [hj]

/-- The list whose value at x,y is the sum of f i x^i (c x+y)^(n-i). -/
def trans (f:List Int) (c:Int) (n:Nat):List Int:=(List.range (n+1)).map fun j=>sm (fun i=>f.getD i 0*(c^(j-i)*(bin (n-i) (j-i):Int))) (j+1)
theorem Qfv (f:List Int) (c:Int) (n:Nat):(trans f c n).length=n+1:=by simp [trans]
theorem Qr7 (a b:Int): ∀n:Nat,(a*b)^n=a^n*b^n
  |0=>by simp
  |n+1=>by rw [Qms,Qms,Qms,Qr7 a b n];simp only [Int.mul_comm,Int.mul_left_comm,Int.mul_assoc]
theorem Qk6 (c:Int) (f:Nat→Int) (n:Nat):sm (fun i=>f i*c) n=sm f n*c:=by
  rw [Int.mul_comm,←Qdd];exact Qbg n fun i _=>Int.mul_comm _ _
theorem Q49 (f:List Int) (c:Int) (n:Nat) (x y:Int):hev (trans f c n) x y=sm (fun i=>f.getD i 0*(x^i*(c*x+y)^(n-i))) (n+1):=by
  rw [trans,Qm8];have h1:sm (fun j=>sm (fun i=>f.getD i 0*(c^(j-i)*(bin (n-i) (j-i):Int))) (j+1)*(x^j*y^(n-j))) (n+1)
      =sm (fun j=>sm (fun i=>f.getD i 0*(c^(j-i)*(bin (n-i) (j-i):Int))*(x^j*y^(n-j))) (j+1)) (n+1):=
    Qbg _ fun j _=>(Qk6 _ _ _).symm
  rw [h1,Q45 (fun i j=>f.getD i 0*(c^(j-i)*(bin (n-i) (j-i):Int))*(x^j*y^(n-j)))];refine Qbg _ fun i hi=> ?_;have e:n+1-i=(n-i)+1:=by omega
  rw [←Qn0 (c*x) y (n-i),e,←Qdd,←Qdd];refine Qbg _ fun k hk=> ?_;have e1:i+k-i=k:=by omega
  have e2:n-(i+k)=n-i-k:=by omega
  rw [e1,e2,Qr7,Int.pow_add];simp only [Int.mul_comm,Int.mul_left_comm,Int.mul_assoc]
theorem Zma {f:List Int} {n:Nat} (h:f.length≤n+1) (x s:Int):sm (fun i=>f.getD i 0*(x^i*s^(n-i))) (n+1)=s^(n+1-f.length)*hev f x s:=by
  rw [Q44 _ h (fun i h1 _=>by rw [List.getD_eq_getElem?_getD,List.getElem?_eq_none h1];simp),Qi4,←Qdd];refine Qbg _ fun i hi=> ?_;have e:n-i=(n+1-f.length)+(f.length-1-i):=by omega
  rw [e,Int.pow_add];simp only [Int.mul_comm,Int.mul_left_comm,Int.mul_assoc]
theorem Q1q {f:List Int} {n:Nat} (h:f.length≤n+1) (c x y:Int):hev (trans f c n) x y=(c*x+y)^(n+1-f.length)*hev f x (c*x+y):=by
  rw [Q49,Zma h]
theorem Qgb {f:List Int} {n:Nat} (h:f.length=n+1) (c x y:Int):hev (trans f c n) x y=hev f x (c*x+y):=by
  rw [Q1q (by omega),h,Nat.sub_self,Int.pow_zero,Int.one_mul]
/-- Each value times a power. -/
def Zsc (b:Int) (n:Nat) (f:List Int):List Int:=(List.range (n+1)).map fun j=>f.getD j 0*b^(n-j)
end Go.Dg

namespace Go.Proofs.YtlghoaggenhheaaGreat
open Go.Vl Go.RowKit Go.Dg
theorem Qq3 {x y:Int} {B:Nat} (hx:x.natAbs<2^B) (hy:y.natAbs<2^B):(x+y).natAbs<2^(B+1):=by
 rw [Nat.pow_succ];generalize 2^B=K at*;omega
theorem Qhu {x y:Int} {B C:Nat} (hx:x.natAbs<2^B) (hy:y.natAbs<2^C):(x*y).natAbs<2^(B+C):=by
 rw [Int.natAbs_mul,Nat.pow_add];exact Nat.mul_lt_mul'' hx hy
theorem Zlh {x:Int} {B:Nat} (hx:x.natAbs<2^B):(-x).natAbs<2^B:=by rw [Int.natAbs_neg];exact hx
theorem Zli {x:Int} (h:x.natAbs<2^65536):(digs 256 x.natAbs).length≤8192:=(Qar (by decide) x.natAbs 8192).2 (Qny (k:=8192) h (by decide))
theorem Qj5 {n:Int} (h:n.natAbs<2^65536):Qjj n= .tup [wPV n,.int .i64 0]:=by
 rw [Qjj,if_neg (Nat.not_lt.2 (Qd3 65536 _ h))]
abbrev mB (x:Int):ByteArray:=⟨(magL x.natAbs).toArray⟩
theorem Qdt {x:Int} (h:x.natAbs<2^65536):(mB x).size≤100000:=by rw [Q5y];have:=Zli h;omega
theorem Qcs {x:Int} (h:x.natAbs<2^65536):Qbm (decide (x<0)) (mB x).data.toList=true:=Qx5 x (Zli h)
theorem Qok (x:Int):(bnum (mB x).data.toList)=x.natAbs:=by
 have h:=Qc3 x;unfold wnum at h;have h2:=congrArg Int.natAbs h
 rwa [Zuo]at h2
theorem Zlj {x y:Int} (hx:x.natAbs<2^65536) (hy:y.natAbs<2^65536):Qae Tryz.prog 123 [wPV x,wPV y] (Qjj (x*y)):=by
 have h:=Zuj (decide (x<0)) (decide (y<0)) (mB x) (mB y) (Qcs hx) (Qcs hy) (Qdt hx) (Qdt hy)
 rwa [Qc3,Qc3]at h
theorem Zlk {x y:Int} (hx:x.natAbs<2^65536) (hy:y.natAbs<2^65536):Qae Tryz.prog 122 [wPV x,wPV y] (Qjj (x+y)):=by
 have h:=Zt9 (decide (x<0)) (decide (y<0)) (mB x) (mB y) (Qcs hx) (Qcs hy) (Qdt hx) (Qdt hy)
 rwa [Qc3,Qc3]at h
theorem Ztd {x y:Int} (hx:x.natAbs<2^65536) (hy:y.natAbs<2^65536):Qae Tryz.prog 97 [wPV x,wPV y] (Qjj ((Nat.gcd x.natAbs y.natAbs:Nat):Int)):=by
 have h:=Zuk (decide (x<0)) (decide (y<0)) (mB x) (mB y) (Qcs hx) (Qcs hy) (Qdt hx) (Qdt hy)
 rwa [Qok,Qok]at h
theorem Q64 {x:Int} (hx:x.natAbs<2^65536):Qae Tryz.prog 114 [wPV x] (.int .i64 x.sign):=by
 have h:=Zal (decide (x<0)) (mB x) (Qcs hx) (Qdt hx)
 rwa [Qc3]at h
theorem Zte {x:Int} (hx:x.natAbs<2^65536):Qae Tryz.prog 132 [wPV x] (.int .i64 (blen x.natAbs:Int)):=by
 have h:=Zuc (decide (x<0)) (mB x) (Qcs hx) (Qdt hx)
 rwa [Qok]at h
theorem Qol {x:Int} (hx:x.natAbs<2^65536):Qae Tryz.prog 74 [wPV x] (Qeb x):=by
 have h:=Zub (decide (x<0)) (mB x) (Qcs hx) (Qdt hx)
 rwa [Qc3]at h
theorem Qq4 {x y:Int} (hx:x.natAbs<2^65536) (hy:y.natAbs<2^65536):Qae Tryz.prog 73 [wPV x,wPV y] (.int .i64 (x-y).sign):=by
 have h:=Q3c (decide (x<0)) (decide (y<0)) (mB x) (mB y) (Qcs hx) (Qcs hy) (Qdt hx) (Qdt hy)
 rwa [Qc3,Qc3]at h
theorem Qnb {x:Int} (hx:x.natAbs<2^65536):Qae Tryz.prog 111 [wPV x] (.bool true):=by
 have h:=Qgy (decide (x<0)) (mB x)
 rwa [Qcs hx]at h
theorem Ztf {x:Int} (h:x≠0):(mB x).data.toList≠ []:=fun e=>h ((Qs5 x).1 e)
theorem Ztg {x y:Int} (hx:x.natAbs<2^65536) (hy:y.natAbs<2^65536) (h0:y≠0):Qae Tryz.prog 105 [wPV x,wPV y] (Zjg x y):=by
 have h:=Zun (decide (x<0)) (decide (y<0)) (mB x) (mB y) (Qcs hx) (Qcs hy) (Ztf h0) (Qdt hx) (Qdt hy)
 rwa [Qc3,Qc3]at h
theorem Qxo {x:Int} {B k:Nat} (h:x.natAbs<2^B) (hk:B≤8*k):(digs E9 x.natAbs).length≤k:=(Q0h x k (Qny h hk)).1
theorem Zwp {x:Int} {B k:Nat} (h:x.natAbs<2^B) (hk:B≤8*k):(digs 256 x.natAbs).length≤k:=(Q0h x k (Qny h hk)).2
theorem Zd7 {x:Int} (h:x.natAbs<2^8000000):Qae Tryz.prog 57 [rI x] (wPV x):=Zv1 x (Qxo h (by decide)) (Nat.le_trans (Zwp h (k:=1000000) (by decide)) (by decide))
theorem Qq5 {x y:Int} (hx:x.natAbs<2^7000000) (hy:y.natAbs<2^7000000):Qae Tryz.prog 66 [rI x,rI y] (rI (x+y)):=
 Q51 x y (Zlo (k:=1000000) (by decide) (Qny (k:=1000000) hx (by decide)) (Qny (k:=1000000) hy (by decide)))
theorem Qfw {x y:Int} (hx:x.natAbs<2^7000000) (hy:y.natAbs<2^7000000):Qae Tryz.prog 61 [rI x,rI y] (rI (x*y)):=
 Qzx x y (by have:=Qxo hx (k:=1000000) (by decide);have:=Qxo hy (k:=1000000) (by decide);omega)
theorem Q0d {x y:Int} (hx:x.natAbs<2^7000000) (hy:y.natAbs<2^7000000) (h0:y≠0):Qae Tryz.prog 91 [rI x,rI y] (.tup [rI (x/y),rI (x%y)]):=
 Zsm x y h0 (Qxo hx (by decide)) (Qxo hy (by decide))
theorem Qu4 {x y:Int} (hx:x.natAbs<2^7000000) (hy:y.natAbs<2^7000000):Qae Tryz.prog 63 [rI x,rI y] (rI ((Nat.gcd x.natAbs y.natAbs:Nat):Int)):=
 Zsn x y (Qxo hx (by decide)) (Qxo hy (by decide))
theorem Qff {x y:Int} (hx:x.natAbs<2^7000000) (hy:y.natAbs<2^7000000):Qae Tryz.prog 64 [rI x,rI y] (.int .i64 (x-y).sign):=
 Q1v x y (Zlo (k:=1000000) (by decide) (Qny (k:=1000000) hx (by decide)) (Qny (k:=1000000) hy (by decide)))
def wA (p:Bool×ByteArray):PV:= .agg [.bool p.1,.str p.2]
theorem Zll (l:List (Bool×ByteArray)) (i:Nat) (h:i<l.length):(l.map wA)[i]? =some (.agg [.bool l[i].1,.str l[i].2]):=by
 rw [List.getElem?_map,List.getElem?_eq_getElem h];rfl
theorem Zlm (a b:ByteArray):(a==b)=(a.data==b.data):=rfl
theorem Q65 (b:ByteArray):(b==b)=true:=by rw [Zlm];exact beq_self_eq_true _
def wL (xs:List Int):PV:= .slc (xs.map wPV)
def rL (xs:List Int):PV:= .slc (xs.map rI)
theorem Qdu (xs:List Int) (i:Nat) (h:i<xs.length):(xs.map wPV)[i]? =some (.agg [.bool (decide (xs[i]<0)),.str (mB xs[i])]):=by
 rw [List.getElem?_map,List.getElem?_eq_getElem h];rfl
theorem Ql3 (xs:List Int) (i:Nat) (h:i<xs.length):(xs.map rI)[i]? =some (.agg [.bool (decide (xs[i]<0)),di (digs E9 xs[i].natAbs)]):=by
 rw [List.getElem?_map,List.getElem?_eq_getElem h];rfl
theorem Zns (xs:List Int):(((xs.map wPV).flatMap PV.cells).all PV.okCell)=true:=by
 rw [List.all_flatMap,List.all_map,List.all_eq_true];intro _ _;rfl
theorem Qom (xs:List Int):(((xs.map rI).flatMap PV.cells).all PV.okCell)=true:=by
 rw [List.all_flatMap,List.all_map,List.all_eq_true];intro _ _;rfl
theorem Q0e {α:Type} {p:α→Bool} {l:List α} {i:Nat} (hi:i<l.length) (h:(l.take i).all p=true) (hp:p l[i]=true):(l.take (i+1)).all p=true:=by
 rw [List.take_add_one,List.all_append,h];simp [hi,hp]
theorem Qxp {α:Type} {p:α→Bool} {l:List α} {i:Nat} (hi:i<l.length) (hp:p l[i]=false):l.all p=false:=by
 rw [List.all_eq_false];exact⟨l[i],List.getElem_mem hi,by simp [hp]⟩
theorem Qbe {α:Type} (l:List α) (i:Nat) (hi:i<l.length):l.take (i+1)=l.take i++[l[i]]:=by rw [List.take_add_one];simp [hi]
theorem ltT {i n:Nat} (h:i<n):((i:Int)<(n:Int))=True:=by simp only [eq_iff_iff,iff_true];omega
theorem ltF {i n:Nat} (h: ¬i<n):((i:Int)<(n:Int))=False:=by simp only [eq_iff_iff,iff_false];omega
theorem leT {i n:Nat} (h:i≤n):((i:Int)≤(n:Int))=True:=by simp only [eq_iff_iff,iff_true];omega
theorem leF {i n:Nat} (h: ¬i≤n):((i:Int)≤(n:Int))=False:=by simp only [eq_iff_iff,iff_false];omega
theorem nnT (i:Nat):((0:Int)≤(i:Int))=True:=by simp
def topB (l:List (Bool×ByteArray)):Bool:=match l[l.length-1]? with
 |some p=>decide (0<p.2.size)
 |none=>true
def Q0f (l:List (Bool×ByteArray)):Bool:=l.all fun p=>Qbm p.1 p.2.data.toList
def Qxq (l:List (Bool×ByteArray)):Bool:=Q0f l&&(decide (l.length≤25)&&topB l)
theorem Qu5 {l:List (Bool×ByteArray)} (h:l.length-1<l.length):topB l=decide (0<(l[l.length-1]'h).2.size):=by
 unfold topB;rw [List.getElem?_eq_getElem h]
theorem Zd8 (l:List (Bool×ByteArray)) (hl:l.length≤100000) (hs2: ∀p∈l,p.2.size≤100000):Qae Tryz.prog 113 [.slc (l.map wA)] (.bool (Qxq l)):=by
 refine Qab (tb:=[]) 33 [.tmp 2] [0,2,4,5,6,7,8,13] mixed Tryz.func113 rfl (by kernel_rfl) ?_;simp -implicitDefEqProofs only [go_sem,seval,List.length_map];refine Qaq mixed (fun i:{i:Nat // i≤l.length∧(l.take i).all (fun p=>Qbm p.1 p.2.data.toList)=true}=>St.of [(0,.slc (l.map wA)),(5,.slc (l.map wA)),(6,.int .i64 (l.length:Int)),(7,.int .i64 (i.1:Int))] []) (fun i=>l.length-i.1) ⟨0,Nat.zero_le _,rfl⟩ ?_ ?_
 ·exact Qaz (by simp [Qac,lkp,ren1,ren0])
 ·rintro⟨i,hi,hall⟩;by_cases hA:i<l.length
  ·have hA':=ltT hA;have h0:=nnT i;have hg:=Zll l i hA;have hwk:=Qah (a:=i) (by omega);simp -implicitDefEqProofs only [go_sem,seval,hA',h0,hg,Int.toNat_natCast];refine Qag _ _ _ _ _ _ _ _ _ (Qgy l[i].1 l[i].2) ?_;cases hs:Qbm l[i].1 l[i].2.data.toList with
   |true=>
    simp -implicitDefEqProofs only [go_sem,seval,hwk];exact⟨⟨i+1,hA,Q0e hA hall hs⟩,by simp only;omega,Qaz (by simp [Qac,lkp,ren1,ren0])⟩
   |false=>
    have e:Qxq l=false:=by unfold Qxq Q0f;rw [Qxp hA hs];rfl
    simp -implicitDefEqProofs only [go_sem,seval,e]
  ·have hA':=ltF hA;rw [List.take_of_length_le (by omega)]at hall;have e0:Qxq l=(decide (l.length≤25)&&topB l):=by unfold Qxq Q0f;rw [hall,Bool.true_and]
   rw [e0];by_cases h25:l.length≤25
   ·have h25':((l.length:Int)≤25)=True:=by simp only [eq_iff_iff,iff_true];omega
    rw [decide_eq_true h25,Bool.true_and];by_cases hz:l.length=0
    ·have hz':((l.length:Int)==0)=true:=by rw [hz];rfl
     have ht:topB l=true:=by rw [List.length_eq_zero_iff.1 hz];rfl
     repeat simp -implicitDefEqProofs only [go_sem,seval,hA',h25',hz',ht,List.length_map]
    ·have hz':((l.length:Int)==0)=false:=by simp only [beq_eq_false_iff_ne,ne_eq];omega
     have hlt:l.length-1<l.length:=by omega
     have hg:=Zll l (l.length-1) hlt;have hwm:IntKind.i64.wrap ((l.length:Int)-1)=((l.length-1:Nat):Int):=by rw [Qai (by omega) (by omega)];omega
     have h0:=nnT (l.length-1);have hv:=List.all_eq_true.1 hall _ (List.getElem_mem hlt);have hsg:=Zal l[l.length-1].1 l[l.length-1].2 hv (hs2 _ (List.getElem_mem hlt));have e5:((wnum l[l.length-1].1 l[l.length-1].2).sign != 0)=topB l:=by
      rw [Qu5 hlt,bne,Bool.eq_iff_iff];simp only [Bool.not_eq_true',beq_eq_false_iff_ne,ne_eq,Int.sign_eq_zero_iff_zero,decide_eq_true_eq];rw [Qjg];constructor
      ·intro h;refine Nat.pos_of_ne_zero fun e=>h ?_;exact Zdg (List.length_eq_zero_iff.1 e)
      ·intro h;exact Zmx hv (fun e=>by rw [e]at h;exact absurd h (by decide))
     repeat (first|simp -implicitDefEqProofs only [go_sem,seval,hA',h25',hz',hwm,h0,hg,e5,List.length_map,Int.toNat_natCast]|(with_reducible refine Qaa hsg ?_ ?_ ?_);rfl;rfl)
   ·have h25':((l.length:Int)≤25)=False:=by simp only [eq_iff_iff,iff_false];omega
    rw [decide_eq_false h25,Bool.false_and];repeat simp -implicitDefEqProofs only [go_sem,seval,hA',h25',List.length_map]
end Go.Proofs.YtlghoaggenhheaaGreat

namespace Go.Dg
def upto (F:Nat→Int) (N j:Nat):List Int:=(List.range N).map fun m=>if m<j then F m else 0
theorem Qgo (F:Nat→Int) (N j:Nat):(upto F N j).length=N:=by simp [upto]
theorem Q5a (F:Nat→Int) (N:Nat):upto F N 0=List.replicate N 0:=by
 refine List.ext_getElem? fun i=> ?_;simp only [upto,List.getElem?_map,List.getElem?_replicate,Nat.not_lt_zero,if_false];by_cases h:i<N
 ·simp [h]
 ·simp [h]
theorem Qzk (F:Nat→Int) (N j i:Nat) (h:i<N):(upto F N j)[i]? =some (if i<j then F i else 0):=by
 simp [upto,h]
theorem Zcz (F:Nat→Int) (N j:Nat) (h:j<N):(upto F N j).set j (F j)=upto F N (j+1):=by
 refine List.ext_getElem? fun i=> ?_;rw [List.getElem?_set];by_cases hi:i<N
 ·rw [Qzk _ _ _ _ hi,Qzk _ _ _ _ hi,Qgo];by_cases e:j=i
  ·subst e;simp [h]
  ·rw [if_neg e];congr 1;by_cases h1:i<j
   ·rw [if_pos h1,if_pos (by omega)]
   ·rw [if_neg h1,if_neg (by omega)]
 ·have e1:(upto F N j)[i]? =none:=List.getElem?_eq_none (by rw [Qgo];omega);have e2:(upto F N (j+1))[i]? =none:=List.getElem?_eq_none (by rw [Qgo];omega);rw [e1,e2,if_neg (by omega)]
theorem Q5b (F:Nat→Int) (N j:Nat) (h:N≤j):upto F N j=(List.range N).map F:=by
 refine List.map_congr_left fun m hm=> ?_;rw [if_pos (Nat.lt_of_lt_of_le (List.mem_range.1 hm) h)]
theorem Zkz {f:Nat→Int} {C:Nat}: ∀(m:Nat),(∀i,i<m→(f i).natAbs≤C)→(sm f m).natAbs≤m*C
 |0,_=>by simp [sm]
 |m+1,h=>by
  have h1:=Zkz m (fun i hi=>h i (by omega));have h2:=h m (Nat.lt_succ_self m);rw [sm,Nat.succ_mul];omega
theorem Zc0 {xs:List Int} {B:Nat} (h: ∀x∈xs,x.natAbs<2^B) (i:Nat):(xs.getD i 0).natAbs<2^B:=by
 rw [List.getD_eq_getElem?_getD];cases e:xs[i]? with
 |none=>exact Nat.pow_pos (by decide)
 |some x=>exact h x (List.mem_of_getElem? e)
theorem Q5c {n k:Nat} (h:k≤n):bin n k*(n-k)=bin n (k+1)*(k+1):=by
 have h1:=Qm7 n k;have e:((n-k:Nat):Int)=(n:Int)-(k:Int):=by omega
 rw [←e]at h1;have h2:((bin n (k+1)*(k+1):Nat):Int)=((bin n k*(n-k):Nat):Int):=by rw [Int.natCast_mul,Int.natCast_mul,←h1];rfl
 omega
def Qdo (bl:Nat→Nat) (xs:List Int):Nat:=xs.foldl (fun n x=>if n<bl x.natAbs then bl x.natAbs else n) 0
theorem Q1r (bl:Nat→Nat) (xs:List Int) (x:Int):Qdo bl (xs++[x])=if Qdo bl xs<bl x.natAbs then bl x.natAbs else Qdo bl xs:=by
 rw [Qdo,List.foldl_append];rfl
theorem Qlz (bl:Nat→Nat) (C:Nat): ∀(xs:List Int) (a:Nat),a≤C→(∀x∈xs,bl x.natAbs≤C)→xs.foldl (fun n x=>if n<bl x.natAbs then bl x.natAbs else n) a≤C
 | [],a,ha,_=>ha
 |x::xs,a,ha,h=>by
  rw [List.foldl_cons];refine Qlz bl C xs _ ?_ fun y hy=>h y (by simp [hy]);split
  ·exact h x (by simp)
  ·exact ha
theorem Qzl {bl:Nat→Nat} {xs:List Int} {C:Nat} (h: ∀x∈xs,bl x.natAbs≤C):Qdo bl xs≤C:=Qlz bl C xs 0 (Nat.zero_le _) h
end Go.Dg

namespace Go.Proofs.YtlghoaggenhheaaGreat
open Go.Vl Go.RowKit Go.Dg
theorem Qsz {a b:Nat} (h:b≤a) (ha:a<9223372036854775808):IntKind.i64.wrap ((a:Int)-(b:Int))=((a-b:Nat):Int):=by rw [Qai (by omega) (by omega)];omega
theorem ne0 (a:Nat):(((a+1:Nat):Int)=0)=False:=by simp only [eq_iff_iff,iff_false];omega
theorem Qu3 {n i m:Nat} (hn:n≤50) (hm:m≤50):bin n i*m<9223372036854775808:=by
 have h1:=Qig n i;have h2:2^n≤2^50:=Nat.pow_le_pow_right (by decide) hn;have h3:bin n i*m≤2^50*50:=Nat.mul_le_mul (Nat.le_trans h1 h2) hm;have e:(2:Nat)^50*50=56294995342131200:=rfl;omega
end Go.Proofs.YtlghoaggenhheaaGreat

namespace Go.Vl
def Qlx:PV→PV
 | .nilS=> .slc []
 |v=>v
def Q1i:PV→PV
 | .agg cs=> .agg (cs.map Qlx)
 |v=>Qlx v
theorem Qnl (v:PV):(Q1i v).cells=v.cells.map Qlx:=by
 cases v<;>rfl
theorem Qqa (l:List PV):(l.map Q1i).flatMap PV.cells=(l.flatMap PV.cells).map Qlx:=by
 induction l with
 |nil=>rfl
 |cons v l ih=>simp only [List.map_cons,List.flatMap_cons,List.map_append,Qnl,ih]
theorem Rep.up {w:World} {im:Im} {v:PV} {u:Value} (h:Rep w im v u):Rep w im (Qlx v) u:=by
 cases v with
 |nilS=>cases h;exact .slcNil 0 (Nat.zero_le _)
 |_=>exact h
theorem LR.up {w:World} {im:Im} {ρ:Rho} {v:PV} {u:Value} (h:LR w im ρ v u):LR w im ρ (Qlx v) u:=by
 cases v with
 |nilS=>rw [h.nilS_inv];exact .ext _ _ (.slcNil 0 (Nat.zero_le _))
 |_=>exact h
theorem RepL.up {w:World} {im:Im}: ∀{vs:List PV} {us:List Value},RepL w im vs us→RepL w im (vs.map Qlx) us
 |_,_,.nil=> .nil
 |_,_,.cons _ _ _ _ h t=> .cons _ _ _ _ h.up t.up
theorem LRL.up {w:World} {im:Im} {ρ:Rho}: ∀{vs:List PV} {us:List Value},LRL w im ρ vs us→LRL w im ρ (vs.map Qlx) us
 |_,_,.nil=> .nil
 |_,_,.cons _ _ _ _ h t=> .cons _ _ _ _ h.up t.up
theorem Qdw.up {own:Nat→Prop} {w:World} {im:Im} {ρ:Rho} {B:Box} {x:Option Nat} (h:Qdw own w im ρ B x):Qdw own w im ρ {B with els:=B.els.map Q1i} x:=by
 cases x with
 |none=>obtain⟨h1,h2,h3,h4⟩:=h;exact⟨by simp [h1],h2,h3,h4⟩
 |some g=>
  obtain⟨h1,h2,h3,h4,⟨hmn,cur,us,rest,h5,h6,h7,h8,h9,h10,h11⟩|hm⟩:=h
  case inr=>
   refine⟨h1,by simpa using h2,h3,?_,.inr ⟨by simp [hm.1],hm.2⟩⟩;simp [hm.1]
  refine⟨h1,by simpa using h2,h3,?_,.inl ⟨hmn,cur,us,rest,h5,h6,?_,?_,h9,h10,h11⟩⟩
  ·intro e he;obtain⟨v,hv,rfl⟩:=List.mem_map.1 he;rw [Qnl,List.length_map];exact h4 v hv
  ·simp only [Qqa];exact h7.up
  ·intro ha;simp only [Qqa];exact(h8 ha).up
theorem Zvr {st:St} {b:Nat} {B:Box} (hB:st.box b=some B):Le st (st.setBox b {B with els:=B.els.map Q1i}):=by
 rintro C a w ⟨ρ,im,h⟩;refine⟨ρ,im,h.root,h.nt,h.dfr,h.imc,h.var,?_,?_,?_⟩
 ·intro b';by_cases e:b'=b
  ·subst e;simp [St.setBox,Qax,h.rho b',hB]
  ·simp [St.setBox,Qau _ _ _ _ e,h.rho b']
 ·intro b' x B' hx hB';by_cases e:b'=b
  ·subst e;simp only [St.setBox,Qax,Option.some.injEq]at hB';subst hB';exact(h.box b' x B hx hB).up
  ·simp only [St.setBox,Qau _ _ _ _ e]at hB';exact h.box b' x B' hx hB'
 ·have key: ∀b' B',(st.setBox b {B with els:=B.els.map Q1i}).box b'=some B'→ ∃B0,st.box b'=some B0∧B0.live=B'.live:=fun b' B' e=>by
   by_cases y:b'=b
   ·subst y;simp only [St.setBox,Qax,Option.some.injEq]at e;subst e;exact⟨B,hB,rfl⟩
   ·exact⟨B',by simpa only [St.setBox,Qau _ _ _ _ y]using e,rfl⟩
  intro b1 b2 g B1 B2 g1 g2 e1 e2 l1 l2;obtain⟨C1,x1,y1⟩:=key _ _ e1;obtain⟨C2,x2,y2⟩:=key _ _ e2;exact h.inj b1 b2 g C1 C2 g1 g2 x1 x2 (y1.trans l1) (y2.trans l2)
theorem Qqb {vs:List (Nat×PV)} {bs:List (Nat×Box)} {o:List (List PV)} {y:Yl} (b:Nat) {B:Box} (hB:lkp bs b=some B):
  Le (St.ofG vs bs o y) (St.ofG vs ((b,{B with els:=B.els.map Q1i})::bs) o y):=Zvr (st:=St.ofG vs bs o y) hB
end Go.Vl

namespace Go.Proofs.YtlghoaggenhheaaGreat
open Go.Vl Go.RowKit Go.Dg
theorem rI_z:rI 0= .agg [.bool false,.slc []]:=by simp [rI,di,Qa3]
theorem Qby {xs:List Int} {i:Nat} (h:i<xs.length):xs.getD i 0=xs[i]:=by rw [List.getD_eq_getElem?_getD,List.getElem?_eq_getElem h];rfl
theorem Znr {xs:List Int} {i:Nat} (h: ¬i<xs.length):xs.getD i 0=0:=by rw [List.getD_eq_getElem?_getD,List.getElem?_eq_none (by omega)];rfl
end Go.Proofs.YtlghoaggenhheaaGreat

namespace Go.Dg
def Qas:List Int→List Int
 | []=>[]
 |c::r=>match Qas r with
  | []=>if c=0 then []else [c]
  |d::t=>c::d::t
theorem Qb9 (c:Int) (r:List Int):Qas (c::r)=if Qas r=[]then(if c=0 then []else [c])else c::Qas r:=by
 rw [Qas];cases h:Qas r<;>simp
theorem Qgp: ∀l:List Int,Qas (l++[0])=Qas l
 | []=>rfl
 |c::r=>by rw [List.cons_append,Qb9,Qgp r,Qb9]
theorem Qih: ∀(l:List Int) (c:Int),c≠0→Qas (l++[c])=l++[c]
 | [],c,h=>by simp [Qas,h]
 |a::r,c,h=>by rw [List.cons_append,Qb9,Qih r c h,if_neg (by simp)]
theorem Qbh: ∀l:List Int,(Qas l).length≤l.length
 | []=>Nat.le_refl _
 |c::r=>by
  have:=Qbh r;rw [Qb9];split
  ·split<;>simp
  ·simp only [List.length_cons];omega
theorem Qjx {l:List Int} {x:Int} (h:x∈Qas l):x∈l:=by
 induction l with
 |nil=>exact h
 |cons c r ih=>
  rw [Qb9]at h;split at h
  ·split at h
   ·cases h
   ·simp at h;simp [h]
  ·rcases List.mem_cons.1 h with rfl|h
   ·simp
   ·exact List.mem_cons_of_mem _ (ih h)
theorem Qgc: ∀l:List Int,Qas (Qas l)=Qas l
 | []=>rfl
 |c::r=>by
  have ih:=Qgc r;rw [Qb9];split
  ·split
   ·rfl
   ·rename_i h;simp [Qas,h]
  ·rename_i h;rw [Qb9,ih,if_neg h]
def ev:List Int→Int→Int
 | [],_=>0
 |c::r,u=>c+u*ev r u
theorem Q5d: ∀(p:List Int) (u:Int),ev p u=hev p u 1
 | [],_=>rfl
 |c::r,u=>by rw [ev,hev,Q5d r u,Int.one_pow,Int.mul_one]
theorem Qe2: ∀(p:List Int) (u:Int),ev (Qas p) u=ev p u
 | [],_=>rfl
 |c::r,u=>by
  have ih:=Qe2 r u;rw [Qb9];split
  ·rename_i h;rw [h]at ih;have h0:ev r u=0:=ih.symm;split
   ·rename_i hc;rw [ev,ev,h0,hc];simp
   ·rw [ev,ev,ev,h0]
  ·rw [ev,ev,ih]
theorem Qr8: ∀(p:List Int),(∀u:Int,1≤u→ev p u=0)→Qas p=[]
 | [],_=>rfl
 |c::r,h=>by
  have hc:c=0:=by
   have h1:=h (c.natAbs+1) (by omega);rw [ev]at h1;generalize ev r _=A at h1;have h2:c=((c.natAbs:Int)+1)*(-A):=by rw [Int.mul_neg];omega
   have h3:((c.natAbs:Int)+1)∣c:=⟨_,h2⟩;have h4:=Int.natAbs_dvd_natAbs.2 h3;rcases Nat.eq_zero_or_pos c.natAbs with h0|h0
   ·omega
   ·have:=Nat.le_of_dvd h0 h4;omega
  subst hc;rw [Qb9,Qr8 r ?_]
  ·rfl
  ·intro u hu;have:=h u hu;rw [ev,Int.zero_add]at this;rcases Int.mul_eq_zero.1 this with h|h
   ·omega
   ·exact h
theorem Qw0: ∀(p q:List Int),(∀u:Int,1≤u→ev p u=ev q u)→Qas p=Qas q
 | [],q,h=>(Qr8 q fun u hu=>(h u hu).symm).symm
 |p,[],h=>Qr8 p h
 |a::p,b::q,h=>by
  have hab:a=b:=by
   have h1:=h ((a-b).natAbs+1) (by omega);rw [ev,ev]at h1;generalize ev p _=A at h1;generalize ev q _=B at h1;have h2:a-b=(((a-b).natAbs:Int)+1)*(B-A):=by rw [Int.mul_sub];omega
   have h3:(((a-b).natAbs:Int)+1)∣(a-b):=⟨_,h2⟩;have h4:=Int.natAbs_dvd_natAbs.2 h3;rcases Nat.eq_zero_or_pos (a-b).natAbs with h0|h0
   ·omega
   ·have:=Nat.le_of_dvd h0 h4;omega
  subst hab;have ih:=Qw0 p q fun u hu=>by
   have h1:=h u hu;rw [ev,ev]at h1;exact Int.eq_of_mul_eq_mul_left (a:=u) (by omega) (by omega)
  rw [Qb9,Qb9,ih]
theorem Q5e (p:List Int) (u:Int) {N:Nat} (h:p.length≤N):ev p u=sm (fun i=>p.getD i 0*u^i) N:=by
 rw [Q5d,Qi4,Q44 _ h (fun i h1 _=>by rw [List.getD_eq_getElem?_getD,List.getElem?_eq_none h1];simp)];exact Qbg _ fun i _=>by rw [Int.one_pow,Int.mul_one]
theorem Qn1 (F:Nat→Int) (N i:Nat):((List.range N).map F).getD i 0=if i<N then F i else 0:=by
 rw [List.getD_eq_getElem?_getD,List.getElem?_map];by_cases h:i<N
 ·simp [h]
 ·rw [List.getElem?_eq_none (by simpa using h),if_neg h];rfl
theorem Q5f (F:Nat→Int) (N:Nat) (u:Int):ev ((List.range N).map F) u=sm (fun i=>F i*u^i) N:=by
 rw [Q5e _ u (N:=N) (by simp)];exact Qbg _ fun i hi=>by rw [Qn1,if_pos hi]
def zipA (p q:List Int):List Int:=(List.range (max p.length q.length)).map fun i=>p.getD i 0+q.getD i 0
def pAdd (p q:List Int):List Int:=Qas (zipA p q)
def Qc8 (p:List Int) (c:Int):List Int:=Qas (p.map (· *c))
def conv (p q:List Int):List Int:=(List.range (p.length+q.length-1)).map fun i=>sm (fun k=>p.getD k 0*q.getD (i-k) 0) (i+1)
def pMul (p q:List Int):List Int:=Qas (conv p q)
def pPow (p:List Int):Nat→List Int
 |0=>Qas [1]
 |n+1=>pMul (pPow p n) p
theorem Q5g (p q:List Int) (u:Int):ev (pAdd p q) u=ev p u+ev q u:=by
 rw [pAdd,Qe2,zipA,Q5f,Q5e p u (N:=max p.length q.length) (Nat.le_max_left _ _),Q5e q u (N:=max p.length q.length) (Nat.le_max_right _ _),←Qud];exact Qbg _ fun i _=>Int.add_mul _ _ _
theorem Qn2 (p:List Int) (c u:Int):ev (Qc8 p c) u=ev p u*c:=by
 rw [Qc8,Qe2]
 induction p with
 |nil=>simp [ev]
 |cons a r ih=>rw [List.map_cons,ev,ev,ih,Int.add_mul,Int.mul_assoc]
theorem Q5h (p q:List Int) (u:Int):ev (pMul p q) u=ev p u*ev q u:=by
 rw [pMul,Qe2,conv,Q5f];have h1:sm (fun i=>sm (fun k=>p.getD k 0*q.getD (i-k) 0) (i+1)*u^i) (p.length+q.length-1)
   =sm (fun i=>sm (fun k=>p.getD k 0*q.getD (i-k) 0*u^i) (i+1)) (p.length+q.length-1):=Qbg _ fun i _=>(Qk6 _ _ _).symm
 rw [h1,Q45 (fun k i=>p.getD k 0*q.getD (i-k) 0*u^i)];rcases Nat.eq_zero_or_pos q.length with hq|hq
 ·have e:q=[]:=List.length_eq_zero_iff.1 hq;subst e;rw [Qnz _ fun i _=>Qnz _ fun k _=>by simp];simp [ev]
 ·have hN:p.length≤p.length+q.length-1:=by omega
  rw [Q5e p u hN,←Qk6];refine Qbg _ fun i hi=> ?_;by_cases hip:i<p.length
  ·rw [Q5e q u (N:=p.length+q.length-1-i) (by omega),←Qdd];refine Qbg _ fun k _=> ?_;rw [show i+k-i=k by omega,Int.pow_add];simp only [Int.mul_comm,Int.mul_left_comm,Int.mul_assoc]
  ·have e:p.getD i 0=0:=by rw [List.getD_eq_getElem?_getD,List.getElem?_eq_none (by omega)];rfl
   rw [Qnz _ fun k _=>by rw [e,Int.zero_mul,Int.zero_mul],e,Int.zero_mul,Int.zero_mul]
theorem Zsd (u:Int):ev (Qas [1]) u=1:=by rw [Qe2];simp [ev]
theorem Q5i (p:List Int) (u:Int): ∀n,ev (pPow p n) u=ev p u^n
 |0=>by rw [pPow,Zsd,Int.pow_zero]
 |n+1=>by rw [pPow,Q5h,Q5i p u n,Int.pow_succ]
theorem Qn3 (p q:List Int):(zipA p q).length=max p.length q.length:=by simp [zipA]
theorem Qn4 (p q:List Int):(conv p q).length=p.length+q.length-1:=by simp [conv]
theorem Qw1 (p q:List Int):(pAdd p q).length≤max p.length q.length:=by rw [←Qn3];exact Qbh _
theorem Qgq (p:List Int) (c:Int):(Qc8 p c).length≤p.length:=by rw [Qc8];exact Nat.le_trans (Qbh _) (by simp)
theorem Qw2 (p q:List Int):(pMul p q).length≤p.length+q.length-1:=by rw [←Qn4];exact Qbh _
theorem Qgr {p:List Int} {m:Nat} (h:p.length≤m+1): ∀n,(pPow p n).length≤m*n+1
 |0=>by simp [pPow,Qas]
 |n+1=>by
  have h1:=Qw2 (pPow p n) p;have h2:=Qgr h n;rw [pPow,Nat.mul_succ];omega
def bd (B:Nat) (p:List Int):Prop:= ∀x∈p,x.natAbs<2^B
theorem Qgs {B C:Nat} {p:List Int} (h:bd B p) (hc:B≤C):bd C p:=fun x hx=>Nat.lt_of_lt_of_le (h x hx) (Nat.pow_le_pow_right (by decide) hc)
theorem Qe3 {B:Nat} {p:List Int} (h:bd B p):bd B (Qas p):=fun x hx=>h x (Qjx hx)
theorem Qde {B:Nat} {p:List Int} (h:bd B p) (i:Nat):(p.getD i 0).natAbs<2^B:=Zc0 h i
theorem Zmb {B:Nat} {p q:List Int} (hp:bd B p) (hq:bd B q):bd (B+1) (pAdd p q):=by
 refine Qe3 fun x hx=> ?_;obtain⟨i,_,rfl⟩:=List.mem_map.1 hx;have h1:=Qde hp i;have h2:=Qde hq i;rw [Nat.pow_succ];generalize 2^B=K at*;omega
theorem Qn5 {B C:Nat} {p:List Int} {c:Int} (hp:bd B p) (hc:c.natAbs<2^C):bd (B+C) (Qc8 p c):=by
 refine Qe3 fun x hx=> ?_;obtain⟨y,hy,rfl⟩:=List.mem_map.1 hx;rw [Int.natAbs_mul,Nat.pow_add];exact Nat.mul_lt_mul'' (hp y hy) hc
theorem Qw3 {f:Nat→Int} {B m:Nat} (hm:m≤64) (h: ∀i,i<m→(f i).natAbs<2^B):(sm f m).natAbs<2^(B+7):=by
 have h1:=Zkz m (fun i hi=>Nat.le_of_lt (h i hi));have h2:m*2^B≤64*2^B:=Nat.mul_le_mul_right _ hm;have hp:0<2^B:=Nat.pow_pos (by decide);rw [Nat.pow_add,show(2:Nat)^7=128 from rfl];omega
theorem Q5j {B C:Nat} {p q:List Int} (hp:bd B p) (hq:bd C q) (hl:p.length+q.length≤64) (i m:Nat) (hm:m≤i+1) (hi:i<p.length+q.length-1):
  (sm (fun k=>p.getD k 0*q.getD (i-k) 0) m).natAbs<2^(B+C+7):=
 Qw3 (by omega) fun k _=>by
  rw [Int.natAbs_mul,Nat.pow_add];exact Nat.mul_lt_mul'' (Qde hp k) (Qde hq (i-k))
theorem Zmc {B C:Nat} {p q:List Int} (hp:bd B p) (hq:bd C q) (hl:p.length+q.length≤64):bd (B+C+7) (pMul p q):=by
 refine Qe3 fun x hx=> ?_;obtain⟨i,hi,rfl⟩:=List.mem_map.1 hx;exact Q5j hp hq hl i (i+1) (Nat.le_refl _) (List.mem_range.1 hi)
theorem Qw4 {B m:Nat} {p:List Int} (hp:bd B p) (hl:p.length≤m+1): ∀n,m*n+m≤62→bd ((B+7)*n+1) (pPow p n)
 |0,_=>by intro x hx;simp [pPow,Qas]at hx;subst hx;simp
 |n+1,h=>by
  have ih:=Qw4 hp hl n (by rw [Nat.mul_succ]at h;omega);have h1:=Qgr hl n;have:=Zmc ih hp (by rw [Nat.mul_succ]at h;omega);refine Qgs this ?_;rw [Nat.mul_succ];omega
def Zse (f:List Int) (n:Nat):List Int:=Zsc 2 n (trans f 1 n)
def Zsf (f:List Int) (n:Nat):List Int:=(Zse f.reverse n).reverse
end Go.Dg

namespace Go.Proofs.YtlghoaggenhheaaGreat
open Go.Vl Go.RowKit Go.Dg
theorem Qe6 {n:Nat} (h:0<n) (hn:n<9223372036854775808):IntKind.i64.wrap ((n:Int)-1)=((n-1:Nat):Int):=by rw [Qai (by omega) (by omega)];omega
theorem Qio (xs:List Int) (hl:xs.length≤1000000):Qae Tryz.prog 86 [rL xs] (rL (Qas xs)):=by
 refine Qab (tb:=[]) 22 [.tmp 2] [0,2,15] mixed Tryz.func86 rfl (by kernel_rfl) ?_;simp -implicitDefEqProofs only [go_sem,seval,rL];refine Qaq mixed (fun m:{m:Nat // m≤xs.length∧Qas (xs.take m)=Qas xs}=>St.of [(0,rL (xs.take m.1))] []) (fun m=>m.1) ⟨xs.length,Nat.le_refl _,by rw [List.take_length]⟩ ?_ ?_
 ·exact Qaz (by simp [Qac,lkp,ren1,ren0,rL])
 ·rintro⟨m,hm,ht⟩;have hlen:(xs.take m).length=m:=by rw [List.length_take];omega
  simp only;cases m with
  |zero=>
   have g1:((0:Int)<((0:Nat):Int))=False:=by simp
   have e:Qas xs=[]:=by rw [←ht];rfl
   repeat simp -implicitDefEqProofs only [go_sem,seval,rL,g1,e,List.take_zero,List.map_nil,List.length_nil]
  |succ m=>
   have g1:((0:Int)<((m+1:Nat):Int))=True:=by simp only [eq_iff_iff,iff_true];omega
   have hlt:m<(xs.take (m+1)).length:=by omega
   have w1:IntKind.i64.wrap (((m+1:Nat):Int)-1)=(m:Int):=by rw [Qai (by omega) (by omega)];omega
   have h0:=nnT m;have hg:=Ql3 (xs.take (m+1)) m hlt;have hgm:(xs.take (m+1))[m]=xs[m]'(by omega):=List.getElem_take;have htk:xs.take (m+1)=xs.take m++[xs[m]'(by omega)]:=Qbe xs m (by omega);have hrs:=Qsj ((xs.take (m+1))[m]);by_cases hz:xs[m]'(by omega)=0
   ·have g2:(((xs.take (m+1))[m]).sign==0)=true:=by rw [hgm,hz];rfl
    have e1:((xs.take (m+1)).map rI).take m=(xs.take m).map rI:=by rw [←List.map_take,List.take_take,Nat.min_eq_left (by omega)]
    have g3:((m:Int)≤((m+1:Nat):Int))=True:=by simp only [eq_iff_iff,iff_true];omega
    have hcl:(((xs.take (m+1)).map rI).all fun x=>x.cells.length==2)=true:=by rw [List.all_map,List.all_eq_true];intro _ _;rfl
    repeat (first|simp -implicitDefEqProofs only [go_sem,seval,rL,di,List.length_map,hlen,g1,g2,g3,w1,h0,hg,Int.toNat_natCast,hcl,e1]|(with_reducible refine Qaa hrs ?_ ?_ ?_);rfl;rfl)
    refine⟨⟨m,by omega,?_⟩,by simp only;omega,Qaz (by simp [Qac,lkp,ren1,ren0,rL])⟩;rw [←ht,htk,hz,Qgp]
   ·have g2:(((xs.take (m+1))[m]).sign==0)=false:=by rw [hgm];simp only [beq_eq_false_iff_ne,ne_eq,Int.sign_eq_zero_iff_zero];exact hz
    have e:Qas xs=xs.take (m+1):=by rw [←ht,htk,Qih _ _ hz]
    repeat (first|simp -implicitDefEqProofs only [go_sem,seval,rL,di,List.length_map,hlen,g1,g2,w1,h0,hg,Int.toNat_natCast]|(with_reducible refine Qaa hrs ?_ ?_ ?_);rfl;rfl)
    rw [e]
def Qan (l:List Int):PV:= .slc (l.map (PV.int .i64))
theorem Qbz (l:List Int) (i:Nat) (h:i<l.length):(l.map (PV.int .i64))[i]? =some (.int .i64 l[i]):=by rw [List.getElem?_map,List.getElem?_eq_getElem h];rfl
theorem map_take {α β:Type} (f:α→β) (l:List α) (i:Nat) (hi:i<l.length):(l.take (i+1)).map f=(l.take i).map f++[f l[i]]:=by rw [Qbe l i hi,List.map_append];rfl
theorem Znt (l:List Int) (hl:l.length≤1000) (hb: ∀x∈l, -9223372036854775808≤x∧x≤9223372036854775807):Qae Tryz.prog 81 [Qan l] (rL (Qas l)):=by
 refine Qab (tb:=[]) 21 [.tmp 2] [0,2,3,4,8] mixed Tryz.func81 rfl (by kernel_rfl) ?_;simp -implicitDefEqProofs only [go_sem,seval,Qan];refine Qaq mixed (fun i:{i:Nat // i≤l.length}=>St.of [(0,Qan l),(3,.bs 7 2 0 i.1),(4,.int .i64 (i.1:Int))]
  [(7,{els:=(l.take i.1).map rI,esz:=2,ety:=59,fro:=0,live:=true,arr:=true})]) (fun i=>l.length-i.1) ⟨0,Nat.zero_le _⟩ ?_ ?_
 ·refine Qci 3 7 2 59 rfl rfl rfl (by decide) [(7,7)] rfl ?_ ?_
  ·simp [Qac,lkp,ren1,ren0,Qan]
  ·simp [Qal,lkp,Box.renames]
 ·rintro⟨i,hi⟩;have hlen:((l.take i).map rI).length=i:=by simp;omega
  by_cases hA:i<l.length
  ·have hA':=ltT hA;have h0:=nnT i;have hg:=Qbz l i hA;have hwk:=Qah (a:=i) (by omega);have q1:(i==i)=true:=beq_self_eq_true i;have q2:((i+1)*32≤140737488355328)=True:=by simp only [eq_iff_iff,iff_true];omega
   have q3:(i+1≤maxLen)=True:=by simp only [eq_iff_iff,iff_true];unfold maxLen;omega
   obtain⟨b1,b2⟩:=hb _ (List.getElem_mem hA);have hf:=Qdg l[i] b1 b2;have htk:=map_take rI l i hA;repeat (first|simp -implicitDefEqProofs only [go_sem,seval,Qan,rI,di,hA',h0,hg,Int.toNat_natCast,List.length_map,hlen,q1,q2,q3,Qom,hwk]|(with_reducible refine Qaa hf ?_ ?_ ?_);rfl;rfl)
   refine⟨⟨i+1,hA⟩,by simp only;omega,Qaj (θ:=[(7,507)]) rfl ?_ ?_⟩
   ·simp [Qac,lkp,ren1,ren0,Qan]
   ·simp only [htk];simp [Qal,lkp,Box.renames,rI,di]
  ·have hA':=ltF hA;have e1:((l.take i).map rI).take i=l.map rI:=by rw [List.take_of_length_le (by omega),List.take_of_length_le (show l.length≤i by omega)]
   have ht:=Qio l (by omega);unfold rL at ht ⊢;repeat (first|simp -implicitDefEqProofs only [go_sem,seval,Qan,hA',hlen,e1,List.length_map]|(with_reducible refine Qaa ht ?_ ?_ ?_);rfl;rfl)
theorem Zd9 (xs:List Int) (i:Nat) (hi:i≤1000000):Qae Tryz.prog 121 [rL xs,.int .i64 (i:Int)] (rI (xs.getD i 0)):=by
 have g1:((i:Int)<0)=False:=by simp only [eq_iff_iff,iff_false];omega
 by_cases h:i<xs.length
 ·have g2:((xs.length:Int)≤(i:Int))=False:=by simp only [eq_iff_iff,iff_false];omega
  have h0:=nnT i;have hg:=Ql3 xs i h;rw [Qby h];refine Qab (tb:=[]) 18 [.cell 4 59] [0,1,4,12] mixed Tryz.func121 rfl (by kernel_rfl) ?_;repeat simp -implicitDefEqProofs only [go_sem,seval,rL,rI,di,g1,g2,h0,hg,List.length_map,Int.toNat_natCast]
 ·have g2:((xs.length:Int)≤(i:Int))=True:=by simp only [eq_iff_iff,iff_true];omega
  rw [Znr h,rI_z];refine Qab (tb:=[]) 18 [.cell 4 59] [0,1,4,12] mixed Tryz.func121 rfl (by kernel_rfl) ?_;repeat simp -implicitDefEqProofs only [go_sem,seval,rL,g1,g2,List.length_map]
theorem Znu (p q:List Int) (B:Nat) (hB:B≤6000000) (hp:bd B p) (hq:bd B q) (hl:p.length≤1000) (hl2:q.length≤1000):Qae Tryz.prog 82 [rL p,rL q] (rL (pAdd p q)):=by
 have hz:=Qn3 p q;refine Qab (tb:=[]) 31 [.tmp 4] [0,1,4,5,6,16] mixed Tryz.func82 rfl (by kernel_rfl) ?_;simp -implicitDefEqProofs only [go_sem,seval];refine Qaq mixed (fun i:{i:Nat // i≤max p.length q.length}=>St.of [(0,rL p),(1,rL q),(5,.bs 7 2 0 i.1),(6,.int .i64 (i.1:Int))]
  [(7,{els:=((zipA p q).take i.1).map rI,esz:=2,ety:=59,fro:=0,live:=true,arr:=true})]) (fun i=>max p.length q.length-i.1) ⟨0,Nat.zero_le _⟩ ?_ ?_
 ·refine Qci 5 7 2 59 rfl rfl rfl (by decide) [(7,7)] rfl ?_ ?_
  ·simp [Qac,lkp,ren1,ren0,rL]
  ·simp [Qal,lkp,Box.renames]
 ·rintro⟨i,hi⟩;have hlen:(((zipA p q).take i).map rI).length=i:=by rw [List.length_map,List.length_take];omega
  by_cases hA:i<max p.length q.length
  ·have hAz:i<(zipA p q).length:=by omega
   have hwk:=Qah (a:=i) (by omega);have q1:(i==i)=true:=beq_self_eq_true i;have q2:((i+1)*32≤140737488355328)=True:=by simp only [eq_iff_iff,iff_true];omega
   have q3:(i+1≤maxLen)=True:=by simp only [eq_iff_iff,iff_true];unfold maxLen;omega
   have a1:=Zd9 p i (by omega);have a2:=Zd9 q i (by omega);have ad:=Qq5 (Qbk (Qde hp i) (by omega)) (Qbk (Qde hq i) (by omega));have htk:=map_take rI (zipA p q) i hAz;have hgz:(zipA p q)[i]=p.getD i 0+q.getD i 0:=by simp [zipA]
   rw [hgz]at htk;unfold rL at*;by_cases c1:i<p.length
   ·have c1':=ltT c1;generalize p.getD i 0+q.getD i 0=S at*;generalize p.getD i 0=x at*;generalize q.getD i 0=y at*;repeat (first|simp -implicitDefEqProofs only [go_sem,seval,rI,di,c1',List.length_map,hlen,q1,q2,q3,Qom,hwk]|(with_reducible refine Qaa a1 ?_ ?_ ?_);rfl;rfl|(with_reducible refine Qaa a2 ?_ ?_ ?_);rfl;rfl|(with_reducible refine Qaa ad ?_ ?_ ?_);rfl;rfl)
    refine⟨⟨i+1,hA⟩,by simp only;omega,Qaj (θ:=[(7,509)]) rfl ?_ ?_⟩
    ·simp [Qac,lkp,ren1,ren0]
    ·simp only [htk];simp [Qal,lkp,Box.renames,rI,di]
   ·have c1':=ltF c1;have c2':=ltT (show i<q.length by omega);generalize p.getD i 0+q.getD i 0=S at*;generalize p.getD i 0=x at*;generalize q.getD i 0=y at*;repeat (first|simp -implicitDefEqProofs only [go_sem,seval,rI,di,c1',c2',List.length_map,hlen,q1,q2,q3,Qom,hwk]|(with_reducible refine Qaa a1 ?_ ?_ ?_);rfl;rfl|(with_reducible refine Qaa a2 ?_ ?_ ?_);rfl;rfl|(with_reducible refine Qaa ad ?_ ?_ ?_);rfl;rfl)
    refine⟨⟨i+1,hA⟩,by simp only;omega,Qaj (θ:=[(7,509)]) rfl ?_ ?_⟩
    ·simp [Qac,lkp,ren1,ren0]
    ·simp only [htk];simp [Qal,lkp,Box.renames,rI,di]
  ·have c1':=ltF (show¬i<p.length by omega);have c2':=ltF (show¬i<q.length by omega);have e1:(((zipA p q).take i).map rI).take i=(zipA p q).map rI:=by rw [List.take_of_length_le (by omega),List.take_of_length_le (show(zipA p q).length≤i by omega)]
   have ht:=Qio (zipA p q) (by omega);unfold rL pAdd at*;repeat (first|simp -implicitDefEqProofs only [go_sem,seval,c1',c2',hlen,e1,List.length_map]|(with_reducible refine Qaa ht ?_ ?_ ?_);rfl;rfl)
theorem Q66 (p:List Int) (c:Int) (B:Nat) (hB:B≤6000000) (hp:bd B p) (hc:c.natAbs<2^B) (hl:p.length≤1000):Qae Tryz.prog 83 [rL p,rI c] (rL (Qc8 p c)):=by
 refine Qab (tb:=[]) 24 [.tmp 4] [0,1,3,4,5,6,10] mixed Tryz.func83 rfl (by kernel_rfl) ?_;simp -implicitDefEqProofs only [go_sem,seval,rI,di];refine Qaq mixed (fun i:{i:Nat // i≤p.length}=>St.of [(0,rL p),(3,.bp 0 2 0 0),(5,.bs 7 2 0 i.1),(6,.int .i64 (i.1:Int))]
  [(0,{els:=[rI c],esz:=2,ety:=59,fro:=0,live:=true,arr:=false}),(7,{els:=((p.map (· *c)).take i.1).map rI,esz:=2,ety:=59,fro:=0,live:=true,arr:=true})]) (fun i=>p.length-i.1) ⟨0,Nat.zero_le _⟩ ?_ ?_
 ·refine Qci 5 7 2 59 rfl rfl rfl (by decide) [(0,0),(7,7)] rfl ?_ ?_
  ·simp [Qac,lkp,ren1,ren0,rL]
  ·exact⟨⟨rfl,rfl,rfl,rfl,rfl,.inr ⟨rfl,_,_,rfl,rfl,rfl,rfl⟩⟩,⟨rfl,rfl,rfl,rfl,rfl,.inl ⟨rfl,rfl⟩⟩,trivial⟩
 ·rintro⟨i,hi⟩;have hlen:(((p.map (· *c)).take i).map rI).length=i:=by rw [List.length_map,List.length_take,List.length_map];omega
  by_cases hA:i<p.length
  ·have hA':=ltT hA;have h0:=nnT i;have hg:=Ql3 p i hA;have hwk:=Qah (a:=i) (by omega);have q1:(i==i)=true:=beq_self_eq_true i;have q2:((i+1)*32≤140737488355328)=True:=by simp only [eq_iff_iff,iff_true];omega
   have q3:(i+1≤maxLen)=True:=by simp only [eq_iff_iff,iff_true];unfold maxLen;omega
   have hm:=Qfw (Qbk (hp _ (List.getElem_mem hA)) (by omega)) (Qbk hc (by omega));have htk:=map_take rI (p.map (· *c)) i (by rw [List.length_map];exact hA);rw [List.getElem_map]at htk;generalize p[i]*c=M at*;repeat (first|simp -implicitDefEqProofs only [go_sem,seval,rL,rI,di,hA',h0,hg,Int.toNat_natCast,List.length_map,hlen,q1,q2,q3,Qom,hwk]|(with_reducible refine Qaa hm ?_ ?_ ?_);rfl;rfl|(with_reducible refine And.intro (Qad _ _ (by kernel_rfl)) ?_))
   refine⟨⟨i+1,hA⟩,by simp only;omega,Qaj (θ:=[(0,0),(7,508)]) rfl ?_ ?_⟩
   ·simp [Qac,lkp,ren1,ren0,rL]
   ·exact⟨⟨rfl,rfl,rfl,rfl,rfl,.inr ⟨rfl,_,_,rfl,rfl,rfl,rfl⟩⟩,⟨rfl,rfl,rfl,rfl,rfl,.inl ⟨rfl,htk.symm⟩⟩,trivial⟩
  ·have hA':=ltF hA;have e1:(((p.map (· *c)).take i).map rI).take i=(p.map (· *c)).map rI:=by rw [List.take_of_length_le (by omega),List.take_of_length_le (by rw [List.length_map];omega)]
   have ht:=Qio (p.map (· *c)) (by rw [List.length_map];omega);unfold rL Qc8 at*;repeat (first|simp -implicitDefEqProofs only [go_sem,seval,hA',hlen,e1,List.length_map]|(with_reducible refine Qaa ht ?_ ?_ ?_);rfl;rfl)
end Go.Proofs.YtlghoaggenhheaaGreat

namespace Go.Dg
theorem Qzq {p q:List Int} (h:p=[]∨q=[]):pMul p q=[]:=by
 rw [pMul];refine Qr8 _ fun u _=> ?_;rw [←Qe2];show ev (pMul p q) u=0;rw [Q5h];rcases h with rfl|rfl<;>simp [ev]
def Qce (p:List Int) (a b d:Int):Nat→List Int
 |0=>[]
 |i+1=>pAdd (Qce p a b d i) (Qc8 (pPow (Qas [a,b]) i) (p.getD i 0*d^(p.length-1-i)))
theorem Qf3 (a b:Int):(Qas [a,b]).length≤1+1:=Qbh _
theorem Zms (a b u:Int):ev (Qas [a,b]) u=a+b*u:=by rw [Qe2];simp [ev,Int.mul_comm]
theorem Qzr (p:List Int) (a b d u:Int): ∀i,ev (Qce p a b d i) u=sm (fun k=>p.getD k 0*((a+b*u)^k*d^(p.length-1-k))) i
 |0=>rfl
 |i+1=>by
  rw [Qce,Q5g,Qzr p a b d u i,Qn2,Q5i,Zms,sm];congr 1;simp only [Int.mul_comm,Int.mul_left_comm,Int.mul_assoc]
theorem Q5w (p:List Int) (a b d u:Int):ev (Qce p a b d p.length) u=hev p (a+b*u) d:=by rw [Qzr,Qi4]
theorem Qfe (p:List Int) (a b d:Int): ∀i,Qas (Qce p a b d i)=Qce p a b d i
 |0=>rfl
 |i+1=>by rw [Qce,pAdd,Qgc]
theorem Qdj (p:List Int) (a b d:Int): ∀i,(Qce p a b d i).length≤i
 |0=>Nat.le_refl _
 |i+1=>by
  rw [Qce];have h1:=Qw1 (Qce p a b d i) (Qc8 (pPow (Qas [a,b]) i) (p.getD i 0*d^(p.length-1-i)));have h2:=Qdj p a b d i;have h3:=Qgq (pPow (Qas [a,b]) i) (p.getD i 0*d^(p.length-1-i));have h4:=Qgr (m:=1) (Qf3 a b) i;omega
theorem Q5x {B:Nat} {a b:Int} (ha:a.natAbs<2^B) (hb:b.natAbs<2^B):bd B (Qas [a,b]):=Qe3 fun x hx=>by
 rcases List.mem_cons.1 hx with rfl|hx
 ·exact ha
 ·rw [List.mem_singleton]at hx;subst hx;exact hb
theorem Qb3 {d:Int} {D:Nat} (h:d.natAbs<2^D) (k:Nat):(d^k).natAbs<2^(D*k+1):=by
 rw [Int.natAbs_pow];have h1:d.natAbs^k≤(2^D)^k:=Nat.pow_le_pow_left (Nat.le_of_lt h) k;rw [←Nat.pow_mul]at h1;rw [Nat.pow_succ];have:=Nat.pow_pos (n:=D*k) (show 0<2 by decide);omega
theorem Qse {B C D:Nat} {p:List Int} {a b d:Int} (hp:bd B p) (ha:a.natAbs<2^C) (hb:b.natAbs<2^C) (hd:d.natAbs<2^D) (hl:p.length≤30):
  ∀i,i≤p.length→bd ((C+7)*30+1+(B+(D*30+1))+i) (Qce p a b d i)
 |0,_=>fun x hx=>by cases hx
 |i+1,h=>by
  have ih:=Qse hp ha hb hd hl i (by omega);have h1:=Qw4 (m:=1) (Q5x ha hb) (Qf3 a b) i (by omega);have h2:(C+7)*i≤(C+7)*30:=Nat.mul_le_mul_left _ (by omega);have h3:=Qb3 hd (p.length-1-i);have h4:D*(p.length-1-i)≤D*30:=Nat.mul_le_mul_left _ (by omega);have h5:(p.getD i 0*d^(p.length-1-i)).natAbs<2^(B+(D*30+1)):=by
   rw [Int.natAbs_mul,Nat.pow_add];exact Nat.mul_lt_mul'' (Qde hp i) (Nat.lt_of_lt_of_le h3 (Nat.pow_le_pow_right (by decide) (by omega)))
  have h6:=Qn5 (Qgs h1 (show(C+7)*i+1≤(C+7)*30+1 by omega)) h5;exact Zmb ih (Qgs h6 (Nat.le_add_right _ i))
end Go.Dg

namespace Go.Proofs.YtlghoaggenhheaaGreat
open Go.Vl Go.RowKit Go.Dg
theorem Znv (p q:List Int) (B:Nat) (hB:B≤1000000) (hp:bd B p) (hq:bd B q) (hl:p.length+q.length≤64):Qae Tryz.prog 85 [rL p,rL q] (rL (pMul p q)):=by
 have hcl:=Qn4 p q;have w1:IntKind.i64.wrap ((p.length:Int)+(q.length:Int))=((p.length+q.length:Nat):Int):=by rw [Qai (by omega) (by omega)];omega
 have w2:IntKind.i64.wrap (((p.length+q.length:Nat):Int)-1)=((p.length+q.length:Nat):Int)-1:=Qai (by omega) (by omega);refine Qab (tb:=[]) 50 [.tmp 4] [0,1,4,5,6,7,8,16,22,47] mixed Tryz.func85 rfl (by kernel_rfl) ?_;simp -implicitDefEqProofs only [go_sem,seval];refine Qaq mixed (fun i:{i:Nat // i≤p.length+q.length-1}=>St.of [(0,rL p),(1,rL q),(5,.bs 7 2 0 i.1),(6,.int .i64 (i.1:Int))]
  [(7,{els:=((conv p q).take i.1).map rI,esz:=2,ety:=59,fro:=0,live:=true,arr:=true})]) (fun i=>p.length+q.length-1-i.1) ⟨0,Nat.zero_le _⟩ ?_ ?_
 ·refine Qci 5 7 2 59 rfl rfl rfl (by decide) [(7,7)] rfl ?_ ?_
  ·simp [Qac,lkp,ren1,ren0,rL]
  ·simp [Qal,lkp,Box.renames]
 ·rintro⟨i,hi⟩;have hlen:(((conv p q).take i).map rI).length=i:=by rw [List.length_map,List.length_take];omega
  by_cases hA:i<p.length+q.length-1
  ·have hA':((i:Int)<((p.length+q.length:Nat):Int)-1)=True:=by simp only [eq_iff_iff,iff_true];omega
   have hAz:i<(conv p q).length:=by omega
   have hwi:=Qah (a:=i) (by omega);repeat simp -implicitDefEqProofs only [go_sem,seval,rL,List.length_map,w1,w2,hA']
   refine Qaq mixed (fun k:{k:Nat // k≤i+1}=>St.of [(0,rL p),(1,rL q),(5,.bs 7 2 0 i),(6,.int .i64 (i:Int)),(7,.bp 501 2 0 0),(8,.int .i64 (k.1:Int))]
    [(7,{els:=((conv p q).take i).map rI,esz:=2,ety:=59,fro:=0,live:=true,arr:=true}),(501,{els:=[rI (sm (fun k=>p.getD k 0*q.getD (i-k) 0) k.1)],esz:=2,ety:=59,fro:=0,live:=true,arr:=false})]) (fun k=>i+1-k.1) ⟨0,Nat.zero_le _⟩ ?_ ?_
   ·refine Le.trans (Qqb 501 rfl) (Qaj (θ:=[(7,7),(501,501)]) rfl ?_ ?_)
    ·simp [Qac,lkp,ren1,ren0,rL]
    ·refine⟨⟨rfl,rfl,rfl,rfl,rfl,.inl ⟨rfl,rfl⟩⟩,⟨rfl,rfl,rfl,rfl,rfl,.inr ⟨rfl,_,_,rfl,rfl,?_,rfl⟩⟩,trivial⟩;simp only [sm,rI_z];rfl
   ·rintro⟨k,hk⟩;by_cases hK:k<i+1
    ·have hK':=leT (show k≤i by omega);have hwk:=Qah (a:=k) (by omega);have w3:=Qsz (a:=i) (b:=k) (by omega) (by omega);have a1:=Zd9 p k (by omega);have a2:=Zd9 q (i-k) (by omega);have hS:=Q5j hp hq hl i k (by omega) hA;have hT:(p.getD k 0*q.getD (i-k) 0).natAbs<2^(B+B):=by rw [Int.natAbs_mul,Nat.pow_add];exact Nat.mul_lt_mul'' (Qde hp k) (Qde hq (i-k))
     have mu:=Qfw (Qbk (Qde hp k) (by omega)) (Qbk (Qde hq (i-k)) (by omega));have ad:=Qq5 (Qbk hS (by omega)) (Qbk hT (by omega));have e1:sm (fun k=>p.getD k 0*q.getD (i-k) 0) k+p.getD k 0*q.getD (i-k) 0=sm (fun k=>p.getD k 0*q.getD (i-k) 0) (k+1):=rfl;rw [e1]at ad;generalize hS1:sm (fun k=>p.getD k 0*q.getD (i-k) 0) (k+1)=S1 at*;generalize sm (fun k=>p.getD k 0*q.getD (i-k) 0) k=S at*;generalize p.getD k 0*q.getD (i-k) 0=T at*;generalize p.getD k 0=x at*;generalize q.getD (i-k) 0=y at*;unfold rL at*;repeat (first|simp -implicitDefEqProofs only [go_sem,seval,rI,di,hK',hwk,w3]|(with_reducible refine Qaa a1 ?_ ?_ ?_);rfl;rfl|(with_reducible refine Qaa a2 ?_ ?_ ?_);rfl;rfl|(with_reducible refine Qaa mu ?_ ?_ ?_);rfl;rfl|(with_reducible refine Qaa ad ?_ ?_ ?_);rfl;rfl|(with_reducible refine And.intro (Qad _ _ (by kernel_rfl)) ?_))
     refine⟨⟨k+1,by omega⟩,by simp only;omega,Qaj (θ:=[(7,7),(501,501)]) rfl ?_ ?_⟩
     ·simp [Qac,lkp,ren1,ren0]
     ·simp only [hS1];exact⟨⟨rfl,rfl,rfl,rfl,rfl,.inl ⟨rfl,rfl⟩⟩,⟨rfl,rfl,rfl,rfl,rfl,.inr ⟨rfl,_,_,rfl,rfl,rfl,rfl⟩⟩,trivial⟩
    ·have hK':=leF (show¬k≤i by omega);obtain rfl:k=i+1:=by omega
     have q1:(i==i)=true:=beq_self_eq_true i;have q2:((i+1)*32≤140737488355328)=True:=by simp only [eq_iff_iff,iff_true];omega
     have q3:(i+1≤maxLen)=True:=by simp only [eq_iff_iff,iff_true];unfold maxLen;omega
     have htk:=map_take rI (conv p q) i hAz;have hgz:(conv p q)[i]=sm (fun k=>p.getD k 0*q.getD (i-k) 0) (i+1):=by simp [conv]
     rw [hgz]at htk;generalize sm (fun k=>p.getD k 0*q.getD (i-k) 0) (i+1)=S at*;repeat simp -implicitDefEqProofs only [go_sem,seval,rL,rI,di,hK',hlen,q1,q2,q3,Qom,hwi]
     refine⟨⟨i+1,by omega⟩,by simp only;omega,Qaj (θ:=[(7,1003)]) rfl ?_ ?_⟩
     ·simp [Qac,lkp,ren1,ren0,rL]
     ·exact⟨⟨rfl,rfl,rfl,rfl,rfl,.inl ⟨rfl,htk.symm⟩⟩,trivial⟩
  ·have hA':((i:Int)<((p.length+q.length:Nat):Int)-1)=False:=by simp only [eq_iff_iff,iff_false];omega
   have e1:(((conv p q).take i).map rI).take i=(conv p q).map rI:=by rw [List.take_of_length_le (by omega),List.take_of_length_le (show(conv p q).length≤i by omega)]
   have ht:=Qio (conv p q) (by omega);by_cases hz:p.length=0
   ·have hz':((p.length:Int)==0)=true:=by rw [hz];rfl
    have e2:=Qzq (q:=q) (.inl (List.length_eq_zero_iff.1 hz));rw [e2];repeat simp -implicitDefEqProofs only [go_sem,seval,rL,List.length_map,w1,w2,hA',hz',List.map_nil]
   ·have hz':((p.length:Int)==0)=false:=by simp only [beq_eq_false_iff_ne,ne_eq];omega
    by_cases hy:q.length=0
    ·have hy':((q.length:Int)==0)=true:=by rw [hy];rfl
     have e2:=Qzq (p:=p) (.inr (List.length_eq_zero_iff.1 hy));rw [e2];repeat simp -implicitDefEqProofs only [go_sem,seval,rL,List.length_map,w1,w2,hA',hz',hy',List.map_nil]
    ·have hy':((q.length:Int)==0)=false:=by simp only [beq_eq_false_iff_ne,ne_eq];omega
     unfold rL pMul at*;repeat (first|simp -implicitDefEqProofs only [go_sem,seval,List.length_map,w1,w2,hA',hz',hy',hlen,e1]|(with_reducible refine Qaa ht ?_ ?_ ?_);rfl;rfl)
theorem Znw (x:Int) (n B:Nat) (hn:n≤100) (hB:B≤10000) (hx:x.natAbs<2^B):Qae Tryz.prog 84 [rI x,.int .i64 (n:Int)] (rI (x^n)):=by
 have h1:=Qdg 1 (by decide) (by decide);refine Qab (tb:=[]) 17 [.cell 4 59] [0,1,2,4,5,6,10] mixed Tryz.func84 rfl (by kernel_rfl) ?_;repeat (first|simp -implicitDefEqProofs only [go_sem,seval,rI,di]|(with_reducible refine Qaa h1 ?_ ?_ ?_);rfl;rfl)
 refine Qaq mixed (fun i:{i:Nat // i≤n}=>St.of [(1,.int .i64 (n:Int)),(2,.bp 0 2 0 0),(4,.bp 1 2 0 0),(5,.bp 101 2 0 0),(6,.int .i64 (i.1:Int))]
  [(0,{els:=[rI x],esz:=2,ety:=59,fro:=0,live:=true,arr:=false}),(1,{els:=[.agg [.bool false,.nilS]],esz:=2,ety:=59,fro:=0,live:=true,arr:=false}),(101,{els:=[rI (x^i.1)],esz:=2,ety:=59,fro:=0,live:=true,arr:=false})]) (fun i=>n-i.1) ⟨0,Nat.zero_le _⟩ ?_ ?_
 ·refine Qaj (θ:=[(0,0),(1,1),(101,101)]) rfl ?_ ?_
  ·simp [Qac,lkp,ren1,ren0]
  ·refine⟨⟨rfl,rfl,rfl,rfl,rfl,.inr ⟨rfl,_,_,rfl,rfl,rfl,rfl⟩⟩,⟨rfl,rfl,rfl,rfl,rfl,.inr ⟨rfl,_,_,rfl,rfl,rfl,rfl⟩⟩,⟨rfl,rfl,rfl,rfl,rfl,.inr ⟨rfl,_,_,rfl,rfl,?_,rfl⟩⟩,trivial⟩;simp only [Int.pow_zero];rfl
 ·rintro⟨i,hi⟩;by_cases hA:i<n
  ·have hA':=ltT hA;have hwk:=Qah (a:=i) (by omega);have hb:B*i≤10000*100:=Nat.mul_le_mul hB (by omega);have hm:=Qfw (Qbk (Qb3 hx i) (by omega)) (Qbk hx (by omega));have e:x^i*x=x^(i+1):=(Int.pow_succ x i).symm;rw [e]at hm;generalize hX:x^(i+1)=Y at*;generalize x^i=Z at*;repeat (first|simp -implicitDefEqProofs only [go_sem,seval,rI,di,hA',hwk]|(with_reducible refine Qaa hm ?_ ?_ ?_);rfl;rfl)
   refine⟨⟨i+1,hA⟩,by simp only;omega,Qaj (θ:=[(0,0),(1,1),(101,101)]) rfl ?_ ?_⟩
   ·simp [Qac,lkp,ren1,ren0]
   ·simp only [hX];exact⟨⟨rfl,rfl,rfl,rfl,rfl,.inr ⟨rfl,_,_,rfl,rfl,rfl,rfl⟩⟩,⟨rfl,rfl,rfl,rfl,rfl,.inr ⟨rfl,_,_,rfl,rfl,rfl,rfl⟩⟩,⟨rfl,rfl,rfl,rfl,rfl,.inr ⟨rfl,_,_,rfl,rfl,rfl,rfl⟩⟩,trivial⟩
  ·have hA':=ltF hA;obtain rfl:i=n:=by omega
   generalize x^i=Z at*;repeat simp -implicitDefEqProofs only [go_sem,seval,rI,di,hA']
theorem Zth: ∀x∈([1]:List Int), -9223372036854775808≤x∧x≤9223372036854775807:=by simp
theorem Q15 (p:List Int) (a b d:Int) (B:Nat) (hB:B≤5000) (hp:bd B p) (ha:a.natAbs<2^B) (hb:b.natAbs<2^B) (hd:d.natAbs<2^B) (hl:p.length≤30):
  Qae Tryz.prog 47 [rL p,rI a,rI b,rI d] (rL (Qce p a b d p.length)):=by
 have h1:=Znt [1] (by decide) Zth;unfold Qan at h1;have hpl:=Qf3 a b;have hpb:=Q5x ha hb;have htr:=Qio [a,b] (by simp);have ht1:Qas [1]=pPow (Qas [a,b]) 0:=rfl;refine Qab (tb:=[]) 43 [.tmp 8] [0,1,2,3,5,6,7,8,9,10,11,17] mixed Tryz.func47 rfl (by kernel_rfl) ?_;repeat (first|simp -implicitDefEqProofs only [go_sem,seval,rL,rI,di,List.map_cons,List.map_nil]|(with_reducible refine Qaa h1 ?_ ?_ ?_);rfl;rfl)
 refine Qaq mixed (fun i:{i:Nat // i≤p.length}=>St.of [(0,rL p),(5,.bp 0 2 0 0),(6,.bp 1 2 0 0),(7,.bp 2 2 0 0),(9,rL (Qce p a b d i.1)),(10,rL (pPow (Qas [a,b]) i.1)),(11,.int .i64 (i.1:Int))]
  [(0,{els:=[rI a],esz:=2,ety:=59,fro:=0,live:=true,arr:=false}),(1,{els:=[rI b],esz:=2,ety:=59,fro:=0,live:=true,arr:=false}),(2,{els:=[rI d],esz:=2,ety:=59,fro:=0,live:=true,arr:=false})]) (fun i=>p.length-i.1) ⟨0,Nat.zero_le _⟩ ?_ ?_
 ·refine Le.trans (Qy9 9 rfl) (Qaj (θ:=[(0,0),(1,1),(2,2)]) rfl ?_ ?_)
  ·simp [Qac,lkp,ren1,ren0,rL,Qce,pPow]
  ·exact⟨⟨rfl,rfl,rfl,rfl,rfl,.inr ⟨rfl,_,_,rfl,rfl,rfl,rfl⟩⟩,⟨rfl,rfl,rfl,rfl,rfl,.inr ⟨rfl,_,_,rfl,rfl,rfl,rfl⟩⟩,⟨rfl,rfl,rfl,rfl,rfl,.inr ⟨rfl,_,_,rfl,rfl,rfl,rfl⟩⟩,trivial⟩
 ·rintro⟨i,hi⟩;by_cases hA:i<p.length
  ·have hA':=ltT hA;have h0:=nnT i;have hg:=Ql3 p i hA;have hwk:=Qah (a:=i) (by omega);have w1:=Qe6 (n:=p.length) (by omega) (by omega);have w2:=Qsz (a:=p.length-1) (b:=i) (by omega) (by omega);have hpw:=Znw d (p.length-1-i) B (by omega) (by omega) hd;have h2:(B+7)*i≤(B+7)*30:=Nat.mul_le_mul_left _ (by omega);have h4:B*(p.length-1-i)≤B*30:=Nat.mul_le_mul_left _ (by omega);have hD:=Qb3 hd (p.length-1-i);have hmu:=Qfw (Qbk (hp _ (List.getElem_mem hA)) (by omega)) (Qbk hD (by omega));have hM:(p[i]*d^(p.length-1-i)).natAbs<2^(B+(B*30+1)):=by
    rw [Int.natAbs_mul,Nat.pow_add];exact Nat.mul_lt_mul'' (hp _ (List.getElem_mem hA)) (Nat.lt_of_lt_of_le hD (Nat.pow_le_pow_right (by decide) (by omega)))
   have hT:=Qw4 (m:=1) hpb hpl i (by omega);have hTl:=Qgr (m:=1) hpl i;have hsc:=Q66 (pPow (Qas [a,b]) i) (p[i]*d^(p.length-1-i)) ((B+7)*30+1+(B+(B*30+1))) (by omega) (Qgs hT (by omega)) (Qd4 hM (by omega)) (by omega);have hSb:=Qse hp ha hb hd hl i (by omega);have hSl:=Qdj p a b d i;have hscb:=Qn5 hT hM;have hscl:=Qgq (pPow (Qas [a,b]) i) (p[i]*d^(p.length-1-i));have had:=Znu (Qce p a b d i) (Qc8 (pPow (Qas [a,b]) i) (p[i]*d^(p.length-1-i))) ((B+7)*30+1+(B+(B*30+1))+i) (by omega) hSb (Qgs hscb (by omega)) (by omega) (by omega);have e1:pAdd (Qce p a b d i) (Qc8 (pPow (Qas [a,b]) i) (p[i]*d^(p.length-1-i)))=Qce p a b d (i+1):=by rw [Qce,Qby hA]
   rw [e1]at had;have hml:=Znv (pPow (Qas [a,b]) i) (Qas [a,b]) ((B+7)*30+1) (by omega) (Qgs hT (by omega)) (Qgs hpb (by omega)) (by omega);have e2:pMul (pPow (Qas [a,b]) i) (Qas [a,b])=pPow (Qas [a,b]) (i+1):=rfl;rw [e2]at hml;generalize hY1:Qce p a b d (i+1)=S1 at*;generalize Qce p a b d i=S at*;generalize hT1:pPow (Qas [a,b]) (i+1)=T1 at*;generalize Qc8 (pPow (Qas [a,b]) i) (p[i]*d^(p.length-1-i))=Q at*;generalize pPow (Qas [a,b]) i=T at*;generalize p[i]*d^(p.length-1-i)=M at*;generalize d^(p.length-1-i)=D at*;generalize Qas [a,b]=ab at*;unfold rL at*;repeat (first|simp -implicitDefEqProofs only [go_sem,seval,rI,di,List.map_cons,List.map_nil,List.length_map,hA',h0,hg,hwk,w1,w2,Int.toNat_natCast]|(with_reducible refine Qaa hpw ?_ ?_ ?_);rfl;rfl|(with_reducible refine Qaa hmu ?_ ?_ ?_);rfl;rfl|(with_reducible refine Qaa hsc ?_ ?_ ?_);rfl;rfl|(with_reducible refine Qaa had ?_ ?_ ?_);rfl;rfl|(with_reducible refine Qaa htr ?_ ?_ ?_);rfl;rfl|(with_reducible refine Qaa hml ?_ ?_ ?_);rfl;rfl|(with_reducible refine And.intro (Qad _ _ (by kernel_rfl)) ?_))
   refine⟨⟨i+1,hA⟩,by simp only;omega,Qaj (θ:=[(0,0),(1,1),(2,2)]) rfl ?_ ?_⟩
   ·simp only [hY1,hT1];simp [Qac,lkp,ren1,ren0]
   ·exact⟨⟨rfl,rfl,rfl,rfl,rfl,.inr ⟨rfl,_,_,rfl,rfl,rfl,rfl⟩⟩,⟨rfl,rfl,rfl,rfl,rfl,.inr ⟨rfl,_,_,rfl,rfl,rfl,rfl⟩⟩,⟨rfl,rfl,rfl,rfl,rfl,.inr ⟨rfl,_,_,rfl,rfl,rfl,rfl⟩⟩,trivial⟩
  ·have hA':=ltF hA;obtain rfl:i=p.length:=by omega
   repeat simp -implicitDefEqProofs only [go_sem,seval,rL,List.length_map,hA']
end Go.Proofs.YtlghoaggenhheaaGreat

namespace Go.Dg

structure Sg where
  f:Int
  t:Int
  o:Int
  x:List Int
  y:List Int
  z:List Int

/-- The weight of a coefficient in a control value,times 60. -/
def cw (n j k:Nat):Nat:=60/bin n k*bin j k
def ctl (c:List Int) (j:Nat):Int:=sm (fun k=>c.getD k 0*(cw (c.length-1) j k:Int)) (j+1)
/-- The first j control values are within the bounds. -/
def Qdc (c:List Int) (o:Int) (j:Nat):Bool:=(List.range j).all fun j=>decide (((ctl c j).natAbs:Int)≤62914560*o)
def Qk7 (c:List Int):Bool:=decide (1≤c.length)&&(decide (c.length≤6)&&(decide (c.length≤1)|| !(c.getD (c.length-1) 0==0)))
def axOK (c:List Int) (o:Int):Bool:=Qk7 c&&Qdc c o c.length
def gcdL (g:Nat) (c:List Int):Nat:=c.foldl (fun g x=>Nat.gcd g x.natAbs) g
def Sg.ax (s:Sg):List (List Int):=[s.x,s.y,s.z]
def rngS (s:Sg):Bool:=decide (0≤s.f)&&(decide (s.f<s.t)&&(decide (s.t≤3600000)&&(decide (1≤s.o)&&decide (s.o≤4294967296))))
def Qa1 (s:Sg):Bool:=rngS s&&((s.ax.all fun c=>axOK c s.o)&&(s.ax.foldl gcdL s.o.natAbs==1))

theorem Qem (g:Nat) (c:List Int) (x:Int):gcdL g (c++[x])=Nat.gcd (gcdL g c) x.natAbs:=by simp [gcdL]
theorem Qes {g:Nat} (c:List Int) {K:Nat} (hg:g<K) (hc: ∀x∈c,x.natAbs<K):gcdL g c<K:=by
  induction c generalizing g with
  |nil=>exact hg
  |cons x c ih=>
    refine ih (g:=Nat.gcd g x.natAbs) ?_ fun y hy=>hc y (by simp [hy]);rcases Nat.eq_zero_or_pos g with h|h
    · subst h;rw [Nat.gcd_zero_left];exact hc x (by simp)
    · exact Nat.lt_of_le_of_lt (Nat.le_of_dvd h (Nat.gcd_dvd_left _ _)) hg
theorem Qgd (c:List Int) (o:Int) (j:Nat):Qdc c o (j+1)=(Qdc c o j&&decide (((ctl c j).natAbs:Int)≤62914560*o)):=by
  simp [Qdc,List.range_succ]
theorem Qr9 {c:List Int} {o:Int} {j m:Nat} (h:Qdc c o j=false) (hm:j≤m):Qdc c o m=false:=by
  induction m with
  |zero=>
        obtain rfl:j=0:=by omega
        exact h
  |succ m ih=>
    rw [Qgd];by_cases e:j=m+1
    · subst e;rw [Qgd]at h;exact h
    · rw [ih (by omega)];rfl
theorem Zmd (n j k:Nat) (hj:j≤5):cw n j k≤1920:=by
  unfold cw;have h1:60/bin n k≤60:=Nat.div_le_self _ _;have h2:=Qig j k;have h3:2^j≤2^5:=Nat.pow_le_pow_right (by decide) hj;have h4:=Nat.mul_le_mul h1 (Nat.le_trans h2 h3);omega
theorem Qii {c:List Int} {B n j:Nat} (hc:bd B c) (hj:j≤5) (m:Nat) (hm:m≤6):(sm (fun k=>c.getD k 0*(cw n j k:Int)) m).natAbs<2^(B+11+7):=by
  refine Qw3 (by omega) fun i hi=> ?_;rw [Int.natAbs_mul,Nat.pow_add];refine Nat.mul_lt_mul'' (Qde hc i) ?_;rw [Int.natAbs_natCast];have:=Zmd n j i hj;omega
/-- A coordinate at a/d,times the denominator to the power of 5. -/
def plcT (c:List Int) (a d:Int) (k:Nat):Int:=c.getD k 0*(a^k*d^(5-k))
def plc (c:List Int) (a d:Int):Int:=sm (plcT c a d) c.length
def plP (s:Sg) (a d:Int) (i:Nat):Int:=plc (s.ax.getD i []) a d
def plG (s:Sg) (a d:Int) (i:Nat):Nat:=gcdL (s.o*d^5).natAbs ((List.range i).map (plP s a d))
def at3 (P:Nat→Int) (i m:Nat):Int:=if m<i then P m else 0
theorem Qgt (s:Sg) (a d:Int) (i:Nat):plG s a d (i+1)=Nat.gcd (plG s a d i) (plP s a d i).natAbs:=by
  unfold plG;rw [List.range_succ,List.map_append];exact Qem _ _ _
theorem Qjh {c:List Int} {a d:Int} {B:Nat} (hc:bd B c) (ha:a.natAbs<2^B) (hd:d.natAbs<2^B) (k:Nat) (hk:k≤5):
    (a^k).natAbs<2^(B*5+1)∧(d^(5-k)).natAbs<2^(B*5+1)∧(a^k*d^(5-k)).natAbs<2^(B*5+1+(B*5+1))∧(plcT c a d k).natAbs<2^(B+(B*5+1+(B*5+1))):=by
  have h1:(a^k).natAbs<2^(B*5+1):=Nat.lt_of_lt_of_le (Qb3 ha k) (Nat.pow_le_pow_right (by decide) (by have:=Nat.mul_le_mul_left B hk;omega));have h2:(d^(5-k)).natAbs<2^(B*5+1):=Nat.lt_of_lt_of_le (Qb3 hd (5-k)) (Nat.pow_le_pow_right (by decide) (by have:=Nat.mul_le_mul_left B (show 5-k≤5 by omega);omega));have h3:(a^k*d^(5-k)).natAbs<2^(B*5+1+(B*5+1)):=by rw [Int.natAbs_mul,Nat.pow_add];exact Nat.mul_lt_mul'' h1 h2
  refine⟨h1,h2,h3,?_⟩;unfold plcT;rw [Int.natAbs_mul,Nat.pow_add _ B];exact Nat.mul_lt_mul'' (Qde hc k) h3
theorem Qeg {c:List Int} {a d:Int} {B:Nat} (hc:bd B c) (ha:a.natAbs<2^B) (hd:d.natAbs<2^B) (m:Nat) (hm:m≤6):(sm (plcT c a d) m).natAbs<2^(B+(B*5+1+(B*5+1))+7):=
  Qw3 (by omega) fun i hi=>(Qjh hc ha hd i (by omega)).2.2.2
theorem Qw5 {s:Sg} {a d:Int} (ho:1≤s.o) (hd:1≤d) (i:Nat):0<plG s a d i:=by
  induction i with
  |zero=>
    show 0<(s.o*d^5).natAbs;have h:0<s.o*d^5:=Int.mul_pos (by omega) (Int.pow_pos (by omega));omega
  |succ i ih=>rw [Qgt];exact Nat.gcd_pos_of_pos_left _ ih
theorem Zc1 {s:Sg} {d:Int} {B:Nat} (ho:s.o.natAbs<2^B) (hd:d.natAbs<2^B):(s.o*d^5).natAbs<2^(B+(B*5+1)):=by
  rw [Int.natAbs_mul,Nat.pow_add _ B];exact Nat.mul_lt_mul'' ho (Qb3 hd 5)
theorem Qzm {s:Sg} {a d:Int} {B:Nat} (hc: ∀c∈s.ax,bd B c) (h6: ∀c∈s.ax,c.length≤6) (ha:a.natAbs<2^B) (hd:d.natAbs<2^B) (i:Nat) (hi:i<3):
    (plP s a d i).natAbs<2^(B+(B*5+1+(B*5+1))+7):=by
  have hi':i<s.ax.length:=hi;have hm:s.ax.getD i []=s.ax[i]:=by rw [List.getD_eq_getElem?_getD,List.getElem?_eq_getElem hi'];rfl
  unfold plP plc;rw [hm];exact Qeg (hc _ (List.getElem_mem hi')) ha hd _ (h6 _ (List.getElem_mem hi'))
theorem Zsg {s:Sg} {a d:Int} {B:Nat} (hc: ∀c∈s.ax,bd B c) (h6: ∀c∈s.ax,c.length≤6) (ho:s.o.natAbs<2^B) (ha:a.natAbs<2^B) (hd:d.natAbs<2^B) (i:Nat) (hi:i≤3):
    ((plG s a d i:Nat):Int).natAbs<2^(B+(B*5+1+(B*5+1))+7):=by
  rw [Int.natAbs_natCast];refine Qes _ (Nat.lt_of_lt_of_le (Zc1 ho hd) (Nat.pow_le_pow_right (by decide) (by omega))) ?_;intro x hx;simp only [List.mem_map,List.mem_range]at hx;obtain⟨m,hm,rfl⟩:=hx;exact Qzm hc h6 ha hd m (by omega)
end Go.Dg
