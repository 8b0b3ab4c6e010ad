/-
  Dq, HP1, HP2, Dr, HN1, Bn, HN2, Ds, HP3, US4, UX, UX1, UXS, Dwi (merged for the claim).
-/
import Derived.Test.YtciddhkfbgkejaaGreatDoorHA13
import Derived.Test.YtciddhkfbgkejaaGreatDoorHW2
import Derived.Test.YtciddhkfbgkejaaGreatDoorUV
set_option linter.unusedSimpArgs false
set_option linter.unusedVariables false
namespace Go.Dg

/-! ### sums -/
/-- The sum of the first n values. -/
def sm (f:Nat→Int):Nat→Int
  |0=>0
  |n+1=>sm f n+f n
theorem Qca {f g:Nat→Int}: ∀(n:Nat),(∀i,i<n→f i=g i)→sm f n=sm g n
  |0,_=>rfl
  |n+1,h=>by rw [sm,sm,Qca n (fun i hi=>h i (Nat.lt_succ_of_lt hi)),h n (Nat.lt_succ_self n)]
theorem Qw3 (f g:Nat→Int): ∀n,sm (fun i=>f i+g i) n=sm f n+sm g n
  |0=>rfl
  |n+1=>by simp only [sm,Qw3 f g n];omega
theorem Qdx (c:Int) (f:Nat→Int): ∀n,sm (fun i=>c*f i) n=c*sm f n
  |0=>by simp [sm]
  |n+1=>by simp only [sm,Qdx c f n,Int.mul_add]
theorem Qjf (f:Nat→Int): ∀n,sm f (n+1)=f 0+sm (fun i=>f (i+1)) n
  |0=>by simp [sm]
  |n+1=>by rw [sm,Qjf f n,sm];omega
theorem Zbj (f:Nat→Int) {n m:Nat} (h:n≤m) (hz: ∀i,n≤i→i<m→f i=0):sm f m=sm f n:=by
  induction m with
  |zero=>
        obtain rfl:n=0:=by omega
        rfl
  |succ m ih=>
    rcases Nat.lt_or_eq_of_le h with h1|h1
    · rw [sm,ih (by omega) (fun i a b=>hz i a (by omega)),hz m (by omega) (by omega),Int.add_zero]
    · rw [h1]
theorem Zal (g:Nat→Nat→Int): ∀n,sm (fun j=>sm (fun i=>g i j) (j+1)) n=sm (fun i=>sm (fun k=>g i (i+k)) (n-i)) n
  |0=>rfl
  |n+1=>by
    rw [sm,Zal g n]
    have h1:sm (fun i=>sm (fun k=>g i (i+k)) (n+1-i)) n=sm (fun i=>sm (fun k=>g i (i+k)) (n-i)+g i n) n:=
      Qca n fun i hi=>by
        have e:n+1-i=(n-i)+1:=by omega
        have e2:i+(n-i)=n:=by omega
        rw [e,sm,e2]
    have e3:n+1-n=1:=by omega
    rw [sm,sm,h1,Qw3,e3]
    simp only [sm,Nat.add_zero,Int.zero_add]
    omega
theorem Zbk {f g:Nat→Int}: ∀(n:Nat),(∀i,i<n→f i≤g i)→sm f n≤sm g n
  |0,_=>Int.le_refl 0
  |n+1,h=>Int.add_le_add (Zbk n fun i hi=>h i (Nat.lt_succ_of_lt hi)) (h n (Nat.lt_succ_self n))

/-! ### binomials -/
/-- The number of ways to choose k of n elements. -/
def bin:Nat→Nat→Nat
  |_,0=>1
  |0,_+1=>0
  |n+1,k+1=>bin n k+bin n (k+1)
theorem Qjg (n:Nat):bin n 0=1:=by cases n<;>rfl
theorem Qw4: ∀{n k:Nat},n<k→bin n k=0
  |0,0,h=>absurd h (Nat.lt_irrefl 0)
  |0,_+1,_=>rfl
  |n+1,0,h=>absurd h (Nat.not_lt_zero _)
  |n+1,k+1,h=>by rw [bin,Qw4 (by omega),Qw4 (by omega)]
theorem Qw5: ∀{n k:Nat},k≤n→0<bin n k
  |_,0,_=>by rw [Qjg];decide
  |0,k+1,h=>absurd h (by omega)
  |n+1,k+1,h=>by rw [bin];have:=Qw5 (n:=n) (k:=k) (by omega);omega
theorem Qh2: ∀(n k:Nat),bin n k≤2^n
  |0,0=>by decide
  |0,_+1=>by simp [bin]
  |n+1,0=>by rw [Qjg];exact Nat.pow_pos (by decide)
  |n+1,k+1=>by rw [bin,Nat.pow_succ];have:=Qh2 n k;have:=Qh2 n (k+1);omega
theorem Qom (x:Int) (n:Nat):x^(n+1)=x*x^n:=by rw [Int.pow_succ,Int.mul_comm]
/-- The power of a sum. -/
theorem Qqo (a b:Int): ∀n,sm (fun k=>(bin n k:Int)*(a^k*b^(n-k))) (n+1)=(a+b)^n
  |0=>by simp [sm,bin]
  |n+1=>by
    have ih:=Qqo a b n
    rw [Qjf]
    have h1:sm (fun k=>(bin (n+1) (k+1):Int)*(a^(k+1)*b^(n+1-(k+1)))) (n+1)
        =sm (fun k=>a*((bin n k:Int)*(a^k*b^(n-k)))+(bin n (k+1):Int)*(a^(k+1)*b^(n-k))) (n+1):=
      Qca _ fun k _=>by
        have e:n+1-(k+1)=n-k:=by omega
        rw [e,bin,Int.natCast_add,Int.add_mul,Qom]
        congr 1
        rw [Int.mul_assoc,Int.mul_left_comm]
    rw [h1,Qw3,Qdx,ih]
    have h2:sm (fun k=>(bin n (k+1):Int)*(a^(k+1)*b^(n-k))) (n+1)=sm (fun k=>b*((bin n (k+1):Int)*(a^(k+1)*b^(n-(k+1))))) n:=by
      rw [sm,Qw4 (Nat.lt_succ_self n),Int.natCast_zero,Int.zero_mul,Int.add_zero]
      refine Qca _ fun k hk=> ?_
      have e:n-k=(n-(k+1))+1:=by omega
      rw [e,Qom b]
      simp only [Int.mul_comm,Int.mul_left_comm,Int.mul_assoc]
    have h3:=Qjf (fun k=>(bin n k:Int)*(a^k*b^(n-k))) n
    rw [ih]at h3
    rw [h2,Qdx,Qjg]
    rw [Qjg]at h3
    simp only [Int.pow_zero,Int.one_mul,Nat.sub_zero,Int.natCast_one]at h3 ⊢
    rw [Qom,Qom,Int.add_mul,h3]
    simp only [Int.mul_add]
    omega

/-! ### polynomials by their values -/
/-- A polynomial at x/y,times y to the power of its degree. -/
def hev:List Int→Int→Int→Int
  | [],_,_=>0
  |c::r,x,y=>c*y^r.length+x*hev r x y
theorem Qon: ∀(p:List Int) (x y:Int),hev p x y=sm (fun i=>p.getD i 0*(x^i*y^(p.length-1-i))) p.length
  | [],_,_=>rfl
  |c::r,x,y=>by
    rw [hev,List.length_cons,Qjf,Qon r x y,←Qdx]
    congr 1
    · simp
    · refine Qca _ fun i hi=> ?_
      have e:r.length+1-1-(i+1)=r.length-1-i:=by omega
      rw [e,Qom,List.getD_cons_succ]
      simp only [Int.mul_comm,Int.mul_left_comm,Int.mul_assoc]
/-- A list of sums of products,at two values. -/
theorem Q36 (F:Nat→Int) (n:Nat) (x y:Int):hev ((List.range (n+1)).map F) x y=sm (fun j=>F j*(x^j*y^(n-j))) (n+1):=by
  rw [Qon]
  simp only [List.length_map,List.length_range]
  refine Qca _ fun j hj=> ?_
  rw [List.getD_eq_getElem?_getD]
  simp [hj]

/-- The list whose value at x,y is the sum of f i x^i (c x+y)^(n-i). -/
def trans (f:List Int) (c:Int) (n:Nat):List Int:=(List.range (n+1)).map fun j=>sm (fun i=>f.getD i 0*(c^(j-i)*(bin (n-i) (j-i):Int))) (j+1)
theorem Qoo (f:List Int) (c:Int) (n:Nat):(trans f c n).length=n+1:=by simp [trans]
theorem Qsq (a b:Int): ∀n:Nat,(a*b)^n=a^n*b^n
  |0=>by simp
  |n+1=>by rw [Qom,Qom,Qom,Qsq a b n];simp only [Int.mul_comm,Int.mul_left_comm,Int.mul_assoc]
theorem Zbl (c:Int) (f:Nat→Int) (n:Nat):sm (fun i=>f i*c) n=sm f n*c:=by
  rw [Int.mul_comm,←Qdx];exact Qca n fun i _=>Int.mul_comm _ _
theorem Qw6 (f:List Int) (c:Int) (n:Nat) (x y:Int):hev (trans f c n) x y=sm (fun i=>f.getD i 0*(x^i*(c*x+y)^(n-i))) (n+1):=by
  rw [trans,Q36]
  have h1:sm (fun j=>sm (fun i=>f.getD i 0*(c^(j-i)*(bin (n-i) (j-i):Int))) (j+1)*(x^j*y^(n-j))) (n+1)
      =sm (fun j=>sm (fun i=>f.getD i 0*(c^(j-i)*(bin (n-i) (j-i):Int))*(x^j*y^(n-j))) (j+1)) (n+1):=
    Qca _ fun j _=>(Zbl _ _ _).symm
  rw [h1,Zal (fun i j=>f.getD i 0*(c^(j-i)*(bin (n-i) (j-i):Int))*(x^j*y^(n-j)))]
  refine Qca _ fun i hi=> ?_
  have e:n+1-i=(n-i)+1:=by omega
  rw [←Qqo (c*x) y (n-i),e,←Qdx,←Qdx]
  refine Qca _ fun k hk=> ?_
  have e1:i+k-i=k:=by omega
  have e2:n-(i+k)=n-i-k:=by omega
  rw [e1,e2,Qsq,Int.pow_add]
  simp only [Int.mul_comm,Int.mul_left_comm,Int.mul_assoc]
theorem Zbm {f:List Int} {n:Nat} (h:f.length≤n+1) (x s:Int):sm (fun i=>f.getD i 0*(x^i*s^(n-i))) (n+1)=s^(n+1-f.length)*hev f x s:=by
  rw [Zbj _ h (fun i h1 _=>by rw [List.getD_eq_getElem?_getD,List.getElem?_eq_none h1];simp),Qon,←Qdx]
  refine Qca _ fun i hi=> ?_
  have e:n-i=(n+1-f.length)+(f.length-1-i):=by omega
  rw [e,Int.pow_add]
  simp only [Int.mul_comm,Int.mul_left_comm,Int.mul_assoc]
theorem Qt8 {f:List Int} {n:Nat} (h:f.length≤n+1) (c x y:Int):hev (trans f c n) x y=(c*x+y)^(n+1-f.length)*hev f x (c*x+y):=by
  rw [Qw6,Zbm h]
theorem Qt9 {f:List Int} {n:Nat} (h:f.length=n+1) (c x y:Int):hev (trans f c n) x y=hev f x (c*x+y):=by
  rw [Qt8 (by omega),h,Nat.sub_self,Int.pow_zero,Int.one_mul]
end Go.Dg

namespace Go.Proofs.YtciddhkfbgkejaaGreatDoor
open Go.Vl Go.RowKit Go.Dg
theorem Ql4 {x y:Int} {B:Nat} (hx:x.natAbs<2^B) (hy:y.natAbs<2^B):(x+y).natAbs<2^(B+1):=by
 rw [Nat.pow_succ];generalize 2^B=K at*;omega
theorem Qyl {x y:Int} {B C:Nat} (hx:x.natAbs<2^B) (hy:y.natAbs<2^C):(x*y).natAbs<2^(B+C):=by
 rw [Int.natAbs_mul,Nat.pow_add];exact Nat.mul_lt_mul'' hx hy
theorem Zax {x:Int} (h:x.natAbs<2^65536):(digs 256 x.natAbs).length≤8192:=(Qar (by decide) x.natAbs 8192).2 (Zgk (k:=8192) h (by decide))
theorem Qna {n:Int} (h:n.natAbs<2^65536):Qgn n= .tup [wPV n,.int .i64 0]:=by
 rw [Qgn,if_neg (Nat.not_lt.2 (Qdh 65536 _ h))]
abbrev mB (x:Int):ByteArray:=⟨(magL x.natAbs).toArray⟩
theorem Qd0 {x:Int} (h:x.natAbs<2^65536):(mB x).size≤100000:=by rw [Qxz];have:=Zax h;omega
theorem Qcv {x:Int} (h:x.natAbs<2^65536):Qbq (decide (x<0)) (mB x).data.toList=true:=Qri x (Zax h)
theorem Qnb (x:Int):(bnum (mB x).data.toList)=x.natAbs:=by
 have h:=Qcq x
 unfold wnum at h
 have h2:=congrArg Int.natAbs h
 rwa [Zip]at h2
theorem Zhg {x y:Int} (hx:x.natAbs<2^65536) (hy:y.natAbs<2^65536):Qag Tryz.prog 190 [wPV x,wPV y] (Qgn (x*y)):=by
 have h:=Zik (decide (x<0)) (decide (y<0)) (mB x) (mB y) (Qcv hx) (Qcv hy) (Qd0 hx) (Qd0 hy)
 rwa [Qcq,Qcq]at h
theorem Zhh {x y:Int} (hx:x.natAbs<2^65536) (hy:y.natAbs<2^65536):Qag Tryz.prog 113 [wPV x,wPV y] (Qgn (x+y)):=by
 have h:=Zib (decide (x<0)) (decide (y<0)) (mB x) (mB y) (Qcv hx) (Qcv hy) (Qd0 hx) (Qd0 hy)
 rwa [Qcq,Qcq]at h
theorem Zhi {x y:Int} (hx:x.natAbs<2^65536) (hy:y.natAbs<2^65536):Qag Tryz.prog 162 [wPV x,wPV y] (Qgn ((Nat.gcd x.natAbs y.natAbs:Nat):Int)):=by
 have h:=Zil (decide (x<0)) (decide (y<0)) (mB x) (mB y) (Qcv hx) (Qcv hy) (Qd0 hx) (Qd0 hy)
 rwa [Qnb,Qnb]at h
theorem Qym {x:Int} (hx:x.natAbs<2^65536):Qag Tryz.prog 66 [wPV x] (Qet x):=by
 have h:=Zid (decide (x<0)) (mB x) (Qcv hx) (Qd0 hx)
 rwa [Qcq]at h
theorem Quj {x y:Int} (hx:x.natAbs<2^65536) (hy:y.natAbs<2^65536):Qag Tryz.prog 142 [wPV x,wPV y] (.int .i64 (x-y).sign):=by
 have h:=Qvo (decide (x<0)) (decide (y<0)) (mB x) (mB y) (Qcv hx) (Qcv hy) (Qd0 hx) (Qd0 hy)
 rwa [Qcq,Qcq]at h
theorem Zj8 {x:Int} (h:x≠0):(mB x).data.toList≠ []:=fun e=>h ((Qnk x).1 e)
theorem Zhj {x y:Int} (hx:x.natAbs<2^65536) (hy:y.natAbs<2^65536) (h0:y≠0):Qag Tryz.prog 112 [wPV x,wPV y] (Q9j x y):=by
 have h:=Zio (decide (x<0)) (decide (y<0)) (mB x) (mB y) (Qcv hx) (Qcv hy) (Zj8 h0) (Qd0 hx) (Qd0 hy)
 rwa [Qcq,Qcq]at h
end Go.Proofs.YtciddhkfbgkejaaGreatDoor

namespace Go.Proofs.YtciddhkfbgkejaaGreatDoor
open Go.Vl Go.RowKit Go.Dg
theorem Zhk (a b:ByteArray):(a==b)=(a.data==b.data):=rfl
theorem Q4u {α:Type} {p:α→Bool} {l:List α} {i:Nat} (hi:i<l.length) (h:(l.take i).all p=true) (hp:p l[i]=true):(l.take (i+1)).all p=true:=by
 rw [List.take_add_one,List.all_append,h];simp [hi,hp]
theorem Zcc {α:Type} {p:α→Bool} {l:List α} {i:Nat} (hi:i<l.length) (hp:p l[i]=false):l.all p=false:=by
 rw [List.all_eq_false];exact⟨l[i],List.getElem_mem hi,by simp [hp]⟩
theorem Qbo {α:Type} (l:List α) (i:Nat) (hi:i<l.length):l.take (i+1)=l.take i++[l[i]]:=by rw [List.take_add_one];simp [hi]
theorem ltT {i n:Nat} (h:i<n):((i:Int)<(n:Int))=True:=by simp only [eq_iff_iff,iff_true];omega
theorem ltF {i n:Nat} (h: ¬i<n):((i:Int)<(n:Int))=False:=by simp only [eq_iff_iff,iff_false];omega
theorem leT {i n:Nat} (h:i≤n):((i:Int)≤(n:Int))=True:=by simp only [eq_iff_iff,iff_true];omega
theorem leF {i n:Nat} (h: ¬i≤n):((i:Int)≤(n:Int))=False:=by simp only [eq_iff_iff,iff_false];omega
theorem nnT (i:Nat):((0:Int)≤(i:Int))=True:=by simp
end Go.Proofs.YtciddhkfbgkejaaGreatDoor

namespace Go.Dg
theorem Zam {f:Nat→Int} {C:Nat}: ∀(m:Nat),(∀i,i<m→(f i).natAbs≤C)→(sm f m).natAbs≤m*C
 |0,_=>by simp [sm]
 |m+1,h=>by
  have h1:=Zam m (fun i hi=>h i (by omega))
  have h2:=h m (Nat.lt_succ_self m)
  rw [sm,Nat.succ_mul]
  omega
theorem Q37 {xs:List Int} {B:Nat} (h: ∀x∈xs,x.natAbs<2^B) (i:Nat):(xs.getD i 0).natAbs<2^B:=by
 rw [List.getD_eq_getElem?_getD]
 cases e:xs[i]? with
 |none=>exact Nat.pow_pos (by decide)
 |some x=>exact h x (List.mem_of_getElem? e)
end Go.Dg

namespace Go.Proofs.YtciddhkfbgkejaaGreatDoor
open Go.Vl Go.RowKit Go.Dg
end Go.Proofs.YtciddhkfbgkejaaGreatDoor

namespace Go.Vl
def Qik:PV→PV
 | .nilS=> .slc []
 |v=>v
def Za9:PV→PV
 | .agg cs=> .agg (cs.map Qik)
 |v=>Qik v
theorem Qjv (v:PV):(Za9 v).cells=v.cells.map Qik:=by
 cases v<;>rfl
theorem Qlp (l:List PV):(l.map Za9).flatMap PV.cells=(l.flatMap PV.cells).map Qik:=by
 induction l with
 |nil=>rfl
 |cons v l ih=>simp only [List.map_cons,List.flatMap_cons,List.map_append,Qjv,ih]
theorem Rep.up {w:World} {im:Im} {v:PV} {u:Value} (h:Rep w im v u):Rep w im (Qik v) u:=by
 cases v with
 |nilS=>cases h;exact .slcNil 0 (Nat.zero_le _)
 |_=>exact h
theorem LR.up {w:World} {im:Im} {ρ:Rho} {v:PV} {u:Value} (h:LR w im ρ v u):LR w im ρ (Qik v) u:=by
 cases v with
 |nilS=>rw [h.nilS_inv];exact .ext _ _ (.slcNil 0 (Nat.zero_le _))
 |_=>exact h
theorem RepL.up {w:World} {im:Im}: ∀{vs:List PV} {us:List Value},RepL w im vs us→RepL w im (vs.map Qik) us
 |_,_,.nil=> .nil
 |_,_,.cons _ _ _ _ h t=> .cons _ _ _ _ h.up t.up
theorem LRL.up {w:World} {im:Im} {ρ:Rho}: ∀{vs:List PV} {us:List Value},LRL w im ρ vs us→LRL w im ρ (vs.map Qik) us
 |_,_,.nil=> .nil
 |_,_,.cons _ _ _ _ h t=> .cons _ _ _ _ h.up t.up
theorem Qc5.up {own:Nat→Prop} {w:World} {im:Im} {ρ:Rho} {B:Box} {x:Option Nat} (h:Qc5 own w im ρ B x):Qc5 own w im ρ {B with els:=B.els.map Za9} x:=by
 cases x with
 |none=>obtain⟨h1,h2,h3,h4⟩:=h;exact⟨by simp [h1],h2,h3,h4⟩
 |some g=>
  obtain⟨h1,h2,h3,h4,cur,us,rest,h5,h6,h7,h8,h9,h10,h11⟩:=h
  refine⟨h1,by simpa using h2,h3,?_,cur,us,rest,h5,h6,?_,?_,h9,h10,h11⟩
  ·intro e he
   obtain⟨v,hv,rfl⟩:=List.mem_map.1 he
   rw [Qjv,List.length_map];exact h4 v hv
  ·simp only [Qlp];exact h7.up
  ·intro ha;simp only [Qlp];exact(h8 ha).up
end Go.Vl

namespace Go.Proofs.YtciddhkfbgkejaaGreatDoor
open Go.Vl Go.RowKit Go.Dg
theorem Qkg {xs:List Int} {i:Nat} (h:i<xs.length):xs.getD i 0=xs[i]:=by rw [List.getD_eq_getElem?_getD,List.getElem?_eq_getElem h];rfl
end Go.Proofs.YtciddhkfbgkejaaGreatDoor

namespace Go.Dg
def ev:List Int→Int→Int
 | [],_=>0
 |c::r,u=>c+u*ev r u
theorem Qw7 (F:Nat→Int) (N i:Nat):((List.range N).map F).getD i 0=if i<N then F i else 0:=by
 rw [List.getD_eq_getElem?_getD,List.getElem?_map]
 by_cases h:i<N
 ·simp [h]
 ·rw [List.getElem?_eq_none (by simpa using h),if_neg h];rfl
def conv (p q:List Int):List Int:=(List.range (p.length+q.length-1)).map fun i=>sm (fun k=>p.getD k 0*q.getD (i-k) 0) (i+1)
def bd (B:Nat) (p:List Int):Prop:= ∀x∈p,x.natAbs<2^B
theorem Zan {B:Nat} {p:List Int} (h:bd B p) (i:Nat):(p.getD i 0).natAbs<2^B:=Q37 h i
theorem Qw8 {f:Nat→Int} {B m:Nat} (hm:m≤64) (h: ∀i,i<m→(f i).natAbs<2^B):(sm f m).natAbs<2^(B+7):=by
 have h1:=Zam m (fun i hi=>Nat.le_of_lt (h i hi))
 have h2:m*2^B≤64*2^B:=Nat.mul_le_mul_right _ hm
 have hp:0<2^B:=Nat.pow_pos (by decide)
 rw [Nat.pow_add,show(2:Nat)^7=128 from rfl]
 omega
end Go.Dg

namespace Go.Proofs.YtciddhkfbgkejaaGreatDoor
open Go.Vl Go.RowKit Go.Dg
theorem Qnc {n:Nat} (h:0<n) (hn:n<9223372036854775808):IntKind.i64.wrap ((n:Int)-1)=((n-1:Nat):Int):=by rw [Qai (by omega) (by omega)];omega
def Qa9 (l:List Int):PV:= .slc (l.map (PV.int .i64))
theorem Qes (l:List Int) (i:Nat) (h:i<l.length):(l.map (PV.int .i64))[i]? =some (.int .i64 l[i]):=by rw [List.getElem?_map,List.getElem?_eq_getElem h];rfl
theorem map_take {α β:Type} (f:α→β) (l:List α) (i:Nat) (hi:i<l.length):(l.take (i+1)).map f=(l.take i).map f++[f l[i]]:=by rw [Qbo l i hi,List.map_append];rfl
end Go.Proofs.YtciddhkfbgkejaaGreatDoor

namespace Go.Vl
open Go.RowKit
variable {P:Program} {tb:Tab} {nt:Nat} {ks:List Nat} {ops:Array Oper} {base i:Nat} {rest:List Oper} {accs:List Acc} {draw:Bool} {k:List It} {Q:Exit→St→Prop} {st:St}
theorem Qbj {dst:Option Tmp} {f f':FuncId} {args args':List PV} {bxs bxsA:List (Nat×Box)} {es:List Eff} {θ ν:List (Nat×Nat)} {l:Acc} {r:PV} {bxs':List (Nat×Box)} (hs:Qck P f' args' bxsA r bxs') (hf:f'=f) (ha:args'=args) (hb:bxsA=bxs)
  (h:gland P tb nt ks (land θ ν bxs' r) (Qi6 r bxs') es l ops base i dst rest accs draw k Q st):Q3n P tb nt ks f args bxs es θ ν l ops base i dst rest accs draw k Q st:=by
 subst hf;subst ha;subst hb;exact Qb2 _ _ _ _ _ _ _ _ _ hs h
end Go.Vl

namespace Go.Vl
open Go.RowKit
mutual
def Vgo (P:Program) (nt:Nat):List It→(Exit→St→Prop)→St→Prop
 | [],Q,st=>Q .normal st
 | .blk _::k,Q,st=>Vgo P nt k Q st
 | .again J::_,_,st=>J st
 | .code c::k,Q,st=>Vwp P nt c (fun e s=>Vleave P nt k Q e s) st
def Vleave (P:Program) (nt:Nat):List It→(Exit→St→Prop)→Exit→St→Prop
 | [],Q,e,st=>Q e st
 | .blk j::k,Q,e,st=>match e with
  | .exit i=>if i=j then Vgo P nt k Q st else Vleave P nt k Q (.exit i) st
  | .normal=>Vgo P nt k Q st
  |e=>Vleave P nt k Q e st
 | .again J::k,Q,e,st=>match e with
  | .normal=>J st
  |e=>Vleave P nt k Q e st
 | .code c::k,Q,e,st=>match e with
  | .normal=>Vwp P nt c (fun e s=>Vleave P nt k Q e s) st
  |e=>Vleave P nt k Q e st
end
section
variable {P:Program} {tb:Tab} {nt:Nat} {ks:List Nat} {Q:Exit→St→Prop}
theorem Qjs (hm:P.follows .mixedOrders=true): ∀(k:List It),(∀st,go P tb nt ks k Q st→Vgo P nt k Q st)∧ ∀e st,gleave P tb nt ks k Q e st→Vleave P nt k Q e st
 | []=>⟨fun st h=>by simpa only [go,Vgo]using h,fun e st h=>by simpa only [gleave,Vleave]using h⟩
 | .blk j::k=>by
  obtain⟨h1,h2⟩:=Qjs hm k
  refine⟨fun st h=> ?_,fun e st h=> ?_⟩
  ·simp only [go]at h;simp only [Vgo];exact h1 st h
  ·cases e with
   |exit i=>
    simp only [gleave]at h;simp only [Vleave]
    split at h
    ·rename_i e;rw [if_pos e];exact h1 st h
    ·rename_i e;rw [if_neg e];exact h2 _ st h
   |normal=>simp only [gleave]at h;simp only [Vleave];exact h1 st h
   |_=>simp only [gleave]at h;simp only [Vleave];exact h2 _ st h
 | .again J::k=>by
  obtain⟨h1,h2⟩:=Qjs hm k
  refine⟨fun st h=>by simpa only [go,Vgo]using h,fun e st h=> ?_⟩
  cases e with
  |normal=>simpa only [gleave,Vleave]using h
  |_=>simp only [gleave]at h;simp only [Vleave];exact h2 _ st h
 | .code c::k=>by
  obtain⟨h1,h2⟩:=Qjs hm k
  have key: ∀st,vx P tb nt ks c (fun e s=>gleave P tb nt ks k Q e s) st→Vwp P nt c (fun e s=>Vleave P nt k Q e s) st:=fun st h=>Qcy (Qbv hm c _ _ h) fun e s q=>h2 e s q
  refine⟨fun st h=> ?_,fun e st h=> ?_⟩
  ·simp only [go]at h;simp only [Vgo];exact key st h
  ·cases e with
   |normal=>simp only [gleave]at h;simp only [Vleave];exact key st h
   |_=>simp only [gleave]at h;simp only [Vleave];exact h2 _ st h
theorem v_go (hm:P.follows .mixedOrders=true) {k:List It} {st:St} (h:go P tb nt ks k Q st):Vgo P nt k Q st:=(Qjs hm k).1 st h
def codes (L:List Code) (k:List It):List It:=L.foldr (fun c k=> .code c::k) k
theorem Q3p {st1:St} {c:Code} {k:List It} (h2:Vgo P nt (.code c::k) Q st1): ∀(L:List Code),(∀st,Vgo P nt (codes L (.again (fun s=>Le s st1):: .code c::k)) Q st→Vgo P nt (codes L (.code c::k)) Q st)∧
  ∀e st,Vleave P nt (codes L (.again (fun s=>Le s st1):: .code c::k)) Q e st→Vleave P nt (codes L (.code c::k)) Q e st
 | []=>by
  have base: ∀st,Le st st1→Vgo P nt (.code c::k) Q st:=fun st h=>by
   simp only [Vgo]at h2 ⊢;exact Ziv h2 h
  refine⟨fun st h=>base st (by simpa only [codes,List.foldr,Vgo]using h),fun e st h=> ?_⟩
  cases e with
  |normal=>
   have:=base st (by simpa only [codes,List.foldr,Vleave]using h)
   simp only [codes,List.foldr,Vleave];simpa only [Vgo]using this
  |_=>simpa only [codes,List.foldr,Vleave]using h
 |d::L=>by
  obtain⟨h3,h4⟩:=Q3p h2 L
  refine⟨fun st h=> ?_,fun e st h=> ?_⟩
  ·simp only [codes,List.foldr,Vgo]at h ⊢
   exact Qcy h fun e s q=>h4 e s q
  ·cases e with
   |normal=>
    simp only [codes,List.foldr,Vleave]at h ⊢
    exact Qcy h fun e s q=>h4 e s q
   |_=>simp only [codes,List.foldr,Vleave]at h ⊢;exact h4 _ _ h
theorem Zji (hm:P.follows .mixedOrders=true) (tb:Tab) (ks:List Nat) {st st1:St} (L:List Code) {c:Code} {k:List It} (h1:go P tb nt ks (codes L (.again (fun s=>Le s st1):: .code c::k)) Q st) (h2:Vgo P nt (.code c::k) Q st1):
  Vgo P nt (codes L (.code c::k)) Q st:=(Q3p h2 L).1 st (v_go hm h1)
def Qij:Code→List Code
 | .seq a b=>a::Qij b
 |c=>[c]
theorem Q3q {k:List It}: ∀(c:Code),(∀st,Vgo P nt (codes (Qij c) k) Q st→Vgo P nt (.code c::k) Q st)∧ ∀e st,Vleave P nt (codes (Qij c) k) Q e st→Vleave P nt (.code c::k) Q e st
 | .seq a b=>by
  obtain⟨h1,h2⟩:=Q3q (k:=k) b
  have key: ∀st,Vwp P nt a (fun e s=>Vleave P nt (codes (Qij b) k) Q e s) st→Vwp P nt (.seq a b) (fun e s=>Vleave P nt k Q e s) st:=fun st h=>Q26 (Qcy h fun e s q=>by
   have q:=h2 e s q
   cases e with
   |normal=>simpa only [Vleave,vthen]using q
   |_=>simpa only [Vleave,vthen]using q)
  refine⟨fun st h=> ?_,fun e st h=> ?_⟩
  ·simp only [Qij,codes,List.foldr,Vgo]at h ⊢;exact key st h
  ·cases e with
   |normal=>simp only [Qij,codes,List.foldr,Vleave]at h ⊢;exact key st h
   |_=>
    simp only [Qij,codes,List.foldr,Vleave]at h ⊢
    have:=h2 _ _ h
    simpa only [Vleave]using this
 | .skip| .label _| .exit _| .ret| .region _ _ _| .cond _ _ _| .block _ _| .loop _| .rangeFunc _ _ _ _| .scope _| .goto _| .refuse _=>⟨fun _ h=>h,fun _ _ h=>h⟩
theorem Zjj {k:List It} {c:Code} {st:St} (h:Vgo P nt (codes (Qij c) k) Q st):Vgo P nt (.code c::k) Q st:=(Q3q c).1 st h
theorem Qqd (k:List It): ∀(A B:List Code),codes (A++B) k=codes A (codes B k)
 | [],_=>rfl
 |a::A,B=>by simp only [List.cons_append,codes,List.foldr];rw [←codes,Qqd k A B];rfl
theorem Q3r (hm:P.follows .mixedOrders=true) (tb:Tab) (ks:List Nat) {C:List Code} (n:Nat) (hn:Nat.blt n C.length=true) {st:St} (st1:St)
  (h1:go P tb nt ks (codes (C.take n) (.again (fun s=>Le s st1)::codes (C.drop n) [])) Q st) (h2:Vgo P nt (codes (C.drop n) []) Q st1):Vgo P nt (codes C []) Q st:=by
 have hn:n<C.length:=by rw [Nat.blt_eq]at hn;exact hn
 have e:C.drop n=C[n]::C.drop (n+1):=List.drop_eq_getElem_cons hn
 have e2:codes C []=codes (C.take n) (.code C[n]::codes (C.drop (n+1)) []):=by
  have:=Qqd [] (C.take n) (C.drop n)
  rw [List.take_append_drop]at this
  rw [this,e];rfl
 rw [e2]
 have e3:codes (C.drop n) []= .code C[n]::codes (C.drop (n+1)) []:=by rw [e];rfl
 rw [e3]at h1 h2
 exact Zji hm tb ks _ h1 h2
theorem Zjk {f:FuncId} {fn:Func} {c:Code} {args:List PV} {r:PV} (nt:Nat) (rs:List ResultVar) (hf:P.funcs[f]? =some fn) (hb:fn.body=some c)
  (hc:callable P f=true) (hnt:fn.ntmps=nt) (hrs:fn.results.toList=rs) (hn:Nat.ble args.length nt=true)
  (h:Vgo P nt (codes (Qij c) []) (vret P rs (· =r)) (St.of (Qb1 0 args) [])):Qag P f args r:=
 Qtw nt rs hf hb hc hnt hrs hn (by
  have h:=Zjj h
  simp only [Vgo,Vleave]at h
  exact h)
end
end Go.Vl

namespace Go.Vl
open Go.RowKit
def Qwm (P:Program) (tb:Tab) (nt:Nat) (ks:List Nat) (c:Code) (k:List It) (Q:Exit→St→Prop):List Nat→St→Prop
 | [],_=>False
 |_::l,st=>go P tb nt ks (.code c:: .again (Qwm P tb nt ks c k Q l)::k) Q st
theorem Qwn (P:Program) (tb:Tab) (nt:Nat) (ks:List Nat) (c:Code) (k:List It) (Q:Exit→St→Prop) (i:Nat) (l:List Nat) (st:St):Qwm P tb nt ks c k Q (i::l) st=go P tb nt ks (.code c:: .again (Qwm P tb nt ks c k Q l)::k) Q st:=rfl
attribute [go_sem] Qwn
theorem Qee {P:Program} {tb:Tab} {nt:Nat} {ks:List Nat} {k:List It} {Q:Exit→St→Prop} {st:St} (hm:P.follows .mixedOrders=true) {c:Code} (l:List Nat) (h:Qwm P tb nt ks c k Q l st):go P tb nt ks (.code (.loop c)::k) Q st:=by
 simp only [go,vx]
 refine Qn1 (fun x:{x:List Nat×St // Qwm P tb nt ks c k Q x.1 x.2}=>x.1.2) (fun x=>x.1.1.length) ⟨(l,st),h⟩ (fun _ _ _ h=>h) ?_
 rintro⟨⟨l,s⟩,h⟩
 cases l with
 |nil=>exact h.elim
 |cons i l=>
  simp only [Qwm,go]at h
  refine Qcy (Qbv (tb:=tb) (ks:=ks) hm c _ _ h) ?_
  intro e s q
  cases e with
  |normal=>simp only [gleave]at q;exact⟨⟨(l,s),q⟩,by simp,fun _ _ _ h=>h⟩
  |_=>simpa only [gleave,vthen]using q
end Go.Vl

namespace Go.Vl
open Go.RowKit
section
variable {P:Program} {b:Frame} {a:Act} {k:List Item} {cs:List Frame} {w:World}
theorem Qd7 {c:Code}:step P (lone (b.atR a (.code (.scope c)::k)) cs w)= .next (lone (b.atR a (.code c:: .inScope c::k)) cs w):=
 step_lone_go (by simp [stepG,stepG.exec,Frame.atR])
theorem Qoa {c:Code}:step P (lone (b.atR a (.inScope c::k)) cs w)= .next (lone (b.atR a k) cs w):=
 step_lone_go (by simp [stepG,stepG.exec,Frame.atR])
end
theorem Q3t {P:Program} {nt:Nat} {Q:Exit→St→Prop} {st:St} {c:Code} (h:Vwp P nt c (fun e s=>(∀l,e≠ .goto l)∧Q e s) st):Vwp P nt (.scope c) Q st:=fun C h1 h2 rd a w hr=>by
 subst h1;subst h2
 intro b k cs hro hb hroom
 obtain⟨e,a₁,w₁,⟨s,hq,hr1⟩,harr⟩:=h C rfl rfl rd a w hr b (.inScope c::k) cs hro hb hroom
 cases e with
 |normal=>exact⟨_,a₁,w₁,⟨s,hq.2,hr1⟩,.of_steps (.one (fenced_calm hb hroom rfl) Qd7) (StepsIn.trans harr (.one (fenced_calm hb hroom rfl) Qoa))⟩
 |exit id=>exact⟨_,a₁,w₁,⟨s,hq.2,hr1⟩,.of_steps (.one (fenced_calm hb hroom rfl) Qd7) ⟨fun k' hk=>harr.1 k' (by simp [exitTo,hk]),fun hr hk=>harr.2 hr (by simp [exitTo,hk])⟩⟩
 |goto l=>exact(hq.1 l rfl).elim
 |ret=>exact⟨_,a₁,w₁,⟨s,hq.2,hr1⟩,.of_steps (.one (fenced_calm hb hroom rfl) Qd7) harr⟩
 |panic ch=>exact⟨_,a₁,w₁,⟨s,hq.2,hr1⟩,.of_steps (.one (fenced_calm hb hroom rfl) Qd7) harr⟩
 |outgrown=>exact⟨_,a₁,w₁,⟨s,hq.2,hr1⟩,.of_steps (.one (fenced_calm hb hroom rfl) Qd7) harr⟩
def Qi3 (P:Program) (tb:Tab) (nt:Nat) (ks:List Nat) (k:List It) (Q:Exit→St→Prop) (e:Exit) (s:St):Prop:=(∀l,e≠ .goto l)∧gleave P tb nt ks k Q e s
section
variable (P:Program) (tb:Tab) (nt:Nat) (ks:List Nat) (k:List It) (Q:Exit→St→Prop) (s:St)
theorem Qob:Qi3 P tb nt ks k Q .normal s=go P tb nt ks k Q s:=by
 unfold Qi3;rw [Qcc];exact propext ⟨fun h=>h.2,fun h=>⟨fun l=>by simp,h⟩⟩
theorem Qsd (i:Nat):Qi3 P tb nt ks k Q (.exit i) s=gleave P tb nt ks k Q (.exit i) s:=by
 unfold Qi3;exact propext ⟨fun h=>h.2,fun h=>⟨fun l=>by simp,h⟩⟩
theorem Qwq:Qi3 P tb nt ks k Q .ret s=gleave P tb nt ks k Q .ret s:=by
 unfold Qi3;exact propext ⟨fun h=>h.2,fun h=>⟨fun l=>by simp,h⟩⟩
end
attribute [go_sem] Qob Qsd Qwq List.append_eq
theorem Zgb {P:Program} {tb:Tab} {nt:Nat} {ks:List Nat} {k:List It} {Q:Exit→St→Prop} {st:St} (hm:P.follows .mixedOrders=true) {c:Code} (h:go P tb nt ks [.code c] (Qi3 P tb nt ks k Q) st):go P tb nt ks (.code (.scope c)::k) Q st:=by
 simp only [go,vx]at h ⊢
 refine Q3t (Qcy (Qbv (tb:=tb) (ks:=ks) hm c _ _ h) ?_)
 intro e s q
 have q:gleave P tb nt ks [] (Qi3 P tb nt ks k Q) e s:=q
 simp only [gleave]at q
 exact q
end Go.Vl

namespace Go.Dg
structure Wd where
 lx:Int
 ly:Int
 lz:Int
 hx:Int
 hy:Int
 hz:Int
 f:Int
 t:Int
 ux:Int
 uy:Int
 uz:Int
deriving DecidableEq
def wd0:Wd:=⟨0,0,0,0,0,0,0,0,0,0,0⟩
def ptB (x y z:Int):Bool:=decide ((-1048576≤x∧x≤1048576)∧(-1048576≤y∧y≤1048576)∧(-1048576≤z∧z≤1048576))
def uB (x:Int):Bool:=decide (-5000≤x∧x≤5000)
def vWd (w:Wd):Bool:=ptB w.lx w.ly w.lz&&(ptB w.hx w.hy w.hz&&(decide (0≤w.f∧w.f<w.t∧w.t≤3600000)&&(decide (w.lx≤w.hx∧w.ly≤w.hy∧w.lz≤w.hz)&&(uB w.ux&&(uB w.uy&&uB w.uz)))))
def Qat (l:List Wd):Bool:=l.all vWd&&decide (l.length≤8)
def blW (x y z t:Int) (w:Wd):Bool:=decide ((w.lx≤x∧x≤w.hx)∧(w.ly≤y∧y≤w.hy)∧(w.lz≤z∧z≤w.hz)∧w.f≤t∧t<w.t)
theorem Qg1 {w:Wd} (h:vWd w=true):(-1048576≤w.lx∧w.lx≤1048576)∧(-1048576≤w.ly∧w.ly≤1048576)∧(-1048576≤w.lz∧w.lz≤1048576)∧(-1048576≤w.hx∧w.hx≤1048576)∧(-1048576≤w.hy∧w.hy≤1048576)∧(-1048576≤w.hz∧w.hz≤1048576)∧
  0≤w.f∧w.f<w.t∧w.t≤3600000∧w.lx≤w.hx∧w.ly≤w.hy∧w.lz≤w.hz∧(-5000≤w.ux∧w.ux≤5000)∧(-5000≤w.uy∧w.uy≤5000)∧(-5000≤w.uz∧w.uz≤5000):=by
 simp only [vWd,ptB,uB,Bool.and_eq_true,decide_eq_true_eq]at h
 omega
theorem Qbi {l:List Wd} (h:Qat l=true):(∀w∈l,vWd w=true)∧l.length≤8:=by
 simp only [Qat,Bool.and_eq_true,decide_eq_true_eq,List.all_eq_true]at h
 exact h
def Qov (p:Wd→Bool):List Wd→Nat→Nat→Nat
 | [],_,m=>m
 |w::l,i,m=>Qov p l (i+1) (if p w then m+2^i else m)
def mask (p:Wd→Bool) (l:List Wd):Nat:=Qov p l 0 0
theorem Qim (p:Wd→Bool): ∀(a b:List Wd) (i m:Nat),Qov p (a++b) i m=Qov p b (i+a.length) (Qov p a i m)
 | [],_,_,_=>rfl
 |w::a,b,i,m=>by
  simp only [List.cons_append,Qov,List.length_cons]
  rw [Qim p a b,Nat.add_assoc,Nat.add_comm 1]
theorem Qow (p:Wd→Bool) (a:List Wd) (w:Wd):mask p (a++[w])=if p w then mask p a+2^a.length else mask p a:=by
 unfold mask
 rw [Qim,Nat.zero_add];rfl
theorem Qsv (p:Wd→Bool): ∀(a:List Wd) (i m:Nat),m<2^i→Qov p a i m<2^(i+a.length)
 | [],_,_,h=>h
 |w::a,i,m,h=>by
  have h1:2^(i+1)=2^i+2^i:=by rw [Nat.pow_succ];omega
  have:=Qsv p a (i+1) (if p w then m+2^i else m) (by split<;>omega)
  simp only [Qov,List.length_cons]
  rw [show i+(a.length+1)=i+1+a.length from by omega]
  exact this
theorem Qqu (p:Wd→Bool) (a:List Wd):mask p a<2^a.length:=by
 have:=Qsv p a 0 0 (by decide)
 rwa [Nat.zero_add]at this
theorem Zgr {m k:Nat} (h:m<2^k):m ||| 2^k=m+2^k:=by
 have:=Nat.two_pow_add_eq_or_of_lt h 1
 rw [Nat.mul_one,Nat.add_comm,Nat.or_comm]at this
 exact this.symm
def Qbl (m:Nat):List Nat:=(List.range 8).filter fun i=>m.testBit i
def lowB (m:Nat):Nat:=(Qbl m).headD 0
theorem Qud: ∀m,m<256→m≠0→Qbl m=lowB m::Qbl (m &&& (m-1))∧(m &&& (m-1))<256∧lowB m<8:=by decide+kernel
theorem Qh5:Qbl 0=[]:=by decide+kernel
theorem Q4c: ∀m,m<256→Qbl m=[]→m=0:=by decide+kernel
def Qgb:Nat→Nat→Nat
 |0,m=>m
 |k+1,m=>Qgb k (m &&& (m-1))
theorem Qh6: ∀(k m:Nat),m<256→k≤(Qbl m).length→Qbl (Qgb k m)=(Qbl m).drop k∧Qgb k m<256
 |0,m,h,_=>⟨rfl,h⟩
 |k+1,m,h,hk=>by
  have h0:m≠0:=by rintro rfl;rw [Qh5]at hk;simp at hk
  obtain⟨e,h1, -⟩:=Qud m h h0
  rw [e]at hk ⊢
  simp only [List.length_cons]at hk
  obtain⟨i1,i2⟩:=Qh6 k (m &&& (m-1)) h1 (by omega)
  exact⟨by simp only [Qgb,List.drop_succ_cons];exact i1,i2⟩
theorem Qlz: ∀(k m:Nat),Qgb (k+1) m=Qgb k m &&& (Qgb k m-1)
 |0,_=>rfl
 |k+1,m=>by
  show Qgb (k+1) (m &&& (m-1))=_
  rw [Qlz k];rfl
theorem Qxt {k m:Nat} (h:m<256) (hk:k<(Qbl m).length):Qgb k m≠0∧lowB (Qgb k m)=(Qbl m).getD k 0∧Qgb k m<256:=by
 obtain⟨e1,e2⟩:=Qh6 k m h (by omega)
 refine⟨?_,?_,e2⟩
 ·intro e0
  rw [e0,Qh5]at e1
  have:=congrArg List.length e1
  simp at this;omega
 ·unfold lowB
  rw [e1,List.headD_eq_head?_getD,List.head?_drop,List.getD_eq_getElem?_getD]
theorem Qxu {m:Nat} (h:m<256):Qgb (Qbl m).length m=0:=by
 obtain⟨e1,e2⟩:=Qh6 _ m h (Nat.le_refl _)
 exact Q4c _ e2 (by rw [e1,List.drop_length])
def onI (p:Wd→Bool):List Wd→Nat→List Nat
 | [],_=>[]
 |w::l,i=>if p w then i::onI p l (i+1)else onI p l (i+1)
theorem Ql0 (p:Wd→Bool): ∀(a b:List Wd) (i:Nat),onI p (a++b) i=onI p a i++onI p b (i+a.length)
 | [],_,_=>rfl
 |w::a,b,i=>by
  simp only [List.cons_append,onI,List.length_cons]
  rw [Ql0 p a b,show i+1+a.length=i+(a.length+1)from by omega]
  split<;>simp
theorem Q4d (p:Wd→Bool) (a:List Wd) (w:Wd):onI p (a++[w]) 0=if p w then onI p a 0++[a.length]else onI p a 0:=by
 rw [Ql0,Nat.zero_add]
 simp only [onI]
 split<;>simp
theorem Qxv (p:Wd→Bool): ∀(a:List Wd) (i k:Nat),k∈onI p a i→i≤k∧k<i+a.length
 | [],_,_,h=>nomatch h
 |w::a,i,k,h=>by
  simp only [onI]at h
  simp only [List.length_cons]
  split at h
  ·simp only [List.mem_cons]at h
   rcases h with rfl|h
   ·omega
   ·have:=Qxv p a (i+1) k h;omega
  ·have:=Qxv p a (i+1) k h;omega
theorem Q4e: ∀m,m<256→ ∀k,k<8→m<2^k→Qbl (m+2^k)=Qbl m++[k]:=by decide+kernel
theorem bits_mask (p:Wd→Bool) (l:List Wd) (h:l.length≤8):Qbl (mask p l)=onI p l 0:=by
 have key: ∀k,k≤l.length→Qbl (mask p (l.take k))=onI p (l.take k) 0:=by
  intro k
  induction k with
  |zero=>intro _;rw [List.take_zero];exact Qh5
  |succ k ih=>
   intro hk
   have ih:=ih (by omega)
   have hk':k<l.length:=by omega
   have e:l.take (k+1)=l.take k++[l[k]]:=by rw [List.take_add_one,List.getElem?_eq_getElem hk'];rfl
   have hlt:=Qqu p (l.take k)
   have hl:(l.take k).length=k:=by simp;omega
   rw [hl]at hlt
   rw [e,Qow,Q4d,hl]
   have h256:(2:Nat)^k≤2^7:=Nat.pow_le_pow_right (by decide) (by omega)
   split
   ·rw [Q4e _ (by omega) k (by omega) hlt,ih]
   ·exact ih
 have:=key l.length (Nat.le_refl _)
 rwa [List.take_length]at this
theorem Qsw (p:Wd→Bool) {l:List Wd} (h:l.length≤8):mask p l<256:=by
 have h1:=Qqu p l
 have h256:(2:Nat)^l.length≤2^8:=Nat.pow_le_pow_right (by decide) h
 omega
def smW (g:Wd→Int):List Wd→Int
 | []=>0
 |w::l=>g w+smW g l
theorem Qh7 (g:Wd→Int): ∀a b:List Wd,smW g (a++b)=smW g a+smW g b
 | [],b=>by simp [smW]
 |w::a,b=>by simp only [List.cons_append,smW];rw [Qh7 g a b,Int.add_assoc]
def pick (l:List Wd) (ix:List Nat):List Wd:=ix.map fun i=>l.getD i wd0
theorem Zbt (p:Wd→Bool) (l:List Wd):pick l (onI p l 0)=l.filter p:=by
 have key: ∀(b a:List Wd),l=a++b→pick l (onI p b a.length)=b.filter p:=by
  intro b
  induction b with
  |nil=>intro a _;rfl
  |cons w b ih=>
   intro a e
   have:=ih (a++[w]) (by rw [e,List.append_assoc];rfl)
   rw [List.length_append]at this
   simp only [onI,List.filter_cons]
   have hw:l.getD a.length wd0=w:=by rw [e,List.getD_eq_getElem?_getD,List.getElem?_append_right (Nat.le_refl _)];simp
   split
   ·unfold pick at this ⊢
    rw [List.map_cons,hw];exact congrArg _ this
   ·exact this
 exact key l [] rfl
theorem Qxw (g:Wd→Int) (K:Int): ∀l:List Wd,(∀w∈l, -K≤g w∧g w≤K)→ -(K*l.length)≤smW g l∧smW g l≤K*l.length
 | [],_=>by simp [smW]
 |w::l,h=>by
  have h1:=h w (by simp)
  have h2:=Qxw g K l fun x hx=>h x (by simp [hx])
  simp only [smW,List.length_cons,Int.natCast_add,Int.mul_add]
  generalize K*(l.length:Int)=q at*
  omega
theorem Q4f {l:List Wd} {ix:List Nat} (h: ∀i∈ix,i<l.length) {w:Wd} (hw:w∈pick l ix):w∈l:=by
 obtain⟨i,hi,rfl⟩:=List.mem_map.1 hw
 rw [List.getD_eq_getElem?_getD,List.getElem?_eq_getElem (h i hi)]
 exact List.getElem_mem _
def atW (g:Wd→Int) (l:List Wd) (x y z t:Int):Int:=smW g (l.filter (blW x y z t))
theorem Qj9 (g:Wd→Int) (a b:List Wd) (x y z t:Int):atW g (a++b) x y z t=atW g a x y z t+atW g b x y z t:=by
 unfold atW;rw [List.filter_append,Qh7]
theorem Ql1 {g:Wd→Int} (hg:g=Wd.ux∨g=Wd.uy∨g=Wd.uz) {l:List Wd} (hv:Qat l=true) (x y z t:Int): -40000≤atW g l x y z t∧atW g l x y z t≤40000:=by
 obtain⟨h1,h2⟩:=Qbi hv
 have h3:=Qxw g 5000 (l.filter (blW x y z t)) fun w hw=>by
  have:=Qg1 (h1 w (List.mem_filter.1 hw).1)
  rcases hg with rfl|rfl|rfl<;>omega
 have h4:=List.length_filter_le (blW x y z t) l
 unfold atW;omega
end Go.Dg
