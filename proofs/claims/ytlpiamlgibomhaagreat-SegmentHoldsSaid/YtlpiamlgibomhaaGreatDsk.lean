/-
  Dsj, SM9, SM10, US4, SM11, Dsk (merged for the claim).
-/
import Derived.Test.YtlpiamlgibomhaaGreatSM8
import Derived.Test.YtlpiamlgibomhaaGreatUS3
set_option linter.unusedSimpArgs false
set_option linter.unusedVariables false
namespace Go.Dg

def cwB:Bool:=(List.range 6).all fun n=>(List.range (n+1)).all fun j=>(List.range (j+1)).all fun k=>Nat.beq (bin n j*cw n j k) (60*bin (n-k) (j-k))
theorem Za6:cwB=true:=by decide
theorem Ztg {n j k:Nat} (hn:n≤5) (hj:j≤n) (hk:k≤j):bin n j*cw n j k=60*bin (n-k) (j-k):=by
  have h:=Za6
  unfold cwB at h
  simp only [List.all_eq_true,List.mem_range]at h
  exact Nat.eq_of_beq_eq_true (h n (by omega) j (by omega) k (by omega))
theorem Qzk (f:List Int) (n j:Nat) (h:j<n+1):(trans f 1 n).getD j 0=sm (fun i=>f.getD i 0*(bin (n-i) (j-i):Int)) (j+1):=by
  unfold trans
  rw [Qmy,if_pos h]
  refine Qa8 _ fun i _=> ?_
  rw [Int.one_pow,Int.one_mul]
theorem Qm2 {c:List Int} {n j:Nat} (hc:c.length=n+1) (hn:n≤5) (hj:j≤n):(bin n j:Int)*ctl c j=60*(trans c 1 n).getD j 0:=by
  rw [Qzk c n j (by omega),ctl,←Qc6,←Qc6]
  refine Qa8 _ fun k hk=> ?_
  have h:=Ztg hn hj (show k≤j by omega)
  have hn':c.length-1=n:=by omega
  rw [hn']
  have h2:((bin n j:Nat):Int)*(cw n j k:Int)=60*(bin (n-k) (j-k):Int):=by
    rw [←Int.natCast_mul,h,Int.natCast_mul];rfl
  calc (bin n j:Int)*(c.getD k 0*(cw n j k:Int))=c.getD k 0*((bin n j:Int)*(cw n j k:Int)):=by
        rw [←Int.mul_assoc,Int.mul_comm (bin n j:Int),Int.mul_assoc]
    _=c.getD k 0*(60*(bin (n-k) (j-k):Int)):=by rw [h2]
    _=60*(c.getD k 0*(bin (n-k) (j-k):Int)):=by rw [←Int.mul_assoc,Int.mul_comm (c.getD k 0),Int.mul_assoc]
theorem Zjx {c:List Int} {n:Nat} (hc:c.length=n+1) (hn:n≤5) (a b:Int):60*hev c a (a+b)=sm (fun j=>ctl c j*((bin n j:Int)*(a^j*b^(n-j)))) (n+1):=by
  have h:=Qfj hc 1 a b
  rw [Int.one_mul]at h
  rw [←h,Qh2,Qe5,←Qc6]
  refine Qa8 _ fun j hj=> ?_
  have h2:=Qm2 hc hn (show j≤n by omega)
  have e:n+1-1-j=n-j:=by omega
  rw [e,←Int.mul_assoc 60,←h2,Int.mul_comm (bin n j:Int),Int.mul_assoc]
theorem Q21 {c:List Int} {n:Nat} {M a b:Int} (hc:c.length=n+1) (hn:n≤5) (ha:0≤a) (hb:0≤b) (hM: ∀j,j≤n→ -M≤ctl c j∧ctl c j≤M):
    -(M*(a+b)^n)≤60*hev c a (a+b)∧60*hev c a (a+b)≤M*(a+b)^n:=by
  have hw: ∀j,0≤(bin n j:Int)*(a^j*b^(n-j)):=fun j=>Int.mul_nonneg (Int.natCast_nonneg _) (Int.mul_nonneg (Int.pow_nonneg ha) (Int.pow_nonneg hb))
  rw [Zjx hc hn,←Qmx a b n,←Qc6]
  constructor
  · have e: -(sm (fun i=>M*((bin n i:Int)*(a^i*b^(n-i)))) (n+1))=sm (fun i=> -M*((bin n i:Int)*(a^i*b^(n-i)))) (n+1):=by
      rw [Qc6,Qc6,Int.neg_mul]
    rw [e]
    exact Q2o _ fun j hj=>Int.mul_le_mul_of_nonneg_right (hM j (by omega)).1 (hw j)
  · exact Q2o _ fun j hj=>Int.mul_le_mul_of_nonneg_right (hM j (by omega)).2 (hw j)
theorem Qux {c:List Int} {n:Nat} (hc:c.length=n+1) (hn:n≤5) (a d:Int):plc c a d=d^(5-n)*hev c a d:=by
  rw [Qh2,←Qc6,plc]
  refine Qa8 _ fun k hk=> ?_
  have e:5-k=(5-n)+(c.length-1-k):=by omega
  unfold plcT
  rw [e,Int.pow_add]
  generalize d^(5-n)=D
  generalize d^(c.length-1-k)=E
  generalize a^k=A
  generalize c.getD k 0=X
  rw [←Int.mul_assoc,←Int.mul_assoc,←Int.mul_assoc,←Int.mul_assoc,Int.mul_comm D X,Int.mul_assoc X A D,Int.mul_comm A D,←Int.mul_assoc]
theorem Q22 {c:List Int} {o a d:Int} (h:axOK c o=true) (ha:0≤a) (hd:a≤d): -(1048576*(o*d^5))≤plc c a d∧plc c a d≤1048576*(o*d^5):=by
  obtain⟨h1,h2,_,h3⟩:=Qb5 h
  obtain⟨n,hn⟩: ∃n,c.length=n+1:=⟨c.length-1,by omega⟩
  have hM: ∀j,j≤n→ -(62914560*o)≤ctl c j∧ctl c j≤62914560*o:=by
    intro j hj
    unfold Qc4 at h3
    have:=List.all_eq_true.1 h3 j (List.mem_range.2 (by omega))
    simp only [decide_eq_true_eq]at this
    omega
  obtain⟨k1,k2⟩:=Q21 hn (by omega) ha (show 0≤d-a by omega) hM
  have e:a+(d-a)=d:=by omega
  rw [e]at k1 k2
  rw [Qux hn (by omega)]
  have hd0:0≤d^(5-n):=Int.pow_nonneg (by omega)
  have e5:d^5=d^(5-n)*d^n:=by rw [←Int.pow_add];congr 1;omega
  have k3: -(1048576*(o*d^n))≤hev c a d:=by
    have:62914560*o*d^n=60*(1048576*(o*d^n)):=by
      generalize d^n=D
      rw [Int.mul_assoc,show(62914560:Int)=60*1048576 from rfl,Int.mul_assoc]
    omega
  have k4:hev c a d≤1048576*(o*d^n):=by
    have:62914560*o*d^n=60*(1048576*(o*d^n)):=by
      generalize d^n=D
      rw [Int.mul_assoc,show(62914560:Int)=60*1048576 from rfl,Int.mul_assoc]
    omega
  have e6:1048576*(o*d^5)=d^(5-n)*(1048576*(o*d^n)):=by
    rw [e5]
    generalize d^(5-n)=D
    generalize d^n=E
    rw [←Int.mul_assoc o,Int.mul_comm o D,Int.mul_assoc D,←Int.mul_assoc 1048576,Int.mul_comm 1048576 D,Int.mul_assoc]
  rw [e6]
  constructor
  · rw [←Int.mul_neg];exact Int.mul_le_mul_of_nonneg_left k3 hd0
  · exact Int.mul_le_mul_of_nonneg_left k4 hd0
theorem Zjy (s:Sg) (a d:Int):(plG s a d 3:Int)∣s.o*d^5∧ ∀i,i<3→(plG s a d 3:Int)∣plP s a d i:=by
  have h3:=Qde s a d 2
  have h2:=Qde s a d 1
  have h1:=Qde s a d 0
  have d32:plG s a d 3∣plG s a d 2:=by rw [h3];exact Nat.gcd_dvd_left _ _
  have d21:plG s a d 2∣plG s a d 1:=by rw [h2];exact Nat.gcd_dvd_left _ _
  have d10:plG s a d 1∣plG s a d 0:=by rw [h1];exact Nat.gcd_dvd_left _ _
  have p2:plG s a d 3∣(plP s a d 2).natAbs:=by rw [h3];exact Nat.gcd_dvd_right _ _
  have p1:plG s a d 2∣(plP s a d 1).natAbs:=by rw [h2];exact Nat.gcd_dvd_right _ _
  have p0:plG s a d 1∣(plP s a d 0).natAbs:=by rw [h1];exact Nat.gcd_dvd_right _ _
  refine⟨?_,fun i hi=> ?_⟩
  · have:plG s a d 3∣(s.o*d^5).natAbs:=Nat.dvd_trans d32 (Nat.dvd_trans d21 d10)
    exact Int.dvd_natAbs.1 (Int.natCast_dvd_natCast.2 this)
  · rcases(show i=0∨i=1∨i=2 by omega)with rfl|rfl|rfl
    · exact Int.dvd_natAbs.1 (Int.natCast_dvd_natCast.2 (Nat.dvd_trans (Nat.dvd_trans d32 d21) p0))
    · exact Int.dvd_natAbs.1 (Int.natCast_dvd_natCast.2 (Nat.dvd_trans d32 p1))
    · exact Int.dvd_natAbs.1 (Int.natCast_dvd_natCast.2 p2)
/-- A coordinate of a place is within the bounds. -/
theorem Q23 {s:Sg} {a d:Int} (hv:Qav s=true) (ha:0≤a) (hd:a≤d) (h1:1≤d) (i:Nat) (hi:i<3):0<plO s a d∧ -(1048576*plO s a d)≤plQ s a d i∧plQ s a d i≤1048576*plO s a d:=by
  have ho:=Qdy hv
  have hg:=Qus ho h1 3 (s:=s) (a:=a)
  obtain⟨⟨x,hx⟩,hP⟩:=Zjy s a d
  obtain⟨y,hy⟩:=hP i hi
  have hi':i<s.ax.length:=hi
  have hm:s.ax.getD i []=s.ax[i]:=by rw [List.getD_eq_getElem?_getD,List.getElem?_eq_getElem hi'];rfl
  have hb:=Q22 ((Qao hv).2.1 _ (List.getElem_mem hi')) ha hd
  have hP2:plP s a d i=plc s.ax[i] a d:=by unfold plP;rw [hm]
  rw [←hP2]at hb
  unfold plO plQ
  have hpos:0<s.o*d^5:=Int.mul_pos (by omega) (Int.pow_pos (by omega))
  rw [hx]at hb hpos ⊢
  rw [hy]at hb ⊢
  have hG:(0:Int)<(plG s a d 3:Int):=by omega
  generalize ((plG s a d 3:Nat):Int)=G at*
  rw [Int.mul_ediv_cancel_left _ (by omega),Int.mul_ediv_cancel_left _ (by omega)]
  have e:1048576*(G*x)=G*(1048576*x):=by rw [←Int.mul_assoc,Int.mul_comm 1048576 G,Int.mul_assoc]
  rw [e,←Int.mul_neg]at hb
  exact⟨Int.lt_of_mul_lt_mul_left (a:=G) (by rw [Int.mul_zero];exact hpos) (Int.le_of_lt hG),Int.le_of_mul_le_mul_left hb.1 hG,Int.le_of_mul_le_mul_left hb.2 hG⟩
/-- Rounding. -/
def rnd (x o:Int):Int:=(x+x+o)/(o+o)
theorem Q24 {x o:Int} (ho:0<o) (h1: -(1048576*o)≤x) (h2:x≤1048576*o): -1048576≤rnd x o∧rnd x o≤1048576:=by
  unfold rnd
  constructor
  · exact(Int.le_ediv_iff_mul_le (by omega)).2 (by omega)
  · have:=(Int.ediv_lt_iff_lt_mul (a:=x+x+o) (b:=1048577) (show 0<o+o by omega)).2 (by omega)
    omega
/-! ### times -/
theorem Qba {p:List Sg} (h:Qa4 p=true):vpTo p p.length=true∧1≤p.length∧p.length≤256:=by
  unfold Qa4 at h
  simp only [Bool.and_eq_true,decide_eq_true_eq]at h
  exact h
theorem Qbp {p:List Sg} (h:Qa4 p=true) (i:Nat) (hi:i<p.length):Qav p[i]=true:=by
  have:=Qka (Qba h).1 hi
  rwa [sgD hi]at this
theorem Qcs {p:List Sg} (h:Qa4 p=true) (i:Nat) (hi:i+1<p.length):Qc1 p[i] p[i+1]=true:=by
  have h1:=(Qba h).1
  unfold vpTo at h1
  have:=List.all_eq_true.1 h1 (i+1) (List.mem_range.2 hi)
  unfold vpAt at this
  simp only [Bool.and_eq_true,Bool.or_eq_true,decide_eq_true_eq]at this
  have h2:=this.2.resolve_left (by omega)
  rwa [Nat.add_sub_cancel,sgD (show i<p.length by omega),sgD hi]at h2
theorem Qm3 {a b:Sg} (h:Qc1 a b=true):a.t=b.f:=by
  unfold Qc1 at h
  simp only [Bool.and_eq_true,decide_eq_true_eq]at h
  exact h.1
theorem Qm4 {p:List Sg} (h:Qa4 p=true) (i:Nat) (hi:i+1<p.length):p[i].t<p[i+1].t:=by
  have h1:=Qm3 (Qcs h i hi)
  have h2:=(Qao (Qbp h (i+1) hi)).1
  omega
theorem Qdo {p:List Sg} (h:Qa4 p=true): ∀(j i:Nat) (hj:j<p.length) (_:i≤j),(p[i]'(by omega)).t≤p[j].t
  |0,i,hj,hij=>by obtain rfl:i=0:=by omega
                  exact Int.le_refl _
  |j+1,i,hj,hij=>by
    by_cases e:i=j+1
    · subst e;exact Int.le_refl _
    · have h1:=Qdo h j i (by omega) (by omega)
      have h2:=Qm4 h j hj
      omega
/-- The segment of a time. -/
def atIx (p:List Sg) (t:Int):Nat:=p.findIdx fun s=>decide (t≤s.t)
def pEnd (p:List Sg):Int:=(p.getD (p.length-1) sg0).t
def pBeg (p:List Sg):Int:=(p.getD 0 sg0).f
theorem Quy {p:List Sg} {t:Int} (h:Qa4 p=true) (ht:t≤pEnd p):atIx p t<p.length:=by
  have hl:=(Qba h).2.1
  unfold atIx
  rw [List.findIdx_lt_length]
  have hi:p.length-1<p.length:=by omega
  refine⟨p[p.length-1],List.getElem_mem hi,?_⟩
  unfold pEnd at ht
  rw [sgD hi]at ht
  exact decide_eq_true ht
theorem Qkc {p:List Sg} {t:Int} (hi:atIx p t<p.length):t≤(p[atIx p t]).t:=by
  have:=List.findIdx_getElem (w:=hi)
  exact of_decide_eq_true this
theorem Qf0 {p:List Sg} {t:Int} {i:Nat} (hi:i<atIx p t) (hl:i<p.length):p[i].t<t:=by
  have:=List.not_of_lt_findIdx hi
  exact Int.not_le.1 (of_decide_eq_false this)
theorem Qm5 {p:List Sg} {t:Int} (h:Qa4 p=true) (hb:pBeg p≤t) (hi:atIx p t<p.length):(p[atIx p t]).f≤t:=by
  rcases Nat.eq_zero_or_pos (atIx p t)with e|e
  · unfold pBeg at hb
    have h0:0<p.length:=by omega
    rw [sgD h0]at hb
    simp only [e]
    exact hb
  · have h1:=Qf0 (p:=p) (t:=t) (i:=atIx p t-1) (by omega) (by omega)
    have h2:=Qm3 (Qcs h (atIx p t-1) (by omega))
    have e2:atIx p t-1+1=atIx p t:=by omega
    simp only [e2]at h2
    omega
end Go.Dg

namespace Go.Proofs.YtlpiamlgibomhaaGreat
open Go.Vl Go.RowKit Go.Dg
theorem Qf5:((0:Int) != 0)=false:=rfl
theorem Qi7:((0:Int)==0)=true:=rfl
theorem Ztp:((1:Int) != 0)=true:=rfl
theorem Ztq:((1:Int)==0)=false:=rfl
theorem Zbz:((2:Int) != 0)=true:=rfl
theorem Ztr:((2:Int)==0)=false:=rfl
theorem Zts:((3:Int) != 0)=true:=rfl
theorem Zqs:((3:Int)==0)=false:=rfl
theorem Q4k:((7:Int) != 0)=true:=rfl
theorem Zb0:((7:Int)==0)=false:=rfl
theorem Zqt:((9:Int) != 0)=true:=rfl
theorem Ztt:((9:Int)==0)=false:=rfl
theorem Zqu:((10:Int) != 0)=true:=rfl
theorem Zqv:((10:Int)==0)=false:=rfl
attribute [go_sem] Qf5 Qi7 Ztp Ztq Zbz Ztr Zts Zqs Q4k Zb0 Zqt Ztt Zqu Zqv
theorem Qx2 (p:List Sg) (h:0<p.length):Qaf Tryz.prog 32 [Qan p] (.int .i64 (pBeg p)):=by
 have hg:=Qci p 0 h
 have e:pBeg p=p[0].f:=by unfold pBeg;rw [sgD h]
 rw [e]
 refine Qac (tb:=[]) 7 [.tmp 2] [0,2] mixed Tryz.func32 rfl (by kernel_rfl) (by kernel_rfl) (by kernel_rfl) (by kernel_rfl) ?_
 repeat (first|(simp -implicitDefEqProofs only [go_sem,Nat.reduceAdd,Nat.reduceMul,Nat.reduceEqDiff,Nat.reduceLT,Nat.reduceLeDiff,reduceCtorEq,hg,List.length_map]))
theorem Zir (p:List Sg) (h:0<p.length) (hl:p.length≤1000000000):Qaf Tryz.prog 33 [Qan p] (.int .i64 (pEnd p)):=by
 have hi:p.length-1<p.length:=by omega
 have hg:=Qci p (p.length-1) hi
 have wl:=Qd0 (n:=p.length) h (by omega)
 have n1:=nnT (p.length-1)
 have e:pEnd p=p[p.length-1].t:=by unfold pEnd;rw [sgD hi]
 rw [e]
 refine Qac (tb:=[]) 10 [.tmp 2] [0,2] mixed Tryz.func33 rfl (by kernel_rfl) (by kernel_rfl) (by kernel_rfl) (by kernel_rfl) ?_
 repeat (first|(simp -implicitDefEqProofs only [go_sem,Nat.reduceAdd,Nat.reduceMul,Nat.reduceEqDiff,Nat.reduceLT,Nat.reduceLeDiff,reduceCtorEq,hg,wl,n1,Int.toNat_natCast,List.length_map]))
def lasts (p:List Sg) (t:Int):Bool:=decide (pBeg p≤t)&&decide (t≤pEnd p)
theorem Qx3 (p:List Sg) (t:Int) (h:0<p.length) (hl:p.length≤1000000000):Qaf Tryz.prog 18 [Qan p,.int .i64 t] (.bool (lasts p t)):=by
 have t1:=Qx2 p h
 have t2:=Zir p h hl
 unfold Qan at t1 t2
 unfold lasts
 by_cases c:pBeg p≤t
 ·have c':=eq_true c
  rw [decide_eq_true c,Bool.true_and]
  refine Qac (tb:=[]) 15 [.tmp 4] [0,1,4] mixed Tryz.func18 rfl (by kernel_rfl) (by kernel_rfl) (by kernel_rfl) (by kernel_rfl) ?_
  repeat (first|(simp -implicitDefEqProofs only [go_sem,Nat.reduceAdd,Nat.reduceMul,Nat.reduceEqDiff,Nat.reduceLT,Nat.reduceLeDiff,reduceCtorEq,c'])|((with_reducible refine Qab (t1) ?_ ?_ ?_);(with_reducible rfl);rfl)|((with_reducible refine Qab (t2) ?_ ?_ ?_);(with_reducible rfl);rfl))
 ·have c':=eq_false c
  rw [decide_eq_false c,Bool.false_and]
  refine Qac (tb:=[]) 15 [.tmp 4] [0,1,4] mixed Tryz.func18 rfl (by kernel_rfl) (by kernel_rfl) (by kernel_rfl) (by kernel_rfl) ?_
  repeat (first|(simp -implicitDefEqProofs only [go_sem,Nat.reduceAdd,Nat.reduceMul,Nat.reduceEqDiff,Nat.reduceLT,Nat.reduceLeDiff,reduceCtorEq,c'])|((with_reducible refine Qab (t1) ?_ ?_ ?_);(with_reducible rfl);rfl))
theorem Qq9 (p:List Sg) (hp: ∀s∈p,okSg s) (hl:p.length≤1000000):Qaf Tryz.prog 29 [Qan p] (if Qa4 p=true then .tup [.int .i64 (pBeg p),.int .i64 (pEnd p),.int .i64 0]else .tup [.int .i64 0,.int .i64 0,.int .i64 2]):=by
 have hv:=Qcu p hp hl
 unfold Qan at hv
 cases hV:Qa4 p with
 |false=>
  rw [hV]at hv
  refine Qac (tb:=[]) 19 [.tmp 2,.tmp 3,.tmp 4] [0,2,3,4,7] mixed Tryz.func29 rfl (by kernel_rfl) (by kernel_rfl) (by kernel_rfl) (by kernel_rfl) ?_
  repeat (first|(simp -implicitDefEqProofs only [go_sem,Nat.reduceAdd,Nat.reduceMul,Nat.reduceEqDiff,Nat.reduceLT,Nat.reduceLeDiff,reduceCtorEq,Bool.false_eq_true])|((with_reducible refine Qab (hv) ?_ ?_ ?_);(with_reducible rfl);rfl)|(with_reducible exact Qaa _ _ (by kernel_rfl))|(with_reducible refine And.intro (Qaa _ _ (by kernel_rfl)) ?_))
 |true=>
  have h:=(Qba hV).2.1
  have hi:p.length-1<p.length:=by omega
  have hg0:=Qci p 0 (by omega)
  have hg:=Qci p (p.length-1) hi
  have wl:=Qd0 (n:=p.length) (by omega) (by omega)
  have n1:=nnT (p.length-1)
  have e1:pEnd p=p[p.length-1].t:=by unfold pEnd;rw [sgD hi]
  have e2:pBeg p=p[0].f:=by unfold pBeg;rw [sgD (by omega)]
  rw [e1,e2]
  rw [hV]at hv
  refine Qac (tb:=[]) 19 [.tmp 2,.tmp 3,.tmp 4] [0,2,3,4,7] mixed Tryz.func29 rfl (by kernel_rfl) (by kernel_rfl) (by kernel_rfl) (by kernel_rfl) ?_
  repeat (first|(simp -implicitDefEqProofs only [go_sem,Nat.reduceAdd,Nat.reduceMul,Nat.reduceEqDiff,Nat.reduceLT,Nat.reduceLeDiff,reduceCtorEq,hg,hg0,wl,n1,Int.toNat_natCast,List.length_map])|((with_reducible refine Qab (hv) ?_ ?_ ?_);(with_reducible rfl);rfl)|(with_reducible exact Qaa _ _ (by kernel_rfl))|(with_reducible refine And.intro (Qaa _ _ (by kernel_rfl)) ?_))
theorem Zb1 (n m:Nat) (f:FuncId) (cap:List PV) (Pr:Nat→Bool) (hn:n≤1000000000) (hm:m≤n) (h1: ∀i,i<m→Pr i=false) (h2: ∀i,m≤i→i<n→Pr i=true)
  (hc:Qfq cap (fun _=>none)=some ((cap,[]),[])) (hcr:ren1 [] (.fn f [] cap)=some (.fn f [] cap)) (hf: ∀i:Nat,i<n→Qaf Tryz.prog f (.int .i64 (i:Int)::cap) (.bool (Pr i))):Qaf Tryz.prog 58 [.int .i64 (n:Int),.fn f [] cap] (.int .i64 (m:Int)):=by
 refine Qac (tb:=[]) 26 [.tmp 4] [0,1,4,5,6,7,11,21] mixed Tryz.func58 rfl (by kernel_rfl) (by kernel_rfl) (by kernel_rfl) (by kernel_rfl) ?_
 repeat (first|(simp -implicitDefEqProofs only [go_sem,Nat.reduceAdd,Nat.reduceMul,Nat.reduceEqDiff,Nat.reduceLT,Nat.reduceLeDiff,reduceCtorEq,if_true]))
 have z0:0≤m∧m≤n∧n≤n:=⟨Nat.zero_le _,hm,Nat.le_refl _⟩
 refine Qas mixed (fun x:{x:Nat×Nat // x.1≤m∧m≤x.2∧x.2≤n}=>St.of [(0,.int .i64 (n:Int)),(1,.fn f [] cap),(5,.int .i64 (x.1.1:Int)),(6,.int .i64 (x.1.2:Int))] []) (fun x=>x.1.2-x.1.1) ⟨(0,n),z0⟩ ?_ ?_
 ·exact Qa3 ⟨by simp [lkp,ren1,ren0],by simp only [lkp];exact hcr,by simp [lkp,ren1,ren0],by simp [lkp,ren1,ren0],trivial⟩
 ·rintro⟨⟨i,j⟩,hi,hj,hjn⟩
  simp only at hi hj hjn
  by_cases hA:i<j
  ·have hA':=ltT hA
   have w1:IntKind.i64.wrap ((i:Int)+(j:Int))=((i+j:Nat):Int):=by rw [Qai (by omega) (by omega)];omega
   have w2:IntKind.u64.wrap ((i+j:Nat):Int)=((i+j:Nat):Int):=Qje (by omega)
   have w3:(((i+j:Nat):Int)).fdiv (2^min 1 64)=(((i+j)/2:Nat):Int):=by
    rw [Int.fdiv_eq_ediv_of_nonneg _ (by decide)];rfl
   have w4:IntKind.i64.wrap (((i+j)/2:Nat):Int)=(((i+j)/2:Nat):Int):=wrapn (by omega)
   have hh:(i+j)/2<n:=by omega
   have hfh:=hf ((i+j)/2) hh
   have w5:=Qah (a:=(i+j)/2) (by omega)
   generalize hH:(i+j)/2=h at*
   by_cases hmh:h<m
   ·rw [h1 h hmh]at hfh
    repeat (first|(simp -implicitDefEqProofs only [go_sem,Nat.reduceAdd,Nat.reduceMul,Nat.reduceEqDiff,Nat.reduceLT,Nat.reduceLeDiff,reduceCtorEq,Int.reduceLT,Int.reduceToNat,hA',w1,w2,w3,w4,w5,hc])|((with_reducible refine Qab (hfh) ?_ ?_ ?_);(with_reducible rfl);rfl))
    refine⟨⟨(h+1,j),by simp only;omega,hj,hjn⟩,by simp only;omega,Qa3 ⟨by simp [lkp,ren1,ren0],by simp only [lkp];exact hcr,by simp [lkp,ren1,ren0],by simp [lkp,ren1,ren0],trivial⟩⟩
   ·rw [h2 h (by omega) hh]at hfh
    repeat (first|(simp -implicitDefEqProofs only [go_sem,Nat.reduceAdd,Nat.reduceMul,Nat.reduceEqDiff,Nat.reduceLT,Nat.reduceLeDiff,reduceCtorEq,Int.reduceLT,Int.reduceToNat,hA',w1,w2,w3,w4,hc])|((with_reducible refine Qab (hfh) ?_ ?_ ?_);(with_reducible rfl);rfl))
    refine⟨⟨(i,h),hi,by simp only;omega,by simp only;omega⟩,by simp only;omega,Qa3 ⟨by simp [lkp,ren1,ren0],by simp only [lkp];exact hcr,by simp [lkp,ren1,ren0],by simp [lkp,ren1,ren0],trivial⟩⟩
  ·have hA':=ltF hA
   obtain rfl:i=m:=by omega
   repeat (first|(simp -implicitDefEqProofs only [go_sem,Nat.reduceAdd,Nat.reduceMul,Nat.reduceEqDiff,Nat.reduceLT,Nat.reduceLeDiff,reduceCtorEq,hA']))
theorem Zb2 (p:List Sg) (t:Int) (i:Nat) (h:i<p.length):Qaf Tryz.prog 59 [.int .i64 (i:Int),.rp [.int .i64 t],.rp [.slc (p.map sgPV)]] (.bool (decide (t≤p[i].t))):=by
 have hg:=Qci p i h
 have n0:=nnT i
 refine Qac (tb:=[]) 12 [.tmp 4] [0,1,2,4] mixed Tryz.func59 rfl (by kernel_rfl) (by kernel_rfl) (by kernel_rfl) (by kernel_rfl) ?_
 repeat (first|(simp -implicitDefEqProofs only [go_sem,Nat.reduceAdd,Nat.reduceMul,Nat.reduceEqDiff,Nat.reduceLT,Nat.reduceLeDiff,reduceCtorEq,hg,n0,Int.toNat_natCast])|(with_reducible exact Qaa _ _ (by kernel_rfl))|(with_reducible refine And.intro (Qaa _ _ (by kernel_rfl)) ?_))
def Qnn:PV:= .agg [.bool false,.str ⟨#[]⟩,.bool false,.str ⟨#[]⟩,.bool false,.str ⟨#[]⟩,.bool false,.str ⟨#[]⟩]
attribute [go_sem] Qnn
def exA (p:List Sg) (t:Int):Int:=t-(p.getD (atIx p t) sg0).f
def exD (p:List Sg) (t:Int):Int:=(p.getD (atIx p t) sg0).t-(p.getD (atIx p t) sg0).f
def exQ (p:List Sg) (t:Int) (i:Nat):Int:=plQ (p.getD (atIx p t) sg0) (exA p t) (exD p t) i
def exO (p:List Sg) (t:Int):Int:=plO (p.getD (atIx p t) sg0) (exA p t) (exD p t)
def Qno (p:List Sg) (t:Int):PV:=if Qa4 p=true then(if lasts p t=true then .tup [Qae (exQ p t 0) (exQ p t 1) (exQ p t 2) (exO p t),.int .i64 0]else .tup [Qnn,.int .i64 3])else .tup [Qnn,.int .i64 2]
theorem Qra {p:List Sg} {t:Int} (hV:Qa4 p=true) (hL:lasts p t=true): ∃h:atIx p t<p.length,exA p t=t-p[atIx p t].f∧exD p t=p[atIx p t].t-p[atIx p t].f∧0≤exA p t∧exA p t≤exD p t∧1≤exD p t∧exD p t≤3600000∧Qav p[atIx p t]=true∧p.getD (atIx p t) sg0=p[atIx p t]:=by
 unfold lasts at hL
 simp only [Bool.and_eq_true,decide_eq_true_eq]at hL
 have hi:=Quy hV hL.2
 have h1:=Qkc hi
 have h2:=Qm5 hV hL.1 hi
 have hv:=Qbp hV _ hi
 have h3:=(Qao hv).1
 have e1:exA p t=t-p[atIx p t].f:=by unfold exA;rw [sgD hi]
 have e2:exD p t=p[atIx p t].t-p[atIx p t].f:=by unfold exD;rw [sgD hi]
 exact⟨hi,e1,e2,by omega,by omega,by omega,by omega,hv,sgD hi⟩
set_option maxHeartbeats 1000000 in
theorem Qrb (p:List Sg) (t:Int) (hp: ∀s∈p,okSg s) (hl:p.length≤1000000) (ht:i64 t):Qaf Tryz.prog 15 [Qan p,.int .i64 t] (Qno p t):=by
 have hs:=Qq9 p hp hl
 unfold Qan at hs
 unfold Qno
 cases hV:Qa4 p with
 |false=>
  rw [hV]at hs
  simp only [Bool.false_eq_true,if_false]at hs ⊢
  refine Qac (tb:=[]) 49 [.cell 4 33,.tmp 5] [0,1,2,3,4,5,6,7,8,9,16,21] mixed Tryz.func15 rfl (by kernel_rfl) (by kernel_rfl) (by kernel_rfl) (by kernel_rfl) ?_
  repeat (first|(simp -implicitDefEqProofs only [go_sem,Nat.reduceAdd,Nat.reduceMul,Nat.reduceEqDiff,Nat.reduceLT,Nat.reduceLeDiff,reduceCtorEq,List.length_map])|((with_reducible refine Qab (hs) ?_ ?_ ?_);(with_reducible rfl);rfl)|(with_reducible exact Qaa _ _ (by kernel_rfl))|(with_reducible refine And.intro (Qaa _ _ (by kernel_rfl)) ?_))
 |true=>
  rw [hV]at hs
  simp only [if_true]at hs ⊢
  by_cases c1:pBeg p≤t
  case neg=>
   have c1':(t<pBeg p)=True:=eq_true (by omega)
   have e:lasts p t=false:=by unfold lasts;rw [decide_eq_false c1];rfl
   rw [e]
   simp only [Bool.false_eq_true,if_false]
   refine Qac (tb:=[]) 49 [.cell 4 33,.tmp 5] [0,1,2,3,4,5,6,7,8,9,16,21] mixed Tryz.func15 rfl (by kernel_rfl) (by kernel_rfl) (by kernel_rfl) (by kernel_rfl) ?_
   repeat (first|(simp -implicitDefEqProofs only [go_sem,Nat.reduceAdd,Nat.reduceMul,Nat.reduceEqDiff,Nat.reduceLT,Nat.reduceLeDiff,reduceCtorEq,List.length_map,c1'])|((with_reducible refine Qab (hs) ?_ ?_ ?_);(with_reducible rfl);rfl)|(with_reducible exact Qaa _ _ (by kernel_rfl))|(with_reducible refine And.intro (Qaa _ _ (by kernel_rfl)) ?_))
  have c1':(t<pBeg p)=False:=eq_false (by omega)
  by_cases c2:t≤pEnd p
  case neg=>
   have c2':(pEnd p<t)=True:=eq_true (by omega)
   have e:lasts p t=false:=by unfold lasts;rw [decide_eq_false c2,Bool.and_false]
   rw [e]
   simp only [Bool.false_eq_true,if_false]
   refine Qac (tb:=[]) 49 [.cell 4 33,.tmp 5] [0,1,2,3,4,5,6,7,8,9,16,21] mixed Tryz.func15 rfl (by kernel_rfl) (by kernel_rfl) (by kernel_rfl) (by kernel_rfl) ?_
   repeat (first|(simp -implicitDefEqProofs only [go_sem,Nat.reduceAdd,Nat.reduceMul,Nat.reduceEqDiff,Nat.reduceLT,Nat.reduceLeDiff,reduceCtorEq,List.length_map,c1',c2'])|((with_reducible refine Qab (hs) ?_ ?_ ?_);(with_reducible rfl);rfl)|(with_reducible exact Qaa _ _ (by kernel_rfl))|(with_reducible refine And.intro (Qaa _ _ (by kernel_rfl)) ?_))
  have c2':(pEnd p<t)=False:=eq_false (by omega)
  have hL:lasts p t=true:=by unfold lasts;rw [decide_eq_true c1,decide_eq_true c2];rfl
  rw [hL]
  simp only [if_true]
  obtain⟨hi,eA,eD,k1,k2,k3,k4,hv,hD⟩:=Qra hV hL
  have hsr:=Zb1 p.length (atIx p t) 59 [.rp [.int .i64 t],.rp [.slc (p.map sgPV)]] (fun i=>decide (t≤(p.getD i sg0).t)) (by omega) (Nat.le_of_lt hi)
   (fun i h=>by rw [sgD (by omega)];exact decide_eq_false (Int.not_le.2 (Qf0 h (by omega))))
   (fun i h h'=>by rw [sgD h'];exact decide_eq_true (Int.le_trans (Qkc hi) (Qdo hV i _ h' h))) rfl rfl
   (fun i h=>by rw [sgD h];exact Zb2 p t i h)
  have hpl:=Qq7 p[atIx p t] (exA p t) (exD p t) (hp _ (List.getElem_mem hi)) (Qch hv) (Qdy hv) (by unfold i64;omega) (by unfold i64;omega) (by omega)
  rw [Zip]at hpl
  unfold exQ exO
  rw [hD]
  have hg:=Qci p (atIx p t) hi
  have n0:=nnT (atIx p t)
  have wa:IntKind.i64.wrap (t-p[atIx p t].f)=exA p t:=by rw [eA];exact Qai (by omega) (by omega)
  have wd:IntKind.i64.wrap (p[atIx p t].t-p[atIx p t].f)=exD p t:=by rw [eD];exact Qai (by omega) (by omega)
  generalize plQ p[atIx p t] (exA p t) (exD p t) 0=q0 at*
  generalize plQ p[atIx p t] (exA p t) (exD p t) 1=q1 at*
  generalize plQ p[atIx p t] (exA p t) (exD p t) 2=q2 at*
  generalize plO p[atIx p t] (exA p t) (exD p t)=q3 at*
  unfold sgPV Qaq at hpl
  refine Qac (tb:=[]) 49 [.cell 4 33,.tmp 5] [0,1,2,3,4,5,6,7,8,9,16,21] mixed Tryz.func15 rfl (by kernel_rfl) (by kernel_rfl) (by kernel_rfl) (by kernel_rfl) ?_
  repeat (first|(simp -implicitDefEqProofs only [go_sem,Nat.reduceAdd,Nat.reduceMul,Nat.reduceEqDiff,Nat.reduceLT,Nat.reduceLeDiff,reduceCtorEq,List.length_map,c1',c2',hg,n0,wa,wd,Int.toNat_natCast])|((with_reducible refine Qab (hs) ?_ ?_ ?_);(with_reducible rfl);rfl)|((with_reducible refine Qab (hsr) ?_ ?_ ?_);(with_reducible rfl);rfl)|((with_reducible refine Qab (hpl) ?_ ?_ ?_);(with_reducible rfl);rfl)|(with_reducible exact Qaa _ _ (by kernel_rfl))|(with_reducible refine And.intro (Qaa _ _ (by kernel_rfl)) ?_))
theorem Zb3 (p:List Sg) (t:Int): [exQ p t 0,exQ p t 1,exQ p t 2]=(Qln fun i=>plP (p.getD (atIx p t) sg0) (exA p t) (exD p t) i/(plG (p.getD (atIx p t) sg0) (exA p t) (exD p t) 3:Int)):=rfl
theorem Zb4 (p:List Sg) (t:Int) (hp: ∀s∈p,okSg s) (hl:p.length≤1000000) (ht:i64 t) (hV:Qa4 p=true) (hL:lasts p t=true):Qaf Tryz.prog 19 [Qan p,.int .i64 t] (Qec [exQ p t 0,exQ p t 1,exQ p t 2] (exO p t)):=by
 obtain⟨hi,eA,eD,k1,k2,k3,k4,hv,hD⟩:=Qra hV hL
 have hw:=Qq8 p[atIx p t] (exA p t) (exD p t) (hp _ (List.getElem_mem hi)) (Qch hv) (Qdy hv) (by unfold i64;omega) (by unfold i64;omega) (by omega)
 have eO:(p[atIx p t].o*exD p t^5/(plG p[atIx p t] (exA p t) (exD p t) 3:Int))=exO p t:=by unfold exO plO;rw [hD]
 rw [eO,←hD,←Zb3,hD]at hw
 have hg:=Qci p (atIx p t) hi
 have n0:=nnT (atIx p t)
 have wa:IntKind.i64.wrap (t-p[atIx p t].f)=exA p t:=by rw [eA];exact Qai (by omega) (by omega)
 have wd:IntKind.i64.wrap (p[atIx p t].t-p[atIx p t].f)=exD p t:=by rw [eD];exact Qai (by omega) (by omega)
 have hat:=eq_true (Qkc hi)
 have hbf: ∀i (h:i<atIx p t) (h2:i<p.length),(t≤p[i].t)=False:=fun i h h2=>eq_false (Int.not_le.2 (Qf0 h h2))
 generalize [exQ p t 0,exQ p t 1,exQ p t 2]=QL at*
 generalize exO p t=QO at*
 unfold Qec at hw ⊢
 unfold sgPV Qaq at hw
 clear eO
 refine Qac (tb:=[]) 43 [.cell 4 46] [0,1,4,5,9,18] mixed Tryz.func19 rfl (by kernel_rfl) (by kernel_rfl) (by kernel_rfl) (by kernel_rfl) ?_
 repeat (first|(simp -implicitDefEqProofs only [go_sem,Nat.reduceAdd,Nat.reduceMul,Nat.reduceEqDiff,Nat.reduceLT,Nat.reduceLeDiff,reduceCtorEq,List.length_map])|(with_reducible exact Qaa _ _ (by kernel_rfl))|(with_reducible refine And.intro (Qaa _ _ (by kernel_rfl)) ?_))
 refine Qas mixed (fun i:{i:Nat // i≤atIx p t}=>St.of [(0,Qan p),(1,.int .i64 t),(4,.bp 0 3 0 0),(5,.int .i64 (i.1:Int))] [(0,{els:=[.agg [.nilS,.bool false,.nilS]],esz:=3,ety:=46,fro:=0,live:=true,arr:=false})]) (fun i=>p.length-i.1) ⟨0,Nat.zero_le _⟩ ?_ ?_
 ·refine Qak (θ:=[(0,0)]) rfl ?_ ?_
  ·simp [Qad,lkp,ren1,ren0,Qam,Qan]
  ·exact⟨⟨rfl,rfl,rfl,rfl,rfl,.inr ⟨rfl,_,_,rfl,rfl,rfl,rfl⟩⟩,trivial⟩
 ·rintro⟨i,hix⟩
  have hA:i<p.length:=by omega
  have hA':=ltT hA
  have n1:=nnT i
  have hwk:=Qah (a:=i) (by omega)
  by_cases hE:i=atIx p t
  ·subst hE
   repeat (first|(simp -implicitDefEqProofs only [go_sem,Nat.reduceAdd,Nat.reduceMul,Nat.reduceEqDiff,Nat.reduceLT,Nat.reduceLeDiff,reduceCtorEq,di,hA',n0,hg,hat,wa,wd,Int.toNat_natCast,List.length_map])|((with_reducible refine Qab (hw) ?_ ?_ ?_);(with_reducible rfl);rfl)|(with_reducible exact Qaa _ _ (by kernel_rfl))|(with_reducible refine And.intro (Qaa _ _ (by kernel_rfl)) ?_))
  ·have hg1:=Qci p i hA
   have hb:=hbf i (by omega) hA
   repeat (first|(simp -implicitDefEqProofs only [go_sem,Nat.reduceAdd,Nat.reduceMul,Nat.reduceEqDiff,Nat.reduceLT,Nat.reduceLeDiff,reduceCtorEq,hA',n1,hg1,hb,hwk,Int.toNat_natCast,List.length_map])|(with_reducible exact Qaa _ _ (by kernel_rfl))|(with_reducible refine And.intro (Qaa _ _ (by kernel_rfl)) ?_))
   refine⟨⟨i+1,by omega⟩,by simp only;omega,Qak (θ:=[(0,0)]) rfl ?_ ?_⟩
   ·simp [Qad,lkp,ren1,ren0,Qam,Qan]
   ·exact⟨⟨rfl,rfl,rfl,rfl,rfl,.inr ⟨rfl,_,_,rfl,rfl,rfl,rfl⟩⟩,trivial⟩
end Go.Proofs.YtlpiamlgibomhaaGreat

namespace Go.Proofs.YtlpiamlgibomhaaGreat
open Go.Vl Go.RowKit Go.Dg
def vPV (x y z:Int):PV:= .agg [.int .i64 x,.int .i64 y,.int .i64 z]
attribute [go_sem] vPV
theorem Qu2 {x o:Int} {B:Nat} (hx:x.natAbs<2^B) (ho:o.natAbs<2^B):(x+x+o).natAbs<2^(B+1+1):=
 Qpt (Qpt hx hx) (Nat.lt_of_lt_of_le ho (Nat.pow_le_pow_right (by decide) (by omega)))
theorem Zqe {p:List Sg} {t:Int} (hp: ∀s∈p,okSg s) (hV:Qa4 p=true) (hL:lasts p t=true):(∀i,i<3→(exQ p t i).natAbs<2^2000∧ -1048576≤rnd (exQ p t i) (exO p t)∧rnd (exQ p t i) (exO p t)≤1048576)∧(exO p t).natAbs<2^2000∧0<exO p t:=by
 obtain⟨hi,eA,eD,k1,k2,k3,k4,hv,hD⟩:=Qra hV hL
 have b:=Q4i (a:=exA p t) (d:=exD p t) (hp _ (List.getElem_mem hi)) (Qch hv) (Qdy hv) (by unfold i64;omega) (by unfold i64;omega) (by omega)
 have b2:=fun i h=>Q23 hv k1 k2 k3 i h
 unfold exQ exO
 rw [hD]
 refine⟨fun i h=>⟨b.1 i h,?_⟩,b.2,(b2 0 (by decide)).1⟩
 obtain⟨h1,h2,h3⟩:=b2 i h
 exact Q24 h1 h2 h3
def atPV (p:List Sg) (t:Int):PV:=if Qa4 p=true then(if lasts p t=true then .tup [vPV (rnd (exQ p t 0) (exO p t)) (rnd (exQ p t 1) (exO p t)) (rnd (exQ p t 2) (exO p t)),.int .i64 0]else .tup [vPV 0 0 0,.int .i64 3])else .tup [vPV 0 0 0,.int .i64 2]
def sel3 (R:Nat→Int) (i m:Nat):Int:=if m<i then R m else 0
set_option maxHeartbeats 1000000 in
theorem Zqf (p:List Sg) (t:Int) (hp: ∀s∈p,okSg s) (hl:p.length≤1000000) (ht:i64 t):Qaf Tryz.prog 16 [Qan p,.int .i64 t] (atPV p t):=by
 have he:=Qrb p t hp hl ht
 unfold Qno at he
 unfold atPV
 unfold Qan at he
 cases hV:Qa4 p with
 |false=>
  rw [hV]at he
  simp only [Bool.false_eq_true,if_false]at he ⊢
  refine Qac (tb:=[]) 58 [.cell 4 38,.tmp 5] [0,1,4,5,6,7,8,9,10,18,27,28,29] mixed Tryz.func16 rfl (by kernel_rfl) (by kernel_rfl) (by kernel_rfl) (by kernel_rfl) ?_
  repeat (first|(simp -implicitDefEqProofs only [go_sem,Nat.reduceAdd,Nat.reduceMul,Nat.reduceEqDiff,Nat.reduceLT,Nat.reduceLeDiff,reduceCtorEq,List.length_map])|((with_reducible refine Qab (he) ?_ ?_ ?_);(with_reducible rfl);rfl)|(with_reducible exact Qaa _ _ (by kernel_rfl))|(with_reducible refine And.intro (Qaa _ _ (by kernel_rfl)) ?_))
 |true=>
  cases hL:lasts p t with
  |false=>
   rw [hV,hL]at he
   simp only [Bool.false_eq_true,if_false,if_true]at he ⊢
   refine Qac (tb:=[]) 58 [.cell 4 38,.tmp 5] [0,1,4,5,6,7,8,9,10,18,27,28,29] mixed Tryz.func16 rfl (by kernel_rfl) (by kernel_rfl) (by kernel_rfl) (by kernel_rfl) ?_
   repeat (first|(simp -implicitDefEqProofs only [go_sem,Nat.reduceAdd,Nat.reduceMul,Nat.reduceEqDiff,Nat.reduceLT,Nat.reduceLeDiff,reduceCtorEq,List.length_map])|((with_reducible refine Qab (he) ?_ ?_ ?_);(with_reducible rfl);rfl)|(with_reducible exact Qaa _ _ (by kernel_rfl))|(with_reducible refine And.intro (Qaa _ _ (by kernel_rfl)) ?_))
  |true=>
   rw [hV,hL]at he
   simp only [if_true]at he ⊢
   obtain⟨hb,ho,h0⟩:=Zqe hp hV hL
   have hb0:=hb 0 (by decide)
   have hbb1:=hb 1 (by decide)
   have hb2:=hb 2 (by decide)
   clear hb
   generalize exQ p t 0=x0 at*
   generalize exQ p t 1=x1 at*
   generalize exQ p t 2=x2 at*
   generalize exO p t=o at*
   have b3:=Qpt ho ho
   have a3:=Qgw (Qau ho (by decide)) (Qau ho (by decide)) (Qau b3 (by decide))
   refine Qac (tb:=[]) 58 [.cell 4 38,.tmp 5] [0,1,4,5,6,7,8,9,10,18,27,28,29] mixed Tryz.func16 rfl (by kernel_rfl) (by kernel_rfl) (by kernel_rfl) (by kernel_rfl) ?_
   repeat (first|(simp -implicitDefEqProofs only [go_sem,Nat.reduceAdd,Nat.reduceMul,Nat.reduceEqDiff,Nat.reduceLT,Nat.reduceLeDiff,reduceCtorEq,List.length_map])|((with_reducible refine Qab (he) ?_ ?_ ?_);(with_reducible rfl);rfl)|(with_reducible exact Qaa _ _ (by kernel_rfl))|(with_reducible refine And.intro (Qaa _ _ (by kernel_rfl)) ?_))
   refine Qas mixed (fun i:{i:Nat // i≤3}=>St.of [(4,.bp 0 3 0 0),(5,.int .i64 0),(6,.bp 106 8 0 0),(8,.bp 400 3 0 0),(27,w3PV x0 x1 x2),(28,.int .i64 (i.1:Int))]
    [(0,{els:=[vPV 0 0 0],esz:=3,ety:=38,fro:=0,live:=true,arr:=false}),(106,{els:=[Qae x0 x1 x2 o],esz:=8,ety:=33,fro:=0,live:=true,arr:=false}),(400,{els:=[vPV (sel3 (fun m=>rnd ([x0,x1,x2].getD m 0) o) i.1 0) (sel3 (fun m=>rnd ([x0,x1,x2].getD m 0) o) i.1 1) (sel3 (fun m=>rnd ([x0,x1,x2].getD m 0) o) i.1 2)],esz:=3,ety:=92,fro:=0,live:=true,arr:=false})]) (fun i=>3-i.1) ⟨0,Nat.zero_le _⟩ ?_ ?_
   ·refine Qak (θ:=[(0,0),(106,106),(400,400)]) rfl ?_ ?_
    ·simp [Qad,lkp,ren1,ren0,Qam,w3PV]
    ·exact⟨⟨rfl,rfl,rfl,rfl,rfl,.inr ⟨rfl,_,_,rfl,rfl,rfl,rfl⟩⟩,⟨rfl,rfl,rfl,rfl,rfl,.inr ⟨rfl,_,_,rfl,rfl,rfl,rfl⟩⟩,⟨rfl,rfl,rfl,rfl,rfl,.inr ⟨rfl,_,_,rfl,rfl,rfl,rfl⟩⟩,trivial⟩
   ·rintro⟨i,hi⟩
    by_cases hA:i<3
    ·have hA':((i:Int)<3)=True:=eq_true (by omega)
     rcases(show i=0∨i=1∨i=2 by omega)with hi0|hi0|hi0
     ·obtain⟨hb1,hr1,hr2⟩:=hb0
      obtain rfl:i=0:=hi0
      have ii:Qdu (rnd x0 o)= .tup [.int .i64 (rnd x0 o),.int .i64 0]:=by unfold Qdu;rw [if_pos (by omega)]
      have wi:=Qnq (x:=rnd x0 o) (Qau (B:=64) (by have:(2:Nat)^64=18446744073709551616:=rfl;omega) (by decide))
      rw [ii]at wi
      have b1:=Qpt hb1 hb1
      have b2:=Qu2 hb1 ho
      have a1:=Qgw (Qau hb1 (by decide)) (Qau hb1 (by decide)) (Qau b1 (by decide))
      have a2:=Qgw (Qau b1 (by decide)) (Qau ho (by decide)) (Qau b2 (by decide))
      have q:=Qi2 b2 (by decide) (Qps b3 (by decide)) (show 0<o+o by omega)
      have er:(x0+x0+o)/(o+o)=rnd x0 o:=rfl
      rw [er]at q
      clear er b1 b2 ii
      generalize hR:rnd x0 o=R at*
      generalize x0+x0+o=S at*
      generalize x0+x0=S1 at*
      generalize o+o=S2 at*
      repeat (first|(simp -implicitDefEqProofs only [go_sem,Nat.reduceAdd,Nat.reduceMul,Nat.reduceEqDiff,Nat.reduceLT,Nat.reduceLeDiff,Nat.reduceSub,reduceCtorEq,Int.reduceLT,Int.reduceAdd,hA',wPV,sel3,Nat.reduceLT])|((with_reducible refine Qab (a1) ?_ ?_ ?_);(with_reducible rfl);rfl)|((with_reducible refine Qab (a2) ?_ ?_ ?_);(with_reducible rfl);rfl)|((with_reducible refine Qab (a3) ?_ ?_ ?_);(with_reducible rfl);rfl)|((with_reducible refine Qab (q) ?_ ?_ ?_);(with_reducible rfl);rfl)|((with_reducible refine Qab (wi) ?_ ?_ ?_);(with_reducible rfl);rfl)|(with_reducible exact Qaa _ _ (by kernel_rfl))|(with_reducible refine And.intro (Qaa _ _ (by kernel_rfl)) ?_))
      refine⟨⟨0+1,hA⟩,by simp only;omega,Qak (θ:=[(0,0),(106,106),(400,400)]) rfl ?_ ?_⟩
      ·simp [Qad,lkp,ren1,ren0,Qam]
      ·subst hR
       exact⟨⟨rfl,rfl,rfl,rfl,rfl,.inr ⟨rfl,_,_,rfl,rfl,rfl,rfl⟩⟩,⟨rfl,rfl,rfl,rfl,rfl,.inr ⟨rfl,_,_,rfl,rfl,rfl,rfl⟩⟩,⟨rfl,rfl,rfl,rfl,rfl,.inr ⟨rfl,_,_,rfl,rfl,rfl,rfl⟩⟩,trivial⟩
     ·obtain⟨hb1,hr1,hr2⟩:=hbb1
      obtain rfl:i=1:=hi0
      have ii:Qdu (rnd x1 o)= .tup [.int .i64 (rnd x1 o),.int .i64 0]:=by unfold Qdu;rw [if_pos (by omega)]
      have wi:=Qnq (x:=rnd x1 o) (Qau (B:=64) (by have:(2:Nat)^64=18446744073709551616:=rfl;omega) (by decide))
      rw [ii]at wi
      have b1:=Qpt hb1 hb1
      have b2:=Qu2 hb1 ho
      have a1:=Qgw (Qau hb1 (by decide)) (Qau hb1 (by decide)) (Qau b1 (by decide))
      have a2:=Qgw (Qau b1 (by decide)) (Qau ho (by decide)) (Qau b2 (by decide))
      have q:=Qi2 b2 (by decide) (Qps b3 (by decide)) (show 0<o+o by omega)
      have er:(x1+x1+o)/(o+o)=rnd x1 o:=rfl
      rw [er]at q
      clear er b1 b2 ii
      generalize hR:rnd x1 o=R at*
      generalize x1+x1+o=S at*
      generalize x1+x1=S1 at*
      generalize o+o=S2 at*
      repeat (first|(simp -implicitDefEqProofs only [go_sem,Nat.reduceAdd,Nat.reduceMul,Nat.reduceEqDiff,Nat.reduceLT,Nat.reduceLeDiff,Nat.reduceSub,reduceCtorEq,Int.reduceLE,Int.reduceLT,Int.reduceToNat,Int.reduceAdd,hA',wPV,sel3,Nat.reduceLT])|((with_reducible refine Qab (a1) ?_ ?_ ?_);(with_reducible rfl);rfl)|((with_reducible refine Qab (a2) ?_ ?_ ?_);(with_reducible rfl);rfl)|((with_reducible refine Qab (a3) ?_ ?_ ?_);(with_reducible rfl);rfl)|((with_reducible refine Qab (q) ?_ ?_ ?_);(with_reducible rfl);rfl)|((with_reducible refine Qab (wi) ?_ ?_ ?_);(with_reducible rfl);rfl)|(with_reducible exact Qaa _ _ (by kernel_rfl))|(with_reducible refine And.intro (Qaa _ _ (by kernel_rfl)) ?_))
      refine⟨⟨1+1,hA⟩,by simp only;omega,Qak (θ:=[(0,0),(106,106),(400,400)]) rfl ?_ ?_⟩
      ·simp [Qad,lkp,ren1,ren0,Qam]
      ·subst hR
       exact⟨⟨rfl,rfl,rfl,rfl,rfl,.inr ⟨rfl,_,_,rfl,rfl,rfl,rfl⟩⟩,⟨rfl,rfl,rfl,rfl,rfl,.inr ⟨rfl,_,_,rfl,rfl,rfl,rfl⟩⟩,⟨rfl,rfl,rfl,rfl,rfl,.inr ⟨rfl,_,_,rfl,rfl,rfl,rfl⟩⟩,trivial⟩
     ·obtain⟨hb1,hr1,hr2⟩:=hb2
      obtain rfl:i=2:=hi0
      have ii:Qdu (rnd x2 o)= .tup [.int .i64 (rnd x2 o),.int .i64 0]:=by unfold Qdu;rw [if_pos (by omega)]
      have wi:=Qnq (x:=rnd x2 o) (Qau (B:=64) (by have:(2:Nat)^64=18446744073709551616:=rfl;omega) (by decide))
      rw [ii]at wi
      have b1:=Qpt hb1 hb1
      have b2:=Qu2 hb1 ho
      have a1:=Qgw (Qau hb1 (by decide)) (Qau hb1 (by decide)) (Qau b1 (by decide))
      have a2:=Qgw (Qau b1 (by decide)) (Qau ho (by decide)) (Qau b2 (by decide))
      have q:=Qi2 b2 (by decide) (Qps b3 (by decide)) (show 0<o+o by omega)
      have er:(x2+x2+o)/(o+o)=rnd x2 o:=rfl
      rw [er]at q
      clear er b1 b2 ii
      generalize hR:rnd x2 o=R at*
      generalize x2+x2+o=S at*
      generalize x2+x2=S1 at*
      generalize o+o=S2 at*
      repeat (first|(simp -implicitDefEqProofs only [go_sem,Nat.reduceAdd,Nat.reduceMul,Nat.reduceEqDiff,Nat.reduceLT,Nat.reduceLeDiff,Nat.reduceSub,reduceCtorEq,Int.reduceLE,Int.reduceLT,Int.reduceToNat,Int.reduceAdd,hA',wPV,sel3,Nat.reduceLT])|((with_reducible refine Qab (a1) ?_ ?_ ?_);(with_reducible rfl);rfl)|((with_reducible refine Qab (a2) ?_ ?_ ?_);(with_reducible rfl);rfl)|((with_reducible refine Qab (a3) ?_ ?_ ?_);(with_reducible rfl);rfl)|((with_reducible refine Qab (q) ?_ ?_ ?_);(with_reducible rfl);rfl)|((with_reducible refine Qab (wi) ?_ ?_ ?_);(with_reducible rfl);rfl)|(with_reducible exact Qaa _ _ (by kernel_rfl))|(with_reducible refine And.intro (Qaa _ _ (by kernel_rfl)) ?_))
      refine⟨⟨2+1,hA⟩,by simp only;omega,Qak (θ:=[(0,0),(106,106),(400,400)]) rfl ?_ ?_⟩
      ·simp [Qad,lkp,ren1,ren0,Qam]
      ·subst hR
       exact⟨⟨rfl,rfl,rfl,rfl,rfl,.inr ⟨rfl,_,_,rfl,rfl,rfl,rfl⟩⟩,⟨rfl,rfl,rfl,rfl,rfl,.inr ⟨rfl,_,_,rfl,rfl,rfl,rfl⟩⟩,⟨rfl,rfl,rfl,rfl,rfl,.inr ⟨rfl,_,_,rfl,rfl,rfl,rfl⟩⟩,trivial⟩
    ·have hA':((i:Int)<3)=False:=eq_false (by omega)
     obtain rfl:i=3:=by omega
     have z0:sel3 (fun m=>rnd ([x0,x1,x2].getD m 0) o) 3 0=rnd x0 o:=rfl
     have z1:sel3 (fun m=>rnd ([x0,x1,x2].getD m 0) o) 3 1=rnd x1 o:=rfl
     have z2:sel3 (fun m=>rnd ([x0,x1,x2].getD m 0) o) 3 2=rnd x2 o:=rfl
     simp only [z0,z1,z2]
     repeat (first|(simp -implicitDefEqProofs only [go_sem,Nat.reduceAdd,Nat.reduceMul,Nat.reduceEqDiff,Nat.reduceLT,Nat.reduceLeDiff,Nat.reduceSub,reduceCtorEq,Int.reduceLE,Int.reduceLT,Int.reduceToNat,hA'])|(with_reducible exact Qaa _ _ (by kernel_rfl))|(with_reducible refine And.intro (Qaa _ _ (by kernel_rfl)) ?_))
end Go.Proofs.YtlpiamlgibomhaaGreat

namespace Go.Vl
open Go.RowKit
variable {P:Program} {tb:Tab} {nt:Nat} {ks:List Nat} {ops:Array Oper} {base i:Nat} {rest:List Oper} {accs:List Acc} {draw:Bool} {k:List It} {Q:Exit→St→Prop} {st:St}
theorem Qbs {dst:Option Tmp} {f f':FuncId} {args args':List PV} {bxs bxsA:List (Nat×Box)} {es:List Eff} {θ ν:List (Nat×Nat)} {l:Acc} {r:PV} {bxs':List (Nat×Box)} (hs:Qcx P f' args' bxsA r bxs') (hf:f'=f) (ha:args'=args) (hb:bxsA=bxs)
  (h:gland P tb nt ks (land θ ν bxs' r) (Qlo r bxs') es l ops base i dst rest accs draw k Q st):Q9x P tb nt ks f args bxs es θ ν l ops base i dst rest accs draw k Q st:=by
 subst hf;subst ha;subst hb;exact Qbw _ _ _ _ _ _ _ _ _ hs h
end Go.Vl

namespace Go.Proofs.YtlpiamlgibomhaaGreat
open Go.Vl Go.RowKit Go.Dg
def dkB (ety:Nat):Box:={els:=[.agg [.int .i64 0]],esz:=1,ety:=ety,fro:=0,live:=true,arr:=false}
attribute [go_sem] dkB
abbrev dkT:Nat:=190
theorem Zii (x:Int):Qcx Tryz.prog 165 [.bp 1000000 1 0 0,wPV x,.int .i64 0] [(1000000,dkB dkT)] (wPV x) [(1000000,dkB dkT)]:=by
 refine Qb2 (tb:=[]) 17 [.cell 6 31] [0,1,2,4,6,11] mixed Tryz.func165 rfl (by kernel_rfl) (by kernel_rfl) (by kernel_rfl) (by kernel_rfl) (by rfl) ?_
 repeat (first|(simp -implicitDefEqProofs only [go_sem,Nat.reduceAdd,Nat.reduceMul,Nat.reduceEqDiff,Nat.reduceLT,Nat.reduceLeDiff,reduceCtorEq,wPV]))
 refine Qbm (.inl rfl) ?_
 simp -implicitDefEqProofs only [go_sem,Nat.reduceAdd,Nat.reduceEqDiff,reduceCtorEq]
 refine Qak (θ:=[(1000000,1000000)]) rfl ?_ ?_
 ·simp [Qad,lkp,ren1,ren0,Qam]
 ·exact⟨⟨rfl,rfl,rfl,rfl,rfl,.inr ⟨rfl,_,_,rfl,rfl,rfl,rfl⟩⟩,trivial⟩
theorem Qsp {x y:Int} (hx:x.natAbs<2^65536) (hy:y.natAbs<2^65536) (h:(x*y).natAbs<2^65536):Qcx Tryz.prog 143 [.bp 1000000 1 0 0,wPV x,wPV y] [(1000000,dkB dkT)] (wPV (x*y)) [(1000000,dkB dkT)]:=by
 have h1:=Ziu hx hy
 rw [Qi8 h]at h1
 have hn:=Zii (x*y)
 generalize x*y=S at*

 refine Qb2 (tb:=[(108,[(1000000,1000000)],[])]) 16 [.cell 6 31] [0,1,2,4,5,6] mixed Tryz.func143 rfl (by kernel_rfl) (by kernel_rfl) (by kernel_rfl) (by kernel_rfl) (by rfl) ?_
 repeat (first|(simp -implicitDefEqProofs only [go_sem,Nat.reduceAdd,Nat.reduceMul,Nat.reduceEqDiff,Nat.reduceLT,Nat.reduceLeDiff,reduceCtorEq,wPV])|((with_reducible refine Qab (h1) ?_ ?_ ?_);(with_reducible rfl);rfl)|((with_reducible refine Qbs (hn) ?_ ?_ ?_ ?_);(with_reducible rfl);rfl;rfl)|(with_reducible exact Qaa _ _ (by kernel_rfl))|(with_reducible refine And.intro (Qaa _ _ (by kernel_rfl)) ?_))
 refine Qbm (.inl rfl) ?_
 simp -implicitDefEqProofs only [go_sem,Nat.reduceAdd,Nat.reduceEqDiff,reduceCtorEq]
 refine Qak (θ:=[(1000000,1000000)]) rfl ?_ ?_
 ·simp [Qad,lkp,ren1,ren0,Qam]
 ·exact⟨⟨rfl,rfl,rfl,rfl,rfl,.inr ⟨rfl,_,_,rfl,rfl,rfl,rfl⟩⟩,trivial⟩
theorem Zij {x y:Int} (hx:x.natAbs<2^65536) (hy:y.natAbs<2^65536) (h:(x+y).natAbs<2^65536):Qcx Tryz.prog 144 [.bp 1000000 1 0 0,wPV x,wPV y] [(1000000,dkB dkT)] (wPV (x+y)) [(1000000,dkB dkT)]:=by
 have h1:=Ziv hx hy
 rw [Qi8 h]at h1
 have hn:=Zii (x+y)
 generalize x+y=S at*

 refine Qb2 (tb:=[(108,[(1000000,1000000)],[])]) 16 [.cell 6 31] [0,1,2,4,5,6] mixed Tryz.func144 rfl (by kernel_rfl) (by kernel_rfl) (by kernel_rfl) (by kernel_rfl) (by rfl) ?_
 repeat (first|(simp -implicitDefEqProofs only [go_sem,Nat.reduceAdd,Nat.reduceMul,Nat.reduceEqDiff,Nat.reduceLT,Nat.reduceLeDiff,reduceCtorEq,wPV])|((with_reducible refine Qab (h1) ?_ ?_ ?_);(with_reducible rfl);rfl)|((with_reducible refine Qbs (hn) ?_ ?_ ?_ ?_);(with_reducible rfl);rfl;rfl)|(with_reducible exact Qaa _ _ (by kernel_rfl))|(with_reducible refine And.intro (Qaa _ _ (by kernel_rfl)) ?_))
 refine Qbm (.inl rfl) ?_
 simp -implicitDefEqProofs only [go_sem,Nat.reduceAdd,Nat.reduceEqDiff,reduceCtorEq]
 refine Qak (θ:=[(1000000,1000000)]) rfl ?_ ?_
 ·simp [Qad,lkp,ren1,ren0,Qam]
 ·exact⟨⟨rfl,rfl,rfl,rfl,rfl,.inr ⟨rfl,_,_,rfl,rfl,rfl,rfl⟩⟩,trivial⟩
end Go.Proofs.YtlpiamlgibomhaaGreat

namespace Go.Dg
def nxE (out:List Int) (a b:Int) (k j:Nat):Int:=(if j<k then out.getD j 0*a else 0)+(if 0<j∧j≤k then out.getD (j-1) 0*b else 0)
def nxL (out:List Int) (a b:Int) (k:Nat):List Int:=(List.range (out.length+1)).map (nxE out a b k)
theorem Qdp (out:List Int) (a b:Int) (k:Nat):(nxL out a b k).length=out.length+1:=by simp [nxL]
theorem Za7 (out:List Int) (a b:Int):nxL out a b 0=List.replicate (out.length+1) 0:=by
 apply List.ext_getElem
 ·simp [nxL]
 ·intro i h1 h2
  simp only [nxL,List.getElem_map,List.getElem_range,List.getElem_replicate,nxE]
  rw [if_neg (by omega),if_neg (by omega)];rfl
theorem Zjz (out:List Int) (a b:Int) (k:Nat) (h:k<(nxL out a b k).length):(nxL out a b k)[k]=if 0<k then out.getD (k-1) 0*b else 0:=by
 simp only [nxL,List.getElem_map,List.getElem_range,nxE]
 rw [if_neg (Nat.lt_irrefl k),Int.zero_add]
 by_cases e:0<k
 ·rw [if_pos ⟨e,Nat.le_refl k⟩,if_pos e]
 ·rw [if_neg (fun h=>e h.1),if_neg e]
theorem Za8 (out:List Int) (a b:Int) (k:Nat) (h:k<out.length):
  ((nxL out a b k).set k ((if 0<k then out.getD (k-1) 0*b else 0)+out.getD k 0*a)).set (k+1) (out.getD k 0*b)=nxL out a b (k+1):=by
 apply List.ext_getElem
 ·simp [nxL]
 ·intro j h1 h2
  have hj:j<out.length+1:=by simpa [nxL]using h2
  simp only [List.getElem_set,nxL,List.getElem_map,List.getElem_range,nxE]
  by_cases e1:k+1=j
  ·subst e1
   rw [if_pos rfl,if_neg (Nat.lt_irrefl _),if_pos (by omega),Nat.add_sub_cancel,Int.zero_add]
  ·rw [if_neg e1]
   by_cases e2:k=j
   ·subst e2
    rw [if_pos rfl,if_pos (Nat.lt_succ_self k)]
    by_cases e:0<k
    ·rw [if_pos e,if_pos ⟨e,by omega⟩,Int.add_comm]
    ·rw [if_neg e,if_neg (fun h=>e h.1),Int.add_comm]
   ·rw [if_neg e2]
    by_cases e3:j<k
    ·have a1:j<k+1:=by omega
     rw [if_pos e3,if_pos a1]
     by_cases e4:0<j
     ·have a2:0<j∧j≤k:=⟨e4,by omega⟩
      have a3:0<j∧j≤k+1:=⟨e4,by omega⟩
      rw [if_pos a2,if_pos a3]
     ·have a2: ¬(0<j∧j≤k):=fun h=>e4 h.1
      have a3: ¬(0<j∧j≤k+1):=fun h=>e4 h.1
      rw [if_neg a2,if_neg a3]
    ·have a1: ¬j<k+1:=by omega
     have a2: ¬(0<j∧j≤k):=by omega
     have a3: ¬(0<j∧j≤k+1):=by omega
     rw [if_neg e3,if_neg a1,if_neg a2,if_neg a3]
def hstep (out:List Int) (a b c:Int):List Int:=(nxL out a b out.length).set 0 ((nxL out a b out.length).getD 0 0+c)
theorem Qsi (out:List Int) (a b c:Int):(hstep out a b c).length=out.length+1:=by simp [hstep,Qdp]
theorem Qxj (out:List Int) (a b:Int):nxL out a b out.length=zipA (out.map (· *a)) (0::out.map (· *b)):=by
 apply List.ext_getElem
 ·simp [nxL,zipA]
 ·intro j h1 h2
  have hj:j<out.length+1:=by simpa [nxL]using h1
  simp only [nxL,zipA,List.getElem_map,List.getElem_range,nxE]
  congr 1
  ·by_cases e:j<out.length
   ·rw [if_pos e,List.getD_eq_getElem?_getD,List.getD_eq_getElem?_getD,List.getElem?_map,List.getElem?_eq_getElem e];rfl
   ·rw [if_neg e,List.getD_eq_getElem?_getD,List.getElem?_eq_none (by rw [List.length_map];omega)];rfl
  ·cases j with
   |zero=>rw [if_neg (by omega)];rfl
   |succ j=>
    rw [if_pos (by omega),Nat.add_sub_cancel,List.getD_cons_succ,List.getD_eq_getElem?_getD,List.getD_eq_getElem?_getD,List.getElem?_map,List.getElem?_eq_getElem (show j<out.length by omega)];rfl
theorem Q25 (x:Int) (p:List Int) (u:Int):ev (x::p) u=x+u*ev p u:=by simp [ev]
theorem Zia (p:List Int) (c u:Int):ev (p.map (· *c)) u=ev p u*c:=by
 have:=Qmz p c u
 unfold Qeg at this
 rwa [Qe6]at this
theorem Zj0 (p q:List Int) (u:Int):ev (zipA p q) u=ev p u+ev q u:=by
 have:=Q2x p q u
 unfold pAdd at this
 rwa [Qe6]at this
theorem Zj1 (p:List Int) (c u:Int) (h:0<p.length):ev (p.set 0 (p.getD 0 0+c)) u=ev p u+c:=by
 cases p with
 |nil=>simp at h
 |cons x p=>simp only [List.set_cons_zero,List.getD_cons_zero,Q25];omega
theorem Za9 (out:List Int) (a b c u:Int):ev (hstep out a b c) u=ev out u*(a+b*u)+c:=by
 unfold hstep
 rw [Zj1 _ _ _ (by rw [Qdp];omega),Qxj,Zj0,Zia,Q25,Zia,Int.mul_add]
 congr 2
 rw [Int.zero_add,Int.mul_comm u,Int.mul_assoc]
def Qeb (p:List Int) (a b d:Int):Nat→List Int
 |0=>[p.getD (p.length-1) 0]
 |m+1=>hstep (Qeb p a b d m) a b (p.getD (p.length-1-(m+1)) 0*d^(m+1))
theorem Qk0 (p:List Int) (a b d:Int): ∀m,(Qeb p a b d m).length=m+1
 |0=>rfl
 |m+1=>by rw [Qeb,Qsi,Qk0 p a b d m]
theorem Qxk (p:List Int) (a b d u:Int) (hp:0<p.length): ∀m,m<p.length→ev (Qeb p a b d m) u=sm (fun k=>p.getD (p.length-1-m+k) 0*((a+b*u)^k*d^(m-k))) (m+1)
 |0,_=>by simp [Qeb,ev,sm]
 |m+1,hm=>by
  rw [Qeb,Za9,Qxk p a b d u hp m (by omega),Int.add_comm,←Qie]
  conv=>rhs;rw [Qiw]
  congr 1
  ·simp only [Nat.add_zero,Nat.sub_zero,Int.pow_zero,Int.one_mul]
  ·refine Qa8 _ fun k hk=> ?_
   have e1:p.length-1-m+k=p.length-1-(m+1)+(k+1):=by omega
   have e2:m+1-(k+1)=m-k:=by omega
   rw [e1,e2,Int.pow_succ]
   generalize p.getD (p.length-1-(m+1)+(k+1)) 0=X
   generalize (a+b*u)^k=Y
   generalize d^(m-k)=Z
   rw [Int.mul_assoc X,Int.mul_assoc Y,Int.mul_comm Z,←Int.mul_assoc Y]
theorem Qpf (p:List Int) (a b d:Int) (hp:0<p.length):Qaw (Qeb p a b d (p.length-1))=Qdb p a b d p.length:=by
 rw [←Qhk p a b d p.length]
 refine Qul _ _ fun u _=> ?_
 rw [Qxk p a b d u hp _ (by omega),Q3k,Qh2]
 have e:p.length-1+1=p.length:=by omega
 rw [e]
 refine Qa8 _ fun k _=> ?_
 rw [Nat.sub_self,Nat.zero_add]
theorem Zba {out:List Int} {a b c:Int} {X B:Nat} (ho:bd X out) (ha:a.natAbs<2^B) (hb:b.natAbs<2^B) (hc:c.natAbs<2^(X+B)):bd (X+B+2) (hstep out a b c):=by
 have p2:2^(X+B+2)=4*2^(X+B):=by rw [Nat.pow_add];omega
 have hA: ∀j,(out.getD j 0*a).natAbs<2^(X+B):=fun j=>by rw [Int.natAbs_mul,Nat.pow_add];exact Nat.mul_lt_mul'' (Qew ho j) ha
 have hB: ∀j,(out.getD j 0*b).natAbs<2^(X+B):=fun j=>by rw [Int.natAbs_mul,Nat.pow_add];exact Nat.mul_lt_mul'' (Qew ho j) hb
 have h0:0<2^(X+B):=Nat.two_pow_pos _
 have hn: ∀k j,(nxE out a b k j).natAbs<2*2^(X+B):=fun k j=>by
  have:=hA j
  have:=hB (j-1)
  unfold nxE
  split<;>split<;>omega
 intro x hx
 rw [p2]
 unfold hstep at hx
 rcases List.mem_or_eq_of_mem_set hx with h|h
 ·unfold nxL at h
  simp only [List.mem_map]at h
  obtain⟨j,_,rfl⟩:=h
  have:=hn out.length j
  omega
 ·have hg:((nxL out a b out.length).getD 0 0).natAbs<2*2^(X+B):=by
   unfold nxL
   rw [Qmy]
   split
   ·exact hn _ _
   ·show 0<_;omega
  omega
end Go.Dg
