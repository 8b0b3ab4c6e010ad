/-
  Dsj, HM9, HM10, HO1, HO2, UX2 (merged for the claim).
-/
import Derived.Test.YtciddhkfbgkejaaGreatDoorHM1
import Derived.Test.YtciddhkfbgkejaaGreatDoorHM8
import Derived.Test.YtciddhkfbgkejaaGreatDoorDwi
set_option linter.unusedSimpArgs false
set_option linter.unusedVariables false
namespace Go.Dg

def cwB:Bool:=(List.range 6).all fun n=>(List.range (n+1)).all fun j=>(List.range (j+1)).all fun k=>Nat.beq (bin n j*cw n j k) (60*bin (n-k) (j-k))
theorem Q39:cwB=true:=by decide
theorem Zjq {n j k:Nat} (hn:n≤5) (hj:j≤n) (hk:k≤j):bin n j*cw n j k=60*bin (n-k) (j-k):=by
  have h:=Q39
  unfold cwB at h
  simp only [List.all_eq_true,List.mem_range]at h
  exact Nat.eq_of_beq_eq_true (h n (by omega) j (by omega) k (by omega))
theorem Qub (f:List Int) (n j:Nat) (h:j<n+1):(trans f 1 n).getD j 0=sm (fun i=>f.getD i 0*(bin (n-i) (j-i):Int)) (j+1):=by
  unfold trans
  rw [Qw7,if_pos h]
  refine Qca _ fun i _=> ?_
  rw [Int.one_pow,Int.one_mul]
theorem Qxb {c:List Int} {n j:Nat} (hc:c.length=n+1) (hn:n≤5) (hj:j≤n):(bin n j:Int)*ctl c j=60*(trans c 1 n).getD j 0:=by
  rw [Qub c n j (by omega),ctl,←Qdx,←Qdx]
  refine Qca _ fun k hk=> ?_
  have h:=Zjq hn hj (show k≤j by omega)
  have hn':c.length-1=n:=by omega
  rw [hn']
  have h2:((bin n j:Nat):Int)*(cw n j k:Int)=60*(bin (n-k) (j-k):Int):=by
    rw [←Int.natCast_mul,h,Int.natCast_mul];rfl
  calc (bin n j:Int)*(c.getD k 0*(cw n j k:Int))=c.getD k 0*((bin n j:Int)*(cw n j k:Int)):=by
        rw [←Int.mul_assoc,Int.mul_comm (bin n j:Int),Int.mul_assoc]
    _=c.getD k 0*(60*(bin (n-k) (j-k):Int)):=by rw [h2]
    _=60*(c.getD k 0*(bin (n-k) (j-k):Int)):=by rw [←Int.mul_assoc,Int.mul_comm (c.getD k 0),Int.mul_assoc]
theorem Zbp {c:List Int} {n:Nat} (hc:c.length=n+1) (hn:n≤5) (a b:Int):60*hev c a (a+b)=sm (fun j=>ctl c j*((bin n j:Int)*(a^j*b^(n-j)))) (n+1):=by
  have h:=Qt9 hc 1 a b
  rw [Int.one_mul]at h
  rw [←h,Qon,Qoo,←Qdx]
  refine Qca _ fun j hj=> ?_
  have h2:=Qxb hc hn (show j≤n by omega)
  have e:n+1-1-j=n-j:=by omega
  rw [e,←Int.mul_assoc 60,←h2,Int.mul_comm (bin n j:Int),Int.mul_assoc]
theorem Qxc {c:List Int} {n:Nat} {M a b:Int} (hc:c.length=n+1) (hn:n≤5) (ha:0≤a) (hb:0≤b) (hM: ∀j,j≤n→ -M≤ctl c j∧ctl c j≤M):
    -(M*(a+b)^n)≤60*hev c a (a+b)∧60*hev c a (a+b)≤M*(a+b)^n:=by
  have hw: ∀j,0≤(bin n j:Int)*(a^j*b^(n-j)):=fun j=>Int.mul_nonneg (Int.natCast_nonneg _) (Int.mul_nonneg (Int.pow_nonneg ha) (Int.pow_nonneg hb))
  rw [Zbp hc hn,←Qqo a b n,←Qdx]
  constructor
  · have e: -(sm (fun i=>M*((bin n i:Int)*(a^i*b^(n-i)))) (n+1))=sm (fun i=> -M*((bin n i:Int)*(a^i*b^(n-i)))) (n+1):=by
      rw [Qdx,Qdx,Int.neg_mul]
    rw [e]
    exact Zbk _ fun j hj=>Int.mul_le_mul_of_nonneg_right (hM j (by omega)).1 (hw j)
  · exact Zbk _ fun j hj=>Int.mul_le_mul_of_nonneg_right (hM j (by omega)).2 (hw j)
theorem Zbq {c:List Int} {n:Nat} (hc:c.length=n+1) (hn:n≤5) (a d:Int):plc c a d=d^(5-n)*hev c a d:=by
  rw [Qon,←Qdx,plc]
  refine Qca _ fun k hk=> ?_
  have e:5-k=(5-n)+(c.length-1-k):=by omega
  unfold plcT
  rw [e,Int.pow_add]
  generalize d^(5-n)=D
  generalize d^(c.length-1-k)=E
  generalize a^k=A
  generalize c.getD k 0=X
  rw [←Int.mul_assoc,←Int.mul_assoc,←Int.mul_assoc,←Int.mul_assoc,Int.mul_comm D X,Int.mul_assoc X A D,Int.mul_comm A D,←Int.mul_assoc]
theorem Qxd {c:List Int} {o a d:Int} (h:axOK c o=true) (ha:0≤a) (hd:a≤d): -(1048576*(o*d^5))≤plc c a d∧plc c a d≤1048576*(o*d^5):=by
  obtain⟨h1,h2,_,h3⟩:=Qh3 h
  obtain⟨n,hn⟩: ∃n,c.length=n+1:=⟨c.length-1,by omega⟩
  have hM: ∀j,j≤n→ -(62914560*o)≤ctl c j∧ctl c j≤62914560*o:=by
    intro j hj
    unfold Qe6 at h3
    have:=List.all_eq_true.1 h3 j (List.mem_range.2 (by omega))
    simp only [decide_eq_true_eq]at this
    omega
  obtain⟨k1,k2⟩:=Qxc hn (by omega) ha (show 0≤d-a by omega) hM
  have e:a+(d-a)=d:=by omega
  rw [e]at k1 k2
  rw [Zbq hn (by omega)]
  have hd0:0≤d^(5-n):=Int.pow_nonneg (by omega)
  have e5:d^5=d^(5-n)*d^n:=by rw [←Int.pow_add];congr 1;omega
  have k3: -(1048576*(o*d^n))≤hev c a d:=by
    have:62914560*o*d^n=60*(1048576*(o*d^n)):=by
      generalize d^n=D
      rw [Int.mul_assoc,show(62914560:Int)=60*1048576 from rfl,Int.mul_assoc]
    omega
  have k4:hev c a d≤1048576*(o*d^n):=by
    have:62914560*o*d^n=60*(1048576*(o*d^n)):=by
      generalize d^n=D
      rw [Int.mul_assoc,show(62914560:Int)=60*1048576 from rfl,Int.mul_assoc]
    omega
  have e6:1048576*(o*d^5)=d^(5-n)*(1048576*(o*d^n)):=by
    rw [e5]
    generalize d^(5-n)=D
    generalize d^n=E
    rw [←Int.mul_assoc o,Int.mul_comm o D,Int.mul_assoc D,←Int.mul_assoc 1048576,Int.mul_comm 1048576 D,Int.mul_assoc]
  rw [e6]
  constructor
  · rw [←Int.mul_neg];exact Int.mul_le_mul_of_nonneg_left k3 hd0
  · exact Int.mul_le_mul_of_nonneg_left k4 hd0
theorem Zbr (s:Sg) (a d:Int):(plG s a d 3:Int)∣s.o*d^5∧ ∀i,i<3→(plG s a d 3:Int)∣plP s a d i:=by
  have h3:=Qdn s a d 2
  have h2:=Qdn s a d 1
  have h1:=Qdn s a d 0
  have d32:plG s a d 3∣plG s a d 2:=by rw [h3];exact Nat.gcd_dvd_left _ _
  have d21:plG s a d 2∣plG s a d 1:=by rw [h2];exact Nat.gcd_dvd_left _ _
  have d10:plG s a d 1∣plG s a d 0:=by rw [h1];exact Nat.gcd_dvd_left _ _
  have p2:plG s a d 3∣(plP s a d 2).natAbs:=by rw [h3];exact Nat.gcd_dvd_right _ _
  have p1:plG s a d 2∣(plP s a d 1).natAbs:=by rw [h2];exact Nat.gcd_dvd_right _ _
  have p0:plG s a d 1∣(plP s a d 0).natAbs:=by rw [h1];exact Nat.gcd_dvd_right _ _
  refine⟨?_,fun i hi=> ?_⟩
  · have:plG s a d 3∣(s.o*d^5).natAbs:=Nat.dvd_trans d32 (Nat.dvd_trans d21 d10)
    exact Int.dvd_natAbs.1 (Int.natCast_dvd_natCast.2 this)
  · rcases(show i=0∨i=1∨i=2 by omega)with rfl|rfl|rfl
    · exact Int.dvd_natAbs.1 (Int.natCast_dvd_natCast.2 (Nat.dvd_trans (Nat.dvd_trans d32 d21) p0))
    · exact Int.dvd_natAbs.1 (Int.natCast_dvd_natCast.2 (Nat.dvd_trans d32 p1))
    · exact Int.dvd_natAbs.1 (Int.natCast_dvd_natCast.2 p2)
/-- A coordinate of a place is within the bounds. -/
theorem Qxe {s:Sg} {a d:Int} (hv:Qbh s=true) (ha:0≤a) (hd:a≤d) (h1:1≤d) (i:Nat) (hi:i<3):0<plO s a d∧ -(1048576*plO s a d)≤plQ s a d i∧plQ s a d i≤1048576*plO s a d:=by
  have ho:=Qgz hv
  have hg:=Qqq ho h1 3 (s:=s) (a:=a)
  obtain⟨⟨x,hx⟩,hP⟩:=Zbr s a d
  obtain⟨y,hy⟩:=hP i hi
  have hi':i<s.ax.length:=hi
  have hm:s.ax.getD i []=s.ax[i]:=by rw [List.getD_eq_getElem?_getD,List.getElem?_eq_getElem hi'];rfl
  have hb:=Qxd ((Qbb hv).2.1 _ (List.getElem_mem hi')) ha hd
  have hP2:plP s a d i=plc s.ax[i] a d:=by unfold plP;rw [hm]
  rw [←hP2]at hb
  unfold plO plQ
  have hpos:0<s.o*d^5:=Int.mul_pos (by omega) (Int.pow_pos (by omega))
  rw [hx]at hb hpos ⊢
  rw [hy]at hb ⊢
  have hG:(0:Int)<(plG s a d 3:Int):=by omega
  generalize ((plG s a d 3:Nat):Int)=G at*
  rw [Int.mul_ediv_cancel_left _ (by omega),Int.mul_ediv_cancel_left _ (by omega)]
  have e:1048576*(G*x)=G*(1048576*x):=by rw [←Int.mul_assoc,Int.mul_comm 1048576 G,Int.mul_assoc]
  rw [e,←Int.mul_neg]at hb
  exact⟨Int.lt_of_mul_lt_mul_left (a:=G) (by rw [Int.mul_zero];exact hpos) (Int.le_of_lt hG),Int.le_of_mul_le_mul_left hb.1 hG,Int.le_of_mul_le_mul_left hb.2 hG⟩
/-- Rounding. -/
def rnd (x o:Int):Int:=(x+x+o)/(o+o)
theorem Qxf {x o:Int} (ho:0<o) (h1: -(1048576*o)≤x) (h2:x≤1048576*o): -1048576≤rnd x o∧rnd x o≤1048576:=by
  unfold rnd
  constructor
  · exact(Int.le_ediv_iff_mul_le (by omega)).2 (by omega)
  · have:=(Int.ediv_lt_iff_lt_mul (a:=x+x+o) (b:=1048577) (show 0<o+o by omega)).2 (by omega)
    omega
/-! ### times -/
theorem Qdc {p:List Sg} (h:Qbn p=true):vpTo p p.length=true∧1≤p.length∧p.length≤256:=by
  unfold Qbn at h
  simp only [Bool.and_eq_true,decide_eq_true_eq]at h
  exact h
theorem Qcp {p:List Sg} (h:Qbn p=true) (i:Nat) (hi:i<p.length):Qbh p[i]=true:=by
  have:=Qlw (Qdc h).1 hi
  rwa [sgD hi]at this
theorem Qdd {p:List Sg} (h:Qbn p=true) (i:Nat) (hi:i+1<p.length):Qgx p[i] p[i+1]=true:=by
  have h1:=(Qdc h).1
  unfold vpTo at h1
  have:=List.all_eq_true.1 h1 (i+1) (List.mem_range.2 hi)
  unfold vpAt at this
  simp only [Bool.and_eq_true,Bool.or_eq_true,decide_eq_true_eq]at this
  have h2:=this.2.resolve_left (by omega)
  rwa [Nat.add_sub_cancel,sgD (show i<p.length by omega),sgD hi]at h2
theorem Qdy {a b:Sg} (h:Qgx a b=true):a.t=b.f:=by
  unfold Qgx at h
  simp only [Bool.and_eq_true,decide_eq_true_eq]at h
  exact h.1
theorem Qj3 {p:List Sg} (h:Qbn p=true) (i:Nat) (hi:i+1<p.length):p[i].t<p[i+1].t:=by
  have h1:=Qdy (Qdd h i hi)
  have h2:=(Qbb (Qcp h (i+1) hi)).1
  omega
theorem Qc2 {p:List Sg} (h:Qbn p=true): ∀(j i:Nat) (hj:j<p.length) (_:i≤j),(p[i]'(by omega)).t≤p[j].t
  |0,i,hj,hij=>by
        obtain rfl:i=0:=by omega
        exact Int.le_refl _
  |j+1,i,hj,hij=>by
    by_cases e:i=j+1
    · subst e;exact Int.le_refl _
    · have h1:=Qc2 h j i (by omega) (by omega)
      have h2:=Qj3 h j hj
      omega
/-- The segment of a time. -/
def atIx (p:List Sg) (t:Int):Nat:=p.findIdx fun s=>decide (t≤s.t)
def pEnd (p:List Sg):Int:=(p.getD (p.length-1) sg0).t
def pBeg (p:List Sg):Int:=(p.getD 0 sg0).f
theorem Qxg {p:List Sg} {t:Int} (h:Qbn p=true) (ht:t≤pEnd p):atIx p t<p.length:=by
  have hl:=(Qdc h).2.1
  unfold atIx
  rw [List.findIdx_lt_length]
  have hi:p.length-1<p.length:=by omega
  refine⟨p[p.length-1],List.getElem_mem hi,?_⟩
  unfold pEnd at ht
  rw [sgD hi]at ht
  exact decide_eq_true ht
theorem Qqr {p:List Sg} {t:Int} (hi:atIx p t<p.length):t≤(p[atIx p t]).t:=by
  have:=List.findIdx_getElem (w:=hi)
  exact of_decide_eq_true this
theorem Qeo {p:List Sg} {t:Int} {i:Nat} (hi:i<atIx p t) (hl:i<p.length):p[i].t<t:=by
  have:=List.not_of_lt_findIdx hi
  exact Int.not_le.1 (of_decide_eq_false this)
theorem Qxh {p:List Sg} {t:Int} (h:Qbn p=true) (hb:pBeg p≤t) (hi:atIx p t<p.length):(p[atIx p t]).f≤t:=by
  rcases Nat.eq_zero_or_pos (atIx p t)with e|e
  · unfold pBeg at hb
    have h0:0<p.length:=by omega
    rw [sgD h0]at hb
    simp only [e]
    exact hb
  · have h1:=Qeo (p:=p) (t:=t) (i:=atIx p t-1) (by omega) (by omega)
    have h2:=Qdy (Qdd h (atIx p t-1) (by omega))
    have e2:atIx p t-1+1=atIx p t:=by omega
    simp only [e2]at h2
    omega
end Go.Dg

namespace Go.Proofs.YtciddhkfbgkejaaGreatDoor
open Go.Vl Go.RowKit Go.Dg
theorem Qq2:((0:Int) != 0)=false:=rfl
theorem Qui:((0:Int)==0)=true:=rfl
theorem Zjw:((1:Int) != 0)=true:=rfl
theorem Zjx:((1:Int)==0)=false:=rfl
theorem Zca:((2:Int) != 0)=true:=rfl
theorem Zjy:((2:Int)==0)=false:=rfl
theorem Zjz:((3:Int) != 0)=true:=rfl
theorem Zj0:((3:Int)==0)=false:=rfl
theorem Zj1:((7:Int) != 0)=true:=rfl
theorem Zj2:((7:Int)==0)=false:=rfl
theorem Zj3:((9:Int) != 0)=true:=rfl
theorem Zj4:((9:Int)==0)=false:=rfl
theorem Zhb:((10:Int) != 0)=true:=rfl
theorem Zhc:((10:Int)==0)=false:=rfl
attribute [go_sem] Qq2 Qui Zjw Zjx Zca Zjy Zjz Zj0 Zj1 Zj2 Zj3 Zj4 Zhb Zhc
def lasts (p:List Sg) (t:Int):Bool:=decide (pBeg p≤t)&&decide (t≤pEnd p)
theorem Zcb (p:List Sg) (hp: ∀s∈p,okSg s) (hl:p.length≤1000000):Qag Tryz.prog 88 [Qdz p] (if Qbn p=true then .tup [.int .i64 (pBeg p),.int .i64 (pEnd p),.int .i64 0]else .tup [.int .i64 0,.int .i64 0,.int .i64 2]):=by
 have hv:=Qio p hp hl
 unfold Qdz at hv
 cases hV:Qbn p with
 |false=>
  rw [hV]at hv
  refine Qad (tb:=[]) 19 [.tmp 2,.tmp 3,.tmp 4] [0,2,3,4,7] mixed Tryz.func88 rfl (by kernel_rfl) (by kernel_rfl) (by kernel_rfl) (by kernel_rfl) ?_
  repeat (first|(simp -implicitDefEqProofs only [go_sem,Nat.reduceAdd,Nat.reduceMul,Nat.reduceEqDiff,Nat.reduceLT,Nat.reduceLeDiff,reduceCtorEq,Bool.false_eq_true])|((with_reducible refine Qab (hv) ?_ ?_ ?_);(with_reducible rfl);rfl)|(with_reducible exact Qaa _ _ (by kernel_rfl))|(with_reducible refine And.intro (Qaa _ _ (by kernel_rfl)) ?_))
 |true=>
  have h:=(Qdc hV).2.1
  have hi:p.length-1<p.length:=by omega
  have hg0:=Qer p 0 (by omega)
  have hg:=Qer p (p.length-1) hi
  have wl:=Qnc (n:=p.length) (by omega) (by omega)
  have n1:=nnT (p.length-1)
  have e1:pEnd p=p[p.length-1].t:=by unfold pEnd;rw [sgD hi]
  have e2:pBeg p=p[0].f:=by unfold pBeg;rw [sgD (by omega)]
  rw [e1,e2]
  rw [hV]at hv
  refine Qad (tb:=[]) 19 [.tmp 2,.tmp 3,.tmp 4] [0,2,3,4,7] mixed Tryz.func88 rfl (by kernel_rfl) (by kernel_rfl) (by kernel_rfl) (by kernel_rfl) ?_
  repeat (first|(simp -implicitDefEqProofs only [go_sem,Nat.reduceAdd,Nat.reduceMul,Nat.reduceEqDiff,Nat.reduceLT,Nat.reduceLeDiff,reduceCtorEq,hg,hg0,wl,n1,Int.toNat_natCast,List.length_map])|((with_reducible refine Qab (hv) ?_ ?_ ?_);(with_reducible rfl);rfl)|(with_reducible exact Qaa _ _ (by kernel_rfl))|(with_reducible refine And.intro (Qaa _ _ (by kernel_rfl)) ?_))
theorem Q4r (n m:Nat) (f:FuncId) (cap:List PV) (Pr:Nat→Bool) (hn:n≤1000000000) (hm:m≤n) (h1: ∀i,i<m→Pr i=false) (h2: ∀i,m≤i→i<n→Pr i=true)
  (hc:Qev cap (fun _=>none)=some ((cap,[]),[])) (hcr:ren1 [] (.fn f [] cap)=some (.fn f [] cap)) (hf: ∀i:Nat,i<n→Qag Tryz.prog f (.int .i64 (i:Int)::cap) (.bool (Pr i))):Qag Tryz.prog 107 [.int .i64 (n:Int),.fn f [] cap] (.int .i64 (m:Int)):=by
 refine Qad (tb:=[]) 26 [.tmp 4] [0,1,4,5,6,7,11,21] mixed Tryz.func107 rfl (by kernel_rfl) (by kernel_rfl) (by kernel_rfl) (by kernel_rfl) ?_
 repeat (first|(simp -implicitDefEqProofs only [go_sem,Nat.reduceAdd,Nat.reduceMul,Nat.reduceEqDiff,Nat.reduceLT,Nat.reduceLeDiff,reduceCtorEq,if_true]))
 have z0:0≤m∧m≤n∧n≤n:=⟨Nat.zero_le _,hm,Nat.le_refl _⟩
 refine Qa0 mixed (fun x:{x:Nat×Nat // x.1≤m∧m≤x.2∧x.2≤n}=>St.of [(0,.int .i64 (n:Int)),(1,.fn f [] cap),(5,.int .i64 (x.1.1:Int)),(6,.int .i64 (x.1.2:Int))] []) (fun x=>x.1.2-x.1.1) ⟨(0,n),z0⟩ ?_ ?_
 ·exact Qax ⟨by simp [lkp,ren1,ren0],by simp only [lkp];exact hcr,by simp [lkp,ren1,ren0],by simp [lkp,ren1,ren0],trivial⟩
 ·rintro⟨⟨i,j⟩,hi,hj,hjn⟩
  simp only at hi hj hjn
  by_cases hA:i<j
  ·have hA':=ltT hA
   have w1:IntKind.i64.wrap ((i:Int)+(j:Int))=((i+j:Nat):Int):=by rw [Qai (by omega) (by omega)];omega
   have w2:IntKind.u64.wrap ((i+j:Nat):Int)=((i+j:Nat):Int):=Qhc (by omega)
   have w3:(((i+j:Nat):Int)).fdiv (2^min 1 64)=(((i+j)/2:Nat):Int):=by
    rw [Int.fdiv_eq_ediv_of_nonneg _ (by decide)];rfl
   have w4:IntKind.i64.wrap (((i+j)/2:Nat):Int)=(((i+j)/2:Nat):Int):=wrapn (by omega)
   have hh:(i+j)/2<n:=by omega
   have hfh:=hf ((i+j)/2) hh
   have w5:=Qak (a:=(i+j)/2) (by omega)
   generalize hH:(i+j)/2=h at*
   by_cases hmh:h<m
   ·rw [h1 h hmh]at hfh
    repeat (first|(simp -implicitDefEqProofs only [go_sem,Nat.reduceAdd,Nat.reduceMul,Nat.reduceEqDiff,Nat.reduceLT,Nat.reduceLeDiff,reduceCtorEq,Int.reduceLT,Int.reduceToNat,hA',w1,w2,w3,w4,w5,hc])|((with_reducible refine Qab (hfh) ?_ ?_ ?_);(with_reducible rfl);rfl))
    refine⟨⟨(h+1,j),by simp only;omega,hj,hjn⟩,by simp only;omega,Qax ⟨by simp [lkp,ren1,ren0],by simp only [lkp];exact hcr,by simp [lkp,ren1,ren0],by simp [lkp,ren1,ren0],trivial⟩⟩
   ·rw [h2 h (by omega) hh]at hfh
    repeat (first|(simp -implicitDefEqProofs only [go_sem,Nat.reduceAdd,Nat.reduceMul,Nat.reduceEqDiff,Nat.reduceLT,Nat.reduceLeDiff,reduceCtorEq,Int.reduceLT,Int.reduceToNat,hA',w1,w2,w3,w4,hc])|((with_reducible refine Qab (hfh) ?_ ?_ ?_);(with_reducible rfl);rfl))
    refine⟨⟨(i,h),hi,by simp only;omega,by simp only;omega⟩,by simp only;omega,Qax ⟨by simp [lkp,ren1,ren0],by simp only [lkp];exact hcr,by simp [lkp,ren1,ren0],by simp [lkp,ren1,ren0],trivial⟩⟩
  ·have hA':=ltF hA
   obtain rfl:i=m:=by omega
   repeat (first|(simp -implicitDefEqProofs only [go_sem,Nat.reduceAdd,Nat.reduceMul,Nat.reduceEqDiff,Nat.reduceLT,Nat.reduceLeDiff,reduceCtorEq,hA']))
theorem Q4s (p:List Sg) (t:Int) (i:Nat) (h:i<p.length):Qag Tryz.prog 108 [.int .i64 (i:Int),.rp [.int .i64 t],.rp [.slc (p.map sgPV)]] (.bool (decide (t≤p[i].t))):=by
 have hg:=Qer p i h
 have n0:=nnT i
 refine Qad (tb:=[]) 12 [.tmp 4] [0,1,2,4] mixed Tryz.func108 rfl (by kernel_rfl) (by kernel_rfl) (by kernel_rfl) (by kernel_rfl) ?_
 repeat (first|(simp -implicitDefEqProofs only [go_sem,Nat.reduceAdd,Nat.reduceMul,Nat.reduceEqDiff,Nat.reduceLT,Nat.reduceLeDiff,reduceCtorEq,hg,n0,Int.toNat_natCast])|(with_reducible exact Qaa _ _ (by kernel_rfl))|(with_reducible refine And.intro (Qaa _ _ (by kernel_rfl)) ?_))
def Qkf:PV:= .agg [.bool false,.str ⟨#[]⟩,.bool false,.str ⟨#[]⟩,.bool false,.str ⟨#[]⟩,.bool false,.str ⟨#[]⟩]
attribute [go_sem] Qkf
def exA (p:List Sg) (t:Int):Int:=t-(p.getD (atIx p t) sg0).f
def exD (p:List Sg) (t:Int):Int:=(p.getD (atIx p t) sg0).t-(p.getD (atIx p t) sg0).f
def exQ (p:List Sg) (t:Int) (i:Nat):Int:=plQ (p.getD (atIx p t) sg0) (exA p t) (exD p t) i
def exO (p:List Sg) (t:Int):Int:=plO (p.getD (atIx p t) sg0) (exA p t) (exD p t)
def Qq3 (p:List Sg) (t:Int):PV:=if Qbn p=true then(if lasts p t=true then .tup [Qac (exQ p t 0) (exQ p t 1) (exQ p t 2) (exO p t),.int .i64 0]else .tup [Qkf,.int .i64 3])else .tup [Qkf,.int .i64 2]
theorem Qs4 {p:List Sg} {t:Int} (hV:Qbn p=true) (hL:lasts p t=true): ∃h:atIx p t<p.length,exA p t=t-p[atIx p t].f∧exD p t=p[atIx p t].t-p[atIx p t].f∧0≤exA p t∧exA p t≤exD p t∧1≤exD p t∧exD p t≤3600000∧Qbh p[atIx p t]=true∧p.getD (atIx p t) sg0=p[atIx p t]:=by
 unfold lasts at hL
 simp only [Bool.and_eq_true,decide_eq_true_eq]at hL
 have hi:=Qxg hV hL.2
 have h1:=Qqr hi
 have h2:=Qxh hV hL.1 hi
 have hv:=Qcp hV _ hi
 have h3:=(Qbb hv).1
 have e1:exA p t=t-p[atIx p t].f:=by unfold exA;rw [sgD hi]
 have e2:exD p t=p[atIx p t].t-p[atIx p t].f:=by unfold exD;rw [sgD hi]
 exact⟨hi,e1,e2,by omega,by omega,by omega,by omega,hv,sgD hi⟩
set_option maxHeartbeats 1000000 in
theorem Q4t (p:List Sg) (t:Int) (hp: ∀s∈p,okSg s) (hl:p.length≤1000000) (ht:i64 t):Qag Tryz.prog 65 [Qdz p,.int .i64 t] (Qq3 p t):=by
 have hs:=Zcb p hp hl
 unfold Qdz at hs
 unfold Qq3
 cases hV:Qbn p with
 |false=>
  rw [hV]at hs
  simp only [Bool.false_eq_true,if_false]at hs ⊢
  refine Qad (tb:=[]) 49 [.cell 4 73,.tmp 5] [0,1,2,3,4,5,6,7,8,9,16,21] mixed Tryz.func65 rfl (by kernel_rfl) (by kernel_rfl) (by kernel_rfl) (by kernel_rfl) ?_
  repeat (first|(simp -implicitDefEqProofs only [go_sem,Nat.reduceAdd,Nat.reduceMul,Nat.reduceEqDiff,Nat.reduceLT,Nat.reduceLeDiff,reduceCtorEq,List.length_map])|((with_reducible refine Qab (hs) ?_ ?_ ?_);(with_reducible rfl);rfl)|(with_reducible exact Qaa _ _ (by kernel_rfl))|(with_reducible refine And.intro (Qaa _ _ (by kernel_rfl)) ?_))
 |true=>
  rw [hV]at hs
  simp only [if_true]at hs ⊢
  by_cases c1:pBeg p≤t
  case neg=>
   have c1':(t<pBeg p)=True:=eq_true (by omega)
   have e:lasts p t=false:=by unfold lasts;rw [decide_eq_false c1];rfl
   rw [e]
   simp only [Bool.false_eq_true,if_false]
   refine Qad (tb:=[]) 49 [.cell 4 73,.tmp 5] [0,1,2,3,4,5,6,7,8,9,16,21] mixed Tryz.func65 rfl (by kernel_rfl) (by kernel_rfl) (by kernel_rfl) (by kernel_rfl) ?_
   repeat (first|(simp -implicitDefEqProofs only [go_sem,Nat.reduceAdd,Nat.reduceMul,Nat.reduceEqDiff,Nat.reduceLT,Nat.reduceLeDiff,reduceCtorEq,List.length_map,c1'])|((with_reducible refine Qab (hs) ?_ ?_ ?_);(with_reducible rfl);rfl)|(with_reducible exact Qaa _ _ (by kernel_rfl))|(with_reducible refine And.intro (Qaa _ _ (by kernel_rfl)) ?_))
  have c1':(t<pBeg p)=False:=eq_false (by omega)
  by_cases c2:t≤pEnd p
  case neg=>
   have c2':(pEnd p<t)=True:=eq_true (by omega)
   have e:lasts p t=false:=by unfold lasts;rw [decide_eq_false c2,Bool.and_false]
   rw [e]
   simp only [Bool.false_eq_true,if_false]
   refine Qad (tb:=[]) 49 [.cell 4 73,.tmp 5] [0,1,2,3,4,5,6,7,8,9,16,21] mixed Tryz.func65 rfl (by kernel_rfl) (by kernel_rfl) (by kernel_rfl) (by kernel_rfl) ?_
   repeat (first|(simp -implicitDefEqProofs only [go_sem,Nat.reduceAdd,Nat.reduceMul,Nat.reduceEqDiff,Nat.reduceLT,Nat.reduceLeDiff,reduceCtorEq,List.length_map,c1',c2'])|((with_reducible refine Qab (hs) ?_ ?_ ?_);(with_reducible rfl);rfl)|(with_reducible exact Qaa _ _ (by kernel_rfl))|(with_reducible refine And.intro (Qaa _ _ (by kernel_rfl)) ?_))
  have c2':(pEnd p<t)=False:=eq_false (by omega)
  have hL:lasts p t=true:=by unfold lasts;rw [decide_eq_true c1,decide_eq_true c2];rfl
  rw [hL]
  simp only [if_true]
  obtain⟨hi,eA,eD,k1,k2,k3,k4,hv,hD⟩:=Qs4 hV hL
  have hsr:=Q4r p.length (atIx p t) 108 [.rp [.int .i64 t],.rp [.slc (p.map sgPV)]] (fun i=>decide (t≤(p.getD i sg0).t)) (by omega) (Nat.le_of_lt hi)
   (fun i h=>by rw [sgD (by omega)];exact decide_eq_false (Int.not_le.2 (Qeo h (by omega))))
   (fun i h h'=>by rw [sgD h'];exact decide_eq_true (Int.le_trans (Qqr hi) (Qc2 hV i _ h' h))) rfl rfl
   (fun i h=>by rw [sgD h];exact Q4s p t i h)
  have hpl:=Qm9 p[atIx p t] (exA p t) (exD p t) (hp _ (List.getElem_mem hi)) (Qgy hv) (Qgz hv) (by unfold i64;omega) (by unfold i64;omega) (by omega)
  rw [Zau]at hpl
  unfold exQ exO
  rw [hD]
  have hg:=Qer p (atIx p t) hi
  have n0:=nnT (atIx p t)
  have wa:IntKind.i64.wrap (t-p[atIx p t].f)=exA p t:=by rw [eA];exact Qai (by omega) (by omega)
  have wd:IntKind.i64.wrap (p[atIx p t].t-p[atIx p t].f)=exD p t:=by rw [eD];exact Qai (by omega) (by omega)
  generalize plQ p[atIx p t] (exA p t) (exD p t) 0=q0 at*
  generalize plQ p[atIx p t] (exA p t) (exD p t) 1=q1 at*
  generalize plQ p[atIx p t] (exA p t) (exD p t) 2=q2 at*
  generalize plO p[atIx p t] (exA p t) (exD p t)=q3 at*
  unfold sgPV Qa9 at hpl
  refine Qad (tb:=[]) 49 [.cell 4 73,.tmp 5] [0,1,2,3,4,5,6,7,8,9,16,21] mixed Tryz.func65 rfl (by kernel_rfl) (by kernel_rfl) (by kernel_rfl) (by kernel_rfl) ?_
  repeat (first|(simp -implicitDefEqProofs only [go_sem,Nat.reduceAdd,Nat.reduceMul,Nat.reduceEqDiff,Nat.reduceLT,Nat.reduceLeDiff,reduceCtorEq,List.length_map,c1',c2',hg,n0,wa,wd,Int.toNat_natCast])|((with_reducible refine Qab (hs) ?_ ?_ ?_);(with_reducible rfl);rfl)|((with_reducible refine Qab (hsr) ?_ ?_ ?_);(with_reducible rfl);rfl)|((with_reducible refine Qab (hpl) ?_ ?_ ?_);(with_reducible rfl);rfl)|(with_reducible exact Qaa _ _ (by kernel_rfl))|(with_reducible refine And.intro (Qaa _ _ (by kernel_rfl)) ?_))
end Go.Proofs.YtciddhkfbgkejaaGreatDoor

namespace Go.Proofs.YtciddhkfbgkejaaGreatDoor
open Go.Vl Go.RowKit Go.Dg
def vPV (x y z:Int):PV:= .agg [.int .i64 x,.int .i64 y,.int .i64 z]
attribute [go_sem] vPV
theorem Qq1 {x o:Int} {B:Nat} (hx:x.natAbs<2^B) (ho:o.natAbs<2^B):(x+x+o).natAbs<2^(B+1+1):=
 Ql4 (Ql4 hx hx) (Nat.lt_of_lt_of_le ho (Nat.pow_le_pow_right (by decide) (by omega)))
theorem Zg5 {p:List Sg} {t:Int} (hp: ∀s∈p,okSg s) (hV:Qbn p=true) (hL:lasts p t=true):(∀i,i<3→(exQ p t i).natAbs<2^2000∧ -1048576≤rnd (exQ p t i) (exO p t)∧rnd (exQ p t i) (exO p t)≤1048576)∧(exO p t).natAbs<2^2000∧0<exO p t:=by
 obtain⟨hi,eA,eD,k1,k2,k3,k4,hv,hD⟩:=Qs4 hV hL
 have b:=Zha (a:=exA p t) (d:=exD p t) (hp _ (List.getElem_mem hi)) (Qgy hv) (Qgz hv) (by unfold i64;omega) (by unfold i64;omega) (by omega)
 have b2:=fun i h=>Qxe hv k1 k2 k3 i h
 unfold exQ exO
 rw [hD]
 refine⟨fun i h=>⟨b.1 i h,?_⟩,b.2,(b2 0 (by decide)).1⟩
 obtain⟨h1,h2,h3⟩:=b2 i h
 exact Qxf h1 h2 h3
def atPV (p:List Sg) (t:Int):PV:=if Qbn p=true then(if lasts p t=true then .tup [vPV (rnd (exQ p t 0) (exO p t)) (rnd (exQ p t 1) (exO p t)) (rnd (exQ p t 2) (exO p t)),.int .i64 0]else .tup [vPV 0 0 0,.int .i64 3])else .tup [vPV 0 0 0,.int .i64 2]
def sel3 (R:Nat→Int) (i m:Nat):Int:=if m<i then R m else 0
set_option maxHeartbeats 1000000 in
theorem Zg6 (p:List Sg) (t:Int) (hp: ∀s∈p,okSg s) (hl:p.length≤1000000) (ht:i64 t):Qag Tryz.prog 29 [Qdz p,.int .i64 t] (atPV p t):=by
 have he:=Q4t p t hp hl ht
 unfold Qq3 at he
 unfold atPV
 unfold Qdz at he
 cases hV:Qbn p with
 |false=>
  rw [hV]at he
  simp only [Bool.false_eq_true,if_false]at he ⊢
  refine Qad (tb:=[]) 58 [.cell 4 26,.tmp 5] [0,1,4,5,6,7,8,9,10,18,27,28,29] mixed Tryz.func29 rfl (by kernel_rfl) (by kernel_rfl) (by kernel_rfl) (by kernel_rfl) ?_
  repeat (first|(simp -implicitDefEqProofs only [go_sem,Nat.reduceAdd,Nat.reduceMul,Nat.reduceEqDiff,Nat.reduceLT,Nat.reduceLeDiff,reduceCtorEq,List.length_map])|((with_reducible refine Qab (he) ?_ ?_ ?_);(with_reducible rfl);rfl)|(with_reducible exact Qaa _ _ (by kernel_rfl))|(with_reducible refine And.intro (Qaa _ _ (by kernel_rfl)) ?_))
 |true=>
  cases hL:lasts p t with
  |false=>
   rw [hV,hL]at he
   simp only [Bool.false_eq_true,if_false,if_true]at he ⊢
   refine Qad (tb:=[]) 58 [.cell 4 26,.tmp 5] [0,1,4,5,6,7,8,9,10,18,27,28,29] mixed Tryz.func29 rfl (by kernel_rfl) (by kernel_rfl) (by kernel_rfl) (by kernel_rfl) ?_
   repeat (first|(simp -implicitDefEqProofs only [go_sem,Nat.reduceAdd,Nat.reduceMul,Nat.reduceEqDiff,Nat.reduceLT,Nat.reduceLeDiff,reduceCtorEq,List.length_map])|((with_reducible refine Qab (he) ?_ ?_ ?_);(with_reducible rfl);rfl)|(with_reducible exact Qaa _ _ (by kernel_rfl))|(with_reducible refine And.intro (Qaa _ _ (by kernel_rfl)) ?_))
  |true=>
   rw [hV,hL]at he
   simp only [if_true]at he ⊢
   obtain⟨hb,ho,h0⟩:=Zg5 hp hV hL
   have hb0:=hb 0 (by decide)
   have hbb1:=hb 1 (by decide)
   have hb2:=hb 2 (by decide)
   clear hb
   generalize exQ p t 0=x0 at*
   generalize exQ p t 1=x1 at*
   generalize exQ p t 2=x2 at*
   generalize exO p t=o at*
   have b3:=Ql4 ho ho
   have a3:=Qfi (Qay ho (by decide)) (Qay ho (by decide)) (Qay b3 (by decide))
   refine Qad (tb:=[]) 58 [.cell 4 26,.tmp 5] [0,1,4,5,6,7,8,9,10,18,27,28,29] mixed Tryz.func29 rfl (by kernel_rfl) (by kernel_rfl) (by kernel_rfl) (by kernel_rfl) ?_
   repeat (first|(simp -implicitDefEqProofs only [go_sem,Nat.reduceAdd,Nat.reduceMul,Nat.reduceEqDiff,Nat.reduceLT,Nat.reduceLeDiff,reduceCtorEq,List.length_map])|((with_reducible refine Qab (he) ?_ ?_ ?_);(with_reducible rfl);rfl)|(with_reducible exact Qaa _ _ (by kernel_rfl))|(with_reducible refine And.intro (Qaa _ _ (by kernel_rfl)) ?_))
   refine Qa0 mixed (fun i:{i:Nat // i≤3}=>St.of [(4,.bp 0 3 0 0),(5,.int .i64 0),(6,.bp 106 8 0 0),(8,.bp 400 3 0 0),(27,w3PV x0 x1 x2),(28,.int .i64 (i.1:Int))]
    [(0,{els:=[vPV 0 0 0],esz:=3,ety:=26,fro:=0,live:=true,arr:=false}),(106,{els:=[Qac x0 x1 x2 o],esz:=8,ety:=73,fro:=0,live:=true,arr:=false}),(400,{els:=[vPV (sel3 (fun m=>rnd ([x0,x1,x2].getD m 0) o) i.1 0) (sel3 (fun m=>rnd ([x0,x1,x2].getD m 0) o) i.1 1) (sel3 (fun m=>rnd ([x0,x1,x2].getD m 0) o) i.1 2)],esz:=3,ety:=87,fro:=0,live:=true,arr:=false})]) (fun i=>3-i.1) ⟨0,Nat.zero_le _⟩ ?_ ?_
   ·refine Qan (θ:=[(0,0),(106,106),(400,400)]) rfl ?_ ?_
    ·simp [Qae,lkp,ren1,ren0,Qam,w3PV]
    ·exact⟨⟨rfl,rfl,rfl,rfl,rfl,.inr ⟨rfl,_,_,rfl,rfl,rfl,rfl⟩⟩,⟨rfl,rfl,rfl,rfl,rfl,.inr ⟨rfl,_,_,rfl,rfl,rfl,rfl⟩⟩,⟨rfl,rfl,rfl,rfl,rfl,.inr ⟨rfl,_,_,rfl,rfl,rfl,rfl⟩⟩,trivial⟩
   ·rintro⟨i,hi⟩
    by_cases hA:i<3
    ·have hA':((i:Int)<3)=True:=eq_true (by omega)
     rcases(show i=0∨i=1∨i=2 by omega)with hi0|hi0|hi0
     ·obtain⟨hb1,hr1,hr2⟩:=hb0
      obtain rfl:i=0:=hi0
      have ii:Qet (rnd x0 o)= .tup [.int .i64 (rnd x0 o),.int .i64 0]:=by unfold Qet;rw [if_pos (by omega)]
      have wi:=Qym (x:=rnd x0 o) (Qay (B:=64) (by have:(2:Nat)^64=18446744073709551616:=rfl;omega) (by decide))
      rw [ii]at wi
      have b1:=Ql4 hb1 hb1
      have b2:=Qq1 hb1 ho
      have a1:=Qfi (Qay hb1 (by decide)) (Qay hb1 (by decide)) (Qay b1 (by decide))
      have a2:=Qfi (Qay b1 (by decide)) (Qay ho (by decide)) (Qay b2 (by decide))
      have q:=Qkd b2 (by decide) (Qs3 b3 (by decide)) (show 0<o+o by omega)
      have er:(x0+x0+o)/(o+o)=rnd x0 o:=rfl
      rw [er]at q
      clear er b1 b2 ii
      generalize hR:rnd x0 o=R at*
      generalize x0+x0+o=S at*
      generalize x0+x0=S1 at*
      generalize o+o=S2 at*
      repeat (first|(simp -implicitDefEqProofs only [go_sem,Nat.reduceAdd,Nat.reduceMul,Nat.reduceEqDiff,Nat.reduceLT,Nat.reduceLeDiff,Nat.reduceSub,reduceCtorEq,Int.reduceLT,Int.reduceAdd,hA',wPV,sel3,Nat.reduceLT])|((with_reducible refine Qab (a1) ?_ ?_ ?_);(with_reducible rfl);rfl)|((with_reducible refine Qab (a2) ?_ ?_ ?_);(with_reducible rfl);rfl)|((with_reducible refine Qab (a3) ?_ ?_ ?_);(with_reducible rfl);rfl)|((with_reducible refine Qab (q) ?_ ?_ ?_);(with_reducible rfl);rfl)|((with_reducible refine Qab (wi) ?_ ?_ ?_);(with_reducible rfl);rfl)|(with_reducible exact Qaa _ _ (by kernel_rfl))|(with_reducible refine And.intro (Qaa _ _ (by kernel_rfl)) ?_))
      refine⟨⟨0+1,hA⟩,by simp only;omega,Qan (θ:=[(0,0),(106,106),(400,400)]) rfl ?_ ?_⟩
      ·simp [Qae,lkp,ren1,ren0,Qam]
      ·subst hR
       exact⟨⟨rfl,rfl,rfl,rfl,rfl,.inr ⟨rfl,_,_,rfl,rfl,rfl,rfl⟩⟩,⟨rfl,rfl,rfl,rfl,rfl,.inr ⟨rfl,_,_,rfl,rfl,rfl,rfl⟩⟩,⟨rfl,rfl,rfl,rfl,rfl,.inr ⟨rfl,_,_,rfl,rfl,rfl,rfl⟩⟩,trivial⟩
     ·obtain⟨hb1,hr1,hr2⟩:=hbb1
      obtain rfl:i=1:=hi0
      have ii:Qet (rnd x1 o)= .tup [.int .i64 (rnd x1 o),.int .i64 0]:=by unfold Qet;rw [if_pos (by omega)]
      have wi:=Qym (x:=rnd x1 o) (Qay (B:=64) (by have:(2:Nat)^64=18446744073709551616:=rfl;omega) (by decide))
      rw [ii]at wi
      have b1:=Ql4 hb1 hb1
      have b2:=Qq1 hb1 ho
      have a1:=Qfi (Qay hb1 (by decide)) (Qay hb1 (by decide)) (Qay b1 (by decide))
      have a2:=Qfi (Qay b1 (by decide)) (Qay ho (by decide)) (Qay b2 (by decide))
      have q:=Qkd b2 (by decide) (Qs3 b3 (by decide)) (show 0<o+o by omega)
      have er:(x1+x1+o)/(o+o)=rnd x1 o:=rfl
      rw [er]at q
      clear er b1 b2 ii
      generalize hR:rnd x1 o=R at*
      generalize x1+x1+o=S at*
      generalize x1+x1=S1 at*
      generalize o+o=S2 at*
      repeat (first|(simp -implicitDefEqProofs only [go_sem,Nat.reduceAdd,Nat.reduceMul,Nat.reduceEqDiff,Nat.reduceLT,Nat.reduceLeDiff,Nat.reduceSub,reduceCtorEq,Int.reduceLE,Int.reduceLT,Int.reduceToNat,Int.reduceAdd,hA',wPV,sel3,Nat.reduceLT])|((with_reducible refine Qab (a1) ?_ ?_ ?_);(with_reducible rfl);rfl)|((with_reducible refine Qab (a2) ?_ ?_ ?_);(with_reducible rfl);rfl)|((with_reducible refine Qab (a3) ?_ ?_ ?_);(with_reducible rfl);rfl)|((with_reducible refine Qab (q) ?_ ?_ ?_);(with_reducible rfl);rfl)|((with_reducible refine Qab (wi) ?_ ?_ ?_);(with_reducible rfl);rfl)|(with_reducible exact Qaa _ _ (by kernel_rfl))|(with_reducible refine And.intro (Qaa _ _ (by kernel_rfl)) ?_))
      refine⟨⟨1+1,hA⟩,by simp only;omega,Qan (θ:=[(0,0),(106,106),(400,400)]) rfl ?_ ?_⟩
      ·simp [Qae,lkp,ren1,ren0,Qam]
      ·subst hR
       exact⟨⟨rfl,rfl,rfl,rfl,rfl,.inr ⟨rfl,_,_,rfl,rfl,rfl,rfl⟩⟩,⟨rfl,rfl,rfl,rfl,rfl,.inr ⟨rfl,_,_,rfl,rfl,rfl,rfl⟩⟩,⟨rfl,rfl,rfl,rfl,rfl,.inr ⟨rfl,_,_,rfl,rfl,rfl,rfl⟩⟩,trivial⟩
     ·obtain⟨hb1,hr1,hr2⟩:=hb2
      obtain rfl:i=2:=hi0
      have ii:Qet (rnd x2 o)= .tup [.int .i64 (rnd x2 o),.int .i64 0]:=by unfold Qet;rw [if_pos (by omega)]
      have wi:=Qym (x:=rnd x2 o) (Qay (B:=64) (by have:(2:Nat)^64=18446744073709551616:=rfl;omega) (by decide))
      rw [ii]at wi
      have b1:=Ql4 hb1 hb1
      have b2:=Qq1 hb1 ho
      have a1:=Qfi (Qay hb1 (by decide)) (Qay hb1 (by decide)) (Qay b1 (by decide))
      have a2:=Qfi (Qay b1 (by decide)) (Qay ho (by decide)) (Qay b2 (by decide))
      have q:=Qkd b2 (by decide) (Qs3 b3 (by decide)) (show 0<o+o by omega)
      have er:(x2+x2+o)/(o+o)=rnd x2 o:=rfl
      rw [er]at q
      clear er b1 b2 ii
      generalize hR:rnd x2 o=R at*
      generalize x2+x2+o=S at*
      generalize x2+x2=S1 at*
      generalize o+o=S2 at*
      repeat (first|(simp -implicitDefEqProofs only [go_sem,Nat.reduceAdd,Nat.reduceMul,Nat.reduceEqDiff,Nat.reduceLT,Nat.reduceLeDiff,Nat.reduceSub,reduceCtorEq,Int.reduceLE,Int.reduceLT,Int.reduceToNat,Int.reduceAdd,hA',wPV,sel3,Nat.reduceLT])|((with_reducible refine Qab (a1) ?_ ?_ ?_);(with_reducible rfl);rfl)|((with_reducible refine Qab (a2) ?_ ?_ ?_);(with_reducible rfl);rfl)|((with_reducible refine Qab (a3) ?_ ?_ ?_);(with_reducible rfl);rfl)|((with_reducible refine Qab (q) ?_ ?_ ?_);(with_reducible rfl);rfl)|((with_reducible refine Qab (wi) ?_ ?_ ?_);(with_reducible rfl);rfl)|(with_reducible exact Qaa _ _ (by kernel_rfl))|(with_reducible refine And.intro (Qaa _ _ (by kernel_rfl)) ?_))
      refine⟨⟨2+1,hA⟩,by simp only;omega,Qan (θ:=[(0,0),(106,106),(400,400)]) rfl ?_ ?_⟩
      ·simp [Qae,lkp,ren1,ren0,Qam]
      ·subst hR
       exact⟨⟨rfl,rfl,rfl,rfl,rfl,.inr ⟨rfl,_,_,rfl,rfl,rfl,rfl⟩⟩,⟨rfl,rfl,rfl,rfl,rfl,.inr ⟨rfl,_,_,rfl,rfl,rfl,rfl⟩⟩,⟨rfl,rfl,rfl,rfl,rfl,.inr ⟨rfl,_,_,rfl,rfl,rfl,rfl⟩⟩,trivial⟩
    ·have hA':((i:Int)<3)=False:=eq_false (by omega)
     obtain rfl:i=3:=by omega
     have z0:sel3 (fun m=>rnd ([x0,x1,x2].getD m 0) o) 3 0=rnd x0 o:=rfl
     have z1:sel3 (fun m=>rnd ([x0,x1,x2].getD m 0) o) 3 1=rnd x1 o:=rfl
     have z2:sel3 (fun m=>rnd ([x0,x1,x2].getD m 0) o) 3 2=rnd x2 o:=rfl
     simp only [z0,z1,z2]
     repeat (first|(simp -implicitDefEqProofs only [go_sem,Nat.reduceAdd,Nat.reduceMul,Nat.reduceEqDiff,Nat.reduceLT,Nat.reduceLeDiff,Nat.reduceSub,reduceCtorEq,Int.reduceLE,Int.reduceLT,Int.reduceToNat,hA'])|(with_reducible exact Qaa _ _ (by kernel_rfl))|(with_reducible refine And.intro (Qaa _ _ (by kernel_rfl)) ?_))
end Go.Proofs.YtciddhkfbgkejaaGreatDoor

namespace Go.Proofs.YtciddhkfbgkejaaGreatDoor
open Go.Vl Go.RowKit Go.Dg
abbrev iB (xs:List Int):Box:={els:=xs.map (PV.int .i64),esz:=1,ety:=3,fro:=0,live:=true,arr:=true}
theorem Zj5 (x:Int):Qag Tryz.prog 210 [.int .i64 x] (.bool false):=by
 refine Qad (tb:=[]) 6 [.tmp 2] [0,2] mixed Tryz.func210 rfl (by kernel_rfl) (by kernel_rfl) (by kernel_rfl) (by kernel_rfl) ?_
 repeat (first|(simp -implicitDefEqProofs only [go_sem,Nat.reduceAdd,Nat.reduceMul,Nat.reduceEqDiff,Nat.reduceLT,Nat.reduceLeDiff,reduceCtorEq,bne_self_eq_false]))
theorem Zhd (x y:Int):Qag Tryz.prog 184 [.int .i64 x,.int .i64 y] (.bool (decide (x<y))):=by
 have h1:=Zj5 x
 refine Qad (tb:=[]) 17 [.tmp 4] [0,1,4] mixed Tryz.func184 rfl (by kernel_rfl) (by kernel_rfl) (by kernel_rfl) (by kernel_rfl) ?_
 repeat (first|(simp -implicitDefEqProofs only [go_sem,Nat.reduceAdd,Nat.reduceMul,Nat.reduceEqDiff,Nat.reduceLT,Nat.reduceLeDiff,reduceCtorEq])|((with_reducible refine Qab (h1) ?_ ?_ ?_);(with_reducible rfl);rfl))
theorem iget (xs:List Int) (i:Nat) (h:i<xs.length):(xs.map (PV.int .i64))[i]? =some (.int .i64 (xs.getD i 0)):=by simp [h]
theorem iset (xs:List Int) (i:Nat) (x:Int):(xs.map (PV.int .i64)).set i (.int .i64 x)=(xs.set i x).map (PV.int .i64):=by rw [List.map_set]
set_option maxHeartbeats 1000000 in
theorem Zj6 (xs:List Int) (hl:xs.length≤12):Qck Tryz.prog 178 [.bs 1000000 1 0 xs.length,.int .i64 0,.int .i64 (xs.length:Int)] [(1000000,iB xs)] (.tup []) [(1000000,iB (Qbk xs))]:=by
 refine Qb6 (tb:=[]) 49 [] [0,1,2,6,7,12,30] mixed Tryz.func178 rfl (by kernel_rfl) (by kernel_rfl) (by kernel_rfl) (by kernel_rfl) (by rfl) ?_
 repeat (first|(simp -implicitDefEqProofs only [go_sem,Nat.reduceAdd,Nat.reduceMul,Nat.reduceEqDiff,Nat.reduceLT,Nat.reduceLeDiff,reduceCtorEq,Int.reduceAdd,Qak (a:=0) (by decide)])|(with_reducible exact Qaa _ _ (by kernel_rfl))|(with_reducible refine And.intro (Qaa _ _ (by kernel_rfl)) ?_))
 refine Qa0 mixed (fun k:{k:Nat // k≤xs.length-1}=>St.of [(0,.bs 1000000 1 0 xs.length),(1,.int .i64 0),(2,.int .i64 (xs.length:Int)),(6,.int .i64 ((k.1+1:Nat):Int))] [(1000000,iB (isr xs k.1))]) (fun k=>xs.length-k.1) ⟨0,Nat.zero_le _⟩ ?_ ?_
 ·refine Qan (θ:=[(1000000,1000000)]) rfl ?_ ?_
  ·simp [Qae,lkp,ren1,ren0,Qam]
  ·exact⟨⟨rfl,rfl,rfl,rfl,rfl,.inl ⟨rfl,rfl⟩⟩,trivial⟩
 ·rintro⟨k,hk⟩
  by_cases hA:k+1<xs.length
  ·have hA':(((k+1:Nat):Int)<(xs.length:Int))=True:=eq_true (by omega)
   repeat (first|(simp -implicitDefEqProofs only [go_sem,Nat.reduceAdd,Nat.reduceMul,Nat.reduceEqDiff,Nat.reduceLT,Nat.reduceLeDiff,reduceCtorEq,hA'])|(with_reducible exact Qaa _ _ (by kernel_rfl))|(with_reducible refine And.intro (Qaa _ _ (by kernel_rfl)) ?_))
   refine Qa0 mixed (fun z:{z:List Int×Nat // bub z.1 z.2=isr xs (k+1)∧z.1.length=xs.length∧z.2<xs.length}=>St.of [(0,.bs 1000000 1 0 xs.length),(1,.int .i64 0),(2,.int .i64 (xs.length:Int)),(6,.int .i64 ((k+1:Nat):Int)),(7,.int .i64 (z.1.2:Int))] [(1000000,iB z.1.1)]) (fun z=>z.1.2) ⟨(isr xs k,k+1),rfl,Qqs _ _,hA⟩ ?_ ?_
   ·refine Qan (θ:=[(1000000,1000000)]) rfl ?_ ?_
    ·simp [Qae,lkp,ren1,ren0,Qam]
    ·exact⟨⟨rfl,rfl,rfl,rfl,rfl,.inl ⟨rfl,rfl⟩⟩,trivial⟩
   ·rintro⟨⟨L,j⟩,hb,hL,hj⟩
    simp only at hb hL hj ⊢
    have hw:=Qak (a:=k+1) (by omega)
    cases j with
    |zero=>
     have t0:((0:Int)<((0:Nat):Int))=False:=eq_false (by omega)
     have hLe:L=isr xs (k+1):=hb
     subst hLe
     repeat (first|(simp -implicitDefEqProofs only [go_sem,Nat.reduceAdd,Nat.reduceMul,Nat.reduceEqDiff,Nat.reduceLT,Nat.reduceLeDiff,reduceCtorEq,Int.reduceLT,t0,decide_false,hw])|(with_reducible exact Qaa _ _ (by kernel_rfl))|(with_reducible refine And.intro (Qaa _ _ (by kernel_rfl)) ?_))
     refine⟨⟨k+1,by omega⟩,by simp only;omega,Qan (θ:=[(1000000,1000000)]) rfl ?_ ?_⟩
     ·simp [Qae,lkp,ren1,ren0,Qam]
     ·exact⟨⟨rfl,rfl,rfl,rfl,rfl,.inl ⟨rfl,rfl⟩⟩,trivial⟩
    |succ j=>
     have t0:((0:Int)<((j+1:Nat):Int))=True:=eq_true (by omega)
     have n1:=nnT (j+1)
     have n0:=nnT j
     have ws:=Qff (n:=j) (by omega)
     have l1:(((j+1:Nat):Int)<(xs.length:Int))=True:=eq_true (by omega)
     have l0:((j:Int)<(xs.length:Int))=True:=eq_true (by omega)
     have g1:=iget L (j+1) (by omega)
     have g0:=iget L j (by omega)
     have lss:=Zhd (L.getD (j+1) 0) (L.getD j 0)
     unfold bub at hb
     by_cases hlt:L.getD (j+1) 0<L.getD j 0
     ·rw [if_pos hlt]at hb
      rw [decide_eq_true hlt]at lss
      have q1:=iset L (j+1) (L.getD j 0)
      have q2:=iset (L.set (j+1) (L.getD j 0)) j (L.getD (j+1) 0)
      have q3:(L.set (j+1) (L.getD j 0)).set j (L.getD (j+1) 0)=sw L (j+1):=rfl
      rw [q3]at q2
      have g3:((L.set (j+1) (L.getD j 0)).map (PV.int .i64))[j]? =some (.int .i64 (L.getD j 0)):=by
       rw [iget _ j (by rw [List.length_set];omega)]
       simp [List.getD_eq_getElem?_getD]
      repeat (first|(simp -implicitDefEqProofs only [go_sem,Nat.reduceAdd,Nat.reduceMul,Nat.reduceEqDiff,Nat.reduceLT,Nat.reduceLeDiff,reduceIte,reduceCtorEq,t0,n0,n1,ws,l0,l1,g0,g1,q1,q2,g3,Int.toNat_natCast])|((with_reducible refine Qab (lss) ?_ ?_ ?_);(with_reducible rfl);rfl)|(with_reducible exact Qaa _ _ (by kernel_rfl))|(with_reducible refine And.intro (Qaa _ _ (by kernel_rfl)) ?_))
      refine⟨⟨(sw L (j+1),j),hb,by rw [Zao];exact hL,by omega⟩,by simp,Qan (θ:=[(1000000,1000000)]) rfl ?_ ?_⟩
      ·simp [Qae,lkp,ren1,ren0,Qam]
      ·exact⟨⟨rfl,rfl,rfl,rfl,rfl,.inl ⟨rfl,rfl⟩⟩,trivial⟩
     ·rw [if_neg hlt]at hb
      rw [decide_eq_false hlt]at lss
      subst hb
      repeat (first|(simp -implicitDefEqProofs only [go_sem,Nat.reduceAdd,Nat.reduceMul,Nat.reduceEqDiff,Nat.reduceLT,Nat.reduceLeDiff,reduceCtorEq,t0,n0,n1,ws,l0,l1,g0,g1,hw,Int.toNat_natCast])|((with_reducible refine Qab (lss) ?_ ?_ ?_);(with_reducible rfl);rfl)|(with_reducible exact Qaa _ _ (by kernel_rfl))|(with_reducible refine And.intro (Qaa _ _ (by kernel_rfl)) ?_))
      refine⟨⟨k+1,by omega⟩,by simp only;omega,Qan (θ:=[(1000000,1000000)]) rfl ?_ ?_⟩
      ·simp [Qae,lkp,ren1,ren0,Qam]
      ·exact⟨⟨rfl,rfl,rfl,rfl,rfl,.inl ⟨rfl,rfl⟩⟩,trivial⟩
  ·have hA':(((k+1:Nat):Int)<(xs.length:Int))=False:=eq_false (by omega)
   have hke:k=xs.length-1:=by omega
   repeat (first|(simp -implicitDefEqProofs only [go_sem,Nat.reduceAdd,Nat.reduceMul,Nat.reduceEqDiff,Nat.reduceLT,Nat.reduceLeDiff,reduceCtorEq,hA'])|(with_reducible exact Qaa _ _ (by kernel_rfl))|(with_reducible refine And.intro (Qaa _ _ (by kernel_rfl)) ?_))
   refine Qbg (.inr rfl) ?_
   simp -implicitDefEqProofs only [go_sem]
   refine Qan (θ:=[(1000000,1000000)]) rfl ?_ ?_
   ·simp [Qae,lkp,ren1,ren0,Qam]
   ·subst hke
    exact⟨⟨rfl,rfl,rfl,rfl,rfl,.inl ⟨rfl,rfl⟩⟩,trivial⟩
end Go.Proofs.YtciddhkfbgkejaaGreatDoor

namespace Go.Proofs.YtciddhkfbgkejaaGreatDoor
open Go.Vl Go.RowKit Go.Dg
theorem Zj7 (xs:List Int) (hl:xs.length≤12) (m:Int):Qck Tryz.prog 151 [.bs 1000000 1 0 xs.length,.int .i64 0,.int .i64 (xs.length:Int),.int .i64 m] [(1000000,iB xs)] (.tup []) [(1000000,iB (Qbk xs))]:=by
 have h:=Zj6 xs hl
 have w0:IntKind.i64.wrap ((xs.length:Int)-0)=(xs.length:Int):=by rw [Int.sub_zero];exact wrapn (by omega)
 have h12:((xs.length:Int)≤12)=True:=eq_true (by omega)

 refine Qb6 (tb:=[(403,[(1000000,1000000)],[])]) 134 [] [0,1,2,3,8,9,10,11,12,13,14,15,16,17,18,23,29,35,50,68,72,87,113] mixed Tryz.func151 rfl (by kernel_rfl) (by kernel_rfl) (by kernel_rfl) (by kernel_rfl) (by rfl) ?_
 repeat (first|(simp -implicitDefEqProofs only [go_sem,Nat.reduceAdd,Nat.reduceMul,Nat.reduceEqDiff,Nat.reduceLT,Nat.reduceLeDiff,reduceCtorEq])|(with_reducible exact Qaa _ _ (by kernel_rfl))|(with_reducible refine And.intro (Qaa _ _ (by kernel_rfl)) ?_))
 refine Qa0 mixed (fun _:Unit=>St.of [(0,.bs 1000000 1 0 xs.length),(1,.int .i64 0),(2,.int .i64 (xs.length:Int)),(3,.int .i64 m),(8,.bool true),(9,.bool true)] [(1000000,iB xs)]) (fun _=>0) () ?_ ?_
 ·refine Qan (θ:=[(1000000,1000000)]) rfl ?_ ?_
  ·simp [Qae,lkp,ren1,ren0,Qam]
  ·exact⟨⟨rfl,rfl,rfl,rfl,rfl,.inl ⟨rfl,rfl⟩⟩,trivial⟩
 ·rintro⟨⟩
  repeat (first|(simp -implicitDefEqProofs only [go_sem,Nat.reduceAdd,Nat.reduceMul,Nat.reduceEqDiff,Nat.reduceLT,Nat.reduceLeDiff,reduceCtorEq,w0,h12])|((with_reducible refine Qbj (h) ?_ ?_ ?_ ?_);(with_reducible rfl);rfl;rfl)|(with_reducible exact Qaa _ _ (by kernel_rfl))|(with_reducible refine And.intro (Qaa _ _ (by kernel_rfl)) ?_))
  refine Qbg (.inl rfl) ?_
  simp -implicitDefEqProofs only [go_sem]
  refine Qan (θ:=[(1000000,1000000)]) rfl ?_ ?_
  ·simp [Qae,lkp,ren1,ren0,Qam]
  ·exact⟨⟨rfl,rfl,rfl,rfl,rfl,.inl ⟨rfl,rfl⟩⟩,trivial⟩
theorem Zhe (n:Nat) (hn:n<18446744073709551616):Qag Tryz.prog 152 [.int .u64 (n:Int)] (.int .i64 (blen n:Int)):=by
 have h:=Q2f n hn
 refine Qad (tb:=[]) 8 [.tmp 2] [0,2] mixed Tryz.func152 rfl (by kernel_rfl) (by kernel_rfl) (by kernel_rfl) (by kernel_rfl) ?_
 repeat (first|(simp -implicitDefEqProofs only [go_sem,Nat.reduceAdd,Nat.reduceMul,Nat.reduceEqDiff,Nat.reduceLT,Nat.reduceLeDiff,reduceCtorEq])|((with_reducible refine Qab (h) ?_ ?_ ?_);(with_reducible rfl);rfl))
theorem Zhf (xs:List Int) (hl:xs.length≤12):Qck Tryz.prog 97 [.bs 1000000 1 0 xs.length] [(1000000,iB xs)] (.tup []) [(1000000,iB (Qbk xs))]:=by
 have h1:=Zhe xs.length (by omega)
 have h2:=Zj7 xs hl (blen xs.length:Int)
 have w0:IntKind.u64.wrap (xs.length:Int)=(xs.length:Int):=Qhc (by omega)

 refine Qb6 (tb:=[(105,[(1000000,1000000)],[])]) 11 [] [0,2] mixed Tryz.func97 rfl (by kernel_rfl) (by kernel_rfl) (by kernel_rfl) (by kernel_rfl) (by rfl) ?_
 repeat (first|(simp -implicitDefEqProofs only [go_sem,Nat.reduceAdd,Nat.reduceMul,Nat.reduceEqDiff,Nat.reduceLT,Nat.reduceLeDiff,reduceCtorEq,w0])|((with_reducible refine Qab (h1) ?_ ?_ ?_);(with_reducible rfl);rfl)|((with_reducible refine Qbj (h2) ?_ ?_ ?_ ?_);(with_reducible rfl);rfl;rfl))
 refine Qbg (.inr rfl) ?_
 simp -implicitDefEqProofs only [go_sem]
 refine Qan (θ:=[(1000000,1000000)]) rfl ?_ ?_
 ·simp [Qae,lkp,ren1,ren0,Qam]
 ·exact⟨⟨rfl,rfl,rfl,rfl,rfl,.inl ⟨rfl,rfl⟩⟩,trivial⟩
def ddB (xs:List Int):List Int:=dd xs++List.replicate (xs.length-(dd xs).length) 0
set_option maxHeartbeats 4000000 in
theorem Qyk (xs:List Int) (hl:xs.length≤1000000):Qck Tryz.prog 98 [.bs 1000000 1 0 xs.length] [(1000000,iB xs)] (.bs 1000000 1 0 (dd xs).length) [(1000000,iB (ddB xs))]:=by
 by_cases h2:xs.length<2
 ·have h2':((xs.length:Int)<2)=True:=eq_true (by omega)
  have hd:dd xs=xs:=by
   match xs,h2 with
   | [],_=>rfl
   | [_],_=>rfl
  have hB:ddB xs=xs:=by unfold ddB;rw [hd,Nat.sub_self];simp
  rw [hd,hB]
  refine Qb6 (tb:=[]) 61 [.tmp 2] [0,2,3,4,5,8,13,25,32,44] mixed Tryz.func98 rfl (by kernel_rfl) (by kernel_rfl) (by kernel_rfl) (by kernel_rfl) (by rfl) ?_
  repeat (first|(simp -implicitDefEqProofs only [go_sem,Nat.reduceAdd,Nat.reduceMul,Nat.reduceEqDiff,Nat.reduceLT,Nat.reduceLeDiff,reduceCtorEq,h2'])|(with_reducible exact Qaa _ _ (by kernel_rfl))|(with_reducible refine And.intro (Qaa _ _ (by kernel_rfl)) ?_))
  refine Qbg (.inl rfl) ?_
  simp -implicitDefEqProofs only [go_sem,Nat.reduceEqDiff,reduceCtorEq]
  refine Qan (θ:=[(1000000,1000000)]) rfl ?_ ?_
  ·simp [Qae,lkp,ren1,ren0,Qam]
  ·exact⟨⟨rfl,rfl,rfl,rfl,rfl,.inl ⟨rfl,rfl⟩⟩,trivial⟩
 ·have h2':((xs.length:Int)<2)=False:=eq_false (by omega)
  refine Qb6 (tb:=[]) 61 [.tmp 2] [0,2,3,4,5,8,13,25,32,44] mixed Tryz.func98 rfl (by kernel_rfl) (by kernel_rfl) (by kernel_rfl) (by kernel_rfl) (by rfl) ?_
  repeat (first|(simp -implicitDefEqProofs only [go_sem,Nat.reduceAdd,Nat.reduceMul,Nat.reduceEqDiff,Nat.reduceLT,Nat.reduceLeDiff,reduceCtorEq,h2'])|(with_reducible exact Qaa _ _ (by kernel_rfl))|(with_reducible refine And.intro (Qaa _ _ (by kernel_rfl)) ?_))
  refine Qa0 mixed (fun k:{k:Nat // 1≤k∧k≤xs.length∧dd (xs.take k)=xs.take k}=>St.of [(0,.bs 1000000 1 0 xs.length),(3,.int .i64 (k.1:Int))] [(1000000,iB xs)]) (fun k=>xs.length-k.1) ⟨1,by omega,by omega,?_⟩ ?_ ?_
  ·match xs,h2 with
   |a::_,_=>rfl
  ·refine Qan (θ:=[(1000000,1000000)]) rfl ?_ ?_
   ·simp [Qae,lkp,ren1,ren0,Qam]
   ·exact⟨⟨rfl,rfl,rfl,rfl,rfl,.inl ⟨rfl,rfl⟩⟩,trivial⟩
  ·rintro⟨k,hk1,hk,hd⟩
   by_cases hA:k<xs.length
   ·have hA':=ltT hA
    obtain⟨i,rfl⟩: ∃i,k=i+1:=⟨k-1,by omega⟩
    have n1:=nnT (i+1)
    have n0:=nnT i
    have ws:=Qff (n:=i) (by omega)
    have l0:((i:Int)<(xs.length:Int))=True:=eq_true (by omega)
    have g1:=iget xs (i+1) hA
    have g0:=iget xs i (by omega)
    have hw:=Qak (a:=i+1) (by omega)
    have hdt:=Qj6 xs (i+1) hk1 hA
    rw [Nat.add_sub_cancel]at hdt
    by_cases he:xs.getD i 0=xs.getD (i+1) 0
    ·have he':(xs.getD (i+1) 0==xs.getD i 0)=true:=by rw [he];exact beq_self_eq_true _
     obtain⟨s1,s2⟩:=Qxo xs (i+1) hk1 hA hd (by rw [Nat.add_sub_cancel];exact he)
     have b1:(((i+1:Nat):Int)≤(xs.length:Int))=True:=eq_true (by omega)
     have b2:(i+1<xs.length)=True:=eq_true hA
     repeat (first|(simp -implicitDefEqProofs only [go_sem,Nat.reduceAdd,Nat.reduceMul,Nat.reduceEqDiff,Nat.reduceLT,Nat.reduceLeDiff,reduceCtorEq,hA',n0,n1,ws,l0,g0,g1,he',b1,b2,Int.toNat_natCast])|(with_reducible exact Qaa _ _ (by kernel_rfl))|(with_reducible refine And.intro (Qaa _ _ (by kernel_rfl)) ?_))
     refine Qa0 mixed (fun d:{d:Nat // 1≤d∧i+1+d≤xs.length∧(dd (xs.take (i+1+d))).length<i+1+d}=>St.of [(0,.bs 1000000 1 0 xs.length),(3,.int .i64 ((dd (xs.take (i+1+d.1))).length:Int)),(4,.bs 1000000 1 (i+1) (xs.length-(i+1))),(5,.int .i64 (d.1:Int))] [(1000000,iB (ddE xs (i+1+d.1)))]) (fun d=>xs.length-d.1) ⟨1,by omega,by omega,by rw [s2];omega⟩ ?_ ?_
     ·refine Qan (θ:=[(1000000,1000000)]) rfl ?_ ?_
      ·simp only [s2]
       simp [Qae,lkp,ren1,ren0,Qam]
      ·simp only [s1]
       exact⟨⟨rfl,rfl,rfl,rfl,rfl,.inl ⟨rfl,rfl⟩⟩,trivial⟩
     ·rintro⟨d,hd1,hdn,hdl⟩
      simp only
      obtain⟨e,rfl⟩: ∃e,d=e+1:=⟨d-1,by omega⟩
      by_cases hD:i+1+(e+1)<xs.length
      ·have hD':(((e+1:Nat):Int)<((xs.length-(i+1):Nat):Int))=True:=eq_true (by omega)
       have m1:=nnT (e+1)
       have m0:=nnT e
       have we:=Qff (n:=e) (by omega)
       have we2:=Qak (a:=e+1) (by omega)
       have l1:((e:Int)<((xs.length-(i+1):Nat):Int))=True:=eq_true (by omega)
       have q1:((ddE xs (i+1+(e+1))).map (PV.int .i64))[i+1+(e+1)]? =some (.int .i64 (xs.getD (i+1+(e+1)) 0)):=by
        rw [iget _ _ (by rw [Qj7];exact hD),Qxn _ _ _ (by omega)]
       have q0:((ddE xs (i+1+(e+1))).map (PV.int .i64))[i+1+e]? =some (.int .i64 (xs.getD (i+1+e) 0)):=by
        rw [iget _ _ (by rw [Qj7];omega),Qxn _ _ _ (by omega)]
       have hj:i+1+(e+1)-1=i+1+e:=by omega
       by_cases hx:xs.getD (i+1+e) 0=xs.getD (i+1+(e+1)) 0
       ·have hx':(xs.getD (i+1+(e+1)) 0 != xs.getD (i+1+e) 0)=false:=by rw [hx];simp
        obtain⟨k1,k2⟩:=Q4b xs (i+1+(e+1)) (by omega) hD (by rw [hj];exact hx)
        repeat (first|(simp -implicitDefEqProofs only [go_sem,Nat.reduceAdd,Nat.reduceMul,Nat.reduceEqDiff,Nat.reduceLT,Nat.reduceLeDiff,reduceCtorEq,hD',m1,m0,we,we2,l1,q1,q0,hx',Int.toNat_natCast])|(with_reducible exact Qaa _ _ (by kernel_rfl))|(with_reducible refine And.intro (Qaa _ _ (by kernel_rfl)) ?_))
        refine⟨⟨e+1+1,by omega,by omega,by show(dd (xs.take (i+1+(e+1)+1))).length<_;rw [k2];omega⟩,by simp only;omega,Qan (θ:=[(1000000,1000000)]) rfl ?_ ?_⟩
        ·have k3:(dd (xs.take (i+1+(e+1+1)))).length=(dd (xs.take (i+1+(e+1)))).length:=k2
         simp only [k3]
         simp [Qae,lkp,ren1,ren0,Qam]
        ·have k3:ddE xs (i+1+(e+1+1))=ddE xs (i+1+(e+1)):=k1
         simp only [k3]
         exact⟨⟨rfl,rfl,rfl,rfl,rfl,.inl ⟨rfl,rfl⟩⟩,trivial⟩
       ·have hx':(xs.getD (i+1+(e+1)) 0 != xs.getD (i+1+e) 0)=true:=bne_iff_ne.2 fun z=>hx z.symm
        have hdt2:=Qj6 xs (i+1+(e+1)) (by omega) hD
        rw [hj,if_neg hx]at hdt2
        have hst:=Zbs xs (i+1+(e+1)) (by omega) hD hdl (by rw [hj];exact hx)
        have hst2:=iset (ddE xs (i+1+(e+1))) (dd (xs.take (i+1+(e+1)))).length (xs.getD (i+1+(e+1)) 0)
        rw [hst]at hst2
        have k2:(dd (xs.take (i+1+(e+1)+1))).length=(dd (xs.take (i+1+(e+1)))).length+1:=by rw [hdt2];simp
        have hg:=iget (ddE xs (i+1+(e+1))) (dd (xs.take (i+1+(e+1)))).length (by rw [Qj7];omega)
        generalize (dd (xs.take (i+1+(e+1)))).length=K at*
        have wk:=Qak (a:=K) (by omega)
        have nk:=nnT K
        have lk:((K:Int)<(xs.length:Int))=True:=eq_true (by omega)
        repeat (first|(simp -implicitDefEqProofs only [go_sem,Nat.reduceAdd,Nat.reduceMul,Nat.reduceEqDiff,Nat.reduceLT,Nat.reduceLeDiff,reduceIte,reduceCtorEq,hD',m1,m0,we,we2,l1,q1,q0,hx',wk,nk,lk,hg,hst2,Int.toNat_natCast])|(with_reducible exact Qaa _ _ (by kernel_rfl))|(with_reducible refine And.intro (Qaa _ _ (by kernel_rfl)) ?_))
        refine⟨⟨e+1+1,by omega,by omega,by show(dd (xs.take (i+1+(e+1)+1))).length<_;rw [k2];omega⟩,by simp only;omega,Qan (θ:=[(1000000,1000000)]) rfl ?_ ?_⟩
        ·have k3:(dd (xs.take (i+1+(e+1+1)))).length=K+1:=k2
         simp only [k3]
         simp [Qae,lkp,ren1,ren0,Qam]
        ·exact⟨⟨rfl,rfl,rfl,rfl,rfl,.inl ⟨rfl,rfl⟩⟩,trivial⟩
      ·have hD':(((e+1:Nat):Int)<((xs.length-(i+1):Nat):Int))=False:=eq_false (by omega)
       have hn:i+1+(e+1)=xs.length:=by omega
       have hK:(dd (xs.take (i+1+(e+1)))).length=(dd xs).length:=by rw [hn,List.take_length]
       rw [hK]at hdl
       have c1:(((dd xs).length:Int)≤(xs.length:Int))=True:=eq_true (by omega)
       have c2:((dd xs).length<xs.length)=True:=eq_true (by omega)
       have nk:=nnT (dd xs).length
       have f1:(Nat.ble 0 (dd xs).length&&((dd xs).length+(xs.length-(dd xs).length)).ble ((ddE xs (i+1+(e+1))).map (PV.int .i64)).length)=true:=by
        rw [List.length_map,Qj7,Bool.and_eq_true]
        exact⟨Nat.ble_eq_true_of_le (Nat.zero_le _),Nat.ble_eq_true_of_le (by omega)⟩
       have f2:((ddE xs (i+1+(e+1))).map (PV.int .i64)).take (dd xs).length++List.replicate (xs.length-(dd xs).length) (PV.int .i64 0)++
         ((ddE xs (i+1+(e+1))).map (PV.int .i64)).drop ((dd xs).length+(List.replicate (xs.length-(dd xs).length) (PV.int .i64 0)).length)=(ddB xs).map (PV.int .i64):=by
        have g1:(ddE xs (i+1+(e+1))).take (dd xs).length=dd xs:=by
         unfold ddE
         rw [hn,List.take_length]
         exact List.take_left' rfl
        have g2:((ddE xs (i+1+(e+1))).map (PV.int .i64)).drop ((dd xs).length+(List.replicate (xs.length-(dd xs).length) (PV.int .i64 0)).length)=[]:=List.drop_eq_nil_of_le (by rw [List.length_map,Qj7,List.length_replicate];omega)
        rw [g2,←List.map_take,g1,List.append_nil]
        unfold ddB
        rw [List.map_append,List.map_replicate]
       have c3:(((dd xs).length:Int)≤(xs.length:Int))=True:=eq_true (by omega)
       simp only [hK]
       repeat (first|(simp -implicitDefEqProofs only [go_sem,Nat.reduceAdd,Nat.reduceMul,Nat.reduceEqDiff,Nat.reduceLT,Nat.reduceLeDiff,reduceCtorEq,hD',c1,c2,c3,nk,f1,f2,Int.toNat_natCast])|(with_reducible exact Qaa _ _ (by kernel_rfl))|(with_reducible refine And.intro (Qaa _ _ (by kernel_rfl)) ?_))
       refine Qbg (.inl rfl) ?_
       simp -implicitDefEqProofs only [go_sem,Nat.reduceEqDiff,reduceCtorEq]
       refine Qan (θ:=[(1000000,1000000)]) rfl ?_ ?_
       ·simp [Qae,lkp,ren1,ren0,Qam]
       ·exact⟨⟨rfl,rfl,rfl,rfl,rfl,.inl ⟨rfl,rfl⟩⟩,trivial⟩
    ·have he':(xs.getD (i+1) 0==xs.getD i 0)=false:=beq_eq_false_iff_ne.2 fun e=>he e.symm
     repeat (first|(simp -implicitDefEqProofs only [go_sem,Nat.reduceAdd,Nat.reduceMul,Nat.reduceEqDiff,Nat.reduceLT,Nat.reduceLeDiff,reduceCtorEq,hA',n0,n1,ws,l0,g0,g1,he',hw,Int.toNat_natCast])|(with_reducible exact Qaa _ _ (by kernel_rfl))|(with_reducible refine And.intro (Qaa _ _ (by kernel_rfl)) ?_))
     refine⟨⟨i+1+1,by omega,by omega,?_⟩,by simp only;omega,Qan (θ:=[(1000000,1000000)]) rfl ?_ ?_⟩
     ·rw [hdt,if_neg he,hd,List.take_add_one (i:=i+1),List.getElem?_eq_getElem hA,gD hA];rfl
     ·simp [Qae,lkp,ren1,ren0,Qam]
     ·exact⟨⟨rfl,rfl,rfl,rfl,rfl,.inl ⟨rfl,rfl⟩⟩,trivial⟩
   ·have hA':=ltF hA
    obtain rfl:k=xs.length:=by omega
    rw [List.take_length]at hd
    have hB:ddB xs=xs:=by unfold ddB;rw [hd,Nat.sub_self];simp
    rw [hd,hB]
    repeat (first|(simp -implicitDefEqProofs only [go_sem,Nat.reduceAdd,Nat.reduceMul,Nat.reduceEqDiff,Nat.reduceLT,Nat.reduceLeDiff,reduceCtorEq,hA'])|(with_reducible exact Qaa _ _ (by kernel_rfl))|(with_reducible refine And.intro (Qaa _ _ (by kernel_rfl)) ?_))
    refine Qbg (.inl rfl) ?_
    simp -implicitDefEqProofs only [go_sem,Nat.reduceEqDiff,reduceCtorEq]
    refine Qan (θ:=[(1000000,1000000)]) rfl ?_ ?_
    ·simp [Qae,lkp,ren1,ren0,Qam]
    ·exact⟨⟨rfl,rfl,rfl,rfl,rfl,.inl ⟨rfl,rfl⟩⟩,trivial⟩
end Go.Proofs.YtciddhkfbgkejaaGreatDoor

namespace Go.Vl
open Go.RowKit
def Qwo (P:Program) (tb:Tab) (nt:Nat) (ks:List Nat) (c:Code) (k:List It) (Q:Exit→St→Prop):List Nat→St→Prop
 | [],_=>False
 |_::l,st=>go P tb nt ks (.code c:: .again (fun s=> ∃s',Le s s'∧Qwo P tb nt ks c k Q l s')::k) Q st
theorem Qwp (P:Program) (tb:Tab) (nt:Nat) (ks:List Nat) (c:Code) (k:List It) (Q:Exit→St→Prop) (i:Nat) (l:List Nat) (st:St):Qwo P tb nt ks c k Q (i::l) st=go P tb nt ks (.code c:: .again (fun s=> ∃s',Le s s'∧Qwo P tb nt ks c k Q l s')::k) Q st:=rfl
attribute [go_sem] Qwp
theorem Q3s {P:Program} {tb:Tab} {nt:Nat} {ks:List Nat} {k:List It} {Q:Exit→St→Prop} {st:St} (hm:P.follows .mixedOrders=true) {c:Code} (l:List Nat) (s0:St) (h0:Le st s0) (h:Qwo P tb nt ks c k Q l s0):go P tb nt ks (.code (.loop c)::k) Q st:=by
 simp only [go,vx]
 refine Qn1 (fun x:{x:List Nat×St // Qwo P tb nt ks c k Q x.1 x.2}=>x.1.2) (fun x=>x.1.1.length) ⟨(l,s0),h⟩ h0 ?_
 rintro⟨⟨l,s⟩,h⟩
 cases l with
 |nil=>exact h.elim
 |cons i l=>
  simp only [Qwo,go]at h
  refine Qcy (Qbv (tb:=tb) (ks:=ks) hm c _ _ h) ?_
  intro e s q
  cases e with
  |normal=>simp only [gleave]at q;obtain⟨s',h1,h2⟩:=q;exact⟨⟨(l,s'),h2⟩,by simp,h1⟩
  |_=>simpa only [gleave,vthen]using q
end Go.Vl
