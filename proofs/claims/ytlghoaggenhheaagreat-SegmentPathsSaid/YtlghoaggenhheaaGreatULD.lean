/-
  PM8, Dsj, PM9, PM10, PM11, Dsk, ULD (merged for the claim).
-/
import Derived.Test.YtlghoaggenhheaaGreatDsi
import Derived.Test.YtlghoaggenhheaaGreatPM4
import Derived.Test.YtlghoaggenhheaaGreatUO
set_option linter.unusedSimpArgs false
set_option linter.unusedVariables false
namespace Go.Proofs.YtlghoaggenhheaaGreat
open Go.Vl Go.RowKit Go.Dg
theorem Qlg (a b:List Int) (ha:a.length≤1000000000) (hb:b.length≤1000000000):Qae Tryz.prog 69 [Qan a,Qan b] (.bool (decide (a=b))):=by
 by_cases hl:a.length=b.length
 case neg=>
  have n1:((a.length:Int) != (b.length:Int))=true:=by simp only [bne_iff_ne,ne_eq];omega
  rw [decide_eq_false (fun e=>hl (by rw [e]))];refine Qab (tb:=[]) 26 [.tmp 4] [0,1,4,5,10,14,25] mixed Tryz.func69 rfl (by kernel_rfl) ?_;repeat simp -implicitDefEqProofs only [go_sem,seval,List.length_map,n1]
 have n1:((a.length:Int) != (b.length:Int))=false:=by rw [hl];simp
 refine Qab (tb:=[]) 26 [.tmp 4] [0,1,4,5,10,14,25] mixed Tryz.func69 rfl (by kernel_rfl) ?_;repeat simp -implicitDefEqProofs only [go_sem,seval,List.length_map,n1]
 have z0:0≤a.length∧Qhn a b 0=true:=⟨Nat.zero_le _,rfl⟩;refine Qaq mixed (fun i:{i:Nat // i≤a.length∧Qhn a b i=true}=>St.of [(0,Qan a),(1,Qan b),(4,.bool false),(5,.int .i64 (i.1:Int))] []) (fun i=>a.length-i.1) ⟨0,z0⟩ ?_ ?_
 ·exact Qaz (by simp [Qac,lkp,ren1,ren0,Qan])
 ·rintro⟨i,hi,hall⟩;by_cases hA:i<a.length
  ·have hA':=ltT hA;have n0:=nnT i;have hB:i<b.length:=by omega
   have g1:=Qbz a i hA;have g2:=Qbz b i hB;have hwk:=Qah (a:=i) (by omega);by_cases hx:a[i]=b[i]
   ·have hx':(a[i] != b[i])=false:=by rw [hx];simp
    have hn:Qhn a b (i+1)=true:=by rw [Qn7,hall,Qby hA,Qby hB];simp [hx]
    repeat (first|simp -implicitDefEqProofs only [go_sem,seval,hA',n0,g1,g2,hwk,hx',Int.toNat_natCast,List.length_map]|(with_reducible refine And.intro (Qad _ _ (by kernel_rfl)) ?_))
    refine⟨⟨i+1,hA,hn⟩,by simp only;omega,Qaz (by simp [Qac,lkp,ren1,ren0,Qan])⟩
   ·have hx':(a[i] != b[i])=true:=by simp only [bne_iff_ne,ne_eq];exact hx
    rw [decide_eq_false (Qqn (j:=i) (by rw [Qby hA,Qby hB];exact hx))];repeat (first|simp -implicitDefEqProofs only [go_sem,seval,hA',n0,g1,g2,hx',Int.toNat_natCast,List.length_map]|(with_reducible exact Qad _ _ (by kernel_rfl)))
  ·have hA':=ltF hA;obtain rfl:i=a.length:=by omega
   rw [decide_eq_true (Qqo hl hall)];repeat simp -implicitDefEqProofs only [go_sem,seval,hA',List.length_map]
def lenP (p:List Sg):Prop:=p.length≤1000000000∧ ∀s∈p,∀c∈s.ax,c.length≤1000000000
theorem Qj4 (a b:Sg) (ha: ∀c∈a.ax,c.length≤1000000000) (hb: ∀c∈b.ax,c.length≤1000000000):Qae Tryz.prog 40 [sgPV a,sgPV b] (.bool (Qhj a b)):=by
 have t1:=Qlg a.x b.x (ha _ (by simp [Sg.ax])) (hb _ (by simp [Sg.ax]));have t2:=Qlg a.y b.y (ha _ (by simp [Sg.ax])) (hb _ (by simp [Sg.ax]));have t3:=Qlg a.z b.z (ha _ (by simp [Sg.ax])) (hb _ (by simp [Sg.ax]));unfold Qan at t1 t2 t3;unfold Qhj;by_cases h1:a.f=b.f
 case neg=>
  have h1':(a.f==b.f)=false:=beq_eq_false_iff_ne.2 h1;rw [decide_eq_false h1,Bool.false_and];refine Qab (tb:=[]) 45 [.tmp 4] [0,1,2,3,4] mixed Tryz.func40 rfl (by kernel_rfl) ?_;repeat simp -implicitDefEqProofs only [go_sem,seval,h1']
 have h1':(a.f==b.f)=true:=beq_iff_eq.2 h1;rw [decide_eq_true h1,Bool.true_and];by_cases h2:a.t=b.t
 case neg=>
  have h2':(a.t==b.t)=false:=beq_eq_false_iff_ne.2 h2;rw [decide_eq_false h2,Bool.false_and];refine Qab (tb:=[]) 45 [.tmp 4] [0,1,2,3,4] mixed Tryz.func40 rfl (by kernel_rfl) ?_;repeat simp -implicitDefEqProofs only [go_sem,seval,h1',h2']
 have h2':(a.t==b.t)=true:=beq_iff_eq.2 h2;rw [decide_eq_true h2,Bool.true_and];by_cases h3:a.o=b.o
 case neg=>
  have h3':(a.o==b.o)=false:=beq_eq_false_iff_ne.2 h3;rw [decide_eq_false h3,Bool.false_and];refine Qab (tb:=[]) 45 [.tmp 4] [0,1,2,3,4] mixed Tryz.func40 rfl (by kernel_rfl) ?_;repeat simp -implicitDefEqProofs only [go_sem,seval,h1',h2',h3']
 have h3':(a.o==b.o)=true:=beq_iff_eq.2 h3;rw [decide_eq_true h3,Bool.true_and];cases e1:decide (a.x=b.x)with
 |false=>
  rw [e1]at t1;refine Qab (tb:=[]) 45 [.tmp 4] [0,1,2,3,4] mixed Tryz.func40 rfl (by kernel_rfl) ?_;repeat (first|simp -implicitDefEqProofs only [go_sem,seval,h1',h2',h3']|(with_reducible refine Qaa t1 ?_ ?_ ?_);rfl;rfl)
 |true=>
  rw [e1]at t1;cases e2:decide (a.y=b.y)with
  |false=>
   rw [e2]at t2;refine Qab (tb:=[]) 45 [.tmp 4] [0,1,2,3,4] mixed Tryz.func40 rfl (by kernel_rfl) ?_;repeat (first|simp -implicitDefEqProofs only [go_sem,seval,h1',h2',h3']|(with_reducible refine Qaa t1 ?_ ?_ ?_);rfl;rfl|(with_reducible refine Qaa t2 ?_ ?_ ?_);rfl;rfl)
  |true=>
   rw [e2]at t2;refine Qab (tb:=[]) 45 [.tmp 4] [0,1,2,3,4] mixed Tryz.func40 rfl (by kernel_rfl) ?_;repeat (first|simp -implicitDefEqProofs only [go_sem,seval,h1',h2',h3']|(with_reducible refine Qaa t1 ?_ ?_ ?_);rfl;rfl|(with_reducible refine Qaa t2 ?_ ?_ ?_);rfl;rfl|(with_reducible refine Qaa t3 ?_ ?_ ?_);rfl;rfl)
theorem Q62 (p:List Sg) (m:Nat) (hm:m≤1000) (hl:p.length≤maxLen):Qae Tryz.prog 5 [Qam p,.int .i64 (m:Int)] (.bool (fewB p m)):=by
 unfold maxLen at hl;refine Qab (tb:=[]) 46 [.tmp 4] [0,1,4,5,14,41] mixed Tryz.func5 rfl (by kernel_rfl) ?_;repeat simp -implicitDefEqProofs only [go_sem,seval]
 have z0:0≤p.length∧0≤m+1∧(p.take 0).all few1=true:=⟨Nat.zero_le _,Nat.zero_le _,rfl⟩;refine Qaq mixed (fun i:{i:Nat // i≤p.length∧i≤m+1∧(p.take i).all few1=true}=>St.of [(0,Qam p),(1,.int .i64 (m:Int)),(4,.bool false),(5,.int .i64 (i.1:Int))] []) (fun i=>p.length-i.1) ⟨0,z0⟩ ?_ ?_
 ·exact Qaz (by simp [Qac,lkp,ren1,ren0,Qam])
 ·rintro⟨i,hi,hi2,hall⟩;by_cases hA:i<p.length
  ·have hA':=ltT hA;by_cases hM:i≤m
   ·have hM':=leT hM;have n0:=nnT i;have g1:=Qbx p i hA;have hwk:=Qah (a:=i) (by omega);by_cases x1:p[i].x.length≤8
    case neg=>
     have x1':((8:Int)<(p[i].x.length:Int))=True:=eq_true (by omega);have e:fewB p m=false:=Qsa hA hM (by unfold few1;rw [decide_eq_false x1];rfl);repeat simp -implicitDefEqProofs only [go_sem,seval,hA',hM',n0,g1,x1',e,Int.toNat_natCast,List.length_map]
    have x1':((8:Int)<(p[i].x.length:Int))=False:=eq_false (by omega);by_cases x2:p[i].y.length≤8
    case neg=>
     have x2':((8:Int)<(p[i].y.length:Int))=True:=eq_true (by omega);have e:fewB p m=false:=Qsa hA hM (by unfold few1;rw [decide_eq_false x2];simp);repeat simp -implicitDefEqProofs only [go_sem,seval,hA',hM',n0,g1,x1',x2',e,Int.toNat_natCast,List.length_map]
    have x2':((8:Int)<(p[i].y.length:Int))=False:=eq_false (by omega);by_cases x3:p[i].z.length≤8
    case neg=>
     have x3':((8:Int)<(p[i].z.length:Int))=True:=eq_true (by omega);have e:fewB p m=false:=Qsa hA hM (by unfold few1;rw [decide_eq_false x3];simp);repeat simp -implicitDefEqProofs only [go_sem,seval,hA',hM',n0,g1,x1',x2',x3',e,Int.toNat_natCast,List.length_map]
    have x3':((8:Int)<(p[i].z.length:Int))=False:=eq_false (by omega);repeat simp -implicitDefEqProofs only [go_sem,seval,hA',hM',n0,g1,hwk,x1',x2',x3',Int.toNat_natCast,List.length_map]
    refine⟨⟨i+1,hA,by omega,Q0e hA hall (by unfold few1;rw [decide_eq_true x1,decide_eq_true x2,decide_eq_true x3];rfl)⟩,by simp only;omega,Qaz (by simp [Qac,lkp,ren1,ren0,Qam])⟩
   ·have hM':=leF hM;have hle:((p.length:Int)≤(m:Int))=False:=eq_false (by omega);have e:fewB p m=false:=by unfold fewB;rw [decide_eq_false (show¬p.length≤m by omega),Bool.and_false]
    repeat simp -implicitDefEqProofs only [go_sem,seval,hA',hM',hle,e,List.length_map]
  ·have hA':=ltF hA;obtain rfl:i=p.length:=by omega
   rw [List.take_length]at hall;have e:fewB p m=decide (p.length≤m):=by
    unfold fewB;by_cases c:p.length≤m
    ·rw [List.take_of_length_le (by omega),hall,Bool.true_and]
    ·rw [decide_eq_false c,Bool.and_false]
   have hle:decide ((p.length:Int)≤(m:Int))=decide (p.length≤m):=by rw [decide_eq_decide];omega
   repeat simp -implicitDefEqProofs only [go_sem,seval,hA',hle,e,List.length_map]
end Go.Proofs.YtlghoaggenhheaaGreat

namespace Go.Dg

def cwB:Bool:=(List.range 6).all fun n=>(List.range (n+1)).all fun j=>(List.range (j+1)).all fun k=>Nat.beq (bin n j*cw n j k) (60*bin (n-k) (j-k))
theorem Zc2:cwB=true:=by decide
theorem Zv0 {n j k:Nat} (hn:n≤5) (hj:j≤n) (hk:k≤j):bin n j*cw n j k=60*bin (n-k) (j-k):=by
  have h:=Zc2;unfold cwB at h;simp only [List.all_eq_true,List.mem_range]at h;exact Nat.eq_of_beq_eq_true (h n (by omega) j (by omega) k (by omega))
theorem Q1s (f:List Int) (n j:Nat) (h:j<n+1):(trans f 1 n).getD j 0=sm (fun i=>f.getD i 0*(bin (n-i) (j-i):Int)) (j+1):=by
  unfold trans;rw [Qn1,if_pos h];refine Qbg _ fun i _=> ?_;rw [Int.one_pow,Int.one_mul]
theorem Qn8 {c:List Int} {n j:Nat} (hc:c.length=n+1) (hn:n≤5) (hj:j≤n):(bin n j:Int)*ctl c j=60*(trans c 1 n).getD j 0:=by
  rw [Q1s c n j (by omega),ctl,←Qdd,←Qdd];refine Qbg _ fun k hk=> ?_;have h:=Zv0 hn hj (show k≤j by omega);have hn':c.length-1=n:=by omega
  rw [hn'];have h2:((bin n j:Nat):Int)*(cw n j k:Int)=60*(bin (n-k) (j-k):Int):=by
    rw [←Int.natCast_mul,h,Int.natCast_mul];rfl
  calc (bin n j:Int)*(c.getD k 0*(cw n j k:Int))=c.getD k 0*((bin n j:Int)*(cw n j k:Int)):=by
        rw [←Int.mul_assoc,Int.mul_comm (bin n j:Int),Int.mul_assoc]
    _=c.getD k 0*(60*(bin (n-k) (j-k):Int)):=by rw [h2]
    _=60*(c.getD k 0*(bin (n-k) (j-k):Int)):=by rw [←Int.mul_assoc,Int.mul_comm (c.getD k 0),Int.mul_assoc]
theorem Zmf {c:List Int} {n:Nat} (hc:c.length=n+1) (hn:n≤5) (a b:Int):60*hev c a (a+b)=sm (fun j=>ctl c j*((bin n j:Int)*(a^j*b^(n-j)))) (n+1):=by
  have h:=Qgb hc 1 a b;rw [Int.one_mul]at h;rw [←h,Qi4,Qfv,←Qdd];refine Qbg _ fun j hj=> ?_;have h2:=Qn8 hc hn (show j≤n by omega);have e:n+1-1-j=n-j:=by omega
  rw [e,←Int.mul_assoc 60,←h2,Int.mul_comm (bin n j:Int),Int.mul_assoc]
theorem Q5l {c:List Int} {n:Nat} {M a b:Int} (hc:c.length=n+1) (hn:n≤5) (ha:0≤a) (hb:0≤b) (hM: ∀j,j≤n→ -M≤ctl c j∧ctl c j≤M):
    -(M*(a+b)^n)≤60*hev c a (a+b)∧60*hev c a (a+b)≤M*(a+b)^n:=by
  have hw: ∀j,0≤(bin n j:Int)*(a^j*b^(n-j)):=fun j=>Int.mul_nonneg (Int.natCast_nonneg _) (Int.mul_nonneg (Int.pow_nonneg ha) (Int.pow_nonneg hb));rw [Zmf hc hn,←Qn0 a b n,←Qdd];constructor
  · have e: -(sm (fun i=>M*((bin n i:Int)*(a^i*b^(n-i)))) (n+1))=sm (fun i=> -M*((bin n i:Int)*(a^i*b^(n-i)))) (n+1):=by
      rw [Qdd,Qdd,Int.neg_mul]
    rw [e];exact Q47 _ fun j hj=>Int.mul_le_mul_of_nonneg_right (hM j (by omega)).1 (hw j)
  · exact Q47 _ fun j hj=>Int.mul_le_mul_of_nonneg_right (hM j (by omega)).2 (hw j)
theorem Zmg {c:List Int} {n:Nat} (hc:c.length=n+1) (hn:n≤5) (a d:Int):plc c a d=d^(5-n)*hev c a d:=by
  rw [Qi4,←Qdd,plc];refine Qbg _ fun k hk=> ?_;have e:5-k=(5-n)+(c.length-1-k):=by omega
  unfold plcT;rw [e,Int.pow_add];generalize d^(5-n)=D;generalize d^(c.length-1-k)=E;generalize a^k=A;generalize c.getD k 0=X;rw [←Int.mul_assoc,←Int.mul_assoc,←Int.mul_assoc,←Int.mul_assoc,Int.mul_comm D X,Int.mul_assoc X A D,Int.mul_comm A D,←Int.mul_assoc]
theorem Q5m {c:List Int} {o a d:Int} (h:axOK c o=true) (ha:0≤a) (hd:a≤d): -(1048576*(o*d^5))≤plc c a d∧plc c a d≤1048576*(o*d^5):=by
  obtain⟨h1,h2,_,h3⟩:=Qca h;obtain⟨n,hn⟩: ∃n,c.length=n+1:=⟨c.length-1,by omega⟩;have hM: ∀j,j≤n→ -(62914560*o)≤ctl c j∧ctl c j≤62914560*o:=by
    intro j hj;unfold Qdc at h3;have:=List.all_eq_true.1 h3 j (List.mem_range.2 (by omega));simp only [decide_eq_true_eq]at this;omega
  obtain⟨k1,k2⟩:=Q5l hn (by omega) ha (show 0≤d-a by omega) hM;have e:a+(d-a)=d:=by omega
  rw [e]at k1 k2;rw [Zmg hn (by omega)];have hd0:0≤d^(5-n):=Int.pow_nonneg (by omega);have e5:d^5=d^(5-n)*d^n:=by rw [←Int.pow_add];congr 1;omega
  have k3: -(1048576*(o*d^n))≤hev c a d:=by
    have:62914560*o*d^n=60*(1048576*(o*d^n)):=by
      generalize d^n=D;rw [Int.mul_assoc,show(62914560:Int)=60*1048576 from rfl,Int.mul_assoc]
    omega
  have k4:hev c a d≤1048576*(o*d^n):=by
    have:62914560*o*d^n=60*(1048576*(o*d^n)):=by
      generalize d^n=D;rw [Int.mul_assoc,show(62914560:Int)=60*1048576 from rfl,Int.mul_assoc]
    omega
  have e6:1048576*(o*d^5)=d^(5-n)*(1048576*(o*d^n)):=by
    rw [e5];generalize d^(5-n)=D;generalize d^n=E;rw [←Int.mul_assoc o,Int.mul_comm o D,Int.mul_assoc D,←Int.mul_assoc 1048576,Int.mul_comm 1048576 D,Int.mul_assoc]
  rw [e6];constructor
  · rw [←Int.mul_neg];exact Int.mul_le_mul_of_nonneg_left k3 hd0
  · exact Int.mul_le_mul_of_nonneg_left k4 hd0
theorem Zmh (s:Sg) (a d:Int):(plG s a d 3:Int)∣s.o*d^5∧ ∀i,i<3→(plG s a d 3:Int)∣plP s a d i:=by
  have h3:=Qgt s a d 2;have h2:=Qgt s a d 1;have h1:=Qgt s a d 0;have d32:plG s a d 3∣plG s a d 2:=by rw [h3];exact Nat.gcd_dvd_left _ _
  have d21:plG s a d 2∣plG s a d 1:=by rw [h2];exact Nat.gcd_dvd_left _ _
  have d10:plG s a d 1∣plG s a d 0:=by rw [h1];exact Nat.gcd_dvd_left _ _
  have p2:plG s a d 3∣(plP s a d 2).natAbs:=by rw [h3];exact Nat.gcd_dvd_right _ _
  have p1:plG s a d 2∣(plP s a d 1).natAbs:=by rw [h2];exact Nat.gcd_dvd_right _ _
  have p0:plG s a d 1∣(plP s a d 0).natAbs:=by rw [h1];exact Nat.gcd_dvd_right _ _
  refine⟨?_,fun i hi=> ?_⟩
  · have:plG s a d 3∣(s.o*d^5).natAbs:=Nat.dvd_trans d32 (Nat.dvd_trans d21 d10);exact Int.dvd_natAbs.1 (Int.natCast_dvd_natCast.2 this)
  · rcases(show i=0∨i=1∨i=2 by omega)with rfl|rfl|rfl
    · exact Int.dvd_natAbs.1 (Int.natCast_dvd_natCast.2 (Nat.dvd_trans (Nat.dvd_trans d32 d21) p0))
    · exact Int.dvd_natAbs.1 (Int.natCast_dvd_natCast.2 (Nat.dvd_trans d32 p1))
    · exact Int.dvd_natAbs.1 (Int.natCast_dvd_natCast.2 p2)
/-- A coordinate of a place is within the bounds. -/
theorem Q5n {s:Sg} {a d:Int} (hv:Qa1 s=true) (ha:0≤a) (hd:a≤d) (h1:1≤d) (i:Nat) (hi:i<3):0<plO s a d∧ -(1048576*plO s a d)≤plQ s a d i∧plQ s a d i≤1048576*plO s a d:=by
  have ho:=Qeh hv;have hg:=Qw5 ho h1 3 (s:=s) (a:=a);obtain⟨⟨x,hx⟩,hP⟩:=Zmh s a d;obtain⟨y,hy⟩:=hP i hi;have hi':i<s.ax.length:=hi;have hm:s.ax.getD i []=s.ax[i]:=by rw [List.getD_eq_getElem?_getD,List.getElem?_eq_getElem hi'];rfl
  have hb:=Q5m ((Qav hv).2.1 _ (List.getElem_mem hi')) ha hd;have hP2:plP s a d i=plc s.ax[i] a d:=by unfold plP;rw [hm]
  rw [←hP2]at hb;unfold plO plQ;have hpos:0<s.o*d^5:=Int.mul_pos (by omega) (Int.pow_pos (by omega));rw [hx]at hb hpos ⊢;rw [hy]at hb ⊢;have hG:(0:Int)<(plG s a d 3:Int):=by omega
  generalize ((plG s a d 3:Nat):Int)=G at*;rw [Int.mul_ediv_cancel_left _ (by omega),Int.mul_ediv_cancel_left _ (by omega)];have e:1048576*(G*x)=G*(1048576*x):=by rw [←Int.mul_assoc,Int.mul_comm 1048576 G,Int.mul_assoc]
  rw [e,←Int.mul_neg]at hb;exact⟨Int.lt_of_mul_lt_mul_left (a:=G) (by rw [Int.mul_zero];exact hpos) (Int.le_of_lt hG),Int.le_of_mul_le_mul_left hb.1 hG,Int.le_of_mul_le_mul_left hb.2 hG⟩
/-- Rounding. -/
def rnd (x o:Int):Int:=(x+x+o)/(o+o)
theorem Q5o {x o:Int} (ho:0<o) (h1: -(1048576*o)≤x) (h2:x≤1048576*o): -1048576≤rnd x o∧rnd x o≤1048576:=by
  unfold rnd;constructor
  · exact(Int.le_ediv_iff_mul_le (by omega)).2 (by omega)
  · have:=(Int.ediv_lt_iff_lt_mul (a:=x+x+o) (b:=1048577) (show 0<o+o by omega)).2 (by omega);omega
/-! ### times -/
theorem Qbp {p:List Sg} (h:Qa7 p=true):vpTo p p.length=true∧1≤p.length∧p.length≤256:=by
  unfold Qa7 at h;simp only [Bool.and_eq_true,decide_eq_true_eq]at h;exact h
theorem Qdp {p:List Sg} (h:Qa7 p=true) (i:Nat) (hi:i<p.length):Qa1 p[i]=true:=by
  have:=Qk8 (Qbp h).1 hi
  rwa [sgD hi]at this
theorem Ql0 {p:List Sg} (h:Qa7 p=true) (i:Nat) (hi:i+1<p.length):Qez p[i] p[i+1]=true:=by
  have h1:=(Qbp h).1;unfold vpTo at h1;have:=List.all_eq_true.1 h1 (i+1) (List.mem_range.2 hi);unfold vpAt at this;simp only [Bool.and_eq_true,Bool.or_eq_true,decide_eq_true_eq]at this;have h2:=this.2.resolve_left (by omega)
  rwa [Nat.add_sub_cancel,sgD (show i<p.length by omega),sgD hi]at h2
theorem Qn9 {a b:Sg} (h:Qez a b=true):a.t=b.f:=by
  unfold Qez at h;simp only [Bool.and_eq_true,decide_eq_true_eq]at h;exact h.1
theorem Qw7 {p:List Sg} (h:Qa7 p=true) (i:Nat) (hi:i+1<p.length):p[i].t<p[i+1].t:=by
  have h1:=Qn9 (Ql0 h i hi);have h2:=(Qav (Qdp h (i+1) hi)).1;omega
theorem Qoa {p:List Sg} (h:Qa7 p=true): ∀(j i:Nat) (hj:j<p.length) (_:i≤j),(p[i]'(by omega)).t≤p[j].t
  |0,i,hj,hij=>by
        obtain rfl:i=0:=by omega
        exact Int.le_refl _
  |j+1,i,hj,hij=>by
    by_cases e:i=j+1
    · subst e;exact Int.le_refl _
    · have h1:=Qoa h j i (by omega) (by omega);have h2:=Qw7 h j hj;omega
/-- The segment of a time. -/
def atIx (p:List Sg) (t:Int):Nat:=p.findIdx fun s=>decide (t≤s.t)
def pEnd (p:List Sg):Int:=(p.getD (p.length-1) sg0).t
def pBeg (p:List Sg):Int:=(p.getD 0 sg0).f
theorem Zmi {p:List Sg} {t:Int} (h:Qa7 p=true) (ht:t≤pEnd p):atIx p t<p.length:=by
  have hl:=(Qbp h).2.1;unfold atIx;rw [List.findIdx_lt_length];have hi:p.length-1<p.length:=by omega
  refine⟨p[p.length-1],List.getElem_mem hi,?_⟩;unfold pEnd at ht;rw [sgD hi]at ht;exact decide_eq_true ht
theorem Qw8 {p:List Sg} {t:Int} (hi:atIx p t<p.length):t≤(p[atIx p t]).t:=by
  have:=List.findIdx_getElem (w:=hi);exact of_decide_eq_true this
theorem Qji {p:List Sg} {t:Int} {i:Nat} (hi:i<atIx p t) (hl:i<p.length):p[i].t<t:=by
  have:=List.not_of_lt_findIdx hi;exact Int.not_le.1 (of_decide_eq_false this)
theorem Q5p {p:List Sg} {t:Int} (h:Qa7 p=true) (hb:pBeg p≤t) (hi:atIx p t<p.length):(p[atIx p t]).f≤t:=by
  rcases Nat.eq_zero_or_pos (atIx p t)with e|e
  · unfold pBeg at hb;have h0:0<p.length:=by omega
    rw [sgD h0]at hb;simp only [e];exact hb
  · have h1:=Qji (p:=p) (t:=t) (i:=atIx p t-1) (by omega) (by omega);have h2:=Qn9 (Ql0 h (atIx p t-1) (by omega));have e2:atIx p t-1+1=atIx p t:=by omega
    simp only [e2]at h2;omega
end Go.Dg

namespace Go.Proofs.YtlghoaggenhheaaGreat
open Go.Vl Go.RowKit Go.Dg
theorem Qmv:((0:Int) != 0)=false:=rfl
theorem Znq:((0:Int)==0)=true:=rfl
theorem Zwg:((1:Int) != 0)=true:=rfl
theorem Zwh:((1:Int)==0)=false:=rfl
theorem Zd2:((2:Int) != 0)=true:=rfl
theorem Zwi:((2:Int)==0)=false:=rfl
theorem Zwj:((3:Int) != 0)=true:=rfl
theorem Zwk:((3:Int)==0)=false:=rfl
theorem Zwl:((7:Int) != 0)=true:=rfl
theorem Zwm:((7:Int)==0)=false:=rfl
theorem Zwn:((9:Int) != 0)=true:=rfl
theorem Zwo:((9:Int)==0)=false:=rfl
theorem Ztb:((10:Int) != 0)=true:=rfl
theorem Ztc:((10:Int)==0)=false:=rfl
attribute [go_sem] Qmv Znq Zwg Zwh Zd2 Zwi Zwj Zwk Zwl Zwm Zwn Zwo Ztb Ztc
theorem Qsw (p:List Sg) (h:0<p.length):Qae Tryz.prog 13 [Qam p] (.int .i64 (pBeg p)):=by
 have hg:=Qbx p 0 h;have e:pBeg p=p[0].f:=by unfold pBeg;rw [sgD h]
 rw [e];refine Qab (tb:=[]) 7 [.tmp 2] [0,2] mixed Tryz.func13 rfl (by kernel_rfl) ?_;repeat simp -implicitDefEqProofs only [go_sem,seval,hg]
theorem Q63 (p:List Sg) (h:0<p.length) (hl:p.length≤1000000000):Qae Tryz.prog 14 [Qam p] (.int .i64 (pEnd p)):=by
 have hi:p.length-1<p.length:=by omega
 have hg:=Qbx p (p.length-1) hi;have wl:=Qe6 (n:=p.length) h (by omega);have n1:=nnT (p.length-1);have e:pEnd p=p[p.length-1].t:=by unfold pEnd;rw [sgD hi]
 rw [e];refine Qab (tb:=[]) 10 [.tmp 2] [0,2] mixed Tryz.func14 rfl (by kernel_rfl) ?_;repeat simp -implicitDefEqProofs only [go_sem,seval,hg,wl,n1,Int.toNat_natCast,List.length_map]
def lasts (p:List Sg) (t:Int):Bool:=decide (pBeg p≤t)&&decide (t≤pEnd p)
theorem Qoi (p:List Sg) (hp: ∀s∈p,okSg s) (hl:p.length≤1000000):Qae Tryz.prog 8 [Qam p] (if Qa7 p=true then .tup [.int .i64 (pBeg p),.int .i64 (pEnd p),.int .i64 0]else .tup [.int .i64 0,.int .i64 0,.int .i64 2]):=by
 have hv:=Qdk p hp hl;unfold Qam at hv;cases hV:Qa7 p with
 |false=>
  rw [hV]at hv;refine Qab (tb:=[]) 19 [.tmp 2,.tmp 3,.tmp 4] [0,2,3,4,7] mixed Tryz.func8 rfl (by kernel_rfl) ?_;repeat (first|simp -implicitDefEqProofs only [go_sem,seval,Bool.false_eq_true]|(with_reducible refine Qaa hv ?_ ?_ ?_);rfl;rfl)
 |true=>
  have h:=(Qbp hV).2.1;have hi:p.length-1<p.length:=by omega
  have hg0:=Qbx p 0 (by omega);have hg:=Qbx p (p.length-1) hi;have wl:=Qe6 (n:=p.length) (by omega) (by omega);have n1:=nnT (p.length-1);have e1:pEnd p=p[p.length-1].t:=by unfold pEnd;rw [sgD hi]
  have e2:pBeg p=p[0].f:=by unfold pBeg;rw [sgD (by omega)]
  rw [e1,e2];rw [hV]at hv;refine Qab (tb:=[]) 19 [.tmp 2,.tmp 3,.tmp 4] [0,2,3,4,7] mixed Tryz.func8 rfl (by kernel_rfl) ?_;repeat (first|simp -implicitDefEqProofs only [go_sem,seval,hg,hg0,wl,n1,Int.toNat_natCast,List.length_map]|(with_reducible refine Qaa hv ?_ ?_ ?_);rfl;rfl|(with_reducible exact Qad _ _ (by kernel_rfl)))
theorem Zd3 (n m:Nat) (f:FuncId) (cap:List PV) (Pr:Nat→Bool) (hn:n≤1000000000) (hm:m≤n) (h1: ∀i,i<m→Pr i=false) (h2: ∀i,m≤i→i<n→Pr i=true)
  (hc:Qf6 cap (fun _=>none)=some ((cap,[]),[])) (hcr:ren1 [] (.fn f [] cap)=some (.fn f [] cap)) (hf: ∀i:Nat,i<n→Qae Tryz.prog f (.int .i64 (i:Int)::cap) (.bool (Pr i))):Qae Tryz.prog 53 [.int .i64 (n:Int),.fn f [] cap] (.int .i64 (m:Int)):=by
 refine Qab (tb:=[]) 26 [.tmp 4] [0,1,4,5,6,7,11,21] mixed Tryz.func53 rfl (by kernel_rfl) ?_;repeat simp -implicitDefEqProofs only [go_sem,seval,if_true]
 have z0:0≤m∧m≤n∧n≤n:=⟨Nat.zero_le _,hm,Nat.le_refl _⟩;refine Qaq mixed (fun x:{x:Nat×Nat // x.1≤m∧m≤x.2∧x.2≤n}=>St.of [(0,.int .i64 (n:Int)),(1,.fn f [] cap),(5,.int .i64 (x.1.1:Int)),(6,.int .i64 (x.1.2:Int))] []) (fun x=>x.1.2-x.1.1) ⟨(0,n),z0⟩ ?_ ?_
 ·exact Qaz ⟨by simp [lkp,ren1,ren0],by simp only [lkp];exact hcr,by simp [lkp,ren1,ren0],by simp [lkp,ren1,ren0],trivial⟩
 ·rintro⟨⟨i,j⟩,hi,hj,hjn⟩;simp only at hi hj hjn;by_cases hA:i<j
  ·have hA':=ltT hA;have w1:IntKind.i64.wrap ((i:Int)+(j:Int))=((i+j:Nat):Int):=by rw [Qai (by omega) (by omega)];omega
   have w2:IntKind.u64.wrap ((i+j:Nat):Int)=((i+j:Nat):Int):=Qop (by omega);have w3:(((i+j:Nat):Int)).fdiv (2^min 1 64)=(((i+j)/2:Nat):Int):=by
    rw [Int.fdiv_eq_ediv_of_nonneg _ (by decide)];rfl
   have w4:IntKind.i64.wrap (((i+j)/2:Nat):Int)=(((i+j)/2:Nat):Int):=wrapn (by omega);have hh:(i+j)/2<n:=by omega
   have hfh:=hf ((i+j)/2) hh;have w5:=Qah (a:=(i+j)/2) (by omega);generalize hH:(i+j)/2=h at*;by_cases hmh:h<m
   ·rw [h1 h hmh]at hfh;repeat (first|simp -implicitDefEqProofs only [go_sem,seval,hA',w1,w2,w3,w4,w5,hc]|(with_reducible refine Qaa hfh ?_ ?_ ?_);rfl;rfl)
    refine⟨⟨(h+1,j),by simp only;omega,hj,hjn⟩,by simp only;omega,Qaz ⟨by simp [lkp,ren1,ren0],by simp only [lkp];exact hcr,by simp [lkp,ren1,ren0],by simp [lkp,ren1,ren0],trivial⟩⟩
   ·rw [h2 h (by omega) hh]at hfh;repeat (first|simp -implicitDefEqProofs only [go_sem,seval,hA',w1,w2,w3,w4,hc]|(with_reducible refine Qaa hfh ?_ ?_ ?_);rfl;rfl)
    refine⟨⟨(i,h),hi,by simp only;omega,by simp only;omega⟩,by simp only;omega,Qaz ⟨by simp [lkp,ren1,ren0],by simp only [lkp];exact hcr,by simp [lkp,ren1,ren0],by simp [lkp,ren1,ren0],trivial⟩⟩
  ·have hA':=ltF hA;obtain rfl:i=m:=by omega
   repeat simp -implicitDefEqProofs only [go_sem,seval,hA']
theorem Zd4 (p:List Sg) (t:Int) (i:Nat) (h:i<p.length):Qae Tryz.prog 54 [.int .i64 (i:Int),.rp [.int .i64 t],.rp [.slc (p.map sgPV)]] (.bool (decide (t≤p[i].t))):=by
 have hg:=Qbx p i h;have n0:=nnT i;refine Qab (tb:=[]) 12 [.tmp 4] [0,1,2,4] mixed Tryz.func54 rfl (by kernel_rfl) ?_;repeat (first|simp -implicitDefEqProofs only [go_sem,seval,hg,n0,Int.toNat_natCast]|(with_reducible exact Qad _ _ (by kernel_rfl)))
def Qoj:PV:= .agg [.bool false,.str ⟨#[]⟩,.bool false,.str ⟨#[]⟩,.bool false,.str ⟨#[]⟩,.bool false,.str ⟨#[]⟩]
attribute [go_sem] Qoj
def exA (p:List Sg) (t:Int):Int:=t-(p.getD (atIx p t) sg0).f
def exD (p:List Sg) (t:Int):Int:=(p.getD (atIx p t) sg0).t-(p.getD (atIx p t) sg0).f
def exQ (p:List Sg) (t:Int) (i:Nat):Int:=plQ (p.getD (atIx p t) sg0) (exA p t) (exD p t) i
def exO (p:List Sg) (t:Int):Int:=plO (p.getD (atIx p t) sg0) (exA p t) (exD p t)
def Qsx (p:List Sg) (t:Int):PV:=if Qa7 p=true then(if lasts p t=true then .tup [Qaf (exQ p t 0) (exQ p t 1) (exQ p t 2) (exO p t),.int .i64 0]else .tup [Qoj,.int .i64 3])else .tup [Qoj,.int .i64 2]
theorem Qsy {p:List Sg} {t:Int} (hV:Qa7 p=true) (hL:lasts p t=true): ∃h:atIx p t<p.length,exA p t=t-p[atIx p t].f∧exD p t=p[atIx p t].t-p[atIx p t].f∧0≤exA p t∧exA p t≤exD p t∧1≤exD p t∧exD p t≤3600000∧Qa1 p[atIx p t]=true∧p.getD (atIx p t) sg0=p[atIx p t]:=by
 unfold lasts at hL;simp only [Bool.and_eq_true,decide_eq_true_eq]at hL;have hi:=Zmi hV hL.2;have h1:=Qw8 hi;have h2:=Q5p hV hL.1 hi;have hv:=Qdp hV _ hi;have h3:=(Qav hv).1;have e1:exA p t=t-p[atIx p t].f:=by unfold exA;rw [sgD hi]
 have e2:exD p t=p[atIx p t].t-p[atIx p t].f:=by unfold exD;rw [sgD hi]
 exact⟨hi,e1,e2,by omega,by omega,by omega,by omega,hv,sgD hi⟩
set_option maxHeartbeats 1000000 in
theorem Q0c (p:List Sg) (t:Int) (hp: ∀s∈p,okSg s) (hl:p.length≤1000000) (ht:i64 t):Qae Tryz.prog 26 [Qam p,.int .i64 t] (Qsx p t):=by
 have hs:=Qoi p hp hl;unfold Qam at hs;unfold Qsx;cases hV:Qa7 p with
 |false=>
  rw [hV]at hs;simp only [Bool.false_eq_true,if_false]at hs ⊢;refine Qab (tb:=[]) 49 [.cell 4 53,.tmp 5] [0,1,2,3,4,5,6,7,8,9,16,21] mixed Tryz.func26 rfl (by kernel_rfl) ?_;repeat (first|simp -implicitDefEqProofs only [go_sem,seval]|(with_reducible refine Qaa hs ?_ ?_ ?_);rfl;rfl)
 |true=>
  rw [hV]at hs;simp only [if_true]at hs ⊢;by_cases c1:pBeg p≤t
  case neg=>
   have c1':(t<pBeg p)=True:=eq_true (by omega);have e:lasts p t=false:=by unfold lasts;rw [decide_eq_false c1];rfl
   rw [e];simp only [Bool.false_eq_true,if_false];refine Qab (tb:=[]) 49 [.cell 4 53,.tmp 5] [0,1,2,3,4,5,6,7,8,9,16,21] mixed Tryz.func26 rfl (by kernel_rfl) ?_;repeat (first|simp -implicitDefEqProofs only [go_sem,seval,c1']|(with_reducible refine Qaa hs ?_ ?_ ?_);rfl;rfl)
  have c1':(t<pBeg p)=False:=eq_false (by omega);by_cases c2:t≤pEnd p
  case neg=>
   have c2':(pEnd p<t)=True:=eq_true (by omega);have e:lasts p t=false:=by unfold lasts;rw [decide_eq_false c2,Bool.and_false]
   rw [e];simp only [Bool.false_eq_true,if_false];refine Qab (tb:=[]) 49 [.cell 4 53,.tmp 5] [0,1,2,3,4,5,6,7,8,9,16,21] mixed Tryz.func26 rfl (by kernel_rfl) ?_;repeat (first|simp -implicitDefEqProofs only [go_sem,seval,c1',c2']|(with_reducible refine Qaa hs ?_ ?_ ?_);rfl;rfl)
  have c2':(pEnd p<t)=False:=eq_false (by omega);have hL:lasts p t=true:=by unfold lasts;rw [decide_eq_true c1,decide_eq_true c2];rfl
  rw [hL];simp only [if_true];obtain⟨hi,eA,eD,k1,k2,k3,k4,hv,hD⟩:=Qsy hV hL;have hsr:=Zd3 p.length (atIx p t) 54 [.rp [.int .i64 t],.rp [.slc (p.map sgPV)]] (fun i=>decide (t≤(p.getD i sg0).t)) (by omega) (Nat.le_of_lt hi)
   (fun i h=>by rw [sgD (by omega)];exact decide_eq_false (Int.not_le.2 (Qji h (by omega))))
   (fun i h h'=>by rw [sgD h'];exact decide_eq_true (Int.le_trans (Qw8 hi) (Qoa hV i _ h' h))) rfl rfl
   (fun i h=>by rw [sgD h];exact Zd4 p t i h)
  have hpl:=Qsp p[atIx p t] (exA p t) (exD p t) (hp _ (List.getElem_mem hi)) (Qdf hv) (Qeh hv) (by unfold i64;omega) (by unfold i64;omega) (by omega);rw [Zlg]at hpl;unfold exQ exO;rw [hD];have hg:=Qbx p (atIx p t) hi;have n0:=nnT (atIx p t);have wa:IntKind.i64.wrap (t-p[atIx p t].f)=exA p t:=by rw [eA];exact Qai (by omega) (by omega)
  have wd:IntKind.i64.wrap (p[atIx p t].t-p[atIx p t].f)=exD p t:=by rw [eD];exact Qai (by omega) (by omega)
  generalize plQ p[atIx p t] (exA p t) (exD p t) 0=q0 at*;generalize plQ p[atIx p t] (exA p t) (exD p t) 1=q1 at*;generalize plQ p[atIx p t] (exA p t) (exD p t) 2=q2 at*;generalize plO p[atIx p t] (exA p t) (exD p t)=q3 at*;unfold sgPV Qan at hpl;refine Qab (tb:=[]) 49 [.cell 4 53,.tmp 5] [0,1,2,3,4,5,6,7,8,9,16,21] mixed Tryz.func26 rfl (by kernel_rfl) ?_;repeat (first|simp -implicitDefEqProofs only [go_sem,seval,List.length_map,c1',c2',hg,n0,wa,wd,Int.toNat_natCast]|(with_reducible refine Qaa hs ?_ ?_ ?_);rfl;rfl|(with_reducible refine Qaa hsr ?_ ?_ ?_);rfl;rfl|(with_reducible refine Qaa hpl ?_ ?_ ?_);rfl;rfl|(with_reducible refine And.intro (Qad _ _ (by kernel_rfl)) ?_))
theorem Zd5 (p:List Sg) (t:Int): [exQ p t 0,exQ p t 1,exQ p t 2]=(Qmu fun i=>plP (p.getD (atIx p t) sg0) (exA p t) (exD p t) i/(plG (p.getD (atIx p t) sg0) (exA p t) (exD p t) 3:Int)):=rfl
theorem Zd6 (p:List Sg) (t:Int) (hp: ∀s∈p,okSg s) (hl:p.length≤1000000) (ht:i64 t) (hV:Qa7 p=true) (hL:lasts p t=true):Qae Tryz.prog 28 [Qam p,.int .i64 t] (Qev [exQ p t 0,exQ p t 1,exQ p t 2] (exO p t)):=by
 obtain⟨hi,eA,eD,k1,k2,k3,k4,hv,hD⟩:=Qsy hV hL;have hw:=Qsv p[atIx p t] (exA p t) (exD p t) (hp _ (List.getElem_mem hi)) (Qdf hv) (Qeh hv) (by unfold i64;omega) (by unfold i64;omega) (by omega);have eO:(p[atIx p t].o*exD p t^5/(plG p[atIx p t] (exA p t) (exD p t) 3:Int))=exO p t:=by unfold exO plO;rw [hD]
 rw [eO,←hD,←Zd5,hD]at hw;have hg:=Qbx p (atIx p t) hi;have n0:=nnT (atIx p t);have wa:IntKind.i64.wrap (t-p[atIx p t].f)=exA p t:=by rw [eA];exact Qai (by omega) (by omega)
 have wd:IntKind.i64.wrap (p[atIx p t].t-p[atIx p t].f)=exD p t:=by rw [eD];exact Qai (by omega) (by omega)
 have hat:=eq_true (Qw8 hi);have hbf: ∀i (h:i<atIx p t) (h2:i<p.length),(t≤p[i].t)=False:=fun i h h2=>eq_false (Int.not_le.2 (Qji h h2));generalize [exQ p t 0,exQ p t 1,exQ p t 2]=QL at*;generalize exO p t=QO at*;unfold Qev at hw ⊢;unfold sgPV Qan at hw;clear eO;refine Qab (tb:=[]) 43 [.cell 4 61] [0,1,4,5,9,18] mixed Tryz.func28 rfl (by kernel_rfl) ?_;repeat simp -implicitDefEqProofs only [go_sem,seval]
 refine Qaq mixed (fun i:{i:Nat // i≤atIx p t}=>St.of [(0,Qam p),(1,.int .i64 t),(4,.bp 0 3 0 0),(5,.int .i64 (i.1:Int))] [(0,{els:=[.agg [.nilS,.bool false,.nilS]],esz:=3,ety:=61,fro:=0,live:=true,arr:=false})]) (fun i=>p.length-i.1) ⟨0,Nat.zero_le _⟩ ?_ ?_
 ·refine Qaj (θ:=[(0,0)]) rfl ?_ ?_
  ·simp [Qac,lkp,ren1,ren0,Qao,Qam]
  ·exact⟨⟨rfl,rfl,rfl,rfl,rfl,.inr ⟨rfl,_,_,rfl,rfl,rfl,rfl⟩⟩,trivial⟩
 ·rintro⟨i,hix⟩;have hA:i<p.length:=by omega
  have hA':=ltT hA;have n1:=nnT i;have hwk:=Qah (a:=i) (by omega);by_cases hE:i=atIx p t
  ·subst hE;repeat (first|simp -implicitDefEqProofs only [go_sem,seval,di,hA',n0,hg,hat,wa,wd,Int.toNat_natCast,List.length_map]|(with_reducible refine Qaa hw ?_ ?_ ?_);rfl;rfl|(with_reducible exact Qad _ _ (by kernel_rfl)))
  ·have hg1:=Qbx p i hA;have hb:=hbf i (by omega) hA;repeat simp -implicitDefEqProofs only [go_sem,seval,hA',n1,hg1,hb,hwk,Int.toNat_natCast,List.length_map]
   refine⟨⟨i+1,by omega⟩,by simp only;omega,Qaj (θ:=[(0,0)]) rfl ?_ ?_⟩
   ·simp [Qac,lkp,ren1,ren0,Qao,Qam]
   ·exact⟨⟨rfl,rfl,rfl,rfl,rfl,.inr ⟨rfl,_,_,rfl,rfl,rfl,rfl⟩⟩,trivial⟩
def vPV (x y z:Int):PV:= .agg [.int .i64 x,.int .i64 y,.int .i64 z]
attribute [go_sem] vPV
theorem dv9 (m i:Nat):m/E9^(i+1)*E9+m/E9^i%E9=m/E9^i:=by
 rw [Nat.pow_succ,←Nat.div_div_eq_div_mul,Nat.mul_comm];exact Nat.div_add_mod _ _
theorem Zm3 (n k:Nat) (h:k<(digs E9 n).length):((digs E9 n).map fun d:Nat=>PV.int .i64 (d:Int))[k]? =some (.int .i64 ((n/E9^k%E9:Nat):Int)):=by
 rw [List.getElem?_map,Qat (by decide) h];rfl
theorem Zk6 (x:Int) (h:x.natAbs≤4611686018427387904):Qae Tryz.prog 92 [rI x] (.int .i64 x):=by
 have hlen:(digs E9 x.natAbs).length≤3:=(Qar (by decide) _ _).2 (by have:E9^3=1000000000000000000000000000:=rfl;omega);have wl:IntKind.i64.wrap (((digs E9 x.natAbs).length:Int)-1)=((digs E9 x.natAbs).length:Int)-1:=Qai (by omega) (by omega);refine Qab (tb:=[]) 26 [.tmp 2] [0,1,2,3,4,10,22] mixed Tryz.func92 rfl (by kernel_rfl) ?_;repeat simp -implicitDefEqProofs only [go_sem,seval,rI,di,List.length_map,wl]
 have z0:0≤(digs E9 x.natAbs).length:=Nat.zero_le _;refine Qaq mixed (fun i:{i:Nat // i≤(digs E9 x.natAbs).length}=>St.of [(1,.bp 0 2 0 0),(2,.int .i64 0),(3,.int .i64 ((x.natAbs/E9^i.1:Nat):Int)),(4,.int .i64 ((i.1:Int)-1))]
  [(0,{els:=[rI x],esz:=2,ety:=59,fro:=0,live:=true,arr:=false})]) (fun i=>i.1) ⟨(digs E9 x.natAbs).length,Nat.le_refl _⟩ ?_ ?_
 ·refine Qaj (θ:=[(0,0)]) rfl ?_ ?_
  ·have:=Qa2 (B:=E9) (by decide) x.natAbs;simp [Qac,lkp,ren1,ren0,Qao,Nat.div_eq_of_lt this]
  ·exact⟨⟨rfl,rfl,rfl,rfl,rfl,.inr ⟨rfl,_,_,rfl,rfl,rfl,rfl⟩⟩,trivial⟩
 ·rintro⟨i,hi⟩;cases i with
  |succ i=>
   have hA':((0:Int)≤((i+1:Nat):Int)-1)=True:=eq_true (by omega);have e1:((i+1:Nat):Int)-1=(i:Int):=by omega
   have n0:=nnT i;have hg:=Zm3 x.natAbs i hi;have hv:=dv9 x.natAbs i;have hle:x.natAbs/E9^i≤x.natAbs:=Nat.div_le_self _ _;have e9:E9=1000000000:=rfl;generalize hV:x.natAbs/E9^i=V at*;have hg2:=Nat.mod_lt V (show 0<E9 by decide);generalize x.natAbs/E9^(i+1)=U at*;rw [e9]at hv hg2;have w1:IntKind.i64.wrap ((U:Int)*1000000000)=(U:Int)*1000000000:=Qai (by omega) (by omega);have w2:IntKind.i64.wrap ((U:Int)*1000000000+((V%E9:Nat):Int))=(V:Int):=by
    have e:V%E9=V%1000000000:=by rw [e9]
    rw [e,Qai (by omega) (by omega)];omega
   have w3:IntKind.i64.wrap ((i:Int)-1)=(i:Int)-1:=Qai (by omega) (by omega);simp only [e1];repeat simp -implicitDefEqProofs only [go_sem,seval,rI,di,n0,hg,w1,w2,w3,Int.toNat_natCast]
   refine⟨⟨i,by omega⟩,by simp only;omega,Qaj (θ:=[(0,0)]) rfl ?_ ?_⟩
   ·simp [Qac,lkp,ren1,ren0,Qao,hV]
   ·exact⟨⟨rfl,rfl,rfl,rfl,rfl,.inr ⟨rfl,_,_,rfl,rfl,rfl,rfl⟩⟩,trivial⟩
  |zero=>
   have hA':((0:Int)≤((0:Nat):Int)-1)=False:=eq_false (by omega);have e0:x.natAbs/E9^0=x.natAbs:=by rw [Nat.pow_zero,Nat.div_one]
   simp only [e0];by_cases hx:x<0
   ·have hd:decide (x<0)=true:=decide_eq_true hx;have w1:IntKind.i64.wrap (0-((x.natAbs:Nat):Int))=x:=by rw [Qai (by omega) (by omega)];omega
    repeat simp -implicitDefEqProofs only [go_sem,seval,rI,di,hd,w1]
   ·have hd:decide (x<0)=false:=decide_eq_false hx;have w1:((x.natAbs:Nat):Int)=x:=by omega
    repeat simp -implicitDefEqProofs only [go_sem,seval,rI,di,hd,w1]
theorem Qxa {x o:Int} {B:Nat} (hx:x.natAbs<2^B) (ho:o.natAbs<2^B):(x+x+o).natAbs<2^(B+1+1):=
 Qq3 (Qq3 hx hx) (Nat.lt_of_lt_of_le ho (Nat.pow_le_pow_right (by decide) (by omega)))
theorem Zv2 {p:List Sg} {t:Int} (hp: ∀s∈p,okSg s) (hV:Qa7 p=true) (hL:lasts p t=true):(∀i,i<3→(exQ p t i).natAbs<2^2000∧ -1048576≤rnd (exQ p t i) (exO p t)∧rnd (exQ p t i) (exO p t)≤1048576)∧(exO p t).natAbs<2^2000∧0<exO p t:=by
 obtain⟨hi,eA,eD,k1,k2,k3,k4,hv,hD⟩:=Qsy hV hL;have b:=Q60 (a:=exA p t) (d:=exD p t) (hp _ (List.getElem_mem hi)) (Qdf hv) (Qeh hv) (by unfold i64;omega) (by unfold i64;omega) (by omega);have b2:=fun i h=>Q5n hv k1 k2 k3 i h;unfold exQ exO;rw [hD];refine⟨fun i h=>⟨b.1 i h,?_⟩,b.2,(b2 0 (by decide)).1⟩;obtain⟨h1,h2,h3⟩:=b2 i h;exact Q5o h1 h2 h3
def atPV (p:List Sg) (t:Int):PV:=if Qa7 p=true then(if lasts p t=true then .tup [vPV (rnd (exQ p t 0) (exO p t)) (rnd (exQ p t 1) (exO p t)) (rnd (exQ p t 2) (exO p t)),.int .i64 0]else .tup [vPV 0 0 0,.int .i64 3])else .tup [vPV 0 0 0,.int .i64 2]
def sel3 (R:Nat→Int) (i m:Nat):Int:=if m<i then R m else 0
set_option maxHeartbeats 1000000 in
theorem Zv3 (p:List Sg) (t:Int) (hp: ∀s∈p,okSg s) (hl:p.length≤1000000) (ht:i64 t):Qae Tryz.prog 52 [Qam p,.int .i64 t] (atPV p t):=by
 have he:=Q0c p t hp hl ht;unfold Qsx at he;unfold atPV;unfold Qam at he;cases hV:Qa7 p with
 |false=>
  rw [hV]at he;simp only [Bool.false_eq_true,if_false]at he ⊢;refine Qab (tb:=[]) 58 [.cell 4 38,.tmp 5] [0,1,4,5,6,7,8,9,10,18,27,28,29] mixed Tryz.func52 rfl (by kernel_rfl) ?_;repeat (first|simp -implicitDefEqProofs only [go_sem,seval]|(with_reducible refine Qaa he ?_ ?_ ?_);rfl;rfl)
 |true=>
  cases hL:lasts p t with
  |false=>
   rw [hV,hL]at he;simp only [Bool.false_eq_true,if_false,if_true]at he ⊢;refine Qab (tb:=[]) 58 [.cell 4 38,.tmp 5] [0,1,4,5,6,7,8,9,10,18,27,28,29] mixed Tryz.func52 rfl (by kernel_rfl) ?_;repeat (first|simp -implicitDefEqProofs only [go_sem,seval]|(with_reducible refine Qaa he ?_ ?_ ?_);rfl;rfl)
  |true=>
   rw [hV,hL]at he;simp only [if_true]at he ⊢;obtain⟨hb,ho,h0⟩:=Zv2 hp hV hL;have hb0:=hb 0 (by decide);have hbb1:=hb 1 (by decide);have hb2:=hb 2 (by decide);clear hb;generalize exQ p t 0=x0 at*;generalize exQ p t 1=x1 at*;generalize exQ p t 2=x2 at*;generalize exO p t=o at*;have b3:=Qq3 ho ho;have a3:=Qhq (Qaw ho (by decide)) (Qaw ho (by decide)) (Qaw b3 (by decide));refine Qab (tb:=[]) 58 [.cell 4 38,.tmp 5] [0,1,4,5,6,7,8,9,10,18,27,28,29] mixed Tryz.func52 rfl (by kernel_rfl) ?_;repeat (first|simp -implicitDefEqProofs only [go_sem,seval]|(with_reducible refine Qaa he ?_ ?_ ?_);rfl;rfl)
   refine Qaq mixed (fun i:{i:Nat // i≤3}=>St.of [(4,.bp 0 3 0 0),(5,.int .i64 0),(6,.bp 106 8 0 0),(8,.bp 400 3 0 0),(27,w3PV x0 x1 x2),(28,.int .i64 (i.1:Int))]
    [(0,{els:=[vPV 0 0 0],esz:=3,ety:=38,fro:=0,live:=true,arr:=false}),(106,{els:=[Qaf x0 x1 x2 o],esz:=8,ety:=53,fro:=0,live:=true,arr:=false}),(400,{els:=[vPV (sel3 (fun m=>rnd ([x0,x1,x2].getD m 0) o) i.1 0) (sel3 (fun m=>rnd ([x0,x1,x2].getD m 0) o) i.1 1) (sel3 (fun m=>rnd ([x0,x1,x2].getD m 0) o) i.1 2)],esz:=3,ety:=138,fro:=0,live:=true,arr:=false})]) (fun i=>3-i.1) ⟨0,Nat.zero_le _⟩ ?_ ?_
   ·refine Qaj (θ:=[(0,0),(106,106),(400,400)]) rfl ?_ ?_
    ·simp [Qac,lkp,ren1,ren0,Qao,w3PV]
    ·exact⟨⟨rfl,rfl,rfl,rfl,rfl,.inr ⟨rfl,_,_,rfl,rfl,rfl,rfl⟩⟩,⟨rfl,rfl,rfl,rfl,rfl,.inr ⟨rfl,_,_,rfl,rfl,rfl,rfl⟩⟩,⟨rfl,rfl,rfl,rfl,rfl,.inr ⟨rfl,_,_,rfl,rfl,rfl,rfl⟩⟩,trivial⟩
   ·rintro⟨i,hi⟩;by_cases hA:i<3
    ·have hA':((i:Int)<3)=True:=eq_true (by omega);rcases(show i=0∨i=1∨i=2 by omega)with hi0|hi0|hi0
     ·obtain⟨hb1,hr1,hr2⟩:=hb0;obtain rfl:i=0:=hi0;have ii:Qeb (rnd x0 o)= .tup [.int .i64 (rnd x0 o),.int .i64 0]:=by unfold Qeb;rw [if_pos (by omega)]
      have wi:=Qol (x:=rnd x0 o) (Qaw (B:=64) (by have:(2:Nat)^64=18446744073709551616:=rfl;omega) (by decide));rw [ii]at wi;have b1:=Qq3 hb1 hb1;have b2:=Qxa hb1 ho;have a1:=Qhq (Qaw hb1 (by decide)) (Qaw hb1 (by decide)) (Qaw b1 (by decide));have a2:=Qhq (Qaw b1 (by decide)) (Qaw ho (by decide)) (Qaw b2 (by decide));have q:=Qj1 b2 (by decide) (Qq0 b3 (by decide)) (show 0<o+o by omega);have er:(x0+x0+o)/(o+o)=rnd x0 o:=rfl;rw [er]at q;clear er b1 b2 ii;generalize hR:rnd x0 o=R at*;generalize x0+x0+o=S at*;generalize x0+x0=S1 at*;generalize o+o=S2 at*;repeat (first|simp -implicitDefEqProofs only [go_sem,seval,wPV,sel3]|(with_reducible refine Qaa a1 ?_ ?_ ?_);rfl;rfl|(with_reducible refine Qaa a2 ?_ ?_ ?_);rfl;rfl|(with_reducible refine Qaa a3 ?_ ?_ ?_);rfl;rfl|(with_reducible refine Qaa q ?_ ?_ ?_);rfl;rfl|(with_reducible refine Qaa wi ?_ ?_ ?_);rfl;rfl|(with_reducible refine And.intro (Qad _ _ (by kernel_rfl)) ?_))
      refine⟨⟨0+1,hA⟩,by simp only;omega,Qaj (θ:=[(0,0),(106,106),(400,400)]) rfl ?_ ?_⟩
      ·simp [Qac,lkp,ren1,ren0,Qao]
      ·subst hR;exact⟨⟨rfl,rfl,rfl,rfl,rfl,.inr ⟨rfl,_,_,rfl,rfl,rfl,rfl⟩⟩,⟨rfl,rfl,rfl,rfl,rfl,.inr ⟨rfl,_,_,rfl,rfl,rfl,rfl⟩⟩,⟨rfl,rfl,rfl,rfl,rfl,.inr ⟨rfl,_,_,rfl,rfl,rfl,rfl⟩⟩,trivial⟩
     ·obtain⟨hb1,hr1,hr2⟩:=hbb1;obtain rfl:i=1:=hi0;have ii:Qeb (rnd x1 o)= .tup [.int .i64 (rnd x1 o),.int .i64 0]:=by unfold Qeb;rw [if_pos (by omega)]
      have wi:=Qol (x:=rnd x1 o) (Qaw (B:=64) (by have:(2:Nat)^64=18446744073709551616:=rfl;omega) (by decide));rw [ii]at wi;have b1:=Qq3 hb1 hb1;have b2:=Qxa hb1 ho;have a1:=Qhq (Qaw hb1 (by decide)) (Qaw hb1 (by decide)) (Qaw b1 (by decide));have a2:=Qhq (Qaw b1 (by decide)) (Qaw ho (by decide)) (Qaw b2 (by decide));have q:=Qj1 b2 (by decide) (Qq0 b3 (by decide)) (show 0<o+o by omega);have er:(x1+x1+o)/(o+o)=rnd x1 o:=rfl;rw [er]at q;clear er b1 b2 ii;generalize hR:rnd x1 o=R at*;generalize x1+x1+o=S at*;generalize x1+x1=S1 at*;generalize o+o=S2 at*;repeat (first|simp -implicitDefEqProofs only [go_sem,seval,wPV,sel3]|(with_reducible refine Qaa a1 ?_ ?_ ?_);rfl;rfl|(with_reducible refine Qaa a2 ?_ ?_ ?_);rfl;rfl|(with_reducible refine Qaa a3 ?_ ?_ ?_);rfl;rfl|(with_reducible refine Qaa q ?_ ?_ ?_);rfl;rfl|(with_reducible refine Qaa wi ?_ ?_ ?_);rfl;rfl|(with_reducible refine And.intro (Qad _ _ (by kernel_rfl)) ?_))
      refine⟨⟨1+1,hA⟩,by simp only;omega,Qaj (θ:=[(0,0),(106,106),(400,400)]) rfl ?_ ?_⟩
      ·simp [Qac,lkp,ren1,ren0,Qao]
      ·subst hR;exact⟨⟨rfl,rfl,rfl,rfl,rfl,.inr ⟨rfl,_,_,rfl,rfl,rfl,rfl⟩⟩,⟨rfl,rfl,rfl,rfl,rfl,.inr ⟨rfl,_,_,rfl,rfl,rfl,rfl⟩⟩,⟨rfl,rfl,rfl,rfl,rfl,.inr ⟨rfl,_,_,rfl,rfl,rfl,rfl⟩⟩,trivial⟩
     ·obtain⟨hb1,hr1,hr2⟩:=hb2;obtain rfl:i=2:=hi0;have ii:Qeb (rnd x2 o)= .tup [.int .i64 (rnd x2 o),.int .i64 0]:=by unfold Qeb;rw [if_pos (by omega)]
      have wi:=Qol (x:=rnd x2 o) (Qaw (B:=64) (by have:(2:Nat)^64=18446744073709551616:=rfl;omega) (by decide));rw [ii]at wi;have b1:=Qq3 hb1 hb1;have b2:=Qxa hb1 ho;have a1:=Qhq (Qaw hb1 (by decide)) (Qaw hb1 (by decide)) (Qaw b1 (by decide));have a2:=Qhq (Qaw b1 (by decide)) (Qaw ho (by decide)) (Qaw b2 (by decide));have q:=Qj1 b2 (by decide) (Qq0 b3 (by decide)) (show 0<o+o by omega);have er:(x2+x2+o)/(o+o)=rnd x2 o:=rfl;rw [er]at q;clear er b1 b2 ii;generalize hR:rnd x2 o=R at*;generalize x2+x2+o=S at*;generalize x2+x2=S1 at*;generalize o+o=S2 at*;repeat (first|simp -implicitDefEqProofs only [go_sem,seval,wPV,sel3]|(with_reducible refine Qaa a1 ?_ ?_ ?_);rfl;rfl|(with_reducible refine Qaa a2 ?_ ?_ ?_);rfl;rfl|(with_reducible refine Qaa a3 ?_ ?_ ?_);rfl;rfl|(with_reducible refine Qaa q ?_ ?_ ?_);rfl;rfl|(with_reducible refine Qaa wi ?_ ?_ ?_);rfl;rfl|(with_reducible refine And.intro (Qad _ _ (by kernel_rfl)) ?_))
      refine⟨⟨2+1,hA⟩,by simp only;omega,Qaj (θ:=[(0,0),(106,106),(400,400)]) rfl ?_ ?_⟩
      ·simp [Qac,lkp,ren1,ren0,Qao]
      ·subst hR;exact⟨⟨rfl,rfl,rfl,rfl,rfl,.inr ⟨rfl,_,_,rfl,rfl,rfl,rfl⟩⟩,⟨rfl,rfl,rfl,rfl,rfl,.inr ⟨rfl,_,_,rfl,rfl,rfl,rfl⟩⟩,⟨rfl,rfl,rfl,rfl,rfl,.inr ⟨rfl,_,_,rfl,rfl,rfl,rfl⟩⟩,trivial⟩
    ·have hA':((i:Int)<3)=False:=eq_false (by omega);obtain rfl:i=3:=by omega
     have z0:sel3 (fun m=>rnd ([x0,x1,x2].getD m 0) o) 3 0=rnd x0 o:=rfl;have z1:sel3 (fun m=>rnd ([x0,x1,x2].getD m 0) o) 3 1=rnd x1 o:=rfl;have z2:sel3 (fun m=>rnd ([x0,x1,x2].getD m 0) o) 3 2=rnd x2 o:=rfl;simp only [z0,z1,z2];repeat simp -implicitDefEqProofs only [go_sem,seval]
def dkB (ety:Nat):Box:={els:=[.agg [.int .i64 0]],esz:=1,ety:=ety,fro:=0,live:=true,arr:=false}
attribute [go_sem] dkB
abbrev dkT:Nat:=169
theorem Zk7 (x:Int):Qdb Tryz.prog 133 [.bp 1000000 1 0 0,wPV x,.int .i64 0] [(1000000,dkB dkT)] (wPV x) [(1000000,dkB dkT)]:=by
 refine Qcn (tb:=[]) 17 [.cell 6 51] [0,1,2,4,6,11] mixed Tryz.func133 rfl (by kernel_rfl) (by kernel_rfl) (by kernel_rfl) (by kernel_rfl) (by rfl) ?_;repeat simp -implicitDefEqProofs only [go_sem,seval,wPV]
 refine Qbv (.inl rfl) ?_;simp -implicitDefEqProofs only [go_sem,seval];refine Qaj (θ:=[(1000000,1000000)]) rfl ?_ ?_
 ·simp [Qac,lkp,ren1,ren0,Qao]
 ·exact⟨⟨rfl,rfl,rfl,rfl,rfl,.inr ⟨rfl,_,_,rfl,rfl,rfl,rfl⟩⟩,trivial⟩
theorem Qul {x y:Int} (hx:x.natAbs<2^65536) (hy:y.natAbs<2^65536) (h:(x*y).natAbs<2^65536):Qdb Tryz.prog 116 [.bp 1000000 1 0 0,wPV x,wPV y] [(1000000,dkB dkT)] (wPV (x*y)) [(1000000,dkB dkT)]:=by
 have h1:=Zlj hx hy;rw [Qj5 h]at h1;have hn:=Zk7 (x*y);generalize x*y=S at*

 refine Qcn (tb:=[(108,[(1000000,1000000)],[])]) 16 [.cell 6 51] [0,1,2,4,5,6] mixed Tryz.func116 rfl (by kernel_rfl) (by kernel_rfl) (by kernel_rfl) (by kernel_rfl) (by rfl) ?_;repeat (first|simp -implicitDefEqProofs only [go_sem,seval,wPV]|(with_reducible refine Qaa h1 ?_ ?_ ?_);rfl;rfl|(with_reducible refine Qbn hn ?_ ?_ ?_ ?_);rfl;rfl;rfl|(with_reducible refine And.intro (Qad _ _ (by kernel_rfl)) ?_))
 refine Qbv (.inl rfl) ?_;simp -implicitDefEqProofs only [go_sem,seval];refine Qaj (θ:=[(1000000,1000000)]) rfl ?_ ?_
 ·simp [Qac,lkp,ren1,ren0,Qao]
 ·exact⟨⟨rfl,rfl,rfl,rfl,rfl,.inr ⟨rfl,_,_,rfl,rfl,rfl,rfl⟩⟩,trivial⟩
theorem Zk8 {x y:Int} (hx:x.natAbs<2^65536) (hy:y.natAbs<2^65536) (h:(x+y).natAbs<2^65536):Qdb Tryz.prog 117 [.bp 1000000 1 0 0,wPV x,wPV y] [(1000000,dkB dkT)] (wPV (x+y)) [(1000000,dkB dkT)]:=by
 have h1:=Zlk hx hy;rw [Qj5 h]at h1;have hn:=Zk7 (x+y);generalize x+y=S at*

 refine Qcn (tb:=[(108,[(1000000,1000000)],[])]) 16 [.cell 6 51] [0,1,2,4,5,6] mixed Tryz.func117 rfl (by kernel_rfl) (by kernel_rfl) (by kernel_rfl) (by kernel_rfl) (by rfl) ?_;repeat (first|simp -implicitDefEqProofs only [go_sem,seval,wPV]|(with_reducible refine Qaa h1 ?_ ?_ ?_);rfl;rfl|(with_reducible refine Qbn hn ?_ ?_ ?_ ?_);rfl;rfl;rfl|(with_reducible refine And.intro (Qad _ _ (by kernel_rfl)) ?_))
 refine Qbv (.inl rfl) ?_;simp -implicitDefEqProofs only [go_sem,seval];refine Qaj (θ:=[(1000000,1000000)]) rfl ?_ ?_
 ·simp [Qac,lkp,ren1,ren0,Qao]
 ·exact⟨⟨rfl,rfl,rfl,rfl,rfl,.inr ⟨rfl,_,_,rfl,rfl,rfl,rfl⟩⟩,trivial⟩
end Go.Proofs.YtlghoaggenhheaaGreat

namespace Go.Dg
def nxE (out:List Int) (a b:Int) (k j:Nat):Int:=(if j<k then out.getD j 0*a else 0)+(if 0<j∧j≤k then out.getD (j-1) 0*b else 0)
def nxL (out:List Int) (a b:Int) (k:Nat):List Int:=(List.range (out.length+1)).map (nxE out a b k)
theorem Qd5 (out:List Int) (a b:Int) (k:Nat):(nxL out a b k).length=out.length+1:=by simp [nxL]
theorem Zc3 (out:List Int) (a b:Int):nxL out a b 0=List.replicate (out.length+1) 0:=by
 apply List.ext_getElem
 ·simp [nxL]
 ·intro i h1 h2;simp only [nxL,List.getElem_map,List.getElem_range,List.getElem_replicate,nxE];rw [if_neg (by omega),if_neg (by omega)];rfl
theorem Zmj (out:List Int) (a b:Int) (k:Nat) (h:k<(nxL out a b k).length):(nxL out a b k)[k]=if 0<k then out.getD (k-1) 0*b else 0:=by
 simp only [nxL,List.getElem_map,List.getElem_range,nxE];rw [if_neg (Nat.lt_irrefl k),Int.zero_add];by_cases e:0<k
 ·rw [if_pos ⟨e,Nat.le_refl k⟩,if_pos e]
 ·rw [if_neg (fun h=>e h.1),if_neg e]
theorem Zc4 (out:List Int) (a b:Int) (k:Nat) (h:k<out.length):
  ((nxL out a b k).set k ((if 0<k then out.getD (k-1) 0*b else 0)+out.getD k 0*a)).set (k+1) (out.getD k 0*b)=nxL out a b (k+1):=by
 apply List.ext_getElem
 ·simp [nxL]
 ·intro j h1 h2;have hj:j<out.length+1:=by simpa [nxL]using h2
  simp only [List.getElem_set,nxL,List.getElem_map,List.getElem_range,nxE];by_cases e1:k+1=j
  ·subst e1;rw [if_pos rfl,if_neg (Nat.lt_irrefl _),if_pos (by omega),Nat.add_sub_cancel,Int.zero_add]
  ·rw [if_neg e1];by_cases e2:k=j
   ·subst e2;rw [if_pos rfl,if_pos (Nat.lt_succ_self k)];by_cases e:0<k
    ·rw [if_pos e,if_pos ⟨e,by omega⟩,Int.add_comm]
    ·rw [if_neg e,if_neg (fun h=>e h.1),Int.add_comm]
   ·rw [if_neg e2];by_cases e3:j<k
    ·have a1:j<k+1:=by omega
     rw [if_pos e3,if_pos a1];by_cases e4:0<j
     ·have a2:0<j∧j≤k:=⟨e4,by omega⟩;have a3:0<j∧j≤k+1:=⟨e4,by omega⟩;rw [if_pos a2,if_pos a3]
     ·have a2: ¬(0<j∧j≤k):=fun h=>e4 h.1;have a3: ¬(0<j∧j≤k+1):=fun h=>e4 h.1;rw [if_neg a2,if_neg a3]
    ·have a1: ¬j<k+1:=by omega
     have a2: ¬(0<j∧j≤k):=by omega
     have a3: ¬(0<j∧j≤k+1):=by omega
     rw [if_neg e3,if_neg a1,if_neg a2,if_neg a3]
def hstep (out:List Int) (a b c:Int):List Int:=(nxL out a b out.length).set 0 ((nxL out a b out.length).getD 0 0+c)
theorem Quf (out:List Int) (a b c:Int):(hstep out a b c).length=out.length+1:=by simp [hstep,Qd5]
theorem Qzn (out:List Int) (a b:Int):nxL out a b out.length=zipA (out.map (· *a)) (0::out.map (· *b)):=by
 apply List.ext_getElem
 ·simp [nxL,zipA]
 ·intro j h1 h2;have hj:j<out.length+1:=by simpa [nxL]using h1
  simp only [nxL,zipA,List.getElem_map,List.getElem_range,nxE];congr 1
  ·by_cases e:j<out.length
   ·rw [if_pos e,List.getD_eq_getElem?_getD,List.getD_eq_getElem?_getD,List.getElem?_map,List.getElem?_eq_getElem e];rfl
   ·rw [if_neg e,List.getD_eq_getElem?_getD,List.getElem?_eq_none (by rw [List.length_map];omega)];rfl
  ·cases j with
   |zero=>rw [if_neg (by omega)];rfl
   |succ j=>
    rw [if_pos (by omega),Nat.add_sub_cancel,List.getD_cons_succ,List.getD_eq_getElem?_getD,List.getD_eq_getElem?_getD,List.getElem?_map,List.getElem?_eq_getElem (show j<out.length by omega)];rfl
theorem Q5q (x:Int) (p:List Int) (u:Int):ev (x::p) u=x+u*ev p u:=by simp [ev]
theorem Zk0 (p:List Int) (c u:Int):ev (p.map (· *c)) u=ev p u*c:=by
 have:=Qn2 p c u;unfold Qc8 at this
 rwa [Qe2]at this
theorem Zmk (p q:List Int) (u:Int):ev (zipA p q) u=ev p u+ev q u:=by
 have:=Q5g p q u;unfold pAdd at this
 rwa [Qe2]at this
theorem Zml (p:List Int) (c u:Int) (h:0<p.length):ev (p.set 0 (p.getD 0 0+c)) u=ev p u+c:=by
 cases p with
 |nil=>simp at h
 |cons x p=>simp only [List.set_cons_zero,List.getD_cons_zero,Q5q];omega
theorem Zc5 (out:List Int) (a b c u:Int):ev (hstep out a b c) u=ev out u*(a+b*u)+c:=by
 unfold hstep;rw [Zml _ _ _ (by rw [Qd5];omega),Qzn,Zmk,Zk0,Q5q,Zk0,Int.mul_add];congr 2;rw [Int.zero_add,Int.mul_comm u,Int.mul_assoc]
def Qet (p:List Int) (a b d:Int):Nat→List Int
 |0=>[p.getD (p.length-1) 0]
 |m+1=>hstep (Qet p a b d m) a b (p.getD (p.length-1-(m+1)) 0*d^(m+1))
theorem Ql1 (p:List Int) (a b d:Int): ∀m,(Qet p a b d m).length=m+1
 |0=>rfl
 |m+1=>by rw [Qet,Quf,Ql1 p a b d m]
theorem Qzo (p:List Int) (a b d u:Int) (hp:0<p.length): ∀m,m<p.length→ev (Qet p a b d m) u=sm (fun k=>p.getD (p.length-1-m+k) 0*((a+b*u)^k*d^(m-k))) (m+1)
 |0,_=>by simp [Qet,ev,sm]
 |m+1,hm=>by
  rw [Qet,Zc5,Qzo p a b d u hp m (by omega),Int.add_comm,←Qk6]
  conv=>rhs;rw [Qjv]
  congr 1
  ·simp only [Nat.add_zero,Nat.sub_zero,Int.pow_zero,Int.one_mul]
  ·refine Qbg _ fun k hk=> ?_;have e1:p.length-1-m+k=p.length-1-(m+1)+(k+1):=by omega
   have e2:m+1-(k+1)=m-k:=by omega
   rw [e1,e2,Int.pow_succ];generalize p.getD (p.length-1-(m+1)+(k+1)) 0=X;generalize (a+b*u)^k=Y;generalize d^(m-k)=Z;rw [Int.mul_assoc X,Int.mul_assoc Y,Int.mul_comm Z,←Int.mul_assoc Y]
theorem Qqp (p:List Int) (a b d:Int) (hp:0<p.length):Qas (Qet p a b d (p.length-1))=Qce p a b d p.length:=by
 rw [←Qfe p a b d p.length];refine Qw0 _ _ fun u _=> ?_;rw [Qzo p a b d u hp _ (by omega),Q5w,Qi4];have e:p.length-1+1=p.length:=by omega
 rw [e];refine Qbg _ fun k _=> ?_;rw [Nat.sub_self,Nat.zero_add]
theorem Zc6 {out:List Int} {a b c:Int} {X B:Nat} (ho:bd X out) (ha:a.natAbs<2^B) (hb:b.natAbs<2^B) (hc:c.natAbs<2^(X+B)):bd (X+B+2) (hstep out a b c):=by
 have p2:2^(X+B+2)=4*2^(X+B):=by rw [Nat.pow_add];omega
 have hA: ∀j,(out.getD j 0*a).natAbs<2^(X+B):=fun j=>by rw [Int.natAbs_mul,Nat.pow_add];exact Nat.mul_lt_mul'' (Qde ho j) ha
 have hB: ∀j,(out.getD j 0*b).natAbs<2^(X+B):=fun j=>by rw [Int.natAbs_mul,Nat.pow_add];exact Nat.mul_lt_mul'' (Qde ho j) hb
 have h0:0<2^(X+B):=Nat.two_pow_pos _;have hn: ∀k j,(nxE out a b k j).natAbs<2*2^(X+B):=fun k j=>by
  have:=hA j;have:=hB (j-1);unfold nxE;split<;>split<;>omega
 intro x hx;rw [p2];unfold hstep at hx;rcases List.mem_or_eq_of_mem_set hx with h|h
 ·unfold nxL at h;simp only [List.mem_map]at h;obtain⟨j,_,rfl⟩:=h;have:=hn out.length j;omega
 ·have hg:((nxL out a b out.length).getD 0 0).natAbs<2*2^(X+B):=by
   unfold nxL;rw [Qn1];split
   ·exact hn _ _
   ·show 0<_;omega
  omega
end Go.Dg

namespace Go.Vl
open Go.RowKit
def Box.renD (θ:List (Nat×Nat)) (B' B:Box):Prop:=
 Box.renames θ B' B∨(B'.esz=B.esz∧B'.ety=B.ety∧B'.fro=B.fro∧B'.live=B.live∧(B'.arr,B'.mp)=(B.arr,B.mp)∧B'.arr=false∧Qd2 θ B'.els=some B.els∧(B'.els.all fun v=>Qa8 v.cells)=true)
theorem Box.renD.parts {θ:List (Nat×Nat)} {B' B:Box} (h:Box.renD θ B' B):B'.esz=B.esz∧B'.ety=B.ety∧B'.fro=B.fro∧B'.live=B.live∧(B'.arr,B'.mp)=(B.arr,B.mp)∧
  ((B'.arr=true∧B.els=B'.els)∨(B'.arr=false∧ ∃v v',B'.els=[v']∧B.els=[v]∧ren1 θ v'=some v∧Qa8 v'.cells=true)∨(B'.arr=false∧Qd2 θ B'.els=some B.els∧(B'.els.all fun v=>Qa8 v.cells)=true)):=by
 rcases h with⟨a,b,c,d,e,f|f⟩|⟨a,b,c,d,e,f,g,h⟩
 ·exact⟨a,b,c,d,e,.inl f⟩
 ·exact⟨a,b,c,d,e,.inr (.inl f)⟩
 ·exact⟨a,b,c,d,e,.inr (.inr ⟨f,g,h⟩)⟩
theorem Qlt {w:World} {im:Im} {θ:List (Nat×Nat)} {ρ ρ':Rho} (hρ: ∀b b0 x,lkp θ b=some b0→ρ b0=some x→ρ' b=some x): ∀(vs' vs:List PV),Qd2 θ vs'=some vs→(vs'.all fun v=>Qa8 v.cells)=true→
  vs'.map (fun v=>v.cells.length)=vs.map (fun v=>v.cells.length)∧ ∀us,LRL w im ρ (vs.flatMap PV.cells) us→LRL w im ρ' (vs'.flatMap PV.cells) us
 | [],vs,h,_=>by
  simp only [Qd2,Option.some.injEq]at h;subst h;exact⟨rfl,fun us hu=>by cases hu.nil_inv;exact .nil⟩
 |v'::vs',vs,h,ho=>by
  simp only [List.all_cons,Bool.and_eq_true]at ho;simp only [Qd2]at h;cases h1:ren1 θ v' with
  |none=>rw [h1]at h;cases h
  |some x=>
   rw [h1]at h;simp only at h;cases h2:Qd2 θ vs' with
   |none=>rw [h2]at h;cases h
   |some xs=>
    rw [h2]at h;simp only [Option.some.injEq]at h;subst h;obtain⟨k1,k2⟩:=Qiz (w:=w) (im:=im) h1 ho.1;obtain⟨m1,m2⟩:=Qlt (w:=w) (im:=im) hρ vs' xs h2 ho.2;refine⟨by rw [List.map_cons,List.map_cons,k1,m1],fun us hu=> ?_⟩;rw [List.flatMap_cons]at hu ⊢;obtain⟨u1,u2,rfl,l1,l2⟩:=hu.split;exact(k2 ρ ρ' hρ u1 l1).append (m2 u2 l2)
def Qcv (θ:List (Nat×Nat)) (bs:List (Nat×Box)):List (Nat×Box)→Prop
 | []=>True
 |(b,B')::rest=>(match lkp θ b with
  |some b0=>match lkp bs b0 with
   |some B=>Box.renD θ B' B
   |none=>False
  |none=>False)∧Qcv θ bs rest
theorem Qal.toD {θ:List (Nat×Nat)} {bs:List (Nat×Box)}: ∀{bs':List (Nat×Box)},Qal θ bs bs'→Qcv θ bs bs'
 | [],_=>trivial
 |(b,B')::rest,h=>by
  refine⟨?_,Qal.toD h.2⟩;have h1:=h.1;cases e0:lkp θ b with
  |none=>rw [e0]at h1;exact h1.elim
  |some b0=>
   rw [e0]at h1;simp only at h1 ⊢;cases e1:lkp bs b0 with
   |none=>rw [e1]at h1;exact h1.elim
   |some B=>rw [e1]at h1;exact .inl h1
theorem Qkz {θ:List (Nat×Nat)} {bs bs':List (Nat×Box)} (h:Qcv θ bs bs') {b:Nat} {B':Box} (hB:lkp bs' b=some B'): ∃b0 B,lkp θ b=some b0∧lkp bs b0=some B∧Box.renD θ B' B:=by
 induction bs' with
 |nil=>cases hB
 |cons p rest ih=>
  obtain⟨k,x⟩:=p;unfold lkp at hB;split at hB
  ·rename_i e;cases hB;subst e;have h1:=h.1;cases e0:lkp θ b with
   |none=>rw [e0]at h1;exact h1.elim
   |some b0=>
    rw [e0]at h1;simp only at h1;cases e1:lkp bs b0 with
    |none=>rw [e1]at h1;exact h1.elim
    |some B=>rw [e1]at h1;exact⟨b0,B,rfl,e1,h1⟩
  ·exact ih h.2 hB
theorem Zlx {θ:List (Nat×Nat)} {vs vs':List (Nat×PV)} {bs bs':List (Nat×Box)} {o:List (List PV)} {y:Yl} (hθ:Qee θ bs'=true) (hv:Qac θ vs vs') (hb:Qcv θ bs bs'):Le (St.ofG vs bs o y) (St.ofG vs' bs' o y):=by
 simp only [Qee,Bool.and_eq_true]at hθ;obtain⟨hκ,hθ⟩:=hθ;have hinj: ∀b1 b2 b0,lkp θ b1=some b0→lkp θ b2=some b0→b1=b2:=by
  intro b1 b2 b0 e1 e2;have z1:=(Qb0 hκ).1 e1;have z2:=(Qb0 hκ).1 e2;rw [z1]at z2;exact Option.some.inj z2
 have hall: ∀b b0,lkp θ b=some b0→(lkp bs' b).isSome=true∧(LENT≤b→b0=b):=by
  intro b b0 e;have:=List.all_eq_true.1 hθ _ (Qch e);simp only [Bool.and_eq_true,Bool.or_eq_true,beq_iff_eq]at this;refine⟨this.1,fun hL=> ?_⟩;rcases this.2 with q|q
  ·have:=Nat.le_of_ble_eq_true q;omega
  ·exact q.symm
 have hkey: ∀b b0,lkp θ b=some b0→(lkp bs' b).isSome=true:=fun b b0 e=>(hall b b0 e).1;rintro C a w ⟨ρ,im,h⟩;have hthere: ∀b B',lkp bs' b=some B'→ ∃b0 B x,lkp θ b=some b0∧lkp bs b0=some B∧Box.renD θ B' B∧ρ b0=some x:=by
  intro b B' hB';obtain⟨b0,B,e1,e2,e3⟩:=Qkz hb hB';cases hx:ρ b0 with
  |none=>
   have:=(h.rho b0).1 hx;simp only [Qmo]at this;rw [e2]at this;cases this
  |some x=>exact⟨b0,B,x,e1,e2,e3,hx⟩
 obtain⟨ρ',hρ'⟩: ∃ρ':Rho,∀b,ρ' b=(lkp θ b).bind ρ:=⟨fun b=>(lkp θ b).bind ρ,fun _=>rfl⟩;have hρ: ∀b b0 x,lkp θ b=some b0→ρ b0=some x→ρ' b=some x:=by
  intro b b0 x e1 e2;rw [hρ',e1];exact e2
 have hback: ∀b x,ρ' b=some x→ ∃b0,lkp θ b=some b0∧ρ b0=some x:=by
  intro b x e;rw [hρ']at e;cases hb0:lkp θ b with
  |none=>rw [hb0]at e;cases e
  |some b0=>rw [hb0]at e;exact⟨b0,rfl,e⟩
 refine⟨ρ',im,h.step ⟨.refl _ _ _,Keeps.refl _ _,?_,fun _ _ x=>x,fun _ _ x=> .inl x⟩ ?_,h.nt,h.dfr,h.imc,?_,?_,?_,?_⟩
 ·rintro g ⟨b,hb'⟩;obtain⟨b0,_,e⟩:=hback b _ hb';exact .inl ⟨b0,e⟩
 ·intro b x x' hL h0 hx';obtain⟨b0,e1,e2⟩:=hback b x' hx';rw [(hall b b0 e1).2 hL]at e2;exact h.root.rho0 b x x' hL h0 e2
 ·intro t v hvt;obtain⟨x,e1,e2⟩:=Qhc hv hvt;exact Qiy hρ e2 (h.var t x e1)
 ·intro b;constructor
  ·intro e;cases hB':lkp bs' b with
   |none=>exact hB'
   |some B'=>
    obtain⟨b0,B,x,e1,_,_,e4⟩:=hthere b B' hB';rw [hρ b b0 x e1 e4]at e;cases e
  ·intro e;rw [hρ'];cases hb0:lkp θ b with
   |none=>rfl
   |some b0=>have:=hkey b b0 hb0;simp only [Qmo]at e;rw [e]at this;cases this
 ·intro b x B' hx hB';obtain⟨b0,B,x0,e1,e2,r0,e4⟩:=hthere b B' hB';obtain⟨r1,r2,r3,r4,r5,r6⟩:=r0.parts;obtain⟨r5,rm⟩:=Prod.mk.inj r5;rw [hρ b b0 x0 e1 e4]at hx;cases hx;have hbox:=h.box b0 x B e4 e2;cases x with
  |none=>
   obtain⟨z1,z2,z3,z4⟩:=hbox;rcases r6 with⟨_,r6⟩|⟨q1,v,v',q2,q3,_⟩|⟨q1,q2,_⟩
   ·exact⟨by rw [←r6];exact z1,by rw [r5];exact z2,by rw [r3];exact z3,by rw [r1];exact z4⟩
   ·rw [q3]at z1;cases z1
   ·rw [r5]at q1;rw [q1]at z2;cases z2
  |some g=>
   obtain⟨h1,h2,h3,h4,⟨hmn,cur,us,rest,h5,h6,h7,h8,h9,h10,h11⟩|hm⟩:=hbox
   case inr=>
    rcases r6 with⟨ra,r6⟩|⟨q1,v,v',q2,q3,q4,q5⟩|⟨q1,q2,q3⟩
    ·obtain⟨m1,m2,m3,m4⟩:=hm;exact⟨h1,by rw [r3,←r6];exact h2,by rw [r1];exact h3,by rw [r1,←r6];exact h4,.inr ⟨by rw [←r6];exact m1,ra,by rw [r4];exact m3,by rw [rm];exact m4⟩⟩
    ·rw [hm.1]at q3;cases q3
    ·rw [r5,hm.2.1]at q1;cases q1
   rcases r6 with⟨ra,r6⟩|⟨q1,v,v',q2,q3,q4,q5⟩|⟨q1,q2,q3⟩
   ·refine⟨h1,by rw [r3,←r6];exact h2,by rw [r1];exact h3,by rw [r1,←r6];exact h4,.inl ⟨rm.trans hmn,cur,us,rest,by rw [r2];exact h5,h6,?_,by rw [r5,←r6];exact h8,h9,by rw [r3,r1,r4];exact h10,by rw [r3,r1,r4];exact h11⟩⟩;rw [←r6];exact(h8 (by rw [←r5];exact ra)).toLRL
   ·obtain⟨k1,k2⟩:=Qiz (w:=w) (im:=im) q4 q5;rw [q3]at h2 h4 h7 h8;simp only [List.flatMap_cons,List.flatMap_nil,List.append_nil]at h7 h8;refine⟨h1,by rw [r3,q2];exact h2,by rw [r1];exact h3,?_,.inl ⟨rm.trans hmn,cur,us,rest,by rw [r2];exact h5,h6,?_,?_,h9,by rw [r3,r1,r4];exact h10,by rw [r3,r1,r4];exact h11⟩⟩
    ·intro e he;rw [q2]at he;simp only [List.mem_singleton]at he;subst he;rw [k1,r1];exact h4 v (by simp)
    ·rw [q2];simpa using k2 ρ ρ' hρ us h7
    ·intro ha;rw [q1]at ha;cases ha
   ·obtain⟨k1,k2⟩:=Qlt (w:=w) (im:=im) (ρ:=ρ) (ρ':=ρ') hρ B'.els B.els q2 q3;have kl:B'.els.length=B.els.length:=by have:=congrArg List.length k1;simpa using this
    refine⟨h1,by rw [r3,kl];exact h2,by rw [r1];exact h3,?_,.inl ⟨rm.trans hmn,cur,us,rest,by rw [r2];exact h5,h6,k2 us h7,fun(ha:B'.arr=true)=>absurd (q1.symm.trans ha) (by decide),h9,by rw [r3,r1,r4];exact h10,by rw [r3,r1,r4];exact h11⟩⟩;intro e he;have:e.cells.length∈B'.els.map (fun v=>v.cells.length):=List.mem_map.2 ⟨e,he,rfl⟩;rw [k1]at this;obtain⟨d,hd,e3⟩:=List.mem_map.1 this;rw [←e3,r1];exact h4 d hd
 ·intro b1 b2 g B1 B2 p1 p2 e1 e2 l1 l2;obtain⟨b01,t1,t2⟩:=hback b1 _ p1;obtain⟨b02,t3,t4⟩:=hback b2 _ p2;obtain⟨c01,D1,x1,u1,u2,r10,u4⟩:=hthere b1 B1 e1;obtain⟨c02,D2,x2,u5,u6,r20,u8⟩:=hthere b2 B2 e2;have v1:=r10.parts.2.2.2.1;have v2:=r20.parts.2.2.2.1;rw [t1]at u1;cases u1;rw [t3]at u5;cases u5;have:=h.inj b01 b02 g D1 D2 t2 t4 u2 u6 (by rw [←v1];exact l1) (by rw [←v2];exact l2);subst this;exact hinj b1 b2 b01 t1 t3
end Go.Vl
