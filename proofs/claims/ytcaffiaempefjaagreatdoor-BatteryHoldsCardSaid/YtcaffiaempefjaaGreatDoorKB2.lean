/-
  Dsj, Dsk, Dsl, Dsm, Dsn, Dbu, Dbv, Dbw, KB2 (merged for the claim).
-/
import Derived.Test.YtcaffiaempefjaaGreatDoorDsi
import Derived.Test.YtcaffiaempefjaaGreatDoorKN2
set_option linter.unusedSimpArgs false
set_option linter.unusedVariables false
namespace Go.Dg

def cwB:Bool:=(List.range 6).all fun n=>(List.range (n+1)).all fun j=>(List.range (j+1)).all fun k=>Nat.beq (bin n j*cw n j k) (60*bin (n-k) (j-k))
theorem Zex:cwB=true:=by decide
theorem Zz0 {n j k:Nat} (hn:n≤5) (hj:j≤n) (hk:k≤j):bin n j*cw n j k=60*bin (n-k) (j-k):=by
  have h:=Zex;unfold cwB at h;simp only [List.all_eq_true,List.mem_range]at h;exact Nat.eq_of_beq_eq_true (h n (by omega) j (by omega) k (by omega))
theorem Q1f (f:List Int) (n j:Nat) (h:j<n+1):(trans f 1 n).getD j 0=sm (fun i=>f.getD i 0*(bin (n-i) (j-i):Int)) (j+1):=by
  unfold trans;rw [Qni,if_pos h];refine Qbd _ fun i _=> ?_;rw [Int.one_pow,Int.one_mul]
theorem Qnm {c:List Int} {n j:Nat} (hc:c.length=n+1) (hn:n≤5) (hj:j≤n):(bin n j:Int)*ctl c j=60*(trans c 1 n).getD j 0:=by
  rw [Q1f c n j (by omega),ctl,←Qdf,←Qdf];refine Qbd _ fun k hk=> ?_;have h:=Zz0 hn hj (show k≤j by omega);have hn':c.length-1=n:=by omega
  rw [hn'];have h2:((bin n j:Nat):Int)*(cw n j k:Int)=60*(bin (n-k) (j-k):Int):=by
    rw [←Int.natCast_mul,h,Int.natCast_mul];rfl
  calc (bin n j:Int)*(c.getD k 0*(cw n j k:Int))=c.getD k 0*((bin n j:Int)*(cw n j k:Int)):=by
        rw [←Int.mul_assoc,Int.mul_comm (bin n j:Int),Int.mul_assoc]
    _=c.getD k 0*(60*(bin (n-k) (j-k):Int)):=by rw [h2]
    _=60*(c.getD k 0*(bin (n-k) (j-k):Int)):=by rw [←Int.mul_assoc,Int.mul_comm (c.getD k 0),Int.mul_assoc]
theorem Zp2 {c:List Int} {n:Nat} (hc:c.length=n+1) (hn:n≤5) (a b:Int):60*hev c a (a+b)=sm (fun j=>ctl c j*((bin n j:Int)*(a^j*b^(n-j)))) (n+1):=by
  have h:=Qf9 hc 1 a b;rw [Int.one_mul]at h;rw [←h,Qim,Qfq,←Qdf];refine Qbd _ fun j hj=> ?_;have h2:=Qnm hc hn (show j≤n by omega);have e:n+1-1-j=n-j:=by omega
  rw [e,←Int.mul_assoc 60,←h2,Int.mul_comm (bin n j:Int),Int.mul_assoc]
theorem Q5u {c:List Int} {n:Nat} {M a b:Int} (hc:c.length=n+1) (hn:n≤5) (ha:0≤a) (hb:0≤b) (hM: ∀j,j≤n→ -M≤ctl c j∧ctl c j≤M):
    -(M*(a+b)^n)≤60*hev c a (a+b)∧60*hev c a (a+b)≤M*(a+b)^n:=by
  have hw: ∀j,0≤(bin n j:Int)*(a^j*b^(n-j)):=fun j=>Int.mul_nonneg (Int.natCast_nonneg _) (Int.mul_nonneg (Int.pow_nonneg ha) (Int.pow_nonneg hb));rw [Zp2 hc hn,←Qnh a b n,←Qdf];constructor
  · have e: -(sm (fun i=>M*((bin n i:Int)*(a^i*b^(n-i)))) (n+1))=sm (fun i=> -M*((bin n i:Int)*(a^i*b^(n-i)))) (n+1):=by
      rw [Qdf,Qdf,Int.neg_mul]
    rw [e];exact Q5i _ fun j hj=>Int.mul_le_mul_of_nonneg_right (hM j (by omega)).1 (hw j)
  · exact Q5i _ fun j hj=>Int.mul_le_mul_of_nonneg_right (hM j (by omega)).2 (hw j)
theorem Qv7 {c:List Int} {n:Nat} (hc:c.length=n+1) (hn:n≤5) (a d:Int):plc c a d=d^(5-n)*hev c a d:=by
  rw [Qim,←Qdf,plc];refine Qbd _ fun k hk=> ?_;have e:5-k=(5-n)+(c.length-1-k):=by omega
  unfold plcT;rw [e,Int.pow_add];generalize d^(5-n)=D;generalize d^(c.length-1-k)=E;generalize a^k=A;generalize c.getD k 0=X;rw [←Int.mul_assoc,←Int.mul_assoc,←Int.mul_assoc,←Int.mul_assoc,Int.mul_comm D X,Int.mul_assoc X A D,Int.mul_comm A D,←Int.mul_assoc]
theorem Q5v {c:List Int} {o a d:Int} (h:axOK c o=true) (ha:0≤a) (hd:a≤d): -(1048576*(o*d^5))≤plc c a d∧plc c a d≤1048576*(o*d^5):=by
  obtain⟨h1,h2,_,h3⟩:=Qa9 h;obtain⟨n,hn⟩: ∃n,c.length=n+1:=⟨c.length-1,by omega⟩;have hM: ∀j,j≤n→ -(62914560*o)≤ctl c j∧ctl c j≤62914560*o:=by
    intro j hj;unfold Qdd at h3;have:=List.all_eq_true.1 h3 j (List.mem_range.2 (by omega));simp only [decide_eq_true_eq]at this;omega
  obtain⟨k1,k2⟩:=Q5u hn (by omega) ha (show 0≤d-a by omega) hM;have e:a+(d-a)=d:=by omega
  rw [e]at k1 k2;rw [Qv7 hn (by omega)];have hd0:0≤d^(5-n):=Int.pow_nonneg (by omega);have e5:d^5=d^(5-n)*d^n:=by rw [←Int.pow_add];congr 1;omega
  have k3: -(1048576*(o*d^n))≤hev c a d:=by
    have:62914560*o*d^n=60*(1048576*(o*d^n)):=by
      generalize d^n=D;rw [Int.mul_assoc,show(62914560:Int)=60*1048576 from rfl,Int.mul_assoc]
    omega
  have k4:hev c a d≤1048576*(o*d^n):=by
    have:62914560*o*d^n=60*(1048576*(o*d^n)):=by
      generalize d^n=D;rw [Int.mul_assoc,show(62914560:Int)=60*1048576 from rfl,Int.mul_assoc]
    omega
  have e6:1048576*(o*d^5)=d^(5-n)*(1048576*(o*d^n)):=by
    rw [e5];generalize d^(5-n)=D;generalize d^n=E;rw [←Int.mul_assoc o,Int.mul_comm o D,Int.mul_assoc D,←Int.mul_assoc 1048576,Int.mul_comm 1048576 D,Int.mul_assoc]
  rw [e6];constructor
  · rw [←Int.mul_neg];exact Int.mul_le_mul_of_nonneg_left k3 hd0
  · exact Int.mul_le_mul_of_nonneg_left k4 hd0
theorem Qv8 (s:Sg) (a d:Int):(plG s a d 3:Int)∣s.o*d^5∧ ∀i,i<3→(plG s a d 3:Int)∣plP s a d i:=by
  have h3:=Qdq s a d 2;have h2:=Qdq s a d 1;have h1:=Qdq s a d 0;have d32:plG s a d 3∣plG s a d 2:=by rw [h3];exact Nat.gcd_dvd_left _ _
  have d21:plG s a d 2∣plG s a d 1:=by rw [h2];exact Nat.gcd_dvd_left _ _
  have d10:plG s a d 1∣plG s a d 0:=by rw [h1];exact Nat.gcd_dvd_left _ _
  have p2:plG s a d 3∣(plP s a d 2).natAbs:=by rw [h3];exact Nat.gcd_dvd_right _ _
  have p1:plG s a d 2∣(plP s a d 1).natAbs:=by rw [h2];exact Nat.gcd_dvd_right _ _
  have p0:plG s a d 1∣(plP s a d 0).natAbs:=by rw [h1];exact Nat.gcd_dvd_right _ _
  refine⟨?_,fun i hi=> ?_⟩
  · have:plG s a d 3∣(s.o*d^5).natAbs:=Nat.dvd_trans d32 (Nat.dvd_trans d21 d10);exact Int.dvd_natAbs.1 (Int.natCast_dvd_natCast.2 this)
  · rcases(show i=0∨i=1∨i=2 by omega)with rfl|rfl|rfl
    · exact Int.dvd_natAbs.1 (Int.natCast_dvd_natCast.2 (Nat.dvd_trans (Nat.dvd_trans d32 d21) p0))
    · exact Int.dvd_natAbs.1 (Int.natCast_dvd_natCast.2 (Nat.dvd_trans d32 p1))
    · exact Int.dvd_natAbs.1 (Int.natCast_dvd_natCast.2 p2)
/-- A coordinate of a place is within the bounds. -/
theorem Q5w {s:Sg} {a d:Int} (hv:Qau s=true) (ha:0≤a) (hd:a≤d) (h1:1≤d) (i:Nat) (hi:i<3):0<plO s a d∧ -(1048576*plO s a d)≤plQ s a d i∧plQ s a d i≤1048576*plO s a d:=by
  have ho:=Qc7 hv;have hg:=Qv5 ho h1 3 (s:=s) (a:=a);obtain⟨⟨x,hx⟩,hP⟩:=Qv8 s a d;obtain⟨y,hy⟩:=hP i hi;have hi':i<s.ax.length:=hi;have hm:s.ax.getD i []=s.ax[i]:=by rw [List.getD_eq_getElem?_getD,List.getElem?_eq_getElem hi'];rfl
  have hb:=Q5v ((Qaq hv).2.1 _ (List.getElem_mem hi')) ha hd;have hP2:plP s a d i=plc s.ax[i] a d:=by unfold plP;rw [hm]
  rw [←hP2]at hb;unfold plO plQ;have hpos:0<s.o*d^5:=Int.mul_pos (by omega) (Int.pow_pos (by omega));rw [hx]at hb hpos ⊢;rw [hy]at hb ⊢;have hG:(0:Int)<(plG s a d 3:Int):=by omega
  generalize ((plG s a d 3:Nat):Int)=G at*;rw [Int.mul_ediv_cancel_left _ (by omega),Int.mul_ediv_cancel_left _ (by omega)];have e:1048576*(G*x)=G*(1048576*x):=by rw [←Int.mul_assoc,Int.mul_comm 1048576 G,Int.mul_assoc]
  rw [e,←Int.mul_neg]at hb;exact⟨Int.lt_of_mul_lt_mul_left (a:=G) (by rw [Int.mul_zero];exact hpos) (Int.le_of_lt hG),Int.le_of_mul_le_mul_left hb.1 hG,Int.le_of_mul_le_mul_left hb.2 hG⟩
/-- Rounding. -/
def rnd (x o:Int):Int:=(x+x+o)/(o+o)
theorem Q5x {x o:Int} (ho:0<o) (h1: -(1048576*o)≤x) (h2:x≤1048576*o): -1048576≤rnd x o∧rnd x o≤1048576:=by
  unfold rnd;constructor
  · exact(Int.le_ediv_iff_mul_le (by omega)).2 (by omega)
  · have:=(Int.ediv_lt_iff_lt_mul (a:=x+x+o) (b:=1048577) (show 0<o+o by omega)).2 (by omega);omega
/-! ### times -/
theorem Qbj {p:List Sg} (h:Qa7 p=true):vpTo p p.length=true∧1≤p.length∧p.length≤256:=by
  unfold Qa7 at h;simp only [Bool.and_eq_true,decide_eq_true_eq]at h;exact h
theorem Qby {p:List Sg} (h:Qa7 p=true) (i:Nat) (hi:i<p.length):Qau p[i]=true:=by
  have:=Qks (Qbj h).1 hi
  rwa [sgD hi]at this
theorem Qft {p:List Sg} (h:Qa7 p=true) (i:Nat) (hi:i+1<p.length):Qdr p[i] p[i+1]=true:=by
  have h1:=(Qbj h).1;unfold vpTo at h1;have:=List.all_eq_true.1 h1 (i+1) (List.mem_range.2 hi);unfold vpAt at this;simp only [Bool.and_eq_true,Bool.or_eq_true,decide_eq_true_eq]at this;have h2:=this.2.resolve_left (by omega)
  rwa [Nat.add_sub_cancel,sgD (show i<p.length by omega),sgD hi]at h2
theorem Qnn {a b:Sg} (h:Qdr a b=true):a.t=b.f:=by
  unfold Qdr at h;simp only [Bool.and_eq_true,decide_eq_true_eq]at h;exact h.1
theorem Qv9 {p:List Sg} (h:Qa7 p=true) (i:Nat) (hi:i+1<p.length):p[i].t<p[i+1].t:=by
  have h1:=Qnn (Qft h i hi);have h2:=(Qaq (Qby h (i+1) hi)).1;omega
theorem Qgp {p:List Sg} (h:Qa7 p=true): ∀(j i:Nat) (hj:j<p.length) (_:i≤j),(p[i]'(by omega)).t≤p[j].t
  |0,i,hj,hij=>by
        obtain rfl:i=0:=by omega
        exact Int.le_refl _
  |j+1,i,hj,hij=>by
    by_cases e:i=j+1
    · subst e;exact Int.le_refl _
    · have h1:=Qgp h j i (by omega) (by omega);have h2:=Qv9 h j hj;omega
/-- The segment of a time. -/
def atIx (p:List Sg) (t:Int):Nat:=p.findIdx fun s=>decide (t≤s.t)
def pEnd (p:List Sg):Int:=(p.getD (p.length-1) sg0).t
def pBeg (p:List Sg):Int:=(p.getD 0 sg0).f
theorem Zp3 {p:List Sg} {t:Int} (h:Qa7 p=true) (ht:t≤pEnd p):atIx p t<p.length:=by
  have hl:=(Qbj h).2.1;unfold atIx;rw [List.findIdx_lt_length];have hi:p.length-1<p.length:=by omega
  refine⟨p[p.length-1],List.getElem_mem hi,?_⟩;unfold pEnd at ht;rw [sgD hi]at ht;exact decide_eq_true ht
theorem Q5y {p:List Sg} {t:Int} (hi:atIx p t<p.length):t≤(p[atIx p t]).t:=by
  have:=List.findIdx_getElem (w:=hi);exact of_decide_eq_true this
theorem Qno {p:List Sg} {t:Int} {i:Nat} (hi:i<atIx p t) (hl:i<p.length):p[i].t<t:=by
  have:=List.not_of_lt_findIdx hi;exact Int.not_le.1 (of_decide_eq_false this)
theorem Q5z {p:List Sg} {t:Int} (h:Qa7 p=true) (hb:pBeg p≤t) (hi:atIx p t<p.length):(p[atIx p t]).f≤t:=by
  rcases Nat.eq_zero_or_pos (atIx p t)with e|e
  · unfold pBeg at hb;have h0:0<p.length:=by omega
    rw [sgD h0]at hb;simp only [e];exact hb
  · have h1:=Qno (p:=p) (t:=t) (i:=atIx p t-1) (by omega) (by omega);have h2:=Qnn (Qft h (atIx p t-1) (by omega));have e2:atIx p t-1+1=atIx p t:=by omega
    simp only [e2]at h2;omega
def nxE (out:List Int) (a b:Int) (k j:Nat):Int:=(if j<k then out.getD j 0*a else 0)+(if 0<j∧j≤k then out.getD (j-1) 0*b else 0)
def nxL (out:List Int) (a b:Int) (k:Nat):List Int:=(List.range (out.length+1)).map (nxE out a b k)
theorem Qd2 (out:List Int) (a b:Int) (k:Nat):(nxL out a b k).length=out.length+1:=by simp [nxL]
theorem Zey (out:List Int) (a b:Int):nxL out a b 0=List.replicate (out.length+1) 0:=by
 apply List.ext_getElem
 ·simp [nxL]
 ·intro i h1 h2;simp only [nxL,List.getElem_map,List.getElem_range,List.getElem_replicate,nxE];rw [if_neg (by omega),if_neg (by omega)];rfl
theorem Zp4 (out:List Int) (a b:Int) (k:Nat) (h:k<(nxL out a b k).length):(nxL out a b k)[k]=if 0<k then out.getD (k-1) 0*b else 0:=by
 simp only [nxL,List.getElem_map,List.getElem_range,nxE];rw [if_neg (Nat.lt_irrefl k),Int.zero_add];by_cases e:0<k
 ·rw [if_pos ⟨e,Nat.le_refl k⟩,if_pos e]
 ·rw [if_neg (fun h=>e h.1),if_neg e]
theorem Zez (out:List Int) (a b:Int) (k:Nat) (h:k<out.length):
  ((nxL out a b k).set k ((if 0<k then out.getD (k-1) 0*b else 0)+out.getD k 0*a)).set (k+1) (out.getD k 0*b)=nxL out a b (k+1):=by
 apply List.ext_getElem
 ·simp [nxL]
 ·intro j h1 h2;have hj:j<out.length+1:=by simpa [nxL]using h2
  simp only [List.getElem_set,nxL,List.getElem_map,List.getElem_range,nxE];by_cases e1:k+1=j
  ·subst e1;rw [if_pos rfl,if_neg (Nat.lt_irrefl _),if_pos (by omega),Nat.add_sub_cancel,Int.zero_add]
  ·rw [if_neg e1];by_cases e2:k=j
   ·subst e2;rw [if_pos rfl,if_pos (Nat.lt_succ_self k)];by_cases e:0<k
    ·rw [if_pos e,if_pos ⟨e,by omega⟩,Int.add_comm]
    ·rw [if_neg e,if_neg (fun h=>e h.1),Int.add_comm]
   ·rw [if_neg e2];by_cases e3:j<k
    ·have a1:j<k+1:=by omega
     rw [if_pos e3,if_pos a1];by_cases e4:0<j
     ·have a2:0<j∧j≤k:=⟨e4,by omega⟩;have a3:0<j∧j≤k+1:=⟨e4,by omega⟩;rw [if_pos a2,if_pos a3]
     ·have a2: ¬(0<j∧j≤k):=fun h=>e4 h.1;have a3: ¬(0<j∧j≤k+1):=fun h=>e4 h.1;rw [if_neg a2,if_neg a3]
    ·have a1: ¬j<k+1:=by omega
     have a2: ¬(0<j∧j≤k):=by omega
     have a3: ¬(0<j∧j≤k+1):=by omega
     rw [if_neg e3,if_neg a1,if_neg a2,if_neg a3]
def hstep (out:List Int) (a b c:Int):List Int:=(nxL out a b out.length).set 0 ((nxL out a b out.length).getD 0 0+c)
theorem Qtk (out:List Int) (a b c:Int):(hstep out a b c).length=out.length+1:=by simp [hstep,Qd2]
theorem Ze0 (out:List Int) (a b:Int):nxL out a b out.length=zipA (out.map (· *a)) (0::out.map (· *b)):=by
 apply List.ext_getElem
 ·simp [nxL,zipA]
 ·intro j h1 h2;have hj:j<out.length+1:=by simpa [nxL]using h1
  simp only [nxL,zipA,List.getElem_map,List.getElem_range,nxE];congr 1
  ·by_cases e:j<out.length
   ·rw [if_pos e,List.getD_eq_getElem?_getD,List.getD_eq_getElem?_getD,List.getElem?_map,List.getElem?_eq_getElem e];rfl
   ·rw [if_neg e,List.getD_eq_getElem?_getD,List.getElem?_eq_none (by rw [List.length_map];omega)];rfl
  ·cases j with
   |zero=>rw [if_neg (by omega)];rfl
   |succ j=>
    rw [if_pos (by omega),Nat.add_sub_cancel,List.getD_cons_succ,List.getD_eq_getElem?_getD,List.getD_eq_getElem?_getD,List.getElem?_map,List.getElem?_eq_getElem (show j<out.length by omega)];rfl
theorem Q50 (x:Int) (p:List Int) (u:Int):ev (x::p) u=x+u*ev p u:=by simp [ev]
theorem Zn0 (p:List Int) (c u:Int):ev (p.map (· *c)) u=ev p u*c:=by
 have:=Qnj p c u;unfold Qe9 at this
 rwa [Qfr]at this
theorem Zp5 (p q:List Int) (u:Int):ev (zipA p q) u=ev p u+ev q u:=by
 have:=Q5r p q u;unfold pAdd at this
 rwa [Qfr]at this
theorem Zp6 (p:List Int) (c u:Int) (h:0<p.length):ev (p.set 0 (p.getD 0 0+c)) u=ev p u+c:=by
 cases p with
 |nil=>simp at h
 |cons x p=>simp only [List.set_cons_zero,List.getD_cons_zero,Q50];omega
theorem Ze1 (out:List Int) (a b c u:Int):ev (hstep out a b c) u=ev out u*(a+b*u)+c:=by
 unfold hstep;rw [Zp6 _ _ _ (by rw [Qd2];omega),Ze0,Zp5,Zn0,Q50,Zn0,Int.mul_add];congr 2;rw [Int.zero_add,Int.mul_comm u,Int.mul_assoc]
def Qfm (p:List Int) (a b d:Int):Nat→List Int
 |0=>[p.getD (p.length-1) 0]
 |m+1=>hstep (Qfm p a b d m) a b (p.getD (p.length-1-(m+1)) 0*d^(m+1))
theorem Qlg (p:List Int) (a b d:Int): ∀m,(Qfm p a b d m).length=m+1
 |0=>rfl
 |m+1=>by rw [Qfm,Qtk,Qlg p a b d m]
theorem Qy5 (p:List Int) (a b d u:Int) (hp:0<p.length): ∀m,m<p.length→ev (Qfm p a b d m) u=sm (fun k=>p.getD (p.length-1-m+k) 0*((a+b*u)^k*d^(m-k))) (m+1)
 |0,_=>by simp [Qfm,ev,sm]
 |m+1,hm=>by
  rw [Qfm,Ze1,Qy5 p a b d u hp m (by omega),Int.add_comm,←Qi0]
  conv=>rhs;rw [Qji]
  congr 1
  ·simp only [Nat.add_zero,Nat.sub_zero,Int.pow_zero,Int.one_mul]
  ·refine Qbd _ fun k hk=> ?_;have e1:p.length-1-m+k=p.length-1-(m+1)+(k+1):=by omega
   have e2:m+1-(k+1)=m-k:=by omega
   rw [e1,e2,Int.pow_succ];generalize p.getD (p.length-1-(m+1)+(k+1)) 0=X;generalize (a+b*u)^k=Y;generalize d^(m-k)=Z;rw [Int.mul_assoc X,Int.mul_assoc Y,Int.mul_comm Z,←Int.mul_assoc Y]
theorem Q1g (p:List Int) (a b d:Int) (hp:0<p.length):Qay (Qfm p a b d (p.length-1))=Qdt p a b d p.length:=by
 rw [←Qh0 p a b d p.length];refine Qvz _ _ fun u _=> ?_;rw [Qy5 p a b d u hp _ (by omega),Q54,Qim];have e:p.length-1+1=p.length:=by omega
 rw [e];refine Qbd _ fun k _=> ?_;rw [Nat.sub_self,Nat.zero_add]
theorem Ze2 {out:List Int} {a b c:Int} {X B:Nat} (ho:bd X out) (ha:a.natAbs<2^B) (hb:b.natAbs<2^B) (hc:c.natAbs<2^(X+B)):bd (X+B+2) (hstep out a b c):=by
 have p2:2^(X+B+2)=4*2^(X+B):=by rw [Nat.pow_add];omega
 have hA: ∀j,(out.getD j 0*a).natAbs<2^(X+B):=fun j=>by rw [Int.natAbs_mul,Nat.pow_add];exact Nat.mul_lt_mul'' (Qfa ho j) ha
 have hB: ∀j,(out.getD j 0*b).natAbs<2^(X+B):=fun j=>by rw [Int.natAbs_mul,Nat.pow_add];exact Nat.mul_lt_mul'' (Qfa ho j) hb
 have h0:0<2^(X+B):=Nat.two_pow_pos _;have hn: ∀k j,(nxE out a b k j).natAbs<2*2^(X+B):=fun k j=>by
  have:=hA j;have:=hB (j-1);unfold nxE;split<;>split<;>omega
 intro x hx;rw [p2];unfold hstep at hx;rcases List.mem_or_eq_of_mem_set hx with h|h
 ·unfold nxL at h;simp only [List.mem_map]at h;obtain⟨j,_,rfl⟩:=h;have:=hn out.length j;omega
 ·have hg:((nxL out a b out.length).getD 0 0).natAbs<2*2^(X+B):=by
   unfold nxL;rw [Qni];split
   ·exact hn _ _
   ·show 0<_;omega
  omega
theorem Qrk {p:List Int} {a b d:Int} (hp:bd 64 p) (ha:a.natAbs<2^64) (hb:b.natAbs<2^64) (hd:d.natAbs<2^64): ∀m,bd (66+m*66) (Qfm p a b d m)
 |0=>fun x hx=>by
  simp only [Qfm,List.mem_singleton]at hx;subst hx;exact Nat.lt_of_lt_of_le (Qfa hp _) (Nat.pow_le_pow_right (by decide) (by omega))
 |m+1=>by
  have h1:=Qrk hp ha hb hd m;have hc:(p.getD (p.length-1-(m+1)) 0*d^(m+1)).natAbs<2^(66+m*66+64):=by
   rw [Int.natAbs_mul];refine Nat.lt_of_lt_of_le (Nat.mul_lt_mul'' (Qfa hp _) (Qcf hd (m+1))) ?_;rw [←Nat.pow_add];exact Nat.pow_le_pow_right (by decide) (by omega)
  have h2:=Ze2 h1 ha hb hc;have e:66+m*66+64+2=66+(m+1)*66:=by omega
  rw [e]at h2;exact h2
theorem Zn1 {out:List Int} {a b:Int} {X B:Nat} (ho:bd X out) (ha:a.natAbs<2^B) (hb:b.natAbs<2^B) (k j:Nat):(nxE out a b k j).natAbs<2^(X+B+1):=by
 have p2:2^(X+B+1)=2*2^(X+B):=by rw [Nat.pow_add];omega
 have hA:(out.getD j 0*a).natAbs<2^(X+B):=by rw [Int.natAbs_mul,Nat.pow_add];exact Nat.mul_lt_mul'' (Qfa ho j) ha
 have hB:(out.getD (j-1) 0*b).natAbs<2^(X+B):=by rw [Int.natAbs_mul,Nat.pow_add];exact Nat.mul_lt_mul'' (Qfa ho _) hb
 have h0:0<2^(X+B):=Nat.two_pow_pos _;rw [p2];unfold nxE;split<;>split<;>omega
theorem Zn2 {out:List Int} {a b:Int} {X B:Nat} (ho:bd X out) (ha:a.natAbs<2^B) (hb:b.natAbs<2^B) (k:Nat):bd (X+B+1) (nxL out a b k):=by
 intro x hx;unfold nxL at hx;simp only [List.mem_map]at hx;obtain⟨j,_,rfl⟩:=hx;exact Zn1 ho ha hb k j
theorem Qo3 (xs:List Int) (F:Int→Int):(List.range xs.length).map (fun m=>F (xs.getD m 0))=xs.map F:=by
 apply List.ext_getElem
 ·simp
 ·intro i h1 h2;have hi:i<xs.length:=by simpa using h2
  simp only [List.getElem_map,List.getElem_range];rw [List.getD_eq_getElem?_getD,List.getElem?_eq_getElem hi];rfl
theorem Ze3 {g:Nat} (c:List Int) (h:0<g):0<gcdL g c:=by
 induction c generalizing g with
 |nil=>exact h
 |cons x c ih=>exact ih (g:=Nat.gcd g x.natAbs) (Nat.gcd_pos_of_pos_left _ h)
def mdG (L:Nat→List Int) (o:Int):Nat→Nat
 |0=>o.natAbs
 |i+1=>gcdL (mdG L o i) (L i)
theorem Qnp {L:Nat→List Int} {o:Int} (h:0<o): ∀i,0<mdG L o i
 |0=>by show 0<o.natAbs;omega
 |i+1=>Ze3 _ (Qnp h i)
def mkC (G:Int) (p:List Int):List Int:=if p=[]then [0]else p.map (· /G)
def mdC (L:Nat→List Int) (o:Int) (i:Nat):List Int:=mkC (mdG L o 3:Int) (L i)
def mdO (L:Nat→List Int) (o:Int):Int:=o/(mdG L o 3:Int)
def Qtl (L:Nat→List Int) (o:Int):Bool:=decide (mdO L o≤4294967296)
def Qds (f t:Int) (L:Nat→List Int) (o:Int):Sg:=⟨f,t,mdO L o,mdC L o 0,mdC L o 1,mdC L o 2⟩
def cmpC (c:List Int) (a b d:Int):List Int:=Qe9 (Qdt (Qay c) a b d (Qay c).length) (d^(6-c.length))
def cmpL (s:Sg) (a b d:Int) (i:Nat):List Int:=cmpC (s.ax.getD i []) a b d
theorem Qpt {c:List Int} (h:1<c.length→c.getD (c.length-1) 0≠0) (h1:1≤c.length):Qay c=c∨c=[0]:=by
 obtain⟨n,hn⟩: ∃n,c.length=n+1:=⟨c.length-1,by omega⟩;have hlt:c.length-1<c.length:=by omega
 have hs:c=c.take (c.length-1)++[c[c.length-1]]:=by
  have:=List.take_append_getElem hlt;rw [show c.length-1+1=c.length by omega,List.take_length]at this;exact this.symm
 by_cases hz:c[c.length-1]=0
 ·by_cases h2:1<c.length
  ·exfalso;refine h h2 ?_;rw [List.getD_eq_getElem?_getD,List.getElem?_eq_getElem hlt];exact hz
  ·right;have e:c.length-1=0:=by omega
   rw [hz,e]at hs;simpa using hs
 ·left;rw [hs];exact Qkr _ _ hz
def nrm:List Int→Nat
 | []=>0
 |x::l=>x.natAbs+nrm l
theorem Zp7 {l:List Int} {x:Int} (h:x∈l):x.natAbs≤nrm l:=by
 induction l with
 |nil=>cases h
 |cons y l ih=>
  cases h with
  |head=>exact Nat.le_add_right _ _
  |tail _ h=>exact Nat.le_trans (ih h) (Nat.le_add_left _ _)
theorem Qbs {x K:Int} (h:(x.natAbs:Int)≤K): -K≤x∧x≤K:=by omega
theorem Qwa {c:List Int} {o:Int} (h:Qdd c o c.length=true) (j:Nat) (hj:j<c.length):((ctl c j).natAbs:Int)≤62914560*o:=by
 unfold Qdd at h;rw [List.all_eq_true]at h;exact of_decide_eq_true (h j (List.mem_range.2 hj))
theorem Zp8 {o a0:Int} (ho:0≤o) (h: ∀j,j<1→((ctl [a0] j).natAbs:Int)≤62914560*o):(nrm [a0]:Int)≤1048576*o:=by
 have h0:=Qbs (h 0 (by decide));have e0:ctl [a0] 0=60*a0:=by simp [ctl,sm,cw,bin];omega
 generalize ctl [a0] 0=b0 at*;clear h;have f0:60*a0=1*b0:=by omega
 clear e0;have g0:(a0.natAbs:Int)≤1048576*o:=by omega
 clear h0 f0;simp only [nrm];generalize a0.natAbs=m0 at*;omega
theorem Zp9 {o a0 a1:Int} (ho:0≤o) (h: ∀j,j<2→((ctl [a0,a1] j).natAbs:Int)≤62914560*o):(nrm [a0,a1]:Int)≤3145728*o:=by
 have h0:=Qbs (h 0 (by decide));have h1:=Qbs (h 1 (by decide));have e0:ctl [a0,a1] 0=60*a0:=by simp [ctl,sm,cw,bin];omega
 have e1:ctl [a0,a1] 1=60*a0+60*a1:=by simp [ctl,sm,cw,bin];omega
 generalize ctl [a0,a1] 0=b0 at*;generalize ctl [a0,a1] 1=b1 at*;clear h;have f0:60*a0=1*b0:=by omega
 have f1:60*a1= -1*b0+1*b1:=by omega
 clear e0 e1;have g0:(a0.natAbs:Int)≤1048576*o:=by omega
 have g1:(a1.natAbs:Int)≤2097152*o:=by omega
 clear h0 h1 f0 f1;simp only [nrm];generalize a0.natAbs=m0 at*;generalize a1.natAbs=m1 at*;omega
theorem Zqa {o a0 a1 a2:Int} (ho:0≤o) (h: ∀j,j<3→((ctl [a0,a1,a2] j).natAbs:Int)≤62914560*o):(nrm [a0,a1,a2]:Int)≤9437184*o:=by
 have h0:=Qbs (h 0 (by decide));have h1:=Qbs (h 1 (by decide));have h2:=Qbs (h 2 (by decide));have e0:ctl [a0,a1,a2] 0=60*a0:=by simp [ctl,sm,cw,bin];omega
 have e1:ctl [a0,a1,a2] 1=60*a0+30*a1:=by simp [ctl,sm,cw,bin];omega
 have e2:ctl [a0,a1,a2] 2=60*a0+60*a1+60*a2:=by simp [ctl,sm,cw,bin];omega
 generalize ctl [a0,a1,a2] 0=b0 at*;generalize ctl [a0,a1,a2] 1=b1 at*;generalize ctl [a0,a1,a2] 2=b2 at*;clear h;have f0:60*a0=1*b0:=by omega
 have f1:30*a1= -1*b0+1*b1:=by omega
 have f2:60*a2=1*b0+ -2*b1+1*b2:=by omega
 clear e0 e1 e2;have g0:(a0.natAbs:Int)≤1048576*o:=by omega
 have g1:(a1.natAbs:Int)≤4194304*o:=by omega
 have g2:(a2.natAbs:Int)≤4194304*o:=by omega
 clear h0 h1 h2 f0 f1 f2;simp only [nrm];generalize a0.natAbs=m0 at*;generalize a1.natAbs=m1 at*;generalize a2.natAbs=m2 at*;omega
theorem Zqb {o a0 a1 a2 a3:Int} (ho:0≤o) (h: ∀j,j<4→((ctl [a0,a1,a2,a3] j).natAbs:Int)≤62914560*o):(nrm [a0,a1,a2,a3]:Int)≤28311552*o:=by
 have h0:=Qbs (h 0 (by decide));have h1:=Qbs (h 1 (by decide));have h2:=Qbs (h 2 (by decide));have h3:=Qbs (h 3 (by decide));have e0:ctl [a0,a1,a2,a3] 0=60*a0:=by simp [ctl,sm,cw,bin];omega
 have e1:ctl [a0,a1,a2,a3] 1=60*a0+20*a1:=by simp [ctl,sm,cw,bin];omega
 have e2:ctl [a0,a1,a2,a3] 2=60*a0+40*a1+20*a2:=by simp [ctl,sm,cw,bin];omega
 have e3:ctl [a0,a1,a2,a3] 3=60*a0+60*a1+60*a2+60*a3:=by simp [ctl,sm,cw,bin];omega
 generalize ctl [a0,a1,a2,a3] 0=b0 at*;generalize ctl [a0,a1,a2,a3] 1=b1 at*;generalize ctl [a0,a1,a2,a3] 2=b2 at*;generalize ctl [a0,a1,a2,a3] 3=b3 at*;clear h;have f0:60*a0=1*b0:=by omega
 have f1:20*a1= -1*b0+1*b1:=by omega
 have f2:20*a2=1*b0+ -2*b1+1*b2:=by omega
 have f3:60*a3= -1*b0+3*b1+ -3*b2+1*b3:=by omega
 clear e0 e1 e2 e3;have g0:(a0.natAbs:Int)≤1048576*o:=by omega
 have g1:(a1.natAbs:Int)≤6291456*o:=by omega
 have g2:(a2.natAbs:Int)≤12582912*o:=by omega
 have g3:(a3.natAbs:Int)≤8388608*o:=by omega
 clear h0 h1 h2 h3 f0 f1 f2 f3;simp only [nrm];generalize a0.natAbs=m0 at*;generalize a1.natAbs=m1 at*;generalize a2.natAbs=m2 at*;generalize a3.natAbs=m3 at*;omega
theorem Zqc {o a0 a1 a2 a3 a4:Int} (ho:0≤o) (h: ∀j,j<5→((ctl [a0,a1,a2,a3,a4] j).natAbs:Int)≤62914560*o):(nrm [a0,a1,a2,a3,a4]:Int)≤84934656*o:=by
 have h0:=Qbs (h 0 (by decide));have h1:=Qbs (h 1 (by decide));have h2:=Qbs (h 2 (by decide));have h3:=Qbs (h 3 (by decide));have h4:=Qbs (h 4 (by decide));have e0:ctl [a0,a1,a2,a3,a4] 0=60*a0:=by simp [ctl,sm,cw,bin];omega
 have e1:ctl [a0,a1,a2,a3,a4] 1=60*a0+15*a1:=by simp [ctl,sm,cw,bin];omega
 have e2:ctl [a0,a1,a2,a3,a4] 2=60*a0+30*a1+10*a2:=by simp [ctl,sm,cw,bin];omega
 have e3:ctl [a0,a1,a2,a3,a4] 3=60*a0+45*a1+30*a2+15*a3:=by simp [ctl,sm,cw,bin];omega
 have e4:ctl [a0,a1,a2,a3,a4] 4=60*a0+60*a1+60*a2+60*a3+60*a4:=by simp [ctl,sm,cw,bin];omega
 generalize ctl [a0,a1,a2,a3,a4] 0=b0 at*;generalize ctl [a0,a1,a2,a3,a4] 1=b1 at*;generalize ctl [a0,a1,a2,a3,a4] 2=b2 at*;generalize ctl [a0,a1,a2,a3,a4] 3=b3 at*;generalize ctl [a0,a1,a2,a3,a4] 4=b4 at*;clear h;have f0:60*a0=1*b0:=by omega
 have f1:15*a1= -1*b0+1*b1:=by omega
 have f2:10*a2=1*b0+ -2*b1+1*b2:=by omega
 have f3:15*a3= -1*b0+3*b1+ -3*b2+1*b3:=by omega
 have f4:60*a4=1*b0+ -4*b1+6*b2+ -4*b3+1*b4:=by omega
 clear e0 e1 e2 e3 e4;have g0:(a0.natAbs:Int)≤1048576*o:=by omega
 have g1:(a1.natAbs:Int)≤8388608*o:=by omega
 have g2:(a2.natAbs:Int)≤25165824*o:=by omega
 have g3:(a3.natAbs:Int)≤33554432*o:=by omega
 have g4:(a4.natAbs:Int)≤16777216*o:=by omega
 clear h0 h1 h2 h3 h4 f0 f1 f2 f3 f4;simp only [nrm];generalize a0.natAbs=m0 at*;generalize a1.natAbs=m1 at*;generalize a2.natAbs=m2 at*;generalize a3.natAbs=m3 at*;generalize a4.natAbs=m4 at*;omega
theorem Zqd {o a0 a1 a2 a3 a4 a5:Int} (ho:0≤o) (h: ∀j,j<6→((ctl [a0,a1,a2,a3,a4,a5] j).natAbs:Int)≤62914560*o):(nrm [a0,a1,a2,a3,a4,a5]:Int)≤254803968*o:=by
 have h0:=Qbs (h 0 (by decide));have h1:=Qbs (h 1 (by decide));have h2:=Qbs (h 2 (by decide));have h3:=Qbs (h 3 (by decide));have h4:=Qbs (h 4 (by decide));have h5:=Qbs (h 5 (by decide));have e0:ctl [a0,a1,a2,a3,a4,a5] 0=60*a0:=by simp [ctl,sm,cw,bin];omega
 have e1:ctl [a0,a1,a2,a3,a4,a5] 1=60*a0+12*a1:=by simp [ctl,sm,cw,bin];omega
 have e2:ctl [a0,a1,a2,a3,a4,a5] 2=60*a0+24*a1+6*a2:=by simp [ctl,sm,cw,bin];omega
 have e3:ctl [a0,a1,a2,a3,a4,a5] 3=60*a0+36*a1+18*a2+6*a3:=by simp [ctl,sm,cw,bin];omega
 have e4:ctl [a0,a1,a2,a3,a4,a5] 4=60*a0+48*a1+36*a2+24*a3+12*a4:=by simp [ctl,sm,cw,bin];omega
 have e5:ctl [a0,a1,a2,a3,a4,a5] 5=60*a0+60*a1+60*a2+60*a3+60*a4+60*a5:=by simp [ctl,sm,cw,bin];omega
 generalize ctl [a0,a1,a2,a3,a4,a5] 0=b0 at*;generalize ctl [a0,a1,a2,a3,a4,a5] 1=b1 at*;generalize ctl [a0,a1,a2,a3,a4,a5] 2=b2 at*;generalize ctl [a0,a1,a2,a3,a4,a5] 3=b3 at*;generalize ctl [a0,a1,a2,a3,a4,a5] 4=b4 at*;generalize ctl [a0,a1,a2,a3,a4,a5] 5=b5 at*;clear h;have f0:60*a0=1*b0:=by omega
 have f1:12*a1= -1*b0+1*b1:=by omega
 have f2:6*a2=1*b0+ -2*b1+1*b2:=by omega
 have f3:6*a3= -1*b0+3*b1+ -3*b2+1*b3:=by omega
 have f4:12*a4=1*b0+ -4*b1+6*b2+ -4*b3+1*b4:=by omega
 have f5:60*a5= -1*b0+5*b1+ -10*b2+10*b3+ -5*b4+1*b5:=by omega
 clear e0 e1 e2 e3 e4 e5;have g0:(a0.natAbs:Int)≤1048576*o:=by omega
 have g1:(a1.natAbs:Int)≤10485760*o:=by omega
 have g2:(a2.natAbs:Int)≤41943040*o:=by omega
 have g3:(a3.natAbs:Int)≤83886080*o:=by omega
 have g4:(a4.natAbs:Int)≤83886080*o:=by omega
 have g5:(a5.natAbs:Int)≤33554432*o:=by omega
 clear h0 h1 h2 h3 h4 h5 f0 f1 f2 f3 f4 f5;simp only [nrm];generalize a0.natAbs=m0 at*;generalize a1.natAbs=m1 at*;generalize a2.natAbs=m2 at*;generalize a3.natAbs=m3 at*;generalize a4.natAbs=m4 at*;generalize a5.natAbs=m5 at*;omega
theorem Zws {c:List Int} {o:Int} (h:axOK c o=true) (ho:0≤o):(nrm c:Int)≤254803968*o:=by
 obtain⟨h1,h6, -,hb⟩:=Qa9 h;have hj:=Qwa hb;clear hb h
 match c,h1,h6,hj with
 | [a0],_,_,hj=>exact Int.le_trans (Zp8 ho hj) (by omega)
 | [a0,a1],_,_,hj=>exact Int.le_trans (Zp9 ho hj) (by omega)
 | [a0,a1,a2],_,_,hj=>exact Int.le_trans (Zqa ho hj) (by omega)
 | [a0,a1,a2,a3],_,_,hj=>exact Int.le_trans (Zqb ho hj) (by omega)
 | [a0,a1,a2,a3,a4],_,_,hj=>exact Int.le_trans (Zqc ho hj) (by omega)
 | [a0,a1,a2,a3,a4,a5],_,_,hj=>exact Int.le_trans (Zqd ho hj) (by omega)
 |_::_::_::_::_::_::_::_,_,h6,_=>simp at h6
theorem Qhz (g:Nat) (c:List Int):gcdL g c∣g∧ ∀x∈c,gcdL g c∣x.natAbs:=by
 induction c generalizing g with
 |nil=>exact⟨Nat.dvd_refl _,fun _ h=>nomatch h⟩
 |cons y c ih=>
  obtain⟨h1,h2⟩:=ih (Nat.gcd g y.natAbs);refine⟨Nat.dvd_trans h1 (Nat.gcd_dvd_left _ _),fun x hx=> ?_⟩;cases hx with
  |head=>exact Nat.dvd_trans h1 (Nat.gcd_dvd_right _ _)
  |tail _ h=>exact h2 x h
theorem Qrl (L:Nat→List Int) (o:Int):(mdG L o 3:Int)∣o∧ ∀i,i<3→ ∀x∈L i,(mdG L o 3:Int)∣x:=by
 have d3:=Qhz (mdG L o 2) (L 2);have d2:=Qhz (mdG L o 1) (L 1);have d1:=Qhz (mdG L o 0) (L 0);have a1:mdG L o 3∣mdG L o 1:=Nat.dvd_trans d3.1 d2.1;refine⟨Int.dvd_natAbs.1 (Int.natCast_dvd_natCast.2 (Nat.dvd_trans a1 d1.1)),fun i hi x hx=>Int.dvd_natAbs.1 (Int.natCast_dvd_natCast.2 ?_)⟩;rcases(show i=0∨i=1∨i=2 by omega)with rfl|rfl|rfl
 ·exact Nat.dvd_trans a1 (d1.2 x hx)
 ·exact Nat.dvd_trans d3.1 (d2.2 x hx)
 ·exact d3.2 x hx
def ptL (s:Sg) (a b:Int):Nat→List Int:=cmpL s (a-s.f) (b-a) (s.t-s.f)
def ptO (s:Sg):Int:=s.o*(s.t-s.f)^5
theorem Qkt (s:Sg) (i:Nat) (h:i<3):s.ax.getD i []∈s.ax:=by
 rcases(show i=0∨i=1∨i=2 by omega)with rfl|rfl|rfl<;>simp [Sg.ax]
def coQ (c:List Int) (o:Int) (i:Nat):Rat:=((c.getD i 0:Int):Rat)/(o:Rat)
def ikQ (i k:Nat):Rat:=(((i:Int)*(k:Int):Int):Rat)/(((i:Int)+(k:Int)-1:Int):Rat)
def sqT (c:List Int) (o:Int) (i k:Nat):Rat:=coQ c o i*coQ c o k*ikQ i k
def sqR (c:List Int) (o:Int) (i k:Nat):Rat:=qs (fun j=>sqT c o i (j+1)) k
def sqS (c:List Int) (o:Int) (i:Nat):Rat:=qs (fun j=>sqR c o (j+1) (c.length-1)) i
def sqQ (c:List Int) (o:Int):Rat:=sqS c o (c.length-1)
def wyS (c:List Int) (o:Int) (n:Nat):Rat:=qs (fun j=>coQ c o (j+1)) n
def wayQ (c:List Int) (o:Int):Rat:=wyS c o (c.length-1)
theorem Qiz:ikQ 1 1=1:=by decide+kernel
theorem Ql2:ikQ 1 2=1:=by decide+kernel
theorem Qqv:ikQ 1 3=1:=by decide+kernel
theorem Q0y:ikQ 1 4=1:=by decide+kernel
theorem Zpd:ikQ 1 5=1:=by decide+kernel
theorem Ql3:ikQ 2 1=1:=by decide+kernel
theorem Ql4:ikQ 2 2=(4/3):=by decide+kernel
theorem Qqw:ikQ 2 3=(3/2):=by decide+kernel
theorem Q0z:ikQ 2 4=(8/5):=by decide+kernel
theorem Zpe:ikQ 2 5=(5/3):=by decide+kernel
theorem Qqx:ikQ 3 1=1:=by decide+kernel
theorem Qqy:ikQ 3 2=(3/2):=by decide+kernel
theorem Qqz:ikQ 3 3=(9/5):=by decide+kernel
theorem Q00:ikQ 3 4=2:=by decide+kernel
theorem Zpf:ikQ 3 5=(15/7):=by decide+kernel
theorem Q01:ikQ 4 1=1:=by decide+kernel
theorem Q02:ikQ 4 2=(8/5):=by decide+kernel
theorem Q03:ikQ 4 3=2:=by decide+kernel
theorem Q04:ikQ 4 4=(16/7):=by decide+kernel
theorem Zpg:ikQ 4 5=(5/2):=by decide+kernel
theorem Zph:ikQ 5 1=1:=by decide+kernel
theorem Zpi:ikQ 5 2=(5/3):=by decide+kernel
theorem Zpj:ikQ 5 3=(15/7):=by decide+kernel
theorem Zpk:ikQ 5 4=(5/2):=by decide+kernel
theorem Zpl:ikQ 5 5=(25/9):=by decide+kernel
theorem Qcc (c:List Int) (o:Int) (i:Nat) (x:Int) (h:c.getD i 0=x):coQ c o i=(x:Rat)/(o:Rat):=by rw [coQ,h]
theorem Qf5 {x o:Int} (ho:0<o) (h1: -(125829120*o)≤x) (h2:x≤125829120*o): -2097152≤(x:Rat)/(60*(o:Rat))∧(x:Rat)/(60*(o:Rat))≤2097152:=by
 have o0:(0:Rat)<(o:Rat):=by exact_mod_cast ho
 have h1':=Rat.intCast_le_intCast.2 h1;simp only [Rat.intCast_neg,Rat.intCast_mul,Rat.intCast_ofNat]at h1';have h2':=Rat.intCast_le_intCast.2 h2;simp only [Rat.intCast_mul,Rat.intCast_ofNat]at h2';have e:(x:Rat)/(60*(o:Rat))*(60*(o:Rat))=(x:Rat):=Rat.div_mul_cancel (by grind);have p:(0:Rat)<60*(o:Rat):=by grind
 generalize (x:Rat)/(60*(o:Rat))=q at*;refine⟨Rat.le_of_mul_le_mul_right (c:=60*(o:Rat)) ?_ p,Rat.le_of_mul_le_mul_right (c:=60*(o:Rat)) ?_ p⟩<;>grind
theorem axB1 {a0 a1 o:Int} (ho:0<o) (h: ∀j,j<2→((ctl [a0,a1] j).natAbs:Int)≤62914560*o):
  wayQ [a0,a1] o*wayQ [a0,a1] o≤sqQ [a0,a1] o∧sqQ [a0,a1] o≤1*(2097152*2097152)∧ -2097152≤wayQ [a0,a1] o∧wayQ [a0,a1] o≤2097152:=by
 have o0:(0:Rat)<(o:Rat):=by exact_mod_cast ho
 have c0:ctl [a0,a1] 0=a0*60:=by simp [ctl,sm,cw,bin]
 have g0:=Qbs (h 0 (by decide));rw [c0]at g0;have c1:ctl [a0,a1] 1=a0*60+a1*60:=by simp [ctl,sm,cw,bin]
 have g1:=Qbs (h 1 (by decide));rw [c1]at g1;have x1:coQ [a0,a1] o 1=(a1:Rat)/(o:Rat):=Qcc _ _ _ _ rfl;have d0:=Qf5 (x:=(a0*60+a1*60)-(a0*60)) ho (by omega) (by omega);have e0:((((a0*60+a1*60)-(a0*60):Int)):Rat)/(60*(o:Rat))=(a1:Rat)/(o:Rat)*1:=by simp only [Rat.intCast_add,Rat.intCast_sub,Rat.intCast_mul,Rat.intCast_ofNat];grind
 have dw:=Qf5 (x:=(a0*60+a1*60)-(a0*60)) ho (by omega) (by omega);have ew:((((a0*60+a1*60)-(a0*60):Int)):Rat)/(60*(o:Rat))=(a1:Rat)/(o:Rat):=by simp only [Rat.intCast_add,Rat.intCast_sub,Rat.intCast_mul,Rat.intCast_ofNat];grind
 have hw:wayQ [a0,a1] o=(a1:Rat)/(o:Rat):=by
  show wyS [a0,a1] o 1=_;simp only [wyS,qs,Nat.zero_add,Nat.reduceAdd,x1,Rat.zero_add]
 have hs:sqQ [a0,a1] o=(a1:Rat)/(o:Rat)*((a1:Rat)/(o:Rat))*1:=by
  show qs (fun j=>qs (fun m=>sqT [a0,a1] o (j+1) (m+1)) 1) 1=_;simp only [qs,sqT,Nat.zero_add,Nat.reduceAdd,x1,Qiz,Rat.zero_add]
 rw [e0]at d0;rw [ew]at dw;rw [hw,hs];clear hw hs e0 x1 ew h c0 c1 g0 g1;generalize (a1:Rat)/(o:Rat)=r1 at*;have hu:=Zv3 (K:=2097152) (d0:=r1*1) rfl d0;have hl:=Qtb r1 0 0 0 0;refine⟨by grind,by grind,by grind,by grind⟩
theorem axB2 {a0 a1 a2 o:Int} (ho:0<o) (h: ∀j,j<3→((ctl [a0,a1,a2] j).natAbs:Int)≤62914560*o):
  wayQ [a0,a1,a2] o*wayQ [a0,a1,a2] o≤sqQ [a0,a1,a2] o∧sqQ [a0,a1,a2] o≤4*(2097152*2097152)∧ -2097152≤wayQ [a0,a1,a2] o∧wayQ [a0,a1,a2] o≤2097152:=by
 have o0:(0:Rat)<(o:Rat):=by exact_mod_cast ho
 have c0:ctl [a0,a1,a2] 0=a0*60:=by simp [ctl,sm,cw,bin]
 have g0:=Qbs (h 0 (by decide));rw [c0]at g0;have c1:ctl [a0,a1,a2] 1=a0*60+a1*30:=by simp [ctl,sm,cw,bin]
 have g1:=Qbs (h 1 (by decide));rw [c1]at g1;have c2:ctl [a0,a1,a2] 2=a0*60+a1*60+a2*60:=by simp [ctl,sm,cw,bin]
 have g2:=Qbs (h 2 (by decide));rw [c2]at g2;have x1:coQ [a0,a1,a2] o 1=(a1:Rat)/(o:Rat):=Qcc _ _ _ _ rfl;have x2:coQ [a0,a1,a2] o 2=(a2:Rat)/(o:Rat):=Qcc _ _ _ _ rfl;have d0:=Qf5 (x:=(a0*60+a1*30)-(a0*60)) ho (by omega) (by omega);have e0:((((a0*60+a1*30)-(a0*60):Int)):Rat)/(60*(o:Rat))=(a1:Rat)/(o:Rat)*(1/2):=by simp only [Rat.intCast_add,Rat.intCast_sub,Rat.intCast_mul,Rat.intCast_ofNat];grind
 have d1:=Qf5 (x:=(a0*60+a1*60+a2*60)-(a0*60+a1*30)) ho (by omega) (by omega);have e1:((((a0*60+a1*60+a2*60)-(a0*60+a1*30):Int)):Rat)/(60*(o:Rat))=(a1:Rat)/(o:Rat)*(1/2)+(a2:Rat)/(o:Rat)*1:=by simp only [Rat.intCast_add,Rat.intCast_sub,Rat.intCast_mul,Rat.intCast_ofNat];grind
 have dw:=Qf5 (x:=(a0*60+a1*60+a2*60)-(a0*60)) ho (by omega) (by omega);have ew:((((a0*60+a1*60+a2*60)-(a0*60):Int)):Rat)/(60*(o:Rat))=(a1:Rat)/(o:Rat)+(a2:Rat)/(o:Rat):=by simp only [Rat.intCast_add,Rat.intCast_sub,Rat.intCast_mul,Rat.intCast_ofNat];grind
 have hw:wayQ [a0,a1,a2] o=(a1:Rat)/(o:Rat)+(a2:Rat)/(o:Rat):=by
  show wyS [a0,a1,a2] o 2=_;simp only [wyS,qs,Nat.zero_add,Nat.reduceAdd,x1,x2,Rat.zero_add]
 have hs:sqQ [a0,a1,a2] o=(a1:Rat)/(o:Rat)*((a1:Rat)/(o:Rat))*1+(a1:Rat)/(o:Rat)*((a2:Rat)/(o:Rat))*1+(a2:Rat)/(o:Rat)*((a1:Rat)/(o:Rat))*1+(a2:Rat)/(o:Rat)*((a2:Rat)/(o:Rat))*(4/3):=by
  show qs (fun j=>qs (fun m=>sqT [a0,a1,a2] o (j+1) (m+1)) 2) 2=_;simp only [qs,sqT,Nat.zero_add,Nat.reduceAdd,x1,x2,Qiz,Ql2,Ql3,Ql4,Rat.zero_add]
  grind
 rw [e0]at d0;rw [e1]at d1;rw [ew]at dw;rw [hw,hs];clear hw hs e0 e1 x1 x2 ew h c0 c1 c2 g0 g1 g2;generalize (a1:Rat)/(o:Rat)=r1 at*;generalize (a2:Rat)/(o:Rat)=r2 at*;have hu:=Zv4 (K:=2097152) (d0:=r1*(1/2)) (d1:=r1*(1/2)+r2*1) rfl rfl d0 d1;have hl:=Qtb r1 r2 0 0 0;refine⟨by grind,by grind,by grind,by grind⟩
theorem axB3 {a0 a1 a2 a3 o:Int} (ho:0<o) (h: ∀j,j<4→((ctl [a0,a1,a2,a3] j).natAbs:Int)≤62914560*o):
  wayQ [a0,a1,a2,a3] o*wayQ [a0,a1,a2,a3] o≤sqQ [a0,a1,a2,a3] o∧sqQ [a0,a1,a2,a3] o≤9*(2097152*2097152)∧ -2097152≤wayQ [a0,a1,a2,a3] o∧wayQ [a0,a1,a2,a3] o≤2097152:=by
 have o0:(0:Rat)<(o:Rat):=by exact_mod_cast ho
 have c0:ctl [a0,a1,a2,a3] 0=a0*60:=by simp [ctl,sm,cw,bin]
 have g0:=Qbs (h 0 (by decide));rw [c0]at g0;have c1:ctl [a0,a1,a2,a3] 1=a0*60+a1*20:=by simp [ctl,sm,cw,bin]
 have g1:=Qbs (h 1 (by decide));rw [c1]at g1;have c2:ctl [a0,a1,a2,a3] 2=a0*60+a1*40+a2*20:=by simp [ctl,sm,cw,bin]
 have g2:=Qbs (h 2 (by decide));rw [c2]at g2;have c3:ctl [a0,a1,a2,a3] 3=a0*60+a1*60+a2*60+a3*60:=by simp [ctl,sm,cw,bin]
 have g3:=Qbs (h 3 (by decide));rw [c3]at g3;have x1:coQ [a0,a1,a2,a3] o 1=(a1:Rat)/(o:Rat):=Qcc _ _ _ _ rfl;have x2:coQ [a0,a1,a2,a3] o 2=(a2:Rat)/(o:Rat):=Qcc _ _ _ _ rfl;have x3:coQ [a0,a1,a2,a3] o 3=(a3:Rat)/(o:Rat):=Qcc _ _ _ _ rfl;have d0:=Qf5 (x:=(a0*60+a1*20)-(a0*60)) ho (by omega) (by omega);have e0:((((a0*60+a1*20)-(a0*60):Int)):Rat)/(60*(o:Rat))=(a1:Rat)/(o:Rat)*(1/3):=by simp only [Rat.intCast_add,Rat.intCast_sub,Rat.intCast_mul,Rat.intCast_ofNat];grind
 have d1:=Qf5 (x:=(a0*60+a1*40+a2*20)-(a0*60+a1*20)) ho (by omega) (by omega);have e1:((((a0*60+a1*40+a2*20)-(a0*60+a1*20):Int)):Rat)/(60*(o:Rat))=(a1:Rat)/(o:Rat)*(1/3)+(a2:Rat)/(o:Rat)*(1/3):=by simp only [Rat.intCast_add,Rat.intCast_sub,Rat.intCast_mul,Rat.intCast_ofNat];grind
 have d2:=Qf5 (x:=(a0*60+a1*60+a2*60+a3*60)-(a0*60+a1*40+a2*20)) ho (by omega) (by omega);have e2:((((a0*60+a1*60+a2*60+a3*60)-(a0*60+a1*40+a2*20):Int)):Rat)/(60*(o:Rat))=(a1:Rat)/(o:Rat)*(1/3)+(a2:Rat)/(o:Rat)*(2/3)+(a3:Rat)/(o:Rat)*1:=by simp only [Rat.intCast_add,Rat.intCast_sub,Rat.intCast_mul,Rat.intCast_ofNat];grind
 have dw:=Qf5 (x:=(a0*60+a1*60+a2*60+a3*60)-(a0*60)) ho (by omega) (by omega);have ew:((((a0*60+a1*60+a2*60+a3*60)-(a0*60):Int)):Rat)/(60*(o:Rat))=(a1:Rat)/(o:Rat)+(a2:Rat)/(o:Rat)+(a3:Rat)/(o:Rat):=by simp only [Rat.intCast_add,Rat.intCast_sub,Rat.intCast_mul,Rat.intCast_ofNat];grind
 have hw:wayQ [a0,a1,a2,a3] o=(a1:Rat)/(o:Rat)+(a2:Rat)/(o:Rat)+(a3:Rat)/(o:Rat):=by
  show wyS [a0,a1,a2,a3] o 3=_;simp only [wyS,qs,Nat.zero_add,Nat.reduceAdd,x1,x2,x3,Rat.zero_add]
 have hs:sqQ [a0,a1,a2,a3] o=(a1:Rat)/(o:Rat)*((a1:Rat)/(o:Rat))*1+(a1:Rat)/(o:Rat)*((a2:Rat)/(o:Rat))*1+(a1:Rat)/(o:Rat)*((a3:Rat)/(o:Rat))*1+(a2:Rat)/(o:Rat)*((a1:Rat)/(o:Rat))*1+(a2:Rat)/(o:Rat)*((a2:Rat)/(o:Rat))*(4/3)+(a2:Rat)/(o:Rat)*((a3:Rat)/(o:Rat))*(3/2)+(a3:Rat)/(o:Rat)*((a1:Rat)/(o:Rat))*1+(a3:Rat)/(o:Rat)*((a2:Rat)/(o:Rat))*(3/2)+(a3:Rat)/(o:Rat)*((a3:Rat)/(o:Rat))*(9/5):=by
  show qs (fun j=>qs (fun m=>sqT [a0,a1,a2,a3] o (j+1) (m+1)) 3) 3=_;simp only [qs,sqT,Nat.zero_add,Nat.reduceAdd,x1,x2,x3,Qiz,Ql2,Qqv,Ql3,Ql4,Qqw,Qqx,Qqy,Qqz,Rat.zero_add]
  grind
 rw [e0]at d0;rw [e1]at d1;rw [e2]at d2;rw [ew]at dw;rw [hw,hs];clear hw hs e0 e1 e2 x1 x2 x3 ew h c0 c1 c2 c3 g0 g1 g2 g3;generalize (a1:Rat)/(o:Rat)=r1 at*;generalize (a2:Rat)/(o:Rat)=r2 at*;generalize (a3:Rat)/(o:Rat)=r3 at*;have hu:=Zv5 (K:=2097152) (d0:=r1*(1/3)) (d1:=r1*(1/3)+r2*(1/3)) (d2:=r1*(1/3)+r2*(2/3)+r3*1) rfl rfl rfl d0 d1 d2;have hl:=Qtb r1 r2 r3 0 0;refine⟨by grind,by grind,by grind,by grind⟩
theorem axB4 {a0 a1 a2 a3 a4 o:Int} (ho:0<o) (h: ∀j,j<5→((ctl [a0,a1,a2,a3,a4] j).natAbs:Int)≤62914560*o):
  wayQ [a0,a1,a2,a3,a4] o*wayQ [a0,a1,a2,a3,a4] o≤sqQ [a0,a1,a2,a3,a4] o∧sqQ [a0,a1,a2,a3,a4] o≤16*(2097152*2097152)∧ -2097152≤wayQ [a0,a1,a2,a3,a4] o∧wayQ [a0,a1,a2,a3,a4] o≤2097152:=by
 have o0:(0:Rat)<(o:Rat):=by exact_mod_cast ho
 have c0:ctl [a0,a1,a2,a3,a4] 0=a0*60:=by simp [ctl,sm,cw,bin]
 have g0:=Qbs (h 0 (by decide));rw [c0]at g0;have c1:ctl [a0,a1,a2,a3,a4] 1=a0*60+a1*15:=by simp [ctl,sm,cw,bin]
 have g1:=Qbs (h 1 (by decide));rw [c1]at g1;have c2:ctl [a0,a1,a2,a3,a4] 2=a0*60+a1*30+a2*10:=by simp [ctl,sm,cw,bin]
 have g2:=Qbs (h 2 (by decide));rw [c2]at g2;have c3:ctl [a0,a1,a2,a3,a4] 3=a0*60+a1*45+a2*30+a3*15:=by simp [ctl,sm,cw,bin]
 have g3:=Qbs (h 3 (by decide));rw [c3]at g3;have c4:ctl [a0,a1,a2,a3,a4] 4=a0*60+a1*60+a2*60+a3*60+a4*60:=by simp [ctl,sm,cw,bin]
 have g4:=Qbs (h 4 (by decide));rw [c4]at g4;have x1:coQ [a0,a1,a2,a3,a4] o 1=(a1:Rat)/(o:Rat):=Qcc _ _ _ _ rfl;have x2:coQ [a0,a1,a2,a3,a4] o 2=(a2:Rat)/(o:Rat):=Qcc _ _ _ _ rfl;have x3:coQ [a0,a1,a2,a3,a4] o 3=(a3:Rat)/(o:Rat):=Qcc _ _ _ _ rfl;have x4:coQ [a0,a1,a2,a3,a4] o 4=(a4:Rat)/(o:Rat):=Qcc _ _ _ _ rfl;have d0:=Qf5 (x:=(a0*60+a1*15)-(a0*60)) ho (by omega) (by omega);have e0:((((a0*60+a1*15)-(a0*60):Int)):Rat)/(60*(o:Rat))=(a1:Rat)/(o:Rat)*(1/4):=by simp only [Rat.intCast_add,Rat.intCast_sub,Rat.intCast_mul,Rat.intCast_ofNat];grind
 have d1:=Qf5 (x:=(a0*60+a1*30+a2*10)-(a0*60+a1*15)) ho (by omega) (by omega);have e1:((((a0*60+a1*30+a2*10)-(a0*60+a1*15):Int)):Rat)/(60*(o:Rat))=(a1:Rat)/(o:Rat)*(1/4)+(a2:Rat)/(o:Rat)*(1/6):=by simp only [Rat.intCast_add,Rat.intCast_sub,Rat.intCast_mul,Rat.intCast_ofNat];grind
 have d2:=Qf5 (x:=(a0*60+a1*45+a2*30+a3*15)-(a0*60+a1*30+a2*10)) ho (by omega) (by omega);have e2:((((a0*60+a1*45+a2*30+a3*15)-(a0*60+a1*30+a2*10):Int)):Rat)/(60*(o:Rat))=(a1:Rat)/(o:Rat)*(1/4)+(a2:Rat)/(o:Rat)*(1/3)+(a3:Rat)/(o:Rat)*(1/4):=by simp only [Rat.intCast_add,Rat.intCast_sub,Rat.intCast_mul,Rat.intCast_ofNat];grind
 have d3:=Qf5 (x:=(a0*60+a1*60+a2*60+a3*60+a4*60)-(a0*60+a1*45+a2*30+a3*15)) ho (by omega) (by omega);have e3:((((a0*60+a1*60+a2*60+a3*60+a4*60)-(a0*60+a1*45+a2*30+a3*15):Int)):Rat)/(60*(o:Rat))=(a1:Rat)/(o:Rat)*(1/4)+(a2:Rat)/(o:Rat)*(1/2)+(a3:Rat)/(o:Rat)*(3/4)+(a4:Rat)/(o:Rat)*1:=by simp only [Rat.intCast_add,Rat.intCast_sub,Rat.intCast_mul,Rat.intCast_ofNat];grind
 have dw:=Qf5 (x:=(a0*60+a1*60+a2*60+a3*60+a4*60)-(a0*60)) ho (by omega) (by omega);have ew:((((a0*60+a1*60+a2*60+a3*60+a4*60)-(a0*60):Int)):Rat)/(60*(o:Rat))=(a1:Rat)/(o:Rat)+(a2:Rat)/(o:Rat)+(a3:Rat)/(o:Rat)+(a4:Rat)/(o:Rat):=by simp only [Rat.intCast_add,Rat.intCast_sub,Rat.intCast_mul,Rat.intCast_ofNat];grind
 have hw:wayQ [a0,a1,a2,a3,a4] o=(a1:Rat)/(o:Rat)+(a2:Rat)/(o:Rat)+(a3:Rat)/(o:Rat)+(a4:Rat)/(o:Rat):=by
  show wyS [a0,a1,a2,a3,a4] o 4=_;simp only [wyS,qs,Nat.zero_add,Nat.reduceAdd,x1,x2,x3,x4,Rat.zero_add]
 have hs:sqQ [a0,a1,a2,a3,a4] o=(a1:Rat)/(o:Rat)*((a1:Rat)/(o:Rat))*1+(a1:Rat)/(o:Rat)*((a2:Rat)/(o:Rat))*1+(a1:Rat)/(o:Rat)*((a3:Rat)/(o:Rat))*1+(a1:Rat)/(o:Rat)*((a4:Rat)/(o:Rat))*1+(a2:Rat)/(o:Rat)*((a1:Rat)/(o:Rat))*1+(a2:Rat)/(o:Rat)*((a2:Rat)/(o:Rat))*(4/3)+(a2:Rat)/(o:Rat)*((a3:Rat)/(o:Rat))*(3/2)+(a2:Rat)/(o:Rat)*((a4:Rat)/(o:Rat))*(8/5)+(a3:Rat)/(o:Rat)*((a1:Rat)/(o:Rat))*1+(a3:Rat)/(o:Rat)*((a2:Rat)/(o:Rat))*(3/2)+(a3:Rat)/(o:Rat)*((a3:Rat)/(o:Rat))*(9/5)+(a3:Rat)/(o:Rat)*((a4:Rat)/(o:Rat))*2+(a4:Rat)/(o:Rat)*((a1:Rat)/(o:Rat))*1+(a4:Rat)/(o:Rat)*((a2:Rat)/(o:Rat))*(8/5)+(a4:Rat)/(o:Rat)*((a3:Rat)/(o:Rat))*2+(a4:Rat)/(o:Rat)*((a4:Rat)/(o:Rat))*(16/7):=by
  show qs (fun j=>qs (fun m=>sqT [a0,a1,a2,a3,a4] o (j+1) (m+1)) 4) 4=_;simp only [qs,sqT,Nat.zero_add,Nat.reduceAdd,x1,x2,x3,x4,Qiz,Ql2,Qqv,Q0y,Ql3,Ql4,Qqw,Q0z,Qqx,Qqy,Qqz,Q00,Q01,Q02,Q03,Q04,Rat.zero_add]
  grind
 rw [e0]at d0;rw [e1]at d1;rw [e2]at d2;rw [e3]at d3;rw [ew]at dw;rw [hw,hs];clear hw hs e0 e1 e2 e3 x1 x2 x3 x4 ew h c0 c1 c2 c3 c4 g0 g1 g2 g3 g4;generalize (a1:Rat)/(o:Rat)=r1 at*;generalize (a2:Rat)/(o:Rat)=r2 at*;generalize (a3:Rat)/(o:Rat)=r3 at*;generalize (a4:Rat)/(o:Rat)=r4 at*;have hu:=Zv6 (K:=2097152) (d0:=r1*(1/4)) (d1:=r1*(1/4)+r2*(1/6)) (d2:=r1*(1/4)+r2*(1/3)+r3*(1/4)) (d3:=r1*(1/4)+r2*(1/2)+r3*(3/4)+r4*1) rfl rfl rfl rfl d0 d1 d2 d3;have hl:=Qtb r1 r2 r3 r4 0;refine⟨by grind,by grind,by grind,by grind⟩
theorem axB5 {a0 a1 a2 a3 a4 a5 o:Int} (ho:0<o) (h: ∀j,j<6→((ctl [a0,a1,a2,a3,a4,a5] j).natAbs:Int)≤62914560*o):
  wayQ [a0,a1,a2,a3,a4,a5] o*wayQ [a0,a1,a2,a3,a4,a5] o≤sqQ [a0,a1,a2,a3,a4,a5] o∧sqQ [a0,a1,a2,a3,a4,a5] o≤25*(2097152*2097152)∧ -2097152≤wayQ [a0,a1,a2,a3,a4,a5] o∧wayQ [a0,a1,a2,a3,a4,a5] o≤2097152:=by
 have o0:(0:Rat)<(o:Rat):=by exact_mod_cast ho
 have c0:ctl [a0,a1,a2,a3,a4,a5] 0=a0*60:=by simp [ctl,sm,cw,bin]
 have g0:=Qbs (h 0 (by decide));rw [c0]at g0;have c1:ctl [a0,a1,a2,a3,a4,a5] 1=a0*60+a1*12:=by simp [ctl,sm,cw,bin]
 have g1:=Qbs (h 1 (by decide));rw [c1]at g1;have c2:ctl [a0,a1,a2,a3,a4,a5] 2=a0*60+a1*24+a2*6:=by simp [ctl,sm,cw,bin]
 have g2:=Qbs (h 2 (by decide));rw [c2]at g2;have c3:ctl [a0,a1,a2,a3,a4,a5] 3=a0*60+a1*36+a2*18+a3*6:=by simp [ctl,sm,cw,bin]
 have g3:=Qbs (h 3 (by decide));rw [c3]at g3;have c4:ctl [a0,a1,a2,a3,a4,a5] 4=a0*60+a1*48+a2*36+a3*24+a4*12:=by simp [ctl,sm,cw,bin]
 have g4:=Qbs (h 4 (by decide));rw [c4]at g4;have c5:ctl [a0,a1,a2,a3,a4,a5] 5=a0*60+a1*60+a2*60+a3*60+a4*60+a5*60:=by simp [ctl,sm,cw,bin]
 have g5:=Qbs (h 5 (by decide));rw [c5]at g5;have x1:coQ [a0,a1,a2,a3,a4,a5] o 1=(a1:Rat)/(o:Rat):=Qcc _ _ _ _ rfl;have x2:coQ [a0,a1,a2,a3,a4,a5] o 2=(a2:Rat)/(o:Rat):=Qcc _ _ _ _ rfl;have x3:coQ [a0,a1,a2,a3,a4,a5] o 3=(a3:Rat)/(o:Rat):=Qcc _ _ _ _ rfl;have x4:coQ [a0,a1,a2,a3,a4,a5] o 4=(a4:Rat)/(o:Rat):=Qcc _ _ _ _ rfl;have x5:coQ [a0,a1,a2,a3,a4,a5] o 5=(a5:Rat)/(o:Rat):=Qcc _ _ _ _ rfl;have d0:=Qf5 (x:=(a0*60+a1*12)-(a0*60)) ho (by omega) (by omega);have e0:((((a0*60+a1*12)-(a0*60):Int)):Rat)/(60*(o:Rat))=(a1:Rat)/(o:Rat)*(1/5):=by simp only [Rat.intCast_add,Rat.intCast_sub,Rat.intCast_mul,Rat.intCast_ofNat];grind
 have d1:=Qf5 (x:=(a0*60+a1*24+a2*6)-(a0*60+a1*12)) ho (by omega) (by omega);have e1:((((a0*60+a1*24+a2*6)-(a0*60+a1*12):Int)):Rat)/(60*(o:Rat))=(a1:Rat)/(o:Rat)*(1/5)+(a2:Rat)/(o:Rat)*(1/10):=by simp only [Rat.intCast_add,Rat.intCast_sub,Rat.intCast_mul,Rat.intCast_ofNat];grind
 have d2:=Qf5 (x:=(a0*60+a1*36+a2*18+a3*6)-(a0*60+a1*24+a2*6)) ho (by omega) (by omega);have e2:((((a0*60+a1*36+a2*18+a3*6)-(a0*60+a1*24+a2*6):Int)):Rat)/(60*(o:Rat))=(a1:Rat)/(o:Rat)*(1/5)+(a2:Rat)/(o:Rat)*(1/5)+(a3:Rat)/(o:Rat)*(1/10):=by simp only [Rat.intCast_add,Rat.intCast_sub,Rat.intCast_mul,Rat.intCast_ofNat];grind
 have d3:=Qf5 (x:=(a0*60+a1*48+a2*36+a3*24+a4*12)-(a0*60+a1*36+a2*18+a3*6)) ho (by omega) (by omega);have e3:((((a0*60+a1*48+a2*36+a3*24+a4*12)-(a0*60+a1*36+a2*18+a3*6):Int)):Rat)/(60*(o:Rat))=(a1:Rat)/(o:Rat)*(1/5)+(a2:Rat)/(o:Rat)*(3/10)+(a3:Rat)/(o:Rat)*(3/10)+(a4:Rat)/(o:Rat)*(1/5):=by simp only [Rat.intCast_add,Rat.intCast_sub,Rat.intCast_mul,Rat.intCast_ofNat];grind
 have d4:=Qf5 (x:=(a0*60+a1*60+a2*60+a3*60+a4*60+a5*60)-(a0*60+a1*48+a2*36+a3*24+a4*12)) ho (by omega) (by omega);have e4:((((a0*60+a1*60+a2*60+a3*60+a4*60+a5*60)-(a0*60+a1*48+a2*36+a3*24+a4*12):Int)):Rat)/(60*(o:Rat))=(a1:Rat)/(o:Rat)*(1/5)+(a2:Rat)/(o:Rat)*(2/5)+(a3:Rat)/(o:Rat)*(3/5)+(a4:Rat)/(o:Rat)*(4/5)+(a5:Rat)/(o:Rat)*1:=by simp only [Rat.intCast_add,Rat.intCast_sub,Rat.intCast_mul,Rat.intCast_ofNat];grind
 have dw:=Qf5 (x:=(a0*60+a1*60+a2*60+a3*60+a4*60+a5*60)-(a0*60)) ho (by omega) (by omega);have ew:((((a0*60+a1*60+a2*60+a3*60+a4*60+a5*60)-(a0*60):Int)):Rat)/(60*(o:Rat))=(a1:Rat)/(o:Rat)+(a2:Rat)/(o:Rat)+(a3:Rat)/(o:Rat)+(a4:Rat)/(o:Rat)+(a5:Rat)/(o:Rat):=by simp only [Rat.intCast_add,Rat.intCast_sub,Rat.intCast_mul,Rat.intCast_ofNat];grind
 have hw:wayQ [a0,a1,a2,a3,a4,a5] o=(a1:Rat)/(o:Rat)+(a2:Rat)/(o:Rat)+(a3:Rat)/(o:Rat)+(a4:Rat)/(o:Rat)+(a5:Rat)/(o:Rat):=by
  show wyS [a0,a1,a2,a3,a4,a5] o 5=_;simp only [wyS,qs,Nat.zero_add,Nat.reduceAdd,x1,x2,x3,x4,x5,Rat.zero_add]
 have hs:sqQ [a0,a1,a2,a3,a4,a5] o=(a1:Rat)/(o:Rat)*((a1:Rat)/(o:Rat))*1+(a1:Rat)/(o:Rat)*((a2:Rat)/(o:Rat))*1+(a1:Rat)/(o:Rat)*((a3:Rat)/(o:Rat))*1+(a1:Rat)/(o:Rat)*((a4:Rat)/(o:Rat))*1+(a1:Rat)/(o:Rat)*((a5:Rat)/(o:Rat))*1+(a2:Rat)/(o:Rat)*((a1:Rat)/(o:Rat))*1+(a2:Rat)/(o:Rat)*((a2:Rat)/(o:Rat))*(4/3)+(a2:Rat)/(o:Rat)*((a3:Rat)/(o:Rat))*(3/2)+(a2:Rat)/(o:Rat)*((a4:Rat)/(o:Rat))*(8/5)+(a2:Rat)/(o:Rat)*((a5:Rat)/(o:Rat))*(5/3)+(a3:Rat)/(o:Rat)*((a1:Rat)/(o:Rat))*1+(a3:Rat)/(o:Rat)*((a2:Rat)/(o:Rat))*(3/2)+(a3:Rat)/(o:Rat)*((a3:Rat)/(o:Rat))*(9/5)+(a3:Rat)/(o:Rat)*((a4:Rat)/(o:Rat))*2+(a3:Rat)/(o:Rat)*((a5:Rat)/(o:Rat))*(15/7)+(a4:Rat)/(o:Rat)*((a1:Rat)/(o:Rat))*1+(a4:Rat)/(o:Rat)*((a2:Rat)/(o:Rat))*(8/5)+(a4:Rat)/(o:Rat)*((a3:Rat)/(o:Rat))*2+(a4:Rat)/(o:Rat)*((a4:Rat)/(o:Rat))*(16/7)+(a4:Rat)/(o:Rat)*((a5:Rat)/(o:Rat))*(5/2)+(a5:Rat)/(o:Rat)*((a1:Rat)/(o:Rat))*1+(a5:Rat)/(o:Rat)*((a2:Rat)/(o:Rat))*(5/3)+(a5:Rat)/(o:Rat)*((a3:Rat)/(o:Rat))*(15/7)+(a5:Rat)/(o:Rat)*((a4:Rat)/(o:Rat))*(5/2)+(a5:Rat)/(o:Rat)*((a5:Rat)/(o:Rat))*(25/9):=by
  show qs (fun j=>qs (fun m=>sqT [a0,a1,a2,a3,a4,a5] o (j+1) (m+1)) 5) 5=_;simp only [qs,sqT,Nat.zero_add,Nat.reduceAdd,x1,x2,x3,x4,x5,Qiz,Ql2,Qqv,Q0y,Zpd,Ql3,Ql4,Qqw,Q0z,Zpe,Qqx,Qqy,Qqz,Q00,Zpf,Q01,Q02,Q03,Q04,Zpg,Zph,Zpi,Zpj,Zpk,Zpl,Rat.zero_add]
  grind
 rw [e0]at d0;rw [e1]at d1;rw [e2]at d2;rw [e3]at d3;rw [e4]at d4;rw [ew]at dw;rw [hw,hs];clear hw hs e0 e1 e2 e3 e4 x1 x2 x3 x4 x5 ew h c0 c1 c2 c3 c4 c5 g0 g1 g2 g3 g4 g5;generalize (a1:Rat)/(o:Rat)=r1 at*;generalize (a2:Rat)/(o:Rat)=r2 at*;generalize (a3:Rat)/(o:Rat)=r3 at*;generalize (a4:Rat)/(o:Rat)=r4 at*;generalize (a5:Rat)/(o:Rat)=r5 at*;have hu:=Zv7 (K:=2097152) (d0:=r1*(1/5)) (d1:=r1*(1/5)+r2*(1/10)) (d2:=r1*(1/5)+r2*(1/5)+r3*(1/10)) (d3:=r1*(1/5)+r2*(3/10)+r3*(3/10)+r4*(1/5)) (d4:=r1*(1/5)+r2*(2/5)+r3*(3/5)+r4*(4/5)+r5*1) rfl rfl rfl rfl rfl d0 d1 d2 d3 d4;have hl:=Qtb r1 r2 r3 r4 r5;refine⟨by grind,by grind,by grind,by grind⟩
theorem axB0 {a0 o:Int}:wayQ [a0] o=0∧sqQ [a0] o=0:=⟨rfl,rfl⟩
theorem Q4o {c:List Int} {o:Int} (ho:0<o) (h:axOK c o=true):wayQ c o*wayQ c o≤sqQ c o∧sqQ c o≤25*(2097152*2097152)∧ -2097152≤wayQ c o∧wayQ c o≤2097152:=by
 simp only [axOK,Qi3,Bool.and_eq_true,decide_eq_true_eq]at h;obtain⟨⟨h1,h2, -⟩,hb⟩:=h;have hc:=fun j hj=>Qwa hb j hj
 match c,h1,h2,hc with
 | [a0],_,_,_=>rw [axB0.1,axB0.2];refine⟨by grind,by grind,by grind,by grind⟩
 | [a0,a1],_,_,hc=>obtain⟨a,b,c,d⟩:=axB1 ho hc;exact⟨a,by grind,c,d⟩
 | [a0,a1,a2],_,_,hc=>obtain⟨a,b,c,d⟩:=axB2 ho hc;exact⟨a,by grind,c,d⟩
 | [a0,a1,a2,a3],_,_,hc=>obtain⟨a,b,c,d⟩:=axB3 ho hc;exact⟨a,by grind,c,d⟩
 | [a0,a1,a2,a3,a4],_,_,hc=>obtain⟨a,b,c,d⟩:=axB4 ho hc;exact⟨a,by grind,c,d⟩
 | [a0,a1,a2,a3,a4,a5],_,_,hc=>obtain⟨a,b,c,d⟩:=axB5 ho hc;exact⟨a,by grind,c,d⟩
structure Bat where
 base:Int
 climb:Int
 drag:Int
 cap:Int
 res:Int
def Qko (n:Int):Bool:=decide (0≤n)&&decide (n≤1000000)
def Qax (B:Bat):Bool:=Qko B.base&&(Qko B.climb&&(Qko B.drag&&(decide (0≤B.res)&&(decide (B.res≤B.cap)&&decide (B.cap≤1125899906842624)))))
def fr (n d:Int):Rat:=(n:Rat)/(d:Rat)
def axQ (q:Rat) (c:List Int) (o t b:Int):Rat:=q+sqQ c o*fr 1000 t+wayQ c o*fr (-2*b) 1+fr (b*b) 1*fr t 1000
def drQ (s:Sg) (x y z:Int):Rat:=axQ (axQ (axQ (fr 0 1) s.x s.o (s.t-s.f) x) s.y s.o (s.t-s.f) y) s.z s.o (s.t-s.f) z
def baQ (s:Sg) (B:Bat):Rat:=if(wayQ s.z s.o).num<0 then fr (B.base*(s.t-s.f)) 1000 else fr (B.base*(s.t-s.f)) 1000+wayQ s.z s.o*fr B.climb 100
def Qvl (s:Sg) (B:Bat) (x y z:Int):Rat:=baQ s B+drQ s x y z*fr B.drag 1000000
def Qf6 (s:Sg) (B:Bat) (x y z:Int):Int:=upQ (Qvl s B x y z)
theorem Qtc (n:Int):fr n 1=(n:Rat):=by
 unfold fr;have:((1:Int):Rat)=1:=rfl;rw [this];grind
theorem Qyo {n d:Int} (h:d≠0):fr n d*(d:Rat)=(n:Rat):=Rat.div_mul_cancel (by exact_mod_cast h)
theorem Qvm {n:Int} (h:0<n):(0:Rat)<(n:Rat):=by exact_mod_cast h
theorem Qyp {a b:Int} (h:a≤b):(a:Rat)≤(b:Rat):=Rat.intCast_le_intCast.2 h
theorem Qhd {n d:Int} (h:0≤n) (hd:0<d):0≤fr n d:=by
 have h1:=Qyo (n:=n) (show d≠0 by omega);have h2:=Qvm hd;have h3:=Qyp h;simp only [Rat.intCast_zero]at h3;refine Rat.le_of_mul_le_mul_right (c:=(d:Rat)) ?_ h2
 grind
theorem Q4p {n d k:Int} (hd:0<d) (h:n≤k*d):fr n d≤(k:Rat):=by
 have h1:=Qyo (n:=n) (show d≠0 by omega);have h2:=Qvm hd;have h3:=Qyp h;rw [Rat.intCast_mul]at h3;refine Rat.le_of_mul_le_mul_right (c:=(d:Rat)) ?_ h2
 grind
theorem Qvn {c:List Int} {o t b:Int} (ho:0<o) (h:axOK c o=true) (ht:0<t) (ht2:t≤3600000) (hb: -40000≤b) (hb2:b≤40000) (q:Rat):q≤axQ q c o t b∧axQ q c o t b≤q+120000000000000000:=by
 obtain⟨h1,h2,h3,h4⟩:=Q4o ho h;unfold axQ;rw [Qtc,Qtc];have u1:=Qyo (n:=1000) (show t≠0 by omega);have u2:=Qyo (n:=t) (d:=1000) (by decide);have u0:0≤fr 1000 t:=Qhd (by decide) ht;have u5:0≤fr t 1000:=Qhd (by omega) (by decide);have u3:fr 1000 t≤(1000:Int):=Q4p ht (by omega);have u4:fr t 1000≤(3600:Int):=Q4p (by decide) (by omega);have b1:=Qyp hb;have b2:=Qyp hb2;have e1:((-2*b:Int):Rat)= -2*(b:Rat):=by rw [Rat.intCast_mul];rfl
 have e2:((b*b:Int):Rat)=(b:Rat)*(b:Rat):=Rat.intCast_mul _ _;have e3:((1000:Int):Rat)=1000:=rfl;have e4:((3600:Int):Rat)=3600:=rfl;have e5:((-40000:Int):Rat)= -40000:=rfl;have e6:((40000:Int):Rat)=40000:=rfl;rw [e3]at u1 u2 u3;rw [e4]at u4;rw [e5]at b1;rw [e6]at b2;rw [e1,e2];have tp:=Qvm ht;have uv:fr 1000 t*fr t 1000=1:=by
  have k:fr 1000 t*fr t 1000*(t:Rat)=1*(t:Rat):=by
   have q1:fr 1000 t*fr t 1000*(t:Rat)=fr 1000 t*(t:Rat)*fr t 1000:=by rw [Rat.mul_assoc,Rat.mul_assoc,Rat.mul_comm (fr t 1000)]
   rw [q1,u1,Rat.mul_comm,u2,Rat.one_mul]
  refine Rat.le_antisymm ?_ ?_<;>refine Rat.le_of_mul_le_mul_right (c:=(t:Rat)) ?_ tp<;>rw [k]<;>exact Rat.le_refl
 generalize fr 1000 t=u at*;generalize fr t 1000=v at*;generalize (b:Rat)=w at*;generalize sqQ c o=S at*;generalize wayQ c o=y at*;clear e1 e2 tp u1 u2;have s0:0≤S:=Rat.le_trans (Qd1 y) h1;have p1:=Rat.mul_le_mul_of_nonneg_right h1 u0;have p2:=Rat.mul_nonneg u0 (Qd1 (y-w*v));have p3:=Rat.mul_le_mul_of_nonneg_left u3 s0;have p4:=Rat.mul_le_mul_of_nonneg_right h2 (show(0:Rat)≤1000 by decide);have w2:=Qig b1 b2;have p5:=Rat.mul_le_mul_of_nonneg_left u4 (Qd1 w);have p6:=Rat.mul_le_mul_of_nonneg_right w2 (show(0:Rat)≤3600 by decide);have p7:2*w*y≤2*40000*2097152∧ -(2*w*y)≤2*40000*2097152:=by
  have key: ∀w:Rat, -40000≤w→w≤40000→2*w*y≤2*40000*2097152:=fun w b1 b2=>by
   have a1:=Rat.mul_nonneg (show 0≤40000-w by grind) (show 0≤2097152+y by grind);have a2:=Rat.mul_nonneg (show 0≤40000+w by grind) (show 0≤2097152-y by grind);have a3:(40000-w)*(2097152+y)+(40000+w)*(2097152-y)=2*40000*2097152-2*w*y:=by grind
   have a4:=Rat.add_nonneg a1 a2;rw [a3]at a4;exact(Rat.le_iff_sub_nonneg _ _).2 a4
  refine⟨key w b1 b2,?_⟩;have:=key (-w) (by grind) (by grind);have e:2* -w*y= -(2*w*y):=by grind
  rwa [e]at this
 have p8:u*((y-w*v)*(y-w*v))=y*y*u-2*w*y+w*w*v:=by
  have:u*((y-w*v)*(y-w*v))=y*y*u-2*w*y*(u*v)+w*w*v*(u*v):=by grind
  rw [this,uv,Rat.mul_one,Rat.mul_one]
 rw [p8]at p2;have e9:y*(-2*w)= -(2*w*y):=by grind
 rw [e9];clear p8 e9 uv h1 w2 b1 b2 hb hb2 ht2 ht h ho u3 u4 u0 u5 h3 h4;generalize 2*w*y=Z at*;generalize y*y*u=Y at*;generalize S*u=T at*;generalize w*w*v=V at*;generalize w*w=W at*;obtain⟨p7,p9⟩:=p7;constructor<;>grind
theorem Zv8 {x:Rat} {n:Int} (h:x≤(n:Rat)):upQ x≤n:=by
 unfold upQ;have:=(Rat.le_iff _ _).1 h;simp only [Rat.num_intCast,Rat.den_intCast]at this;rw [Rat.neg_num,Rat.neg_den];have hd:(0:Int)<(x.den:Int):=by have:=x.den_pos;omega
 have: -n≤ -x.num/(x.den:Int):=by
  rw [Int.le_ediv_iff_mul_le hd];rw [Int.neg_mul];omega
 omega
theorem Zv9 {x:Rat} (h:0≤x):0≤upQ x:=by
 unfold upQ;rw [Rat.neg_num,Rat.neg_den];have hd:(0:Int)<(x.den:Int):=by have:=x.den_pos;omega
 have hn:=Rat.num_nonneg.2 h;have: -x.num/(x.den:Int)≤0:=Int.ediv_nonpos_of_nonpos_of_neg (by omega) (by omega);omega
theorem Qck {B:Bat} (h:Qax B=true):(0≤B.base∧B.base≤1000000)∧(0≤B.climb∧B.climb≤1000000)∧(0≤B.drag∧B.drag≤1000000)∧0≤B.res∧B.res≤B.cap∧B.cap≤1125899906842624:=by
 simp only [Qax,Qko,Bool.and_eq_true,decide_eq_true_eq]at h;omega
theorem Qyq {s:Sg} {B:Bat} {x y z:Int} (hs:rngS s=true) (hx:axOK s.x s.o=true) (hy:axOK s.y s.o=true) (hz:axOK s.z s.o=true) (hB:Qax B=true)
  (h1: -40000≤x∧x≤40000) (h2: -40000≤y∧y≤40000) (h3: -40000≤z∧z≤40000):0≤Qf6 s B x y z∧Qf6 s B x y z≤400000000000000000:=by
 obtain⟨B1,B2,B3, -⟩:=Qck hB;simp only [rngS,Bool.and_eq_true,decide_eq_true_eq]at hs;obtain⟨r1,r2,r3,r4,r5⟩:=hs;have o0:0<s.o:=by omega
 have t0:0<s.t-s.f:=by omega
 have t1:s.t-s.f≤3600000:=by omega
 obtain⟨a1,a2⟩:=Qvn o0 hx t0 t1 h1.1 h1.2 (fr 0 1);obtain⟨a3,a4⟩:=Qvn o0 hy t0 t1 h2.1 h2.2 (axQ (fr 0 1) s.x s.o (s.t-s.f) x);obtain⟨a5,a6⟩:=Qvn o0 hz t0 t1 h3.1 h3.2 (axQ (axQ (fr 0 1) s.x s.o (s.t-s.f) x) s.y s.o (s.t-s.f) y);have e0:fr 0 1=0:=by rw [Qtc];rfl
 have z0:0≤fr 0 1:=by rw [e0];exact Rat.le_refl
 have dd:0≤drQ s x y z∧drQ s x y z≤360000000000000000:=by
  unfold drQ;generalize axQ (axQ (axQ (fr 0 1) s.x s.o (s.t-s.f) x) s.y s.o (s.t-s.f) y) s.z s.o (s.t-s.f) z=X3 at*;generalize axQ (axQ (fr 0 1) s.x s.o (s.t-s.f) x) s.y s.o (s.t-s.f) y=X2 at*;generalize axQ (fr 0 1) s.x s.o (s.t-s.f) x=X1 at*;refine⟨Rat.le_trans z0 (Rat.le_trans a1 (Rat.le_trans a3 a5)),?_⟩;rw [e0]at a2;clear h1 h2 h3 hB B1 B2 B3 r1 r2 r3 r4 r5 o0 t0 t1 e0 z0
  grind
 obtain⟨dn,dm⟩:=dd;clear a1 a2 a3 a4 a5 a6 z0 e0;have f0:0≤fr B.drag 1000000:=Qhd B3.1 (by decide);have f1:fr B.drag 1000000≤(1:Int):=Q4p (by decide) (by omega);have g0:0≤fr B.climb 100:=Qhd B2.1 (by decide);have g1:fr B.climb 100≤(10000:Int):=Q4p (by decide) (by omega);have k0:0≤fr (B.base*(s.t-s.f)) 1000:=Qhd (Int.mul_nonneg B1.1 (by omega)) (by decide);have k1:fr (B.base*(s.t-s.f)) 1000≤(3600000000:Int):=Q4p (by decide) (by
  have:=Int.mul_le_mul B1.2 t1 (by omega) (by decide);omega)
 obtain⟨-, -,w3,w4⟩:=Q4o o0 hz;have e1:((1:Int):Rat)=1:=rfl;have e2:((10000:Int):Rat)=10000:=rfl;have e3:((3600000000:Int):Rat)=3600000000:=rfl;rw [e1]at f1;rw [e2]at g1;rw [e3]at k1;have bn:0≤baQ s B∧baQ s B≤30000000000:=by
  unfold baQ;by_cases hw:(wayQ s.z s.o).num<0
  ·rw [if_pos hw];exact⟨k0,by grind⟩
  ·rw [if_neg hw];have w0:0≤wayQ s.z s.o:=Rat.num_nonneg.1 (by omega);have m0:=Rat.mul_nonneg w0 g0;have m1:=Rat.mul_le_mul_of_nonneg_left g1 w0;have m2:=Rat.mul_le_mul_of_nonneg_right w4 (show(0:Rat)≤10000 by decide);exact⟨by grind,by grind⟩
 have d0:=Rat.mul_nonneg dn f0;have d1:=Rat.mul_le_mul_of_nonneg_left f1 dn;unfold Qf6;refine⟨Zv9 (by unfold Qvl;grind),Zv8 ?_⟩;have:((400000000000000000:Int):Rat)=400000000000000000:=rfl;rw [this];unfold Qvl
 grind
theorem Qld {n d:Int} (h1:n.natAbs<2^64) (h2:d.natAbs<2^64) (hd:d≠0):fitQ 64 (fr n d):=Qqu h1 h2 hd
def ok64 (c:List Int):Prop:= ∀i,(c.getD i 0).natAbs<2^64
theorem Qpj {c:List Int} {o:Int} (hc:ok64 c) (ho:o.natAbs<2^64) (h0:o≠0) (i:Nat):fitQ 64 (coQ c o i):=Qqu (hc i) ho h0
theorem Znw {i k:Nat} (hi:1≤i) (hk:1≤k) (hi2:i≤6) (hk2:k≤6):fitQ 64 (ikQ i k):=by
 refine Qqu ?_ ?_ (by omega)
 ·have:=Nat.mul_le_mul hi2 hk2;rw [Int.natAbs_mul,Int.natAbs_natCast,Int.natAbs_natCast];omega
 ·omega
theorem Q4q {c:List Int} {o:Int} (hc:ok64 c) (ho:o.natAbs<2^64) (h0:o≠0) {i k:Nat} (hi:1≤i) (hk:1≤k) (hi2:i≤6) (hk2:k≤6):fitQ 192 (sqT c o i k):=
 Qdi (Qdi (Qpj hc ho h0 i) (Qpj hc ho h0 k)) (Znw hi hk hi2 hk2)
theorem Q4r {c:List Int} {o:Int} (hc:ok64 c) (ho:o.natAbs<2^64) (h0:o≠0) {i k:Nat} (hi:1≤i) (hi2:i≤6) (hk2:k≤5):fitQ 966 (sqR c o i k):=
 (Qyn k fun j hj=>Q4q hc ho h0 hi (by omega) hi2 (by omega)).mono (Nat.le_trans (Nat.add_le_add_right (Nat.mul_le_mul_right (192+1) hk2) 1) (by decide))
theorem Q4s {c:List Int} {o:Int} (hc:ok64 c) (ho:o.natAbs<2^64) (h0:o≠0) (hl:c.length≤6) {i:Nat} (hi:i≤5):fitQ 4836 (sqS c o i):=
 (Qyn i fun j hj=>Q4r hc ho h0 (by omega) (by omega) (by omega)).mono (Nat.le_trans (Nat.add_le_add_right (Nat.mul_le_mul_right (966+1) hi) 1) (by decide))
theorem Qvo {c:List Int} {o:Int} (hc:ok64 c) (ho:o.natAbs<2^64) (h0:o≠0) {n:Nat} (hn:n≤5):fitQ 326 (wyS c o n):=
 (Qyn n fun j _=>Qpj hc ho h0 _).mono (Nat.le_trans (Nat.add_le_add_right (Nat.mul_le_mul_right (64+1) hn) 1) (by decide))
end Go.Dg

namespace Go.Proofs.YtcaffiaempefjaaGreatDoor
open Go.Vl Go.RowKit Go.Dg
theorem Qbh (x:Rat): ∃b1 s1 b2 s2,ratQ x= .agg [.bool b1,.str s1,.bool b2,.str s2]:=⟨_,_,_,_,rfl⟩
def zQ:PV:= .agg [.bool false,.str ⟨#[]⟩,.bool false,.str ⟨#[]⟩]
attribute [go_sem] zQ
theorem Qi5 (n d:Int) (h1:i64 n) (h2:i64 d) (h0:d≠0):Qaf Tryz.prog 79 [.int .i64 n,.int .i64 d] (ratQ (fr n d)):=by
 have h:=Zz2 n d h1.1 h1.2 h2.1 h2.2 h0;have e0:(n:Rat)/(d:Rat)=fr n d:=rfl;rw [e0]at h;obtain⟨b1,s1,b2,s2,e⟩:=Qbh (fr n d);rw [e]at h ⊢;refine Qab (tb:=[]) 14 [.cell 4 137] [0,1,4,5] mixed Tryz.func79 rfl (by kernel_rfl) ?_;repeat (first|simp -implicitDefEqProofs only [go_sem,seval]|(with_reducible refine Qaa h ?_ ?_ ?_);rfl;rfl)
theorem Qi6 {k l:Nat} {x y:Rat} (hx:fitQ k x) (hy:fitQ l y) (hk:k+l+1≤65536):Qaf Tryz.prog 81 [ratQ x,ratQ y] (ratQ (x+y)):=by
 have h:=Zwy hx hy hk;obtain⟨b1,s1,b2,s2,e⟩:=Qbh (x+y);obtain⟨c1,t1,c2,t2,e2⟩:=Qbh x;obtain⟨d1,u1,d2,u2,e3⟩:=Qbh y;rw [e,e2,e3]at h;rw [e,e2,e3];refine Qab (tb:=[]) 14 [.cell 4 137] [0,1,2,3,4,5] mixed Tryz.func81 rfl (by kernel_rfl) ?_;repeat (first|simp -implicitDefEqProofs only [go_sem,seval]|(with_reducible refine Qaa h ?_ ?_ ?_);rfl;rfl)
def prQ (x:Rat) (l:List Rat) (k:Nat):Rat:=(l.take k).foldl (· * ·) x
def raB (x:Rat):Box:={els:=[ratQ x],esz:=4,ety:=137,fro:=0,live:=true,arr:=false}
theorem Q6k (x:Rat) (l:List Rat) (hl:l.length≤100) (hm: ∀k (h:k<l.length),Qaf Tryz.prog 114 [ratQ (prQ x l k),ratQ l[k]] (.tup [ratQ (prQ x l (k+1)),.int .i64 0])):
  Qaf Tryz.prog 82 [ratQ x,.slc (l.map ratQ)] (ratQ (prQ x l l.length)):=by
 obtain⟨b1,s1,b2,s2,e⟩:=Qbh x;have e0:prQ x l 0=x:=rfl;rw [e];refine Qab (tb:=[]) 24 [.cell 4 137] [0,1,2,4,6,7,9,10,11,12] mixed Tryz.func82 rfl (by kernel_rfl) ?_;repeat simp -implicitDefEqProofs only [go_sem,seval]
 rw [←e];refine Qat mixed (fun k:{k:Nat // k≤l.length}=>St.of [(2,.bp 0 4 0 0),(4,.bp 1 4 0 0),(9,.slc (l.map ratQ)),(10,.int .i64 (l.length:Int)),(11,.int .i64 (k.1:Int))] [(0,raB (prQ x l k.1)),(1,{els:=[zQ],esz:=4,ety:=137,fro:=0,live:=true,arr:=false})]) (fun k=>l.length-k.1) ⟨0,Nat.zero_le _⟩ ?_ ?_
 ·refine Qak (θ:=[(0,0),(1,1)]) rfl ?_ ?_
  ·simp [Qae,lkp,ren1,ren0,Qan]
  ·simp only [e0,raB];rw [e];exact⟨⟨rfl,rfl,rfl,rfl,rfl,.inr ⟨rfl,_,_,rfl,rfl,rfl,rfl⟩⟩,⟨rfl,rfl,rfl,rfl,rfl,.inr ⟨rfl,_,_,rfl,rfl,rfl,rfl⟩⟩,trivial⟩
 ·rintro⟨k,hk⟩;simp only [raB];obtain⟨c1,t1,c2,t2,e2⟩:=Qbh (prQ x l k);by_cases hA:k<l.length
  ·have hA':=ltT hA;have n0:=nnT k;have hwk:=Qai (a:=k) (by omega);have hM:=hm k hA;obtain⟨d1,u1,d2,u2,e3⟩:=Qbh (prQ x l (k+1));obtain⟨f1,v1,f2,v2,e4⟩:=Qbh l[k];have hg:(l.map ratQ)[k]? =some (.agg [.bool f1,.str v1,.bool f2,.str v2]):=by rw [List.getElem?_map,List.getElem?_eq_getElem hA,Option.map_some,e4]
   rw [e2,e3,e4]at hM;rw [e2];repeat (first|simp -implicitDefEqProofs only [go_sem,seval,hA',n0,hwk,hg,Int.toNat_natCast]|(with_reducible refine Qaa hM ?_ ?_ ?_);rfl;rfl)
   refine⟨⟨k+1,hA⟩,by simp only;omega,Qak (θ:=[(0,0),(1,1)]) rfl ?_ ?_⟩
   ·simp [Qae,lkp,ren1,ren0,Qan]
   ·simp only;rw [e3];exact⟨⟨rfl,rfl,rfl,rfl,rfl,.inr ⟨rfl,_,_,rfl,rfl,rfl,rfl⟩⟩,⟨rfl,rfl,rfl,rfl,rfl,.inr ⟨rfl,_,_,rfl,rfl,rfl,rfl⟩⟩,trivial⟩
  ·have hA':=ltF hA;obtain rfl:k=l.length:=by omega
   rw [e2];repeat simp -implicitDefEqProofs only [go_sem,seval,hA']
theorem Qh1 {k l:Nat} {x y:Rat} (hx:fitQ k x) (hy:fitQ l y) (hk:k+l≤65536):Qaf Tryz.prog 82 [ratQ x,.slc [ratQ y]] (ratQ (x*y)):=by
 have h:=Q6k x [y] (by simp) (fun i hi=>by
  obtain rfl:i=0:=by simp at hi;omega
  exact Q6f hx hy hk)
 exact h
theorem Zfl {k l m:Nat} {x y z:Rat} (hx:fitQ k x) (hy:fitQ l y) (hz:fitQ m z) (hk:k+l+m≤65536):Qaf Tryz.prog 82 [ratQ x,.slc [ratQ y,ratQ z]] (ratQ (x*y*z)):=by
 have h:=Q6k x [y,z] (by simp) (fun i hi=>by
  rcases(show i=0∨i=1 by simp at hi;omega)with rfl|rfl
  ·exact Q6f hx hy (by omega)
  ·exact Q6f (Qdi hx hy) hz (by omega))
 exact h
theorem Zwz {c:List Int} {k:Nat} (h:k+1<c.length):((c.map (PV.int .i64)).drop 1)[k]? =some (.int .i64 (c.getD (k+1) 0)):=by
 rw [List.getElem?_drop,List.getElem?_map,List.getElem?_eq_getElem (by omega),List.getD_eq_getElem?_getD,List.getElem?_eq_getElem h];simp [Nat.add_comm]
set_option maxHeartbeats 1000000 in
theorem Zn9 (c:List Int) (o:Int) (hc: ∀x∈c,i64 x) (h1:1≤c.length) (h6:c.length≤6) (ho:i64 o) (h0:o≠0) (hk:ok64 c):Qaf Tryz.prog 80 [.slc (c.map (PV.int .i64)),.int .i64 o] (ratQ (wayQ c o)):=by
 have hz:=Qi5 0 1 (by unfold i64;omega) (by unfold i64;omega) (by decide);have e0:fr 0 1=wyS c o 0:=(by decide+kernel:fr 0 1=0);rw [e0]at hz;obtain⟨b1,s1,b2,s2,e⟩:=Qbh (wyS c o 0);rw [e]at hz;have l1:((1:Int)≤(c.length:Int))=True:=eq_true (by omega);have l2:(1≤c.length)=True:=eq_true h1;have l3:((c.map (PV.int .i64)).drop 1).take (c.length-1)=(c.map (PV.int .i64)).drop 1:=List.take_of_length_le (by simp);have l5:((c.map (PV.int .i64)).all fun x=>x.cells.length==1)=true:=by rw [List.all_map,List.all_eq_true];intro _ _;rfl
 have l6:(c.map (PV.int .i64)).take c.length=c.map (PV.int .i64):=List.take_of_length_le (by simp);have l4:((c.map (PV.int .i64)).drop 1).length=c.length-1:=by simp
 have oa:o.natAbs<2^64:=Qa2 ho;refine Qab (tb:=[]) 23 [.cell 4 137] [0,1,4,5,7,10,11,12,13] mixed Tryz.func80 rfl (by kernel_rfl) ?_;repeat (first|simp -implicitDefEqProofs only [go_sem,seval,l1,l4,l5,l6,List.length_map,Int.toNat_natCast]|(with_reducible refine Qaa hz ?_ ?_ ?_);rfl;rfl)
 rw [←e];refine Qat mixed (fun k:{k:Nat // k≤c.length-1}=>St.of [(1,.int .i64 o),(4,.bp 0 4 0 0),(5,.bp 101 4 0 0),(10,.slc ((c.map (PV.int .i64)).drop 1)),(11,.int .i64 ((c.length-1:Nat):Int)),(12,.int .i64 (k.1:Int))] [(0,{els:=[zQ],esz:=4,ety:=137,fro:=0,live:=true,arr:=false}),(101,raB (wyS c o k.1))]) (fun k=>c.length-1-k.1) ⟨0,Nat.zero_le _⟩ ?_ ?_
 ·refine Qak (θ:=[(0,0),(101,101)]) rfl ?_ ?_
  ·simp [Qae,lkp,ren1,ren0,Qan]
  ·simp only [raB];rw [e];exact⟨⟨rfl,rfl,rfl,rfl,rfl,.inr ⟨rfl,_,_,rfl,rfl,rfl,rfl⟩⟩,⟨rfl,rfl,rfl,rfl,rfl,.inr ⟨rfl,_,_,rfl,rfl,rfl,rfl⟩⟩,trivial⟩
 ·rintro⟨k,hk2⟩;simp only [raB];obtain⟨c1,t1,c2,t2,e2⟩:=Qbh (wyS c o k);by_cases hA:k<c.length-1
  ·have hA':=ltT hA;have n0:=nnT k;have hwk:=Qai (a:=k) (by omega);have hg:=Zwz (c:=c) (k:=k) (by omega);have hci:i64 (c.getD (k+1) 0):=by
    rw [List.getD_eq_getElem?_getD,List.getElem?_eq_getElem (by omega)];exact hc _ (List.getElem_mem _)
   have f1:=Qi5 (c.getD (k+1) 0) o hci ho h0;have e5:fr (c.getD (k+1) 0) o=coQ c o (k+1):=rfl;rw [e5]at f1;have f2:=Qi6 (Qvo hk oa h0 (n:=k) (by omega)) (Qpj hk oa h0 (k+1)) (by decide);have e6:wyS c o k+coQ c o (k+1)=wyS c o (k+1):=rfl;rw [e6]at f2;obtain⟨d1,u1,d2,u2,e3⟩:=Qbh (wyS c o (k+1));obtain⟨g1,v1,g2,v2,e4⟩:=Qbh (coQ c o (k+1));rw [e4]at f1;rw [e2,e3,e4]at f2;rw [e2];repeat (first|simp -implicitDefEqProofs only [go_sem,seval,hA',n0,hwk,hg,Int.toNat_natCast]|(with_reducible refine Qaa f1 ?_ ?_ ?_);rfl;rfl|(with_reducible refine Qaa f2 ?_ ?_ ?_);rfl;rfl|(with_reducible refine And.intro (Qac _ _ (by kernel_rfl)) ?_))
   refine⟨⟨k+1,hA⟩,by simp only;omega,Qak (θ:=[(0,0),(101,101)]) rfl ?_ ?_⟩
   ·simp [Qae,lkp,ren1,ren0,Qan]
   ·simp only;rw [e3];exact⟨⟨rfl,rfl,rfl,rfl,rfl,.inr ⟨rfl,_,_,rfl,rfl,rfl,rfl⟩⟩,⟨rfl,rfl,rfl,rfl,rfl,.inr ⟨rfl,_,_,rfl,rfl,rfl,rfl⟩⟩,trivial⟩
  ·have hA':=ltF hA;obtain rfl:k=c.length-1:=by omega
   have e7:wayQ c o=wyS c o (c.length-1):=rfl;rw [e7,e2];repeat simp -implicitDefEqProofs only [go_sem,seval,hA']
end Go.Proofs.YtcaffiaempefjaaGreatDoor
