/-
  Dsn, PM17, UYG, Dso, PM18, PM19, PM20, PM21, PM22, PM23 (merged for the claim).
-/
import Derived.Test.YtlghoaggenhheaaGreatPM16
import Derived.Test.YtlghoaggenhheaaGreatDsl
set_option linter.unusedSimpArgs false
set_option linter.unusedVariables false
namespace Go.Dg
def nrm:List Int→Nat
 | []=>0
 |x::l=>x.natAbs+nrm l
theorem Qqr (a b:List Int):nrm (a++b)=nrm a+nrm b:=by
 induction a with
 |nil=>simp [nrm]
 |cons x a ih=>simp [nrm,ih,Nat.add_assoc]
theorem Q5r {l:List Int} {x:Int} (h:x∈l):x.natAbs≤nrm l:=by
 induction l with
 |nil=>cases h
 |cons y l ih=>
  cases h with
  |head=>exact Nat.le_add_right _ _
  |tail _ h=>exact Nat.le_trans (ih h) (Nat.le_add_left _ _)
theorem Qob (l:List Int) (c:Int):nrm (l.map (· *c))=nrm l*c.natAbs:=by
 induction l with
 |nil=>simp [nrm]
 |cons x l ih=>simp only [List.map_cons,nrm,ih,Int.natAbs_mul,Nat.add_mul]
theorem Qoc (l:List Int):nrm (Qas l)≤nrm l:=by
 induction l with
 |nil=>exact Nat.le_refl _
 |cons c r ih=>
  rw [Qb9];split
  ·split
   ·exact Nat.zero_le _
   ·simp [nrm]
  ·simp only [nrm];omega
theorem Qsc (f g:Nat→Int) (n:Nat):nrm ((List.range n).map fun i=>f i+g i)≤nrm ((List.range n).map f)+nrm ((List.range n).map g):=by
 induction n with
 |zero=>simp [nrm]
 |succ n ih=>simp only [List.range_succ,List.map_append,Qqr,List.map_cons,List.map_nil,nrm];omega
theorem Qei: ∀(l:List Int) (n:Nat),nrm ((List.range n).map fun i=>l.getD i 0)≤nrm l
 |_,0=>Nat.zero_le _
 | [],n+1=>by
  have:=Qei [] n;simp only [List.range_succ,List.map_append,Qqr,List.map_cons,List.map_nil,nrm,List.getD_nil]at this ⊢;simpa using this
 |x::l,n+1=>by
  have:=Qei l n;rw [List.range_succ_eq_map,List.map_cons,List.map_map];simp only [nrm,List.getD_cons_zero];exact Nat.add_le_add_left this _
theorem Zc9 (p q:List Int):nrm (zipA p q)≤nrm p+nrm q:=
 Nat.le_trans (Qsc _ _ _) (Nat.add_le_add (Qei _ _) (Qei _ _))
theorem Zda (l:List Int) (c:Int):nrm (l.set 0 (l.getD 0 0+c))≤nrm l+c.natAbs:=by
 cases l with
 |nil=>simp [nrm]
 |cons x l=>simp only [List.set_cons_zero,List.getD_cons_zero,nrm];omega
theorem Q5s (out:List Int) (a b c:Int):nrm (hstep out a b c)≤nrm out*(a.natAbs+b.natAbs)+c.natAbs:=by
 unfold hstep;refine Nat.le_trans (Zda _ _) (Nat.add_le_add_right ?_ _);rw [Qzn];refine Nat.le_trans (Zc9 _ _) ?_;simp only [nrm,Qob,Int.natAbs_zero,Nat.zero_add,Nat.mul_add];exact Nat.le_refl _
theorem Quh (p:List Int) (a b d:Int) (hab:a.natAbs+b.natAbs≤d.natAbs): ∀m,m<p.length→nrm (Qet p a b d m)≤d.natAbs^m*nrm (p.drop (p.length-1-m))
 |0,h=>by
  have h1:p.length-1<p.length:=by omega
  rw [Qet,Nat.sub_zero,List.drop_eq_getElem_cons h1];simp only [nrm,List.getD_eq_getElem?_getD,List.getElem?_eq_getElem h1,Option.getD_some,Nat.pow_zero,Nat.one_mul,Nat.add_zero];exact Nat.le_add_right _ _
 |m+1,h=>by
  have ih:=Quh p a b d hab m (by omega);have h1:p.length-1-(m+1)<p.length:=by omega
  have e:p.length-1-(m+1)+1=p.length-1-m:=by omega
  rw [Qet,List.drop_eq_getElem_cons h1,e];refine Nat.le_trans (Q5s _ _ _ _) ?_;simp only [nrm,List.getD_eq_getElem?_getD,List.getElem?_eq_getElem h1,Option.getD_some,Int.natAbs_mul,Int.natAbs_pow,Nat.mul_add];have k:=Nat.mul_le_mul ih hab;rw [Nat.mul_add]at k;rw [Nat.add_comm (d.natAbs^(m+1)*_),Nat.mul_comm (p[p.length-1-(m+1)]).natAbs];refine Nat.add_le_add_right (Nat.le_trans k ?_) _;rw [Nat.pow_succ,Nat.mul_right_comm];exact Nat.le_refl _
theorem Zdb (p:List Int) (a b d:Int) (hab:a.natAbs+b.natAbs≤d.natAbs):nrm (Qce p a b d p.length)≤d.natAbs^(p.length-1)*nrm p:=by
 by_cases hp:0<p.length
 ·rw [←Qqp p a b d hp];refine Nat.le_trans (Qoc _) ?_;have:=Quh p a b d hab (p.length-1) (by omega)
  rwa [Nat.sub_self,List.drop_zero]at this
 ·obtain rfl:p=[]:=List.eq_nil_of_length_eq_zero (by omega);exact Nat.zero_le _
theorem Zdc (c:List Int) (a b d:Int) (hc:c.length≤6) (h1:1≤c.length) (hd:1≤d) (hab:a.natAbs+b.natAbs≤d.natAbs):nrm (cmpC c a b d)≤d.natAbs^5*nrm c:=by
 unfold cmpC Qc8;refine Nat.le_trans (Qoc _) ?_;rw [Qob,Int.natAbs_pow];have h2:=Zdb (Qas c) a b d hab;have h3:=Qoc c;have h4:=Qbh c;have hd':0<d.natAbs:=by omega
 generalize Qas c=q at*;generalize d.natAbs=D at*;refine Nat.le_trans (Nat.mul_le_mul_right _ h2) ?_;rw [Nat.mul_right_comm,←Nat.pow_add];exact Nat.mul_le_mul (Nat.pow_le_pow_right hd' (by omega)) h3
theorem Qc9 {x K:Int} (h:(x.natAbs:Int)≤K): -K≤x∧x≤K:=by omega
theorem Q5t {c:List Int} {o:Int} (h:Qdc c o c.length=true) (j:Nat) (hj:j<c.length):((ctl c j).natAbs:Int)≤62914560*o:=by
 unfold Qdc at h;rw [List.all_eq_true]at h;exact of_decide_eq_true (h j (List.mem_range.2 hj))
theorem Zmm {o a0:Int} (ho:0≤o) (h: ∀j,j<1→((ctl [a0] j).natAbs:Int)≤62914560*o):(nrm [a0]:Int)≤1048576*o:=by
 have h0:=Qc9 (h 0 (by decide));have e0:ctl [a0] 0=60*a0:=by simp [ctl,sm,cw,bin];omega
 generalize ctl [a0] 0=b0 at*;clear h;have f0:60*a0=1*b0:=by omega
 clear e0;have g0:(a0.natAbs:Int)≤1048576*o:=by omega
 clear h0 f0;simp only [nrm];generalize a0.natAbs=m0 at*;omega
theorem Zmn {o a0 a1:Int} (ho:0≤o) (h: ∀j,j<2→((ctl [a0,a1] j).natAbs:Int)≤62914560*o):(nrm [a0,a1]:Int)≤3145728*o:=by
 have h0:=Qc9 (h 0 (by decide));have h1:=Qc9 (h 1 (by decide));have e0:ctl [a0,a1] 0=60*a0:=by simp [ctl,sm,cw,bin];omega
 have e1:ctl [a0,a1] 1=60*a0+60*a1:=by simp [ctl,sm,cw,bin];omega
 generalize ctl [a0,a1] 0=b0 at*;generalize ctl [a0,a1] 1=b1 at*;clear h;have f0:60*a0=1*b0:=by omega
 have f1:60*a1= -1*b0+1*b1:=by omega
 clear e0 e1;have g0:(a0.natAbs:Int)≤1048576*o:=by omega
 have g1:(a1.natAbs:Int)≤2097152*o:=by omega
 clear h0 h1 f0 f1;simp only [nrm];generalize a0.natAbs=m0 at*;generalize a1.natAbs=m1 at*;omega
theorem Zmo {o a0 a1 a2:Int} (ho:0≤o) (h: ∀j,j<3→((ctl [a0,a1,a2] j).natAbs:Int)≤62914560*o):(nrm [a0,a1,a2]:Int)≤9437184*o:=by
 have h0:=Qc9 (h 0 (by decide));have h1:=Qc9 (h 1 (by decide));have h2:=Qc9 (h 2 (by decide));have e0:ctl [a0,a1,a2] 0=60*a0:=by simp [ctl,sm,cw,bin];omega
 have e1:ctl [a0,a1,a2] 1=60*a0+30*a1:=by simp [ctl,sm,cw,bin];omega
 have e2:ctl [a0,a1,a2] 2=60*a0+60*a1+60*a2:=by simp [ctl,sm,cw,bin];omega
 generalize ctl [a0,a1,a2] 0=b0 at*;generalize ctl [a0,a1,a2] 1=b1 at*;generalize ctl [a0,a1,a2] 2=b2 at*;clear h;have f0:60*a0=1*b0:=by omega
 have f1:30*a1= -1*b0+1*b1:=by omega
 have f2:60*a2=1*b0+ -2*b1+1*b2:=by omega
 clear e0 e1 e2;have g0:(a0.natAbs:Int)≤1048576*o:=by omega
 have g1:(a1.natAbs:Int)≤4194304*o:=by omega
 have g2:(a2.natAbs:Int)≤4194304*o:=by omega
 clear h0 h1 h2 f0 f1 f2;simp only [nrm];generalize a0.natAbs=m0 at*;generalize a1.natAbs=m1 at*;generalize a2.natAbs=m2 at*;omega
theorem Zmp {o a0 a1 a2 a3:Int} (ho:0≤o) (h: ∀j,j<4→((ctl [a0,a1,a2,a3] j).natAbs:Int)≤62914560*o):(nrm [a0,a1,a2,a3]:Int)≤28311552*o:=by
 have h0:=Qc9 (h 0 (by decide));have h1:=Qc9 (h 1 (by decide));have h2:=Qc9 (h 2 (by decide));have h3:=Qc9 (h 3 (by decide));have e0:ctl [a0,a1,a2,a3] 0=60*a0:=by simp [ctl,sm,cw,bin];omega
 have e1:ctl [a0,a1,a2,a3] 1=60*a0+20*a1:=by simp [ctl,sm,cw,bin];omega
 have e2:ctl [a0,a1,a2,a3] 2=60*a0+40*a1+20*a2:=by simp [ctl,sm,cw,bin];omega
 have e3:ctl [a0,a1,a2,a3] 3=60*a0+60*a1+60*a2+60*a3:=by simp [ctl,sm,cw,bin];omega
 generalize ctl [a0,a1,a2,a3] 0=b0 at*;generalize ctl [a0,a1,a2,a3] 1=b1 at*;generalize ctl [a0,a1,a2,a3] 2=b2 at*;generalize ctl [a0,a1,a2,a3] 3=b3 at*;clear h;have f0:60*a0=1*b0:=by omega
 have f1:20*a1= -1*b0+1*b1:=by omega
 have f2:20*a2=1*b0+ -2*b1+1*b2:=by omega
 have f3:60*a3= -1*b0+3*b1+ -3*b2+1*b3:=by omega
 clear e0 e1 e2 e3;have g0:(a0.natAbs:Int)≤1048576*o:=by omega
 have g1:(a1.natAbs:Int)≤6291456*o:=by omega
 have g2:(a2.natAbs:Int)≤12582912*o:=by omega
 have g3:(a3.natAbs:Int)≤8388608*o:=by omega
 clear h0 h1 h2 h3 f0 f1 f2 f3;simp only [nrm];generalize a0.natAbs=m0 at*;generalize a1.natAbs=m1 at*;generalize a2.natAbs=m2 at*;generalize a3.natAbs=m3 at*;omega
theorem Zmq {o a0 a1 a2 a3 a4:Int} (ho:0≤o) (h: ∀j,j<5→((ctl [a0,a1,a2,a3,a4] j).natAbs:Int)≤62914560*o):(nrm [a0,a1,a2,a3,a4]:Int)≤84934656*o:=by
 have h0:=Qc9 (h 0 (by decide));have h1:=Qc9 (h 1 (by decide));have h2:=Qc9 (h 2 (by decide));have h3:=Qc9 (h 3 (by decide));have h4:=Qc9 (h 4 (by decide));have e0:ctl [a0,a1,a2,a3,a4] 0=60*a0:=by simp [ctl,sm,cw,bin];omega
 have e1:ctl [a0,a1,a2,a3,a4] 1=60*a0+15*a1:=by simp [ctl,sm,cw,bin];omega
 have e2:ctl [a0,a1,a2,a3,a4] 2=60*a0+30*a1+10*a2:=by simp [ctl,sm,cw,bin];omega
 have e3:ctl [a0,a1,a2,a3,a4] 3=60*a0+45*a1+30*a2+15*a3:=by simp [ctl,sm,cw,bin];omega
 have e4:ctl [a0,a1,a2,a3,a4] 4=60*a0+60*a1+60*a2+60*a3+60*a4:=by simp [ctl,sm,cw,bin];omega
 generalize ctl [a0,a1,a2,a3,a4] 0=b0 at*;generalize ctl [a0,a1,a2,a3,a4] 1=b1 at*;generalize ctl [a0,a1,a2,a3,a4] 2=b2 at*;generalize ctl [a0,a1,a2,a3,a4] 3=b3 at*;generalize ctl [a0,a1,a2,a3,a4] 4=b4 at*;clear h;have f0:60*a0=1*b0:=by omega
 have f1:15*a1= -1*b0+1*b1:=by omega
 have f2:10*a2=1*b0+ -2*b1+1*b2:=by omega
 have f3:15*a3= -1*b0+3*b1+ -3*b2+1*b3:=by omega
 have f4:60*a4=1*b0+ -4*b1+6*b2+ -4*b3+1*b4:=by omega
 clear e0 e1 e2 e3 e4;have g0:(a0.natAbs:Int)≤1048576*o:=by omega
 have g1:(a1.natAbs:Int)≤8388608*o:=by omega
 have g2:(a2.natAbs:Int)≤25165824*o:=by omega
 have g3:(a3.natAbs:Int)≤33554432*o:=by omega
 have g4:(a4.natAbs:Int)≤16777216*o:=by omega
 clear h0 h1 h2 h3 h4 f0 f1 f2 f3 f4;simp only [nrm];generalize a0.natAbs=m0 at*;generalize a1.natAbs=m1 at*;generalize a2.natAbs=m2 at*;generalize a3.natAbs=m3 at*;generalize a4.natAbs=m4 at*;omega
theorem Zmr {o a0 a1 a2 a3 a4 a5:Int} (ho:0≤o) (h: ∀j,j<6→((ctl [a0,a1,a2,a3,a4,a5] j).natAbs:Int)≤62914560*o):(nrm [a0,a1,a2,a3,a4,a5]:Int)≤254803968*o:=by
 have h0:=Qc9 (h 0 (by decide));have h1:=Qc9 (h 1 (by decide));have h2:=Qc9 (h 2 (by decide));have h3:=Qc9 (h 3 (by decide));have h4:=Qc9 (h 4 (by decide));have h5:=Qc9 (h 5 (by decide));have e0:ctl [a0,a1,a2,a3,a4,a5] 0=60*a0:=by simp [ctl,sm,cw,bin];omega
 have e1:ctl [a0,a1,a2,a3,a4,a5] 1=60*a0+12*a1:=by simp [ctl,sm,cw,bin];omega
 have e2:ctl [a0,a1,a2,a3,a4,a5] 2=60*a0+24*a1+6*a2:=by simp [ctl,sm,cw,bin];omega
 have e3:ctl [a0,a1,a2,a3,a4,a5] 3=60*a0+36*a1+18*a2+6*a3:=by simp [ctl,sm,cw,bin];omega
 have e4:ctl [a0,a1,a2,a3,a4,a5] 4=60*a0+48*a1+36*a2+24*a3+12*a4:=by simp [ctl,sm,cw,bin];omega
 have e5:ctl [a0,a1,a2,a3,a4,a5] 5=60*a0+60*a1+60*a2+60*a3+60*a4+60*a5:=by simp [ctl,sm,cw,bin];omega
 generalize ctl [a0,a1,a2,a3,a4,a5] 0=b0 at*;generalize ctl [a0,a1,a2,a3,a4,a5] 1=b1 at*;generalize ctl [a0,a1,a2,a3,a4,a5] 2=b2 at*;generalize ctl [a0,a1,a2,a3,a4,a5] 3=b3 at*;generalize ctl [a0,a1,a2,a3,a4,a5] 4=b4 at*;generalize ctl [a0,a1,a2,a3,a4,a5] 5=b5 at*;clear h;have f0:60*a0=1*b0:=by omega
 have f1:12*a1= -1*b0+1*b1:=by omega
 have f2:6*a2=1*b0+ -2*b1+1*b2:=by omega
 have f3:6*a3= -1*b0+3*b1+ -3*b2+1*b3:=by omega
 have f4:12*a4=1*b0+ -4*b1+6*b2+ -4*b3+1*b4:=by omega
 have f5:60*a5= -1*b0+5*b1+ -10*b2+10*b3+ -5*b4+1*b5:=by omega
 clear e0 e1 e2 e3 e4 e5;have g0:(a0.natAbs:Int)≤1048576*o:=by omega
 have g1:(a1.natAbs:Int)≤10485760*o:=by omega
 have g2:(a2.natAbs:Int)≤41943040*o:=by omega
 have g3:(a3.natAbs:Int)≤83886080*o:=by omega
 have g4:(a4.natAbs:Int)≤83886080*o:=by omega
 have g5:(a5.natAbs:Int)≤33554432*o:=by omega
 clear h0 h1 h2 h3 h4 h5 f0 f1 f2 f3 f4 f5;simp only [nrm];generalize a0.natAbs=m0 at*;generalize a1.natAbs=m1 at*;generalize a2.natAbs=m2 at*;generalize a3.natAbs=m3 at*;generalize a4.natAbs=m4 at*;generalize a5.natAbs=m5 at*;omega
theorem Zk3 {c:List Int} {o:Int} (h:axOK c o=true) (ho:0≤o):(nrm c:Int)≤254803968*o:=by
 obtain⟨h1,h6, -,hb⟩:=Qca h;have hj:=Q5t hb;clear hb h
 match c,h1,h6,hj with
 | [a0],_,_,hj=>exact Int.le_trans (Zmm ho hj) (by omega)
 | [a0,a1],_,_,hj=>exact Int.le_trans (Zmn ho hj) (by omega)
 | [a0,a1,a2],_,_,hj=>exact Int.le_trans (Zmo ho hj) (by omega)
 | [a0,a1,a2,a3],_,_,hj=>exact Int.le_trans (Zmp ho hj) (by omega)
 | [a0,a1,a2,a3,a4],_,_,hj=>exact Int.le_trans (Zmq ho hj) (by omega)
 | [a0,a1,a2,a3,a4,a5],_,_,hj=>exact Int.le_trans (Zmr ho hj) (by omega)
 |_::_::_::_::_::_::_::_,_,h6,_=>simp at h6
theorem Qik (g:Nat) (c:List Int):gcdL g c∣g∧ ∀x∈c,gcdL g c∣x.natAbs:=by
 induction c generalizing g with
 |nil=>exact⟨Nat.dvd_refl _,fun _ h=>nomatch h⟩
 |cons y c ih=>
  obtain⟨h1,h2⟩:=ih (Nat.gcd g y.natAbs);refine⟨Nat.dvd_trans h1 (Nat.gcd_dvd_left _ _),fun x hx=> ?_⟩;cases hx with
  |head=>exact Nat.dvd_trans h1 (Nat.gcd_dvd_right _ _)
  |tail _ h=>exact h2 x h
theorem Qsd (L:Nat→List Int) (o:Int):(mdG L o 3:Int)∣o∧ ∀i,i<3→ ∀x∈L i,(mdG L o 3:Int)∣x:=by
 have d3:=Qik (mdG L o 2) (L 2);have d2:=Qik (mdG L o 1) (L 1);have d1:=Qik (mdG L o 0) (L 0);have a1:mdG L o 3∣mdG L o 1:=Nat.dvd_trans d3.1 d2.1;refine⟨Int.dvd_natAbs.1 (Int.natCast_dvd_natCast.2 (Nat.dvd_trans a1 d1.1)),fun i hi x hx=>Int.dvd_natAbs.1 (Int.natCast_dvd_natCast.2 ?_)⟩;rcases(show i=0∨i=1∨i=2 by omega)with rfl|rfl|rfl
 ·exact Nat.dvd_trans a1 (d1.2 x hx)
 ·exact Nat.dvd_trans d3.1 (d2.2 x hx)
 ·exact d3.2 x hx
theorem Zsi {L:Nat→List Int} {o:Int} (ho:0<o) (hf:Qi1 L o=true) {i:Nat} (hi:i<3) {x:Int} (hx:x∈L i) {K:Int} (hK:(x.natAbs:Int)≤K*o) (h0:0≤K):((x/(mdG L o 3:Int)).natAbs:Int)≤K*4294967296:=by
 obtain⟨h1,h2⟩:=Qsd L o;have h3:=h2 i hi x hx;have hg:=Qla (L:=L) ho 3;have hO:mdO L o≤4294967296:=of_decide_eq_true hf;unfold mdO at hO;generalize mdG L o 3=G at*;have e1:x.natAbs=(x/(G:Int)).natAbs*G:=by
  have:=congrArg Int.natAbs (Int.ediv_mul_cancel h3);rw [Int.natAbs_mul,Int.natAbs_natCast]at this;exact this.symm
 have e2:o/(G:Int)*G=o:=Int.ediv_mul_cancel h1;rw [e1,←e2,Int.natCast_mul,←Int.mul_assoc]at hK;have h4:=Int.le_of_mul_le_mul_right hK (show(0:Int)<(G:Int)by omega);exact Int.le_trans h4 (Int.mul_le_mul_of_nonneg_left hO h0)
def ptL (s:Sg) (a b:Int):Nat→List Int:=cmpL s (a-s.f) (b-a) (s.t-s.f)
def ptO (s:Sg):Int:=s.o*(s.t-s.f)^5
theorem Qho (s:Sg) (i:Nat) (h:i<3):s.ax.getD i []∈s.ax:=by
 rcases(show i=0∨i=1∨i=2 by omega)with rfl|rfl|rfl<;>simp [Sg.ax]
theorem Zsj {s:Sg} {a b:Int} (hv:Qa1 s=true) (h1:s.f≤a) (h2:a≤b) (h3:b≤s.t) (i:Nat) (hi:i<3):(nrm (ptL s a b i):Int)≤254803968*ptO s:=by
 obtain⟨⟨v1,v2,v3,v4,v5⟩,hax, -⟩:=Qav hv;have hm:=Qho s i hi;have ha:=hax _ hm;have hn:=Zk3 ha (by omega);obtain⟨l1,l6, -, -⟩:=Qca ha;have hk:=Zdc (s.ax.getD i []) (a-s.f) (b-a) (s.t-s.f) l6 l1 (by omega) (by omega);have e:ptL s a b i=cmpC (s.ax.getD i []) (a-s.f) (b-a) (s.t-s.f):=rfl;rw [e];unfold ptO;generalize nrm (cmpC (s.ax.getD i []) (a-s.f) (b-a) (s.t-s.f))=X at*;generalize nrm (s.ax.getD i [])=Y at*;have hD:((s.t-s.f).natAbs:Int)=s.t-s.f:=by omega
 have hk':(X:Int)≤(s.t-s.f)^5*(Y:Int):=by
  have:=Int.ofNat_le.2 hk
  rwa [Int.natCast_mul,Int.natCast_pow,hD]at this
 have hp:0≤(s.t-s.f)^5:=Int.pow_nonneg (by omega);refine Int.le_trans hk' (Int.le_trans (Int.mul_le_mul_of_nonneg_left hn hp) ?_);rw [Int.mul_left_comm,Int.mul_comm s.o];exact Int.le_refl _
end Go.Dg

namespace Go.Proofs.YtlghoaggenhheaaGreat
open Go.Vl Go.RowKit Go.Dg
def noSg:PV:= .agg [.int .i64 0,.int .i64 0,.int .i64 0,.nilS,.nilS,.nilS]
attribute [go_sem] noSg
theorem Zsq (L:Nat→List Int) (i:Nat) (h:i<3):([.slc ((L 0).map rI),.slc ((L 1).map rI),.slc ((L 2).map rI)]:List PV)[i]? =some (.slc ((L i).map rI)):=by
 rcases(show i=0∨i=1∨i=2 by omega)with rfl|rfl|rfl<;>rfl
def rmA (C:Nat→List Int) (i:Nat):List PV:=(List.range i).map fun m=>Qan (C m)
theorem Zdk (C:Nat→List Int) (i:Nat):rmA C (i+1)=rmA C i++[.slc ((C i).map (PV.int .i64))]:=by simp [rmA,List.range_succ,Qan]
theorem Zm6 (C:Nat→List Int) (i:Nat):(rmA C i).length=i:=by simp [rmA]
theorem Zsr (C:Nat→List Int) (i:Nat):((rmA C i).flatMap PV.cells).all PV.okCell=true:=by
 unfold rmA;rw [List.all_flatMap,List.all_map,List.all_eq_true];intro _ _;rfl
theorem Zv5 (C:Nat→List Int):rmA C 3=[.slc ((C 0).map (PV.int .i64)),.slc ((C 1).map (PV.int .i64)),.slc ((C 2).map (PV.int .i64))]:=rfl
set_option maxHeartbeats 4000000 in
theorem Zdl (f t:Int) (L:Nat→List Int) (o:Int) (B:Nat) (hB:B≤60000) (ho:0<o) (hob:o.natAbs<2^B) (hL: ∀i,i<3→bd B (L i)) (hl: ∀i,i<3→(L i).length≤100)
  (hq:Qi1 L o=true→ ∀i,i<3→ ∀x∈L i,(x/(mdG L o 3:Int)).natAbs≤4611686018427387904):
  Qae Tryz.prog 51 [.int .i64 f,.int .i64 t,.slc [rL (L 0),rL (L 1),rL (L 2)],rI o]
   (if Qi1 L o=true then .tup [sgPV (Qdm f t L o),.bool true]else .tup [sgPV ⟨0,0,0,[],[],[]⟩,.bool false]):=by
 have hG:=Q57 hob hL;have hGp:=Qla (L:=L) ho;have hO0:((mdG L o 0:Nat):Int)=o:=by show((o.natAbs:Nat):Int)=o;omega
 have o3:=Qdg 4294967296 (by decide) (by decide);have hg3:((mdG L o 3:Nat):Int).natAbs<2^B:=by rw [Int.natAbs_natCast];exact hG 3 (by decide)
 have qO:=Q0d (Qbk hob (by omega)) (Qbk hg3 (by omega)) (show((mdG L o 3:Nat):Int)≠0 by have:=hGp 3;omega);have hOe:o/((mdG L o 3:Nat):Int)=mdO L o:=rfl;rw [hOe]at qO;have hOb:(mdO L o).natAbs<2^(B+1):=Q0a hob (by have:=hGp 3;omega);have cmO:=Qff (Qbk hOb (by omega)) (Qbk (show(4294967296:Int).natAbs<2^64 by decide) (by decide));refine Qab (tb:=[]) 93 [.cell 8 28,.tmp 9] [0,1,2,3,7,8,9,10,11,12,13,14,15,16,20,39,42,51,73] mixed Tryz.func51 rfl (by kernel_rfl) ?_;repeat simp -implicitDefEqProofs only [go_sem,seval,rL,rI,di]
 refine Qaq mixed (fun i:{i:Nat // i≤3}=>St.of [(0,.int .i64 f),(1,.int .i64 t),(2,.slc [rL (L 0),rL (L 1),rL (L 2)]),(7,.bp 0 2 0 0),(8,.bp 1 6 0 0),(10,.bp 101 2 0 0),(11,.int .i64 (i.1:Int))]
  [(0,{els:=[rI o],esz:=2,ety:=59,fro:=0,live:=true,arr:=false}),(1,{els:=[noSg],esz:=6,ety:=28,fro:=0,live:=true,arr:=false}),(101,{els:=[rI ((mdG L o i.1:Nat):Int)],esz:=2,ety:=59,fro:=0,live:=true,arr:=false})]) (fun i=>3-i.1) ⟨0,Nat.zero_le _⟩ ?_ ?_
 ·refine Qaj (θ:=[(0,0),(1,1),(101,101)]) rfl ?_ ?_
  ·simp [Qac,lkp,ren1,ren0,Qao,rL]
  ·refine⟨⟨rfl,rfl,rfl,rfl,rfl,.inr ⟨rfl,_,_,rfl,rfl,rfl,rfl⟩⟩,⟨rfl,rfl,rfl,rfl,rfl,.inr ⟨rfl,_,_,rfl,rfl,rfl,rfl⟩⟩,⟨rfl,rfl,rfl,rfl,rfl,.inr ⟨rfl,_,_,rfl,rfl,?_,rfl⟩⟩,trivial⟩;simp only [hO0];rfl
 ·rintro⟨i,hi⟩;by_cases hA:i<3
  ·have hA':((i:Int)<3)=True:=eq_true (by omega);have hA2:=ltT hA;have n0:=nnT i;have hx:=Zsq L i hA;have hwk:=Qah (a:=i) (by omega);have hc:=Q1w (L i) B (by omega) (hL i hA) (by have:=hl i hA;omega);have x1:((mdG L o i:Nat):Int).natAbs<2^B:=by rw [Int.natAbs_natCast];exact hG i (by omega)
   have x2:((gcdL 0 (L i):Nat):Int).natAbs<2^B:=by rw [Int.natAbs_natCast];exact Qes _ (Nat.two_pow_pos B) fun x hx=>hL i hA x hx
   have m:=Qu4 (Qbk x1 (by omega)) (Qbk x2 (by omega));rw [Int.natAbs_natCast,Int.natAbs_natCast,Qug]at m;have hGs:mdG L o (i+1)=gcdL (mdG L o i) (L i):=rfl;rw [←hGs]at m;generalize hX:mdG L o (i+1)=X at*;generalize mdG L o i=Y0 at*;generalize gcdL 0 (L i)=Y1 at*;generalize hC:L i=c at*;repeat (first|simp -implicitDefEqProofs only [go_sem,seval,rL,rI,di,hA',n0,hx,hwk,Int.toNat_natCast]|(with_reducible refine Qaa hc ?_ ?_ ?_);rfl;rfl|(with_reducible refine Qaa m ?_ ?_ ?_);rfl;rfl|(with_reducible refine And.intro (Qad _ _ (by kernel_rfl)) ?_))
   refine⟨⟨i+1,hA⟩,by simp only;omega,Qaj (θ:=[(0,0),(1,1),(101,101)]) rfl ?_ ?_⟩
   ·simp [Qac,lkp,ren1,ren0,Qao,rL]
   ·simp only [hX];exact⟨⟨rfl,rfl,rfl,rfl,rfl,.inr ⟨rfl,_,_,rfl,rfl,rfl,rfl⟩⟩,⟨rfl,rfl,rfl,rfl,rfl,.inr ⟨rfl,_,_,rfl,rfl,rfl,rfl⟩⟩,⟨rfl,rfl,rfl,rfl,rfl,.inr ⟨rfl,_,_,rfl,rfl,rfl,rfl⟩⟩,trivial⟩
  ·have hA':((i:Int)<3)=False:=eq_false (by omega);obtain rfl:i=3:=by omega
   simp only;by_cases hf:mdO L o≤4294967296
   case neg=>
    have hF:Qi1 L o=false:=decide_eq_false hf;have hs:((0:Int)<(mdO L o-4294967296).sign)=True:=eq_true (Int.sign_pos_iff.2 (by omega));rw [hF];generalize mdO L o=OO at*;generalize ((mdG L o 3:Nat):Int)=G at*;repeat (first|simp -implicitDefEqProofs only [go_sem,seval,rL,rI,di,hs,Bool.false_eq_true,List.map_nil]|(with_reducible refine Qaa qO ?_ ?_ ?_);rfl;rfl|(with_reducible refine Qaa o3 ?_ ?_ ?_);rfl;rfl|(with_reducible refine Qaa cmO ?_ ?_ ?_);rfl;rfl|(with_reducible exact Qad _ _ (by kernel_rfl)))
   have hF:Qi1 L o=true:=decide_eq_true hf;have hs:((0:Int)<(mdO L o-4294967296).sign)=False:=eq_false (by have:=Int.sign_nonpos_iff.2 (show mdO L o-4294967296≤0 by omega);omega);have hO1:0≤mdO L o:=Int.ediv_nonneg (by omega) (by omega);have wi:=Zk6 (mdO L o) (by omega);rw [hF];have hqq:=hq hF;have hqs: ∀i,i<3→ ∀x∈L i,Qae Tryz.prog 91 [rI x,rI ((mdG L o 3:Nat):Int)] (.tup [rI (x/((mdG L o 3:Nat):Int)),rI (x%((mdG L o 3:Nat):Int))]):=fun i h x hx=>Q0d (Qbk (hL i h x hx) (by omega)) (Qbk hg3 (by omega)) (by have:=hGp 3;omega);have hCd: ∀i,mdC L o i=mkC ((mdG L o 3:Nat):Int) (L i):=fun _=>rfl;rw [if_pos rfl];have hmade:Qdm f t L o=⟨f,t,mdO L o,mdC L o 0,mdC L o 1,mdC L o 2⟩:=rfl;rw [hmade];generalize mdO L o=OO at*;generalize mdC L o=C at*;generalize ((mdG L o 3:Nat):Int)=G at*;have hs':=hs;clear hO0 hOe hGp hG ho hob hO1 hOb hs hF hf hq hmade;repeat (first|simp -implicitDefEqProofs only [go_sem,seval,rL,rI,di,hs']|(with_reducible refine Qaa qO ?_ ?_ ?_);rfl;rfl|(with_reducible refine Qaa o3 ?_ ?_ ?_);rfl;rfl|(with_reducible refine Qaa cmO ?_ ?_ ?_);rfl;rfl|(with_reducible refine And.intro (Qad _ _ (by kernel_rfl)) ?_))
   refine Qaq mixed (fun i:{i:Nat // i≤3}=>St.of [(0,.int .i64 f),(1,.int .i64 t),(2,.slc [rL (L 0),rL (L 1),rL (L 2)]),(7,.bp 0 2 0 0),(8,.bp 1 6 0 0),(10,.bp 101 2 0 0),(12,.bs 7 1 0 i.1),(13,.int .i64 (i.1:Int))]
    ((0,{els:=[rI OO],esz:=2,ety:=59,fro:=0,live:=true,arr:=false})::(1,{els:=[noSg],esz:=6,ety:=28,fro:=0,live:=true,arr:=false})::(101,{els:=[rI G],esz:=2,ety:=59,fro:=0,live:=true,arr:=false})::(7,{els:=rmA C i.1,esz:=1,ety:=26,fro:=0,live:=true,arr:=true})::[])) (fun i=>3-i.1) ⟨0,Nat.zero_le _⟩ ?_ ?_
   ·refine Qci 12 7 1 26 rfl rfl rfl (by decide) [(0,0),(1,1),(101,101),(7,7)] rfl ?_ ?_
    ·simp [Qac,lkp,ren1,ren0,Qao,rL]
    ·exact⟨⟨rfl,rfl,rfl,rfl,rfl,.inr ⟨rfl,_,_,rfl,rfl,rfl,rfl⟩⟩,⟨rfl,rfl,rfl,rfl,rfl,.inr ⟨rfl,_,_,rfl,rfl,rfl,rfl⟩⟩,⟨rfl,rfl,rfl,rfl,rfl,.inr ⟨rfl,_,_,rfl,rfl,rfl,rfl⟩⟩,⟨rfl,rfl,rfl,rfl,rfl,.inl ⟨rfl,rfl⟩⟩,trivial⟩
   ·rintro⟨i,hi⟩;by_cases hA:i<3
    ·have hA':((i:Int)<3)=True:=eq_true (by omega);have hli:=hl i hA;have hqi:=hqq i hA;have hqsi:=hqs i hA;have hCi:=hCd i;have n0:=nnT i;have hx:=Zsq L i hA;have hwk3:=Qah (a:=i) (by omega);have a1:=Zm6 C i;have a2:=Zsr C i;have a3:=Zdk C i;have a4:((i+1)*24≤140737488355328)=True:=eq_true (by omega);have a5:(i+1≤maxLen)=True:=eq_true (by unfold maxLen;omega);generalize rmA C i=A0 at*;generalize hLc:L i=c at*;repeat simp -implicitDefEqProofs only [go_sem,seval,rL,rI,di,hA']
     refine Qaq mixed (fun k:{k:Nat // k≤c.length}=>St.of [(0,.int .i64 f),(1,.int .i64 t),(2,.slc [rL (L 0),rL (L 1),rL (L 2)]),(7,.bp 0 2 0 0),(8,.bp 1 6 0 0),(10,.bp 101 2 0 0),(12,.bs 7 1 0 i),(13,.int .i64 (i:Int)),(14,.bs 8 1 0 k.1),(15,.int .i64 (k.1:Int))]
      [(0,{els:=[rI OO],esz:=2,ety:=59,fro:=0,live:=true,arr:=false}),(1,{els:=[noSg],esz:=6,ety:=28,fro:=0,live:=true,arr:=false}),(101,{els:=[rI G],esz:=2,ety:=59,fro:=0,live:=true,arr:=false}),(7,{els:=A0,esz:=1,ety:=26,fro:=0,live:=true,arr:=true}),(8,{els:=(c.take k.1).map (fun x=>PV.int .i64 (x/G)),esz:=1,ety:=3,fro:=0,live:=true,arr:=true})]) (fun k=>c.length-k.1) ⟨0,Nat.zero_le _⟩ ?_ ?_
     ·refine Qci 14 8 1 iT rfl rfl rfl (by decide) [(0,0),(1,1),(101,101),(7,7),(8,8)] rfl ?_ ?_
      ·simp [Qac,lkp,ren1,ren0,Qao,rL]
      ·exact⟨⟨rfl,rfl,rfl,rfl,rfl,.inr ⟨rfl,_,_,rfl,rfl,rfl,rfl⟩⟩,⟨rfl,rfl,rfl,rfl,rfl,.inr ⟨rfl,_,_,rfl,rfl,rfl,rfl⟩⟩,⟨rfl,rfl,rfl,rfl,rfl,.inr ⟨rfl,_,_,rfl,rfl,rfl,rfl⟩⟩,⟨rfl,rfl,rfl,rfl,rfl,.inl ⟨rfl,rfl⟩⟩,⟨rfl,rfl,rfl,rfl,rfl,.inl ⟨rfl,rfl⟩⟩,trivial⟩
     ·rintro⟨k,hk⟩;by_cases hB':k<c.length
      ·have hB2:=ltT hB';have n1:=nnT k;have hgk:=Ql3 c k hB';have hwk2:=Qah (a:=k) (by omega);have q1:=hqsi _ (List.getElem_mem hB');have q3:=Zk6 (c[k]/G) (hqi _ (List.getElem_mem hB'));have hts:(c.take (k+1)).map (fun x=>PV.int .i64 (x/G))=(c.take k).map (fun x=>PV.int .i64 (x/G))++[PV.int .i64 (c[k]/G)]:=by rw [Qbe c k hB',List.map_append];rfl
       have hlt:((c.take k).map (fun x=>PV.int .i64 (x/G))).length=k:=by rw [List.length_map,List.length_take];omega
       have hok:(((c.take k).map (fun x=>PV.int .i64 (x/G))).flatMap PV.cells).all PV.okCell=true:=by have:=Qeu ((c.take k).map (· /G));rwa [List.map_map]at this
       have k8:((k+1)*8≤140737488355328)=True:=eq_true (by omega);have kM:(k+1≤maxLen)=True:=eq_true (by unfold maxLen;omega);generalize hX:c[k]/G=X at*;generalize c[k]%G=X2 at*;generalize hT:(c.take k).map (fun x=>PV.int .i64 (x/G))=T at*;repeat (first|simp -implicitDefEqProofs only [go_sem,seval,rL,rI,di,hx,n0,hB2,n1,hgk,hwk2,hlt,hok,k8,kM,Int.toNat_natCast,List.length_map]|(with_reducible refine Qaa q1 ?_ ?_ ?_);rfl;rfl|(with_reducible refine Qaa q3 ?_ ?_ ?_);rfl;rfl|(with_reducible refine And.intro (Qad _ _ (by kernel_rfl)) ?_))
       refine⟨⟨k+1,hB'⟩,by simp only;omega,Qaj (θ:=[(0,0),(1,1),(101,101),(7,7),(8,1804)]) rfl ?_ ?_⟩
       ·simp [Qac,lkp,ren1,ren0,Qao,rL]
       ·simp only [hts];exact⟨⟨rfl,rfl,rfl,rfl,rfl,.inr ⟨rfl,_,_,rfl,rfl,rfl,rfl⟩⟩,⟨rfl,rfl,rfl,rfl,rfl,.inr ⟨rfl,_,_,rfl,rfl,rfl,rfl⟩⟩,⟨rfl,rfl,rfl,rfl,rfl,.inr ⟨rfl,_,_,rfl,rfl,rfl,rfl⟩⟩,⟨rfl,rfl,rfl,rfl,rfl,.inl ⟨rfl,rfl⟩⟩,⟨rfl,rfl,rfl,rfl,rfl,.inl ⟨rfl,rfl⟩⟩,trivial⟩
      ·have hB2:=ltF hB';obtain rfl:k=c.length:=by omega
       by_cases hc0:c=[]
       ·subst hc0;have hC0:C i=[0]:=by rw [hCi];rfl
        rw [hC0]at a3;repeat simp -implicitDefEqProofs only [go_sem,seval,rL,rI,di,hx,n0,a1,a2,a4,a5,hwk3,List.length_nil,List.map_nil,List.take_nil,Int.toNat_natCast]
        refine⟨⟨i+1,hA⟩,by simp only;omega,Qaj (θ:=[(0,0),(1,1),(101,101),(7,2103)]) rfl ?_ ?_⟩
        ·simp [Qac,lkp,ren1,ren0,Qao]
        ·simp only [a3];exact⟨⟨rfl,rfl,rfl,rfl,rfl,.inr ⟨rfl,_,_,rfl,rfl,rfl,rfl⟩⟩,⟨rfl,rfl,rfl,rfl,rfl,.inr ⟨rfl,_,_,rfl,rfl,rfl,rfl⟩⟩,⟨rfl,rfl,rfl,rfl,rfl,.inr ⟨rfl,_,_,rfl,rfl,rfl,rfl⟩⟩,⟨rfl,rfl,rfl,rfl,rfl,.inl ⟨rfl,rfl⟩⟩,trivial⟩
       ·have hC1:C i=c.map (· /G):=by rw [hCi];exact if_neg hc0
        have hz:((c.length:Int)==0)=false:=by have:=List.length_pos_iff.2 hc0;simp;omega
        have hC2:(c.take c.length).map (fun x=>PV.int .i64 (x/G))=(C i).map (PV.int .i64):=by rw [hC1,List.map_map,List.take_length];rfl
        have hC3:(C i).length=c.length:=by rw [hC1,List.length_map]
        have hC4:((C i).map (PV.int .i64)).take c.length=(C i).map (PV.int .i64):=List.take_of_length_le (by rw [List.length_map];omega);have hC5:=Qeu (C i);rw [hC2];repeat simp -implicitDefEqProofs only [go_sem,seval,rL,rI,di,hx,n0,a1,a2,a4,a5,hC3,hC4,hB2,hwk3,hz,Int.toNat_natCast,List.length_map]
        refine⟨⟨i+1,hA⟩,by simp only;omega,Qaj (θ:=[(0,0),(1,1),(101,101),(7,2103)]) rfl ?_ ?_⟩
        ·simp [Qac,lkp,ren1,ren0,Qao]
        ·simp only [a3];exact⟨⟨rfl,rfl,rfl,rfl,rfl,.inr ⟨rfl,_,_,rfl,rfl,rfl,rfl⟩⟩,⟨rfl,rfl,rfl,rfl,rfl,.inr ⟨rfl,_,_,rfl,rfl,rfl,rfl⟩⟩,⟨rfl,rfl,rfl,rfl,rfl,.inr ⟨rfl,_,_,rfl,rfl,rfl,rfl⟩⟩,⟨rfl,rfl,rfl,rfl,rfl,.inl ⟨rfl,rfl⟩⟩,trivial⟩
    ·have hA':((i:Int)<3)=False:=eq_false (by omega);obtain rfl:i=3:=by omega
     have hok: ∀m,((((C m).map (PV.int .i64)).flatMap PV.cells).all PV.okCell)=true:=fun m=>Qeu (C m);have g0:([.slc ((C 0).map (PV.int .i64)),.slc ((C 1).map (PV.int .i64)),.slc ((C 2).map (PV.int .i64))]:List PV)[0]? =some (.slc ((C 0).map (PV.int .i64))):=rfl;have g1:([.slc ((C 0).map (PV.int .i64)),.slc ((C 1).map (PV.int .i64)),.slc ((C 2).map (PV.int .i64))]:List PV)[1]? =some (.slc ((C 1).map (PV.int .i64))):=rfl;have g2:([.slc ((C 0).map (PV.int .i64)),.slc ((C 1).map (PV.int .i64)),.slc ((C 2).map (PV.int .i64))]:List PV)[2]? =some (.slc ((C 2).map (PV.int .i64))):=rfl;repeat (first|simp -implicitDefEqProofs only [go_sem,seval,rI,di,Zv5,g0,g1,g2]|(with_reducible refine Qaa wi ?_ ?_ ?_);rfl;rfl|(with_reducible exact Qad _ _ (by kernel_rfl)))
     trace_state
end Go.Proofs.YtlghoaggenhheaaGreat

namespace Go.Vl
open Go.RowKit
theorem Qwo {P:Program} {tb:Tab} {f:FuncId} {fn:Func} {c:Code} {cap:List PV} {outs:List (List PV)} (nt:Nat) (ks:List Nat) (hm:P.follows .mixedOrders=true) (hf:P.funcs[f]? =some fn) (hb:fn.body=some c)
  (hc:callable P f=true) (hnt:fn.ntmps=nt) (hrs:fn.results.toList=[]) (hn:Nat.ble (cap.length+1) nt=true)
  (h: ∀l stop,go P tb nt ks [.code c] (Qp9 outs stop) (St.ofG (Qcz 0 (.yld l stop::cap)) [] [] (some (l,stop,outs)))):Qmr P f cap outs:=
 Zcf nt hf hb hc hnt hrs hn fun l stop=>Qcw (tb:=tb) (ks:=ks) hm c _ _ (by
  have h:=h l stop;simp only [go]at h;have:(fun e s=>gleave P tb nt ks [] (Qp9 outs stop) e s)=Qp9 outs stop:=by funext e s;simp only [gleave]
  rwa [this]at h)
theorem Zku {P:Program} {tb:Tab} {nt:Nat} {ks:List Nat} {K:List It} {Q:Exit→St→Prop} (hm:P.follows .mixedOrders=true) {vs0:List (Nat×PV)} {bs0:List (Nat×Box)} {o0:List (List PV)} {g:Operand} {ps:Array Tmp} {assign body:Code} {f:FuncId} {cap xs:List PV} {es:List Eff} {la:Acc} {outs:List (List PV)}
  (hs:Qmr P f xs outs) (hg:(St.ofG vs0 bs0 o0 none).ev g=some (.fn f [] cap)) (he:Qf6 cap (lkp bs0)=some ((xs,es),la))
  (bs1:List (Nat×Box)) (he1:Qap es (St.ofG vs0 bs0 o0 none)=St.ofG vs0 bs1 o0 none)
  (θ:List (Nat×Nat)) (N:List Nat) (hN:(N.all fun b=>Nat.ble LENT b)=true) (vs:List (Nat×PV)) (B:Nat→List (Nat×Box))
  (hκ:Qd1 θ=true) (hall:(θ.all fun p=>(lkp (B 0) p.1).isSome)=true) (hv:Qac θ vs0 vs) (hb:Qcv θ bs1 (B 0)) (hvN:Qac (Qt3 N) vs vs)
  (stop:Nat) (jump:Exit) (hjump:stop<outs.length→(Qwn jump).isSome=true) (hBN: ∀k,k≤outs.length→k≤stop+1→ ∀b∈N,(lkp (B k) b).isSome=true)
  (hps: ∀(k:Nat) (args:List PV),outs[k]? =some args→args.length=ps.size) (hpt:(ps.toList.all fun t=>Nat.blt t nt)=true)
  (hbody: ∀(k:Nat) (args:List PV),outs[k]? =some args→k≤stop→go P tb nt ks [.code assign,.again fun s=>(∀b∈N,(s.box b).isSome=true)∧go P tb nt ks [.code body] (vround B stop jump k) s] (fun _ _=>False) (St.ofG (pvars ps.toList args vs) (B k) [[]] (some (0,0,[]))))
  (θF:List (Nat×Nat)) (vsF:List (Nat×PV)) (bsF:List (Nat×Box)) (hκF:Qd1 θF=true) (hallF:(θF.all fun p=>(lkp bsF p.1).isSome&&Nat.blt p.1 LENT)=true) (hvF:Qac θF vs vsF)
  (hbF:Qcv θF (B (min outs.length (stop+1))) bsF)
  (hQ1:outs.length≤stop→go P tb nt ks K Q (St.ofG vsF bsF o0 none)) (hQ2:stop<outs.length→gleave P tb nt ks K Q jump (St.ofG vsF bsF o0 none)):go P tb nt ks (.code (.rangeFunc g ps assign body)::K) Q (St.ofG vs0 bs0 o0 none):=by
 simp only [go,vx];refine Qt4 hg he hs bs1 he1 θ N hN vs B hκ hall hv hb hvN stop jump hjump hBN hps hpt (fun j args h1 h2=> ?_) θF vsF bsF hκF hallF hvF hbF ?_
 ·have h:=hbody j args h1 h2;simp only [go]at h;refine Qf1 (Qcw hm _ _ _ h) ?_;intro e s q;cases e with
  |normal=>
   simp only [gleave]at q;refine⟨q.1,Qcw (tb:=tb) (ks:=ks) hm _ _ _ ?_⟩;have h2:=q.2;exact h2
  |_=>simp only [gleave]at q
 ·by_cases hl:outs.length≤stop
  ·rw [if_pos hl,Qdz];exact hQ1 hl
  ·rw [if_neg hl];exact hQ2 (by omega)
theorem Qt5 {P:Program} {tb:Tab} {nt:Nat} {ks:List Nat} {K:List It} {Q:Exit→St→Prop} (hm:P.follows .mixedOrders=true) {vs0:List (Nat×PV)} {bs0:List (Nat×Box)} {o0:List (List PV)} {g:Operand} {ps:Array Tmp} {assign body:Code} {f:FuncId} {cap xs:List PV} {es:List Eff} {la:Acc} {outs:List (List PV)}
  (hs:Qmr P f xs outs) (hg:(St.ofG vs0 bs0 o0 none).ev g=some (.fn f [] cap)) (he:Qf6 cap (lkp bs0)=some ((xs,es),la))
  (bs1:List (Nat×Box)) (he1:Qap es (St.ofG vs0 bs0 o0 none)=St.ofG vs0 bs1 o0 none)
  (θ:List (Nat×Nat)) (N:List Nat) (hN:(N.all fun b=>Nat.ble LENT b)=true) (vs:List (Nat×PV)) (B:Nat→List (Nat×Box))
  (hκ:Qd1 θ=true) (hall:(θ.all fun p=>(lkp (B 0) p.1).isSome)=true) (hv:Qac θ vs0 vs) (hb:Qal θ bs1 (B 0)) (hvN:Qac (Qt3 N) vs vs)
  (stop:Nat) (jump:Exit) (hjump:stop<outs.length→(Qwn jump).isSome=true) (hBN: ∀k,k≤outs.length→k≤stop+1→ ∀b∈N,(lkp (B k) b).isSome=true)
  (hps: ∀(k:Nat) (args:List PV),outs[k]? =some args→args.length=ps.size) (hpt:(ps.toList.all fun t=>Nat.blt t nt)=true)
  (hbody: ∀(k:Nat) (args:List PV),outs[k]? =some args→k≤stop→go P tb nt ks [.code assign,.again fun s=>(∀b∈N,(s.box b).isSome=true)∧go P tb nt ks [.code body] (vround B stop jump k) s] (fun _ _=>False) (St.ofG (pvars ps.toList args vs) (B k) [[]] (some (0,0,[]))))
  (θF:List (Nat×Nat)) (vsF:List (Nat×PV)) (bsF:List (Nat×Box)) (hκF:Qd1 θF=true) (hallF:(θF.all fun p=>(lkp bsF p.1).isSome&&Nat.blt p.1 LENT)=true) (hvF:Qac θF vs vsF)
  (hbF:Qal θF (B (min outs.length (stop+1))) bsF)
  (hQ1:outs.length≤stop→go P tb nt ks K Q (St.ofG vsF bsF o0 none)) (hQ2:stop<outs.length→gleave P tb nt ks K Q jump (St.ofG vsF bsF o0 none)):go P tb nt ks (.code (.rangeFunc g ps assign body)::K) Q (St.ofG vs0 bs0 o0 none):=
 Zku hm hs hg he bs1 he1 θ N hN vs B hκ hall hv hb.toD hvN stop jump hjump hBN hps hpt hbody θF vsF bsF hκF hallF hvF hbF.toD hQ1 hQ2
theorem Zvp {P:Program} {tb:Tab} {nt:Nat} {ks:List Nat} (K:List It) (Q:Exit→St→Prop) (st:St):gleave P tb nt ks K Q .ret st=Q .ret st:=Qgm K Q st
theorem Zx5 {a b:Int} [Decidable (a<b)]:(if a<b then b else a)=max a b:=by split<;>omega
theorem Zx6 {a b:Int} [Decidable (a<b)]:(if a<b then a else b)=min b a:=by split<;>omega
theorem Qy8 {P:Program} {tb:Tab} {nt:Nat} {ks:List Nat} {ops:Array Oper} {base i:Nat} {rest:List Oper} {accs:List Acc} {draw:Bool} {k:List It} {Q:Exit→St→Prop} (vs:List (Nat×PV)) (bs:List (Nat×Box)) (o:List (List PV)) (y:Yl) (dst:Option Tmp) (n stop:Nat) (args:List PV) (l:Acc):
  gout P tb nt ks (some (.yield n stop args [],l)) ops base i dst rest accs draw k Q (St.ofG vs bs o y)=
  (yOk y n stop o args∧gops P tb nt ks ops base (i+1) rest ((l++[(YID,true)])::accs) draw k Q ((St.ofG vs bs (o++[args]) y).put dst (.bool (decide (o.length<stop))))):=by
 rw [Qrq];simp only [Qcj,List.map_nil,List.append_nil];rfl
attribute [go_sem 10000] Qy8
theorem Zkv (n stop n' stop':Nat) (outs o:List (List PV)) (args:List PV):yOk (some (n',stop',outs)) n stop o args=(n=n'∧stop=stop'∧o.length≤stop∧outs[o.length]? =some args):=rfl
attribute [go_sem] Zkv
end Go.Vl

namespace Go.Dg
theorem Q5u {s:Sg} (hv:Qa1 s=true):0<ptO s:=by
 obtain⟨⟨v1,v2,v3,v4,v5⟩, -, -⟩:=Qav hv;exact Int.mul_pos (by omega) (Int.pow_pos (by omega))
theorem Zsk {s:Sg} {a b:Int} (hv:Qa1 s=true) (h1:s.f≤a) (h2:a≤b) (h3:b≤s.t) (hf:Qi1 (ptL s a b) (ptO s)=true):
  ∀i,i<3→ ∀x∈ptL s a b i,(x/(mdG (ptL s a b) (ptO s) 3:Int)).natAbs≤4611686018427387904:=by
 intro i hi x hx;have h:=Zsj hv h1 h2 h3 i hi;have h4:=Q5r hx;have h5:=Zsi (Q5u hv) hf hi hx (K:=254803968) (by omega) (by decide);omega
def ptS (s:Sg) (a b:Int):Sg:=Qdm a b (ptL s a b) (ptO s)
def ptF (s:Sg) (a b:Int):Bool:=Qi1 (ptL s a b) (ptO s)
def spans:List Sg→Int→Int→List (Sg×Int×Int)
 | [],_,_=>[]
 |s::r,f,t=>if max f s.f≥min t s.t then spans r f t else(s,max f s.f,min t s.t)::spans r f t
def spF (x:Sg×Int×Int):Bool:=ptF x.1 x.2.1 x.2.2
def spS (x:Sg×Int×Int):Sg:=ptS x.1 x.2.1 x.2.2
theorem Qhp (p q:List Sg) (f t:Int):spans (p++q) f t=spans p f t++spans q f t:=by
 induction p with
 |nil=>rfl
 |cons x p ih=>simp only [List.cons_append,spans,ih];split<;>rfl
theorem Q1t (p:List Sg) (s:Sg) (f t:Int):spans (p++[s]) f t=spans p f t++(if max f s.f≥min t s.t then []else [(s,max f s.f,min t s.t)]):=by
 rw [Qhp];simp only [spans]
theorem Qui (p:List Sg) (f t:Int):(spans p f t).length≤p.length:=by
 induction p with
 |nil=>exact Nat.le_refl _
 |cons x p ih=>
  simp only [spans];split
  ·simp only [List.length_cons];omega
  ·simp only [List.length_cons];omega
end Go.Dg

namespace Go.Proofs.YtlghoaggenhheaaGreat
open Go.Vl Go.RowKit Go.Dg
attribute [go_sem] Zx5 Zx6
theorem Zm7 (l:List Int) (hl:l.length≤1000) (hb: ∀x∈l,i64 x):Qae Tryz.prog 48 [Qan l] (rL (Qas l)):=by
 refine Qab (tb:=[]) 21 [.tmp 2] [0,2,3,4,8] mixed Tryz.func48 rfl (by kernel_rfl) ?_;simp -implicitDefEqProofs only [go_sem,seval,Qan];refine Qaq mixed (fun i:{i:Nat // i≤l.length}=>St.of [(0,Qan l),(3,.bs 7 2 0 i.1),(4,.int .i64 (i.1:Int))]
  [(7,{els:=(l.take i.1).map rI,esz:=2,ety:=59,fro:=0,live:=true,arr:=true})]) (fun i=>l.length-i.1) ⟨0,Nat.zero_le _⟩ ?_ ?_
 ·refine Qci 3 7 2 59 rfl rfl rfl (by decide) [(7,7)] rfl ?_ ?_
  ·simp [Qac,lkp,ren1,ren0,Qan]
  ·simp [Qal,lkp,Box.renames]
 ·rintro⟨i,hi⟩;have hlen:((l.take i).map rI).length=i:=by simp;omega
  by_cases hA:i<l.length
  ·have hA':=ltT hA;have h0:=nnT i;have hg:=Qbz l i hA;have hwk:=Qah (a:=i) (by omega);have q1:(i==i)=true:=beq_self_eq_true i;have q2:((i+1)*32≤140737488355328)=True:=by simp only [eq_iff_iff,iff_true];omega
   have q3:(i+1≤maxLen)=True:=by simp only [eq_iff_iff,iff_true];unfold maxLen;omega
   obtain⟨b1,b2⟩:=hb _ (List.getElem_mem hA);have hf:=Qdg l[i] b1 b2;have htk:=map_take rI l i hA;repeat (first|simp -implicitDefEqProofs only [go_sem,seval,Qan,rI,di,hA',h0,hg,Int.toNat_natCast,List.length_map,hlen,q1,q2,q3,Qom,hwk]|(with_reducible refine Qaa hf ?_ ?_ ?_);rfl;rfl)
   refine⟨⟨i+1,hA⟩,by simp only;omega,Qaj (θ:=[(7,507)]) rfl ?_ ?_⟩
   ·simp [Qac,lkp,ren1,ren0,Qan]
   ·simp only [htk];simp [Qal,lkp,Box.renames,rI,di]
  ·have hA':=ltF hA;have e1:((l.take i).map rI).take i=l.map rI:=by rw [List.take_of_length_le (by omega),List.take_of_length_le (show l.length≤i by omega)]
   have ht:=Qio l (by omega);unfold rL at ht ⊢;repeat (first|simp -implicitDefEqProofs only [go_sem,seval,Qan,hA',hlen,e1,List.length_map]|(with_reducible refine Qaa ht ?_ ?_ ?_);rfl;rfl)
theorem Zv6 (s:Sg) (i:Nat) (h:i<3):([.slc (s.x.map (PV.int .i64)),.slc (s.y.map (PV.int .i64)),.slc (s.z.map (PV.int .i64))]:List PV)[i]? =some (.slc ((s.ax.getD i []).map (PV.int .i64))):=by
 rcases(show i=0∨i=1∨i=2 by omega)with rfl|rfl|rfl<;>rfl
def rpA (L:Nat→List Int) (i:Nat):List PV:=(List.range i).map fun m=>rL (L m)
theorem Zdm (L:Nat→List Int) (i:Nat):rpA L (i+1)=rpA L i++[.slc ((L i).map rI)]:=by simp [rpA,List.range_succ,rL]
theorem Q59 (L:Nat→List Int) (i:Nat):(rpA L i).length=i:=by simp [rpA]
theorem Zss (L:Nat→List Int) (i:Nat):((rpA L i).flatMap PV.cells).all PV.okCell=true:=by
 unfold rpA;rw [List.all_flatMap,List.all_map,List.all_eq_true];intro _ _;rfl
theorem Zv7 (L:Nat→List Int):(rpA L 3).take 3=[.slc ((L 0).map rI),.slc ((L 1).map rI),.slc ((L 2).map rI)]:=rfl
theorem Zk9 {s:Sg} (hs:okSg s) (hd:i64 (s.t-s.f)):(ptO s).natAbs<2^12000:=by
 exact Qd4 (C:=12000) (Qhu (Qay hs.o) (Qoe (Qay hd) 5)) (by decide)
theorem Zst {s:Sg} {a b:Int} (hs:okSg s) (hv:Qa1 s=true) (h1:i64 (a-s.f)) (h2:i64 (b-a)) (h3:i64 (s.t-s.f)): ∀i,i<3→bd 12000 (ptL s a b i)∧(ptL s a b i).length≤6:=by
 intro i hi;have hm:=Qho s i hi;obtain⟨l1,l6, -, -⟩:=Qca ((Qav hv).2.1 _ hm);exact⟨(Qun l6 (fun x hx=>Qay (hs.c _ hm x hx)) (Qay h1) (Qay h2) (Qay h3)).2,Qxc l6⟩
theorem Qdr (l:List Sg):(((l.map sgPV).flatMap PV.cells).all PV.okCell)=true:=by
 rw [List.all_flatMap,List.all_map,List.all_eq_true];intro _ _;rfl
def ptSS (s:Sg) (a b:Int):Sg:=if ptF s a b=true then ptS s a b else⟨a,b,0,[],[],[]⟩
def spO (x:Sg×Int×Int):List PV:=[sgPV (ptSS x.1 x.2.1 x.2.2),.bool (spF x)]
def Qd0 (p:List Sg) (f t:Int):List (List PV):=(spans p f t).map spO
theorem Zdo (p:List Sg) (f t:Int):Qae Tryz.prog 95 [Qam p,.int .i64 f,.int .i64 t] (.fn 124 [] [.rp [Qam p],.rp [.int .i64 f],.rp [.int .i64 t]]):=by
 refine Qab (tb:=[]) 8 [.tmp 6] [0,1,2,3,4,5,6] mixed Tryz.func95 rfl (by kernel_rfl) ?_;repeat simp -implicitDefEqProofs only [go_sem,seval,Qam]
theorem Q1y {p:List Sg} {f t:Int} {i:Nat} (hi:i<p.length):Qd0 (p.take (i+1)) f t=Qd0 (p.take i) f t++(if max f p[i].f≥min t p[i].t then []else [[sgPV (ptSS p[i] (max f p[i].f) (min t p[i].t)),.bool (ptF p[i] (max f p[i].f) (min t p[i].t))]]):=by
 unfold Qd0;rw [Qbe p i hi,Q1t,List.map_append];congr 1;split<;>rfl
theorem Q6d {p:List Sg} {f t:Int} {i:Nat} (hi:i<p.length) (h: ¬max f p[i].f≥min t p[i].t):(Qd0 p f t)[(Qd0 (p.take i) f t).length]? =some [sgPV (ptSS p[i] (max f p[i].f) (min t p[i].t)),.bool (ptF p[i] (max f p[i].f) (min t p[i].t))]:=by
 have e:Qd0 p f t=Qd0 (p.take i) f t++Qd0 (p.drop i) f t:=by
  unfold Qd0;rw [←List.map_append,←Qhp,List.take_append_drop]
 rw [e,List.getElem?_append_right (Nat.le_refl _),Nat.sub_self,List.drop_eq_getElem_cons hi];unfold Qd0;simp only [spans];rw [if_neg h];rfl
theorem Q1z {p:List Sg} {f t:Int} {i:Nat}:Qd0 (p.take i) f t=(Qd0 p f t).take (Qd0 (p.take i) f t).length:=by
 have e:Qd0 p f t=Qd0 (p.take i) f t++Qd0 (p.drop i) f t:=by
  unfold Qd0;rw [←List.map_append,←Qhp,List.take_append_drop]
 conv=>rhs;rw [e]
 rw [List.take_left'];rfl
theorem Zm8 (s:Sg) (a b:Int) (hs:okSg s) (hv:Qa1 s=true) (h1:s.f≤a) (h2:a<b) (h3:b≤s.t):
  Qae Tryz.prog 44 [.int .i64 a,.int .i64 b,.agg [wL (ptL s a b 0),wL (ptL s a b 1),wL (ptL s a b 2)],wPV (ptO s)] (.tup [sgPV (ptSS s a b),.bool (ptF s a b)]):=by
 obtain⟨⟨v1,v2,v3,v4,v5⟩,hax, -⟩:=Qav hv;have d1:i64 (a-s.f):=by unfold i64;omega
 have d2:i64 (b-a):=by unfold i64;omega
 have d3:i64 (s.t-s.f):=by unfold i64;omega
 have hbd:=Zst hs hv d1 d2 d3;have h:=Q58 a b (ptL s a b) (ptO s) 12000 (by decide) (Q5u hv) (Zk9 hs d3) (fun i hi=>(hbd i hi).1) (fun i hi=>by have:=(hbd i hi).2;omega) (Zsk hv h1 (by omega) h3);have e:(.tup [sgPV (ptSS s a b),.bool (ptF s a b)]:PV)=if Qi1 (ptL s a b) (ptO s)=true then .tup [sgPV (Qdm a b (ptL s a b) (ptO s)),.bool true]else .tup [sgPV ⟨a,b,0,[],[],[]⟩,.bool false]:=by
  unfold ptSS ptF ptS;cases Qi1 (ptL s a b) (ptO s)<;>rfl
 rw [e];exact h
set_option maxHeartbeats 4000000 in
theorem Q6e (p:List Sg) (f t:Int) (hp: ∀s∈p,okSg s) (hv: ∀s∈p,Qa1 s=true) (hl:p.length≤100000):Qmr Tryz.prog 124 [.rp [Qam p],.rp [.int .i64 f],.rp [.int .i64 t]] (Qd0 p f t):=by
 refine Qwo (tb:=[]) 62 [0,1,2,3,6,7,8,9,10,11,12,13,14,15,28,60] mixed Tryz.func124 rfl (by kernel_rfl) (by kernel_rfl) (by kernel_rfl) (by kernel_rfl) fun l stop=> ?_;repeat simp -implicitDefEqProofs only [go_sem,seval,Qam]
 refine Qaq mixed (fun i:{i:Nat // i≤p.length∧(Qd0 (p.take i) f t).length≤stop}=>St.ofG [(0,.yld l stop),(1,.rp [Qam p]),(2,.rp [.int .i64 f]),(3,.rp [.int .i64 t]),(12,Qam p),(13,.int .i64 (p.length:Int)),(14,.int .i64 (i.1:Int))] [] (Qd0 (p.take i.1) f t) (some (l,stop,Qd0 p f t))) (fun i=>p.length-i.1) ⟨0,Nat.zero_le _,Nat.zero_le _⟩ ?_ ?_
 ·refine Qaz ?_;simp [Qac,lkp,ren1,ren0,Qao,Qam]
 ·rintro⟨i,hi,hst⟩;simp only;by_cases hA:i<p.length
  ·have hA':=ltT hA;have n0:=nnT i;have hg:=Qbx p i hA;have hwk:=Qah (a:=i) (by omega);have hs:=hp _ (List.getElem_mem hA);have hvs:=hv _ (List.getElem_mem hA);have hsn:=Q1y (f:=f) (t:=t) hA;have hgt:=Q6d (f:=f) (t:=t) hA;have htk:=Q1z (p:=p) (f:=f) (t:=t) (i:=i+1);generalize hO:Qd0 (p.take i) f t=O at*;generalize hOO:Qd0 p f t=OO at*;generalize p[i]=s at*;by_cases hc:max f s.f≥min t s.t
   ·have hc':(min t s.t≤max f s.f)=True:=eq_true hc;rw [if_pos hc,List.append_nil]at hsn;repeat (first|simp -implicitDefEqProofs only [go_sem,seval,hA',n0,hg,hwk,hc',Int.toNat_natCast]|(with_reducible refine And.intro (Qad _ _ (by kernel_rfl)) ?_))
    refine⟨⟨i+1,hA,by rw [hsn];exact hst⟩,by simp only;omega,?_⟩;simp only [hsn];refine Qaz ?_;simp [Qac,lkp,ren1,ren0,Qao,Qam]
   ·have hc':(min t s.t≤max f s.f)=False:=eq_false hc;rw [if_neg hc]at hsn;have hgt:=hgt hc;have hmk:=Zm8 s (max f s.f) (min t s.t) hs hvs (by omega) (by omega) (by omega);obtain⟨⟨v1,v2,v3,v4,v5⟩,hax, -⟩:=Qav hvs;generalize hm1:max f s.f=a at*;generalize hm2:min t s.t=b at*;have d1:i64 (a-s.f):=by unfold i64;omega
    have d2:i64 (b-a):=by unfold i64;omega
    have d3:i64 (s.t-s.f):=by unfold i64;omega
    have w1:=Qai d1.1 d1.2;have w2:=Qai d2.1 d2.2;have w3:=Qai d3.1 d3.2;have f1:=Qqw s (a-s.f) (b-a) (s.t-s.f) hs (fun c hc=>(Qca (hax c hc)).2.1) d1 d2 d3 (by omega);have eL:cmpL s (a-s.f) (b-a) (s.t-s.f)=ptL s a b:=rfl;rw [eL]at f1;have f2:=Qfs s.o hs.o.1 hs.o.2;have f3:=Qdq (s.t-s.f) 5 64 d3.1 d3.2 (by decide) (by decide) (Qay d3);have hOl:=Zk9 hs d3;have eO:s.o*(s.t-s.f)^5=ptO s:=rfl;have f4:=Qhr (Qaw (Qay hs.o) (by decide)) (Qaw (Qoe (Qay d3) 5) (by decide)) (Qaw (show(s.o*(s.t-s.f)^5).natAbs<2^12000 from hOl) (by decide));rw [eO]at f4;generalize ptL s a b=L at*;generalize ptO s=PO at*;generalize ptSS s a b=X at*;generalize ptF s a b=F at*;unfold sgPV at f1 hgt hsn hmk;unfold wL at f1 hmk;clear eL eO hOl;have hst':(O.length≤stop)=True:=eq_true hst;by_cases hlt:O.length<stop
    case neg=>
     have hlt':(O.length<stop)=False:=eq_false hlt;have htk2:OO.take (stop+1)=O++[[.agg [.int .i64 X.f,.int .i64 X.t,.int .i64 X.o,.slc (X.x.map (PV.int .i64)),.slc (X.y.map (PV.int .i64)),.slc (X.z.map (PV.int .i64))],.bool F]]:=by
      have e:O.length=stop:=by omega
      have:=htk;rw [hsn,List.length_append,e]at this;exact this.symm
     repeat (first|simp -implicitDefEqProofs only [go_sem,seval,wPV,hA',n0,hg,hm1,hm2,hc',w1,w2,w3,hgt,hst',hlt',Qp9,htk2,Int.toNat_natCast]|(with_reducible refine Qaa f1 ?_ ?_ ?_);rfl;rfl|(with_reducible refine Qaa f2 ?_ ?_ ?_);rfl;rfl|(with_reducible refine Qaa f3 ?_ ?_ ?_);rfl;rfl|(with_reducible refine Qaa f4 ?_ ?_ ?_);rfl;rfl|(with_reducible refine Qaa hmk ?_ ?_ ?_);rfl;rfl|(with_reducible exact Qad _ _ (by kernel_rfl))|(with_reducible refine And.intro (Qad _ _ (by kernel_rfl)) ?_))
    have hlt':(O.length<stop)=True:=eq_true hlt;repeat (first|simp -implicitDefEqProofs only [go_sem,seval,hst',hlt',wPV,hA',n0,hg,hwk,hm1,hm2,hc',w1,w2,w3,hgt,Int.toNat_natCast]|(with_reducible refine Qaa f1 ?_ ?_ ?_);rfl;rfl|(with_reducible refine Qaa f2 ?_ ?_ ?_);rfl;rfl|(with_reducible refine Qaa f3 ?_ ?_ ?_);rfl;rfl|(with_reducible refine Qaa f4 ?_ ?_ ?_);rfl;rfl|(with_reducible refine Qaa hmk ?_ ?_ ?_);rfl;rfl|(with_reducible refine And.intro (Qad _ _ (by kernel_rfl)) ?_))
    refine⟨⟨i+1,hA,by rw [hsn,List.length_append];exact hlt⟩,by simp only;omega,?_⟩;simp only [hsn];refine Qaz ?_;simp [Qac,lkp,ren1,ren0,Qao,Qam]
  ·have hA':=ltF hA;have hO:Qd0 (p.take i) f t=Qd0 p f t:=by rw [List.take_of_length_le (by omega)]
   rw [hO]at hst ⊢;have ht:(Qd0 p f t).take (stop+1)=Qd0 p f t:=List.take_of_length_le (by omega);generalize Qd0 p f t=OO at*;repeat simp -implicitDefEqProofs only [go_sem,seval,hA',Qp9,ht]
def Qsm (S:List (Sg×Int×Int)):PV:=if S.all spF=true then .tup [Qam (S.map spS),.int .i64 0]else .tup [Qam [],.int .i64 7]
theorem Qna {x:Sg×Int×Int} (h:spF x=true):spO x=[sgPV (spS x),.bool true]:=by
 unfold spO ptSS;have h':ptF x.1 x.2.1 x.2.2=true:=h;rw [if_pos h',h];rfl
theorem Zm9 {x:Sg×Int×Int} (h:spF x=false):spO x=[sgPV ⟨x.2.1,x.2.2,0,[],[],[]⟩,.bool false]:=by
 unfold spO ptSS;have h': ¬ptF x.1 x.2.1 x.2.2=true:=by intro e;have:spF x=true:=e;rw [h]at this;cases this
 rw [if_neg h',h]
def cuB (S:List (Sg×Int×Int)):Nat→List (Nat×Box)
 |0=>[(1000000,{els:=[.nilS],esz:=1,ety:=23,fro:=0,live:=true,arr:=false}),(1000001,{els:=[.int .i64 0],esz:=1,ety:=30,fro:=0,live:=true,arr:=false})]
 |k+1=>[(1000000,{els:=[.bs 7 6 0 (k+1)],esz:=1,ety:=23,fro:=0,live:=true,arr:=false}),(1000001,{els:=[.int .i64 0],esz:=1,ety:=30,fro:=0,live:=true,arr:=false}),(7,{els:=((S.take (k+1)).map spS).map sgPV,esz:=6,ety:=28,fro:=0,live:=true,arr:=true})]
theorem Zna (S:List (Sg×Int×Int)) (k:Nat): ∀b∈ [1000000,1000001],(lkp (cuB S k) b).isSome=true:=by
 cases k<;>simp [cuB,lkp]
theorem Q6f {S:List (Sg×Int×Int)} {k:Nat} {x:Sg×Int×Int} (hx:S[k]? =some x):((S.take (k+1)).map spS).map sgPV=((S.take k).map spS).map sgPV++[.agg [.int .i64 (spS x).f,.int .i64 (spS x).t,.int .i64 (spS x).o,.slc ((spS x).x.map (PV.int .i64)),.slc ((spS x).y.map (PV.int .i64)),.slc ((spS x).z.map (PV.int .i64))]]:=by
 obtain⟨hk,rfl⟩:=List.getElem?_eq_some_iff.1 hx;rw [Qbe S k hk,List.map_append,List.map_append];rfl
theorem Q6g {S:List (Sg×Int×Int)} {k:Nat} (h:k≤S.length):(((S.take k).map spS).map sgPV).length=k:=by simp;omega
def cuC (S:List (Sg×Int×Int)) (m k:Nat):List (Nat×Box):=if k=m+1 then [(1000000,{els:=[.nilS],esz:=1,ety:=23,fro:=0,live:=true,arr:=false}),(1000001,{els:=[.int .i64 7],esz:=1,ety:=30,fro:=0,live:=true,arr:=false})]else cuB S k
set_option maxHeartbeats 2000000 in
theorem Zsv (p:List Sg) (f t:Int) (S:List (Sg×Int×Int)) (hS:S.length≤100000) (hY:Qmr Tryz.prog 124 [.rp [Qam p],.rp [.int .i64 f],.rp [.int .i64 t]] (S.map spO)):
  Qae Tryz.prog 56 [Qam p,.int .i64 f,.int .i64 t] (Qsm S):=by
 have h1:=Zdo p f t;unfold Qam at h1 hY;by_cases hn:S=[]
 ·subst hn;unfold Qsm Qam;refine Qab (tb:=[]) 23 [.cell 6 23,.cell 7 30] [0,1,2,6,7,8,9,13,14,15,17] mixed Tryz.func56 rfl (by kernel_rfl) ?_;repeat (first|simp -implicitDefEqProofs only [go_sem,seval]|(with_reducible refine Qaa h1 ?_ ?_ ?_);rfl;rfl)
  refine Qt5 mixed hY rfl rfl _ rfl [(1000000,0),(1000001,1)] [1000000,1000001] rfl [(6,.bp 1000000 1 0 0),(7,.bp 1000001 1 0 0)] (cuB []) rfl rfl ?_ ?_ ?_ 0 .normal (fun h=>by simp at h) (fun k _ _=>Zna [] k) (fun k args h=>by simp at h) rfl (fun k args h=>by simp at h)
   [(0,1000000),(1,1000001)] [(6,.bp 0 1 0 0),(7,.bp 1 1 0 0)] [(0,{els:=[.nilS],esz:=1,ety:=23,fro:=0,live:=true,arr:=false}),(1,{els:=[.int .i64 0],esz:=1,ety:=30,fro:=0,live:=true,arr:=false})] rfl rfl ?_ ?_ (fun _=> ?_) (fun h=>by simp at h)
  ·simp [Qac,lkp,ren1,ren0,Qao]
  ·exact⟨⟨rfl,rfl,rfl,rfl,rfl,.inr ⟨rfl,_,_,rfl,rfl,rfl,rfl⟩⟩,⟨rfl,rfl,rfl,rfl,rfl,.inr ⟨rfl,_,_,rfl,rfl,rfl,rfl⟩⟩,trivial⟩
  ·simp [Qac,lkp,ren1,ren0,Qao,Qt3]
  ·simp [Qac,lkp,ren1,ren0,Qao]
  ·exact⟨⟨rfl,rfl,rfl,rfl,rfl,.inr ⟨rfl,_,_,rfl,rfl,rfl,rfl⟩⟩,⟨rfl,rfl,rfl,rfl,rfl,.inr ⟨rfl,_,_,rfl,rfl,rfl,rfl⟩⟩,trivial⟩
  ·repeat simp -implicitDefEqProofs only [go_sem,seval,List.map_nil,List.all_nil,if_true]
 by_cases hall:S.all spF=true
 ·have hfine: ∀(k:Nat) (x:Sg×Int×Int),S[k]? =some x→spF x=true:=fun k x h=>List.all_eq_true.1 hall x (List.mem_of_getElem? h);unfold Qsm Qam;rw [if_pos hall];obtain⟨n,hn1⟩: ∃n,S.length=n+1:=⟨S.length-1,by have:=List.length_pos_iff.2 hn;omega⟩;have hmin:min (S.map spO).length (n+1+1)=n+1:=by rw [List.length_map];omega
  have htk:S.take (n+1)=S:=List.take_of_length_le (by omega);refine Qab (tb:=[]) 23 [.cell 6 23,.cell 7 30] [0,1,2,6,7,8,9,13,14,15,17] mixed Tryz.func56 rfl (by kernel_rfl) ?_;repeat (first|simp -implicitDefEqProofs only [go_sem,seval]|(with_reducible refine Qaa h1 ?_ ?_ ?_);rfl;rfl)
  refine Qt5 mixed hY rfl rfl _ rfl [(1000000,0),(1000001,1)] [1000000,1000001] rfl [(6,.bp 1000000 1 0 0),(7,.bp 1000001 1 0 0)] (cuB S) rfl rfl ?_ ?_ ?_ (n+1) .normal (fun h=>by simp [hn1]at h) (fun k _ _=>Zna S k) ?_ rfl ?_
   [(0,1000000),(1,1000001),(7,7)] [(6,.bp 0 1 0 0),(7,.bp 1 1 0 0)] [(0,{els:=[.bs 7 6 0 (n+1)],esz:=1,ety:=23,fro:=0,live:=true,arr:=false}),(1,{els:=[.int .i64 0],esz:=1,ety:=30,fro:=0,live:=true,arr:=false}),(7,{els:=(S.map spS).map sgPV,esz:=6,ety:=28,fro:=0,live:=true,arr:=true})] rfl rfl ?_ ?_ (fun _=> ?_) (fun h=>by simp [hn1]at h)
  ·simp [Qac,lkp,ren1,ren0,Qao]
  ·exact⟨⟨rfl,rfl,rfl,rfl,rfl,.inr ⟨rfl,_,_,rfl,rfl,rfl,rfl⟩⟩,⟨rfl,rfl,rfl,rfl,rfl,.inr ⟨rfl,_,_,rfl,rfl,rfl,rfl⟩⟩,trivial⟩
  ·simp [Qac,lkp,ren1,ren0,Qao,Qt3]
  ·intro k args h;simp only [List.getElem?_map,Option.map_eq_some_iff]at h;obtain⟨x, -,rfl⟩:=h;rfl
  ·rintro k args hka hk;simp only [List.getElem?_map,Option.map_eq_some_iff]at hka;obtain⟨x,hx,rfl⟩:=hka;have hkl:k<S.length:=(List.getElem?_eq_some_iff.1 hx).1;have hlx:=Q6f hx;cases k with
   |zero=>
    rw [Qna (hfine _ _ hx)]
    skip
    simp only [cuB];have e0:((S.take 0).map spS).map sgPV=[]:=rfl;rw [e0,List.nil_append]at hlx;repeat simp -implicitDefEqProofs only [go_sem,seval,pvars,List.toList_toArray,sgPV]
    refine⟨by simp [lkp],?_⟩;repeat simp -implicitDefEqProofs only [go_sem,seval]
    refine⟨by omega,?_⟩
    skip
    refine Qaj (θ:=[(1000000,1000000),(1000001,1000001),(7,603)]) rfl ?_ ?_
    ·simp [Qac,lkp,ren1,ren0,Qao]
    ·simp only [cuB,hlx];exact⟨⟨rfl,rfl,rfl,rfl,rfl,.inr ⟨rfl,_,_,rfl,rfl,rfl,rfl⟩⟩,⟨rfl,rfl,rfl,rfl,rfl,.inr ⟨rfl,_,_,rfl,rfl,rfl,rfl⟩⟩,⟨rfl,rfl,rfl,rfl,rfl,.inl ⟨rfl,rfl⟩⟩,trivial⟩
   |succ k=>
    rw [Qna (hfine _ _ hx)]
    skip
    simp only [cuB];have b1:=Q6g (S:=S) (k:=k+1) (by omega);have b2:((((S.take (k+1)).map spS).map sgPV).flatMap PV.cells).all PV.okCell=true:=Qdr _;have c1:((k+1+1)*96≤140737488355328)=True:=eq_true (by omega);have c2:(k+1+1≤maxLen)=True:=eq_true (by unfold maxLen;omega);generalize hT:((S.take (k+1)).map spS).map sgPV=T at*;repeat simp -implicitDefEqProofs only [go_sem,seval,pvars,List.toList_toArray,sgPV]
    refine⟨by simp [lkp],?_⟩;repeat simp -implicitDefEqProofs only [go_sem,seval,b1,b2,c1,c2]
    refine⟨by omega,?_⟩
    skip
    refine Qaj (θ:=[(1000000,1000000),(1000001,1000001),(7,603)]) rfl ?_ ?_
    ·simp [Qac,lkp,ren1,ren0,Qao]
    ·simp only [cuB,hlx];exact⟨⟨rfl,rfl,rfl,rfl,rfl,.inr ⟨rfl,_,_,rfl,rfl,rfl,rfl⟩⟩,⟨rfl,rfl,rfl,rfl,rfl,.inr ⟨rfl,_,_,rfl,rfl,rfl,rfl⟩⟩,⟨rfl,rfl,rfl,rfl,rfl,.inl ⟨rfl,rfl⟩⟩,trivial⟩
  ·simp [Qac,lkp,ren1,ren0,Qao]
  ·rw [hmin];simp only [cuB];rw [htk];exact⟨⟨rfl,rfl,rfl,rfl,rfl,.inr ⟨rfl,_,_,rfl,rfl,rfl,rfl⟩⟩,⟨rfl,rfl,rfl,rfl,rfl,.inr ⟨rfl,_,_,rfl,rfl,rfl,rfl⟩⟩,⟨rfl,rfl,rfl,rfl,rfl,.inl ⟨rfl,rfl⟩⟩,trivial⟩
  ·have b1:((S.map spS).map sgPV).length=n+1:=by simp [hn1]
   have b2:(((S.map spS).map sgPV).flatMap PV.cells).all PV.okCell=true:=Qdr _;have b3:((S.map spS).map sgPV).take (n+1)=(S.map spS).map sgPV:=List.take_of_length_le (by omega);generalize (S.map spS).map sgPV=T at*;repeat simp -implicitDefEqProofs only [go_sem,seval,b1,b3]
 ·obtain⟨m,hm,hbad,hf⟩: ∃m,∃h:m<S.length,spF S[m]=false∧ ∀k,k<m→ ∀x,S[k]? =some x→spF x=true:=by
   have hex: ∃x∈S,(!spF x)=true:=Classical.byContradiction fun h=>hall (List.all_eq_true.2 fun x hx=>by
    cases e:spF x with
    |true=>rfl
    |false=>exact(h ⟨x,hx,by rw [e];rfl⟩).elim)
   have hlt:=List.findIdx_lt_length_of_exists hex;refine⟨S.findIdx fun x=> !spF x,hlt,?_,fun k hk x hx=> ?_⟩
   ·have:=List.findIdx_getElem (w:=hlt);simpa using this
   ·obtain⟨hk2,rfl⟩:=List.getElem?_eq_some_iff.1 hx;have:=List.not_of_lt_findIdx hk;simpa using this
  have hB1: ∀k,k≤m→cuC S m k=cuB S k:=fun k h=>if_neg (by omega);have hB2:cuC S m (m+1)=[(1000000,{els:=[.nilS],esz:=1,ety:=23,fro:=0,live:=true,arr:=false}),(1000001,{els:=[.int .i64 7],esz:=1,ety:=30,fro:=0,live:=true,arr:=false})]:=if_pos rfl;have hN: ∀k,∀b∈ [1000000,1000001],(lkp (cuC S m k) b).isSome=true:=by
   intro k;by_cases h:k=m+1
   ·rw [h,hB2];simp [lkp]
   ·rw [show cuC S m k=cuB S k from if_neg h];exact Zna S k
  have hmin:min (S.map spO).length (m+1)=m+1:=by rw [List.length_map];omega
  have hC0:cuC S m 0=[(1000000,{els:=[.nilS],esz:=1,ety:=23,fro:=0,live:=true,arr:=false}),(1000001,{els:=[.int .i64 0],esz:=1,ety:=30,fro:=0,live:=true,arr:=false})]:=hB1 0 (Nat.zero_le _);unfold Qsm Qam;rw [if_neg hall];refine Qab (tb:=[]) 23 [.cell 6 23,.cell 7 30] [0,1,2,6,7,8,9,13,14,15,17] mixed Tryz.func56 rfl (by kernel_rfl) ?_;repeat (first|simp -implicitDefEqProofs only [go_sem,seval]|(with_reducible refine Qaa h1 ?_ ?_ ?_);rfl;rfl)
  refine Qt5 mixed hY rfl rfl _ rfl [(1000000,0),(1000001,1)] [1000000,1000001] rfl [(6,.bp 1000000 1 0 0),(7,.bp 1000001 1 0 0)] (cuC S m) rfl (by rw [hC0];rfl) ?_ ?_ ?_ m .ret (fun _=>rfl) (fun k _ _=>hN k) ?_ rfl ?_
   [(0,1000000),(1,1000001)] [(6,.bp 0 1 0 0),(7,.bp 1 1 0 0)] [(0,{els:=[.nilS],esz:=1,ety:=23,fro:=0,live:=true,arr:=false}),(1,{els:=[.int .i64 7],esz:=1,ety:=30,fro:=0,live:=true,arr:=false})] rfl rfl ?_ ?_ (fun h=>by rw [List.length_map]at h;omega) (fun _=> ?_)
  ·simp [Qac,lkp,ren1,ren0,Qao]
  ·rw [hC0];exact⟨⟨rfl,rfl,rfl,rfl,rfl,.inr ⟨rfl,_,_,rfl,rfl,rfl,rfl⟩⟩,⟨rfl,rfl,rfl,rfl,rfl,.inr ⟨rfl,_,_,rfl,rfl,rfl,rfl⟩⟩,trivial⟩
  ·simp [Qac,lkp,ren1,ren0,Qao,Qt3]
  ·intro k args h;simp only [List.getElem?_map,Option.map_eq_some_iff]at h;obtain⟨x, -,rfl⟩:=h;rfl
  ·rintro k args hka hk;simp only [List.getElem?_map,Option.map_eq_some_iff]at hka;obtain⟨x,hx,rfl⟩:=hka;by_cases hkm:k<m
   ·skip
    have hkl:k<S.length:=(List.getElem?_eq_some_iff.1 hx).1;have hlx:=Q6f hx;cases k with
    |zero=>
     rw [Qna (hf _ hkm x hx)];rw [hB1 _ (Nat.le_of_lt hkm)];simp only [cuB];have e0:((S.take 0).map spS).map sgPV=[]:=rfl;rw [e0,List.nil_append]at hlx;repeat simp -implicitDefEqProofs only [go_sem,seval,pvars,List.toList_toArray,sgPV]
     refine⟨by simp [lkp],?_⟩;repeat simp -implicitDefEqProofs only [go_sem,seval]
     refine⟨hkm,?_⟩;rw [hB1 _ (by omega)];refine Qaj (θ:=[(1000000,1000000),(1000001,1000001),(7,603)]) rfl ?_ ?_
     ·simp [Qac,lkp,ren1,ren0,Qao]
     ·simp only [cuB,hlx];exact⟨⟨rfl,rfl,rfl,rfl,rfl,.inr ⟨rfl,_,_,rfl,rfl,rfl,rfl⟩⟩,⟨rfl,rfl,rfl,rfl,rfl,.inr ⟨rfl,_,_,rfl,rfl,rfl,rfl⟩⟩,⟨rfl,rfl,rfl,rfl,rfl,.inl ⟨rfl,rfl⟩⟩,trivial⟩
    |succ k=>
     rw [Qna (hf _ hkm x hx)];rw [hB1 _ (Nat.le_of_lt hkm)];simp only [cuB];have b1:=Q6g (S:=S) (k:=k+1) (by omega);have b2:((((S.take (k+1)).map spS).map sgPV).flatMap PV.cells).all PV.okCell=true:=Qdr _;have c1:((k+1+1)*96≤140737488355328)=True:=eq_true (by omega);have c2:(k+1+1≤maxLen)=True:=eq_true (by unfold maxLen;omega);generalize hT:((S.take (k+1)).map spS).map sgPV=T at*;repeat simp -implicitDefEqProofs only [go_sem,seval,pvars,List.toList_toArray,sgPV]
     refine⟨by simp [lkp],?_⟩;repeat simp -implicitDefEqProofs only [go_sem,seval,b1,b2,c1,c2]
     refine⟨hkm,?_⟩;rw [hB1 _ (by omega)];refine Qaj (θ:=[(1000000,1000000),(1000001,1000001),(7,603)]) rfl ?_ ?_
     ·simp [Qac,lkp,ren1,ren0,Qao]
     ·simp only [cuB,hlx];exact⟨⟨rfl,rfl,rfl,rfl,rfl,.inr ⟨rfl,_,_,rfl,rfl,rfl,rfl⟩⟩,⟨rfl,rfl,rfl,rfl,rfl,.inr ⟨rfl,_,_,rfl,rfl,rfl,rfl⟩⟩,⟨rfl,rfl,rfl,rfl,rfl,.inl ⟨rfl,rfl⟩⟩,trivial⟩
   ·obtain rfl:k=m:=by omega
    have hxb:spF x=false:=by
     obtain⟨_,rfl⟩:=List.getElem?_eq_some_iff.1 hx;exact hbad
    rw [Zm9 hxb,hB1 _ (Nat.le_refl _)];cases k with
    |zero=>
     simp only [cuB];repeat simp -implicitDefEqProofs only [go_sem,seval,pvars,List.toList_toArray,sgPV]
     refine⟨by simp [lkp],?_⟩;repeat simp -implicitDefEqProofs only [go_sem,seval]
     refine⟨rfl,rfl,?_⟩;rw [hB2];refine Qaj (θ:=[(1000000,1000000),(1000001,1000001)]) rfl ?_ ?_
     ·simp [Qac,lkp,ren1,ren0,Qao]
     ·exact⟨⟨rfl,rfl,rfl,rfl,rfl,.inr ⟨rfl,_,_,rfl,rfl,rfl,rfl⟩⟩,⟨rfl,rfl,rfl,rfl,rfl,.inr ⟨rfl,_,_,rfl,rfl,rfl,rfl⟩⟩,trivial⟩
    |succ k=>
     simp only [cuB];generalize hT:((S.take (k+1)).map spS).map sgPV=T at*;repeat simp -implicitDefEqProofs only [go_sem,seval,pvars,List.toList_toArray,sgPV]
     refine⟨by simp [lkp],?_⟩;repeat simp -implicitDefEqProofs only [go_sem,seval]
     refine⟨rfl,rfl,?_⟩;rw [hB2];refine Qaj (θ:=[(1000000,1000000),(1000001,1000001)]) rfl ?_ ?_
     ·simp [Qac,lkp,ren1,ren0,Qao]
     ·exact⟨⟨rfl,rfl,rfl,rfl,rfl,.inr ⟨rfl,_,_,rfl,rfl,rfl,rfl⟩⟩,⟨rfl,rfl,rfl,rfl,rfl,.inr ⟨rfl,_,_,rfl,rfl,rfl,rfl⟩⟩,trivial⟩
  ·simp [Qac,lkp,ren1,ren0,Qao]
  ·rw [hmin,hB2];exact⟨⟨rfl,rfl,rfl,rfl,rfl,.inr ⟨rfl,_,_,rfl,rfl,rfl,rfl⟩⟩,⟨rfl,rfl,rfl,rfl,rfl,.inr ⟨rfl,_,_,rfl,rfl,rfl,rfl⟩⟩,trivial⟩
  ·rw [Zvp];repeat simp -implicitDefEqProofs only [go_sem,seval]
def Qqx (p:List Sg) (f t:Int):PV:=if Qa7 p=true then(if pBeg p≤f∧f<t∧t≤pEnd p then Qsm (spans p f t)else .tup [Qam [],.int .i64 3])else .tup [Qam [],.int .i64 2]
theorem Zdp (S:List (Sg×Int×Int)): ∃X n,Qsm S= .tup [Qam X,.int .i64 n]:=by
 unfold Qsm;split<;>exact⟨_,_,rfl⟩
theorem Qil {p:List Sg} (h:Qa7 p=true): ∀s∈p,Qa1 s=true:=by
 intro s hs;obtain⟨i,hi,rfl⟩:=List.getElem_of_mem hs;exact Qdp h i hi
theorem Zla (p:List Sg) (f t:Int) (hp: ∀s∈p,okSg s) (hl:p.length≤100000):Qae Tryz.prog 27 [Qam p,.int .i64 f,.int .i64 t] (Qqx p f t):=by
 have hs:=Qoi p hp (by omega);unfold Qqx;unfold Qam at hs;cases hV:Qa7 p with
 |false=>
  rw [hV]at hs;simp only [Bool.false_eq_true,if_false]at hs;unfold Qam;refine Qab (tb:=[]) 41 [.tmp 6,.tmp 7] [0,1,2,6,7,8,9,10,17,21] mixed Tryz.func27 rfl (by kernel_rfl) ?_;repeat (first|simp -implicitDefEqProofs only [go_sem,seval,Zd2,Bool.false_eq_true,if_false,List.map_nil]|(with_reducible refine Qaa hs ?_ ?_ ?_);rfl;rfl)
 |true=>
  rw [hV]at hs;simp only [if_true]at hs ⊢;have hv:=Qil hV;have hc:=Zsv p f t (spans p f t) (Nat.le_trans (Qui _ _ _) hl) (Q6e p f t hp hv hl);obtain⟨X,n,hX⟩:=Zdp (spans p f t);rw [hX]at hc ⊢;unfold Qam at hc ⊢;generalize pBeg p=A at*;generalize pEnd p=B at*;by_cases h1:A≤f
  ·have h1':(f<A)=False:=eq_false (by omega);by_cases h2:f<t
   ·have h2':(t≤f)=False:=eq_false (by omega);by_cases h3:t≤B
    ·have h3':(B<t)=False:=eq_false (by omega);rw [if_pos ⟨h1,h2,h3⟩];refine Qab (tb:=[]) 41 [.tmp 6,.tmp 7] [0,1,2,6,7,8,9,10,17,21] mixed Tryz.func27 rfl (by kernel_rfl) ?_;repeat (first|simp -implicitDefEqProofs only [go_sem,seval,Qmv,h1',h2',h3',decide_false]|(with_reducible refine Qaa hs ?_ ?_ ?_);rfl;rfl|(with_reducible refine Qaa hc ?_ ?_ ?_);rfl;rfl)
    ·have h3':(B<t)=True:=eq_true (by omega);rw [if_neg (by omega)];refine Qab (tb:=[]) 41 [.tmp 6,.tmp 7] [0,1,2,6,7,8,9,10,17,21] mixed Tryz.func27 rfl (by kernel_rfl) ?_;repeat (first|simp -implicitDefEqProofs only [go_sem,seval,Qmv,h1',h2',h3',decide_false,decide_true,List.map_nil]|(with_reducible refine Qaa hs ?_ ?_ ?_);rfl;rfl)
   ·have h2':(t≤f)=True:=eq_true (by omega);rw [if_neg (by omega)];refine Qab (tb:=[]) 41 [.tmp 6,.tmp 7] [0,1,2,6,7,8,9,10,17,21] mixed Tryz.func27 rfl (by kernel_rfl) ?_;repeat (first|simp -implicitDefEqProofs only [go_sem,seval,Qmv,h1',h2',decide_false,decide_true,List.map_nil]|(with_reducible refine Qaa hs ?_ ?_ ?_);rfl;rfl)
  ·have h1':(f<A)=True:=eq_true (by omega);rw [if_neg (by omega)];refine Qab (tb:=[]) 41 [.tmp 6,.tmp 7] [0,1,2,6,7,8,9,10,17,21] mixed Tryz.func27 rfl (by kernel_rfl) ?_;repeat (first|simp -implicitDefEqProofs only [go_sem,seval,Qmv,h1',decide_true,List.map_nil]|(with_reducible refine Qaa hs ?_ ?_ ?_);rfl;rfl)
theorem Zv8 (p:List Sg):Qae Tryz.prog 43 [Qam p] (.fn 71 [] [.rp [Qam p]]):=by
 refine Qab (tb:=[]) 4 [.tmp 2] [0,1,2] mixed Tryz.func43 rfl (by kernel_rfl) ?_;repeat simp -implicitDefEqProofs only [go_sem,seval,Qam]
def bwdO (p:List Sg) (j:Nat):List PV:=[.int .i64 ((p.length-1-j:Nat):Int),sgPV (p.getD (p.length-1-j) sg0)]
def Qe4 (p:List Sg):List (List PV):=(List.range p.length).map (bwdO p)
theorem Q10 {p:List Sg} {k:Nat} (h:k<p.length):(Qe4 p).take (k+1)=(Qe4 p).take k++[bwdO p k]:=by
 have hk:k<(Qe4 p).length:=by simp [Qe4,h]
 rw [Qbe _ k hk];simp [Qe4]
set_option maxHeartbeats 1000000 in
theorem Zsw (p:List Sg) (hl:p.length≤100000):Qmr Tryz.prog 71 [.rp [Qam p]] (Qe4 p):=by
 have w0:IntKind.i64.wrap ((p.length:Int)-1)=(p.length:Int)-1:=Qai (by omega) (by omega);refine Qwo (tb:=[]) 19 [0,1,3,8,18] mixed Tryz.func71 rfl (by kernel_rfl) (by kernel_rfl) (by kernel_rfl) (by kernel_rfl) fun l stop=> ?_;repeat simp -implicitDefEqProofs only [go_sem,seval,Qam,w0,List.length_map]
 refine Qaq mixed (fun k:{k:Nat // k≤p.length∧k≤stop}=>St.ofG [(0,.yld l stop),(1,.rp [Qam p]),(3,.int .i64 ((p.length:Int)-1-(k.1:Int)))] [] ((Qe4 p).take k.1) (some (l,stop,Qe4 p))) (fun k=>p.length-k.1) ⟨0,Nat.zero_le _,Nat.zero_le _⟩ ?_ ?_
 ·refine Qaz ?_;simp [Qac,lkp,ren1,ren0,Qao,Qam]
 ·rintro⟨k,hk,hst⟩;simp only;by_cases hA:k<p.length
  ·have e1:(p.length:Int)-1-(k:Int)=((p.length-1-k:Nat):Int):=by omega
   have n0:=nnT (p.length-1-k);have hi:p.length-1-k<p.length:=by omega
   have hg:=Qbx p (p.length-1-k) hi;have hgt:(Qe4 p)[((Qe4 p).take k).length]? =some (bwdO p k):=by
    have:((Qe4 p).take k).length=k:=by rw [List.length_take];simp [Qe4];omega
    rw [this];simp [Qe4,hA]
   have hlen:((Qe4 p).take k).length=k:=by rw [List.length_take];simp [Qe4];omega
   have hst':(k≤stop)=True:=eq_true hst;have htk:=Q10 hA;have hO:bwdO p k=[.int .i64 ((p.length-1-k:Nat):Int),sgPV p[p.length-1-k]]:=by unfold bwdO;rw [sgD hi]
   rw [hO]at hgt htk;unfold sgPV Qan at hgt htk;have w1:IntKind.i64.wrap (((p.length-1-k:Nat):Int)-1)=(p.length:Int)-1-((k+1:Nat):Int):=by rw [Qai (by omega) (by omega)];omega
   rw [hlen]at hgt;generalize p[p.length-1-k]=s at*;rw [e1];by_cases hlt:k<stop
   ·have hlt':(k<stop)=True:=eq_true hlt;repeat simp -implicitDefEqProofs only [go_sem,seval,n0,hg,hlen,hgt,hst',hlt',w1,Int.toNat_natCast]
    refine⟨⟨k+1,hA,hlt⟩,by simp only;omega,?_⟩;simp only [htk];refine Qaz ?_;simp [Qac,lkp,ren1,ren0,Qao,Qam]
   ·have hlt':(k<stop)=False:=eq_false hlt;have e:k=stop:=by omega
    subst e;repeat simp -implicitDefEqProofs only [go_sem,seval,n0,hg,hlen,hgt,hst',hlt',Qp9,htk,Int.toNat_natCast]
  ·have e1:(p.length:Int)-1-(k:Int)= -1:=by omega
   have ht:(Qe4 p).take (stop+1)=(Qe4 p).take k:=by
    rw [List.take_of_length_le (by simp [Qe4];omega),List.take_of_length_le (by simp [Qe4];omega)]
   rw [e1];repeat simp -implicitDefEqProofs only [go_sem,seval,Qp9,ht]
theorem Qsn (l:List Int):((l.map (PV.int .i64)).all fun e=>e.cells.length==1&&e.cells.all PV.okCell)=true:=by
 rw [List.all_map,List.all_eq_true];intro _ _;rfl
theorem Qxd (l:List Int) (hl:l≠ []) (hl2:l.length≤100000):Qae Tryz.prog 41 [Qan l] (Qan l):=by
 have h0:(l.map (PV.int .i64)).isEmpty=false:=by cases l with|nil=>exact absurd rfl hl|cons=>rfl
 have h1:(l.length*8≤140737488355328)=True:=eq_true (by omega);have h2:(l.length≤maxLen)=True:=eq_true (by unfold maxLen;omega);have h3:(l.map (PV.int .i64)).take l.length=l.map (PV.int .i64):=List.take_of_length_le (by simp);have h4:=Qeu l;refine Qab (tb:=[]) 8 [.tmp 2] [0,2,4] mixed Tryz.func41 rfl (by kernel_rfl) ?_;repeat simp -implicitDefEqProofs only [go_sem,seval,h0,List.length_map,h1,h2,h3,Qsn]
def okNe (p:List Sg):Prop:= ∀s∈p,∀c∈s.ax,c≠ []∧c.length≤100000
set_option maxHeartbeats 1000000 in
theorem Qxe (p:List Sg) (hl:p.length≤100000) (hne:okNe p):Qdb Tryz.prog 15 [Qam p] [] (.bs 7 6 0 p.length) [(7,{els:=p.map sgPV,esz:=6,ety:=28,fro:=0,live:=true,arr:=true})]:=by
 refine Qcn (tb:=[]) 30 [.tmp 2] [0,2,3,5,6,7,8,9] mixed Tryz.func15 rfl (by kernel_rfl) (by kernel_rfl) (by kernel_rfl) (by kernel_rfl) (by rfl) ?_;repeat simp -implicitDefEqProofs only [go_sem,seval,Qam,List.length_map]
 refine Qaq mixed (fun i:{i:Nat // i≤p.length}=>St.of [(3,.bs 7 6 0 i.1),(6,Qam p),(7,.int .i64 (p.length:Int)),(8,.int .i64 (i.1:Int))]
  [(7,{els:=(p.take i.1).map sgPV,esz:=6,ety:=28,fro:=0,live:=true,arr:=true})]) (fun i=>p.length-i.1) ⟨0,Nat.zero_le _⟩ ?_ ?_
 ·refine Qci 3 7 6 28 rfl rfl rfl (by decide) [(7,7)] rfl ?_ ?_
  ·simp [Qac,lkp,ren1,ren0,Qao,Qam]
  ·exact⟨⟨rfl,rfl,rfl,rfl,rfl,.inl ⟨rfl,rfl⟩⟩,trivial⟩
 ·rintro⟨i,hi⟩;by_cases hA:i<p.length
  ·have hA':=ltT hA;have n0:=nnT i;have hg:=Qbx p i hA;have hwk:=Qah (a:=i) (by omega);have hs:=hne _ (List.getElem_mem hA);have c1:=hs p[i].x (by simp [Sg.ax]);have c2:=hs p[i].y (by simp [Sg.ax]);have c3:=hs p[i].z (by simp [Sg.ax]);have f1:=Qxd _ c1.1 c1.2;have f2:=Qxd _ c2.1 c2.2;have f3:=Qxd _ c3.1 c3.2;have hlt:((p.take i).map sgPV).length=i:=by simp;omega
   have hok:=Qdr (p.take i);have k1:((i+1)*96≤140737488355328)=True:=eq_true (by omega);have k2:(i+1≤maxLen)=True:=eq_true (by unfold maxLen;omega);have hts:(p.take (i+1)).map sgPV=(p.take i).map sgPV++[sgPV p[i]]:=by rw [Qbe p i hA,List.map_append];rfl
   generalize (p.take i).map sgPV=T at*;generalize p[i]=s at*;repeat (first|simp -implicitDefEqProofs only [go_sem,seval,hA',n0,hg,hwk,hlt,hok,k1,k2,Int.toNat_natCast]|(with_reducible refine Qaa f1 ?_ ?_ ?_);rfl;rfl|(with_reducible refine Qaa f2 ?_ ?_ ?_);rfl;rfl|(with_reducible refine Qaa f3 ?_ ?_ ?_);rfl;rfl|(with_reducible refine And.intro (Qad _ _ (by kernel_rfl)) ?_))
   refine⟨⟨i+1,hA⟩,by simp only;omega,Qaj (θ:=[(7,603)]) rfl ?_ ?_⟩
   ·simp [Qac,lkp,ren1,ren0,Qao,Qam]
   ·simp only [hts];exact⟨⟨rfl,rfl,rfl,rfl,rfl,.inl ⟨rfl,rfl⟩⟩,trivial⟩
  ·have hA':=ltF hA;obtain rfl:i=p.length:=by omega
   have ht:p.take p.length=p:=List.take_length;simp only [ht];repeat simp -implicitDefEqProofs only [go_sem,seval,hA']
   refine Qbv (.inl rfl) ?_;simp -implicitDefEqProofs only [go_sem,seval];refine Qaj (θ:=[(7,7)]) rfl ?_ ?_
   ·simp [Qac,lkp,ren1,ren0,Qao]
   ·exact⟨⟨rfl,rfl,rfl,rfl,rfl,.inl ⟨rfl,rfl⟩⟩,trivial⟩
end Go.Proofs.YtlghoaggenhheaaGreat
