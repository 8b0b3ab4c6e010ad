/-
  Dsn, SM17, UYG, Dso, SM18, SM19, SM20, SM21, SM22, SM23, SM24 (merged for the claim).
-/
import Derived.Test.YtlpiamlgibomhaaGreatSM16
import Derived.Test.YtlpiamlgibomhaaGreatDsl
set_option linter.unusedSimpArgs false
set_option linter.unusedVariables false
namespace Go.Dg
def nrm:List Int→Nat
 | []=>0
 |x::l=>x.natAbs+nrm l
theorem Qph (a b:List Int):nrm (a++b)=nrm a+nrm b:=by
 induction a with
 |nil=>simp [nrm]
 |cons x a ih=>simp [nrm,ih,Nat.add_assoc]
theorem Q26 {l:List Int} {x:Int} (h:x∈l):x.natAbs≤nrm l:=by
 induction l with
 |nil=>cases h
 |cons y l ih=>
  cases h with
  |head=>exact Nat.le_add_right _ _
  |tail _ h=>exact Nat.le_trans (ih h) (Nat.le_add_left _ _)
theorem Qm6 (l:List Int) (c:Int):nrm (l.map (· *c))=nrm l*c.natAbs:=by
 induction l with
 |nil=>simp [nrm]
 |cons x l ih=>simp only [List.map_cons,nrm,ih,Int.natAbs_mul,Nat.add_mul]
theorem Qm7 (l:List Int):nrm (Qaw l)≤nrm l:=by
 induction l with
 |nil=>exact Nat.le_refl _
 |cons c r ih=>
  rw [Qby];split
  ·split
   ·exact Nat.zero_le _
   ·simp [nrm]
  ·simp only [nrm];omega
theorem Qq0 (f g:Nat→Int) (n:Nat):nrm ((List.range n).map fun i=>f i+g i)≤nrm ((List.range n).map f)+nrm ((List.range n).map g):=by
 induction n with
 |zero=>simp [nrm]
 |succ n ih=>simp only [List.range_succ,List.map_append,Qph,List.map_cons,List.map_nil,nrm];omega
theorem Qdz: ∀(l:List Int) (n:Nat),nrm ((List.range n).map fun i=>l.getD i 0)≤nrm l
 |_,0=>Nat.zero_le _
 | [],n+1=>by
  have:=Qdz [] n
  simp only [List.range_succ,List.map_append,Qph,List.map_cons,List.map_nil,nrm,List.getD_nil]at this ⊢;simpa using this
 |x::l,n+1=>by
  have:=Qdz l n
  rw [List.range_succ_eq_map,List.map_cons,List.map_map]
  simp only [nrm,List.getD_cons_zero]
  exact Nat.add_le_add_left this _
theorem Zbc (p q:List Int):nrm (zipA p q)≤nrm p+nrm q:=
 Nat.le_trans (Qq0 _ _ _) (Nat.add_le_add (Qdz _ _) (Qdz _ _))
theorem Zbd (l:List Int) (c:Int):nrm (l.set 0 (l.getD 0 0+c))≤nrm l+c.natAbs:=by
 cases l with
 |nil=>simp [nrm]
 |cons x l=>simp only [List.set_cons_zero,List.getD_cons_zero,nrm];omega
theorem Q27 (out:List Int) (a b c:Int):nrm (hstep out a b c)≤nrm out*(a.natAbs+b.natAbs)+c.natAbs:=by
 unfold hstep
 refine Nat.le_trans (Zbd _ _) (Nat.add_le_add_right ?_ _)
 rw [Qxj]
 refine Nat.le_trans (Zbc _ _) ?_
 simp only [nrm,Qm6,Int.natAbs_zero,Nat.zero_add,Nat.mul_add]
 exact Nat.le_refl _
theorem Qsj (p:List Int) (a b d:Int) (hab:a.natAbs+b.natAbs≤d.natAbs): ∀m,m<p.length→nrm (Qeb p a b d m)≤d.natAbs^m*nrm (p.drop (p.length-1-m))
 |0,h=>by
  have h1:p.length-1<p.length:=by omega
  rw [Qeb,Nat.sub_zero,List.drop_eq_getElem_cons h1]
  simp only [nrm,List.getD_eq_getElem?_getD,List.getElem?_eq_getElem h1,Option.getD_some,Nat.pow_zero,Nat.one_mul,Nat.add_zero]
  exact Nat.le_add_right _ _
 |m+1,h=>by
  have ih:=Qsj p a b d hab m (by omega)
  have h1:p.length-1-(m+1)<p.length:=by omega
  have e:p.length-1-(m+1)+1=p.length-1-m:=by omega
  rw [Qeb,List.drop_eq_getElem_cons h1,e]
  refine Nat.le_trans (Q27 _ _ _ _) ?_
  simp only [nrm,List.getD_eq_getElem?_getD,List.getElem?_eq_getElem h1,Option.getD_some,Int.natAbs_mul,Int.natAbs_pow,Nat.mul_add]
  have k:=Nat.mul_le_mul ih hab
  rw [Nat.mul_add]at k
  rw [Nat.add_comm (d.natAbs^(m+1)*_),Nat.mul_comm (p[p.length-1-(m+1)]).natAbs]
  refine Nat.add_le_add_right (Nat.le_trans k ?_) _
  rw [Nat.pow_succ,Nat.mul_right_comm]
  exact Nat.le_refl _
theorem Zbe (p:List Int) (a b d:Int) (hab:a.natAbs+b.natAbs≤d.natAbs):nrm (Qdb p a b d p.length)≤d.natAbs^(p.length-1)*nrm p:=by
 by_cases hp:0<p.length
 ·rw [←Qpf p a b d hp]
  refine Nat.le_trans (Qm7 _) ?_
  have:=Qsj p a b d hab (p.length-1) (by omega)
  rwa [Nat.sub_self,List.drop_zero]at this
 ·obtain rfl:p=[]:=List.eq_nil_of_length_eq_zero (by omega)
  exact Nat.zero_le _
theorem Zbf (c:List Int) (a b d:Int) (hc:c.length≤6) (h1:1≤c.length) (hd:1≤d) (hab:a.natAbs+b.natAbs≤d.natAbs):nrm (cmpC c a b d)≤d.natAbs^5*nrm c:=by
 unfold cmpC Qeg
 refine Nat.le_trans (Qm7 _) ?_
 rw [Qm6,Int.natAbs_pow]
 have h2:=Zbe (Qaw c) a b d hab
 have h3:=Qm7 c
 have h4:=Qbl c
 have hd':0<d.natAbs:=by omega
 generalize Qaw c=q at*
 generalize d.natAbs=D at*
 refine Nat.le_trans (Nat.mul_le_mul_right _ h2) ?_
 rw [Nat.mul_right_comm,←Nat.pow_add]
 exact Nat.mul_le_mul (Nat.pow_le_pow_right hd' (by omega)) h3
theorem Qc2 {x K:Int} (h:(x.natAbs:Int)≤K): -K≤x∧x≤K:=by omega
theorem Q28 {c:List Int} {o:Int} (h:Qc4 c o c.length=true) (j:Nat) (hj:j<c.length):((ctl c j).natAbs:Int)≤62914560*o:=by
 unfold Qc4 at h
 rw [List.all_eq_true]at h
 exact of_decide_eq_true (h j (List.mem_range.2 hj))
theorem Zj2 {o a0:Int} (ho:0≤o) (h: ∀j,j<1→((ctl [a0] j).natAbs:Int)≤62914560*o):(nrm [a0]:Int)≤1048576*o:=by
 have h0:=Qc2 (h 0 (by decide))
 have e0:ctl [a0] 0=60*a0:=by simp [ctl,sm,cw,bin];omega
 generalize ctl [a0] 0=b0 at*
 clear h
 have f0:60*a0=1*b0:=by omega
 clear e0
 have g0:(a0.natAbs:Int)≤1048576*o:=by omega
 clear h0 f0
 simp only [nrm]
 generalize a0.natAbs=m0 at*
 omega
theorem Zj3 {o a0 a1:Int} (ho:0≤o) (h: ∀j,j<2→((ctl [a0,a1] j).natAbs:Int)≤62914560*o):(nrm [a0,a1]:Int)≤3145728*o:=by
 have h0:=Qc2 (h 0 (by decide))
 have h1:=Qc2 (h 1 (by decide))
 have e0:ctl [a0,a1] 0=60*a0:=by simp [ctl,sm,cw,bin];omega
 have e1:ctl [a0,a1] 1=60*a0+60*a1:=by simp [ctl,sm,cw,bin];omega
 generalize ctl [a0,a1] 0=b0 at*
 generalize ctl [a0,a1] 1=b1 at*
 clear h
 have f0:60*a0=1*b0:=by omega
 have f1:60*a1= -1*b0+1*b1:=by omega
 clear e0 e1
 have g0:(a0.natAbs:Int)≤1048576*o:=by omega
 have g1:(a1.natAbs:Int)≤2097152*o:=by omega
 clear h0 h1 f0 f1
 simp only [nrm]
 generalize a0.natAbs=m0 at*
 generalize a1.natAbs=m1 at*
 omega
theorem Zj4 {o a0 a1 a2:Int} (ho:0≤o) (h: ∀j,j<3→((ctl [a0,a1,a2] j).natAbs:Int)≤62914560*o):(nrm [a0,a1,a2]:Int)≤9437184*o:=by
 have h0:=Qc2 (h 0 (by decide))
 have h1:=Qc2 (h 1 (by decide))
 have h2:=Qc2 (h 2 (by decide))
 have e0:ctl [a0,a1,a2] 0=60*a0:=by simp [ctl,sm,cw,bin];omega
 have e1:ctl [a0,a1,a2] 1=60*a0+30*a1:=by simp [ctl,sm,cw,bin];omega
 have e2:ctl [a0,a1,a2] 2=60*a0+60*a1+60*a2:=by simp [ctl,sm,cw,bin];omega
 generalize ctl [a0,a1,a2] 0=b0 at*
 generalize ctl [a0,a1,a2] 1=b1 at*
 generalize ctl [a0,a1,a2] 2=b2 at*
 clear h
 have f0:60*a0=1*b0:=by omega
 have f1:30*a1= -1*b0+1*b1:=by omega
 have f2:60*a2=1*b0+ -2*b1+1*b2:=by omega
 clear e0 e1 e2
 have g0:(a0.natAbs:Int)≤1048576*o:=by omega
 have g1:(a1.natAbs:Int)≤4194304*o:=by omega
 have g2:(a2.natAbs:Int)≤4194304*o:=by omega
 clear h0 h1 h2 f0 f1 f2
 simp only [nrm]
 generalize a0.natAbs=m0 at*
 generalize a1.natAbs=m1 at*
 generalize a2.natAbs=m2 at*
 omega
theorem Zj5 {o a0 a1 a2 a3:Int} (ho:0≤o) (h: ∀j,j<4→((ctl [a0,a1,a2,a3] j).natAbs:Int)≤62914560*o):(nrm [a0,a1,a2,a3]:Int)≤28311552*o:=by
 have h0:=Qc2 (h 0 (by decide))
 have h1:=Qc2 (h 1 (by decide))
 have h2:=Qc2 (h 2 (by decide))
 have h3:=Qc2 (h 3 (by decide))
 have e0:ctl [a0,a1,a2,a3] 0=60*a0:=by simp [ctl,sm,cw,bin];omega
 have e1:ctl [a0,a1,a2,a3] 1=60*a0+20*a1:=by simp [ctl,sm,cw,bin];omega
 have e2:ctl [a0,a1,a2,a3] 2=60*a0+40*a1+20*a2:=by simp [ctl,sm,cw,bin];omega
 have e3:ctl [a0,a1,a2,a3] 3=60*a0+60*a1+60*a2+60*a3:=by simp [ctl,sm,cw,bin];omega
 generalize ctl [a0,a1,a2,a3] 0=b0 at*
 generalize ctl [a0,a1,a2,a3] 1=b1 at*
 generalize ctl [a0,a1,a2,a3] 2=b2 at*
 generalize ctl [a0,a1,a2,a3] 3=b3 at*
 clear h
 have f0:60*a0=1*b0:=by omega
 have f1:20*a1= -1*b0+1*b1:=by omega
 have f2:20*a2=1*b0+ -2*b1+1*b2:=by omega
 have f3:60*a3= -1*b0+3*b1+ -3*b2+1*b3:=by omega
 clear e0 e1 e2 e3
 have g0:(a0.natAbs:Int)≤1048576*o:=by omega
 have g1:(a1.natAbs:Int)≤6291456*o:=by omega
 have g2:(a2.natAbs:Int)≤12582912*o:=by omega
 have g3:(a3.natAbs:Int)≤8388608*o:=by omega
 clear h0 h1 h2 h3 f0 f1 f2 f3
 simp only [nrm]
 generalize a0.natAbs=m0 at*
 generalize a1.natAbs=m1 at*
 generalize a2.natAbs=m2 at*
 generalize a3.natAbs=m3 at*
 omega
theorem Zj6 {o a0 a1 a2 a3 a4:Int} (ho:0≤o) (h: ∀j,j<5→((ctl [a0,a1,a2,a3,a4] j).natAbs:Int)≤62914560*o):(nrm [a0,a1,a2,a3,a4]:Int)≤84934656*o:=by
 have h0:=Qc2 (h 0 (by decide))
 have h1:=Qc2 (h 1 (by decide))
 have h2:=Qc2 (h 2 (by decide))
 have h3:=Qc2 (h 3 (by decide))
 have h4:=Qc2 (h 4 (by decide))
 have e0:ctl [a0,a1,a2,a3,a4] 0=60*a0:=by simp [ctl,sm,cw,bin];omega
 have e1:ctl [a0,a1,a2,a3,a4] 1=60*a0+15*a1:=by simp [ctl,sm,cw,bin];omega
 have e2:ctl [a0,a1,a2,a3,a4] 2=60*a0+30*a1+10*a2:=by simp [ctl,sm,cw,bin];omega
 have e3:ctl [a0,a1,a2,a3,a4] 3=60*a0+45*a1+30*a2+15*a3:=by simp [ctl,sm,cw,bin];omega
 have e4:ctl [a0,a1,a2,a3,a4] 4=60*a0+60*a1+60*a2+60*a3+60*a4:=by simp [ctl,sm,cw,bin];omega
 generalize ctl [a0,a1,a2,a3,a4] 0=b0 at*
 generalize ctl [a0,a1,a2,a3,a4] 1=b1 at*
 generalize ctl [a0,a1,a2,a3,a4] 2=b2 at*
 generalize ctl [a0,a1,a2,a3,a4] 3=b3 at*
 generalize ctl [a0,a1,a2,a3,a4] 4=b4 at*
 clear h
 have f0:60*a0=1*b0:=by omega
 have f1:15*a1= -1*b0+1*b1:=by omega
 have f2:10*a2=1*b0+ -2*b1+1*b2:=by omega
 have f3:15*a3= -1*b0+3*b1+ -3*b2+1*b3:=by omega
 have f4:60*a4=1*b0+ -4*b1+6*b2+ -4*b3+1*b4:=by omega
 clear e0 e1 e2 e3 e4
 have g0:(a0.natAbs:Int)≤1048576*o:=by omega
 have g1:(a1.natAbs:Int)≤8388608*o:=by omega
 have g2:(a2.natAbs:Int)≤25165824*o:=by omega
 have g3:(a3.natAbs:Int)≤33554432*o:=by omega
 have g4:(a4.natAbs:Int)≤16777216*o:=by omega
 clear h0 h1 h2 h3 h4 f0 f1 f2 f3 f4
 simp only [nrm]
 generalize a0.natAbs=m0 at*
 generalize a1.natAbs=m1 at*
 generalize a2.natAbs=m2 at*
 generalize a3.natAbs=m3 at*
 generalize a4.natAbs=m4 at*
 omega
theorem Zj7 {o a0 a1 a2 a3 a4 a5:Int} (ho:0≤o) (h: ∀j,j<6→((ctl [a0,a1,a2,a3,a4,a5] j).natAbs:Int)≤62914560*o):(nrm [a0,a1,a2,a3,a4,a5]:Int)≤254803968*o:=by
 have h0:=Qc2 (h 0 (by decide))
 have h1:=Qc2 (h 1 (by decide))
 have h2:=Qc2 (h 2 (by decide))
 have h3:=Qc2 (h 3 (by decide))
 have h4:=Qc2 (h 4 (by decide))
 have h5:=Qc2 (h 5 (by decide))
 have e0:ctl [a0,a1,a2,a3,a4,a5] 0=60*a0:=by simp [ctl,sm,cw,bin];omega
 have e1:ctl [a0,a1,a2,a3,a4,a5] 1=60*a0+12*a1:=by simp [ctl,sm,cw,bin];omega
 have e2:ctl [a0,a1,a2,a3,a4,a5] 2=60*a0+24*a1+6*a2:=by simp [ctl,sm,cw,bin];omega
 have e3:ctl [a0,a1,a2,a3,a4,a5] 3=60*a0+36*a1+18*a2+6*a3:=by simp [ctl,sm,cw,bin];omega
 have e4:ctl [a0,a1,a2,a3,a4,a5] 4=60*a0+48*a1+36*a2+24*a3+12*a4:=by simp [ctl,sm,cw,bin];omega
 have e5:ctl [a0,a1,a2,a3,a4,a5] 5=60*a0+60*a1+60*a2+60*a3+60*a4+60*a5:=by simp [ctl,sm,cw,bin];omega
 generalize ctl [a0,a1,a2,a3,a4,a5] 0=b0 at*
 generalize ctl [a0,a1,a2,a3,a4,a5] 1=b1 at*
 generalize ctl [a0,a1,a2,a3,a4,a5] 2=b2 at*
 generalize ctl [a0,a1,a2,a3,a4,a5] 3=b3 at*
 generalize ctl [a0,a1,a2,a3,a4,a5] 4=b4 at*
 generalize ctl [a0,a1,a2,a3,a4,a5] 5=b5 at*
 clear h
 have f0:60*a0=1*b0:=by omega
 have f1:12*a1= -1*b0+1*b1:=by omega
 have f2:6*a2=1*b0+ -2*b1+1*b2:=by omega
 have f3:6*a3= -1*b0+3*b1+ -3*b2+1*b3:=by omega
 have f4:12*a4=1*b0+ -4*b1+6*b2+ -4*b3+1*b4:=by omega
 have f5:60*a5= -1*b0+5*b1+ -10*b2+10*b3+ -5*b4+1*b5:=by omega
 clear e0 e1 e2 e3 e4 e5
 have g0:(a0.natAbs:Int)≤1048576*o:=by omega
 have g1:(a1.natAbs:Int)≤10485760*o:=by omega
 have g2:(a2.natAbs:Int)≤41943040*o:=by omega
 have g3:(a3.natAbs:Int)≤83886080*o:=by omega
 have g4:(a4.natAbs:Int)≤83886080*o:=by omega
 have g5:(a5.natAbs:Int)≤33554432*o:=by omega
 clear h0 h1 h2 h3 h4 h5 f0 f1 f2 f3 f4 f5
 simp only [nrm]
 generalize a0.natAbs=m0 at*
 generalize a1.natAbs=m1 at*
 generalize a2.natAbs=m2 at*
 generalize a3.natAbs=m3 at*
 generalize a4.natAbs=m4 at*
 generalize a5.natAbs=m5 at*
 omega
theorem Zid {c:List Int} {o:Int} (h:axOK c o=true) (ho:0≤o):(nrm c:Int)≤254803968*o:=by
 obtain⟨h1,h6, -,hb⟩:=Qb5 h
 have hj:=Q28 hb
 clear hb h
 match c,h1,h6,hj with
 | [a0],_,_,hj=>exact Int.le_trans (Zj2 ho hj) (by omega)
 | [a0,a1],_,_,hj=>exact Int.le_trans (Zj3 ho hj) (by omega)
 | [a0,a1,a2],_,_,hj=>exact Int.le_trans (Zj4 ho hj) (by omega)
 | [a0,a1,a2,a3],_,_,hj=>exact Int.le_trans (Zj5 ho hj) (by omega)
 | [a0,a1,a2,a3,a4],_,_,hj=>exact Int.le_trans (Zj6 ho hj) (by omega)
 | [a0,a1,a2,a3,a4,a5],_,_,hj=>exact Int.le_trans (Zj7 ho hj) (by omega)
 |_::_::_::_::_::_::_::_,_,h6,_=>simp at h6
theorem Qhj (g:Nat) (c:List Int):gcdL g c∣g∧ ∀x∈c,gcdL g c∣x.natAbs:=by
 induction c generalizing g with
 |nil=>exact⟨Nat.dvd_refl _,fun _ h=>nomatch h⟩
 |cons y c ih=>
  obtain⟨h1,h2⟩:=ih (Nat.gcd g y.natAbs)
  refine⟨Nat.dvd_trans h1 (Nat.gcd_dvd_left _ _),fun x hx=> ?_⟩
  cases hx with
  |head=>exact Nat.dvd_trans h1 (Nat.gcd_dvd_right _ _)
  |tail _ h=>exact h2 x h
theorem Qm8 (L:Nat→List Int) (o:Int):(mdG L o 3:Int)∣o∧ ∀i,i<3→ ∀x∈L i,(mdG L o 3:Int)∣x:=by
 have d3:=Qhj (mdG L o 2) (L 2)
 have d2:=Qhj (mdG L o 1) (L 1)
 have d1:=Qhj (mdG L o 0) (L 0)
 have a1:mdG L o 3∣mdG L o 1:=Nat.dvd_trans d3.1 d2.1
 refine⟨Int.dvd_natAbs.1 (Int.natCast_dvd_natCast.2 (Nat.dvd_trans a1 d1.1)),fun i hi x hx=>Int.dvd_natAbs.1 (Int.natCast_dvd_natCast.2 ?_)⟩
 rcases(show i=0∨i=1∨i=2 by omega)with rfl|rfl|rfl
 ·exact Nat.dvd_trans a1 (d1.2 x hx)
 ·exact Nat.dvd_trans d3.1 (d2.2 x hx)
 ·exact d3.2 x hx
theorem Zp7 {L:Nat→List Int} {o:Int} (ho:0<o) (hf:Qll L o=true) {i:Nat} (hi:i<3) {x:Int} (hx:x∈L i) {K:Int} (hK:(x.natAbs:Int)≤K*o) (h0:0≤K):((x/(mdG L o 3:Int)).natAbs:Int)≤K*4294967296:=by
 obtain⟨h1,h2⟩:=Qm8 L o
 have h3:=h2 i hi x hx
 have hg:=Qkd (L:=L) ho 3
 have hO:mdO L o≤4294967296:=of_decide_eq_true hf
 unfold mdO at hO
 generalize mdG L o 3=G at*
 have e1:x.natAbs=(x/(G:Int)).natAbs*G:=by
  have:=congrArg Int.natAbs (Int.ediv_mul_cancel h3)
  rw [Int.natAbs_mul,Int.natAbs_natCast]at this;exact this.symm
 have e2:o/(G:Int)*G=o:=Int.ediv_mul_cancel h1
 rw [e1,←e2,Int.natCast_mul,←Int.mul_assoc]at hK
 have h4:=Int.le_of_mul_le_mul_right hK (show(0:Int)<(G:Int)by omega)
 exact Int.le_trans h4 (Int.mul_le_mul_of_nonneg_left hO h0)
def ptL (s:Sg) (a b:Int):Nat→List Int:=cmpL s (a-s.f) (b-a) (s.t-s.f)
def ptO (s:Sg):Int:=s.o*(s.t-s.f)^5
theorem Qgu (s:Sg) (i:Nat) (h:i<3):s.ax.getD i []∈s.ax:=by
 rcases(show i=0∨i=1∨i=2 by omega)with rfl|rfl|rfl<;>simp [Sg.ax]
theorem Zp8 {s:Sg} {a b:Int} (hv:Qav s=true) (h1:s.f≤a) (h2:a≤b) (h3:b≤s.t) (i:Nat) (hi:i<3):(nrm (ptL s a b i):Int)≤254803968*ptO s:=by
 obtain⟨⟨v1,v2,v3,v4,v5⟩,hax, -⟩:=Qao hv
 have hm:=Qgu s i hi
 have ha:=hax _ hm
 have hn:=Zid ha (by omega)
 obtain⟨l1,l6, -, -⟩:=Qb5 ha
 have hk:=Zbf (s.ax.getD i []) (a-s.f) (b-a) (s.t-s.f) l6 l1 (by omega) (by omega)
 have e:ptL s a b i=cmpC (s.ax.getD i []) (a-s.f) (b-a) (s.t-s.f):=rfl
 rw [e]
 unfold ptO
 generalize nrm (cmpC (s.ax.getD i []) (a-s.f) (b-a) (s.t-s.f))=X at*
 generalize nrm (s.ax.getD i [])=Y at*
 have hD:((s.t-s.f).natAbs:Int)=s.t-s.f:=by omega
 have hk':(X:Int)≤(s.t-s.f)^5*(Y:Int):=by
  have:=Int.ofNat_le.2 hk
  rwa [Int.natCast_mul,Int.natCast_pow,hD]at this
 have hp:0≤(s.t-s.f)^5:=Int.pow_nonneg (by omega)
 refine Int.le_trans hk' (Int.le_trans (Int.mul_le_mul_of_nonneg_left hn hp) ?_)
 rw [Int.mul_left_comm,Int.mul_comm s.o]
 exact Int.le_refl _
end Go.Dg

namespace Go.Proofs.YtlpiamlgibomhaaGreat
open Go.Vl Go.RowKit Go.Dg
def noSg:PV:= .agg [.int .i64 0,.int .i64 0,.int .i64 0,.nilS,.nilS,.nilS]
attribute [go_sem] noSg
end Go.Proofs.YtlpiamlgibomhaaGreat

namespace Go.Vl
open Go.RowKit
theorem Qt4 {P:Program} {tb:Tab} {f:FuncId} {fn:Func} {c:Code} {cap:List PV} {outs:List (List PV)} (nt:Nat) (ks:List Nat) (hm:P.follows .mixedOrders=true) (hf:P.funcs[f]? =some fn) (hb:fn.body=some c)
  (hc:callable P f=true) (hnt:fn.ntmps=nt) (hrs:fn.results.toList=[]) (hn:Nat.ble (cap.length+1) nt=true)
  (h: ∀l stop,go P tb nt ks [.code c] (Qo3 outs stop) (St.ofG (Qcg 0 (.yld l stop::cap)) [] [] (some (l,stop,outs)))):Qon P f cap outs:=
 Zaf nt hf hb hc hnt hrs hn fun l stop=>Qc7 (tb:=tb) (ks:=ks) hm c _ _ (by
  have h:=h l stop
  simp only [go]at h
  have:(fun e s=>gleave P tb nt ks [] (Qo3 outs stop) e s)=Qo3 outs stop:=by funext e s;simp only [gleave]
  rwa [this]at h)
theorem Qr6 {P:Program} {tb:Tab} {nt:Nat} {ks:List Nat} {K:List It} {Q:Exit→St→Prop} (hm:P.follows .mixedOrders=true) {vs0:List (Nat×PV)} {bs0:List (Nat×Box)} {o0:List (List PV)} {g:Operand} {ps:Array Tmp} {assign body:Code} {f:FuncId} {cap xs:List PV} {es:List Eff} {la:Acc} {outs:List (List PV)}
  (hs:Qon P f xs outs) (hg:(St.ofG vs0 bs0 o0 none).ev g=some (.fn f [] cap)) (he:Qfq cap (lkp bs0)=some ((xs,es),la))
  (bs1:List (Nat×Box)) (he1:Qat es (St.ofG vs0 bs0 o0 none)=St.ofG vs0 bs1 o0 none)
  (θ:List (Nat×Nat)) (N:List Nat) (hN:(N.all fun b=>Nat.ble LENT b)=true) (vs:List (Nat×PV)) (B:Nat→List (Nat×Box))
  (hκ:Qfr θ=true) (hall:(θ.all fun p=>(lkp (B 0) p.1).isSome)=true) (hv:Qad θ vs0 vs) (hb:Qal θ bs1 (B 0)) (hvN:Qad (Qt3 N) vs vs)
  (stop:Nat) (jump:Exit) (hjump:stop<outs.length→(Qy3 jump).isSome=true) (hBN: ∀k,k≤outs.length→k≤stop+1→ ∀b∈N,(lkp (B k) b).isSome=true)
  (hps: ∀(k:Nat) (args:List PV),outs[k]? =some args→args.length=ps.size) (hpt:(ps.toList.all fun t=>Nat.blt t nt)=true)
  (hbody: ∀(k:Nat) (args:List PV),outs[k]? =some args→k≤stop→go P tb nt ks [.code assign,.again fun s=>(∀b∈N,(s.box b).isSome=true)∧go P tb nt ks [.code body] (vround B stop jump k) s] (fun _ _=>False) (St.ofG (pvars ps.toList args vs) (B k) [[]] (some (0,0,[]))))
  (θF:List (Nat×Nat)) (vsF:List (Nat×PV)) (bsF:List (Nat×Box)) (hκF:Qfr θF=true) (hallF:(θF.all fun p=>(lkp bsF p.1).isSome&&Nat.blt p.1 LENT)=true) (hvF:Qad θF vs vsF)
  (hbF:Qal θF (B (min outs.length (stop+1))) bsF)
  (hQ1:outs.length≤stop→go P tb nt ks K Q (St.ofG vsF bsF o0 none)) (hQ2:stop<outs.length→gleave P tb nt ks K Q jump (St.ofG vsF bsF o0 none)):go P tb nt ks (.code (.rangeFunc g ps assign body)::K) Q (St.ofG vs0 bs0 o0 none):=by
 simp only [go,vx]
 refine Qr5 hg he hs bs1 he1 θ N hN vs B hκ hall hv hb hvN stop jump hjump hBN hps hpt (fun j args h1 h2=> ?_) θF vsF bsF hκF hallF hvF hbF ?_
 ·have h:=hbody j args h1 h2
  simp only [go]at h
  refine Qgb (Qc7 hm _ _ _ h) ?_
  intro e s q
  cases e with
  |normal=>
   simp only [gleave]at q
   refine⟨q.1,Qc7 (tb:=tb) (ks:=ks) hm _ _ _ ?_⟩
   have h2:=q.2
   exact h2
  |_=>simp only [gleave]at q
 ·by_cases hl:outs.length≤stop
  ·rw [if_pos hl,Qdl];exact hQ1 hl
  ·rw [if_neg hl];exact hQ2 (by omega)
theorem Zs4 {P:Program} {tb:Tab} {nt:Nat} {ks:List Nat} (K:List It) (Q:Exit→St→Prop) (st:St):gleave P tb nt ks K Q .ret st=Q .ret st:=Qfw K Q st
theorem Zph {a b:Int} [Decidable (a<b)]:(if a<b then b else a)=max a b:=by split<;>omega
theorem Zpi {a b:Int} [Decidable (a<b)]:(if a<b then a else b)=min b a:=by split<;>omega
theorem Qww {P:Program} {tb:Tab} {nt:Nat} {ks:List Nat} {ops:Array Oper} {base i:Nat} {rest:List Oper} {accs:List Acc} {draw:Bool} {k:List It} {Q:Exit→St→Prop} (vs:List (Nat×PV)) (bs:List (Nat×Box)) (o:List (List PV)) (y:Yl) (dst:Option Tmp) (n stop:Nat) (args:List PV) (l:Acc):
  gout P tb nt ks (some (.yield n stop args [],l)) ops base i dst rest accs draw k Q (St.ofG vs bs o y)=
  (yOk y n stop o args∧gops P tb nt ks ops base (i+1) rest ((l++[(YID,true)])::accs) draw k Q ((St.ofG vs bs (o++[args]) y).put dst (.bool (decide (o.length<stop))))):=by
 rw [Qqc];simp only [Qce,List.map_nil,List.append_nil];rfl
attribute [go_sem 10000] Qww
theorem Zh3 (n stop n' stop':Nat) (outs o:List (List PV)) (args:List PV):yOk (some (n',stop',outs)) n stop o args=(n=n'∧stop=stop'∧o.length≤stop∧outs[o.length]? =some args):=rfl
attribute [go_sem] Zh3
end Go.Vl

namespace Go.Dg
theorem Q29 {s:Sg} (hv:Qav s=true):0<ptO s:=by
 obtain⟨⟨v1,v2,v3,v4,v5⟩, -, -⟩:=Qao hv
 exact Int.mul_pos (by omega) (Int.pow_pos (by omega))
theorem Zp9 {s:Sg} {a b:Int} (hv:Qav s=true) (h1:s.f≤a) (h2:a≤b) (h3:b≤s.t) (hf:Qll (ptL s a b) (ptO s)=true):
  ∀i,i<3→ ∀x∈ptL s a b i,(x/(mdG (ptL s a b) (ptO s) 3:Int)).natAbs≤4611686018427387904:=by
 intro i hi x hx
 have h:=Zp8 hv h1 h2 h3 i hi
 have h4:=Q26 hx
 have h5:=Zp7 (Q29 hv) hf hi hx (K:=254803968) (by omega) (by decide)
 omega
def ptS (s:Sg) (a b:Int):Sg:=Qc8 a b (ptL s a b) (ptO s)
def ptF (s:Sg) (a b:Int):Bool:=Qll (ptL s a b) (ptO s)
def spans:List Sg→Int→Int→List (Sg×Int×Int)
 | [],_,_=>[]
 |s::r,f,t=>if max f s.f≥min t s.t then spans r f t else(s,max f s.f,min t s.t)::spans r f t
def spF (x:Sg×Int×Int):Bool:=ptF x.1 x.2.1 x.2.2
def spS (x:Sg×Int×Int):Sg:=ptS x.1 x.2.1 x.2.2
theorem Qgv (p q:List Sg) (f t:Int):spans (p++q) f t=spans p f t++spans q f t:=by
 induction p with
 |nil=>rfl
 |cons x p ih=>simp only [List.cons_append,spans,ih];split<;>rfl
theorem Qzl (p:List Sg) (s:Sg) (f t:Int):spans (p++[s]) f t=spans p f t++(if max f s.f≥min t s.t then []else [(s,max f s.f,min t s.t)]):=by
 rw [Qgv];simp only [spans]
theorem Qb7 (p:List Sg) (f t:Int):(spans p f t).length≤p.length:=by
 induction p with
 |nil=>exact Nat.le_refl _
 |cons x p ih=>
  simp only [spans];split
  ·simp only [List.length_cons];omega
  ·simp only [List.length_cons];omega
theorem Q3a {p:List Sg} {f t:Int} {x:Sg×Int×Int} (h:x∈spans p f t):x.1∈p∧x.2.1=max f x.1.f∧x.2.2=min t x.1.t∧x.2.1<x.2.2:=by
 induction p with
 |nil=>cases h
 |cons s p ih=>
  simp only [spans]at h
  split at h
  ·obtain⟨h1,h2⟩:=ih h
   exact⟨List.mem_cons_of_mem _ h1,h2⟩
  ·cases h with
   |head=>exact⟨List.mem_cons_self,rfl,rfl,by simp only;omega⟩
   |tail _ h=>
    obtain⟨h1,h2⟩:=ih h
    exact⟨List.mem_cons_of_mem _ h1,h2⟩
end Go.Dg

namespace Go.Proofs.YtlpiamlgibomhaaGreat
open Go.Vl Go.RowKit Go.Dg
attribute [go_sem] Zph Zpi
theorem Zil {s:Sg} (hs:okSg s) (hd:i64 (s.t-s.f)):(ptO s).natAbs<2^12000:=by
 exact Qev (C:=12000) (Qgz (Qay hs.o) (Qnd (Qay hd) 5)) (by decide)
theorem Zqh {s:Sg} {a b:Int} (hs:okSg s) (hv:Qav s=true) (h1:i64 (a-s.f)) (h2:i64 (b-a)) (h3:i64 (s.t-s.f)): ∀i,i<3→bd 12000 (ptL s a b i)∧(ptL s a b i).length≤6:=by
 intro i hi
 have hm:=Qgu s i hi
 obtain⟨l1,l6, -, -⟩:=Qb5 ((Qao hv).2.1 _ hm)
 exact⟨(Qsr l6 (fun x hx=>Qay (hs.c _ hm x hx)) (Qay h1) (Qay h2) (Qay h3)).2,Q3u l6⟩
end Go.Proofs.YtlpiamlgibomhaaGreat

namespace Go.Proofs.YtlpiamlgibomhaaGreat
open Go.Vl Go.RowKit Go.Dg
theorem Qfn (l:List Sg):(((l.map sgPV).flatMap PV.cells).all PV.okCell)=true:=by
 rw [List.all_flatMap,List.all_map,List.all_eq_true];intro _ _;rfl
end Go.Proofs.YtlpiamlgibomhaaGreat

namespace Go.Proofs.YtlpiamlgibomhaaGreat
open Go.Vl Go.RowKit Go.Dg
def ptSS (s:Sg) (a b:Int):Sg:=if ptF s a b=true then ptS s a b else⟨a,b,0,[],[],[]⟩
def spO (x:Sg×Int×Int):List PV:=[sgPV (ptSS x.1 x.2.1 x.2.2),.bool (spF x)]
def Qdm (p:List Sg) (f t:Int):List (List PV):=(spans p f t).map spO
theorem Zbq (p:List Sg) (f t:Int):Qaf Tryz.prog 108 [Qan p,.int .i64 f,.int .i64 t] (.fn 138 [] [.rp [Qan p],.rp [.int .i64 f],.rp [.int .i64 t]]):=by
 refine Qac (tb:=[]) 8 [.tmp 6] [0,1,2,3,4,5,6] mixed Tryz.func108 rfl (by kernel_rfl) (by kernel_rfl) (by kernel_rfl) (by kernel_rfl) ?_
 repeat (first|(simp -implicitDefEqProofs only [go_sem,Nat.reduceAdd,Nat.reduceMul,Nat.reduceEqDiff,Nat.reduceLT,Nat.reduceLeDiff,reduceCtorEq,Qan]))
theorem Qzq {p:List Sg} {f t:Int} {i:Nat} (hi:i<p.length):Qdm (p.take (i+1)) f t=Qdm (p.take i) f t++(if max f p[i].f≥min t p[i].t then []else [[sgPV (ptSS p[i] (max f p[i].f) (min t p[i].t)),.bool (ptF p[i] (max f p[i].f) (min t p[i].t))]]):=by
 unfold Qdm
 rw [Qbq p i hi,Qzl,List.map_append]
 congr 1
 split<;>rfl
theorem Q3z {p:List Sg} {f t:Int} {i:Nat} (hi:i<p.length) (h: ¬max f p[i].f≥min t p[i].t):(Qdm p f t)[(Qdm (p.take i) f t).length]? =some [sgPV (ptSS p[i] (max f p[i].f) (min t p[i].t)),.bool (ptF p[i] (max f p[i].f) (min t p[i].t))]:=by
 have e:Qdm p f t=Qdm (p.take i) f t++Qdm (p.drop i) f t:=by
  unfold Qdm
  rw [←List.map_append,←Qgv,List.take_append_drop]
 rw [e,List.getElem?_append_right (Nat.le_refl _),Nat.sub_self,List.drop_eq_getElem_cons hi]
 unfold Qdm
 simp only [spans]
 rw [if_neg h]
 rfl
theorem Qzr {p:List Sg} {f t:Int} {i:Nat}:Qdm (p.take i) f t=(Qdm p f t).take (Qdm (p.take i) f t).length:=by
 have e:Qdm p f t=Qdm (p.take i) f t++Qdm (p.drop i) f t:=by
  unfold Qdm
  rw [←List.map_append,←Qgv,List.take_append_drop]
 conv=>rhs;rw [e]
 rw [List.take_left']
 rfl
theorem Zkm (s:Sg) (a b:Int) (hs:okSg s) (hv:Qav s=true) (h1:s.f≤a) (h2:a<b) (h3:b≤s.t):
  Qaf Tryz.prog 78 [.int .i64 a,.int .i64 b,.agg [wL (ptL s a b 0),wL (ptL s a b 1),wL (ptL s a b 2)],wPV (ptO s)] (.tup [sgPV (ptSS s a b),.bool (ptF s a b)]):=by
 obtain⟨⟨v1,v2,v3,v4,v5⟩,hax, -⟩:=Qao hv
 have d1:i64 (a-s.f):=by unfold i64;omega
 have d2:i64 (b-a):=by unfold i64;omega
 have d3:i64 (s.t-s.f):=by unfold i64;omega
 have hbd:=Zqh hs hv d1 d2 d3
 have h:=Q3v a b (ptL s a b) (ptO s) 12000 (by decide) (Q29 hv) (Zil hs d3) (fun i hi=>(hbd i hi).1) (fun i hi=>by have:=(hbd i hi).2;omega) (Zp9 hv h1 (by omega) h3)
 have e:(.tup [sgPV (ptSS s a b),.bool (ptF s a b)]:PV)=if Qll (ptL s a b) (ptO s)=true then .tup [sgPV (Qc8 a b (ptL s a b) (ptO s)),.bool true]else .tup [sgPV ⟨a,b,0,[],[],[]⟩,.bool false]:=by
  unfold ptSS ptF ptS
  cases Qll (ptL s a b) (ptO s)<;>rfl
 rw [e];exact h
set_option maxHeartbeats 4000000 in
theorem Qnf (p:List Sg) (f t:Int) (hp: ∀s∈p,okSg s) (hv: ∀s∈p,Qav s=true) (hl:p.length≤100000):Qon Tryz.prog 138 [.rp [Qan p],.rp [.int .i64 f],.rp [.int .i64 t]] (Qdm p f t):=by
 refine Qt4 (tb:=[]) 62 [0,1,2,3,6,7,8,9,10,11,12,13,14,15,28,60] mixed Tryz.func138 rfl (by kernel_rfl) (by kernel_rfl) (by kernel_rfl) (by kernel_rfl) fun l stop=> ?_
 repeat (first|(simp -implicitDefEqProofs only [go_sem,Nat.reduceAdd,Nat.reduceMul,Nat.reduceEqDiff,Nat.reduceLT,Nat.reduceLeDiff,reduceCtorEq,Qan])|(with_reducible exact Qaa _ _ (by kernel_rfl))|(with_reducible refine And.intro (Qaa _ _ (by kernel_rfl)) ?_))
 refine Qas mixed (fun i:{i:Nat // i≤p.length∧(Qdm (p.take i) f t).length≤stop}=>St.ofG [(0,.yld l stop),(1,.rp [Qan p]),(2,.rp [.int .i64 f]),(3,.rp [.int .i64 t]),(12,Qan p),(13,.int .i64 (p.length:Int)),(14,.int .i64 (i.1:Int))] [] (Qdm (p.take i.1) f t) (some (l,stop,Qdm p f t))) (fun i=>p.length-i.1) ⟨0,Nat.zero_le _,Nat.zero_le _⟩ ?_ ?_
 ·refine Qa3 ?_
  simp [Qad,lkp,ren1,ren0,Qam,Qan]
 ·rintro⟨i,hi,hst⟩
  simp only
  by_cases hA:i<p.length
  ·have hA':=ltT hA
   have n0:=nnT i
   have hg:=Qci p i hA
   have hwk:=Qah (a:=i) (by omega)
   have hs:=hp _ (List.getElem_mem hA)
   have hvs:=hv _ (List.getElem_mem hA)
   have hsn:=Qzq (f:=f) (t:=t) hA
   have hgt:=Q3z (f:=f) (t:=t) hA
   have htk:=Qzr (p:=p) (f:=f) (t:=t) (i:=i+1)
   generalize hO:Qdm (p.take i) f t=O at*
   generalize hOO:Qdm p f t=OO at*
   generalize p[i]=s at*
   by_cases hc:max f s.f≥min t s.t
   ·have hc':(min t s.t≤max f s.f)=True:=eq_true hc
    rw [if_pos hc,List.append_nil]at hsn
    repeat (first|(simp -implicitDefEqProofs only [go_sem,Nat.reduceAdd,Nat.reduceMul,Nat.reduceEqDiff,Nat.reduceLT,Nat.reduceLeDiff,reduceCtorEq,hA',n0,hg,hwk,hc',Int.toNat_natCast,List.length_map])|(with_reducible exact Qaa _ _ (by kernel_rfl))|(with_reducible refine And.intro (Qaa _ _ (by kernel_rfl)) ?_))
    refine⟨⟨i+1,hA,by rw [hsn];exact hst⟩,by simp only;omega,?_⟩
    simp only [hsn]
    refine Qa3 ?_
    simp [Qad,lkp,ren1,ren0,Qam,Qan]
   ·have hc':(min t s.t≤max f s.f)=False:=eq_false hc
    rw [if_neg hc]at hsn
    have hgt:=hgt hc
    have hmk:=Zkm s (max f s.f) (min t s.t) hs hvs (by omega) (by omega) (by omega)
    obtain⟨⟨v1,v2,v3,v4,v5⟩,hax, -⟩:=Qao hvs
    generalize hm1:max f s.f=a at*
    generalize hm2:min t s.t=b at*
    have d1:i64 (a-s.f):=by unfold i64;omega
    have d2:i64 (b-a):=by unfold i64;omega
    have d3:i64 (s.t-s.f):=by unfold i64;omega
    have w1:=Qai d1.1 d1.2
    have w2:=Qai d2.1 d2.2
    have w3:=Qai d3.1 d3.2
    have f1:=Qpo s (a-s.f) (b-a) (s.t-s.f) hs (fun c hc=>(Qb5 (hax c hc)).2.1) d1 d2 d3 (by omega)
    have eL:cmpL s (a-s.f) (b-a) (s.t-s.f)=ptL s a b:=rfl
    rw [eL]at f1
    have f2:=Qe2 s.o hs.o.1 hs.o.2
    have f3:=Qdf (s.t-s.f) 5 64 d3.1 d3.2 (by decide) (by decide) (Qay d3)
    have hOl:=Zil hs d3
    have eO:s.o*(s.t-s.f)^5=ptO s:=rfl
    have f4:=Qgx (Qau (Qay hs.o) (by decide)) (Qau (Qnd (Qay d3) 5) (by decide)) (Qau (show(s.o*(s.t-s.f)^5).natAbs<2^12000 from hOl) (by decide))
    rw [eO]at f4
    generalize ptL s a b=L at*
    generalize ptO s=PO at*
    generalize ptSS s a b=X at*
    generalize ptF s a b=F at*
    unfold sgPV at f1 hgt hsn hmk
    unfold wL at f1 hmk
    clear eL eO hOl
    have hst':(O.length≤stop)=True:=eq_true hst
    by_cases hlt:O.length<stop
    case neg=>
     have hlt':(O.length<stop)=False:=eq_false hlt
     have htk2:OO.take (stop+1)=O++[[.agg [.int .i64 X.f,.int .i64 X.t,.int .i64 X.o,.slc (X.x.map (PV.int .i64)),.slc (X.y.map (PV.int .i64)),.slc (X.z.map (PV.int .i64))],.bool F]]:=by
      have e:O.length=stop:=by omega
      have:=htk
      rw [hsn,List.length_append,e]at this
      exact this.symm
     repeat (first|(simp -implicitDefEqProofs only [go_sem,Nat.reduceAdd,Nat.reduceMul,Nat.reduceEqDiff,Nat.reduceLT,Nat.reduceLeDiff,reduceCtorEq,wPV,hA',n0,hg,hwk,hm1,hm2,hc',w1,w2,w3,hgt,hst',hlt',Qo3,htk2,Int.toNat_natCast,List.length_map])|((with_reducible refine Qab (f1) ?_ ?_ ?_);(with_reducible rfl);rfl)|((with_reducible refine Qab (f2) ?_ ?_ ?_);(with_reducible rfl);rfl)|((with_reducible refine Qab (f3) ?_ ?_ ?_);(with_reducible rfl);rfl)|((with_reducible refine Qab (f4) ?_ ?_ ?_);(with_reducible rfl);rfl)|((with_reducible refine Qab (hmk) ?_ ?_ ?_);(with_reducible rfl);rfl)|(with_reducible exact Qaa _ _ (by kernel_rfl))|(with_reducible refine And.intro (Qaa _ _ (by kernel_rfl)) ?_))
    have hlt':(O.length<stop)=True:=eq_true hlt
    repeat (first|(simp -implicitDefEqProofs only [go_sem,Nat.reduceAdd,Nat.reduceMul,Nat.reduceEqDiff,Nat.reduceLT,Nat.reduceLeDiff,reduceCtorEq,hst',hlt',wPV,hA',n0,hg,hwk,hm1,hm2,hc',w1,w2,w3,hgt,Int.toNat_natCast,List.length_map])|((with_reducible refine Qab (f1) ?_ ?_ ?_);(with_reducible rfl);rfl)|((with_reducible refine Qab (f2) ?_ ?_ ?_);(with_reducible rfl);rfl)|((with_reducible refine Qab (f3) ?_ ?_ ?_);(with_reducible rfl);rfl)|((with_reducible refine Qab (f4) ?_ ?_ ?_);(with_reducible rfl);rfl)|((with_reducible refine Qab (hmk) ?_ ?_ ?_);(with_reducible rfl);rfl)|(with_reducible exact Qaa _ _ (by kernel_rfl))|(with_reducible refine And.intro (Qaa _ _ (by kernel_rfl)) ?_))
    refine⟨⟨i+1,hA,by rw [hsn,List.length_append];exact hlt⟩,by simp only;omega,?_⟩
    simp only [hsn]
    refine Qa3 ?_
    simp [Qad,lkp,ren1,ren0,Qam,Qan]
  ·have hA':=ltF hA
   have hO:Qdm (p.take i) f t=Qdm p f t:=by rw [List.take_of_length_le (by omega)]
   rw [hO]at hst ⊢
   have ht:(Qdm p f t).take (stop+1)=Qdm p f t:=List.take_of_length_le (by omega)
   generalize Qdm p f t=OO at*
   repeat (first|(simp -implicitDefEqProofs only [go_sem,Nat.reduceAdd,Nat.reduceMul,Nat.reduceEqDiff,Nat.reduceLT,Nat.reduceLeDiff,reduceCtorEq,hA',Qo3,ht,List.length_map])|(with_reducible exact Qaa _ _ (by kernel_rfl))|(with_reducible refine And.intro (Qaa _ _ (by kernel_rfl)) ?_))
end Go.Proofs.YtlpiamlgibomhaaGreat

namespace Go.Proofs.YtlpiamlgibomhaaGreat
open Go.Vl Go.RowKit Go.Dg
def Qlm (S:List (Sg×Int×Int)):PV:=if S.all spF=true then .tup [Qan (S.map spS),.int .i64 0]else .tup [Qan [],.int .i64 7]
theorem Ql7 {x:Sg×Int×Int} (h:spF x=true):spO x=[sgPV (spS x),.bool true]:=by
 unfold spO ptSS
 have h':ptF x.1 x.2.1 x.2.2=true:=h
 rw [if_pos h',h];rfl
theorem Zkn {x:Sg×Int×Int} (h:spF x=false):spO x=[sgPV ⟨x.2.1,x.2.2,0,[],[],[]⟩,.bool false]:=by
 unfold spO ptSS
 have h': ¬ptF x.1 x.2.1 x.2.2=true:=by intro e;have:spF x=true:=e;rw [h]at this;cases this
 rw [if_neg h',h]
def cuB (S:List (Sg×Int×Int)):Nat→List (Nat×Box)
 |0=>[(1000000,{els:=[.nilS],esz:=1,ety:=27,fro:=0,live:=true,arr:=false}),(1000001,{els:=[.int .i64 0],esz:=1,ety:=34,fro:=0,live:=true,arr:=false})]
 |k+1=>[(1000000,{els:=[.bs 7 6 0 (k+1)],esz:=1,ety:=27,fro:=0,live:=true,arr:=false}),(1000001,{els:=[.int .i64 0],esz:=1,ety:=34,fro:=0,live:=true,arr:=false}),(7,{els:=((S.take (k+1)).map spS).map sgPV,esz:=6,ety:=24,fro:=0,live:=true,arr:=true})]
theorem Zko (S:List (Sg×Int×Int)) (k:Nat): ∀b∈ [1000000,1000001],(lkp (cuB S k) b).isSome=true:=by
 cases k<;>simp [cuB,lkp]
theorem Q30 {S:List (Sg×Int×Int)} {k:Nat} {x:Sg×Int×Int} (hx:S[k]? =some x):((S.take (k+1)).map spS).map sgPV=((S.take k).map spS).map sgPV++[.agg [.int .i64 (spS x).f,.int .i64 (spS x).t,.int .i64 (spS x).o,.slc ((spS x).x.map (PV.int .i64)),.slc ((spS x).y.map (PV.int .i64)),.slc ((spS x).z.map (PV.int .i64))]]:=by
 obtain⟨hk,rfl⟩:=List.getElem?_eq_some_iff.1 hx
 rw [Qbq S k hk,List.map_append,List.map_append];rfl
theorem Q31 {S:List (Sg×Int×Int)} {k:Nat} (h:k≤S.length):(((S.take k).map spS).map sgPV).length=k:=by simp;omega
def cuC (S:List (Sg×Int×Int)) (m k:Nat):List (Nat×Box):=if k=m+1 then [(1000000,{els:=[.nilS],esz:=1,ety:=27,fro:=0,live:=true,arr:=false}),(1000001,{els:=[.int .i64 7],esz:=1,ety:=34,fro:=0,live:=true,arr:=false})]else cuB S k
set_option maxHeartbeats 2000000 in
theorem Q32 (p:List Sg) (f t:Int) (S:List (Sg×Int×Int)) (hS:S.length≤100000) (hY:Qon Tryz.prog 138 [.rp [Qan p],.rp [.int .i64 f],.rp [.int .i64 t]] (S.map spO)):
  Qaf Tryz.prog 68 [Qan p,.int .i64 f,.int .i64 t] (Qlm S):=by
 have h1:=Zbq p f t
 unfold Qan at h1 hY
 by_cases hn:S=[]
 ·subst hn
  unfold Qlm Qan
  refine Qac (tb:=[]) 23 [.cell 6 27,.cell 7 34] [0,1,2,6,7,8,9,13,14,15,17] mixed Tryz.func68 rfl (by kernel_rfl) (by kernel_rfl) (by kernel_rfl) (by kernel_rfl) ?_
  repeat (first|(simp -implicitDefEqProofs only [go_sem,Nat.reduceAdd,Nat.reduceMul,Nat.reduceEqDiff,Nat.reduceLT,Nat.reduceLeDiff,reduceCtorEq])|((with_reducible refine Qab (h1) ?_ ?_ ?_);(with_reducible rfl);rfl))
  refine Qr6 mixed hY rfl rfl _ rfl [(1000000,0),(1000001,1)] [1000000,1000001] rfl [(6,.bp 1000000 1 0 0),(7,.bp 1000001 1 0 0)] (cuB []) rfl rfl ?_ ?_ ?_ 0 .normal (fun h=>by simp at h) (fun k _ _=>Zko [] k) (fun k args h=>by simp at h) rfl (fun k args h=>by simp at h)
   [(0,1000000),(1,1000001)] [(6,.bp 0 1 0 0),(7,.bp 1 1 0 0)] [(0,{els:=[.nilS],esz:=1,ety:=27,fro:=0,live:=true,arr:=false}),(1,{els:=[.int .i64 0],esz:=1,ety:=34,fro:=0,live:=true,arr:=false})] rfl rfl ?_ ?_ (fun _=> ?_) (fun h=>by simp at h)
  ·simp [Qad,lkp,ren1,ren0,Qam]
  ·exact⟨⟨rfl,rfl,rfl,rfl,rfl,.inr ⟨rfl,_,_,rfl,rfl,rfl,rfl⟩⟩,⟨rfl,rfl,rfl,rfl,rfl,.inr ⟨rfl,_,_,rfl,rfl,rfl,rfl⟩⟩,trivial⟩
  ·simp [Qad,lkp,ren1,ren0,Qam,Qt3]
  ·simp [Qad,lkp,ren1,ren0,Qam]
  ·exact⟨⟨rfl,rfl,rfl,rfl,rfl,.inr ⟨rfl,_,_,rfl,rfl,rfl,rfl⟩⟩,⟨rfl,rfl,rfl,rfl,rfl,.inr ⟨rfl,_,_,rfl,rfl,rfl,rfl⟩⟩,trivial⟩
  ·repeat (first|(simp -implicitDefEqProofs only [go_sem,Nat.reduceAdd,Nat.reduceMul,Nat.reduceEqDiff,Nat.reduceLT,Nat.reduceLeDiff,reduceCtorEq,List.map_nil,List.all_nil,if_true]))
 by_cases hall:S.all spF=true
 ·have hfine: ∀(k:Nat) (x:Sg×Int×Int),S[k]? =some x→spF x=true:=fun k x h=>List.all_eq_true.1 hall x (List.mem_of_getElem? h)
  unfold Qlm Qan
  rw [if_pos hall]
  obtain⟨n,hn1⟩: ∃n,S.length=n+1:=⟨S.length-1,by have:=List.length_pos_iff.2 hn;omega⟩
  have hmin:min (S.map spO).length (n+1+1)=n+1:=by rw [List.length_map];omega
  have htk:S.take (n+1)=S:=List.take_of_length_le (by omega)
  refine Qac (tb:=[]) 23 [.cell 6 27,.cell 7 34] [0,1,2,6,7,8,9,13,14,15,17] mixed Tryz.func68 rfl (by kernel_rfl) (by kernel_rfl) (by kernel_rfl) (by kernel_rfl) ?_
  repeat (first|(simp -implicitDefEqProofs only [go_sem,Nat.reduceAdd,Nat.reduceMul,Nat.reduceEqDiff,Nat.reduceLT,Nat.reduceLeDiff,reduceCtorEq])|((with_reducible refine Qab (h1) ?_ ?_ ?_);(with_reducible rfl);rfl))
  refine Qr6 mixed hY rfl rfl _ rfl [(1000000,0),(1000001,1)] [1000000,1000001] rfl [(6,.bp 1000000 1 0 0),(7,.bp 1000001 1 0 0)] (cuB S) rfl rfl ?_ ?_ ?_ (n+1) .normal (fun h=>by simp [hn1]at h) (fun k _ _=>Zko S k) ?_ rfl ?_
   [(0,1000000),(1,1000001),(7,7)] [(6,.bp 0 1 0 0),(7,.bp 1 1 0 0)] [(0,{els:=[.bs 7 6 0 (n+1)],esz:=1,ety:=27,fro:=0,live:=true,arr:=false}),(1,{els:=[.int .i64 0],esz:=1,ety:=34,fro:=0,live:=true,arr:=false}),(7,{els:=(S.map spS).map sgPV,esz:=6,ety:=24,fro:=0,live:=true,arr:=true})] rfl rfl ?_ ?_ (fun _=> ?_) (fun h=>by simp [hn1]at h)
  ·simp [Qad,lkp,ren1,ren0,Qam]
  ·exact⟨⟨rfl,rfl,rfl,rfl,rfl,.inr ⟨rfl,_,_,rfl,rfl,rfl,rfl⟩⟩,⟨rfl,rfl,rfl,rfl,rfl,.inr ⟨rfl,_,_,rfl,rfl,rfl,rfl⟩⟩,trivial⟩
  ·simp [Qad,lkp,ren1,ren0,Qam,Qt3]
  ·intro k args h
   simp only [List.getElem?_map,Option.map_eq_some_iff]at h
   obtain⟨x, -,rfl⟩:=h
   rfl
  ·rintro k args hka hk
   simp only [List.getElem?_map,Option.map_eq_some_iff]at hka
   obtain⟨x,hx,rfl⟩:=hka
   have hkl:k<S.length:=(List.getElem?_eq_some_iff.1 hx).1
   have hlx:=Q30 hx
   cases k with
   |zero=>
    rw [Ql7 (hfine _ _ hx)]
    skip
    simp only [cuB]
    have e0:((S.take 0).map spS).map sgPV=[]:=rfl
    rw [e0,List.nil_append]at hlx
    repeat (first|(simp -implicitDefEqProofs only [go_sem,Nat.reduceAdd,Nat.reduceMul,Nat.reduceEqDiff,Nat.reduceLT,Nat.reduceLeDiff,reduceCtorEq,pvars,List.toList_toArray,sgPV]))
    refine⟨by simp [lkp],?_⟩
    repeat (first|(simp -implicitDefEqProofs only [go_sem,Nat.reduceAdd,Nat.reduceMul,Nat.reduceEqDiff,Nat.reduceLT,Nat.reduceLeDiff,Nat.reduceSub,Nat.reduceBEq,reduceIte,reduceCtorEq,Int.reduceEq,Int.reduceNe,Nat.reduceBneDiff,Int.reduceLE,Int.reduceLT,Int.reduceToNat,Int.reduceAdd,Int.reduceSub,Int.reduceMul,Int.reduceNeg]))
    refine⟨by omega,?_⟩
    skip
    refine Qak (θ:=[(1000000,1000000),(1000001,1000001),(7,603)]) rfl ?_ ?_
    ·simp [Qad,lkp,ren1,ren0,Qam]
    ·simp only [cuB,hlx]
     exact⟨⟨rfl,rfl,rfl,rfl,rfl,.inr ⟨rfl,_,_,rfl,rfl,rfl,rfl⟩⟩,⟨rfl,rfl,rfl,rfl,rfl,.inr ⟨rfl,_,_,rfl,rfl,rfl,rfl⟩⟩,⟨rfl,rfl,rfl,rfl,rfl,.inl ⟨rfl,rfl⟩⟩,trivial⟩
   |succ k=>
    rw [Ql7 (hfine _ _ hx)]
    skip
    simp only [cuB]
    have b1:=Q31 (S:=S) (k:=k+1) (by omega)
    have b2:((((S.take (k+1)).map spS).map sgPV).flatMap PV.cells).all PV.okCell=true:=Qfn _
    have c1:((k+1+1)*96≤140737488355328)=True:=eq_true (by omega)
    have c2:(k+1+1≤maxLen)=True:=eq_true (by unfold maxLen;omega)
    generalize hT:((S.take (k+1)).map spS).map sgPV=T at*
    repeat (first|(simp -implicitDefEqProofs only [go_sem,Nat.reduceAdd,Nat.reduceMul,Nat.reduceEqDiff,Nat.reduceLT,Nat.reduceLeDiff,reduceCtorEq,Nat.reduceBneDiff,pvars,List.toList_toArray,sgPV]))
    refine⟨by simp [lkp],?_⟩
    repeat (first|(simp -implicitDefEqProofs only [go_sem,Nat.reduceAdd,Nat.reduceEqDiff,reduceCtorEq,b1,b2,c1,c2]))
    refine⟨by omega,?_⟩
    skip
    refine Qak (θ:=[(1000000,1000000),(1000001,1000001),(7,603)]) rfl ?_ ?_
    ·simp [Qad,lkp,ren1,ren0,Qam]
    ·simp only [cuB,hlx]
     exact⟨⟨rfl,rfl,rfl,rfl,rfl,.inr ⟨rfl,_,_,rfl,rfl,rfl,rfl⟩⟩,⟨rfl,rfl,rfl,rfl,rfl,.inr ⟨rfl,_,_,rfl,rfl,rfl,rfl⟩⟩,⟨rfl,rfl,rfl,rfl,rfl,.inl ⟨rfl,rfl⟩⟩,trivial⟩
  ·simp [Qad,lkp,ren1,ren0,Qam]
  ·rw [hmin]
   simp only [cuB]
   rw [htk]
   exact⟨⟨rfl,rfl,rfl,rfl,rfl,.inr ⟨rfl,_,_,rfl,rfl,rfl,rfl⟩⟩,⟨rfl,rfl,rfl,rfl,rfl,.inr ⟨rfl,_,_,rfl,rfl,rfl,rfl⟩⟩,⟨rfl,rfl,rfl,rfl,rfl,.inl ⟨rfl,rfl⟩⟩,trivial⟩
  ·have b1:((S.map spS).map sgPV).length=n+1:=by simp [hn1]
   have b2:(((S.map spS).map sgPV).flatMap PV.cells).all PV.okCell=true:=Qfn _
   have b3:((S.map spS).map sgPV).take (n+1)=(S.map spS).map sgPV:=List.take_of_length_le (by omega)
   generalize (S.map spS).map sgPV=T at*
   repeat (first|(simp -implicitDefEqProofs only [go_sem,Nat.reduceAdd,Nat.reduceMul,Nat.reduceEqDiff,Nat.reduceLT,Nat.reduceLeDiff,reduceCtorEq,b1,b2,b3]))
 ·obtain⟨m,hm,hbad,hf⟩: ∃m,∃h:m<S.length,spF S[m]=false∧ ∀k,k<m→ ∀x,S[k]? =some x→spF x=true:=by
   have hex: ∃x∈S,(!spF x)=true:=Classical.byContradiction fun h=>hall (List.all_eq_true.2 fun x hx=>by
    cases e:spF x with
    |true=>rfl
    |false=>exact(h ⟨x,hx,by rw [e];rfl⟩).elim)
   have hlt:=List.findIdx_lt_length_of_exists hex
   refine⟨S.findIdx fun x=> !spF x,hlt,?_,fun k hk x hx=> ?_⟩
   ·have:=List.findIdx_getElem (w:=hlt);simpa using this
   ·obtain⟨hk2,rfl⟩:=List.getElem?_eq_some_iff.1 hx
    have:=List.not_of_lt_findIdx hk;simpa using this
  have hB1: ∀k,k≤m→cuC S m k=cuB S k:=fun k h=>if_neg (by omega)
  have hB2:cuC S m (m+1)=[(1000000,{els:=[.nilS],esz:=1,ety:=27,fro:=0,live:=true,arr:=false}),(1000001,{els:=[.int .i64 7],esz:=1,ety:=34,fro:=0,live:=true,arr:=false})]:=if_pos rfl
  have hN: ∀k,∀b∈ [1000000,1000001],(lkp (cuC S m k) b).isSome=true:=by
   intro k
   by_cases h:k=m+1
   ·rw [h,hB2];simp [lkp]
   ·rw [show cuC S m k=cuB S k from if_neg h];exact Zko S k
  have hmin:min (S.map spO).length (m+1)=m+1:=by rw [List.length_map];omega
  have hC0:cuC S m 0=[(1000000,{els:=[.nilS],esz:=1,ety:=27,fro:=0,live:=true,arr:=false}),(1000001,{els:=[.int .i64 0],esz:=1,ety:=34,fro:=0,live:=true,arr:=false})]:=hB1 0 (Nat.zero_le _)
  unfold Qlm Qan
  rw [if_neg hall]
  refine Qac (tb:=[]) 23 [.cell 6 27,.cell 7 34] [0,1,2,6,7,8,9,13,14,15,17] mixed Tryz.func68 rfl (by kernel_rfl) (by kernel_rfl) (by kernel_rfl) (by kernel_rfl) ?_
  repeat (first|(simp -implicitDefEqProofs only [go_sem,Nat.reduceAdd,Nat.reduceMul,Nat.reduceEqDiff,Nat.reduceLT,Nat.reduceLeDiff,reduceCtorEq])|((with_reducible refine Qab (h1) ?_ ?_ ?_);(with_reducible rfl);rfl))
  refine Qr6 mixed hY rfl rfl _ rfl [(1000000,0),(1000001,1)] [1000000,1000001] rfl [(6,.bp 1000000 1 0 0),(7,.bp 1000001 1 0 0)] (cuC S m) rfl (by rw [hC0];rfl) ?_ ?_ ?_ m .ret (fun _=>rfl) (fun k _ _=>hN k) ?_ rfl ?_
   [(0,1000000),(1,1000001)] [(6,.bp 0 1 0 0),(7,.bp 1 1 0 0)] [(0,{els:=[.nilS],esz:=1,ety:=27,fro:=0,live:=true,arr:=false}),(1,{els:=[.int .i64 7],esz:=1,ety:=34,fro:=0,live:=true,arr:=false})] rfl rfl ?_ ?_ (fun h=>by rw [List.length_map]at h;omega) (fun _=> ?_)
  ·simp [Qad,lkp,ren1,ren0,Qam]
  ·rw [hC0]
   exact⟨⟨rfl,rfl,rfl,rfl,rfl,.inr ⟨rfl,_,_,rfl,rfl,rfl,rfl⟩⟩,⟨rfl,rfl,rfl,rfl,rfl,.inr ⟨rfl,_,_,rfl,rfl,rfl,rfl⟩⟩,trivial⟩
  ·simp [Qad,lkp,ren1,ren0,Qam,Qt3]
  ·intro k args h
   simp only [List.getElem?_map,Option.map_eq_some_iff]at h
   obtain⟨x, -,rfl⟩:=h
   rfl
  ·rintro k args hka hk
   simp only [List.getElem?_map,Option.map_eq_some_iff]at hka
   obtain⟨x,hx,rfl⟩:=hka
   by_cases hkm:k<m
   ·skip
    have hkl:k<S.length:=(List.getElem?_eq_some_iff.1 hx).1
    have hlx:=Q30 hx
    cases k with
    |zero=>
     rw [Ql7 (hf _ hkm x hx)]
     rw [hB1 _ (Nat.le_of_lt hkm)]
     simp only [cuB]
     have e0:((S.take 0).map spS).map sgPV=[]:=rfl
     rw [e0,List.nil_append]at hlx
     repeat (first|(simp -implicitDefEqProofs only [go_sem,Nat.reduceAdd,Nat.reduceMul,Nat.reduceEqDiff,Nat.reduceLT,Nat.reduceLeDiff,reduceCtorEq,pvars,List.toList_toArray,sgPV]))
     refine⟨by simp [lkp],?_⟩
     repeat (first|(simp -implicitDefEqProofs only [go_sem,Nat.reduceAdd,Nat.reduceMul,Nat.reduceEqDiff,Nat.reduceLT,Nat.reduceLeDiff,Nat.reduceSub,Nat.reduceBEq,reduceIte,reduceCtorEq,Int.reduceEq,Int.reduceNe,Nat.reduceBneDiff,Int.reduceLE,Int.reduceLT,Int.reduceToNat,Int.reduceAdd,Int.reduceSub,Int.reduceMul,Int.reduceNeg]))
     refine⟨hkm,?_⟩
     rw [hB1 _ (by omega)]
     refine Qak (θ:=[(1000000,1000000),(1000001,1000001),(7,603)]) rfl ?_ ?_
     ·simp [Qad,lkp,ren1,ren0,Qam]
     ·simp only [cuB,hlx]
      exact⟨⟨rfl,rfl,rfl,rfl,rfl,.inr ⟨rfl,_,_,rfl,rfl,rfl,rfl⟩⟩,⟨rfl,rfl,rfl,rfl,rfl,.inr ⟨rfl,_,_,rfl,rfl,rfl,rfl⟩⟩,⟨rfl,rfl,rfl,rfl,rfl,.inl ⟨rfl,rfl⟩⟩,trivial⟩
    |succ k=>
     rw [Ql7 (hf _ hkm x hx)]
     rw [hB1 _ (Nat.le_of_lt hkm)]
     simp only [cuB]
     have b1:=Q31 (S:=S) (k:=k+1) (by omega)
     have b2:((((S.take (k+1)).map spS).map sgPV).flatMap PV.cells).all PV.okCell=true:=Qfn _
     have c1:((k+1+1)*96≤140737488355328)=True:=eq_true (by omega)
     have c2:(k+1+1≤maxLen)=True:=eq_true (by unfold maxLen;omega)
     generalize hT:((S.take (k+1)).map spS).map sgPV=T at*
     repeat (first|(simp -implicitDefEqProofs only [go_sem,Nat.reduceAdd,Nat.reduceMul,Nat.reduceEqDiff,Nat.reduceLT,Nat.reduceLeDiff,reduceCtorEq,Nat.reduceBneDiff,pvars,List.toList_toArray,sgPV]))
     refine⟨by simp [lkp],?_⟩
     repeat (first|(simp -implicitDefEqProofs only [go_sem,Nat.reduceAdd,Nat.reduceEqDiff,reduceCtorEq,b1,b2,c1,c2]))
     refine⟨hkm,?_⟩
     rw [hB1 _ (by omega)]
     refine Qak (θ:=[(1000000,1000000),(1000001,1000001),(7,603)]) rfl ?_ ?_
     ·simp [Qad,lkp,ren1,ren0,Qam]
     ·simp only [cuB,hlx]
      exact⟨⟨rfl,rfl,rfl,rfl,rfl,.inr ⟨rfl,_,_,rfl,rfl,rfl,rfl⟩⟩,⟨rfl,rfl,rfl,rfl,rfl,.inr ⟨rfl,_,_,rfl,rfl,rfl,rfl⟩⟩,⟨rfl,rfl,rfl,rfl,rfl,.inl ⟨rfl,rfl⟩⟩,trivial⟩
   ·obtain rfl:k=m:=by omega
    have hxb:spF x=false:=by
     obtain⟨_,rfl⟩:=List.getElem?_eq_some_iff.1 hx
     exact hbad
    rw [Zkn hxb,hB1 _ (Nat.le_refl _)]
    cases k with
    |zero=>
     simp only [cuB]
     repeat (first|(simp -implicitDefEqProofs only [go_sem,Nat.reduceAdd,Nat.reduceMul,Nat.reduceEqDiff,Nat.reduceLT,Nat.reduceLeDiff,reduceCtorEq,pvars,List.toList_toArray,sgPV]))
     refine⟨by simp [lkp],?_⟩
     repeat (first|(simp -implicitDefEqProofs only [go_sem,Nat.reduceAdd,Nat.reduceMul,Nat.reduceEqDiff,Nat.reduceLT,Nat.reduceLeDiff,Nat.reduceSub,Nat.reduceBEq,reduceIte,reduceCtorEq,Int.reduceEq,Int.reduceNe,Nat.reduceBneDiff,Int.reduceLE,Int.reduceLT,Int.reduceToNat,Int.reduceAdd,Int.reduceSub,Int.reduceMul,Int.reduceNeg]))
     refine⟨rfl,rfl,?_⟩
     rw [hB2]
     refine Qak (θ:=[(1000000,1000000),(1000001,1000001)]) rfl ?_ ?_
     ·simp [Qad,lkp,ren1,ren0,Qam]
     ·exact⟨⟨rfl,rfl,rfl,rfl,rfl,.inr ⟨rfl,_,_,rfl,rfl,rfl,rfl⟩⟩,⟨rfl,rfl,rfl,rfl,rfl,.inr ⟨rfl,_,_,rfl,rfl,rfl,rfl⟩⟩,trivial⟩
    |succ k=>
     simp only [cuB]
     generalize hT:((S.take (k+1)).map spS).map sgPV=T at*
     repeat (first|(simp -implicitDefEqProofs only [go_sem,Nat.reduceAdd,Nat.reduceMul,Nat.reduceEqDiff,Nat.reduceLT,Nat.reduceLeDiff,reduceCtorEq,pvars,List.toList_toArray,sgPV]))
     refine⟨by simp [lkp],?_⟩
     repeat (first|(simp -implicitDefEqProofs only [go_sem,Nat.reduceAdd,Nat.reduceMul,Nat.reduceEqDiff,Nat.reduceLT,Nat.reduceLeDiff,Nat.reduceSub,Nat.reduceBEq,reduceIte,reduceCtorEq,Int.reduceEq,Int.reduceNe,Nat.reduceBneDiff,Int.reduceLE,Int.reduceLT,Int.reduceToNat,Int.reduceAdd,Int.reduceSub,Int.reduceMul,Int.reduceNeg]))
     refine⟨rfl,rfl,?_⟩
     rw [hB2]
     refine Qak (θ:=[(1000000,1000000),(1000001,1000001)]) rfl ?_ ?_
     ·simp [Qad,lkp,ren1,ren0,Qam]
     ·exact⟨⟨rfl,rfl,rfl,rfl,rfl,.inr ⟨rfl,_,_,rfl,rfl,rfl,rfl⟩⟩,⟨rfl,rfl,rfl,rfl,rfl,.inr ⟨rfl,_,_,rfl,rfl,rfl,rfl⟩⟩,trivial⟩
  ·simp [Qad,lkp,ren1,ren0,Qam]
  ·rw [hmin,hB2]
   exact⟨⟨rfl,rfl,rfl,rfl,rfl,.inr ⟨rfl,_,_,rfl,rfl,rfl,rfl⟩⟩,⟨rfl,rfl,rfl,rfl,rfl,.inr ⟨rfl,_,_,rfl,rfl,rfl,rfl⟩⟩,trivial⟩
  ·rw [Zs4]
   repeat (first|(simp -implicitDefEqProofs only [go_sem,Nat.reduceEqDiff,reduceCtorEq,List.map_nil]))
end Go.Proofs.YtlpiamlgibomhaaGreat

namespace Go.Proofs.YtlpiamlgibomhaaGreat
open Go.Vl Go.RowKit Go.Dg
def Qk2 (p:List Sg) (f t:Int):PV:=if Qa4 p=true then(if pBeg p≤f∧f<t∧t≤pEnd p then Qlm (spans p f t)else .tup [Qan [],.int .i64 3])else .tup [Qan [],.int .i64 2]
theorem Zbr (S:List (Sg×Int×Int)): ∃X n,Qlm S= .tup [Qan X,.int .i64 n]:=by
 unfold Qlm;split<;>exact⟨_,_,rfl⟩
theorem Qfo {p:List Sg} (h:Qa4 p=true): ∀s∈p,Qav s=true:=by
 intro s hs
 obtain⟨i,hi,rfl⟩:=List.getElem_of_mem hs
 exact Qbp h i hi
theorem Qsu (p:List Sg) (f t:Int) (hp: ∀s∈p,okSg s) (hl:p.length≤100000):Qaf Tryz.prog 23 [Qan p,.int .i64 f,.int .i64 t] (Qk2 p f t):=by
 have hs:=Qq9 p hp (by omega)
 unfold Qk2
 unfold Qan at hs
 cases hV:Qa4 p with
 |false=>
  rw [hV]at hs
  simp only [Bool.false_eq_true,if_false]at hs
  unfold Qan
  refine Qac (tb:=[]) 41 [.tmp 6,.tmp 7] [0,1,2,6,7,8,9,10,17,21] mixed Tryz.func23 rfl (by kernel_rfl) (by kernel_rfl) (by kernel_rfl) (by kernel_rfl) ?_
  repeat (first|(simp -implicitDefEqProofs only [go_sem,Nat.reduceAdd,Nat.reduceMul,Nat.reduceEqDiff,Nat.reduceLT,Nat.reduceLeDiff,reduceCtorEq,Zbz,Bool.false_eq_true,if_false,List.map_nil])|((with_reducible refine Qab (hs) ?_ ?_ ?_);(with_reducible rfl);rfl))
 |true=>
  rw [hV]at hs
  simp only [if_true]at hs ⊢
  have hv:=Qfo hV
  have hc:=Q32 p f t (spans p f t) (Nat.le_trans (Qb7 _ _ _) hl) (Qnf p f t hp hv hl)
  obtain⟨X,n,hX⟩:=Zbr (spans p f t)
  rw [hX]at hc ⊢
  unfold Qan at hc ⊢
  generalize pBeg p=A at*
  generalize pEnd p=B at*
  by_cases h1:A≤f
  ·have h1':(f<A)=False:=eq_false (by omega)
   by_cases h2:f<t
   ·have h2':(t≤f)=False:=eq_false (by omega)
    by_cases h3:t≤B
    ·have h3':(B<t)=False:=eq_false (by omega)
     rw [if_pos ⟨h1,h2,h3⟩]
     refine Qac (tb:=[]) 41 [.tmp 6,.tmp 7] [0,1,2,6,7,8,9,10,17,21] mixed Tryz.func23 rfl (by kernel_rfl) (by kernel_rfl) (by kernel_rfl) (by kernel_rfl) ?_
     repeat (first|(simp -implicitDefEqProofs only [go_sem,Nat.reduceAdd,Nat.reduceMul,Nat.reduceEqDiff,Nat.reduceLT,Nat.reduceLeDiff,reduceCtorEq,Qf5,h1',h2',h3',decide_false])|((with_reducible refine Qab (hs) ?_ ?_ ?_);(with_reducible rfl);rfl)|((with_reducible refine Qab (hc) ?_ ?_ ?_);(with_reducible rfl);rfl))
    ·have h3':(B<t)=True:=eq_true (by omega)
     rw [if_neg (by omega)]
     refine Qac (tb:=[]) 41 [.tmp 6,.tmp 7] [0,1,2,6,7,8,9,10,17,21] mixed Tryz.func23 rfl (by kernel_rfl) (by kernel_rfl) (by kernel_rfl) (by kernel_rfl) ?_
     repeat (first|(simp -implicitDefEqProofs only [go_sem,Nat.reduceAdd,Nat.reduceMul,Nat.reduceEqDiff,Nat.reduceLT,Nat.reduceLeDiff,reduceCtorEq,Qf5,h1',h2',h3',decide_false,decide_true,List.map_nil])|((with_reducible refine Qab (hs) ?_ ?_ ?_);(with_reducible rfl);rfl))
   ·have h2':(t≤f)=True:=eq_true (by omega)
    rw [if_neg (by omega)]
    refine Qac (tb:=[]) 41 [.tmp 6,.tmp 7] [0,1,2,6,7,8,9,10,17,21] mixed Tryz.func23 rfl (by kernel_rfl) (by kernel_rfl) (by kernel_rfl) (by kernel_rfl) ?_
    repeat (first|(simp -implicitDefEqProofs only [go_sem,Nat.reduceAdd,Nat.reduceMul,Nat.reduceEqDiff,Nat.reduceLT,Nat.reduceLeDiff,reduceCtorEq,Qf5,h1',h2',decide_false,decide_true,List.map_nil])|((with_reducible refine Qab (hs) ?_ ?_ ?_);(with_reducible rfl);rfl))
  ·have h1':(f<A)=True:=eq_true (by omega)
   rw [if_neg (by omega)]
   refine Qac (tb:=[]) 41 [.tmp 6,.tmp 7] [0,1,2,6,7,8,9,10,17,21] mixed Tryz.func23 rfl (by kernel_rfl) (by kernel_rfl) (by kernel_rfl) (by kernel_rfl) ?_
   repeat (first|(simp -implicitDefEqProofs only [go_sem,Nat.reduceAdd,Nat.reduceMul,Nat.reduceEqDiff,Nat.reduceLT,Nat.reduceLeDiff,reduceCtorEq,Qf5,h1',decide_false,decide_true,List.map_nil])|((with_reducible refine Qab (hs) ?_ ?_ ?_);(with_reducible rfl);rfl))
theorem Ztj (p:List Sg):Qaf Tryz.prog 77 [Qan p] (.fn 112 [] [.rp [Qan p]]):=by
 refine Qac (tb:=[]) 4 [.tmp 2] [0,1,2] mixed Tryz.func77 rfl (by kernel_rfl) (by kernel_rfl) (by kernel_rfl) (by kernel_rfl) ?_
 repeat (first|(simp -implicitDefEqProofs only [go_sem,Nat.reduceAdd,Nat.reduceMul,Nat.reduceEqDiff,Nat.reduceLT,Nat.reduceLeDiff,reduceCtorEq,Qan]))
def bwdO (p:List Sg) (j:Nat):List PV:=[.int .i64 ((p.length-1-j:Nat):Int),sgPV (p.getD (p.length-1-j) sg0)]
def Qej (p:List Sg):List (List PV):=(List.range p.length).map (bwdO p)
theorem Qzs {p:List Sg} {k:Nat} (h:k<p.length):(Qej p).take (k+1)=(Qej p).take k++[bwdO p k]:=by
 have hk:k<(Qej p).length:=by simp [Qej,h]
 rw [Qbq _ k hk];simp [Qej]
set_option maxHeartbeats 1000000 in
theorem Zqj (p:List Sg) (hl:p.length≤100000):Qon Tryz.prog 112 [.rp [Qan p]] (Qej p):=by
 have w0:IntKind.i64.wrap ((p.length:Int)-1)=(p.length:Int)-1:=Qai (by omega) (by omega)
 refine Qt4 (tb:=[]) 19 [0,1,3,8,18] mixed Tryz.func112 rfl (by kernel_rfl) (by kernel_rfl) (by kernel_rfl) (by kernel_rfl) fun l stop=> ?_
 repeat (first|(simp -implicitDefEqProofs only [go_sem,Nat.reduceAdd,Nat.reduceMul,Nat.reduceEqDiff,Nat.reduceLT,Nat.reduceLeDiff,reduceCtorEq,Qan,w0,List.length_map]))
 refine Qas mixed (fun k:{k:Nat // k≤p.length∧k≤stop}=>St.ofG [(0,.yld l stop),(1,.rp [Qan p]),(3,.int .i64 ((p.length:Int)-1-(k.1:Int)))] [] ((Qej p).take k.1) (some (l,stop,Qej p))) (fun k=>p.length-k.1) ⟨0,Nat.zero_le _,Nat.zero_le _⟩ ?_ ?_
 ·refine Qa3 ?_
  simp [Qad,lkp,ren1,ren0,Qam,Qan]
 ·rintro⟨k,hk,hst⟩
  simp only
  by_cases hA:k<p.length
  ·have e1:(p.length:Int)-1-(k:Int)=((p.length-1-k:Nat):Int):=by omega
   have n0:=nnT (p.length-1-k)
   have hi:p.length-1-k<p.length:=by omega
   have hg:=Qci p (p.length-1-k) hi
   have hgt:(Qej p)[((Qej p).take k).length]? =some (bwdO p k):=by
    have:((Qej p).take k).length=k:=by rw [List.length_take];simp [Qej];omega
    rw [this];simp [Qej,hA]
   have hlen:((Qej p).take k).length=k:=by rw [List.length_take];simp [Qej];omega
   have hst':(k≤stop)=True:=eq_true hst
   have htk:=Qzs hA
   have hO:bwdO p k=[.int .i64 ((p.length-1-k:Nat):Int),sgPV p[p.length-1-k]]:=by unfold bwdO;rw [sgD hi]
   rw [hO]at hgt htk
   unfold sgPV Qaq at hgt htk
   have w1:IntKind.i64.wrap (((p.length-1-k:Nat):Int)-1)=(p.length:Int)-1-((k+1:Nat):Int):=by rw [Qai (by omega) (by omega)];omega
   rw [hlen]at hgt
   generalize p[p.length-1-k]=s at*
   rw [e1]
   by_cases hlt:k<stop
   ·have hlt':(k<stop)=True:=eq_true hlt
    repeat (first|(simp -implicitDefEqProofs only [go_sem,Nat.reduceAdd,Nat.reduceMul,Nat.reduceEqDiff,Nat.reduceLT,Nat.reduceLeDiff,reduceCtorEq,n0,hg,hlen,hgt,hst',hlt',w1,Int.toNat_natCast,List.length_map]))
    refine⟨⟨k+1,hA,hlt⟩,by simp only;omega,?_⟩
    simp only [htk]
    refine Qa3 ?_
    simp [Qad,lkp,ren1,ren0,Qam,Qan]
   ·have hlt':(k<stop)=False:=eq_false hlt
    have e:k=stop:=by omega
    subst e
    repeat (first|(simp -implicitDefEqProofs only [go_sem,Nat.reduceAdd,Nat.reduceMul,Nat.reduceEqDiff,Nat.reduceLT,Nat.reduceLeDiff,reduceCtorEq,n0,hg,hlen,hgt,hst',hlt',w1,Qo3,htk,Int.toNat_natCast,List.length_map]))
  ·have e1:(p.length:Int)-1-(k:Int)= -1:=by omega
   have ht:(Qej p).take (stop+1)=(Qej p).take k:=by
    rw [List.take_of_length_le (by simp [Qej];omega),List.take_of_length_le (by simp [Qej];omega)]
   rw [e1]
   repeat (first|(simp -implicitDefEqProofs only [go_sem,Nat.reduceAdd,Nat.reduceMul,Nat.reduceEqDiff,Nat.reduceLT,Nat.reduceLeDiff,reduceCtorEq,Int.reduceLE,Int.reduceNeg,Qo3,ht,List.length_map]))
end Go.Proofs.YtlpiamlgibomhaaGreat

namespace Go.Proofs.YtlpiamlgibomhaaGreat
open Go.Vl Go.RowKit Go.Dg
theorem Zkp (l:List Int):((l.map (PV.int .i64)).all fun e=>e.cells.length==1&&e.cells.all PV.okCell)=true:=by
 rw [List.all_map,List.all_eq_true];intro _ _;rfl
theorem Qu4 (l:List Int) (hl:l≠ []) (hl2:l.length≤100000):Qaf Tryz.prog 75 [Qaq l] (Qaq l):=by
 have h0:(l.map (PV.int .i64)).isEmpty=false:=by cases l with|nil=>exact absurd rfl hl|cons=>rfl
 have h1:(l.length*8≤140737488355328)=True:=eq_true (by omega)
 have h2:(l.length≤maxLen)=True:=eq_true (by unfold maxLen;omega)
 have h3:(l.map (PV.int .i64)).take l.length=l.map (PV.int .i64):=List.take_of_length_le (by simp)
 have h4:=Qkg l
 refine Qac (tb:=[]) 8 [.tmp 2] [0,2,4] mixed Tryz.func75 rfl (by kernel_rfl) (by kernel_rfl) (by kernel_rfl) (by kernel_rfl) ?_
 repeat (first|(simp -implicitDefEqProofs only [go_sem,Nat.reduceAdd,Nat.reduceMul,Nat.reduceEqDiff,Nat.reduceLT,Nat.reduceLeDiff,reduceCtorEq,h0,List.length_map,h1,h2,h3,h4,Zkp]))
def okNe (p:List Sg):Prop:= ∀s∈p,∀c∈s.ax,c≠ []∧c.length≤100000
set_option maxHeartbeats 1000000 in
theorem Q33 (p:List Sg) (hl:p.length≤100000) (hne:okNe p):Qcx Tryz.prog 34 [Qan p] [] (.bs 7 6 0 p.length) [(7,{els:=p.map sgPV,esz:=6,ety:=24,fro:=0,live:=true,arr:=true})]:=by
 refine Qb2 (tb:=[]) 30 [.tmp 2] [0,2,3,5,6,7,8,9] mixed Tryz.func34 rfl (by kernel_rfl) (by kernel_rfl) (by kernel_rfl) (by kernel_rfl) (by rfl) ?_
 repeat (first|(simp -implicitDefEqProofs only [go_sem,Nat.reduceAdd,Nat.reduceMul,Nat.reduceEqDiff,Nat.reduceLT,Nat.reduceLeDiff,reduceCtorEq,Qan,List.length_map])|(with_reducible exact Qaa _ _ (by kernel_rfl))|(with_reducible refine And.intro (Qaa _ _ (by kernel_rfl)) ?_))
 refine Qas mixed (fun i:{i:Nat // i≤p.length}=>St.of [(3,.bs 7 6 0 i.1),(6,Qan p),(7,.int .i64 (p.length:Int)),(8,.int .i64 (i.1:Int))]
  [(7,{els:=(p.take i.1).map sgPV,esz:=6,ety:=24,fro:=0,live:=true,arr:=true})]) (fun i=>p.length-i.1) ⟨0,Nat.zero_le _⟩ ?_ ?_
 ·refine Qhd 3 7 6 24 rfl rfl rfl (by decide) [(7,7)] rfl ?_ ?_
  ·simp [Qad,lkp,ren1,ren0,Qam,Qan]
  ·exact⟨⟨rfl,rfl,rfl,rfl,rfl,.inl ⟨rfl,rfl⟩⟩,trivial⟩
 ·rintro⟨i,hi⟩
  by_cases hA:i<p.length
  ·have hA':=ltT hA
   have n0:=nnT i
   have hg:=Qci p i hA
   have hwk:=Qah (a:=i) (by omega)
   have hs:=hne _ (List.getElem_mem hA)
   have c1:=hs p[i].x (by simp [Sg.ax])
   have c2:=hs p[i].y (by simp [Sg.ax])
   have c3:=hs p[i].z (by simp [Sg.ax])
   have f1:=Qu4 _ c1.1 c1.2
   have f2:=Qu4 _ c2.1 c2.2
   have f3:=Qu4 _ c3.1 c3.2
   have hlt:((p.take i).map sgPV).length=i:=by simp;omega
   have hok:=Qfn (p.take i)
   have k1:((i+1)*96≤140737488355328)=True:=eq_true (by omega)
   have k2:(i+1≤maxLen)=True:=eq_true (by unfold maxLen;omega)
   have hts:(p.take (i+1)).map sgPV=(p.take i).map sgPV++[sgPV p[i]]:=by rw [Qbq p i hA,List.map_append];rfl
   generalize (p.take i).map sgPV=T at*
   generalize p[i]=s at*
   repeat (first|(simp -implicitDefEqProofs only [go_sem,Nat.reduceAdd,Nat.reduceMul,Nat.reduceEqDiff,Nat.reduceLT,Nat.reduceLeDiff,reduceCtorEq,Nat.reduceBneDiff,hA',n0,hg,hwk,hlt,hok,k1,k2,Int.toNat_natCast,List.length_map])|((with_reducible refine Qab (f1) ?_ ?_ ?_);(with_reducible rfl);rfl)|((with_reducible refine Qab (f2) ?_ ?_ ?_);(with_reducible rfl);rfl)|((with_reducible refine Qab (f3) ?_ ?_ ?_);(with_reducible rfl);rfl)|(with_reducible exact Qaa _ _ (by kernel_rfl))|(with_reducible refine And.intro (Qaa _ _ (by kernel_rfl)) ?_))
   refine⟨⟨i+1,hA⟩,by simp only;omega,Qak (θ:=[(7,603)]) rfl ?_ ?_⟩
   ·simp [Qad,lkp,ren1,ren0,Qam,Qan]
   ·simp only [hts]
    exact⟨⟨rfl,rfl,rfl,rfl,rfl,.inl ⟨rfl,rfl⟩⟩,trivial⟩
  ·have hA':=ltF hA
   obtain rfl:i=p.length:=by omega
   have ht:p.take p.length=p:=List.take_length
   simp only [ht]
   repeat (first|(simp -implicitDefEqProofs only [go_sem,Nat.reduceAdd,Nat.reduceMul,Nat.reduceEqDiff,Nat.reduceLT,Nat.reduceLeDiff,reduceCtorEq,hA'])|(with_reducible exact Qaa _ _ (by kernel_rfl))|(with_reducible refine And.intro (Qaa _ _ (by kernel_rfl)) ?_))
   refine Qbm (.inl rfl) ?_
   simp -implicitDefEqProofs only [go_sem,Nat.reduceEqDiff]
   refine Qak (θ:=[(7,7)]) rfl ?_ ?_
   ·simp [Qad,lkp,ren1,ren0,Qam]
   ·exact⟨⟨rfl,rfl,rfl,rfl,rfl,.inl ⟨rfl,rfl⟩⟩,trivial⟩
end Go.Proofs.YtlpiamlgibomhaaGreat

namespace Go.Proofs.YtlpiamlgibomhaaGreat
open Go.Vl Go.RowKit Go.Dg
theorem Q34 (l:List Sg):((l.map sgPV).all fun e=>e.cells.length==6&&e.cells.all PV.okCell)=true:=by
 rw [List.all_map,List.all_eq_true];intro _ _;rfl
theorem Qpp {p:List Sg} (h:Qa4 p=true):okNe p:=by
 intro s hs c hc
 obtain⟨l1,l6, -, -⟩:=Qb5 ((Qao (Qfo h s hs)).2.1 c hc)
 exact⟨List.length_pos_iff.1 l1,by omega⟩
def Qng (a b:List Sg):Bool:=Qc1 (a.getD (a.length-1) sg0) (b.getD 0 sg0)
def Qu5 (a b:List Sg):PV:=if Qa4 a=true∧Qa4 b=true then(if Qng a b=true then(if a.length+b.length≤256 then .tup [Qan (a++b),.int .i64 0]else .tup [Qan [],.int .i64 7])else .tup [Qan [],.int .i64 10])else .tup [Qan [],.int .i64 2]
set_option maxHeartbeats 2000000 in
theorem Qnh (a b:List Sg) (ha: ∀s∈a,okSg s) (hb: ∀s∈b,okSg s) (hla:a.length≤100000) (hlb:b.length≤100000):Qaf Tryz.prog 27 [Qan a,Qan b] (Qu5 a b):=by
 have v1:=Qcu a ha (by omega)
 have v2:=Qcu b hb (by omega)
 unfold Qu5
 cases hA:Qa4 a with
 |false=>
  rw [hA]at v1
  rw [if_neg (by simp)]
  unfold Qan at v1 ⊢
  refine Qac (tb:=[]) 39 [.tmp 4,.tmp 5] [0,1,4,5,6,15,27] mixed Tryz.func27 rfl (by kernel_rfl) (by kernel_rfl) (by kernel_rfl) (by kernel_rfl) ?_
  repeat (first|(simp -implicitDefEqProofs only [go_sem,Nat.reduceAdd,Nat.reduceMul,Nat.reduceEqDiff,Nat.reduceLT,Nat.reduceLeDiff,reduceCtorEq,Bool.not_false,List.map_nil])|((with_reducible refine Qab (v1) ?_ ?_ ?_);(with_reducible rfl);rfl)|(with_reducible exact Qaa _ _ (by kernel_rfl))|(with_reducible refine And.intro (Qaa _ _ (by kernel_rfl)) ?_))
 |true=>
  rw [hA]at v1
  cases hB:Qa4 b with
  |false=>
   rw [hB]at v2
   rw [if_neg (by simp)]
   unfold Qan at v1 v2 ⊢
   refine Qac (tb:=[]) 39 [.tmp 4,.tmp 5] [0,1,4,5,6,15,27] mixed Tryz.func27 rfl (by kernel_rfl) (by kernel_rfl) (by kernel_rfl) (by kernel_rfl) ?_
   repeat (first|(simp -implicitDefEqProofs only [go_sem,Nat.reduceAdd,Nat.reduceMul,Nat.reduceEqDiff,Nat.reduceLT,Nat.reduceLeDiff,reduceCtorEq,Bool.not_false,Bool.not_true,List.map_nil])|((with_reducible refine Qab (v1) ?_ ?_ ?_);(with_reducible rfl);rfl)|((with_reducible refine Qab (v2) ?_ ?_ ?_);(with_reducible rfl);rfl)|(with_reducible exact Qaa _ _ (by kernel_rfl))|(with_reducible refine And.intro (Qaa _ _ (by kernel_rfl)) ?_))
  |true=>
   rw [hB]at v2
   rw [if_pos ⟨rfl,rfl⟩]
   obtain⟨-,a1,a2⟩:=Qba hA
   obtain⟨-,b1,b2⟩:=Qba hB
   have hia:a.length-1<a.length:=by omega
   have hib:0<b.length:=by omega
   have ga:=Qci a (a.length-1) hia
   have gb:=Qci b 0 hib
   have hm:=Qx1 a[a.length-1] b[0] (ha _ (List.getElem_mem hia)) (hb _ (List.getElem_mem hib)) (Qbp hA _ hia) (Qbp hB _ hib)
   have hML:Qng a b=Qc1 a[a.length-1] b[0]:=by unfold Qng;rw [sgD hia,sgD hib]
   have wl:=Qd0 (n:=a.length) (by omega) (by omega)
   have n0:=nnT (a.length-1)
   rw [hML]
   unfold Qan at v1 v2
   unfold sgPV Qaq at hm
   cases hMM:Qc1 a[a.length-1] b[0]with
   |false=>
    rw [hMM]at hm
    rw [if_neg (by simp)]
    unfold Qan
    refine Qac (tb:=[]) 39 [.tmp 4,.tmp 5] [0,1,4,5,6,15,27] mixed Tryz.func27 rfl (by kernel_rfl) (by kernel_rfl) (by kernel_rfl) (by kernel_rfl) ?_
    repeat (first|(simp -implicitDefEqProofs only [go_sem,Nat.reduceAdd,Nat.reduceMul,Nat.reduceEqDiff,Nat.reduceLT,Nat.reduceLeDiff,reduceCtorEq,ga,gb,wl,n0,Int.toNat_natCast,List.length_map,Bool.not_false,Bool.not_true,List.map_nil])|((with_reducible refine Qab (v1) ?_ ?_ ?_);(with_reducible rfl);rfl)|((with_reducible refine Qab (v2) ?_ ?_ ?_);(with_reducible rfl);rfl)|((with_reducible refine Qab (hm) ?_ ?_ ?_);(with_reducible rfl);rfl)|(with_reducible exact Qaa _ _ (by kernel_rfl))|(with_reducible refine And.intro (Qaa _ _ (by kernel_rfl)) ?_))
   |true=>
    rw [hMM]at hm
    rw [if_pos rfl]
    have wl2:IntKind.i64.wrap ((a.length:Int)+(b.length:Int))=(a.length:Int)+(b.length:Int):=Qai (by omega) (by omega)
    by_cases h256:a.length+b.length≤256
    ·have h':((256:Int)<(a.length:Int)+(b.length:Int))=False:=eq_false (by omega)
     rw [if_pos h256]
     have ca:=Q33 a hla (Qpp hA)
     have cb:=Q33 b hlb (Qpp hB)
     have e1:(a.map sgPV).take a.length=a.map sgPV:=List.take_of_length_le (by simp)
     have e2:(b.map sgPV).take b.length=b.map sgPV:=List.take_of_length_le (by simp)
     have e5:(a.map sgPV++b.map sgPV).take (a.length+b.length)=a.map sgPV++b.map sgPV:=List.take_of_length_le (by simp)
     have e6:(((a.map sgPV++b.map sgPV).flatMap PV.cells).all PV.okCell)=true:=by rw [←List.map_append];exact Qfn _
     have e7:(a.length+b.length≤(a.map sgPV++b.map sgPV).length)=True:=eq_true (by simp)
     have e3:=Qfn a
     have e4:=Qfn b
     have k1:((a.length+b.length)*96≤140737488355328)=True:=eq_true (by omega)
     have k2:(a.length+b.length≤maxLen)=True:=eq_true (by unfold maxLen;omega)
     unfold Qan at ca cb ⊢
     rw [List.map_append]
     have bl1:Nat.blt 701 1000000=true:=rfl
     have bl2:Nat.blt 703 1000000=true:=rfl

     refine Qac (tb:=[(701,[],[(7,701)]),(703,[],[(7,703)])]) 39 [.tmp 4,.tmp 5] [0,1,4,5,6,15,27] mixed Tryz.func27 rfl (by kernel_rfl) (by kernel_rfl) (by kernel_rfl) (by kernel_rfl) ?_
     repeat (first|(simp -implicitDefEqProofs only [go_sem,Nat.reduceAdd,Nat.reduceMul,Nat.reduceEqDiff,Nat.reduceLT,Nat.reduceLeDiff,reduceCtorEq,Nat.reduceBneDiff,bl1,bl2,Q34,ga,gb,wl,wl2,h',n0,e1,e2,e3,e4,e5,e6,e7,k1,k2,Int.toNat_natCast,List.length_map,Bool.not_false,Bool.not_true])|((with_reducible refine Qab (v1) ?_ ?_ ?_);(with_reducible rfl);rfl)|((with_reducible refine Qab (v2) ?_ ?_ ?_);(with_reducible rfl);rfl)|((with_reducible refine Qab (hm) ?_ ?_ ?_);(with_reducible rfl);rfl)|((with_reducible refine Qbs (ca) ?_ ?_ ?_ ?_);(with_reducible rfl);rfl;rfl)|((with_reducible refine Qbs (cb) ?_ ?_ ?_ ?_);(with_reducible rfl);rfl;rfl)|(with_reducible exact Qaa _ _ (by kernel_rfl))|(with_reducible refine And.intro (Qaa _ _ (by kernel_rfl)) ?_))
    ·have h':((256:Int)<(a.length:Int)+(b.length:Int))=True:=eq_true (by omega)
     rw [if_neg h256]
     unfold Qan
     refine Qac (tb:=[]) 39 [.tmp 4,.tmp 5] [0,1,4,5,6,15,27] mixed Tryz.func27 rfl (by kernel_rfl) (by kernel_rfl) (by kernel_rfl) (by kernel_rfl) ?_
     repeat (first|(simp -implicitDefEqProofs only [go_sem,Nat.reduceAdd,Nat.reduceMul,Nat.reduceEqDiff,Nat.reduceLT,Nat.reduceLeDiff,reduceCtorEq,ga,gb,wl,wl2,h',n0,Int.toNat_natCast,List.length_map,Bool.not_false,Bool.not_true,List.map_nil])|((with_reducible refine Qab (v1) ?_ ?_ ?_);(with_reducible rfl);rfl)|((with_reducible refine Qab (v2) ?_ ?_ ?_);(with_reducible rfl);rfl)|((with_reducible refine Qab (hm) ?_ ?_ ?_);(with_reducible rfl);rfl)|(with_reducible exact Qaa _ _ (by kernel_rfl))|(with_reducible refine And.intro (Qaa _ _ (by kernel_rfl)) ?_))
end Go.Proofs.YtlpiamlgibomhaaGreat
