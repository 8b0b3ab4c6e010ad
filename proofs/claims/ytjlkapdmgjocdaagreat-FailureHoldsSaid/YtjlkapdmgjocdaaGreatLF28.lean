/-
  Dcz, Dgn, Dgo, LF27, LF28 (merged for the claim).
-/
import Derived.Test.YtjlkapdmgjocdaaGreatDcm
import Derived.Test.YtjlkapdmgjocdaaGreatUY
import Derived.Test.YtjlkapdmgjocdaaGreatLF14
import Derived.Test.YtjlkapdmgjocdaaGreatLA10
set_option linter.unusedSimpArgs false
set_option linter.unusedVariables false
namespace Go.Dg
def sc (p:List Sg):List (Sg×Int×Int)→Int→Int→Prop
 | [],u,v=>u=v
 |x::r,u,v=>x.1∈p∧x.2.1=u∧x.1.f≤x.2.1∧x.2.1<x.2.2∧x.2.2≤x.1.t∧sc p r x.2.2 v
theorem Zt8 {p:List Sg}: ∀{S:List (Sg×Int×Int)} {u v:Int},sc p S u v→u≤v
 | [],_,_,h=>by have h:_=_:=h;omega
 |_::_,_,_,⟨_,b,_,d,_,f⟩=>by have:=Zt8 f;omega
theorem Qx9 {p:List Sg}: ∀{S:List (Sg×Int×Int)} {u v:Int},sc p S u v→ ∀(i:Nat) (hi:i<S.length),S[i].1∈p∧S[i].1.f≤S[i].2.1∧S[i].2.1<S[i].2.2∧S[i].2.2≤S[i].1.t∧u≤S[i].2.1∧S[i].2.2≤v
 | [],_,_,_,i,hi=>by simp at hi
 |x::r,u,v,⟨a,b,c,d,e,f⟩,0,_=>⟨a,c,d,e,by simp only [List.getElem_cons_zero];omega,by have:=Zt8 f;simpa using this⟩
 |x::r,u,v,⟨a,b,c,d,e,f⟩,i+1,hi=>by
  obtain⟨h1,h2,h3,h4,h5,h6⟩:=Qx9 f i (by simpa using hi);simp only [List.getElem_cons_succ];exact⟨h1,h2,h3,h4,by omega,h6⟩
theorem Q30 {p:List Sg}: ∀{S:List (Sg×Int×Int)} {u v:Int},sc p S u v→ ∀(i:Nat) (hi:i+1<S.length),S[i].2.2=S[i+1].2.1
 | [],_,_,_,i,hi=>by simp at hi
 | [_],_,_,_,i,hi=>by simp at hi
 |x::y::r,u,v,⟨_,_,_,_,_,f⟩,0,_=>by
  obtain⟨_,b,_⟩:=f;simpa using b.symm
 |x::y::r,u,v,⟨_,_,_,_,_,f⟩,i+1,hi=>by
  have:=Q30 f i (by simpa using hi);simpa using this
theorem Zc1 {p:List Sg} {S:List (Sg×Int×Int)} {u v:Int} (h:sc p S u v) (h0:0<S.length):S[0].2.1=u:=by
 match S,h with
 |x::r,⟨_,b,_⟩=>exact b
theorem Q31 {p:List Sg}: ∀{S:List (Sg×Int×Int)} {u v:Int},sc p S u v→ ∀(h0:0<S.length),(S[S.length-1]'(by omega)).2.2=v
 | [],_,_,_,h0=>by simp at h0
 | [x],_,_,⟨_,_,_,_,_,f⟩,_=>f
 |x::y::r,_,_,⟨_,_,_,_,_,f⟩,_=>by
  have:=Q31 f (by simp);simpa using this
theorem Qvc {p:List Sg} (hV:Qbm p=true) {x:Sg×Int×Int} (hx:x.1∈p) (h1:x.1.f≤x.2.1) (h2:x.2.1<x.2.2) (h3:x.2.2≤x.1.t) {t:Int} (t1:x.2.1≤t) (t2:t≤x.2.2):
  (∀k,k<3→plQ (spS x) (t-x.2.1) (x.2.2-x.2.1) k=plT p t k)∧plO (spS x) (t-x.2.1) (x.2.2-x.2.1)=poT p t:=by
 obtain⟨i,hi,e⟩:=List.getElem_of_mem hx;have hv:=Qdj hV i hi;obtain⟨a1,a2⟩:=Zmz hV hi (t:=t) (by rw [e];omega) (by rw [e];omega);rw [e]at a1 a2 hv;obtain⟨b1,b2⟩:=Q0d hv h1 h2 h3 t;exact⟨fun k hk=>by rw [a1 k hk];exact b1 k hk,by rw [a2];exact b2⟩
theorem Qmo {p:List Sg} (hV:Qbm p=true) {s:Sg} (h:s∈p):Qa7 s=true:=by
 obtain⟨i,hi,rfl⟩:=List.getElem_of_mem h;exact Qdj hV i hi
theorem Zm0 {q:List Sg} (h1: ∀(i:Nat) (hi:i<q.length),Qa7 q[i]=true) (h2: ∀(i:Nat) (hi:i+1<q.length),Qey q[i] q[i+1]=true):vpTo q q.length=true:=by
 unfold vpTo;rw [List.all_eq_true];intro j hj;have hj:=List.mem_range.1 hj;unfold vpAt;rw [sgD hj,h1 j hj,Bool.true_and];rcases Nat.eq_zero_or_pos j with r|r
 ·subst r;rfl
 ·obtain⟨i,rfl⟩: ∃i,j=i+1:=⟨j-1,by omega⟩;rw [Nat.add_sub_cancel,sgD (show i<q.length by omega),h2 i hj,Bool.or_true]
theorem Qst {q:List Sg} (h1: ∀(i:Nat) (hi:i<q.length),Qa7 q[i]=true) (h2: ∀(i:Nat) (hi:i+1<q.length),Qey q[i] q[i+1]=true) (h3:1≤q.length) (h4:q.length≤256):Qbm q=true:=by
 unfold Qbm;rw [Zm0 h1 h2,decide_eq_true h3,decide_eq_true h4];rfl
theorem Qya {a b:Sg} (h:a.t=b.f) (h1: ∀i,i<3→plQ a 1 1 i=plQ b 0 1 i) (h2:plO a 1 1=plO b 0 1):Qey a b=true:=by
 unfold Qey Qyq;rw [decide_eq_true h,decide_eq_true (h1 0 (by decide)),decide_eq_true (h1 1 (by decide)),decide_eq_true (h1 2 (by decide)),decide_eq_true h2];rfl
section
variable {p:List Sg} (hV:Qbm p=true) {S:List (Sg×Int×Int)} {u v:Int} (h:sc p S u v) (hf:S.all spF=true)
include hV h hf
theorem Qsu (i:Nat) (hi:i<S.length):Qa7 (spS S[i])=true:=by
 obtain⟨a,b,c,d, -, -⟩:=Qx9 h i hi;exact Q0c (Qmo hV a) b c d (List.all_eq_true.1 hf _ (List.getElem_mem hi))
theorem Qyb (i:Nat) (hi:i<S.length):((∀k,k<3→plQ (spS S[i]) 1 1 k=plT p S[i].2.2 k)∧plO (spS S[i]) 1 1=poT p S[i].2.2)∧((∀k,k<3→plQ (spS S[i]) 0 1 k=plT p S[i].2.1 k)∧plO (spS S[i]) 0 1=poT p S[i].2.1):=by
 obtain⟨a,b,c,d, -, -⟩:=Qx9 h i hi;have hv:=Qsu hV h hf i hi;obtain⟨⟨x1,x2⟩,y1,y2⟩:=Qqi hv (m:=S[i].2.2-S[i].2.1) (by omega);obtain⟨z1,z2⟩:=Qvc hV a b c d (t:=S[i].2.2) (by omega) (Int.le_refl _);obtain⟨w1,w2⟩:=Qvc hV a b c d (t:=S[i].2.1) (Int.le_refl _) (by omega);have e:S[i].2.1-S[i].2.1=0:=by omega
 rw [e]at w1 w2;exact⟨⟨fun k hk=>by rw [←x1 k hk,z1 k hk],by rw [←x2,z2]⟩,fun k hk=>by rw [←y1 k hk,w1 k hk],by rw [←y2,w2]⟩
theorem Qyc (h1:1≤S.length) (h2:S.length≤256):Qbm (S.map spS)=true∧pBeg (S.map spS)=u∧pEnd (S.map spS)=v:=by
 refine⟨Qst (fun i hi=> ?_) (fun i hi=> ?_) (by simpa using h1) (by simpa using h2),?_,?_⟩
 ·rw [List.length_map]at hi;rw [List.getElem_map];exact Qsu hV h hf i hi
 ·rw [List.length_map]at hi;rw [List.getElem_map,List.getElem_map];have hn:=Q30 h i hi;obtain⟨⟨x1,x2⟩, -⟩:=Qyb hV h hf i (by omega);obtain⟨-,y1,y2⟩:=Qyb hV h hf (i+1) hi;exact Qya hn (fun k hk=>by rw [x1 k hk,y1 k hk,hn]) (by rw [x2,y2,hn])
 ·unfold pBeg;rw [sgD (show 0<(S.map spS).length by rw [List.length_map];omega),List.getElem_map];exact Zc1 h (by omega)
 ·unfold pEnd;rw [sgD (show(S.map spS).length-1<(S.map spS).length by rw [List.length_map];omega),List.getElem_map];have:=Q31 h (by omega);simp only [List.length_map];exact this
theorem Zc2 (h1:1≤S.length) (h2:S.length≤256) {t:Int} (t1:u≤t) (t2:t≤v):(∀k,k<3→plT (S.map spS) t k=plT p t k)∧poT (S.map spS) t=poT p t:=by
 obtain⟨hq,e1,e2⟩:=Qyc hV h hf h1 h2;have hi:=Q47 hq (t:=t) (by omega);have ha:=Qq2 hi;have hb:=Qs8 hq (t:=t) (by omega) hi;obtain⟨z1,z2⟩:=Zmz hq hi hb ha;have hi':atIx (S.map spS) t<S.length:=by simpa using hi
 rw [List.getElem_map]at z1 z2 ha hb;obtain⟨a,b,c,d, -, -⟩:=Qx9 h _ hi';obtain⟨w1,w2⟩:=Qvc hV a b c d (t:=t) hb ha;exact⟨fun k hk=>by rw [z1 k hk];exact w1 k hk,by rw [z2];exact w2⟩
end
def tch:List Sg→Int→Prop
 | [],_=>True
 |s::r,u=>s.f=u∧s.f<s.t∧tch r s.t
def endT:List Sg→Int→Int
 | [],u=>u
 |s::r,_=>endT r s.t
theorem Q32: ∀{q:List Sg} {u:Int},tch q u→u≤endT q u
 | [],_,_=>Int.le_refl _
 |s::r,u,⟨a,b,c⟩=>by have:=Q32 c;simp only [endT];omega
theorem Qyd {p:List Sg} (f t:Int): ∀(q:List Sg) (u:Int),tch q u→(∀s∈q,s∈p)→(max f u<min t (endT q u)→sc p (spans q f t) (max f u) (min t (endT q u)))∧(min t (endT q u)≤max f u→spans q f t=[])
 | [],u,_,_=>⟨fun h=>by simp only [endT]at h;omega,fun _=>rfl⟩
 |s::r,u,⟨a,b,c⟩,hm=>by
  obtain⟨k1,k2⟩:=Qyd f t r s.t c (fun x hx=>hm x (by simp [hx]));have hge:=Q32 c;have e:endT (s::r) u=endT r s.t:=rfl;rw [e];generalize endT r s.t=Z at*;unfold spans;by_cases hov:max f s.f≥min t s.t
  ·rw [if_pos hov];refine⟨fun h=> ?_,fun h=> ?_⟩
   ·have:max f s.t=max f u:=by omega
    rw [←this];exact k1 (by omega)
   ·exact k2 (by omega)
  ·rw [if_neg hov];refine⟨fun h=> ?_,fun h=>by omega⟩;refine⟨hm s (by simp),by simp only;omega,by simp only;omega,by simp only;omega,by simp only;omega,?_⟩;simp only;by_cases h3:s.t<min t Z
   ·have e1:min t s.t=max f s.t:=by omega
    rw [e1];exact k1 (by omega)
   ·rw [k2 (by omega)];show min t s.t=min t Z;omega
theorem Zt9 {q:List Sg} (h1: ∀(i:Nat) (hi:i<q.length),q[i].f<q[i].t) (h2: ∀(i:Nat) (hi:i+1<q.length),q[i].t=q[i+1].f):(∀h:0<q.length,tch q q[0].f)∧ ∀(u:Int) (h:0<q.length),endT q u=(q[q.length-1]'(by omega)).t:=by
 induction q with
 |nil=>exact⟨fun h=>by simp at h,fun _ h=>by simp at h⟩
 |cons s r ih=>
  obtain⟨k1,k2⟩:=ih (fun i hi=>by have:=h1 (i+1) (by simpa using hi);simpa using this) (fun i hi=>by have:=h2 (i+1) (by simpa using hi);simpa using this);refine⟨fun _=>⟨rfl,by have:=h1 0 (by simp);simpa using this,?_⟩,fun u _=> ?_⟩
  ·cases r with
   |nil=>trivial
   |cons x r=>
    have:=h2 0 (by simp);simp only [List.getElem_cons_zero,List.getElem_cons_succ]at this;rw [this];exact k1 (by simp)
  ·cases r with
   |nil=>rfl
   |cons x r=>
    have:=k2 s.t (by simp);simpa [endT]using this
theorem Q0e {p:List Sg} (hV:Qbm p=true) {f t:Int} (h1:pBeg p≤f) (h2:f<t) (h3:t≤pEnd p):sc p (spans p f t) f t∧1≤(spans p f t).length:=by
 have hl:=(Qca hV).2.1;obtain⟨c1,c2⟩:=Zt9 (q:=p) (fun i hi=>(Qat (Qdj hV i hi)).1.2.1) (fun i hi=>(Qx8 (Qfb hV i hi)).1);have hb:pBeg p=p[0].f:=by unfold pBeg;rw [sgD (show 0<p.length by omega)]
 have he:pEnd p=(p[p.length-1]'(by omega)).t:=by unfold pEnd;rw [sgD (show p.length-1<p.length by omega)]
 have hs:=Qyd (p:=p) f t p _ (c1 (by omega)) (fun _ h=>h);rw [c2 _ (by omega),←he,←hb]at hs;have e1:max f (pBeg p)=f:=by omega
 have e2:min t (pEnd p)=t:=by omega
 rw [e1,e2]at hs;have h4:=hs.1 h2;refine⟨h4,?_⟩;cases hS:spans p f t with
 |nil=>rw [hS]at h4;have h4:f=t:=h4;omega
 |cons x r=>simp
section
variable {p:List Sg} (hV:Qbm p=true)
include hV
end
end Go.Dg

namespace Go.Dg
theorem Qi0 (c:List Int):gcdL 1 c=1:=by
 unfold gcdL
 induction c with
 |nil=>rfl
 |cons x c ih=>simp only [List.foldl_cons,Nat.gcd_one_left];exact ih
def V3.co (v:V3) (i:Nat):Int:=if i=0 then v.x else if i=1 then v.y else v.z
theorem Qmw {a b k:Int} (hk:k=1∨k=2∨a=b):plc (Qc5 a b (rowK k)) 1 1=b:=by
 by_cases e:a=b
 ·unfold Qc5;rw [if_pos e];simp [plc,sm,plcT,e]
 ·rcases hk with rfl|rfl|h
  ·unfold Qc5;rw [if_neg e];simp [plc,sm,plcT,rowK];omega
  ·unfold Qc5;rw [if_neg e];simp [plc,sm,plcT,rowK];omega
  ·exact absurd h e
theorem Qqs {a b:V3} {f t k:Int} (hk:k=1∨k=2∨a=b):(∀i,i<3→plQ (legS a b f t k) 1 1 i=b.co i)∧plO (legS a b f t k) 1 1=1:=by
 have hG:plG (legS a b f t k) 1 1 3=1:=Qi0 _;have hx:k=1∨k=2∨a.x=b.x:=hk.imp_right (Or.imp_right fun h=>by rw [h]);have hy:k=1∨k=2∨a.y=b.y:=hk.imp_right (Or.imp_right fun h=>by rw [h]);have hz:k=1∨k=2∨a.z=b.z:=hk.imp_right (Or.imp_right fun h=>by rw [h]);refine⟨fun i hi=> ?_,?_⟩
 ·unfold plQ;rw [hG,show((1:Nat):Int)=1 from rfl,Int.ediv_one];rcases(show i=0∨i=1∨i=2 by omega)with rfl|rfl|rfl
  ·exact Qmw hx
  ·exact Qmw hy
  ·exact Qmw hz
 ·unfold plO;rw [hG];rfl
theorem Qvk {a b:V3} {f t k:Int} (hk:k=1∨k=2∨a=b) (ha:ptB a=true) (hb:ptB b=true) (h0:0≤f) (h1:f<t) (h2:t≤3600000):
  ∃s,flyL a b f t k=[s]∧s.t=t∧(∀i,i<3→plQ s 1 1 i=b.co i)∧plO s 1 1=1:=by
 refine⟨legS a b f t k,?_,rfl,Qqs hk⟩;unfold flyL;rw [if_pos];unfold Qkd tmB;rw [ha,hb,decide_eq_true h0,decide_eq_true h1,decide_eq_true h2];rfl
theorem Qvl (x:Int):rnd x 1=x:=by unfold rnd;omega
theorem Zm4 {v:V3} {m:Mv} {a l:Int} (h:mvE v m a l=0): ∃q s,mvP v m a l=q++[s]∧s.t=a+l∧(∀i,i<3→plQ s 1 1 i=m.to.co i)∧plO s 1 1=1:=by
 unfold mvP;rw [if_pos h];unfold mvE at h;split at h
 case isFalse=>cases h
 rename_i h1;split at h
 case isFalse=>cases h
 rename_i h9;obtain⟨hv,l1,l2,ha,hm⟩:=h1;rw [Qdr]at ha;unfold mvB at hm;simp only [Bool.and_eq_true,Qdr,decide_eq_true_eq]at hm;obtain⟨m1,m2,m3,m4,m5,m6⟩:=hm;unfold mvL Qcv;by_cases hf:m.f=0
 ·rw [if_pos hf]at m6 ⊢;simp only [Bool.and_eq_true,decide_eq_true_eq]at m6;obtain⟨s,e,h2⟩:=Qvk (a:=v) (b:=v) (k:=0) (f:=a) (t:=a+l) (.inr (.inr rfl)) hv hv (by omega) (by omega) (by omega);refine⟨[],s,e,?_⟩;rw [m6.1];exact h2
 rw [if_neg hf]at m6 ⊢;by_cases he:m.w+m.f<l
 ·obtain⟨s,e,h2⟩:=Qvk (a:=m.to) (b:=m.to) (k:=0) (f:=a+m.w+m.f) (t:=a+l) (.inr (.inr rfl)) m1 m1 (by omega) (by omega) (by omega);rw [e];exact⟨_,s,rfl,h2⟩
 ·have e0:flyL m.to m.to (a+m.w+m.f) (a+l) 0=[]:=by
   unfold flyL;rw [if_neg];unfold Qkd tmB;rw [decide_eq_false (p:=a+m.w+m.f<a+l) (by omega)];simp
  have ee:a+l=a+m.w+m.f:=by omega
  rw [e0,List.append_nil,ee];unfold midL;by_cases hr:0<m.r
  ·rw [if_pos hr];refine⟨flyL v v a (a+m.w) 0++[legS v (up v m.r) (a+m.w) (a+m.w+((a+m.w+m.f)-(a+m.w))/4) 2,legS (up v m.r) (up m.to m.r) (a+m.w+((a+m.w+m.f)-(a+m.w))/4) ((a+m.w+m.f)-((a+m.w+m.f)-(a+m.w))/4) 2],legS (up m.to m.r) m.to ((a+m.w+m.f)-((a+m.w+m.f)-(a+m.w))/4) (a+m.w+m.f) 2,?_,rfl,Qqs (.inr (.inl rfl))⟩;rw [List.append_assoc];rfl
  ·rw [if_neg hr];obtain⟨s,e,h2⟩:=Qvk (a:=v) (b:=m.to) (k:=2) (f:=a+m.w) (t:=a+m.w+m.f) (.inr (.inl rfl)) hv m1 (by omega) (by omega) (by omega);rw [e];exact⟨_,s,rfl,h2⟩
theorem Zlv {p:Pg} {n:Nat}: ∀(d k:Nat) (t:Int) (many:List Int),k+d=p.as_.length→goB n (Qch p k) t many (p.as_.drop k)=true→t=begT p k→(Qch p k).length=n→
  ∀j,k≤j→j<p.as_.length→ ∀i,i<n→mvE ((Qch p j).getD i v0) ((p.as_.getD j ac0).mv.getD i mv0) (begT p j) (p.as_.getD j ac0).ln=0
 |0,k,_,_,hd,_,_,_,j,h1,h2,_,_=>by omega
 |d+1,k,t,many,hd,hg,ht,hl,j,h1,h2,i,hi=>by
  have hk:k<p.as_.length:=by omega
  have e:p.as_.drop k=p.as_.getD k ac0::p.as_.drop (k+1):=by
   rw [List.drop_eq_getElem_cons hk,List.getD_eq_getElem?_getD,List.getElem?_eq_getElem hk];rfl
  rw [e]at hg;simp only [goB,Bool.and_eq_true,hl]at hg;obtain⟨ga,go,gr⟩:=hg;unfold actB at ga;simp only [Bool.and_eq_true,decide_eq_true_eq]at ga;by_cases ej:j=k
  ·subst ej;have:=List.all_eq_true.1 go i (List.mem_range.2 hi);unfold okAt at this;simp only [Bool.and_eq_true,decide_eq_true_eq]at this;rw [←ht];exact this.1
  ·have hf:Qch p (k+1)=(p.as_.getD k ac0).mv.map Mv.to:=rfl;have hb:begT p (k+1)=begT p k+(p.as_.getD k ac0).ln:=by
    unfold begT;rw [List.take_add_one,List.getD_eq_getElem?_getD,List.getElem?_eq_getElem hk];simp only [Option.toList_some,List.map_append,List.map_cons,List.map_nil,List.sum_append,List.sum_cons,List.sum_nil,Option.getD_some];omega
   exact Zlv d (k+1) _ _ (by omega) gr (by rw [ht,hb]) (by rw [hf,List.length_map];exact ga.2.2.2) j (by omega) h2 i hi
end Go.Dg

namespace Go.Dg
theorem Zda {c:List Int} {n:Nat} (hc:c.length=n+1) (hn:n≤5) (d:Int):cq c 0 d d=c.map (· *d^5):=by
 refine Ql8 (by rw [Qmn hc,List.length_map,hc]) fun x _=> ?_;rw [Qx5 hc,Qqh];have e1:(0:Int)*1+d*x=d*x:=by omega
 rw [e1,Q5i hc,←Int.mul_assoc,←Int.pow_add];congr 2;omega
theorem Zdb {s:Sg} (hv:Qa7 s=true):ptF s s.f s.t=true:=by
 obtain⟨⟨v1,v2,v3,v4,v5⟩,hax, -⟩:=Qat hv;unfold ptF ptL;have e0:s.f-s.f=0:=by omega
 rw [e0];have hD:0<(s.t-s.f)^5:=Int.pow_pos (by omega);have hO:ptO s=s.o*(s.t-s.f)^5:=rfl;have hmem: ∀i,i<3→ ∀x∈cmpL s 0 (s.t-s.f) (s.t-s.f) i,((s.t-s.f)^5).natAbs∣x.natAbs:=by
  intro i hi x hx;obtain⟨n,hn,hn5,hl⟩:=Qpd hv i hi;have e:cmpL s 0 (s.t-s.f) (s.t-s.f) i=Qaq (cq (s.ax.getD i []) 0 (s.t-s.f) (s.t-s.f)):=Qx6 hn _ _ _ hn5 hl;rw [e,Zda hn hn5]at hx;obtain⟨y,_,rfl⟩:=List.mem_map.1 (Qi4 hx);rw [Int.natAbs_mul];exact Nat.dvd_mul_left _ _
 generalize (s.t-s.f)^5=D at*;have hg: ∀i,i≤3→D.natAbs∣mdG (cmpL s 0 (s.t-s.f) (s.t-s.f)) (ptO s) i:=by
  intro i
  induction i with
  |zero=>intro _;show D.natAbs∣(ptO s).natAbs;rw [hO,Int.natAbs_mul];exact Nat.dvd_mul_left _ _
  |succ i ih=>intro hi;exact Qdg (ih (by omega)) (hmem i (by omega))
 have hp:0<ptO s:=by rw [hO];exact Int.mul_pos (by omega) hD
 have hpos:=Qki (L:=cmpL s 0 (s.t-s.f) (s.t-s.f)) hp 3;have hle:=Nat.le_of_dvd hpos (hg 3 (Nat.le_refl _));unfold Qm8 mdO;refine decide_eq_true ?_;generalize mdG (cmpL s 0 (s.t-s.f) (s.t-s.f)) (ptO s) 3=G at*;rw [hO];have h1:D≤(G:Int):=by omega
 have h2:s.o*D≤4294967296*(G:Int):=Int.le_trans (Int.mul_le_mul_of_nonneg_right v5 (by omega)) (Int.mul_le_mul_of_nonneg_left h1 (by decide));exact Int.ediv_le_of_le_mul (by omega) h2
theorem Qmx (a b k:Int):plc (Qc5 a b (rowK k)) 0 1=a:=by
 unfold Qc5;split
 ·simp [plc,sm,plcT]
 ·unfold rowK;split
  ·simp [plc,sm,plcT]
  ·split
   ·simp [plc,sm,plcT]
   ·simp [plc,sm,plcT]
theorem Q4e (a b:V3) (f t k:Int):(∀i,i<3→plQ (legS a b f t k) 0 1 i=a.co i)∧plO (legS a b f t k) 0 1=1:=by
 have hG:plG (legS a b f t k) 0 1 3=1:=Qi0 _;refine⟨fun i hi=> ?_,?_⟩
 ·unfold plQ;rw [hG,show((1:Nat):Int)=1 from rfl,Int.ediv_one];rcases(show i=0∨i=1∨i=2 by omega)with rfl|rfl|rfl
  ·exact Qmx _ _ _
  ·exact Qmx _ _ _
  ·exact Qmx _ _ _
 ·unfold plO;rw [hG];rfl
theorem Qqt {a b k:Int} (ha:inB a=true) (hb:inB b=true) (hk:k=1∨k=2∨a=b):axOK (Qc5 a b (rowK k)) 1=true:=by
 rw [Qvh]at ha hb;by_cases e:a=b
 ·unfold Qc5;rw [if_pos e];unfold axOK Qm4 Qej;simp [List.range_succ,ctl,sm,cw,bin];omega
 ·rcases hk with rfl|rfl|h
  ·unfold Qc5;rw [if_neg e];unfold axOK Qm4 Qej;simp [rowK,List.range_succ,ctl,sm,cw,bin];omega
  ·unfold Qc5;rw [if_neg e];unfold axOK Qm4 Qej;simp [rowK,List.range_succ,ctl,sm,cw,bin];omega
  ·exact absurd h e
theorem Q4f {a b:V3} {f t k:Int} (ha:ptB a=true) (hb:ptB b=true) (h0:0≤f) (h1:f<t) (h2:t≤3600000) (hk:k=1∨k=2∨a=b):Qa7 (legS a b f t k)=true:=by
 have hx:k=1∨k=2∨a.x=b.x:=hk.imp_right (Or.imp_right fun h=>by rw [h]);have hy:k=1∨k=2∨a.y=b.y:=hk.imp_right (Or.imp_right fun h=>by rw [h]);have hz:k=1∨k=2∨a.z=b.z:=hk.imp_right (Or.imp_right fun h=>by rw [h]);unfold ptB at ha hb;simp only [Bool.and_eq_true]at ha hb;have hg:(legS a b f t k).ax.foldl gcdL (legS a b f t k).o.natAbs=1:=by
  show gcdL (gcdL (gcdL 1 _) _) _=1;rw [Qi0,Qi0,Qi0]
 unfold Qa7 rngS;rw [hg];simp only [legS,Sg.ax,List.all_cons,List.all_nil];rw [Qqt ha.1 hb.1 hx,Qqt ha.2.1 hb.2.1 hy,Qqt ha.2.2 hb.2.2 hz];simp [h0,h1,h2]
def chn:List Sg→Int→Int→V3→V3→Prop
 | [],u,v,a,b=>u=v∧a=b
 |s::l,u,v,a,b=>Qa7 s=true∧s.f=u∧(∀i,i<3→plQ s 0 1 i=a.co i)∧plO s 0 1=1∧ ∃c,(∀i,i<3→plQ s 1 1 i=c.co i)∧plO s 1 1=1∧chn l s.t v c b
theorem Qer: ∀{l l':List Sg} {u v w:Int} {a b c:V3},chn l u v a b→chn l' v w b c→chn (l++l') u w a c
 | [],_,_,_,_,_,_,_,h,h'=>by obtain⟨rfl,rfl⟩:=h;exact h'
 |s::l,_,_,_,_,_,_,_,h,h'=>by
  obtain⟨h1,h2,h3,h4,c,h5,h6,h7⟩:=h;exact⟨h1,h2,h3,h4,c,h5,h6,Qer h7 h'⟩
theorem Qqu {a b:V3} {f t k:Int} (ha:ptB a=true) (hb:ptB b=true) (h0:0≤f) (h1:f<t) (h2:t≤3600000) (hk:k=1∨k=2∨a=b):chn [legS a b f t k] f t a b:=
 ⟨Q4f ha hb h0 h1 h2 hk,rfl,(Q4e a b f t k).1,(Q4e a b f t k).2,b,(Qqs hk).1,(Qqs hk).2,rfl,rfl⟩
theorem Qqv {a b:V3} {f t k:Int} (ha:ptB a=true) (hb:ptB b=true) (h0:0≤f) (h1:f<t∨f=t∧a=b) (h2:t≤3600000) (hk:k=1∨k=2∨a=b):chn (flyL a b f t k) f t a b:=by
 unfold flyL Qkd tmB;rcases h1 with h1|⟨h1,h3⟩
 ·rw [ha,hb,decide_eq_true h0,decide_eq_true h1,decide_eq_true h2,if_pos (by rfl)];exact Qqu ha hb h0 h1 h2 hk
 ·rw [decide_eq_false (p:=f<t) (by omega),if_neg (by simp)];exact⟨h1,h3⟩
theorem Zuc {v:V3} {m:Mv} {a l:Int} (h:mvE v m a l=0):chn (mvP v m a l) a (a+l) v m.to:=by
 unfold mvP;rw [if_pos h];unfold mvE at h;split at h
 case isFalse=>cases h
 rename_i h1;split at h
 case isFalse=>cases h
 rename_i h9;obtain⟨hv,l1,l2,ha,hm⟩:=h1;rw [Qdr]at ha;unfold mvB at hm;simp only [Bool.and_eq_true,Qdr,decide_eq_true_eq]at hm;obtain⟨m1,m2,m3,m4,m5,m6⟩:=hm;unfold mvL Qcv;by_cases hf:m.f=0
 ·rw [if_pos hf]at m6 ⊢;simp only [Bool.and_eq_true,decide_eq_true_eq]at m6;rw [m6.1];exact Qqv hv hv (by omega) (.inl (by omega)) (by omega) (.inr (.inr rfl))
 rw [if_neg hf]at m6 ⊢;refine Qer (v:=a+m.w+m.f) (b:=m.to) (Qer (v:=a+m.w) (b:=v) ?_ ?_) ?_
 ·exact Qqv hv hv (by omega) (by
   by_cases q:m.w=0; · exact .inr ⟨by omega,rfl⟩
   ·exact .inl (by omega)) (by omega) (.inr (.inr rfl))
 ·unfold midL;by_cases hr:0<m.r
  ·rw [if_pos hr]at m6 ⊢;simp only [Bool.and_eq_true,decide_eq_true_eq]at m6;obtain⟨q1,q2,q3⟩:=m6;unfold hiB at q2 q3;unfold arc3;refine Qer (l:=[_]) (Qqu hv q2 (by omega) (by omega) (by omega) (.inr (.inl rfl))) ?_;refine Qer (l:=[_]) (Qqu q2 q3 (by omega) (by omega) (by omega) (.inr (.inl rfl))) ?_;exact Qqu q3 m1 (by omega) (by omega) (by omega) (.inr (.inl rfl))
  ·rw [if_neg hr];exact Qqv hv m1 (by omega) (.inl (by omega)) (by omega) (.inr (.inl rfl))
 ·exact Qqv m1 m1 (by omega) (by
   by_cases q:m.w+m.f=l; · exact .inr ⟨by omega,rfl⟩
   ·exact .inl (by omega)) (by omega) (.inr (.inr rfl))
theorem Zlw: ∀{l:List Sg} {u v:Int} {a b:V3},chn l u v a b→u≤v
 | [],_,_,_,_,h=>by have:=h.1;omega
 |s::l,_,_,_,_,h=>by
  obtain⟨h1,h2,_,_,c,_,_,h7⟩:=h;have:=(Qat h1).1;have:=Zlw h7;omega
theorem Qqw: ∀{l:List Sg} {u v:Int} {a b:V3},chn l u v a b→ ∀s∈l,Qa7 s=true∧u≤s.f∧s.t≤v
 | [],_,_,_,_,_=>fun _ h=>by cases h
 |s::l,_,_,_,_,h=>by
  obtain⟨h1,h2,_,_,c,_,_,h7⟩:=h;have h8:=(Qat h1).1;have h9:=Zlw h7;intro x hx;rcases List.mem_cons.1 hx with rfl|hx
  ·exact⟨h1,by omega,h9⟩
  ·obtain⟨y1,y2,y3⟩:=Qqw h7 x hx;exact⟨y1,by omega,y3⟩
theorem Qs0: ∀{l:List Sg} {u v:Int} {a b:V3},chn l u v a b→ ∀(i:Nat) (hi:i+1<l.length),Qey l[i] l[i+1]=true
 | [],_,_,_,_,_=>fun _ h=>by simp at h
 | [s],_,_,_,_,_=>fun _ h=>by simp at h
 |s::s'::l,_,_,_,_,h=>by
  obtain⟨h1,h2,_,_,c,h5,h6,h7⟩:=h;intro i hi
  match i,hi with
  |0,_=>
   obtain⟨k1,k2,k3,k4,_⟩:=h7;exact Qya (a:=s) (b:=s') k2.symm (fun i hi=>by rw [h5 i hi,k3 i hi]) (by rw [h6,k4])
  |i+1,hi=>
   have:=Qs0 h7 i (by simp only [List.length_cons]at hi ⊢;omega);simpa using this
theorem Qqx: ∀{l:List Sg} {u v:Int} {a b:V3},chn l u v a b→ ∀h:0<l.length,l[0].f=u∧(l[l.length-1]'(by omega)).t=v
 | [],_,_,_,_,_=>fun h=>by simp at h
 | [s],_,_,_,_,h=>fun _=>by
  obtain⟨h1,h2,_,_,c,_,_,h7⟩:=h;exact⟨h2,h7.1⟩
 |s::s'::l,_,_,_,_,h=>fun _=>by
  obtain⟨h1,h2,_,_,c,_,_,h7⟩:=h;have:=(Qqx h7 (by simp)).2;exact⟨h2,by simpa using this⟩
theorem Q4g {l:List Sg} {u v:Int} {a b:V3} (h:chn l u v a b) (h1:1≤l.length) (h2:l.length≤256):Qbm l=true∧pBeg l=u∧pEnd l=v:=by
 refine⟨Qst (fun i hi=>(Qqw h _ (List.getElem_mem hi)).1) (Qs0 h) h1 h2,?_,?_⟩
 ·unfold pBeg;rw [sgD (by omega)];exact(Qqx h (by omega)).1
 ·unfold pEnd;rw [sgD (by omega)];exact(Qqx h (by omega)).2
def pA (p:Pg) (i k:Nat):List Sg:=mvP ((Qch p k).getD i v0) ((p.as_.getD k ac0).mv.getD i mv0) (begT p k) (p.as_.getD k ac0).ln
def pT (p:Pg) (i k:Nat):List Sg:=(List.range k).flatMap fun a=>pA p i a
theorem Q4h (p:Pg) (i k:Nat):pT p i (k+1)=pT p i k++pA p i k:=by simp [pT,List.range_succ]
theorem Qvm {p:Pg} {k:Nat} (hk:k<p.as_.length):begT p (k+1)=begT p k+(p.as_.getD k ac0).ln:=by
 unfold begT;rw [List.take_add_one,List.getD_eq_getElem?_getD,List.getElem?_eq_getElem hk];simp only [Option.toList_some,List.map_append,List.map_cons,List.map_nil,List.sum_append,List.sum_cons,List.sum_nil,Option.getD_some];omega
theorem Q4i {p:Pg} {n:Nat}: ∀(d k:Nat) (t:Int) (many:List Int),k+d=p.as_.length→goB n (Qch p k) t many (p.as_.drop k)=true→t=begT p k→(Qch p k).length=n→many.length=n→
  ∀i,i<n→many.getD i 0=((pT p i k).length:Int)→ ∀j,k<j→j≤p.as_.length→(pT p i j).length≤256
 |0,k,_,_,hd,_,_,_,_,i,_,_,j,h1,h2=>by omega
 |d+1,k,t,many,hd,hg,ht,hl,hm,i,hi,hc,j,h1,h2=>by
  have hk:k<p.as_.length:=by omega
  have e:p.as_.drop k=p.as_.getD k ac0::p.as_.drop (k+1):=by
   rw [List.drop_eq_getElem_cons hk,List.getD_eq_getElem?_getD,List.getElem?_eq_getElem hk];rfl
  rw [e]at hg;simp only [goB,Bool.and_eq_true,hl]at hg;obtain⟨ga,go,gr⟩:=hg;unfold actB at ga;simp only [Bool.and_eq_true,decide_eq_true_eq]at ga;have h3:=List.all_eq_true.1 go i (List.mem_range.2 hi);unfold okAt at h3;simp only [Bool.and_eq_true,decide_eq_true_eq]at h3;have hcn:Qde (Qch p k) (p.as_.getD k ac0).mv t (p.as_.getD k ac0).ln many i=((pT p i (k+1)).length:Int):=by
   unfold Qde;rw [hc,Q4h,List.length_append,ht];unfold pA;omega
  rw [hcn]at h3;by_cases ej:j=k+1
  ·subst ej;omega
  ·have hf:Qch p (k+1)=(p.as_.getD k ac0).mv.map Mv.to:=rfl;refine Q4i d (k+1) _ _ (by omega) gr (by rw [ht,Qvm hk]) (by rw [hf,List.length_map];exact ga.2.2.2) (by rw [Qbw];exact hm) i hi ?_ j (by omega) h2;rw [List.getD_eq_getElem?_getD,Qb7 (by omega),if_pos hi,Option.getD_some,hcn]
section
variable {p:Pg} (v:Qbk p=true) {i:Nat} (hi:i<p.ns.length)
include v hi
theorem Zm5 {k:Nat} (hk:k<p.as_.length):mvE ((Qch p k).getD i v0) ((p.as_.getD k ac0).mv.getD i mv0) (begT p k) (p.as_.getD k ac0).ln=0:=by
 unfold Qbk at v;simp only [Bool.and_eq_true,decide_eq_true_eq]at v;obtain⟨h1,h2,h3⟩:=v;unfold Qor at h1;simp only [Bool.and_eq_true,decide_eq_true_eq]at h1;exact Zlv p.as_.length 0 0 (List.replicate p.ns.length 0) (Nat.zero_add _) h3 rfl h1.2.2.1 k (Nat.zero_le _) hk i hi
theorem Zud {k:Nat} (hk:k≤p.as_.length):(pT p i k).length≤256:=by
 unfold Qbk at v;simp only [Bool.and_eq_true,decide_eq_true_eq]at v;obtain⟨h1,h2,h3⟩:=v;unfold Qor at h1;simp only [Bool.and_eq_true,decide_eq_true_eq]at h1;rcases Nat.eq_zero_or_pos k with rfl|h0
 ·exact Nat.zero_le _
 ·refine Q4i p.as_.length 0 0 (List.replicate p.ns.length 0) (Nat.zero_add _) h3 rfl h1.2.2.1 (by simp) i hi ?_ k h0 hk;rw [List.getD_eq_getElem?_getD,List.getElem?_replicate,if_pos hi];rfl
theorem Q4j {k:Nat} (hk:k<p.as_.length):begT p k<begT p (k+1)∧0≤begT p k∧begT p (k+1)≤3600000:=by
 have h:=Zm5 v hi hk;unfold mvE at h;split at h
 case isFalse=>cases h
 rename_i h1;split at h
 case isFalse=>cases h
 obtain⟨_,l1,l2,ha,_⟩:=h1;rw [Qdr]at ha;rw [Qvm hk];omega
theorem Qvn {a b:Nat} (hab:a≤b) (hb:b≤p.as_.length):begT p a≤begT p b:=by
 induction b with
 |zero=>
    obtain rfl:a=0:=by omega
    exact Int.le_refl _
 |succ b ih=>
  by_cases e:a=b+1
  ·subst e;exact Int.le_refl _
  ·have:=ih (by omega) (by omega);have:=(Q4j v hi (k:=b) (by omega)).1;omega
theorem Zlx {k:Nat} (hk:k<p.as_.length):chn (pA p i k) (begT p k) (begT p (k+1)) ((Qch p k).getD i v0) ((Qch p (k+1)).getD i v0):=by
 have h:=Zuc (Zm5 v hi hk);rw [←Qvm hk]at h;have e:(Qch p (k+1)).getD i v0=((p.as_.getD k ac0).mv.getD i mv0).to:=by
  unfold Qch;rw [if_neg (Nat.succ_ne_zero k),Nat.add_sub_cancel,List.getD_eq_getElem?_getD,List.getD_eq_getElem?_getD (l:=(p.as_.getD k ac0).mv),List.getElem?_map];cases (p.as_.getD k ac0).mv[i]? <;>rfl
 rw [e];exact h
theorem Qyh: ∀{k:Nat},k≤p.as_.length→chn (pT p i k) 0 (begT p k) ((Qch p 0).getD i v0) ((Qch p k).getD i v0)
 |0,_=>⟨rfl,rfl⟩
 |k+1,hk=>by
  rw [Q4h];exact Qer (Qyh (by omega)) (Zlx v hi hk)
theorem Zue {k:Nat} (h0:0<k) (hk:k≤p.as_.length):1≤(pT p i k).length:=by
 rcases Nat.eq_zero_or_pos (pT p i k).length with h|h
 ·have e:pT p i k=[]:=List.eq_nil_of_length_eq_zero h;have hc:=Qyh v hi hk;rw [e]at hc;have h1:=hc.1;obtain⟨m,rfl⟩: ∃m,k=m+1:=⟨k-1,by omega⟩;have:=Q4j v hi (k:=m) (by omega);omega
 ·exact h
theorem Zdc {k:Nat} (h0:0<k) (hk:k≤p.as_.length):Qbm (pT p i k)=true∧pBeg (pT p i k)=0∧pEnd (pT p i k)=begT p k:=
 Q4g (Qyh v hi hk) (Zue v hi h0 hk) (Zud v hi hk)
theorem Q4k {k b:Nat} (hk:k≤p.as_.length) (hb:b≤p.as_.length): ∀s∈pT p i k,s.t≤begT p b∨begT p b≤s.f:=by
 intro s hs;unfold pT at hs;obtain⟨a,ha,hs⟩:=List.mem_flatMap.1 hs;have ha:=List.mem_range.1 ha;obtain⟨-,h1,h2⟩:=Qqw (Zlx v hi (k:=a) (by omega)) s hs;rcases Nat.lt_or_ge a b with q|q
 ·left;have:=Qvn v hi (a:=a+1) (b:=b) (by omega) hb;omega
 ·right;have:=Qvn v hi (a:=b) (b:=a) q (by omega);omega
theorem Zm6 {k a b:Nat} (hk:k≤p.as_.length) (ha:a≤p.as_.length) (hb:b≤p.as_.length):(spans (pT p i k) (begT p a) (begT p b)).all spF=true:=by
 refine List.all_eq_true.2 fun x hx=> ?_;obtain⟨h1,h2,h3,h4⟩:=Q5d hx;have e1:=Q4k v hi hk ha x.1 h1;have e2:=Q4k v hi hk hb x.1 h1;have hv:=(Qqw (Qyh v hi hk) x.1 h1).1;unfold spF;have f1:x.2.1=x.1.f:=by omega
 have f2:x.2.2=x.1.t:=by omega
 rw [f1,f2];exact Zdb hv
end
end Go.Dg

namespace Go.Proofs.YtjlkapdmgjocdaaGreat
open Go.Vl Go.RowKit Go.Dg
theorem Q53 {s:Sg} (hv:Qa7 s=true):okSg s:=by
 obtain⟨⟨v1,v2,v3,v4,v5⟩,hax, -⟩:=Qat hv;refine⟨by unfold i64;omega,by unfold i64;omega,by unfold i64;omega,fun c hc x hx=> ?_,fun c hc=>by have:=(Qct (hax c hc)).2.1;omega⟩;have:=Qvb hv c hc x hx;unfold i64;omega
theorem Qpp {p:List Sg} (hV:Qbm p=true): ∀s∈p,okSg s:=fun _ hs=>Q53 (Qmo hV hs)
theorem Qtk (p:Pg) (i k:Nat): ∀d,∃R,Qa1 p i (k+d)=Qa1 p i k++R
 |0=>⟨[],by rw [Nat.add_zero,List.append_nil]⟩
 |d+1=>by
  obtain⟨R,e⟩:=Qtk p i k d;exact⟨R++pthA p i (k+d),by rw [←Nat.add_assoc,Qf1,e,List.append_assoc]⟩
theorem Q54 (p:Pg) (i k:Nat):Qa1 p i k=pT p i k:=rfl
def toV (p:Pg) (i k:Nat):V3:=((p.as_.getD k ac0).mv.getD i mv0).to
theorem Zeg {p:Pg} (v:Qbk p=true) {i k:Nat} (hi:i<p.ns.length) (hk:k<p.as_.length):
  ∃j,∃h:j<(Qa1 p i p.as_.length).length,(Qa1 p i p.as_.length)[j].t=begT p (k+1)∧(∀z,z<3→plQ (Qa1 p i p.as_.length)[j] 1 1 z=(toV p i k).co z)∧plO (Qa1 p i p.as_.length)[j] 1 1=1:=by
 obtain⟨q,s,e,h⟩:=Zm4 (Zm5 v hi hk);obtain⟨R,eR⟩:=Qtk p i (k+1) (p.as_.length-(k+1));rw [show k+1+(p.as_.length-(k+1))=p.as_.length by omega,Qf1]at eR;unfold pthA at eR;rw [e,←List.append_assoc,List.append_assoc _ [s]]at eR;generalize Qa1 p i p.as_.length=P at*;subst eR;refine⟨(Qa1 p i k++q).length,by simp only [List.length_append,List.length_cons];omega,?_⟩;rw [List.getElem_append_right (Nat.le_refl _)];simp only [Nat.sub_self,List.singleton_append,List.getElem_cons_zero];rw [Qez hk];exact h
theorem Qv2 {p:Pg} (v:Qbk p=true) {i k:Nat} (hi:i<p.ns.length) (hk:k<p.as_.length) (hV:Qbm (Qa1 p i p.as_.length)=true):
  (∀z,z<3→plT (Qa1 p i p.as_.length) (begT p (k+1)) z=(toV p i k).co z)∧poT (Qa1 p i p.as_.length) (begT p (k+1))=1:=by
 obtain⟨j,h,h1,h2,h3⟩:=Zeg v hi hk;have hv:=Qdj hV j h;obtain⟨⟨-,a2, -, -, -⟩, -, -⟩:=Qat hv;obtain⟨x1,x2⟩:=Zmz hV h (t:=begT p (k+1)) (by omega) (by omega);obtain⟨⟨y1,y2⟩, -⟩:=Qqi hv (m:=(Qa1 p i p.as_.length)[j].t-(Qa1 p i p.as_.length)[j].f) (by omega);rw [←h1]at x1 x2 ⊢;exact⟨fun z hz=>by rw [x1 z hz,y1 z hz,h2 z hz],by rw [x2,y2,h3]⟩
theorem Qre {L:List Sg} {f t:Int} (h:(cutZ L f t).2=0):Qbm L=true∧pBeg L≤f∧f<t∧t≤pEnd L∧Qbm (cutZ L f t).1=true∧pBeg (cutZ L f t).1=f∧pEnd (cutZ L f t).1=t∧
  ∀u,f≤u→u≤t→(∀k,k<3→plT (cutZ L f t).1 u k=plT L u k)∧poT (cutZ L f t).1 u=poT L u:=by
 unfold cutZ at h ⊢;by_cases hV:Qbm L=true
 case neg=>rw [if_neg hV]at h;cases h
 rw [if_pos hV]at h ⊢;by_cases hr:pBeg L≤f∧f<t∧t≤pEnd L
 case neg=>rw [if_neg hr]at h;cases h
 rw [if_pos hr]at h ⊢;by_cases hs:(spans L f t).all spF=true
 case neg=>rw [if_neg hs]at h;cases h
 rw [if_pos hs]at h ⊢;obtain⟨r1,r2,r3⟩:=hr;obtain⟨hc,h1⟩:=Q0e hV r1 r2 r3;have h2:=Qla L f t;have h3:=(Qca hV).2.2;obtain⟨c1,c2,c3⟩:=Qyc hV hc hs h1 (by omega);exact⟨hV,r1,r2,r3,c1,c2,c3,fun u u1 u2=>Zc2 hV hc hs h1 (by omega) u1 u2⟩
theorem Qy5 {L:List Sg} {f t:Int} (h:(cutZ L f t).2=0):Qaf Tryz.prog 26 [pV (cutZ L f t).1] (.tup [.int .i64 f,.int .i64 t,.int .i64 0]):=by
 obtain⟨-, -, -, -,hV,h1,h2, -⟩:=Qre h;have:=Qv6 _ (Qpp hV) (by have:=(Qca hV).2.2;omega);rw [if_pos hV,h1,h2]at this;exact this
theorem Zeh {p:Pg} (v:Qbk p=true) {i k:Nat} (hi:i<p.ns.length) (hk:k<p.as_.length) (h:(cutZ (Qa1 p i p.as_.length) 0 (begT p (k+1))).2=0):
  Qaf Tryz.prog 27 [pV (cutZ (Qa1 p i p.as_.length) 0 (begT p (k+1))).1,.int .i64 (begT p (k+1))] (.tup [v3PV (toV p i k),.int .i64 0]):=by
 obtain⟨hL,r1,r2,r3,hV,h1,h2,hpl⟩:=Qre h;have hb:=Qdx v (k:=k+1) (by omega);have hA:=Zyp _ (begT p (k+1)) (Qpp hV) (by have:=(Qca hV).2.2;omega) (by unfold i64;omega);obtain⟨q1,q2⟩:=hpl (begT p (k+1)) (by omega) (Int.le_refl _);obtain⟨s1,s2⟩:=Qv2 v hi hk hL;have hl:lasts (cutZ (Qa1 p i p.as_.length) 0 (begT p (k+1))).1 (begT p (k+1))=true:=by
  unfold lasts;rw [h1,h2,decide_eq_true (by omega),decide_eq_true (Int.le_refl _)];rfl
 have e:=fun z hz=>(q1 z hz).trans (s1 z hz);have eo:=q2.trans s2;unfold atPV at hA;rw [if_pos hV,if_pos hl]at hA;have x0:exQ (cutZ (Qa1 p i p.as_.length) 0 (begT p (k+1))).1 (begT p (k+1)) 0=(toV p i k).x:=e 0 (by decide);have x1:exQ (cutZ (Qa1 p i p.as_.length) 0 (begT p (k+1))).1 (begT p (k+1)) 1=(toV p i k).y:=e 1 (by decide);have x2:exQ (cutZ (Qa1 p i p.as_.length) 0 (begT p (k+1))).1 (begT p (k+1)) 2=(toV p i k).z:=e 2 (by decide);have xo:exO (cutZ (Qa1 p i p.as_.length) 0 (begT p (k+1))).1 (begT p (k+1))=1:=eo;rw [x0,x1,x2,xo,Qvl,Qvl,Qvl]at hA;exact hA
theorem Qfn {p:Pg} (v:Qbk p=true) {i a b:Nat} (hi:i<p.ns.length) (hab:a<b) (hb:b≤p.as_.length):(cutZ (Qa1 p i p.as_.length) (begT p a) (begT p b)).2=0:=by
 obtain⟨h1,h2,h3⟩:=Zdc v hi (k:=p.as_.length) (by omega) (Nat.le_refl _);have h4:=Zm6 v hi (k:=p.as_.length) (a:=a) (b:=b) (Nat.le_refl _) (by omega) hb;have h5:=Qvn v hi (a:=0) (b:=a) (Nat.zero_le _) (by omega);have h6:=Q4j v hi (k:=a) (by omega);have h7:=Qvn v hi (a:=a+1) (b:=b) (by omega) hb;have h8:=Qvn v hi (a:=b) (b:=p.as_.length) hb (Nat.le_refl _);rw [Q54];unfold cutZ;have h0:begT p 0=0:=rfl;rw [if_pos h1,if_pos ⟨by omega,by omega,by omega⟩,if_pos h4]
theorem Qnh {p:Pg} (v:Qbk p=true) (c:Int) {a:Nat} (ha:a<p.as_.length): ∀m,m≤p.ns.length→othE p c (begT p a) (begT p p.as_.length) m=0
 |0,_=>rfl
 |m+1,hm=>by
  rw [othE,if_pos (Qnh v c ha m (by omega))];split
  ·rfl
  ·exact Qfn v (by omega) ha (Nat.le_refl _)
theorem Qtl {L:List Sg} {f t:Int} (h:(cutZ L f t).2=0):(cutZ L f t).1.length≤256∧ ∀s∈(cutZ L f t).1,s.x.length≤1000000∧s.y.length≤1000000∧s.z.length≤1000000:=by
 obtain⟨-, -, -, -,hV, -, -, -⟩:=Qre h;refine⟨(Qca hV).2.2,fun s hs=> ?_⟩;have hl:=fun c hc=>(Qct ((Qat (Qmo hV hs)).2.1 c hc)).2.1;have h1:=hl s.x (by simp [Sg.ax]);have h2:=hl s.y (by simp [Sg.ax]);have h3:=hl s.z (by simp [Sg.ax]);omega
end Go.Proofs.YtjlkapdmgjocdaaGreat

namespace Go.Proofs.YtjlkapdmgjocdaaGreat
open Go.Vl Go.RowKit Go.Dg
theorem Zei {p:Pg} {c f t:Int} {m i:Nat} (hi:i<m) (hc:(i:Int)≠c):(othL p c f t m)[(othL p c f t i).length]? =some (othC p f t i).1:=by
 induction m with
 |zero=>omega
 |succ m ih=>
  by_cases e:i=m
  ·subst e;rw [othL,if_neg hc,List.getElem?_append_right (Nat.le_refl _),Nat.sub_self];rfl
  ·have h:=ih (by omega);rw [othL];split
   ·exact h
   ·have hl:(othL p c f t i).length<(othL p c f t m).length:=(List.getElem?_eq_some_iff.1 h).1;rw [List.getElem?_append_left hl];exact h
theorem Qni (p:Pg) (c f t:Int): ∀m,(othL p c f t m).length=m-(if 0≤c∧c<(m:Int)then 1 else 0)
 |0=>by rw [if_neg (by omega)];rfl
 |m+1=>by
  have h:=Qni p c f t m;unfold othL;by_cases e:(m:Int)=c
  ·rw [if_pos e,h,if_neg (by omega),if_pos (by omega)];omega
  ·rw [if_neg e,List.length_append,h];by_cases q:0≤c∧c<(m:Int)
   ·rw [if_pos q,if_pos (by omega)];simp only [List.length_cons,List.length_nil];omega
   ·rw [if_neg q,if_neg (by omega)];rfl
set_option maxRecDepth 100000 in
set_option maxHeartbeats 4000000 in
theorem Qov (p:Pg) (c k:Int):Qaf Tryz.prog 8 [pgV p,.agg [.int .i64 c,.int .i64 k]] (.bool true):=by
 have hFw:=Zux p;have hKn:=Q5o;by_cases hf:FewP p
 case neg=>
  have e0:decide (FewP p)=false:=decide_eq_false hf;rw [e0]at hFw;unfold pgV at hFw ⊢;refine Qab (tb:=[]) 186 [.tmp 4] [0,1,2,3,4,5,6,7,8,9,10,11,12,13,14,15,16,17,18,19,20,21,24,43,97,110,125,131,146,148,172] mixed Tryz.func8 rfl (by kernel_rfl) (by kernel_rfl) (by kernel_rfl) (by kernel_rfl) ?_;repeat (first|(simp -implicitDefEqProofs only [go_sem,Nat.reduceAdd,Nat.reduceMul,Nat.reduceEqDiff,Nat.reduceLT,Nat.reduceLeDiff,reduceCtorEq,Bool.not_false])|((with_reducible refine Qaa hFw ?_ ?_ ?_);rfl;rfl)|((with_reducible refine Qaa hKn ?_ ?_ ?_);rfl;rfl))
 have ok:=Qnd hf;have e0:decide (FewP p)=true:=decide_eq_true hf;rw [e0]at hFw;have c2:=Zon p ok c k;have hK:=Q51 p hf c k;have hO:=Qy4 p hf c k;have hCp:=Zu7 p ok;have hEp:=Zu5 p ok;unfold Qrb at hK;unfold Zd5 at hO;cases e:Qe0 p c k with
 |false=>
  rw [e]at hK hO c2;rw [if_neg Bool.false_ne_true]at hK hO;unfold pV at hK;unfold pgV at*;refine Qab (tb:=[]) 186 [.tmp 4] [0,1,2,3,4,5,6,7,8,9,10,11,12,13,14,15,16,17,18,19,20,21,24,43,97,110,125,131,146,148,172] mixed Tryz.func8 rfl (by kernel_rfl) (by kernel_rfl) (by kernel_rfl) (by kernel_rfl) ?_;repeat (first|(simp -implicitDefEqProofs only [go_sem,Nat.reduceAdd,Nat.reduceMul,Nat.reduceEqDiff,Nat.reduceLT,Nat.reduceLeDiff,reduceCtorEq,Bool.not_true,Bool.not_false,List.map_nil,List.length_nil,BEq.rfl])|((with_reducible refine Qaa hFw ?_ ?_ ?_);rfl;rfl)|((with_reducible refine Qaa hKn ?_ ?_ ?_);rfl;rfl)|((with_reducible refine Qaa c2 ?_ ?_ ?_);rfl;rfl)|((with_reducible refine Qaa hK ?_ ?_ ?_);rfl;rfl)|((with_reducible refine Qaa hO ?_ ?_ ?_);rfl;rfl)|((with_reducible refine Qaa hCp ?_ ?_ ?_);rfl;rfl))
 |true=>
 rw [e]at hK hO c2;rw [if_pos rfl]at hK hO;obtain⟨v,i1,i2,a1,a2⟩:=Qcn e;have hpa:=(Qbx v).2.1;have hn5:=hf.1;obtain⟨j,rfl⟩: ∃j:Nat,c=(j:Int):=⟨c.toNat,by omega⟩;obtain⟨m,rfl⟩: ∃m:Nat,k=(m:Int):=⟨k.toNat,by omega⟩;simp only [Int.toNat_natCast]at hK hO;have hP:=fun i=>Q5z p hf i;have hE1:=Zma p v (m+1) (by omega) m (by omega);have hE2:=Zma p v p.as_.length (Nat.le_refl _) ((p.as_.length:Int)-1) rfl;have hC0:=Zd4 p j p.as_.length hpa 0 (begT p (m+1));have hz0:=Qfn v (i:=j) (a:=0) (b:=m+1) (by omega) (by omega) (by omega);rw [show begT p 0=0 from rfl]at hz0;rw [Qrc]at hK hC0;have q0:=Qtl hz0;have hQ:=Qy3 _ (by omega) q0.2;rw [hz0]at hK hC0;have hPj:=hP (j:Int);have eE: ∀i:Nat,i<p.ns.length→Qgl p (i:Int)=0:=fun i hi=>by unfold Qgl;rw [if_pos v,if_pos ⟨by omega,by omega⟩,if_neg (by omega)]
 unfold Q0v at hPj;rw [eE j (by omega),if_pos rfl,Int.toNat_natCast]at hPj;have w1:IntKind.i64.wrap ((p.as_.length:Int)-1)=(p.as_.length:Int)-1:=Qag (by omega) (by omega);generalize (cutZ (Qa1 p j p.as_.length) 0 (begT p (m+1))).1=X at*;by_cases hk:(m:Int)+1=(p.as_.length:Int)
 ·rw [if_pos hk]at hO;have hl:m+1=p.as_.length:=by omega
  have hw2:(p.as_.length:Int)-1=(m:Int):=by omega
  rw [←hl,show((m+1:Nat):Int)-1=(m:Int)by omega]at hE2;rw [hw2]at w1;have w3:IntKind.i64.wrap ((p.as_.length:Int)-1)=(m:Int):=by rw [hw2];exact w1
  generalize begT p (m+1)=T at*;unfold pV at hK hC0 hPj hQ;unfold pgV at*;refine Qab (tb:=[]) 186 [.tmp 4] [0,1,2,3,4,5,6,7,8,9,10,11,12,13,14,15,16,17,18,19,20,21,24,43,97,110,125,131,146,148,172] mixed Tryz.func8 rfl (by kernel_rfl) (by kernel_rfl) (by kernel_rfl) (by kernel_rfl) ?_;repeat (first|(simp -implicitDefEqProofs only [go_sem,Nat.reduceAdd,Nat.reduceMul,Nat.reduceEqDiff,Nat.reduceLT,Nat.reduceLeDiff,reduceCtorEq,Bool.not_true,w3,List.map_nil,List.length_nil,List.length_map,BEq.rfl,bne_self_eq_false])|((with_reducible refine Qaa hFw ?_ ?_ ?_);rfl;rfl)|((with_reducible refine Qaa hKn ?_ ?_ ?_);rfl;rfl)|((with_reducible refine Qaa c2 ?_ ?_ ?_);rfl;rfl)|((with_reducible refine Qaa hK ?_ ?_ ?_);rfl;rfl)|((with_reducible refine Qaa hO ?_ ?_ ?_);rfl;rfl)|((with_reducible refine Qaa hCp ?_ ?_ ?_);rfl;rfl)|((with_reducible refine Qaa hPj ?_ ?_ ?_);rfl;rfl)|((with_reducible refine Qaa hE1 ?_ ?_ ?_);rfl;rfl)|((with_reducible refine Qaa hC0 ?_ ?_ ?_);rfl;rfl)|((with_reducible refine Qaa hQ ?_ ?_ ?_);rfl;rfl)|((with_reducible refine Qaa hEp ?_ ?_ ?_);rfl;rfl)|(with_reducible refine And.intro (Qae _ _ (by kernel_rfl)) ?_))
 rw [if_neg hk]at hO;have hoz:=Qnh v (j:Int) (a:=m+1) (by omega) p.ns.length (Nat.le_refl _);rw [if_pos hoz]at hO;have hft:(begT p (m+1)==begT p p.as_.length)=false:=beq_eq_false_iff_ne.2 (by
  have h1:=(Q4j v (i:=j) (by omega) (k:=m+1) (by omega)).1;have h2:=Qvn v (i:=j) (by omega) (a:=m+1+1) (b:=p.as_.length) (by omega) (Nat.le_refl _);omega)
 have hC:=fun i=>Zd4 p i p.as_.length hpa (begT p (m+1)) (begT p p.as_.length);have hz:=fun i hi=>Qfn v (i:=i) (a:=m+1) (b:=p.as_.length) hi (by omega) (Nat.le_refl _);have hog:=fun i hi hc=>Zei (p:=p) (c:=(j:Int)) (f:=begT p (m+1)) (t:=begT p p.as_.length) (m:=p.ns.length) (i:=i) hi hc;have hl1: ∀i,(othL p (j:Int) (begT p (m+1)) (begT p p.as_.length) (i+1)).length=(othL p (j:Int) (begT p (m+1)) (begT p p.as_.length) i).length+(if(i:Int)=(j:Int)then 0 else 1):=fun i=>by
  rw [othL];split
  ·rfl
  ·rw [List.length_append];rfl
 unfold othC at hog;generalize begT p (m+1)=f at*;generalize begT p p.as_.length=t at*;unfold pV at hK hC0 hPj hQ;unfold pgV at*;refine Qab (tb:=[]) 186 [.tmp 4] [0,1,2,3,4,5,6,7,8,9,10,11,12,13,14,15,16,17,18,19,20,21,24,43,97,110,125,131,146,148,172] mixed Tryz.func8 rfl (by kernel_rfl) (by kernel_rfl) (by kernel_rfl) (by kernel_rfl) ?_;repeat (first|(simp -implicitDefEqProofs only [go_sem,Nat.reduceAdd,Nat.reduceMul,Nat.reduceEqDiff,Nat.reduceLT,Nat.reduceLeDiff,reduceCtorEq,Bool.not_true,w1,hft,List.length_map,BEq.rfl,bne_self_eq_false])|((with_reducible refine Qaa hFw ?_ ?_ ?_);rfl;rfl)|((with_reducible refine Qaa c2 ?_ ?_ ?_);rfl;rfl)|((with_reducible refine Qaa hK ?_ ?_ ?_);rfl;rfl)|((with_reducible refine Qaa hO ?_ ?_ ?_);rfl;rfl)|((with_reducible refine Qaa hCp ?_ ?_ ?_);rfl;rfl)|((with_reducible refine Qaa hPj ?_ ?_ ?_);rfl;rfl)|((with_reducible refine Qaa hE1 ?_ ?_ ?_);rfl;rfl)|((with_reducible refine Qaa hC0 ?_ ?_ ?_);rfl;rfl)|((with_reducible refine Qaa hQ ?_ ?_ ?_);rfl;rfl)|((with_reducible refine Qaa hEp ?_ ?_ ?_);rfl;rfl)|((with_reducible refine Qaa hE2 ?_ ?_ ?_);rfl;rfl)|(with_reducible refine And.intro (Qae _ _ (by kernel_rfl)) ?_))
 refine Qar mixed (fun i:{i:Nat // i≤p.ns.length}=>St.of [(2,.bp 0 3 0 0),(3,.bp 1 2 0 0),(4,.bool false),(8,.slc ((othL p (j:Int) f t p.ns.length).map pV)),(9,.int .i64 0),(14,.int .i64 f),(15,.int .i64 t),(16,.int .i64 ((othL p (j:Int) f t i.1).length:Int)),(17,.int .i64 (i.1:Int))]
  [(0,{els:=[.agg [.slc (p.ns.map PV.str),.slc (p.hs.map v3PV),.slc (p.as_.map acV)]],esz:=3,ety:=26,fro:=0,live:=true,arr:=false}),(1,{els:=[.agg [.int .i64 (j:Int),.int .i64 (m:Int)]],esz:=2,ety:=30,fro:=0,live:=true,arr:=false})]) (fun i=>p.ns.length-i.1) ⟨0,Nat.zero_le _⟩ ?_ ?_
 ·refine Qaj (θ:=[(0,0),(1,1)]) rfl ?_ ?_
  ·simp [Qac,lkp,ren1,ren0,Qai,othL]
  ·exact⟨⟨rfl,rfl,rfl,rfl,rfl,.inr ⟨rfl,_,_,rfl,rfl,rfl,rfl⟩⟩,⟨rfl,rfl,rfl,rfl,rfl,.inr ⟨rfl,_,_,rfl,rfl,rfl,rfl⟩⟩,trivial⟩
 ·rintro⟨i,hi⟩;simp only;have hwi:=wr_1 (n:=i) (by omega);have hll:=Qrd p (j:Int) f t i;by_cases hA:i<p.ns.length
  ·have hA':=lt_T hA;have hPi:=hP (i:Int);have hCi:=hC i;unfold Q0v at hPi;rw [eE i hA,if_pos rfl,Int.toNat_natCast]at hPi;rw [Qrc,hz i hA]at hCi;by_cases hc:(i:Int)=(j:Int)
   ·have hc':((i:Int)==(j:Int))=true:=beq_iff_eq.2 hc;have s2:=hl1 i;rw [if_pos hc]at s2;repeat (first|(simp -implicitDefEqProofs only [go_sem,Nat.reduceAdd,Nat.reduceMul,Nat.reduceEqDiff,Nat.reduceLT,Nat.reduceLeDiff,reduceCtorEq,hA',hc',hwi,List.length_map]))
    refine⟨⟨i+1,hA⟩,by simp only;omega,?_⟩;simp only [s2];refine Qaj (θ:=[(0,0),(1,1)]) rfl ?_ ?_
    ·simp [Qac,lkp,ren1,ren0,Qai]
    ·exact⟨⟨rfl,rfl,rfl,rfl,rfl,.inr ⟨rfl,_,_,rfl,rfl,rfl,rfl⟩⟩,⟨rfl,rfl,rfl,rfl,rfl,.inr ⟨rfl,_,_,rfl,rfl,rfl,rfl⟩⟩,trivial⟩
   have hc':((i:Int)==(j:Int))=false:=beq_eq_false_iff_ne.2 hc;have s2:=hl1 i;rw [if_neg hc]at s2;have hg:=hog i hA hc;have hgl:(othL p (j:Int) f t i).length<(othL p (j:Int) f t p.ns.length).length:=(List.getElem?_eq_some_iff.1 hg).1;have hg2:((othL p (j:Int) f t p.ns.length).map pV)[(othL p (j:Int) f t i).length]? =some (.slc ((cutZ (Qa1 p i p.as_.length) f t).1.map sgV)):=by rw [List.getElem?_map,hg];rfl
   obtain⟨qs1,qs2⟩:=Qtl (hz i hA);have hQi:=Qy3 _ (by omega) qs2;generalize (cutZ (Qa1 p i p.as_.length) f t).1=Y at*;have hge:((((othL p (j:Int) f t p.ns.length).length:Int))≤((othL p (j:Int) f t i).length:Int))=False:=eq_false (by omega);have nk:=nn_T (othL p (j:Int) f t i).length;have hwk:=wr_1 (n:=(othL p (j:Int) f t i).length) (by omega);rw [←s2]at hwk;generalize hL1:(othL p (j:Int) f t (i+1)).length=L1 at*;generalize (othL p (j:Int) f t i).length=L0 at*;unfold pV at hPi hCi hQi;generalize hLL:(othL p (j:Int) f t p.ns.length)=LL at*;repeat (first|(simp -implicitDefEqProofs only [go_sem,Nat.reduceAdd,Nat.reduceMul,Nat.reduceEqDiff,Nat.reduceLT,Nat.reduceLeDiff,reduceCtorEq,hA',hc',hwi,hge,nk,hg2,hwk,Int.toNat_natCast,List.length_map,BEq.rfl,bne_self_eq_false,Bool.not_true,decide_false])|((with_reducible refine Qaa hPi ?_ ?_ ?_);rfl;rfl)|((with_reducible refine Qaa hCi ?_ ?_ ?_);rfl;rfl)|((with_reducible refine Qaa hQi ?_ ?_ ?_);rfl;rfl))
   refine⟨⟨i+1,hA⟩,by simp only;omega,?_⟩;simp only [hL1];refine Qaj (θ:=[(0,0),(1,1)]) rfl ?_ ?_
   ·simp [Qac,lkp,ren1,ren0,Qai]
   ·exact⟨⟨rfl,rfl,rfl,rfl,rfl,.inr ⟨rfl,_,_,rfl,rfl,rfl,rfl⟩⟩,⟨rfl,rfl,rfl,rfl,rfl,.inr ⟨rfl,_,_,rfl,rfl,rfl,rfl⟩⟩,trivial⟩
  ·have hA':=lt_F hA;obtain rfl:p.ns.length=i:=by omega
   repeat (first|(simp -implicitDefEqProofs only [go_sem,Nat.reduceAdd,Nat.reduceMul,Nat.reduceEqDiff,Nat.reduceLT,Nat.reduceLeDiff,reduceCtorEq,hA',BEq.rfl,List.length_map])|((with_reducible refine Qaa hKn ?_ ?_ ?_);rfl;rfl))
end Go.Proofs.YtjlkapdmgjocdaaGreat
