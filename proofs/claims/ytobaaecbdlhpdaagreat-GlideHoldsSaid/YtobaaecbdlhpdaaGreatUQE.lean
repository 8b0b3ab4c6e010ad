/-
  Dcx, Dcy, Dsr, Dcm, Dcz, Dgn, Dgo, Dgq, Dgr, UQE (merged for the claim).
-/
import Derived.Test.YtobaaecbdlhpdaaGreatDcw
import Derived.Test.YtobaaecbdlhpdaaGreatTM9
import Derived.Test.YtobaaecbdlhpdaaGreatTM25
import Derived.Test.YtobaaecbdlhpdaaGreatUV
import Derived.IntWalk
set_option linter.unusedSimpArgs false
set_option linter.unusedVariables false
namespace Go.Dg
structure turnOK (a b d:Int):Prop where
 a0:0≤a
 a1:a≤d
 b0:0≤a+b
 b1:a+b≤d
 b:b≠0
 d:1≤d
theorem Q0z {c:List Int} {o:Int} (h:axOK c o=true) (j:Nat) (hj:j≤c.length-1): -(62914560*o)≤ctl c j∧ctl c j≤62914560*o:=by
 obtain⟨l1,l6, -,hb⟩:=Qcj h;have:=Q15 hb j (by omega);exact Qcu this
theorem Qn0 {s:Sg} (hv:Qa5 s=true) (i:Nat) (hi:i<3): ∃n,(s.ax.getD i []).length=n+1∧n≤5∧(1<(s.ax.getD i []).length→(s.ax.getD i []).getD ((s.ax.getD i []).length-1) 0≠0):=by
 obtain⟨l1,l6,l3, -⟩:=Qcj ((Qal hv).2.1 _ (Qjg s i hi));exact⟨(s.ax.getD i []).length-1,by omega,by omega,l3⟩
section
variable {s:Sg} (hv:Qa5 s=true) {a b d:Int} (ht:turnOK a b d) {f t O:Int} (hO:O=s.o*d^5)
include hv ht hO
theorem Zmb:0<O:=by
 obtain⟨⟨-, -, -,v4, -⟩, -, -⟩:=Qal hv;rw [hO];exact Int.mul_pos (by omega) (Int.pow_pos (by have:=ht.d;omega))
theorem Q00 (i:Nat) (hi:i<3): ∀x∈cq (s.ax.getD i []) a b d,(mdG (cmpL s a b d) O 3:Int)∣x:=by
 have _ht:=ht;have _hO:=hO;obtain⟨n,hn,hn5,hl⟩:=Qn0 hv i hi;intro x hx;rcases Qnz hx with rfl|h
 ·exact Int.dvd_zero _
 ·have e:cmpL s a b d i=Qao (cq (s.ax.getD i []) a b d):=Qv4 hn a b d hn5 hl;exact(Qt5 (cmpL s a b d) O).2 i hi x (by rw [e];exact h)
theorem Zfk (i:Nat) (hi:i<3):(Qdo f t (cmpL s a b d) O).ax.getD i []=(cq (s.ax.getD i []) a b d).map (· /(mdG (cmpL s a b d) O 3:Int)):=by
 have _hO:=hO;obtain⟨n,hn,hn5,hl⟩:=Qn0 hv i hi;have e:mdC (cmpL s a b d) O i=(cq (s.ax.getD i []) a b d).map (· /(mdG (cmpL s a b d) O 3:Int)):=Zp0 hn a b d hn5 hl ht.b (by have:=ht.d;omega) _;rw [←e];rcases(show i=0∨i=1∨i=2 by omega)with rfl|rfl|rfl<;>rfl
theorem Q7j (h0:0≤f) (h1:f<t) (h2:t≤3600000) (hf:Qrk (cmpL s a b d) O=true):Qa5 (Qdo f t (cmpL s a b d) O)=true:=by
 have hp:=Zmb hv ht hO;have hG:=Qpn (L:=cmpL s a b d) hp 3;have hdO:=(Qt5 (cmpL s a b d) O).1;have hO2:O/(mdG (cmpL s a b d) O 3:Int)*(mdG (cmpL s a b d) O 3:Int)=O:=Int.ediv_mul_cancel hdO;have hf':O/(mdG (cmpL s a b d) O 3:Int)≤4294967296:=of_decide_eq_true hf;have ho1:1≤O/(mdG (cmpL s a b d) O 3:Int):=by
  rcases Int.lt_or_le (O/(mdG (cmpL s a b d) O 3:Int)) 1 with q|q
  ·exfalso;have:O/(mdG (cmpL s a b d) O 3:Int)*(mdG (cmpL s a b d) O 3:Int)≤0:=Int.mul_nonpos_of_nonpos_of_nonneg (by omega) (by omega);omega
  ·exact q
 have hrng:rngS (Qdo f t (cmpL s a b d) O)=true:=by
  show(decide (0≤f)&&(decide (f<t)&&(decide (t≤3600000)&&(decide (1≤O/(mdG (cmpL s a b d) O 3:Int))&&decide (O/(mdG (cmpL s a b d) O 3:Int)≤4294967296)))))=true;rw [decide_eq_true h0,decide_eq_true h1,decide_eq_true h2,decide_eq_true ho1,decide_eq_true hf'];rfl
 have hax: ∀i,i<3→axOK ((Qdo f t (cmpL s a b d) O).ax.getD i []) (O/(mdG (cmpL s a b d) O 3:Int))=true:=by
  intro i hi;obtain⟨n,hn,hn5,hl⟩:=Qn0 hv i hi;have hok:=(Qal hv).2.1 _ (Qjg s i hi);have hdv:=Q00 hv ht hO i hi;have hm:=Qv5 hdv;rw [Zfk hv ht hO i hi];have hlen:((cq (s.ax.getD i []) a b d).map (· /(mdG (cmpL s a b d) O 3:Int))).length=n+1:=by rw [List.length_map,Qfz hn]
  have htop:1<n+1→((cq (s.ax.getD i []) a b d).map (· /(mdG (cmpL s a b d) O 3:Int))).getD n 0≠0:=by
   intro h1 e;have h3:=Qll ((cq (s.ax.getD i []) a b d).map (· /(mdG (cmpL s a b d) O 3:Int))) (mdG (cmpL s a b d) O 3:Int) n;rw [hm,e,Int.zero_mul,Zem hn]at h3;have h4:=hl (by omega);have e2:(s.ax.getD i []).length-1=n:=by omega
   rw [e2]at h4;rcases Int.mul_eq_zero.1 h3 with h5|h5
   ·exact Int.pow_ne_zero (by have:=ht.d;omega) h5
   ·rcases Int.mul_eq_zero.1 h5 with h6|h6
    ·exact h4 h6
    ·exact Int.pow_ne_zero ht.b h6
  have hctl: ∀j,j<n+1→((ctl ((cq (s.ax.getD i []) a b d).map (· /(mdG (cmpL s a b d) O 3:Int))) j).natAbs:Int)≤62914560*(O/(mdG (cmpL s a b d) O 3:Int)):=by
   intro j hj;have h3:=Q7i ((cq (s.ax.getD i []) a b d).map (· /(mdG (cmpL s a b d) O 3:Int))) (mdG (cmpL s a b d) O 3:Int) j;rw [hm]at h3;have h4:=Zma hn a b d hn5 ht.a0 ht.a1 ht.b0 ht.b1 (M:=62914560*s.o) (fun j hj=>Q0z hok j (by omega)) j (by omega);rw [h3,Int.mul_assoc 62914560,←hO,←hO2,←Int.mul_assoc]at h4;rw [hO2]at h4;generalize ctl ((cq (s.ax.getD i []) a b d).map (· /(mdG (cmpL s a b d) O 3:Int))) j=X at*;have hG':(0:Int)<(mdG (cmpL s a b d) O 3:Int):=by omega
   rw [←Int.neg_mul]at h4;have h5:=Int.le_of_mul_le_mul_right h4.1 hG';have h6:=Int.le_of_mul_le_mul_right h4.2 hG';omega
  unfold axOK Qlz Qd1;rw [hlen,Bool.and_eq_true,Bool.and_eq_true,Bool.and_eq_true,List.all_eq_true];refine⟨⟨decide_eq_true (by omega),decide_eq_true (by omega),?_⟩,fun j hj=>decide_eq_true (hctl j (List.mem_range.1 hj))⟩;rcases Nat.eq_zero_or_pos n with h|h
  ·subst h;rfl
  ·have:=htop (by omega);rw [Bool.or_eq_true];right;simp only [Nat.add_sub_cancel,Bool.not_eq_true',beq_eq_false_iff_ne,ne_eq];exact this
 have hgcd:(Qdo f t (cmpL s a b d) O).ax.foldl gcdL (O/(mdG (cmpL s a b d) O 3:Int)).natAbs=1:=by
  generalize he:(Qdo f t (cmpL s a b d) O).ax.foldl gcdL (O/(mdG (cmpL s a b d) O 3:Int)).natAbs=e;have hfold:(Qdo f t (cmpL s a b d) O).ax.foldl gcdL (O/(mdG (cmpL s a b d) O 3:Int)).natAbs=gcdL (gcdL (gcdL (O/(mdG (cmpL s a b d) O 3:Int)).natAbs ((Qdo f t (cmpL s a b d) O).ax.getD 0 [])) ((Qdo f t (cmpL s a b d) O).ax.getD 1 [])) ((Qdo f t (cmpL s a b d) O).ax.getD 2 []):=rfl;rw [hfold]at he;have d3:=Qg3 (gcdL (gcdL (O/(mdG (cmpL s a b d) O 3:Int)).natAbs ((Qdo f t (cmpL s a b d) O).ax.getD 0 [])) ((Qdo f t (cmpL s a b d) O).ax.getD 1 [])) ((Qdo f t (cmpL s a b d) O).ax.getD 2 []);have d2:=Qg3 (gcdL (O/(mdG (cmpL s a b d) O 3:Int)).natAbs ((Qdo f t (cmpL s a b d) O).ax.getD 0 [])) ((Qdo f t (cmpL s a b d) O).ax.getD 1 []);have d1:=Qg3 (O/(mdG (cmpL s a b d) O 3:Int)).natAbs ((Qdo f t (cmpL s a b d) O).ax.getD 0 []);rw [he]at d3;have q2:=Nat.dvd_trans d3.1 d2.1;have hall: ∀i,i<3→ ∀x∈(Qdo f t (cmpL s a b d) O).ax.getD i [],e∣x.natAbs:=by
   intro i hi x hx;rcases(show i=0∨i=1∨i=2 by omega)with rfl|rfl|rfl
   ·exact Nat.dvd_trans q2 (d1.2 x hx)
   ·exact Nat.dvd_trans d3.1 (d2.2 x hx)
   ·exact d3.2 x hx
  have hbase:e∣(O/(mdG (cmpL s a b d) O 3:Int)).natAbs:=Nat.dvd_trans q2 d1.1;have hk0:e*mdG (cmpL s a b d) O 3∣O.natAbs:=by
   have:O.natAbs=(O/(mdG (cmpL s a b d) O 3:Int)).natAbs*mdG (cmpL s a b d) O 3:=by
    have:=congrArg Int.natAbs hO2;rw [Int.natAbs_mul,Int.natAbs_natCast]at this;exact this.symm
   rw [this];exact Nat.mul_dvd_mul_right hbase _
  have hki: ∀i,i<3→ ∀x∈cmpL s a b d i,e*mdG (cmpL s a b d) O 3∣x.natAbs:=by
   intro i hi x hx;obtain⟨n,hn,hn5,hl⟩:=Qn0 hv i hi;have e1:cmpL s a b d i=Qao (cq (s.ax.getD i []) a b d):=Qv4 hn a b d hn5 hl;rw [e1]at hx;have hx:=Qid hx;have hdx:=Q00 hv ht hO i hi x hx;have hm:x/(mdG (cmpL s a b d) O 3:Int)∈(Qdo f t (cmpL s a b d) O).ax.getD i []:=by
    rw [Zfk hv ht hO i hi];exact List.mem_map.2 ⟨x,hx,rfl⟩
   have hq:=hall i hi _ hm;have:x.natAbs=(x/(mdG (cmpL s a b d) O 3:Int)).natAbs*mdG (cmpL s a b d) O 3:=by
    have:=congrArg Int.natAbs (Int.ediv_mul_cancel hdx);rw [Int.natAbs_mul,Int.natAbs_natCast]at this;exact this.symm
   rw [this];exact Nat.mul_dvd_mul_right hq _
  have hdiv:e*mdG (cmpL s a b d) O 3∣mdG (cmpL s a b d) O 3:=
   Qcf (Qcf (Qcf hk0 (hki 0 (by decide))) (hki 1 (by decide))) (hki 2 (by decide))
  have hle:=Nat.le_of_dvd hG hdiv;have he0:0<e:=by
   rcases Nat.eq_zero_or_pos e with h|h
   ·exfalso;rw [h]at hbase;have:=Nat.eq_zero_of_zero_dvd hbase;omega
   ·exact h
  have he2: ¬2≤e:=by
   intro h;have:=Nat.mul_le_mul_right (mdG (cmpL s a b d) O 3) h;omega
  omega
 unfold Qa5;rw [hrng,Bool.true_and,Bool.and_eq_true];refine⟨?_,by rw [beq_iff_eq];exact hgcd⟩;rw [List.all_eq_true];intro c hc;have h3:(Qdo f t (cmpL s a b d) O).ax=[(Qdo f t (cmpL s a b d) O).ax.getD 0 [],(Qdo f t (cmpL s a b d) O).ax.getD 1 [],(Qdo f t (cmpL s a b d) O).ax.getD 2 []]:=rfl;rw [h3]at hc;simp only [List.mem_cons,List.not_mem_nil,or_false]at hc;rcases hc with rfl|rfl|rfl
 ·exact hax 0 (by decide)
 ·exact hax 1 (by decide)
 ·exact hax 2 (by decide)
end
end Go.Dg

namespace Go.Dg
theorem Qo1:turnOK 1 (-1) 1:=⟨by decide,by decide,by decide,by decide,by decide,by decide⟩
theorem Qn1 {s:Sg} (hv:Qa5 s=true) {m x y:Int} (hm:0<m):(∀i,i<3→plQ s (m*x) (m*y) i=plQ s x y i)∧plO s (m*x) (m*y)=plO s x y:=by
 obtain⟨k,rfl⟩: ∃k:Nat,m=(k:Int):=⟨m.toNat,by omega⟩;exact⟨fun i hi=>Q16 s k x y (by omega) (Qe4 hv) i hi,Q17 s k x y (by omega) (Qe4 hv)⟩
def rvS (W:Int) (s:Sg):Sg:=Qdo (W-s.t) (W-s.f) (cmpL s 1 (-1) 1) s.o
theorem rv_O (s:Sg):s.o=s.o*1^5:=by rw [Int.one_pow,Int.mul_one]
theorem Zfl {s:Sg} (hv:Qa5 s=true):Qrk (cmpL s 1 (-1) 1) s.o=true:=by
 obtain⟨⟨v1,v2,v3,v4,v5⟩, -, -⟩:=Qal hv;refine decide_eq_true ?_;unfold mdO;exact Int.le_trans (Int.ediv_le_self _ (by omega)) v5
theorem Q7k {s:Sg} {W:Int} (hv:Qa5 s=true) (h1:s.t≤W) (h2:W≤3600000+s.f):Qa5 (rvS W s)=true:=by
 obtain⟨⟨v1,v2,v3, -, -⟩, -, -⟩:=Qal hv;exact Q7j hv Qo1 (rv_O s) (by omega) (by omega) (by omega) (Zfl hv)
theorem Zp1 {c:List Int} {n:Nat} (hc:c.length=n+1):cq (cq c 1 (-1) 1) 1 (-1) 1=c:=by
 have h1:=Qfz hc 1 (-1) 1;refine Qg0 (by rw [Qfz h1,hc]) fun x _=> ?_;rw [Qlm h1,Qlm hc,Int.one_pow,Int.one_mul,Int.one_mul];congr 1
 ·omega
theorem Zfm {c:List Int} {n:Nat} (hc:c.length=n+1) (a b d k:Int):cq (c.map (· *k)) a b d=(cq c a b d).map (· *k):=by
 have hk:(c.map (· *k)).length=n+1:=by rw [List.length_map,hc]
 refine Qg0 (by rw [Qfz hk,List.length_map,Qfz hc]) fun x _=> ?_;rw [Qlm hk,Qky,Qky,Qlm hc,Int.mul_left_comm]
theorem Zmc {c:List Int} {n:Nat} (hc:c.length=n+1) {G:Int} (h: ∀x∈c,G∣x): ∀x∈cq c 1 (-1) 1,G∣x:=by
 have e:=Qv5 h;have h1:(c.map (· /G)).length=n+1:=by rw [List.length_map,hc]
 rw [←e,Zfm h1];intro x hx;obtain⟨y,_,rfl⟩:=List.mem_map.1 hx;exact Int.dvd_mul_left y G
theorem rv_G {s:Sg} (hv:Qa5 s=true):mdG (cmpL s 1 (-1) 1) s.o 3=1:=by
 obtain⟨⟨v1,v2,v3,v4,v5⟩, -,hg⟩:=Qal hv;have hd:=Q00 (O:=s.o) hv Qo1 (rv_O s);have ho:=(Qt5 (cmpL s 1 (-1) 1) s.o).1;have hp:=Qpn (L:=cmpL s 1 (-1) 1) (show 0<s.o by omega) 3;generalize mdG (cmpL s 1 (-1) 1) s.o 3=G at*;have hall: ∀i,i<3→ ∀x∈s.ax.getD i [],G∣x.natAbs:=by
  intro i hi x hx;obtain⟨n,hn, -, -⟩:=Qn0 hv i hi;have h2:=Zmc (Qfz hn 1 (-1) 1) (hd i hi);rw [Zp1 hn]at h2;exact Int.natCast_dvd_natCast.1 (Int.dvd_natAbs.2 (h2 x hx))
 have h1:G∣s.ax.foldl gcdL s.o.natAbs:=by
  have e:s.ax.foldl gcdL s.o.natAbs=gcdL (gcdL (gcdL s.o.natAbs (s.ax.getD 0 [])) (s.ax.getD 1 [])) (s.ax.getD 2 []):=rfl;rw [e];exact Qcf (Qcf (Qcf (Int.natCast_dvd_natCast.1 (Int.dvd_natAbs.2 ho)) (hall 0 (by decide))) (hall 1 (by decide))) (hall 2 (by decide))
 rw [hg]at h1;exact Nat.eq_one_of_dvd_one h1
theorem Qti (l:List Int):l.map (· /((1:Nat):Int))=l:=by
 conv=>rhs;rw [←List.map_id l]
 exact List.map_congr_left fun x _=>Int.ediv_one x
theorem Q7l {s:Sg} (hv:Qa5 s=true) (W:Int) (i:Nat) (hi:i<3):(rvS W s).ax.getD i []=cq (s.ax.getD i []) 1 (-1) 1:=by
 have h:=Zfk (f:=W-s.t) (t:=W-s.f) (O:=s.o) hv Qo1 (rv_O s) i hi;rw [rv_G hv,Qti]at h;exact h
theorem rv_o {s:Sg} (hv:Qa5 s=true) (W:Int):(rvS W s).o=s.o:=by
 show s.o/(mdG (cmpL s 1 (-1) 1) s.o 3:Int)=s.o;rw [rv_G hv];exact Int.ediv_one _
theorem Qhs {s:Sg} (hv:Qa5 s=true): ∀c∈s.ax,∀x∈c,x.natAbs≤1094374710063759360:=by
 obtain⟨⟨v1,v2,v3,v4,v5⟩,hax, -⟩:=Qal hv;intro c hc x hx;have h1:=Zmw (hax c hc) (by omega);have h2:=Zgb hx;omega
theorem Zmd {s:Sg} (hv:Qa5 s=true) (i:Nat) (hi:i<3): ∀x∈cmpL s 1 (-1) 1 i,(x/(mdG (cmpL s 1 (-1) 1) s.o 3:Int)).natAbs≤4611686018427387904:=by
 intro x hx;rw [rv_G hv];obtain⟨⟨v1,v2,v3,v4,v5⟩, -, -⟩:=Qal hv;have hv2:=Q7k (W:=s.t) hv (Int.le_refl _) (by omega);obtain⟨n,hn,hn5,hl⟩:=Qn0 hv i hi;have e1:cmpL s 1 (-1) 1 i=Qao (cq (s.ax.getD i []) 1 (-1) 1):=Qv4 hn 1 (-1) 1 hn5 hl;rw [e1]at hx;have hx:=Qid hx;rw [←Q7l hv s.t i hi]at hx;have:=Qhs hv2 _ (Qjg _ i hi) x hx;have e:x/((1:Nat):Int)=x:=Int.ediv_one x;rw [e];omega
def plT (p:List Sg) (t:Int) (i:Nat):Int:=plQ (p.getD (atIx p t) sg0) (t-(p.getD (atIx p t) sg0).f) ((p.getD (atIx p t) sg0).t-(p.getD (atIx p t) sg0).f) i
def poT (p:List Sg) (t:Int):Int:=plO (p.getD (atIx p t) sg0) (t-(p.getD (atIx p t) sg0).f) ((p.getD (atIx p t) sg0).t-(p.getD (atIx p t) sg0).f)
theorem Q7m {a b:Sg} (h:Qeg a b=true):a.t=b.f∧(∀i,i<3→plQ a 1 1 i=plQ b 0 1 i)∧plO a 1 1=plO b 0 1:=by
 unfold Qeg Qwi at h;simp only [Bool.and_eq_true,decide_eq_true_eq]at h;obtain⟨h1,h2,h3,h4,h5⟩:=h;refine⟨h1,fun i hi=> ?_,h5⟩;rcases(show i=0∨i=1∨i=2 by omega)with rfl|rfl|rfl<;>assumption
theorem Qo2 {s:Sg} (hv:Qa5 s=true) {m:Int} (hm:0<m):((∀i,i<3→plQ s m m i=plQ s 1 1 i)∧plO s m m=plO s 1 1)∧((∀i,i<3→plQ s 0 m i=plQ s 0 1 i)∧plO s 0 m=plO s 0 1):=by
 have h1:=Qn1 (x:=1) (y:=1) hv hm;have h2:=Qn1 (x:=0) (y:=1) hv hm;rw [Int.mul_one]at h1;rw [Int.mul_one,Int.mul_zero]at h2;exact⟨h1,h2⟩
theorem Zp2 {p:List Sg} (hV:Qba p=true) {t:Int} {i:Nat} (hi:i<p.length) (h1:p[i].f≤t) (h2:t≤p[i].t):
  (∀k,k<3→plT p t k=plQ p[i] (t-p[i].f) (p[i].t-p[i].f) k)∧poT p t=plO p[i] (t-p[i].f) (p[i].t-p[i].f):=by
 have hj:atIx p t≤i:=by
  rcases Nat.lt_or_ge i (atIx p t)with q|q
  ·have:=Qhx q hi;omega
  ·exact q
 have hjl:atIx p t<p.length:=by omega
 have hjt:=Qt4 hjl;unfold plT poT;rw [sgD hjl];rcases Nat.lt_or_ge (atIx p t) i with q|q
 ·obtain⟨k,rfl⟩: ∃k,i=k+1:=⟨i-1,by omega⟩;have hm:=Qgc hV k (by omega);obtain⟨m1,m2,m3⟩:=Q7m hm;have hmono:=Qff hV k (atIx p t) (by omega) (by omega);have hjk:atIx p t=k:=by
   rcases Nat.lt_or_ge (atIx p t) k with r|r
   ·exfalso;have s1:=Ql2 hV (atIx p t) (by omega);have s2:=Qff hV k (atIx p t+1) (by omega) (by omega);omega
   ·omega
  have hvk:=Qci hV k (by omega);have hvi:=Qci hV (k+1) hi;obtain⟨⟨-,a2, -, -, -⟩, -, -⟩:=Qal hvk;obtain⟨⟨-,b2, -, -, -⟩, -, -⟩:=Qal hvi;have et:t=p[k+1].f:=by
   have:p[atIx p t].t=p[k].t:=by congr 2
   omega
  have hx: ∀(j:Nat) (hj:j<p.length),j=k→(∀z,z<3→plQ p[j] (t-p[j].f) (p[j].t-p[j].f) z=plQ p[k] (p[k].t-p[k].f) (p[k].t-p[k].f) z)∧plO p[j] (t-p[j].f) (p[j].t-p[j].f)=plO p[k] (p[k].t-p[k].f) (p[k].t-p[k].f):=by
   rintro j hj rfl;have e9:t-p[j].f=p[j].t-p[j].f:=by omega
   rw [e9];exact⟨fun _ _=>rfl,rfl⟩
  obtain⟨x1,x2⟩:=hx _ hjl hjk;obtain⟨⟨e1,e2⟩, -⟩:=Qo2 hvk (m:=p[k].t-p[k].f) (by omega);obtain⟨-,f1,f2⟩:=Qo2 hvi (m:=p[k+1].t-p[k+1].f) (by omega);have e0:t-p[k+1].f=0:=by omega
  rw [e0];exact⟨fun z hz=>by rw [x1 z hz,e1 z hz,m2 z hz,f1 z hz],by rw [x2,e2,m3,f2]⟩
 ·have e:atIx p t=i:=by omega
  have hx: ∀(j:Nat) (hj:j<p.length),j=i→(∀z,z<3→plQ p[j] (t-p[j].f) (p[j].t-p[j].f) z=plQ p[i] (t-p[i].f) (p[i].t-p[i].f) z)∧plO p[j] (t-p[j].f) (p[j].t-p[j].f)=plO p[i] (t-p[i].f) (p[i].t-p[i].f):=by
   rintro j hj rfl;exact⟨fun _ _=>rfl,rfl⟩
  exact hx _ hjl e
end Go.Dg

namespace Go.Dg
def dd:List Int→List Int
 | []=>[]
 | [a]=>[a]
 |a::b::L=>if a=b then dd (b::L)else a::dd (b::L)
end Go.Dg

namespace Go.Dg
end Go.Dg

namespace Go.Dg
def sc (p:List Sg):List (Sg×Int×Int)→Int→Int→Prop
 | [],u,v=>u=v
 |x::r,u,v=>x.1∈p∧x.2.1=u∧x.1.f≤x.2.1∧x.2.1<x.2.2∧x.2.2≤x.1.t∧sc p r x.2.2 v
theorem Qe1 {p:List Sg} (hV:Qba p=true) {s:Sg} (h:s∈p):Qa5 s=true:=by
 obtain⟨i,hi,rfl⟩:=List.getElem_of_mem h;exact Qci hV i hi
theorem Zfn {q:List Sg} (h1: ∀(i:Nat) (hi:i<q.length),Qa5 q[i]=true) (h2: ∀(i:Nat) (hi:i+1<q.length),Qeg q[i] q[i+1]=true):vpTo q q.length=true:=by
 unfold vpTo;rw [List.all_eq_true];intro j hj;have hj:=List.mem_range.1 hj;unfold vpAt;rw [sgD hj,h1 j hj,Bool.true_and];rcases Nat.eq_zero_or_pos j with r|r
 ·subst r;rfl
 ·obtain⟨i,rfl⟩: ∃i,j=i+1:=⟨j-1,by omega⟩;rw [Nat.add_sub_cancel,sgD (show i<q.length by omega),h2 i hj,Bool.or_true]
theorem Q01 {q:List Sg} (h1: ∀(i:Nat) (hi:i<q.length),Qa5 q[i]=true) (h2: ∀(i:Nat) (hi:i+1<q.length),Qeg q[i] q[i+1]=true) (h3:1≤q.length) (h4:q.length≤256):Qba q=true:=by
 unfold Qba;rw [Zfn h1 h2,decide_eq_true h3,decide_eq_true h4];rfl
theorem Q7n {a b:Sg} (h:a.t=b.f) (h1: ∀i,i<3→plQ a 1 1 i=plQ b 0 1 i) (h2:plO a 1 1=plO b 0 1):Qeg a b=true:=by
 unfold Qeg Qwi;rw [decide_eq_true h,decide_eq_true (h1 0 (by decide)),decide_eq_true (h1 1 (by decide)),decide_eq_true (h1 2 (by decide)),decide_eq_true h2];rfl
section
variable {p:List Sg} (hV:Qba p=true) {S:List (Sg×Int×Int)} {u v:Int} (h:sc p S u v) (hf:S.all spF=true)
include hV h hf
end
def rvP (p:List Sg):List Sg:=(List.range p.length).map fun j=>rvS (pBeg p+pEnd p) (p.getD (p.length-1-j) sg0)
section
variable {p:List Sg} (hV:Qba p=true)
include hV
end
end Go.Dg

namespace Go.Dg
theorem Qia (c:List Int):gcdL 1 c=1:=by
 unfold gcdL
 induction c with
 |nil=>rfl
 |cons x c ih=>simp only [List.foldl_cons,Nat.gcd_one_left];exact ih
def V3.co (v:V3) (i:Nat):Int:=if i=0 then v.x else if i=1 then v.y else v.z
theorem Qlq {a b k:Int} (hk:k=1∨k=2∨a=b):plc (Qbl a b (rowK k)) 1 1=b:=by
 by_cases e:a=b
 ·unfold Qbl;rw [if_pos e];simp [plc,sm,plcT,e]
 ·rcases hk with rfl|rfl|h
  ·unfold Qbl;rw [if_neg e];simp [plc,sm,plcT,rowK];omega
  ·unfold Qbl;rw [if_neg e];simp [plc,sm,plcT,rowK];omega
  ·exact absurd h e
theorem Qto {a b:V3} {f t k:Int} (hk:k=1∨k=2∨a=b):(∀i,i<3→plQ (legS a b f t k) 1 1 i=b.co i)∧plO (legS a b f t k) 1 1=1:=by
 have hG:plG (legS a b f t k) 1 1 3=1:=Qia _;have hx:k=1∨k=2∨a.x=b.x:=hk.imp_right (Or.imp_right fun h=>by rw [h]);have hy:k=1∨k=2∨a.y=b.y:=hk.imp_right (Or.imp_right fun h=>by rw [h]);have hz:k=1∨k=2∨a.z=b.z:=hk.imp_right (Or.imp_right fun h=>by rw [h]);refine⟨fun i hi=> ?_,?_⟩
 ·unfold plQ;rw [hG,show((1:Nat):Int)=1 from rfl,Int.ediv_one];rcases(show i=0∨i=1∨i=2 by omega)with rfl|rfl|rfl
  ·exact Qlq hx
  ·exact Qlq hy
  ·exact Qlq hz
 ·unfold plO;rw [hG];rfl
theorem Q09 (x:Int):rnd x 1=x:=by unfold rnd;omega
end Go.Dg

namespace Go.Dg
theorem Qlr (a b k:Int):plc (Qbl a b (rowK k)) 0 1=a:=by
 unfold Qbl;split
 ·simp [plc,sm,plcT]
 ·unfold rowK;split
  ·simp [plc,sm,plcT]
  ·split
   ·simp [plc,sm,plcT]
   ·simp [plc,sm,plcT]
theorem Qtp (a b:V3) (f t k:Int):(∀i,i<3→plQ (legS a b f t k) 0 1 i=a.co i)∧plO (legS a b f t k) 0 1=1:=by
 have hG:plG (legS a b f t k) 0 1 3=1:=Qia _;refine⟨fun i hi=> ?_,?_⟩
 ·unfold plQ;rw [hG,show((1:Nat):Int)=1 from rfl,Int.ediv_one];rcases(show i=0∨i=1∨i=2 by omega)with rfl|rfl|rfl
  ·exact Qlr _ _ _
  ·exact Qlr _ _ _
  ·exact Qlr _ _ _
 ·unfold plO;rw [hG];rfl
theorem Qpa {a b k:Int} (ha:inB a=true) (hb:inB b=true) (hk:k=1∨k=2∨a=b):axOK (Qbl a b (rowK k)) 1=true:=by
 rw [Qtn]at ha hb;by_cases e:a=b
 ·unfold Qbl;rw [if_pos e];unfold axOK Qlz Qd1;simp [List.range_succ,ctl,sm,cw,bin];omega
 ·rcases hk with rfl|rfl|h
  ·unfold Qbl;rw [if_neg e];unfold axOK Qlz Qd1;simp [rowK,List.range_succ,ctl,sm,cw,bin];omega
  ·unfold Qbl;rw [if_neg e];unfold axOK Qlz Qd1;simp [rowK,List.range_succ,ctl,sm,cw,bin];omega
  ·exact absurd h e
theorem Qq8 {a b:V3} {f t k:Int} (ha:ptB a=true) (hb:ptB b=true) (h0:0≤f) (h1:f<t) (h2:t≤3600000) (hk:k=1∨k=2∨a=b):Qa5 (legS a b f t k)=true:=by
 have hx:k=1∨k=2∨a.x=b.x:=hk.imp_right (Or.imp_right fun h=>by rw [h]);have hy:k=1∨k=2∨a.y=b.y:=hk.imp_right (Or.imp_right fun h=>by rw [h]);have hz:k=1∨k=2∨a.z=b.z:=hk.imp_right (Or.imp_right fun h=>by rw [h]);unfold ptB at ha hb;simp only [Bool.and_eq_true]at ha hb;have hg:(legS a b f t k).ax.foldl gcdL (legS a b f t k).o.natAbs=1:=by
  show gcdL (gcdL (gcdL 1 _) _) _=1;rw [Qia,Qia,Qia]
 unfold Qa5 rngS;rw [hg];simp only [legS,Sg.ax,List.all_cons,List.all_nil];rw [Qpa ha.1 hb.1 hx,Qpa ha.2.1 hb.2.1 hy,Qpa ha.2.2 hb.2.2 hz];simp [h0,h1,h2]
def chn:List Sg→Int→Int→V3→V3→Prop
 | [],u,v,a,b=>u=v∧a=b
 |s::l,u,v,a,b=>Qa5 s=true∧s.f=u∧(∀i,i<3→plQ s 0 1 i=a.co i)∧plO s 0 1=1∧ ∃c,(∀i,i<3→plQ s 1 1 i=c.co i)∧plO s 1 1=1∧chn l s.t v c b
theorem Qjb: ∀{l l':List Sg} {u v w:Int} {a b c:V3},chn l u v a b→chn l' v w b c→chn (l++l') u w a c
 | [],_,_,_,_,_,_,_,h,h'=>by obtain⟨rfl,rfl⟩:=h;exact h'
 |s::l,_,_,_,_,_,_,_,h,h'=>by
  obtain⟨h1,h2,h3,h4,c,h5,h6,h7⟩:=h;exact⟨h1,h2,h3,h4,c,h5,h6,Qjb h7 h'⟩
theorem Qpb {a b:V3} {f t k:Int} (ha:ptB a=true) (hb:ptB b=true) (h0:0≤f) (h1:f<t) (h2:t≤3600000) (hk:k=1∨k=2∨a=b):chn [legS a b f t k] f t a b:=
 ⟨Qq8 ha hb h0 h1 h2 hk,rfl,(Qtp a b f t k).1,(Qtp a b f t k).2,b,(Qto hk).1,(Qto hk).2,rfl,rfl⟩
theorem Zen: ∀{l:List Sg} {u v:Int} {a b:V3},chn l u v a b→u≤v
 | [],_,_,_,_,h=>by have:=h.1;omega
 |s::l,_,_,_,_,h=>by
  obtain⟨h1,h2,_,_,c,_,_,h7⟩:=h;have:=(Qal h1).1;have:=Zen h7;omega
theorem Q1a: ∀{l:List Sg} {u v:Int} {a b:V3},chn l u v a b→ ∀s∈l,Qa5 s=true∧u≤s.f∧s.t≤v
 | [],_,_,_,_,_=>fun _ h=>by cases h
 |s::l,_,_,_,_,h=>by
  obtain⟨h1,h2,_,_,c,_,_,h7⟩:=h;have h8:=(Qal h1).1;have h9:=Zen h7;intro x hx;rcases List.mem_cons.1 hx with rfl|hx
  ·exact⟨h1,by omega,h9⟩
  ·obtain⟨y1,y2,y3⟩:=Q1a h7 x hx;exact⟨y1,by omega,y3⟩
theorem Qq9: ∀{l:List Sg} {u v:Int} {a b:V3},chn l u v a b→ ∀(i:Nat) (hi:i+1<l.length),Qeg l[i] l[i+1]=true
 | [],_,_,_,_,_=>fun _ h=>by simp at h
 | [s],_,_,_,_,_=>fun _ h=>by simp at h
 |s::s'::l,_,_,_,_,h=>by
  obtain⟨h1,h2,_,_,c,h5,h6,h7⟩:=h;intro i hi
  match i,hi with
  |0,_=>
   obtain⟨k1,k2,k3,k4,_⟩:=h7;exact Q7n (a:=s) (b:=s') k2.symm (fun i hi=>by rw [h5 i hi,k3 i hi]) (by rw [h6,k4])
  |i+1,hi=>
   have:=Qq9 h7 i (by simp only [List.length_cons]at hi ⊢;omega);simpa using this
theorem Qpc: ∀{l:List Sg} {u v:Int} {a b:V3},chn l u v a b→ ∀h:0<l.length,l[0].f=u∧(l[l.length-1]'(by omega)).t=v
 | [],_,_,_,_,_=>fun h=>by simp at h
 | [s],_,_,_,_,h=>fun _=>by
  obtain⟨h1,h2,_,_,c,_,_,h7⟩:=h;exact⟨h2,h7.1⟩
 |s::s'::l,_,_,_,_,h=>fun _=>by
  obtain⟨h1,h2,_,_,c,_,_,h7⟩:=h;have:=(Qpc h7 (by simp)).2;exact⟨h2,by simpa using this⟩
theorem Qra {l:List Sg} {u v:Int} {a b:V3} (h:chn l u v a b) (h1:1≤l.length) (h2:l.length≤256):Qba l=true∧pBeg l=u∧pEnd l=v:=by
 refine⟨Q01 (fun i hi=>(Q1a h _ (List.getElem_mem hi)).1) (Qq9 h) h1 h2,?_,?_⟩
 ·unfold pBeg;rw [sgD (by omega)];exact(Qpc h (by omega)).1
 ·unfold pEnd;rw [sgD (by omega)];exact(Qpc h (by omega)).2
section
variable {p:Pg} (v:Zfs p=true) {i:Nat} (hi:i<p.ns.length)
include v hi
end
end Go.Dg

namespace Go.Dg
theorem Qht {P O lo hi:Int} (hO:0<O) (h1:lo*O≤P) (h2:P≤hi*O):lo≤rnd P O∧rnd P O≤hi:=by
 unfold rnd;have e1:lo*(O+O)=lo*O+lo*O:=Int.mul_add _ _ _;have e2:(hi+1)*(O+O)=hi*O+hi*O+(O+O):=by rw [Int.add_mul,Int.mul_add,Int.one_mul]
 constructor
 ·exact(Int.le_ediv_iff_mul_le (by omega)).2 (by omega)
 ·have:=(Int.ediv_lt_iff_lt_mul (a:=P+P+O) (b:=hi+1) (show 0<O+O by omega)).2 (by omega);omega
theorem Qrb {G P O:Int} (hG:0<G):rnd (G*P) (G*O)=rnd P O:=by
 unfold rnd;have e1:G*P+G*P+G*O=G*(P+P+O):=by rw [Int.mul_add,Int.mul_add]
 have e2:G*O+G*O=G*(O+O):=by rw [Int.mul_add]
 rw [e1,e2];exact Int.mul_ediv_mul_of_pos _ _ hG
theorem Zeo {s:Sg} (ho:1≤s.o) {x y:Int} (hy:1≤y) (i:Nat) (hi:i<3):rnd (plQ s x y i) (plO s x y)=rnd (plP s x y i) (s.o*y^5):=by
 obtain⟨d1,d2⟩:=Q10 s x y;have hG:0<(plG s x y 3:Int):=by have:=Qpl (a:=x) ho hy 3;omega
 have e1:(plG s x y 3:Int)*plQ s x y i=plP s x y i:=Int.mul_ediv_cancel' (d2 i hi);have e2:(plG s x y 3:Int)*plO s x y=s.o*y^5:=Int.mul_ediv_cancel' d1;rw [←e1,←e2,Qrb hG]
def eK (x z:Int):Int:=x^5+5*(x^4*z)+10*(x^3*z^2)
theorem Zmm {x z:Int} (hx:0≤x) (hz:0≤z):0≤eK x z:=by
 unfold eK;have h1:0≤x^5:=Int.pow_nonneg hx;have h2:0≤x^4*z:=Int.mul_nonneg (Int.pow_nonneg hx) hz;have h3:0≤x^3*z^2:=Int.mul_nonneg (Int.pow_nonneg hx) (Int.pow_nonneg hz);omega
theorem pw5 (a:Int):a^5=a*(a*(a*(a*a)))∧a^4=a*(a*(a*a))∧a^3=a*(a*a)∧a^2=a*a∧a^1=a∧a^0=1:=by
 have h0:a^0=1:=Int.pow_zero a;have h1:a^1=a:=by rw [Int.pow_succ,h0,Int.one_mul]
 have h2:a^2=a*a:=by rw [Int.pow_succ,h1]
 have h3:a^3=a*(a*a):=by rw [Int.pow_succ,h2,Int.mul_comm]
 have h4:a^4=a*(a*(a*a)):=by rw [Int.pow_succ,h3,Int.mul_comm]
 have h5:a^5=a*(a*(a*(a*a))):=by rw [Int.pow_succ,h4,Int.mul_comm]
 exact⟨h5,h4,h3,h2,h1,h0⟩
theorem nums (t:Int):5*t=t+t+t+t+t∧6*t=t+t+t+t+t+t∧10*t=t+t+t+t+t+t+t+t+t+t∧15*t=t+t+t+t+t+t+t+t+t+t+t+t+t+t+t:=by omega
theorem Q1b (x z:Int):eK x z+eK z x=(x+z)^5:=by
 unfold eK;simp only [(pw5 x).1,(pw5 x).2.1,(pw5 x).2.2.1,(pw5 x).2.2.2.1,(pw5 z).1,(pw5 z).2.1,(pw5 z).2.2.1,(pw5 z).2.2.2.1,(pw5 (x+z)).1];simp only [(nums _).1,(nums _).2.2.1,Int.add_mul,Int.mul_add,Int.mul_assoc,Int.mul_comm,Int.mul_left_comm];omega
theorem Qk3 (a b x z:Int):plc (Qbl a b (rowK 2)) x (x+z)=a*eK z x+b*eK x z:=by
 have hs:=Q1b x z;by_cases e:a=b
 ·unfold Qbl;rw [if_pos e,←e];have h:plc [a] x (x+z)=a*(x+z)^5:=by simp [plc,sm,plcT]
  rw [h,←hs,Int.mul_add];omega
 ·unfold Qbl;rw [if_neg e];have h:plc (a::(rowK 2).map fun f=>f*(b-a)) x (x+z)=a*(x+z)^5+(b-a)*(10*(x^3*(x+z)^2)-15*(x^4*(x+z)^1)+6*x^5):=by
   simp [plc,sm,plcT,rowK];generalize b-a=d;generalize x^3*(x+z)^2=M3;generalize x^4*(x+z)=M4;generalize x^5=M5;have q: ∀k m:Int,d*(k*m)=k*(d*m):=fun k m=>Int.mul_left_comm d k m;simp only [Int.mul_add,Int.mul_sub,Int.mul_assoc,q,Int.neg_mul];omega
  have h2:10*(x^3*(x+z)^2)-15*(x^4*(x+z)^1)+6*x^5=eK x z:=by
   unfold eK;simp only [(pw5 x).1,(pw5 x).2.1,(pw5 x).2.2.1,(pw5 z).2.2.2.1,(pw5 (x+z)).2.2.2.1,(pw5 (x+z)).2.2.2.2.1];simp only [(nums _).1,(nums _).2.1,(nums _).2.2.1,(nums _).2.2.2,Int.add_mul,Int.mul_add,Int.mul_assoc,Int.mul_comm,Int.mul_left_comm];omega
  rw [h,h2,←hs,Int.sub_mul,Int.mul_add];omega
theorem Qf8 {a b lo hi x z:Int} (hx:0≤x) (hz:0≤z) (h1:lo≤a) (h2:lo≤b) (h3:a≤hi) (h4:b≤hi):lo*(x+z)^5≤plc (Qbl a b (rowK 2)) x (x+z)∧plc (Qbl a b (rowK 2)) x (x+z)≤hi*(x+z)^5:=by
 rw [Qk3,←Q1b,Int.mul_add,Int.mul_add];have n1:=Zmm hx hz;have n2:=Zmm hz hx;have m1:=Int.mul_le_mul_of_nonneg_right h1 n2;have m2:=Int.mul_le_mul_of_nonneg_right h2 n1;have m3:=Int.mul_le_mul_of_nonneg_right h3 n2;have m4:=Int.mul_le_mul_of_nonneg_right h4 n1;omega
theorem Q7v {a b:V3} {f t:Int} {x y:Int} (hx:0≤x) (hy:1≤y) (hxy:x≤y) (i:Nat) (hi:i<3) {lo up:Int} (h1:lo≤a.co i) (h2:lo≤b.co i) (h3:a.co i≤up) (h4:b.co i≤up):
  lo≤rnd (plQ (legS a b f t 2) x y i) (plO (legS a b f t 2) x y)∧rnd (plQ (legS a b f t 2) x y i) (plO (legS a b f t 2) x y)≤up:=by
 rw [Zeo (Int.le_refl 1) hy i hi];have e:(legS a b f t 2).o*y^5=y^5:=Int.one_mul _;rw [e];obtain⟨z,rfl⟩: ∃z,y=x+z:=⟨y-x,by omega⟩;have hp:0<(x+z)^5:=Int.pow_pos (by omega);rcases(show i=0∨i=1∨i=2 by omega)with rfl|rfl|rfl
 ·have h:=Qf8 (a:=a.x) (b:=b.x) hx (show 0≤z by omega) h1 h2 h3 h4;exact Qht hp h.1 h.2
 ·have h:=Qf8 (a:=a.y) (b:=b.y) hx (show 0≤z by omega) h1 h2 h3 h4;exact Qht hp h.1 h.2
 ·have h:=Qf8 (a:=a.z) (b:=b.z) hx (show 0≤z by omega) h1 h2 h3 h4;exact Qht hp h.1 h.2
theorem Q1c {a b:V3} {f t:Int} {x:Int} (hx:1≤x) (i:Nat) (hi:i<3):rnd (plQ (legS a b f t 2) x (x+x) i) (plO (legS a b f t 2) x (x+x))=(a.co i+b.co i+1)/2:=by
 rw [Zeo (Int.le_refl 1) (by omega) i hi];have e:(legS a b f t 2).o*(x+x)^5=(x+x)^5:=Int.one_mul _;rw [e];have hE:eK x x=16*x^5:=by
  unfold eK;have a1:x^4*x=x^5:=(Int.pow_succ x 4).symm;have a2:x^3*x^2=x^5:=(Int.pow_add x 3 2).symm;rw [a1,a2];omega
 have hS:(x+x)^5=32*x^5:=by rw [←Q1b,hE];omega
 have key: ∀p q:Int,rnd (plc (Qbl p q (rowK 2)) x (x+x)) ((x+x)^5)=(p+q+1)/2:=by
  intro p q;rw [Qk3,hE,hS];have hp:0<16*x^5:=by have:0<x^5:=Int.pow_pos (by omega);omega
  have e1:p*(16*x^5)+q*(16*x^5)=(16*x^5)*(p+q):=by rw [Int.mul_comm,Int.mul_comm q,←Int.mul_add]
  have e2:32*x^5=(16*x^5)*2:=by omega
  rw [e1,e2,Qrb hp];unfold rnd;omega
 rcases(show i=0∨i=1∨i=2 by omega)with rfl|rfl|rfl
 ·exact key a.x b.x
 ·exact key a.y b.y
 ·exact key a.z b.z
theorem Q1d (c:List Int) (x:Int):hev c x 1=plc c x 1:=by
 rw [Qga];unfold plc;refine Qa8 _ fun i _=> ?_;unfold plcT;rw [Int.one_pow,Int.one_pow]
theorem Qls (a b:Int):cq (Qbl a b (rowK 2)) 1 (-1) 1=Qbl b a (rowK 2):=by
 have key: ∀n,n≤5→(Qbl a b (rowK 2)).length=n+1→(Qbl b a (rowK 2)).length=n+1→cq (Qbl a b (rowK 2)) 1 (-1) 1=Qbl b a (rowK 2):=by
  intro n hn hl hl2;refine Qg0 (by rw [Qfz hl,hl2]) fun x _=> ?_;rw [Q1d,Q1d,Zl9 hl 1 (-1) 1 hn];have e1:(1:Int)*1+ -1*x=1-x:=by omega
  have e2:(1:Int)*1=(1-x)+x:=by omega
  have e3:(1:Int)=x+(1-x):=by omega
  rw [e1,e2,Qk3];have h:=Qk3 b a x (1-x);rw [←e3]at h;rw [h];omega
 by_cases e:a=b
 ·subst e;exact key 0 (by decide) (by unfold Qbl;rw [if_pos rfl];rfl) (by unfold Qbl;rw [if_pos rfl];rfl)
 ·exact key 5 (by decide) (by unfold Qbl;rw [if_neg e];rfl) (by unfold Qbl;rw [if_neg (Ne.symm e)];rfl)
theorem Zft {a b:V3} {f t W:Int} (hv:Qa5 (legS a b f t 2)=true):rvS W (legS a b f t 2)=legS b a (W-t) (W-f) 2:=by
 have e0:=Q7l hv W 0 (by decide);have e1:=Q7l hv W 1 (by decide);have e2:=Q7l hv W 2 (by decide);have eo:=rv_o hv W;have k0:(legS a b f t 2).ax.getD 0 []=Qbl a.x b.x (rowK 2):=rfl;have k1:(legS a b f t 2).ax.getD 1 []=Qbl a.y b.y (rowK 2):=rfl;have k2:(legS a b f t 2).ax.getD 2 []=Qbl a.z b.z (rowK 2):=rfl;rw [k0,Qls]at e0;rw [k1,Qls]at e1;rw [k2,Qls]at e2;have hf:(rvS W (legS a b f t 2)).f=W-t:=rfl;have ht:(rvS W (legS a b f t 2)).t=W-f:=rfl;generalize rvS W (legS a b f t 2)=R at*;obtain⟨Rf,Rt,Ro,Rx,Ry,Rz⟩:=R;simp only [Sg.ax,List.getD_cons_zero,List.getD_cons_succ]at e0 e1 e2 eo hf ht;subst e0 e1 e2 hf ht;unfold legS;rw [eo];rfl
end Go.Dg

namespace Go.Dg
def rdT (p:List Sg) (T:Int) (k:Nat):Int:=rnd (plT p T k) (poT p T)
theorem Qv9 {p:List Sg} (hV:Qba p=true) {T:Int} {i:Nat} (hi:i<p.length) (h1:p[i].f≤T) (h2:T≤p[i].t) (k:Nat) (hk:k<3):
  rdT p T k=rnd (plQ p[i] (T-p[i].f) (p[i].t-p[i].f) k) (plO p[i] (T-p[i].f) (p[i].t-p[i].f)):=by
 obtain⟨h3,h4⟩:=Zp2 hV hi h1 h2;unfold rdT;rw [h3 k hk,h4]
theorem Qpd {p:List Sg} (hV:Qba p=true) {i:Nat} (hi:i<p.length) {a b:V3} {f t kd:Int} (e:p[i]=legS a b f t kd) (hkd:kd=1∨kd=2∨a=b) (k:Nat) (hk:k<3):rdT p t k=b.co k:=by
 have hv:=Qci hV i hi;have hf:p[i].f=f:=by rw [e];rfl
 have ht:p[i].t=t:=by rw [e];rfl
 have hlt:=(Qal hv).1;rw [Qv9 hV hi (by omega) (by omega) k hk];have e1:t-p[i].f=p[i].t-p[i].f:=by omega
 obtain⟨⟨x1,x2⟩, -⟩:=Qo2 hv (m:=p[i].t-p[i].f) (by omega);obtain⟨y1,y2⟩:=Qto (a:=a) (b:=b) (f:=f) (t:=t) hkd;rw [e1,x1 k hk,x2,e,y1 k hk,y2,Q09]
theorem Qtq {p:List Sg} (hV:Qba p=true) {i:Nat} (hi:i<p.length) {a b:V3} {f t kd:Int} (e:p[i]=legS a b f t kd) (k:Nat) (hk:k<3):rdT p f k=a.co k:=by
 have hv:=Qci hV i hi;have hf:p[i].f=f:=by rw [e];rfl
 have ht:p[i].t=t:=by rw [e];rfl
 have hlt:=(Qal hv).1;rw [Qv9 hV hi (by omega) (by omega) k hk];have e1:f-p[i].f=0:=by omega
 obtain⟨-,x1,x2⟩:=Qo2 hv (m:=p[i].t-p[i].f) (by omega);obtain⟨y1,y2⟩:=Qtp a b f t kd;rw [e1,x1 k hk,x2,e,y1 k hk,y2,Q09]
theorem Qn5 {p:List Sg} (hV:Qba p=true) {i:Nat} (hi:i<p.length) {a b:V3} {f t:Int} (e:p[i]=legS a b f t 2) {T:Int} (h1:f≤T) (h2:T≤t) (k:Nat) (hk:k<3) {lo up:Int} (c1:lo≤a.co k) (c2:lo≤b.co k) (c3:a.co k≤up) (c4:b.co k≤up):
  lo≤rdT p T k∧rdT p T k≤up:=by
 have hv:=Qci hV i hi;have hf:p[i].f=f:=by rw [e];rfl
 have ht:p[i].t=t:=by rw [e];rfl
 have hlt:=(Qal hv).1;rw [Qv9 hV hi (by omega) (by omega) k hk,hf,ht,e];exact Q7v (by omega) (by omega) (by omega) k hk c1 c2 c3 c4
theorem Qpe {p:List Sg} (hV:Qba p=true) {i:Nat} (hi:i<p.length) {a b:V3} {f t:Int} (e:p[i]=legS a b f t 2) {x:Int} (hx:t-f=x+x) (k:Nat) (hk:k<3):rdT p (f+x) k=(a.co k+b.co k+1)/2:=by
 have hv:=Qci hV i hi;have hf:p[i].f=f:=by rw [e];rfl
 have ht:p[i].t=t:=by rw [e];rfl
 have hlt:=(Qal hv).1;rw [Qv9 hV hi (by omega) (by omega) k hk,hf,ht,e];have e1:f+x-f=x:=by omega
 rw [e1,hx];exact Q1c (by omega) k hk
theorem Qpf {a b:V3} {f t:Int} (ha:ptB a=true) (hb:ptB b=true) (h0:0≤f) (h1:f<t) (h2:t≤3600000):Qba [legS a b f t 2]=true∧pBeg [legS a b f t 2]=f∧pEnd [legS a b f t 2]=t:=
 Qra (Qpb ha hb h0 h1 h2 (.inr (.inl rfl))) (by simp) (by simp)
theorem Q7w {a b:V3} {f t:Int} (ha:ptB a=true) (hb:ptB b=true) (h0:0≤f) (h1:f<t) (h2:t≤3600000):rvP [legS a b f t 2]=[legS b a f t 2]:=by
 obtain⟨-,e1,e2⟩:=Qpf ha hb h0 h1 h2;unfold rvP;rw [e1,e2];show [rvS (f+t) (legS a b f t 2)]=_;rw [Zft (Qq8 ha hb h0 h1 h2 (.inr (.inl rfl)))];have x1:f+t-t=f:=by omega
 have x2:f+t-f=t:=by omega
 rw [x1,x2]
theorem Q7x {a b:V3} {r f t:Int} (ha:ptB a=true) (hb:ptB b=true) (hau:ptB (up a r)=true) (hbu:ptB (up b r)=true) (h0:0≤f) (h1:f<t) (h2:t≤3600000) (h4:(t-f)%4=0):
  Qba (arc3 a b r f t)=true∧pBeg (arc3 a b r f t)=f∧pEnd (arc3 a b r f t)=t:=by
 refine Qra (a:=a) (b:=b) ?_ (by simp [arc3]) (by simp [arc3]);unfold arc3;refine Qjb (l:=[_]) (Qpb ha hau (by omega) (by omega) (by omega) (.inr (.inl rfl))) ?_;refine Qjb (l:=[_]) (Qpb hau hbu (by omega) (by omega) (by omega) (.inr (.inl rfl))) ?_;exact Qpb hbu hb (by omega) (by omega) (by omega) (.inr (.inl rfl))
theorem Q1e {a b:V3} {r f t T:Int} (hV:Qba (arc3 a b r f t)=true) (hr:0≤r) (h1:f≤T) (h2:T≤t) (k:Nat) (hk:k<3) {lo hi:Int} (c1:lo≤a.co k) (c2:lo≤b.co k) (c3:(up a r).co k≤hi) (c4:(up b r).co k≤hi):
  lo≤rdT (arc3 a b r f t) T k∧rdT (arc3 a b r f t) T k≤hi:=by
 have ua:a.co k≤(up a r).co k:=by
  rcases(show k=0∨k=1∨k=2 by omega)with rfl|rfl|rfl
  ·exact Int.le_refl _
  ·exact Int.le_refl _
  ·show a.z≤a.z+r;omega
 have ub:b.co k≤(up b r).co k:=by
  rcases(show k=0∨k=1∨k=2 by omega)with rfl|rfl|rfl
  ·exact Int.le_refl _
  ·exact Int.le_refl _
  ·show b.z≤b.z+r;omega
 have l3:(arc3 a b r f t).length=3:=rfl;by_cases q1:T≤f+(t-f)/4
 ·exact Qn5 hV (i:=0) (by omega) (show(arc3 a b r f t)[0]=_ from rfl) h1 q1 k hk c1 (by omega) (by omega) c3
 ·by_cases q2:T≤t-(t-f)/4
  ·exact Qn5 hV (i:=1) (by omega) (show(arc3 a b r f t)[1]=_ from rfl) (by omega) q2 k hk (by omega) (by omega) c3 c4
  ·exact Qn5 hV (i:=2) (by omega) (show(arc3 a b r f t)[2]=_ from rfl) (by omega) h2 k hk (by omega) c2 c4 (by omega)
theorem Qtr {a b:V3} {r f t:Int} (hV:Qba (arc3 a b r f t)=true) (k:Nat) (hk:k<3):rdT (arc3 a b r f t) (f+(t-f)/4) k=(up a r).co k:=
 have l3:0<(arc3 a b r f t).length:=by show 0<3;decide
 Qpd hV (i:=0) l3 (show(arc3 a b r f t)[0]=_ from rfl) (.inr (.inl rfl)) k hk
end Go.Dg

namespace Go.Vl
abbrev Vars:=List (Nat×PV)
abbrev BoxL:=List (Nat×Box)
def insL {α:Type}:List (Nat×α)→Nat→α→List (Nat×α)
 | [],k,v=>[(k,v)]
 |(j,x)::l,k,v=>match Nat.beq j k with
  |true=>(k,v)::l
  |false=>(j,x)::insL l k v
theorem Qxr {α:Type}: ∀(l:List (Nat×α)) (k:Nat) (v:α),lkp (insL l k v)=upd (lkp l) k (some v)
 | [],k,v=>by funext j;simp [insL,lkp,upd]
 |(i,x)::l,k,v=>by
  funext j;have ih:=congrFun (Qxr l k v) j;simp only [insL];cases h:Nat.beq i k with
  |true=>
   have:=Nat.eq_of_beq_eq_true h;subst this;simp only [lkp,upd];split<;>simp_all
  |false=>
   have hne: ¬i=k:=fun e=>by subst e;simp [Nat.beq_refl]at h
   simp only [lkp,upd,ih];by_cases e1:j=i<;>by_cases e2:j=k<;>simp_all
noncomputable def frcN {α:Type} (n:Nat) (k:Nat→α):α:= @Nat.rec (fun _=>α) (k 0) (fun m _=>k (Nat.succ m)) n
theorem Qfw {α:Type} (n:Nat) (k:Nat→α):frcN n k=k n:=by cases n<;>rfl
noncomputable def frcI {α:Type} (n:Int) (k:Int→α):α:= @Int.rec (fun _=>α) (fun m=>frcN m fun m=>k (.ofNat m)) (fun m=>frcN m fun m=>k (.negSucc m)) n
theorem Zlr {α:Type} (n:Int) (k:Int→α):frcI n k=k n:=by cases n<;>simp [frcI,Qfw]
noncomputable def frcB {α:Type} (b:Bool) (k:Bool→α):α:= @Bool.rec (fun _=>α) (k false) (k true) b
theorem Q60 {α:Type} (b:Bool) (k:Bool→α):frcB b k=k b:=by cases b<;>rfl
noncomputable def frcL {α β:Type} (f:β→(β→α)→α) (l:List β):(List β→α)→α:=
 @List.rec β (fun _=>(List β→α)→α) (fun K=>K []) (fun v _ ih K=>f v fun v=>ih fun vs=>K (v::vs)) l
theorem Qvr {α β:Type} {f:β→(β→α)→α} (hf: ∀v K,f v K=K v) (l:List β) (K:List β→α):frcL f l K=K l:=by
 induction l generalizing K with
 |nil=>rfl
 |cons v vs ih=>
  show f v (fun v=>frcL f vs fun vs=>K (v::vs))=K (v::vs);rw [hf,ih]
noncomputable def frc1 {α:Type} (rec:PV→(PV→α)→α) (v:PV) (K:PV→α):α:= @PV.casesOn (fun _=>α) v
 (fun b=>frcB b fun b=>K (.bool b)) (fun k n=>frcI n fun n=>K (.int k n)) (fun s=>K (.str s)) (K .nilS)
 (fun es=>frcL rec es fun es=>K (.slc es)) (fun es=>frcL rec es fun es=>K (.agg es)) (fun es=>frcL rec es fun es=>K (.tup es))
 (fun f a c=>frcN f fun f=>frcL rec a fun a=>frcL rec c fun c=>K (.fn f a c)) (K .nilF) (fun es=>frcL rec es fun es=>K (.rp es))
 (fun b e i o=>frcN b fun b=>frcN e fun e=>frcN i fun i=>frcN o fun o=>K (.bp b e i o))
 (fun b e i o=>frcN b fun b=>frcN e fun e=>frcN i fun i=>frcN o fun o=>K (.bs b e i o)) (K .undef) (fun l s=>K (.yld l s)) (K .nilI) (fun b=>K (.mp b)) (K .nilM) (K .anyB)
noncomputable def frc {α:Type} (d:Nat):PV→(PV→α)→α:= @Nat.rec (fun _=>PV→(PV→α)→α) (fun v K=>K v) (fun _ ih=>frc1 ih) d
theorem Qs8 {α:Type} (d:Nat) (v:PV) (K:PV→α):frc d v K=K v:=by
 induction d generalizing v K with
 |zero=>rfl
 |succ d ih=>
  show frc1 (frc d) v K=K v;cases v<;>simp only [frc1,Q60,Zlr,Qfw,Qvr ih]
noncomputable def Qks {α:Type} (B:Box) (K:Box→α):α:=match B with
 |⟨els,esz,ety,fro,live,arr,mp⟩=>frcL (frc 6) els fun els=>frcN esz fun esz=>frcN fro fun fro=>frcB live fun live=>frcB arr fun arr=>K ⟨els,esz,ety,fro,live,arr,mp⟩
theorem Qgx {α:Type} (B:Box) (K:Box→α):Qks B K=K B:=by cases B;simp only [Qks,Q60,Qfw,Qvr (Qs8 6)]
theorem Qvs (m t j:Nat):(m ||| 2^t).testBit j=(m.testBit j||decide (t=j)):=by rw [Nat.testBit_or,Nat.testBit_two_pow]
noncomputable def frcS {α β:Type} (l:List (Nat×β)):Nat→(List (Nat×β)→α)→α:=
 @List.rec (Nat×β) (fun _=>Nat→(List (Nat×β)→α)→α) (fun _ K=>K []) (fun p _ ih m K=> @Bool.rec (fun _=>α) (frcN (m ||| 2^p.1) fun m=>ih m fun l=>K (p::l)) (ih m K) (m.testBit p.1)) l
theorem Zls {α β:Type} (l:List (Nat×β)) (m:Nat) (K:List (Nat×β)→α): ∃l',frcS l m K=K l'∧ ∀t,m.testBit t=false→lkp l' t=lkp l t:=by
 induction l generalizing m K with
 |nil=>exact⟨[],rfl,fun _ _=>rfl⟩
 |cons p l ih=>
  have e:frcS (p::l) m K= @Bool.rec (fun _=>α) (frcN (m ||| 2^p.1) fun m=>frcS l m fun l=>K (p::l)) (frcS l m K) (m.testBit p.1):=rfl;rw [e];cases hb:m.testBit p.1 with
  |true=>
   obtain⟨l',h1,h2⟩:=ih m K;refine⟨l',h1,fun t ht=> ?_⟩;have hne: ¬t=p.1:=fun e=>by rw [e,hb]at ht;cases ht
   rw [h2 t ht];simp [lkp,hne]
  |false=>
   simp only [Qfw];obtain⟨l',h1,h2⟩:=ih (m ||| 2^p.1) fun l=>K (p::l);refine⟨_,h1,fun t ht=> ?_⟩;obtain⟨k,v⟩:=p;simp only [lkp];by_cases hk:t=k
   ·simp [hk]
   ·simp only [if_neg hk];exact h2 t (by rw [Qvs,ht];simp;exact fun x=>hk x.symm)
theorem Zrk {α β:Type} (l:List (Nat×β)) (K:List (Nat×β)→α): ∃l',frcS l 0 K=K l'∧lkp l'=lkp l:=by
 obtain⟨l',h1,h2⟩:=Zls l 0 K;exact⟨l',h1,funext fun t=>h2 t (by simp)⟩
noncomputable def effB {α:Type} (e:Eff) (bs:BoxL) (K:BoxL→Option α):Option α:=match e with
 | .new b B=>Qks B fun B=>K (insL bs b B)
 | .wr b i v=>match lkp bs b with
  |some B=>Qks {B with els:=B.els.set i v} fun B=>K (insL bs b B)
  |none=>K bs
 | .fro b n=>match lkp bs b with
  |some B=>Qks {B with fro:=max B.fro n,live:=B.live&&true} fun B=>K (insL bs b B)
  |none=>K bs
 | .kill b=>match lkp bs b with
  |some B=>Qks {B with els:=[],fro:=0,live:=false} fun B=>K (insL bs b B)
  |none=>K bs
 | .yld _=>none
noncomputable def Zef {α:Type}:List Eff→BoxL→(BoxL→Option α)→Option α
 | [],bs,K=>K bs
 |e::es,bs,K=>effB e bs fun bs=>Zef es bs K
theorem Zlt {α:Type} (e:Eff) (vs:Vars) (bs:BoxL) (K:BoxL→Option α) {x:α} (h:effB e bs K=some x): ∃bs',K bs'=some x∧e.on (St.of vs bs)=St.of vs bs':=by
 have hs: ∀b B,(St.of vs bs).setBox b B=St.of vs (insL bs b B):=fun b B=>by simp only [St.setBox,St.of,St.ofG,Qxr]
 cases e with
 |new b B=>simp only [effB,Qgx]at h;exact⟨_,h,hs _ _⟩
 |wr b i v=>
  simp only [effB]at h;simp only [Eff.on,Qgu];cases hb:lkp bs b with
  |some B=>simp only [hb,Qgx]at h;exact⟨_,h,hs _ _⟩
  |none=>simp only [hb]at h;exact⟨_,h,rfl⟩
 |fro b n=>
  simp only [effB]at h;simp only [Eff.on,Qgu];cases hb:lkp bs b with
  |some B=>simp only [hb,Qgx]at h;exact⟨_,h,hs _ _⟩
  |none=>simp only [hb]at h;exact⟨_,h,rfl⟩
 |kill b=>
  simp only [effB]at h;simp only [Eff.on,Qgu];cases hb:lkp bs b with
  |some B=>simp only [hb,Qgx]at h;exact⟨_,h,hs _ _⟩
  |none=>simp only [hb]at h;exact⟨_,h,rfl⟩
 |yld x=>cases h
theorem Qqw {α:Type}: ∀(es:List Eff) (vs:Vars) (bs:BoxL) (K:BoxL→Option α) {x:α},Zef es bs K=some x→ ∃bs',K bs'=some x∧Qaj es (St.of vs bs)=St.of vs bs'
 | [],vs,bs,K,x,h=>⟨bs,h,rfl⟩
 |e::es,vs,bs,K,x,h=>by
  obtain⟨bs1,h1,h2⟩:=Zlt e vs bs _ h;obtain⟨bs2,h3,h4⟩:=Qqw es vs bs1 K h1;refine⟨bs2,h3,?_⟩;rw [Qaw,h2,h4]
def putL (vs:Vars):Option Tmp→PV→Vars
 |some t,v=>(t,v)::vs
 |none,_=>vs
theorem Qvt (vs:Vars) (bs:BoxL) (d:Option Tmp) (v:PV):(St.of vs bs).put d v=St.of (putL vs d v) bs:=by
 cases d with
 |none=>rfl
 |some t=>rfl
noncomputable def lkR (l:Vars) (k:Nat):Option PV:= @List.rec (Nat×PV) (fun _=>Option PV) none (fun p _ ih=> @Bool.rec (fun _=>Option PV) ih (some p.2) (Nat.beq k p.1)) l
theorem Zpf (l:Vars) (k:Nat):lkR l k=lkp l k:=by
 induction l with
 |nil=>rfl
 |cons p l ih=>
  have e:lkR (p::l) k= @Bool.rec (fun _=>Option PV) (lkR l k) (some p.2) (Nat.beq k p.1):=rfl;rw [e,ih];obtain⟨j,v⟩:=p;simp only [lkp];cases h:Nat.beq k j with
  |true=>simp [Nat.eq_of_beq_eq_true h]
  |false=>
   have hne: ¬k=j:=fun e=>by subst e;simp [Nat.beq_refl]at h
   simp [hne]
noncomputable def evK {α:Type} (vs:Vars) (xs:List Operand):(List PV→Option α)→Option α:=
 @List.rec Operand (fun _=>(List PV→Option α)→Option α) (fun K=>K []) (fun x _ ih K=>
  @Option.rec PV (fun _=>Option α) none (fun v=>ih fun l=>K (v::l)) (@Operand.casesOn (fun _=>Option PV) x (fun t=>lkR vs t) (fun c=>Qdx c) (fun _=>none) (fun f=>some (.fn f [] [])))) xs
theorem Zpg {α:Type} (vs:Vars) (bs:BoxL) (xs:List Operand) (K:List PV→Option α):evK vs xs K=match(St.of vs bs).evs xs with
  |some l=>K l
  |none=>none:=by
 induction xs generalizing K with
 |nil=>rfl
 |cons x xs ih=>
  have e:evK vs (x::xs) K= @Option.rec PV (fun _=>Option α) none (fun v=>evK vs xs fun l=>K (v::l)) (@Operand.casesOn (fun _=>Option PV) x (fun t=>lkR vs t) (fun c=>Qdx c) (fun _=>none) (fun f=>some (.fn f [] []))):=rfl;have hx:(@Operand.casesOn (fun _=>Option PV) x (fun t=>lkR vs t) (fun c=>Qdx c) (fun _=>none) (fun f=>some (.fn f [] [])))=(St.of vs bs).ev x:=by
   cases x<;>simp only [St.ev,St.of,St.ofG,Zpf]
  rw [e,hx];simp only [St.evs];cases (St.of vs bs).ev x with
  |none=>rfl
  |some v=>
   simp only [ih];cases (St.of vs bs).evs xs<;>rfl
def invM (κ:List (Nat×Nat)):List (Nat×Nat):=κ.map fun p=>(p.2,p.1)
theorem Q61: ∀(κ:List (Nat×Nat)) (b:Nat),lkp (invM κ) b=rlk κ b
 | [],_=>rfl
 |(k,v)::l,b=>by
  have ih:=Q61 l b;simp only [invM,List.map_cons,lkp,rlk]at ih ⊢;rw [ih]
theorem Qfx {κ:List (Nat×Nat)} (hκ:Qeo κ=true) {b b':Nat} (h:lkp κ b=some b'):lkp (invM κ) b'=some b:=by
 rw [Q61];exact(Qbp hκ).1 h
theorem Zeg {κ:List (Nat×Nat)} (hκ:Qeo κ=true) {v v':PV} (h:ren0 κ v=some v'):ren0 (invM κ) v'=some v:=by
 cases v with
 |bp b esz i off=>
  simp only [ren0]at h;split at h
  ·rename_i b' hb;cases h;simp only [ren0,Qfx hκ hb]
  ·cases h
 |bs b esz i off=>
  simp only [ren0]at h;split at h
  ·rename_i b' hb;cases h;simp only [ren0,Qfx hκ hb]
  ·cases h
 |fn f a c=>
  cases a with
  |nil=>cases c with
   |nil=>cases h;rfl
   |cons=>cases h
  |cons=>cases h
 |agg=>cases h
 |tup=>cases h
 |mp b=>
  simp only [ren0]at h;split at h
  ·rename_i b' hb;cases h;simp only [ren0,Qfx hκ hb]
  ·cases h
 |_=>cases h;rfl
theorem Qi7 {κ:List (Nat×Nat)} (hκ:Qeo κ=true): ∀{vs vs':List PV},Qax κ vs=some vs'→Qax (invM κ) vs'=some vs
 | [],vs',h=>by cases h;rfl
 |v::vs,vs',h=>by
  unfold Qax at h;split at h
  ·cases h
  ·rename_i x hx;split at h
   ·cases h
   ·rename_i xs hxs;cases h;simp only [Qax,Zeg hκ hx,Qi7 hκ hxs]
theorem Qxs {κ:List (Nat×Nat)} (hκ:Qeo κ=true) {v v':PV} (h:ren1 κ v=some v'):ren1 (invM κ) v'=some v:=by
 cases v with
 |agg cs=>
  simp only [ren1]at h;split at h
  ·rename_i xs hxs;cases h;simp only [ren1,Qi7 hκ hxs]
  ·cases h
 |tup vs=>
  cases vs with
  |nil=>cases h;rfl
  |cons=>cases h
 |fn f a c=>
  simp only [ren1]at h;split at h
  ·cases h
  ·rename_i x hx;split at h
   ·cases h
   ·rename_i y hy;cases h;simp only [ren1,Qi7 hκ hx,Qi7 hκ hy]
 |bp b esz i off=>
  have h':ren0 κ (.bp b esz i off)=some v':=h;simp only [ren0]at h';split at h'
  ·rename_i b' hb;cases h';simp only [ren1,ren0,Qfx hκ hb]
  ·cases h'
 |bs b esz i off=>
  have h':ren0 κ (.bs b esz i off)=some v':=h;simp only [ren0]at h';split at h'
  ·rename_i b' hb;cases h';simp only [ren1,ren0,Qfx hκ hb]
  ·cases h'
 |mp b=>
  have h':ren0 κ (.mp b)=some v':=h;simp only [ren0]at h';split at h'
  ·rename_i b' hb;cases h';simp only [ren1,ren0,Qfx hκ hb]
  ·cases h'
 |_=>cases h;rfl
def Q62:Nat→BoxL→List (Nat×Nat)
 |_,[]=>[]
 |i,(b,_)::bs=>(b,500000+i)::Q62 (i+1) bs
def renV (κ:List (Nat×Nat)) (vs:Vars):Vars→Vars
 | []=>[]
 |(t,_)::r=>match lkp vs t with
  |some v=>match ren1 κ v with
   |some v'=>(t,v')::renV κ vs r
   |none=>renV κ vs r
  |none=>renV κ vs r
theorem Qqx {κ:List (Nat×Nat)} (hκ:Qeo κ=true) (vs:Vars): ∀l:Vars,Qae (invM κ) vs (renV κ vs l)
 | []=>trivial
 |(t,_)::r=>by
  unfold renV;split
  ·rename_i v hv;split
   ·rename_i v' hv';refine⟨?_,Qqx hκ vs r⟩;rw [hv];exact Qxs hκ hv'
   ·exact Qqx hκ vs r
  ·exact Qqx hκ vs r
def Q63 (κ:List (Nat×Nat)) (B:Box):Option Box:=match B.arr with
 |true=>some B
 |false=>match B.els with
  | [v]=>match ren1 κ v with
   |some v'=>if Qa0 v'.cells=true then some {B with els:=[v']}else none
   |none=>none
  |_=>none
theorem Q64 {κ:List (Nat×Nat)} (hκ:Qeo κ=true) {B B':Box} (h:Q63 κ B=some B'):Box.renames (invM κ) B' B:=by
 unfold Q63 at h;cases ha:B.arr with
 |true=>rw [ha]at h;cases h;exact⟨rfl,rfl,rfl,rfl,rfl,.inl ⟨ha,rfl⟩⟩
 |false=>
  rw [ha]at h;simp only at h;split at h
  ·rename_i v hv;split at h
   ·rename_i v' hv';split at h
    ·rename_i hok;cases h;exact⟨rfl,rfl,rfl,rfl,by first|rfl|(simp only [ha]),.inr ⟨by first|rfl|exact ha,v,v',rfl,hv,Qxs hκ hv',hok⟩⟩
    ·cases h
   ·cases h
  ·cases h
def renB (κ:List (Nat×Nat)) (bs:BoxL):BoxL→Option BoxL
 | []=>some []
 |(b,_)::r=>match lkp κ b,lkp bs b with
  |some b',some B=>match Q63 κ B,renB κ bs r with
   |some B',some l=>some ((b',B')::l)
   |_,_=>none
  |_,_=>none
theorem Q65 {κ:List (Nat×Nat)} (hκ:Qeo κ=true) (bs:BoxL): ∀(l bs':BoxL),renB κ bs l=some bs'→Qar (invM κ) bs bs'
 | [],bs',h=>by cases h;trivial
 |(b,_)::r,bs',h=>by
  unfold renB at h;split at h
  ·rename_i b' B hb hB;split at h
   ·rename_i B' l' hB' hl;cases h;refine⟨?_,Q65 hκ bs r l' hl⟩;rw [Qfx hκ hb];simp only [hB];exact Q64 hκ hB'
   ·cases h
  ·cases h
def Q66 (vs:Vars) (bs:BoxL):Option (Vars×BoxL):=match renB (Q62 0 bs) bs bs with
 |none=>none
 |some bs'=>match Qeo (Q62 0 bs)&&Qjy (invM (Q62 0 bs)) bs' with
  |true=>some (renV (Q62 0 bs) vs vs,bs')
  |false=>none
theorem Q67 {vs vs':Vars} {bs bs':BoxL} (h:Q66 vs bs=some (vs',bs')):Le (St.of vs bs) (St.of vs' bs'):=by
 unfold Q66 at h;split at h
 ·cases h
 ·rename_i bs1 h1;split at h
  ·rename_i h2;cases h;simp only [Bool.and_eq_true]at h2;exact Qas h2.2 (Qqx h2.1 vs vs) (Q65 h2.1 bs bs _ h1)
  ·cases h
noncomputable def Zlu {α:Type} (l:Vars):(Vars→α)→α:=
 @List.rec (Nat×PV) (fun _=>(Vars→α)→α) (fun K=>K []) (fun p _ ih K=>frcN p.1 fun t=>frc 6 p.2 fun v=>ih fun l=>K ((t,v)::l)) l
theorem Zeh {α:Type} (l:Vars) (K:Vars→α):Zlu l K=K l:=by
 induction l generalizing K with
 |nil=>rfl
 |cons p l ih=>
  show frcN p.1 (fun t=>frc 6 p.2 fun v=>Zlu l fun l=>K ((t,v)::l))=K (p::l);rw [Qfw,Qs8,ih]
noncomputable def Zlv {α:Type} (l:BoxL):(BoxL→α)→α:=
 @List.rec (Nat×Box) (fun _=>(BoxL→α)→α) (fun K=>K []) (fun p _ ih K=>frcN p.1 fun t=>Qks p.2 fun v=>ih fun l=>K ((t,v)::l)) l
theorem Zei {α:Type} (l:BoxL) (K:BoxL→α):Zlv l K=K l:=by
 induction l generalizing K with
 |nil=>rfl
 |cons p l ih=>
  show frcN p.1 (fun t=>Qks p.2 fun v=>Zlv l fun l=>K ((t,v)::l))=K (p::l);rw [Qfw,Qgx,ih]
noncomputable def renK {α:Type} (vs:Vars) (bs:BoxL) (K:Vars→BoxL→α):α:=match bs with
 | []=>K vs []
 |b::r=>match Q66 vs (b::r)with
  |none=>K vs (b::r)
  |some (vs',bs')=>Zlu vs' fun vs'=>Zlv bs' fun bs'=>K vs' bs'
theorem Zlw {α:Type} (vs:Vars) (bs:BoxL) (K:Vars→BoxL→α): ∃vs' bs',renK vs bs K=K vs' bs'∧Le (St.of vs bs) (St.of vs' bs'):=by
 unfold renK;split
 ·exact⟨_,_,rfl,Le.refl _⟩
 ·split
  ·exact⟨_,_,rfl,Le.refl _⟩
  ·rename_i vs' bs' h;exact⟨vs',bs',by rw [Zeh,Zei],Q67 h⟩
section
variable (P:Program) (call:FuncId→List PV→Option PV)
noncomputable def Q0m {α:Type} (ops:Array Oper) (nt base:Nat):List Oper→Nat→Vars→BoxL→List Acc→(Vars→BoxL→List Acc→Option α)→Option α
 | [],_,vs,bs,accs,K=>K vs bs accs
 |o::rest,i,vs,bs,accs,K=>match Qs2 nt o with
  |false=>none
  |true=>match Qb5 ops o (St.of vs bs)with
   |none=>none
   |some false=>Q0m ops nt base rest (i+1) (putL vs o.dst (.tup [])) bs ([]::accs) K
   |some true=>evK vs o.op.operands.toList fun xs=>match Qa1 P [] (base+i) o.op xs (lkp bs)with
     |none=>none
     |some (.done v es,l)=>frc 6 v fun v=>Zef es bs fun bs=>frcN i fun i=>Q0m ops nt base rest (i+1) (putL vs o.dst v) bs ((l++Qb9 es)::accs) K
     |some (.call f args es,l)=>frcN f fun f=>frcL (frc 6) args fun args=>match call f args with
      |none=>none
      |some r=>frc 6 r fun r=>Zef (if Qf1 r then []else es) bs fun bs=>frcN i fun i=>Q0m ops nt base rest (i+1) (putL vs o.dst r) bs ((l++Qb9 es)::accs) K
     |some (_,_)=>none
theorem Qfy (hc: ∀f args r,call f args=some r→Qaf P f args r) {α:Type} (ops:Array Oper) (nt base:Nat): ∀(rest:List Oper) (i:Nat) (vs:Vars) (bs:BoxL) (accs:List Acc)
  (K:Vars→BoxL→List Acc→Option α) (x:α),Q0m P call ops nt base rest i vs bs accs K=some x→
  ∃vs' bs' accs',K vs' bs' accs'=some x∧ ∀K':St→List Acc→Prop,K' (St.of vs' bs') accs'→vops P [] ops nt base i rest (St.of vs bs) accs K'
 | [],i,vs,bs,accs,K,x,h=>⟨vs,bs,accs,h,fun K' hk=>hk⟩
 |o::rest,i,vs,bs,accs,K,x,h=>by
  unfold Q0m at h;cases hd:Qs2 nt o with
  |false=>rw [hd]at h;cases h
  |true=>
   rw [hd]at h;simp only at h;cases hw:Qb5 ops o (St.of vs bs)with
   |none=>rw [hw]at h;cases h
   |some b=>
    rw [hw]at h;cases b with
    |false=>
     obtain⟨vs',bs',accs',h1,h2⟩:=Qfy hc ops nt base rest (i+1) _ bs ([]::accs) K x h;refine⟨vs',bs',accs',h1,fun K' hk=> ?_⟩;simp only [vops];refine⟨hd,?_⟩;rw [hw];simp only [Qfu,Qvt];exact h2 K' hk
    |true=>
     simp only [Zpg vs bs]at h;cases hv:(St.of vs bs).evs o.op.operands.toList with
     |none=>rw [hv]at h;cases h
     |some xs=>
      rw [hv]at h;simp only at h;cases ho:Qa1 P [] (base+i) o.op xs (lkp bs)with
      |none=>rw [ho]at h;cases h
      |some p=>
       obtain⟨y,l⟩:=p;rw [ho]at h;cases y with
       |done v es=>
        simp only [Qs8,Qfw]at h;obtain⟨bs1,e1,e2⟩:=Qqw es vs bs _ h
        replace h:=e1
        obtain⟨vs',bs',accs',h1,h2⟩:=Qfy hc ops nt base rest (i+1) _ bs1 _ K x h;refine⟨vs',bs',accs',h1,fun K' hk=> ?_⟩;simp only [vops];refine⟨hd,?_⟩;rw [hw];simp only [Qfu,hv,Qna,Qgu,Q6f,Zla,ho,Q0b,e2,Qvt];exact h2 K' hk
       |call f args es=>
        simp only [Qs8,Qfw,Qvr (Qs8 6)]at h;cases hcl:call f args with
        |none=>rw [hcl]at h;cases h
        |some r=>
         rw [hcl]at h;simp only at h;obtain⟨bs1,e1,e2⟩:=Qqw (if Qf1 r then []else es) vs bs _ h
         replace h:=e1
         obtain⟨vs',bs',accs',h1,h2⟩:=Qfy hc ops nt base rest (i+1) _ bs1 _ K x h;refine⟨vs',bs',accs',h1,fun K' hk=> ?_⟩;simp only [vops];refine⟨hd,?_⟩;rw [hw];simp only [Qfu,hv,Qna,Qgu,Q6f,Zla,ho,Q0b];refine⟨r,hc _ _ _ hcl,?_⟩;simp only [];rw [e2,Qvt];exact h2 K' hk
       |callB=>cases h
       |yield=>cases h
noncomputable def evC (nt:Nat):Nat→Code→Vars→BoxL→Option (Exit×Vars×BoxL)
 |0,_,_,_=>none
 |n+1,c,vs,bs=>match c with
  | .skip=>some (.normal,vs,bs)
  | .label _=>some (.normal,vs,bs)
  | .exit id=>some (.exit id,vs,bs)
  | .ret=>some (.ret,vs,bs)
  | .seq a b=>match evC nt n a vs bs with
   |some (.normal,vs,bs)=>evC nt n b vs bs
   |r=>r
  | .region id ops draw=>match Nat.ble (100*id+ops.size) LENT with
   |false=>none
   |true=>frcN (100*id) fun base=>Q0m P call ops nt base ops.toList 0 vs bs [] fun vs bs accs=>match draw with
   |false=>some (.normal,vs,bs)
   |true=>match Qkp ops accs.reverse with
    |false=>none
    |true=>some (.normal,vs,bs)
  | .cond x a b=>match(St.of vs bs).ev x with
   |some (.bool true)=>evC nt n a vs bs
   |some (.bool false)=>evC nt n b vs bs
   |_=>none
  | .block id c=>match evC nt n c vs bs with
   |some (.exit i,vs,bs)=>if i=id then some (.normal,vs,bs)else some (.exit i,vs,bs)
   |r=>r
  | .loop c=>match evC nt n c vs bs with
   |some (.normal,vs,bs)=>frcS vs 0 fun vs=>renK vs bs fun vs bs=>evC nt n (.loop c) vs bs
   |r=>r
  |_=>none
def Lwp (P:Program) (nt:Nat) (c:Code) (Q:Exit→St→Prop) (st:St):Prop:=
 ∀(C:Ctx),C.P=P→C.nt=nt→ ∀(rd:RD C) (a:Act) (w:World),Rel C st a w→ ∀(b:Frame) (k:List Item) (cs:List Frame),b.roundOf=(FW rd.rd).round→(FW rd.rd).fn b.fn→(FW rd.rd).room (cs.length+1+0)→
  ∃e a' w',(∃st',Q e st'∧Rel C st' a' w')∧ArrivesIn (Machine.fenced C.P (FW rd.rd)) C.P (lone (b.atR a (.code c:: .inLoop c::k)) cs w) b k cs e a' w'
theorem Q0n {P:Program} {nt:Nat} {c:Code} {Q:Exit→St→Prop} {st:St} (h:Lwp P nt c Q st):Vwp P nt (.loop c) Q st:=fun C h1 h2 rd a w hr=>by
 subst h1;subst h2;intro b k cs hro hb hroom;obtain⟨e,a',w',hq,harr⟩:=h C rfl rfl rd a w hr b k cs hro hb hroom;exact⟨e,a',w',hq,.of_steps (.one (fenced_calm hb hroom rfl) stepR_loop) harr⟩
theorem Q68 {P:Program} {nt:Nat} {c:Code} {Q:Exit→St→Prop} {st:St} (h:Vwp P nt c (vthen (Lwp P nt c Q) Q) st):Lwp P nt c Q st:=fun C h1 h2 rd a w hr=>by
 subst h1;subst h2;intro b k cs hro hb hroom;obtain⟨e,a₁,w₁,⟨s,hq,hr1⟩,harr⟩:=h C rfl rfl rd a w hr b (.inLoop c::k) cs hro hb hroom;cases e with
 |normal=>
  obtain⟨e₂,a₂,w₂,hq₂,harr₂⟩:=hq C rfl rfl rd a₁ w₁ hr1 b k cs hro hb hroom;exact⟨e₂,a₂,w₂,hq₂,.of_steps (StepsIn.trans harr (.one (fenced_calm hb hroom rfl) stepR_inLoop)) harr₂⟩
 |exit id=>exact⟨_,a₁,w₁,⟨s,hq,hr1⟩,.pass (x:= .inLoop c) rfl (fun _ _=> .inl (by simp)) harr⟩
 |goto l=>exact⟨_,a₁,w₁,⟨s,hq,hr1⟩,.pass (x:= .inLoop c) rfl (fun _ _=> .inl (by simp)) harr⟩
 |ret=>exact⟨_,a₁,w₁,⟨s,hq,hr1⟩,.pass (x:= .inLoop c) rfl (fun _ _=> .inl (by simp)) harr⟩
 |panic ch=>exact⟨_,a₁,w₁,⟨s,hq,hr1⟩,.pass (x:= .inLoop c) rfl (fun _ _=> .inl (by simp)) harr⟩
 |outgrown=>exact⟨_,a₁,w₁,⟨s,hq,hr1⟩,.pass (x:= .inLoop c) rfl (fun _ _=> .inl (by simp)) harr⟩
def Cwp (P:Program) (nt:Nat) (c:Code) (Q:Exit→St→Prop) (st:St):Prop:=Vwp P nt c Q st∧ ∀c',c= .loop c'→Lwp P nt c' Q st
theorem Qqy (hm:P.follows .mixedOrders=true) (hc: ∀f args r,call f args=some r→Qaf P f args r) (nt:Nat): ∀(n:Nat) (c:Code) (vs:Vars) (bs:BoxL) (e:Exit) (vs':Vars) (bs':BoxL),
  evC P call nt n c vs bs=some (e,vs',bs')→ ∀Q:Exit→St→Prop,Q e (St.of vs' bs')→Cwp P nt c Q (St.of vs bs)
 |0,_,_,_,_,_,_,h,_,_=>by cases h
 |n+1,c,vs,bs,e,vs',bs',h,Q,hQ=>by
  have ih:=fun c vs bs e vs' bs' h Q hQ=>(Qqy hm hc nt n c vs bs e vs' bs' h Q hQ).1;have ihl:=fun c vs bs e vs' bs' h Q hQ=>(Qqy hm hc nt n (.loop c) vs bs e vs' bs' h Q hQ).2 c rfl;unfold evC at h;cases c with
  |skip=>cases h;exact⟨Qxl hQ,fun _ e=>by cases e⟩
  |label l=>cases h;exact⟨Qsz hQ,fun _ e=>by cases e⟩
  |exit id=>cases h;exact⟨Qxm hQ,fun _ e=>by cases e⟩
  |ret=>cases h;exact⟨Q6c hQ,fun _ e=>by cases e⟩
  |seq a b=>
   refine⟨?_,fun _ e=>by cases e⟩;simp only at h;cases ha:evC P call nt n a vs bs with
   |none=>rw [ha]at h;cases h
   |some p=>
    obtain⟨e1,vs1,bs1⟩:=p;rw [ha]at h;refine Q6d (ih a vs bs e1 vs1 bs1 ha _ ?_);cases e1 with
    |normal=>exact ih b vs1 bs1 e vs' bs' h Q hQ
    |_=>cases h;exact hQ
  |region id ops draw=>
   refine⟨?_,fun _ e=>by cases e⟩;cases hL:Nat.ble (100*id+ops.size) LENT with
   |false=>simp only [hL]at h;cases h
   |true=>
   simp only [hL,Qfw]at h;obtain⟨vs1,bs1,accs1,h1,h2⟩:=Qfy P call hc ops nt (100*id) ops.toList 0 vs bs [] _ _ h;refine Qox (tb:=[]) (100*id) hm (Nat.le_of_ble_eq_true hL) (h2 _ ?_);cases draw with
   |false=>cases h1;exact⟨fun x=>absurd x (by decide),hQ⟩
   |true=>
    simp only at h1;cases hd:Qkp ops accs1.reverse with
    |false=>rw [hd]at h1;cases h1
    |true=>rw [hd]at h1;simp only at h1;cases h1;exact⟨fun _=>rfl,hQ⟩
  |cond x a b=>
   refine⟨?_,fun _ e=>by cases e⟩;simp only at h;split at h
   ·rename_i hx;exact Qlg hx (by simpa using ih a vs bs e vs' bs' h Q hQ)
   ·rename_i hx;exact Qlg hx (by simpa using ih b vs bs e vs' bs' h Q hQ)
   ·cases h
  |block id c=>
   refine⟨?_,fun _ e=>by cases e⟩;simp only at h;cases ha:evC P call nt n c vs bs with
   |none=>rw [ha]at h;cases h
   |some p=>
    obtain⟨e1,vs1,bs1⟩:=p;rw [ha]at h;refine Qs0 (ih c vs bs e1 vs1 bs1 ha _ ?_);cases e1 with
    |exit i=>
     simp only at h;simp only [vblock];by_cases hi:i=id
     ·rw [if_pos hi]at h ⊢;cases h;exact hQ
     ·rw [if_neg hi]at h ⊢;cases h;exact hQ
    |_=>cases h;exact hQ
  |loop c=>
   have hl:Lwp P nt c Q (St.of vs bs):=by
    simp only at h;cases ha:evC P call nt n c vs bs with
    |none=>rw [ha]at h;cases h
    |some p=>
     obtain⟨e1,vs1,bs1⟩:=p;rw [ha]at h;refine Q68 (ih c vs bs e1 vs1 bs1 ha _ ?_);cases e1 with
     |normal=>
      obtain⟨vs2,h1,h2⟩:=Zrk vs1 fun vs=>renK vs bs1 fun vs bs=>evC P call nt n (.loop c) vs bs;simp only [h1]at h;obtain⟨vs3,bs3,h3,h4⟩:=Zlw vs2 bs1 fun vs bs=>evC P call nt n (.loop c) vs bs;rw [h3]at h;have:St.of vs1 bs1=St.of vs2 bs1:=by simp only [St.of,St.ofG,h2]
      show Lwp P nt c Q (St.of vs1 bs1);rw [this];have key:=ihl c vs3 bs3 e vs' bs' h Q hQ;exact fun C e1 e2 rd a w hr=>key C e1 e2 rd a w (h4 C a w hr)
     |_=>cases h;exact hQ
   exact⟨Q0n hl,fun c' e=>by cases e;exact hl⟩
  |_=>cases h
theorem Q69 (hm:P.follows .mixedOrders=true) (hc: ∀f args r,call f args=some r→Qaf P f args r) (nt:Nat) (n:Nat) (c:Code) (vs:Vars) (bs:BoxL) (e:Exit) (vs':Vars) (bs':BoxL)
  (h:evC P call nt n c vs bs=some (e,vs',bs')) (Q:Exit→St→Prop) (hQ:Q e (St.of vs' bs')):Vwp P nt c Q (St.of vs bs):=(Qqy P call hm hc nt n c vs bs e vs' bs' h Q hQ).1
end
noncomputable def evF (P:Program) (known:FuncId→List PV→Option PV) (fuel:Nat):Nat→FuncId→List PV→Option PV
 |0,_,_=>none
 |n+1,f,args=>match known f args with
  |some r=>some r
  |none=>match P.funcs[f]? with
   |none=>none
   |some fn=>match fn.body with
    |none=>none
    |some c=>match callable P f&&Nat.ble args.length fn.ntmps with
     |false=>none
     |true=>match evC P (evF P known fuel n) fn.ntmps fuel c (Qch 0 args) []with
      |some (.ret,vs,bs)=>Qqq P fn.results.toList (St.of vs bs)
      |some (.normal,vs,bs)=>Qqq P fn.results.toList (St.of vs bs)
      |_=>none
theorem Qne {P:Program} {known:FuncId→List PV→Option PV} (hm:P.follows .mixedOrders=true) (hk: ∀f args r,known f args=some r→Qaf P f args r) (fuel:Nat): ∀(n:Nat) (f:FuncId) (args:List PV) (r:PV),
  evF P known fuel n f args=some r→Qaf P f args r
 |0,_,_,_,h=>by cases h
 |n+1,f,args,r,h=>by
  unfold evF at h;cases hkn:known f args with
  |some r'=>rw [hkn]at h;cases h;exact hk _ _ _ hkn
  |none=>
   rw [hkn]at h;simp only at h;cases hf:P.funcs[f]? with
   |none=>rw [hf]at h;cases h
   |some fn=>
    rw [hf]at h;simp only at h;cases hb:fn.body with
    |none=>rw [hb]at h;cases h
    |some c=>
     rw [hb]at h;simp only at h;cases hcl:callable P f&&Nat.ble args.length fn.ntmps with
     |false=>rw [hcl]at h;cases h
     |true=>
      rw [hcl]at h;simp only [Bool.and_eq_true]at hcl;simp only at h;have key: ∀e vs bs,(e= .ret∨e= .normal)→evC P (evF P known fuel n) fn.ntmps fuel c (Qch 0 args) []=some (e,vs,bs)→Qqq P fn.results.toList (St.of vs bs)=some r→Qaf P f args r:=by
       intro e vs bs he h1 h2;refine Qxq fn.ntmps fn.results.toList hf hb hcl.1 rfl rfl hcl.2 (Q69 P _ hm (fun f args r=>Qne hm hk fuel n f args r) fn.ntmps fuel c _ [] e vs bs h1 _ ?_);rcases he with rfl|rfl<;>simp only [vret,h2]
      split at h
      ·rename_i vs bs h1;exact key _ _ _ (.inl rfl) h1 h
      ·rename_i vs bs h1;exact key _ _ _ (.inr rfl) h1 h
      ·cases h
def Qnf:FuncId→List PV→Option PV:=fun _ _=>none
theorem Qs9 {P:Program} {f:FuncId} {args:List PV} {r:PV} (hm:P.follows .mixedOrders=true) (fuel n:Nat) (h:evF P Qnf fuel n f args=some r):Qaf P f args r:=
 Qne hm (fun _ _ _ x=>by cases x) fuel n f args r h
end Go.Vl
