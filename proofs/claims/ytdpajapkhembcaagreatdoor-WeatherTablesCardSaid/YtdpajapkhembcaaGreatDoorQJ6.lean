/-
  QB9, Dso, Dv, Dy, Dcv, Dsp, Dcw, Dcx, Dcy, Dsr, Dcm, Dcz, Dgn, Dgo, Dwo, QJ3, QJ4, QJ2, QJ5, QJ6 (merged for the claim).
-/
import Derived.Test.YtdpajapkhembcaaGreatDoorQB8
import Derived.Test.YtdpajapkhembcaaGreatDoorDsn
import Derived.Test.YtdpajapkhembcaaGreatDoorQF3
import Derived.Test.YtdpajapkhembcaaGreatDoorQP4
import Derived.Test.YtdpajapkhembcaaGreatDoorQI4
set_option linter.unusedSimpArgs false
set_option linter.unusedVariables false
namespace Go.Proofs.YtdpajapkhembcaaGreatDoor
open Go.Vl Go.RowKit Go.Dg
def totE (l:List Wd) (B:Bat) (p:List Sg):Int:=preI (csL l B p) p.length
def enPV (l:List Wd) (B:Bat) (p:List Sg):PV:=if Qm5 p B l=true then(if totE l B p≤mxE then .tup [.int .i64 (totE l B p),.int .i64 0]else .tup [.int .i64 0,.int .i64 7])else .tup [.int .i64 0,.int .i64 2]
def lePV (l:List Wd) (B:Bat) (p:List Sg):PV:=if Qm5 p B l=true then(if totE l B p≤mxE then .tup [.int .i64 (B.cap-totE l B p),.int .i64 0]else .tup [.int .i64 0,.int .i64 7])else .tup [.int .i64 0,.int .i64 2]
def ehPV (l:List Wd) (B:Bat) (p:List Sg):PV:=if Qm5 p B l=true then(if totE l B p≤mxE then .tup [.bool (decide (B.res≤B.cap-totE l B p)),.int .i64 0]else .tup [.bool false,.int .i64 7])else .tup [.bool false,.int .i64 2]
theorem Qm6 {p:List Sg} {B:Bat} {l:List Wd} (h:Qm5 p B l=true):Qbp p=true∧Qa5 B=true∧Qa9 l=true:=by
 simpa only [Qm5,Bool.and_eq_true]using h
theorem Zwz {cs:List Int} {k i:Nat} (h:i<k):((smL cs k).map (PV.int .i64))[i]? =some (.int .i64 (preI cs (i+1))):=by
 rw [List.getElem?_map,List.getElem?_eq_getElem (by rw [Qfb];exact h)];have:=Zpb (cs:=cs) h;rw [List.getD_eq_getElem?_getD,List.getElem?_eq_getElem (by rw [Qfb];exact h)]at this;simp only [Option.getD_some]at this;rw [Option.map_some,this]
set_option maxHeartbeats 4000000 in
theorem Q6d (p:List Sg) (B:Bat) (l:List Wd) (hp: ∀s∈p,okSg s) (hl:l.length≤maxLen) (hpl:p.length≤1000000):Qae Tryz.prog 64 [Qdl p,baPV B,wsPV l] (enPV l B p):=by
 have h:=Zqh p B l hp hl hpl;unfold enPV;unfold Qdl baPV at h ⊢;cases hO:Qm5 p B l with
 |false=>
  rw [hO]at h;refine Qab (tb:=[]) 33 [.tmp 6,.tmp 7] [0,1,2,4,6,7,8,9,17,21] mixed Tryz.func64 rfl (by kernel_rfl) (by kernel_rfl) (by kernel_rfl) (by kernel_rfl) ?_;repeat (first|(simp -implicitDefEqProofs only [go_sem,seval,Zre,Bool.false_eq_true])|((with_reducible refine Qaa h ?_ ?_ ?_);rfl;rfl))
 |true=>
  rw [hO]at h;simp only [if_true]at h ⊢;obtain⟨hV,hB,hw⟩:=Qm6 hO;have hok:=Q6b hV hB hw;have hcl:=Q6a l B p;obtain⟨-,l1,l2⟩:=Qcv hV;obtain⟨c1,c2⟩:=Q4k hok (by omega);rw [hcl]at c1 c2;have hsl:=Qfb (csL l B p) (cutE (csL l B p));unfold totE;by_cases hT:preI (csL l B p) p.length≤mxE
  ·have hce:=c1 hT;rw [hce]at h hsl;rw [if_pos hT];have lt:((p.length:Int)<(p.length:Int))=False:=eq_false (Int.lt_irrefl _);have wl:=Ql9 (n:=p.length) (by omega) (by omega);have n1:=nnT (p.length-1);have hg:=Zwz (cs:=csL l B p) (show p.length-1<p.length by omega);rw [Nat.sub_add_cancel l1]at hg;generalize preI (csL l B p) p.length=T at*;generalize smL (csL l B p) p.length=SM at*;refine Qab (tb:=[]) 33 [.tmp 6,.tmp 7] [0,1,2,4,6,7,8,9,17,21] mixed Tryz.func64 rfl (by kernel_rfl) (by kernel_rfl) (by kernel_rfl) (by kernel_rfl) ?_;repeat (first|(simp -implicitDefEqProofs only [go_sem,seval,Zfv,hsl,lt,wl,n1,hg,Int.toNat_natCast,List.length_map])|((with_reducible refine Qaa h ?_ ?_ ?_);rfl;rfl))
  ·have hce:=c2 (by omega);rw [if_neg hT];have lt:((cutE (csL l B p):Int)<(p.length:Int))=True:=eq_true (by omega);generalize cutE (csL l B p)=K at*;generalize smL (csL l B p) K=SM at*;refine Qab (tb:=[]) 33 [.tmp 6,.tmp 7] [0,1,2,4,6,7,8,9,17,21] mixed Tryz.func64 rfl (by kernel_rfl) (by kernel_rfl) (by kernel_rfl) (by kernel_rfl) ?_;repeat (first|(simp -implicitDefEqProofs only [go_sem,seval,Zfv,hsl,lt,List.length_map])|((with_reducible refine Qaa h ?_ ?_ ?_);rfl;rfl))
set_option maxHeartbeats 4000000 in
theorem Zqi (p:List Sg) (B:Bat) (l:List Wd) (hp: ∀s∈p,okSg s) (hl:l.length≤maxLen) (hpl:p.length≤1000000):Qae Tryz.prog 54 [Qdl p,baPV B,wsPV l] (lePV l B p):=by
 have h:=Q6d p B l hp hl hpl;unfold enPV at h;unfold lePV;unfold Qdl baPV at h ⊢;cases hO:Qm5 p B l with
 |false=>
  rw [hO]at h;simp only [Bool.false_eq_true,if_false]at h ⊢;refine Qab (tb:=[]) 24 [.tmp 6,.tmp 7] [0,1,2,4,6,7,8,9,18] mixed Tryz.func54 rfl (by kernel_rfl) (by kernel_rfl) (by kernel_rfl) (by kernel_rfl) ?_;repeat (first|(simp -implicitDefEqProofs only [go_sem,seval,Zre])|((with_reducible refine Qaa h ?_ ?_ ?_);rfl;rfl))
 |true=>
  rw [hO]at h;simp only [if_true]at h ⊢;obtain⟨hV,hB,hw⟩:=Qm6 hO;have hnn:=Q4i (Q6b hV hB hw) p.length;obtain⟨-, -, -,b1,b2,b3⟩:=Qd0 hB;have e:preI (csL l B p) p.length=totE l B p:=rfl;rw [e]at hnn;by_cases hT:totE l B p≤mxE
  ·rw [if_pos hT]at h ⊢;unfold mxE at hT;have hw1:IntKind.i64.wrap (B.cap-totE l B p)=B.cap-totE l B p:=Qag (by omega) (by omega);generalize totE l B p=T at*;refine Qab (tb:=[]) 24 [.tmp 6,.tmp 7] [0,1,2,4,6,7,8,9,18] mixed Tryz.func54 rfl (by kernel_rfl) (by kernel_rfl) (by kernel_rfl) (by kernel_rfl) ?_;repeat (first|(simp -implicitDefEqProofs only [go_sem,seval,Zfv,hw1])|((with_reducible refine Qaa h ?_ ?_ ?_);rfl;rfl))
  ·rw [if_neg hT]at h ⊢;refine Qab (tb:=[]) 24 [.tmp 6,.tmp 7] [0,1,2,4,6,7,8,9,18] mixed Tryz.func54 rfl (by kernel_rfl) (by kernel_rfl) (by kernel_rfl) (by kernel_rfl) ?_;repeat (first|(simp -implicitDefEqProofs only [go_sem,seval,Zye])|((with_reducible refine Qaa h ?_ ?_ ?_);rfl;rfl))
set_option maxHeartbeats 4000000 in
theorem Q6e (p:List Sg) (B:Bat) (l:List Wd) (hp: ∀s∈p,okSg s) (hl:l.length≤maxLen) (hpl:p.length≤1000000):Qae Tryz.prog 41 [Qdl p,baPV B,wsPV l] (ehPV l B p):=by
 have h:=Zqi p B l hp hl hpl;unfold lePV at h;unfold ehPV;unfold Qdl baPV at h ⊢;cases hO:Qm5 p B l with
 |false=>
  rw [hO]at h;simp only [Bool.false_eq_true,if_false]at h ⊢;refine Qab (tb:=[]) 26 [.tmp 6,.tmp 7] [0,1,2,4,6,7,8,9] mixed Tryz.func41 rfl (by kernel_rfl) (by kernel_rfl) (by kernel_rfl) (by kernel_rfl) ?_;repeat (first|(simp -implicitDefEqProofs only [go_sem,seval,Zyd])|((with_reducible refine Qaa h ?_ ?_ ?_);rfl;rfl))
 |true=>
  rw [hO]at h;simp only [if_true]at h ⊢;by_cases hT:totE l B p≤mxE
  ·rw [if_pos hT]at h ⊢;generalize B.cap-totE l B p=T at*;refine Qab (tb:=[]) 26 [.tmp 6,.tmp 7] [0,1,2,4,6,7,8,9] mixed Tryz.func41 rfl (by kernel_rfl) (by kernel_rfl) (by kernel_rfl) (by kernel_rfl) ?_;repeat (first|(simp -implicitDefEqProofs only [go_sem,seval,Zyc])|((with_reducible refine Qaa h ?_ ?_ ?_);rfl;rfl))
  ·rw [if_neg hT]at h ⊢;refine Qab (tb:=[]) 26 [.tmp 6,.tmp 7] [0,1,2,4,6,7,8,9] mixed Tryz.func41 rfl (by kernel_rfl) (by kernel_rfl) (by kernel_rfl) (by kernel_rfl) ?_;repeat (first|(simp -implicitDefEqProofs only [go_sem,seval,Zyf])|((with_reducible refine Qaa h ?_ ?_ ?_);rfl;rfl))
end Go.Proofs.YtdpajapkhembcaaGreatDoor

namespace Go.Dg
def ptF (s:Sg) (a b:Int):Bool:=Z01 (ptL s a b) (ptO s)
def spF (x:Sg×Int×Int):Bool:=ptF x.1 x.2.1 x.2.2
def pieces (n:Nat):Nat→List Int→List (List Int)
 |0,f=>[f]
 |d+1,f=>pieces n d (Zwm f n)++pieces n d (Zwn f n)
section
variable {c:List Int} {n:Nat} (hc:c.length=n+1) (a b d:Int)
include hc
end
structure turnOK (a b d:Int):Prop where
 a0:0≤a
 a1:a≤d
 b0:0≤a+b
 b1:a+b≤d
 b:b≠0
 d:1≤d
section
variable {s:Sg} (hv:Qbl s=true) {a b d:Int} (ht:turnOK a b d) {f t O:Int} (hO:O=s.o*d^5)
include hv ht hO
end
theorem Qvs {s:Sg} (hv:Qbl s=true): ∀c∈s.ax,∀x∈c,x.natAbs≤1094374710063759360:=by
 obtain⟨⟨v1,v2,v3,v4,v5⟩,hax, -⟩:=Qbu hv;intro c hc x hx;have h1:=Zwq (hax c hc) (by omega);have h2:=Zp1 hx;omega
def dd:List Int→List Int
 | []=>[]
 | [a]=>[a]
 |a::b::L=>if a=b then dd (b::L)else a::dd (b::L)
def sc (p:List Sg):List (Sg×Int×Int)→Int→Int→Prop
 | [],u,v=>u=v
 |x::r,u,v=>x.1∈p∧x.2.1=u∧x.1.f≤x.2.1∧x.2.1<x.2.2∧x.2.2≤x.1.t∧sc p r x.2.2 v
theorem Q4t {p:List Sg} (hV:Qbp p=true) {s:Sg} (h:s∈p):Qbl s=true:=by
 obtain⟨i,hi,rfl⟩:=List.getElem_of_mem h;exact Qfi hV i hi
theorem Zpi {q:List Sg} (h1: ∀(i:Nat) (hi:i<q.length),Qbl q[i]=true) (h2: ∀(i:Nat) (hi:i+1<q.length),Qfh q[i] q[i+1]=true):vpTo q q.length=true:=by
 unfold vpTo;rw [List.all_eq_true];intro j hj;have hj:=List.mem_range.1 hj;unfold vpAt;rw [sgD hj,h1 j hj,Bool.true_and];rcases Nat.eq_zero_or_pos j with r|r
 ·subst r;rfl
 ·obtain⟨i,rfl⟩: ∃i,j=i+1:=⟨j-1,by omega⟩;rw [Nat.add_sub_cancel,sgD (show i<q.length by omega),h2 i hj,Bool.or_true]
theorem Q4u {q:List Sg} (h1: ∀(i:Nat) (hi:i<q.length),Qbl q[i]=true) (h2: ∀(i:Nat) (hi:i+1<q.length),Qfh q[i] q[i+1]=true) (h3:1≤q.length) (h4:q.length≤256):Qbp q=true:=by
 unfold Qbp;rw [Zpi h1 h2,decide_eq_true h3,decide_eq_true h4];rfl
theorem Zeb {a b:Sg} (h:a.t=b.f) (h1: ∀i,i<3→plQ a 1 1 i=plQ b 0 1 i) (h2:plO a 1 1=plO b 0 1):Qfh a b=true:=by
 unfold Qfh Q5p;rw [decide_eq_true h,decide_eq_true (h1 0 (by decide)),decide_eq_true (h1 1 (by decide)),decide_eq_true (h1 2 (by decide)),decide_eq_true h2];rfl
section
variable {p:List Sg} (hV:Qbp p=true) {S:List (Sg×Int×Int)} {u v:Int} (h:sc p S u v) (hf:S.all spF=true)
include hV h hf
end
section
variable {p:List Sg} (hV:Qbp p=true)
include hV
end
theorem Qi0 (c:List Int):gcdL 1 c=1:=by
 unfold gcdL
 induction c with
 |nil=>rfl
 |cons x c ih=>simp only [List.foldl_cons,Nat.gcd_one_left];exact ih
def V3.co (v:V3) (i:Nat):Int:=if i=0 then v.x else if i=1 then v.y else v.z
theorem Qmv {a b k:Int} (hk:k=1∨k=2∨a=b):plc (Qdk a b (rowK k)) 1 1=b:=by
 by_cases e:a=b
 ·unfold Qdk;rw [if_pos e];simp [plc,sm,plcT,e]
 ·rcases hk with rfl|rfl|h
  ·unfold Qdk;rw [if_neg e];simp [plc,sm,plcT,rowK];omega
  ·unfold Qdk;rw [if_neg e];simp [plc,sm,plcT,rowK];omega
  ·exact absurd h e
theorem Q47 {a b:V3} {f t k:Int} (hk:k=1∨k=2∨a=b):(∀i,i<3→plQ (legS a b f t k) 1 1 i=b.co i)∧plO (legS a b f t k) 1 1=1:=by
 have hG:plG (legS a b f t k) 1 1 3=1:=Qi0 _;have hx:k=1∨k=2∨a.x=b.x:=hk.imp_right (Or.imp_right fun h=>by rw [h]);have hy:k=1∨k=2∨a.y=b.y:=hk.imp_right (Or.imp_right fun h=>by rw [h]);have hz:k=1∨k=2∨a.z=b.z:=hk.imp_right (Or.imp_right fun h=>by rw [h]);refine⟨fun i hi=> ?_,?_⟩
 ·unfold plQ;rw [hG,show((1:Nat):Int)=1 from rfl,Int.ediv_one];rcases(show i=0∨i=1∨i=2 by omega)with rfl|rfl|rfl
  ·exact Qmv hx
  ·exact Qmv hy
  ·exact Qmv hz
 ·unfold plO;rw [hG];rfl
theorem Zob {p:Pg} {n:Nat}: ∀(d k:Nat) (t:Int) (many:List Int),k+d=p.as_.length→goB n (Qcq p k) t many (p.as_.drop k)=true→t=begT p k→(Qcq p k).length=n→
  ∀j,k≤j→j<p.as_.length→ ∀i,i<n→mvE ((Qcq p j).getD i v0) ((p.as_.getD j ac0).mv.getD i mv0) (begT p j) (p.as_.getD j ac0).ln=0
 |0,k,_,_,hd,_,_,_,j,h1,h2,_,_=>by omega
 |d+1,k,t,many,hd,hg,ht,hl,j,h1,h2,i,hi=>by
  have hk:k<p.as_.length:=by omega
  have e:p.as_.drop k=p.as_.getD k ac0::p.as_.drop (k+1):=by
   rw [List.drop_eq_getElem_cons hk,List.getD_eq_getElem?_getD,List.getElem?_eq_getElem hk];rfl
  rw [e]at hg;simp only [goB,Bool.and_eq_true,hl]at hg;obtain⟨ga,go,gr⟩:=hg;unfold actB at ga;simp only [Bool.and_eq_true,decide_eq_true_eq]at ga;by_cases ej:j=k
  ·subst ej;have:=List.all_eq_true.1 go i (List.mem_range.2 hi);unfold okAt at this;simp only [Bool.and_eq_true,decide_eq_true_eq]at this;rw [←ht];exact this.1
  ·have hf:Qcq p (k+1)=(p.as_.getD k ac0).mv.map Mv.to:=rfl;have hb:begT p (k+1)=begT p k+(p.as_.getD k ac0).ln:=by
    unfold begT;rw [List.take_add_one,List.getD_eq_getElem?_getD,List.getElem?_eq_getElem hk];simp only [Option.toList_some,List.map_append,List.map_cons,List.map_nil,List.sum_append,List.sum_cons,List.sum_nil,Option.getD_some];omega
   exact Zob d (k+1) _ _ (by omega) gr (by rw [ht,hb]) (by rw [hf,List.length_map];exact ga.2.2.2) j (by omega) h2 i hi
theorem Qmw (a b k:Int):plc (Qdk a b (rowK k)) 0 1=a:=by
 unfold Qdk;split
 ·simp [plc,sm,plcT]
 ·unfold rowK;split
  ·simp [plc,sm,plcT]
  ·split
   ·simp [plc,sm,plcT]
   ·simp [plc,sm,plcT]
theorem Q48 (a b:V3) (f t k:Int):(∀i,i<3→plQ (legS a b f t k) 0 1 i=a.co i)∧plO (legS a b f t k) 0 1=1:=by
 have hG:plG (legS a b f t k) 0 1 3=1:=Qi0 _;refine⟨fun i hi=> ?_,?_⟩
 ·unfold plQ;rw [hG,show((1:Nat):Int)=1 from rfl,Int.ediv_one];rcases(show i=0∨i=1∨i=2 by omega)with rfl|rfl|rfl
  ·exact Qmw _ _ _
  ·exact Qmw _ _ _
  ·exact Qmw _ _ _
 ·unfold plO;rw [hG];rfl
theorem Qqx {a b k:Int} (ha:inB a=true) (hb:inB b=true) (hk:k=1∨k=2∨a=b):axOK (Qdk a b (rowK k)) 1=true:=by
 rw [Q42]at ha hb;by_cases e:a=b
 ·unfold Qdk;rw [if_pos e];unfold axOK Qmy Qeu;simp [List.range_succ,ctl,sm,cw,bin];omega
 ·rcases hk with rfl|rfl|h
  ·unfold Qdk;rw [if_neg e];unfold axOK Qmy Qeu;simp [rowK,List.range_succ,ctl,sm,cw,bin];omega
  ·unfold Qdk;rw [if_neg e];unfold axOK Qmy Qeu;simp [rowK,List.range_succ,ctl,sm,cw,bin];omega
  ·exact absurd h e
theorem Q49 {a b:V3} {f t k:Int} (ha:ptB a=true) (hb:ptB b=true) (h0:0≤f) (h1:f<t) (h2:t≤3600000) (hk:k=1∨k=2∨a=b):Qbl (legS a b f t k)=true:=by
 have hx:k=1∨k=2∨a.x=b.x:=hk.imp_right (Or.imp_right fun h=>by rw [h]);have hy:k=1∨k=2∨a.y=b.y:=hk.imp_right (Or.imp_right fun h=>by rw [h]);have hz:k=1∨k=2∨a.z=b.z:=hk.imp_right (Or.imp_right fun h=>by rw [h]);unfold ptB at ha hb;simp only [Bool.and_eq_true]at ha hb;have hg:(legS a b f t k).ax.foldl gcdL (legS a b f t k).o.natAbs=1:=by
  show gcdL (gcdL (gcdL 1 _) _) _=1;rw [Qi0,Qi0,Qi0]
 unfold Qbl rngS;rw [hg];simp only [legS,Sg.ax,List.all_cons,List.all_nil];rw [Qqx ha.1 hb.1 hx,Qqx ha.2.1 hb.2.1 hy,Qqx ha.2.2 hb.2.2 hz];simp [h0,h1,h2]
def chn:List Sg→Int→Int→V3→V3→Prop
 | [],u,v,a,b=>u=v∧a=b
 |s::l,u,v,a,b=>Qbl s=true∧s.f=u∧(∀i,i<3→plQ s 0 1 i=a.co i)∧plO s 0 1=1∧ ∃c,(∀i,i<3→plQ s 1 1 i=c.co i)∧plO s 1 1=1∧chn l s.t v c b
theorem Qel: ∀{l l':List Sg} {u v w:Int} {a b c:V3},chn l u v a b→chn l' v w b c→chn (l++l') u w a c
 | [],_,_,_,_,_,_,_,h,h'=>by obtain⟨rfl,rfl⟩:=h;exact h'
 |s::l,_,_,_,_,_,_,_,h,h'=>by
  obtain⟨h1,h2,h3,h4,c,h5,h6,h7⟩:=h;exact⟨h1,h2,h3,h4,c,h5,h6,Qel h7 h'⟩
theorem Qqy {a b:V3} {f t k:Int} (ha:ptB a=true) (hb:ptB b=true) (h0:0≤f) (h1:f<t) (h2:t≤3600000) (hk:k=1∨k=2∨a=b):chn [legS a b f t k] f t a b:=
 ⟨Q49 ha hb h0 h1 h2 hk,rfl,(Q48 a b f t k).1,(Q48 a b f t k).2,b,(Q47 hk).1,(Q47 hk).2,rfl,rfl⟩
theorem Qqz {a b:V3} {f t k:Int} (ha:ptB a=true) (hb:ptB b=true) (h0:0≤f) (h1:f<t∨f=t∧a=b) (h2:t≤3600000) (hk:k=1∨k=2∨a=b):chn (flyL a b f t k) f t a b:=by
 unfold flyL Qoy tmB;rcases h1 with h1|⟨h1,h3⟩
 ·rw [ha,hb,decide_eq_true h0,decide_eq_true h1,decide_eq_true h2,if_pos (by rfl)];exact Qqy ha hb h0 h1 h2 hk
 ·rw [decide_eq_false (p:=f<t) (by omega),if_neg (by simp)];exact⟨h1,h3⟩
theorem Zwe {v:V3} {m:Mv} {a l:Int} (h:mvE v m a l=0):chn (mvP v m a l) a (a+l) v m.to:=by
 unfold mvP;rw [if_pos h];unfold mvE at h;split at h
 case isFalse=>cases h
 rename_i h1;split at h
 case isFalse=>cases h
 rename_i h9;obtain⟨hv,l1,l2,ha,hm⟩:=h1;rw [Qe5]at ha;unfold mvB at hm;simp only [Bool.and_eq_true,Qe5,decide_eq_true_eq]at hm;obtain⟨m1,m2,m3,m4,m5,m6⟩:=hm;unfold mvL Qc5;by_cases hf:m.f=0
 ·rw [if_pos hf]at m6 ⊢;simp only [Bool.and_eq_true,decide_eq_true_eq]at m6;rw [m6.1];exact Qqz hv hv (by omega) (.inl (by omega)) (by omega) (.inr (.inr rfl))
 rw [if_neg hf]at m6 ⊢;refine Qel (v:=a+m.w+m.f) (b:=m.to) (Qel (v:=a+m.w) (b:=v) ?_ ?_) ?_
 ·exact Qqz hv hv (by omega) (by
   by_cases q:m.w=0; · exact .inr ⟨by omega,rfl⟩
   ·exact .inl (by omega)) (by omega) (.inr (.inr rfl))
 ·unfold midL;by_cases hr:0<m.r
  ·rw [if_pos hr]at m6 ⊢;simp only [Bool.and_eq_true,decide_eq_true_eq]at m6;obtain⟨q1,q2,q3⟩:=m6;unfold hiB at q2 q3;unfold arc3;refine Qel (l:=[_]) (Qqy hv q2 (by omega) (by omega) (by omega) (.inr (.inl rfl))) ?_;refine Qel (l:=[_]) (Qqy q2 q3 (by omega) (by omega) (by omega) (.inr (.inl rfl))) ?_;exact Qqy q3 m1 (by omega) (by omega) (by omega) (.inr (.inl rfl))
  ·rw [if_neg hr];exact Qqz hv m1 (by omega) (.inl (by omega)) (by omega) (.inr (.inl rfl))
 ·exact Qqz m1 m1 (by omega) (by
   by_cases q:m.w+m.f=l; · exact .inr ⟨by omega,rfl⟩
   ·exact .inl (by omega)) (by omega) (.inr (.inr rfl))
theorem Zoc: ∀{l:List Sg} {u v:Int} {a b:V3},chn l u v a b→u≤v
 | [],_,_,_,_,h=>by have:=h.1;omega
 |s::l,_,_,_,_,h=>by
  obtain⟨h1,h2,_,_,c,_,_,h7⟩:=h;have:=(Qbu h1).1;have:=Zoc h7;omega
theorem Q5a: ∀{l:List Sg} {u v:Int} {a b:V3},chn l u v a b→ ∀s∈l,Qbl s=true∧u≤s.f∧s.t≤v
 | [],_,_,_,_,_=>fun _ h=>by cases h
 |s::l,_,_,_,_,h=>by
  obtain⟨h1,h2,_,_,c,_,_,h7⟩:=h;have h8:=(Qbu h1).1;have h9:=Zoc h7;intro x hx;rcases List.mem_cons.1 hx with rfl|hx
  ·exact⟨h1,by omega,h9⟩
  ·obtain⟨y1,y2,y3⟩:=Q5a h7 x hx;exact⟨y1,by omega,y3⟩
theorem Qtd: ∀{l:List Sg} {u v:Int} {a b:V3},chn l u v a b→ ∀(i:Nat) (hi:i+1<l.length),Qfh l[i] l[i+1]=true
 | [],_,_,_,_,_=>fun _ h=>by simp at h
 | [s],_,_,_,_,_=>fun _ h=>by simp at h
 |s::s'::l,_,_,_,_,h=>by
  obtain⟨h1,h2,_,_,c,h5,h6,h7⟩:=h;intro i hi
  match i,hi with
  |0,_=>
   obtain⟨k1,k2,k3,k4,_⟩:=h7;exact Zeb (a:=s) (b:=s') k2.symm (fun i hi=>by rw [h5 i hi,k3 i hi]) (by rw [h6,k4])
  |i+1,hi=>
   have:=Qtd h7 i (by simp only [List.length_cons]at hi ⊢;omega);simpa using this
theorem Qq0: ∀{l:List Sg} {u v:Int} {a b:V3},chn l u v a b→ ∀h:0<l.length,l[0].f=u∧(l[l.length-1]'(by omega)).t=v
 | [],_,_,_,_,_=>fun h=>by simp at h
 | [s],_,_,_,_,h=>fun _=>by
  obtain⟨h1,h2,_,_,c,_,_,h7⟩:=h;exact⟨h2,h7.1⟩
 |s::s'::l,_,_,_,_,h=>fun _=>by
  obtain⟨h1,h2,_,_,c,_,_,h7⟩:=h;have:=(Qq0 h7 (by simp)).2;exact⟨h2,by simpa using this⟩
theorem Q5b {l:List Sg} {u v:Int} {a b:V3} (h:chn l u v a b) (h1:1≤l.length) (h2:l.length≤256):Qbp l=true∧pBeg l=u∧pEnd l=v:=by
 refine⟨Q4u (fun i hi=>(Q5a h _ (List.getElem_mem hi)).1) (Qtd h) h1 h2,?_,?_⟩
 ·unfold pBeg;rw [sgD (by omega)];exact(Qq0 h (by omega)).1
 ·unfold pEnd;rw [sgD (by omega)];exact(Qq0 h (by omega)).2
def pA (p:Pg) (i k:Nat):List Sg:=mvP ((Qcq p k).getD i v0) ((p.as_.getD k ac0).mv.getD i mv0) (begT p k) (p.as_.getD k ac0).ln
def pT (p:Pg) (i k:Nat):List Sg:=(List.range k).flatMap fun a=>pA p i a
theorem Q5c (p:Pg) (i k:Nat):pT p i (k+1)=pT p i k++pA p i k:=by simp [pT,List.range_succ]
theorem Qvz {p:Pg} {k:Nat} (hk:k<p.as_.length):begT p (k+1)=begT p k+(p.as_.getD k ac0).ln:=by
 unfold begT;rw [List.take_add_one,List.getD_eq_getElem?_getD,List.getElem?_eq_getElem hk];simp only [Option.toList_some,List.map_append,List.map_cons,List.map_nil,List.sum_append,List.sum_cons,List.sum_nil,Option.getD_some];omega
theorem Q5d {p:Pg} {n:Nat}: ∀(d k:Nat) (t:Int) (many:List Int),k+d=p.as_.length→goB n (Qcq p k) t many (p.as_.drop k)=true→t=begT p k→(Qcq p k).length=n→many.length=n→
  ∀i,i<n→many.getD i 0=((pT p i k).length:Int)→ ∀j,k<j→j≤p.as_.length→(pT p i j).length≤256
 |0,k,_,_,hd,_,_,_,_,i,_,_,j,h1,h2=>by omega
 |d+1,k,t,many,hd,hg,ht,hl,hm,i,hi,hc,j,h1,h2=>by
  have hk:k<p.as_.length:=by omega
  have e:p.as_.drop k=p.as_.getD k ac0::p.as_.drop (k+1):=by
   rw [List.drop_eq_getElem_cons hk,List.getD_eq_getElem?_getD,List.getElem?_eq_getElem hk];rfl
  rw [e]at hg;simp only [goB,Bool.and_eq_true,hl]at hg;obtain⟨ga,go,gr⟩:=hg;unfold actB at ga;simp only [Bool.and_eq_true,decide_eq_true_eq]at ga;have h3:=List.all_eq_true.1 go i (List.mem_range.2 hi);unfold okAt at h3;simp only [Bool.and_eq_true,decide_eq_true_eq]at h3;have hcn:Qdi (Qcq p k) (p.as_.getD k ac0).mv t (p.as_.getD k ac0).ln many i=((pT p i (k+1)).length:Int):=by
   unfold Qdi;rw [hc,Q5c,List.length_append,ht];unfold pA;omega
  rw [hcn]at h3;by_cases ej:j=k+1
  ·subst ej;omega
  ·have hf:Qcq p (k+1)=(p.as_.getD k ac0).mv.map Mv.to:=rfl;refine Q5d d (k+1) _ _ (by omega) gr (by rw [ht,Qvz hk]) (by rw [hf,List.length_map];exact ga.2.2.2) (by rw [Qb6];exact hm) i hi ?_ j (by omega) h2;rw [List.getD_eq_getElem?_getD,Qcj (by omega),if_pos hi,Option.getD_some,hcn]
section
variable {p:Pg} (v:Qby p=true) {i:Nat} (hi:i<p.ns.length)
include v hi
theorem Zwf {k:Nat} (hk:k<p.as_.length):mvE ((Qcq p k).getD i v0) ((p.as_.getD k ac0).mv.getD i mv0) (begT p k) (p.as_.getD k ac0).ln=0:=by
 unfold Qby at v;simp only [Bool.and_eq_true,decide_eq_true_eq]at v;obtain⟨h1,h2,h3⟩:=v;unfold Qqt at h1;simp only [Bool.and_eq_true,decide_eq_true_eq]at h1;exact Zob p.as_.length 0 0 (List.replicate p.ns.length 0) (Nat.zero_add _) h3 rfl h1.2.2.1 k (Nat.zero_le _) hk i hi
theorem Zwg {k:Nat} (hk:k≤p.as_.length):(pT p i k).length≤256:=by
 unfold Qby at v;simp only [Bool.and_eq_true,decide_eq_true_eq]at v;obtain⟨h1,h2,h3⟩:=v;unfold Qqt at h1;simp only [Bool.and_eq_true,decide_eq_true_eq]at h1;rcases Nat.eq_zero_or_pos k with rfl|h0
 ·exact Nat.zero_le _
 ·refine Q5d p.as_.length 0 0 (List.replicate p.ns.length 0) (Nat.zero_add _) h3 rfl h1.2.2.1 (by simp) i hi ?_ k h0 hk;rw [List.getD_eq_getElem?_getD,List.getElem?_replicate,if_pos hi];rfl
theorem Z0z {k:Nat} (hk:k<p.as_.length):begT p k<begT p (k+1)∧0≤begT p k∧begT p (k+1)≤3600000:=by
 have h:=Zwf v hi hk;unfold mvE at h;split at h
 case isFalse=>cases h
 rename_i h1;split at h
 case isFalse=>cases h
 obtain⟨_,l1,l2,ha,_⟩:=h1;rw [Qe5]at ha;rw [Qvz hk];omega
theorem Zwh {k:Nat} (hk:k<p.as_.length):chn (pA p i k) (begT p k) (begT p (k+1)) ((Qcq p k).getD i v0) ((Qcq p (k+1)).getD i v0):=by
 have h:=Zwe (Zwf v hi hk);rw [←Qvz hk]at h;have e:(Qcq p (k+1)).getD i v0=((p.as_.getD k ac0).mv.getD i mv0).to:=by
  unfold Qcq;rw [if_neg (Nat.succ_ne_zero k),Nat.add_sub_cancel,List.getD_eq_getElem?_getD,List.getD_eq_getElem?_getD (l:=(p.as_.getD k ac0).mv),List.getElem?_map];cases (p.as_.getD k ac0).mv[i]? <;>rfl
 rw [e];exact h
theorem Q5e: ∀{k:Nat},k≤p.as_.length→chn (pT p i k) 0 (begT p k) ((Qcq p 0).getD i v0) ((Qcq p k).getD i v0)
 |0,_=>⟨rfl,rfl⟩
 |k+1,hk=>by
  rw [Q5c];exact Qel (Q5e (by omega)) (Zwh v hi hk)
theorem Zwi {k:Nat} (h0:0<k) (hk:k≤p.as_.length):1≤(pT p i k).length:=by
 rcases Nat.eq_zero_or_pos (pT p i k).length with h|h
 ·have e:pT p i k=[]:=List.eq_nil_of_length_eq_zero h;have hc:=Q5e v hi hk;rw [e]at hc;have h1:=hc.1;obtain⟨m,rfl⟩: ∃m,k=m+1:=⟨k-1,by omega⟩;have:=Z0z v hi (k:=m) (by omega);omega
 ·exact h
theorem Zej {k:Nat} (h0:0<k) (hk:k≤p.as_.length):Qbp (pT p i k)=true∧pBeg (pT p i k)=0∧pEnd (pT p i k)=begT p k:=
 Q5b (Q5e v hi hk) (Zwi v hi h0 hk) (Zwg v hi hk)
end
def befL {α:Type} (LL:List (List α)) (i:Nat):Nat:=(LL.take i).flatten.length
theorem Qtr {α:Type} (LL:List (List α)):befL LL 0=0:=by simp [befL]
theorem Qts {α:Type} {LL:List (List α)} {i:Nat} (h:i<LL.length):befL LL (i+1)=befL LL i+LL[i].length:=by
 unfold befL;rw [List.take_add_one,List.getElem?_eq_getElem h,List.flatten_append];simp
theorem Zez {α:Type} (LL:List (List α)):befL LL LL.length=LL.flatten.length:=by unfold befL;rw [List.take_length]
theorem Zqa {α:Type} {LL:List (List α)}: ∀{i:Nat},i≤LL.length→befL LL i≤LL.flatten.length:=by
 intro i hi;have e:LL=LL.take i++LL.drop i:=(List.take_append_drop i LL).symm;unfold befL
 conv=>rhs;rw [e]
 rw [List.flatten_append,List.length_append];omega
theorem Qhm {α:Type} {LL:List (List α)} {i k:Nat} (h:i<LL.length) (hk:k<LL[i].length):LL.flatten[befL LL i+k]? =some LL[i][k]:=by
 have e:LL=LL.take i++(LL[i]::LL.drop (i+1)):=by
  conv=>lhs;rw [←List.take_append_drop i LL]
  rw [List.drop_eq_getElem_cons h]
 have e2:LL.flatten=(LL.take i).flatten++(LL[i]++(LL.drop (i+1)).flatten):=by
  conv=>lhs;rw [e]
  rw [List.flatten_append,List.flatten_cons]
 rw [e2];unfold befL;rw [List.getElem?_append_right (Nat.le_add_right _ _),Nat.add_sub_cancel_left,List.getElem?_append_left hk,List.getElem?_eq_getElem hk]
theorem Q54 {α:Type} {LL:List (List α)} {i k:Nat} (h:i<LL.length) (hk:k≤LL[i].length):befL LL i+k≤LL.flatten.length:=by
 have h1:=Qts h;have h2:=Zqa (LL:=LL) (i:=i+1) h;omega
def Qgm (xs:List Int):Int:=xs.foldl max 0
theorem Q07 (xs:List Int) (x:Int):Qgm (xs++[x])=max (Qgm xs) x:=by simp [Qgm]
theorem Qps {xs:List Int} {k:Nat} {x:Int} (h:xs[k]? =some x):Qgm (xs.take (k+1))=max (Qgm (xs.take k)) x:=by
 rw [List.take_add_one,h];exact Q07 _ _
theorem Qtt {xs:List Int} {n:Nat} (h:xs.length≤n):Qgm (xs.take n)=Qgm xs:=by rw [List.take_of_length_le h]
end Go.Dg

namespace Go.Proofs.YtdpajapkhembcaaGreatDoor
open Go.Vl Go.RowKit Go.Dg
def FewQ (p:Pg):Prop:=p.ns.length≤3∧p.hs.length≤3∧p.as_.length≤3∧(∀i,i<p.ns.length→(nmAt p i).size≤60)∧(∀i,i<p.as_.length→(p.as_.getD i ac0).nm.size≤60∧(p.as_.getD i ac0).mv.length≤3)
instance (p:Pg):Decidable (FewQ p):=by unfold FewQ;infer_instance
theorem Qrn {p:Pg} (h:FewQ p):FewP p:=⟨by have:=h.1;omega,by have:=h.2.1;omega,by have:=h.2.2.1;omega,h.2.2.2.1,fun i hi=>⟨(h.2.2.2.2 i hi).1,by have:=(h.2.2.2.2 i hi).2;omega⟩⟩
set_option maxHeartbeats 2000000 in
theorem Q7e (p:Pg):Qae Tryz.prog 8 [pgV p,.int .i64 3,.int .i64 3] (.bool (decide (FewQ p))):=by
 unfold pgV;by_cases e1:p.ns.length≤3
 case neg=>
  have e1':((3:Int)<(p.ns.length:Int))=True:=eq_true (by omega);have e0:decide (FewQ p)=false:=decide_eq_false (fun h=>absurd (h.1) e1);rw [e0];refine Qab (tb:=[]) 68 [.tmp 6] [0,1,2,3,6,7,8,27,32,41,46,67] mixed Tryz.func8 rfl (by kernel_rfl) (by kernel_rfl) (by kernel_rfl) (by kernel_rfl) ?_;repeat (first|(simp -implicitDefEqProofs only [go_sem,seval,e1',decide_true,List.length_map]))
 have e1':((3:Int)<(p.ns.length:Int))=False:=eq_false (by omega);by_cases e2:p.hs.length≤3
 case neg=>
  have e2':((3:Int)<(p.hs.length:Int))=True:=eq_true (by omega);have e0:decide (FewQ p)=false:=decide_eq_false (fun h=>absurd (h.2.1) e2);rw [e0];refine Qab (tb:=[]) 68 [.tmp 6] [0,1,2,3,6,7,8,27,32,41,46,67] mixed Tryz.func8 rfl (by kernel_rfl) (by kernel_rfl) (by kernel_rfl) (by kernel_rfl) ?_;repeat (first|(simp -implicitDefEqProofs only [go_sem,seval,e1',e2',decide_true,decide_false,List.length_map]))
 have e2':((3:Int)<(p.hs.length:Int))=False:=eq_false (by omega);by_cases e3:p.as_.length≤3
 case neg=>
  have e3':((3:Int)<(p.as_.length:Int))=True:=eq_true (by omega);have e0:decide (FewQ p)=false:=decide_eq_false (fun h=>absurd (h.2.2.1) e3);rw [e0];refine Qab (tb:=[]) 68 [.tmp 6] [0,1,2,3,6,7,8,27,32,41,46,67] mixed Tryz.func8 rfl (by kernel_rfl) (by kernel_rfl) (by kernel_rfl) (by kernel_rfl) ?_;repeat (first|(simp -implicitDefEqProofs only [go_sem,seval,e1',e2',e3',decide_true,decide_false,List.length_map]))
 have e3':((3:Int)<(p.as_.length:Int))=False:=eq_false (by omega);refine Qab (tb:=[]) 68 [.tmp 6] [0,1,2,3,6,7,8,27,32,41,46,67] mixed Tryz.func8 rfl (by kernel_rfl) (by kernel_rfl) (by kernel_rfl) (by kernel_rfl) ?_;repeat (first|(simp -implicitDefEqProofs only [go_sem,seval,e1',e2',e3',decide_false,List.length_map]))
 refine Qav mixed (fun k:{k:Nat // k≤p.ns.length∧ ∀i,i<k→(nmAt p i).size≤60}=>St.of [(1,.int .i64 3),(2,.int .i64 3),(3,.bp 0 3 0 0),(7,.int .i64 (k.1:Int))] [(0,{els:=[.agg [.slc (p.ns.map PV.str),.slc (p.hs.map v3PV),.slc (p.as_.map acV)]],esz:=3,ety:=26,fro:=0,live:=true,arr:=false})]) (fun k=>p.ns.length-k.1) ⟨0,Nat.zero_le _,fun i h=>absurd h (Nat.not_lt_zero _)⟩ ?_ ?_
 ·refine Qan (θ:=[(0,0)]) rfl ?_ ?_
  ·simp [Qaf,lkp,ren1,ren0,Qai]
  ·exact⟨⟨rfl,rfl,rfl,rfl,rfl,.inr ⟨rfl,_,_,rfl,rfl,rfl,rfl⟩⟩,trivial⟩
 ·rintro⟨k,hk,hI⟩;simp only;have n0:=nn_T k;have hwk:=wr_1 (n:=k) (by omega);by_cases hA:k<p.ns.length
  ·have hA':=lt_T hA;have gn:=Zom hA;by_cases hB:(nmAt p k).size≤60
   ·have hB':((60:Int)<((nmAt p k).size:Int))=False:=eq_false (by omega);repeat (first|(simp -implicitDefEqProofs only [go_sem,seval,hA',n0,gn,hB',hwk,Int.toNat_natCast,List.length_map]))
    refine⟨⟨k+1,hA,fun i hi=> ?_⟩,by simp only;omega,?_⟩
    ·rcases Nat.lt_succ_iff_lt_or_eq.1 hi with h|rfl
     ·exact hI i h
     ·exact hB
    refine Qan (θ:=[(0,0)]) rfl ?_ ?_
    ·simp [Qaf,lkp,ren1,ren0,Qai]
    ·exact⟨⟨rfl,rfl,rfl,rfl,rfl,.inr ⟨rfl,_,_,rfl,rfl,rfl,rfl⟩⟩,trivial⟩
   ·have hB':((60:Int)<((nmAt p k).size:Int))=True:=eq_true (by omega);have e0:decide (FewQ p)=false:=decide_eq_false (fun h=>absurd (h.2.2.2.1 k hA) hB);rw [e0];repeat (first|(simp -implicitDefEqProofs only [go_sem,seval,hA',n0,gn,hB',Int.toNat_natCast,List.length_map]))
  ·have hA':=lt_F hA;obtain rfl:k=p.ns.length:=by omega
   repeat (first|(simp -implicitDefEqProofs only [go_sem,seval,hA',List.length_map]))
   refine Qav mixed (fun k:{k:Nat // k≤p.as_.length∧ ∀i,i<k→(p.as_.getD i ac0).nm.size≤60∧(p.as_.getD i ac0).mv.length≤3}=>St.of [(1,.int .i64 3),(2,.int .i64 3),(3,.bp 0 3 0 0),(8,.int .i64 (k.1:Int))] [(0,{els:=[.agg [.slc (p.ns.map PV.str),.slc (p.hs.map v3PV),.slc (p.as_.map acV)]],esz:=3,ety:=26,fro:=0,live:=true,arr:=false})]) (fun k=>p.as_.length-k.1) ⟨0,Nat.zero_le _,fun i h=>absurd h (Nat.not_lt_zero _)⟩ ?_ ?_
   ·refine Qan (θ:=[(0,0)]) rfl ?_ ?_
    ·simp [Qaf,lkp,ren1,ren0,Qai]
    ·exact⟨⟨rfl,rfl,rfl,rfl,rfl,.inr ⟨rfl,_,_,rfl,rfl,rfl,rfl⟩⟩,trivial⟩
   ·rintro⟨k,hk,hJ⟩;simp only;have n0:=nn_T k;have hwk:=wr_1 (n:=k) (by omega);by_cases hA:k<p.as_.length
    ·have hA':=lt_T hA;have ga:=Qt0 hA;by_cases hB:(p.as_.getD k ac0).nm.size≤60
     case neg=>
      have hB':((60:Int)<((p.as_.getD k ac0).nm.size:Int))=True:=eq_true (by omega);have e0:decide (FewQ p)=false:=decide_eq_false (fun h=>absurd ((h.2.2.2.2 k hA).1) hB);rw [e0];repeat (first|(simp -implicitDefEqProofs only [go_sem,seval,hA',n0,ga,hB',decide_true,Int.toNat_natCast,List.length_map]))
     have hB':((60:Int)<((p.as_.getD k ac0).nm.size:Int))=False:=eq_false (by omega);by_cases hC:(p.as_.getD k ac0).mv.length≤3
     case neg=>
      have hC':((3:Int)<((p.as_.getD k ac0).mv.length:Int))=True:=eq_true (by omega);have e0:decide (FewQ p)=false:=decide_eq_false (fun h=>absurd ((h.2.2.2.2 k hA).2) hC);rw [e0];repeat (first|(simp -implicitDefEqProofs only [go_sem,seval,hA',n0,ga,hB',hC',decide_true,decide_false,Int.toNat_natCast,List.length_map]))
     have hC':((3:Int)<((p.as_.getD k ac0).mv.length:Int))=False:=eq_false (by omega);repeat (first|(simp -implicitDefEqProofs only [go_sem,seval,hA',n0,ga,hB',hC',hwk,decide_false,Int.toNat_natCast,List.length_map]))
     refine⟨⟨k+1,hA,fun i hi=> ?_⟩,by simp only;omega,?_⟩
     ·rcases Nat.lt_succ_iff_lt_or_eq.1 hi with h|rfl
      ·exact hJ i h
      ·exact⟨hB,hC⟩
     refine Qan (θ:=[(0,0)]) rfl ?_ ?_
     ·simp [Qaf,lkp,ren1,ren0,Qai]
     ·exact⟨⟨rfl,rfl,rfl,rfl,rfl,.inr ⟨rfl,_,_,rfl,rfl,rfl,rfl⟩⟩,trivial⟩
    ·have hA':=lt_F hA;obtain rfl:k=p.as_.length:=by omega
     have e0:decide (FewQ p)=true:=decide_eq_true ⟨e1,e2,e3,hI,hJ⟩;rw [e0];repeat (first|(simp -implicitDefEqProofs only [go_sem,seval,hA',List.length_map]))
def Qro (p:Pg):PV:=if Qby p=true then(if p.as_.length=0 then .tup [.slc [],.int .i64 9]else .tup [.slc (allL p),.int .i64 0])else .tup [.slc [],.int .i64 2]
theorem Q7f (p:Pg) (hf:FewP p):Qae Tryz.prog 40 [pgV p] (Qro p):=by
 have ok:=Qi5 hf;have hV:=Qrd p ok;unfold Qro;cases e:Qby p with
 |false=>
  rw [e]at hV;unfold pgV at hV ⊢;refine Qab (tb:=[]) 15 [.tmp 2,.tmp 3] [0,1,2,3,4,8] mixed Tryz.func40 rfl (by kernel_rfl) (by kernel_rfl) (by kernel_rfl) (by kernel_rfl) ?_;repeat (first|(simp -implicitDefEqProofs only [go_sem,seval,Bool.not_false,Bool.false_eq_true,if_false])|((with_reducible refine Qaa hV ?_ ?_ ?_);rfl;rfl))
 |true=>
 rw [e]at hV;have hA:=Zxa p hf e;by_cases h3:p.as_.length=0
 ·have h3':((p.as_.length:Int)==0)=true:=by rw [h3];rfl
  rw [if_pos rfl,if_pos h3];unfold pgV at hV ⊢;refine Qab (tb:=[]) 15 [.tmp 2,.tmp 3] [0,1,2,3,4,8] mixed Tryz.func40 rfl (by kernel_rfl) (by kernel_rfl) (by kernel_rfl) (by kernel_rfl) ?_;repeat (first|(simp -implicitDefEqProofs only [go_sem,seval,Bool.not_true,h3',List.length_map])|((with_reducible refine Qaa hV ?_ ?_ ?_);rfl;rfl))
 have h3':((p.as_.length:Int)==0)=false:=beq_eq_false_iff_ne.2 (by omega);rw [if_pos rfl,if_neg h3];generalize allL p=AL at*;unfold pgV at hV hA ⊢;refine Qab (tb:=[]) 15 [.tmp 2,.tmp 3] [0,1,2,3,4,8] mixed Tryz.func40 rfl (by kernel_rfl) (by kernel_rfl) (by kernel_rfl) (by kernel_rfl) ?_;repeat (first|(simp -implicitDefEqProofs only [go_sem,seval,Bool.not_true,h3',List.length_map])|((with_reducible refine Qaa hV ?_ ?_ ?_);rfl;rfl)|((with_reducible refine Qaa hA ?_ ?_ ?_);rfl;rfl))
theorem Q7g {s:Sg} (hv:Qbl s=true):okSg s:=by
 obtain⟨⟨v1,v2,v3,v4,v5⟩,hax, -⟩:=Qbu hv;refine⟨by unfold i64;omega,by unfold i64;omega,by unfold i64;omega,fun c hc x hx=> ?_,fun c hc=>by have:=(Qbf (hax c hc)).2.1;omega⟩;have:=Qvs hv c hc x hx;unfold i64;omega
theorem Qpv {p:List Sg} (hV:Qbp p=true): ∀s∈p,okSg s:=fun _ hs=>Q7g (Q4t hV hs)
theorem Qzb {p:Pg} (v:Qby p=true) (h:p.as_.length≠0) {i:Nat} (hi:i<p.ns.length):Qbp (Qaj p i p.as_.length)=true:=
 (Zej v hi (by omega) (Nat.le_refl _)).1
theorem Qzc {p:Pg} (hf:FewP p) (v:Qby p=true) (h:p.as_.length≠0) {i:Nat} (hi:i<p.ns.length):Qae Tryz.prog 44 [pgV p,.int .i64 (i:Int)] (.tup [pV (Qaj p i p.as_.length),.int .i64 0]):=by
 have hP:=Zxb p hf i;unfold Zqn at hP;rw [show Qi6 p (i:Int)=0 by unfold Qi6;rw [if_pos v,if_pos ⟨by omega,by omega⟩,if_neg h],if_pos rfl,Int.toNat_natCast]at hP;exact hP
def sqW (l:List Wd) (s:Sg):Int:=atW Wd.ux l (posS s 0) (posS s 1) (posS s 2) s.f*atW Wd.ux l (posS s 0) (posS s 1) (posS s 2) s.f+atW Wd.uy l (posS s 0) (posS s 1) (posS s 2) s.f*atW Wd.uy l (posS s 0) (posS s 1) (posS s 2) s.f+atW Wd.uz l (posS s 0) (posS s 1) (posS s 2) s.f*atW Wd.uz l (posS s 0) (posS s 1) (posS s 2) s.f
def sqP (l:List Wd) (p:Pg) (i:Nat):List Int:=(Qaj p i p.as_.length).map (sqW l)
def sqA (l:List Wd) (p:Pg):List (List Int):=(List.range p.ns.length).map (sqP l p)
theorem Qrp (l:List Wd) (p:Pg):(sqA l p).length=p.ns.length:=by simp [sqA]
theorem Qrq (l:List Wd) (p:Pg) {i:Nat} (h:i<(sqA l p).length):(sqA l p)[i]=sqP l p i:=by simp [sqA]
theorem Qrr (l:List Wd) (p:Pg) (i:Nat):(sqP l p i).length=(Qaj p i p.as_.length).length:=by simp [sqP]
theorem Zra (l:List Wd) (p:Pg) {i k:Nat} (h:k<(Qaj p i p.as_.length).length):(sqP l p i)[k]'(by rw [Qrr];exact h)=sqW l (Qaj p i p.as_.length)[k]:=by simp [sqP]
def Qck (p:Pg) (B:Bat) (l:List Wd):Int:=if Qby p=true∧Qa9 l=true∧Qa5 B=true then(if p.as_.length=0 then 9 else 0)else 2
theorem Qed {p:Pg} {B:Bat} {l:List Wd} (h:Qck p B l=0):Qby p=true∧Qa9 l=true∧Qa5 B=true∧p.as_.length≠0:=by
 unfold Qck at h;split at h
 ·rename_i q;split at h
  ·omega
  ·exact⟨q.1,q.2.1,q.2.2,by assumption⟩
 ·omega
theorem Qpw {p:Pg} {B:Bat} {l:List Wd} (h1:Qby p=true) (h2:Qa9 l=true) (h3:Qa5 B=true) (h4:p.as_.length≠0):Qck p B l=0:=by
 unfold Qck;rw [if_pos ⟨h1,h2,h3⟩,if_neg h4]
theorem Qwe (p:Pg) (B:Bat) (l:List Wd) (hp:okP p) (hl:l.length≤maxLen):Qae Tryz.prog 31 [pgV p,baPV B,wsPV l] (.int .i64 (Qck p B l)):=by
 skip
 have f1:=Qrd p hp;have f2:=Qfk l hl;have f3:=Qq9 B;unfold Qck;unfold pgV at f1 ⊢;cases e1:Qby p with
 |false=>
  rw [e1]at f1;rw [if_neg (fun h=>Bool.false_ne_true h.1)];refine Qab (tb:=[]) 22 [.tmp 6] [0,1,2,3,4,6,7,17] mixed Tryz.func31 rfl (by kernel_rfl) (by kernel_rfl) (by kernel_rfl) (by kernel_rfl) ?_;repeat (first|(simp -implicitDefEqProofs only [go_sem,seval,Bool.not_false])|((with_reducible refine Qaa f1 ?_ ?_ ?_);rfl;rfl))
 |true=>
 rw [e1]at f1;cases e2:Qa9 l with
 |false=>
  rw [e2]at f2;rw [if_neg (fun h=>Bool.false_ne_true h.2.1)];refine Qab (tb:=[]) 22 [.tmp 6] [0,1,2,3,4,6,7,17] mixed Tryz.func31 rfl (by kernel_rfl) (by kernel_rfl) (by kernel_rfl) (by kernel_rfl) ?_;repeat (first|(simp -implicitDefEqProofs only [go_sem,seval,Bool.not_false,Bool.not_true])|((with_reducible refine Qaa f1 ?_ ?_ ?_);rfl;rfl)|((with_reducible refine Qaa f2 ?_ ?_ ?_);rfl;rfl))
 |true=>
 rw [e2]at f2;cases e3:Qa5 B with
 |false=>
  rw [e3]at f3;rw [if_neg (fun h=>Bool.false_ne_true h.2.2)];unfold baPV at f3 ⊢;refine Qab (tb:=[]) 22 [.tmp 6] [0,1,2,3,4,6,7,17] mixed Tryz.func31 rfl (by kernel_rfl) (by kernel_rfl) (by kernel_rfl) (by kernel_rfl) ?_;repeat (first|(simp -implicitDefEqProofs only [go_sem,seval,Bool.not_false,Bool.not_true])|((with_reducible refine Qaa f1 ?_ ?_ ?_);rfl;rfl)|((with_reducible refine Qaa f2 ?_ ?_ ?_);rfl;rfl)|((with_reducible refine Qaa f3 ?_ ?_ ?_);rfl;rfl))
 |true=>
 rw [e3]at f3;rw [if_pos ⟨rfl,rfl,rfl⟩];unfold baPV at f3 ⊢;by_cases h3:p.as_.length=0
 ·have h3':((p.as_.length:Int)==0)=true:=by rw [h3];rfl
  rw [if_pos h3];refine Qab (tb:=[]) 22 [.tmp 6] [0,1,2,3,4,6,7,17] mixed Tryz.func31 rfl (by kernel_rfl) (by kernel_rfl) (by kernel_rfl) (by kernel_rfl) ?_;repeat (first|(simp -implicitDefEqProofs only [go_sem,seval,Bool.not_true,h3',List.length_map])|((with_reducible refine Qaa f1 ?_ ?_ ?_);rfl;rfl)|((with_reducible refine Qaa f2 ?_ ?_ ?_);rfl;rfl)|((with_reducible refine Qaa f3 ?_ ?_ ?_);rfl;rfl))
 ·have h3':((p.as_.length:Int)==0)=false:=beq_eq_false_iff_ne.2 (by omega);rw [if_neg h3];refine Qab (tb:=[]) 22 [.tmp 6] [0,1,2,3,4,6,7,17] mixed Tryz.func31 rfl (by kernel_rfl) (by kernel_rfl) (by kernel_rfl) (by kernel_rfl) ?_;repeat (first|(simp -implicitDefEqProofs only [go_sem,seval,Bool.not_true,h3',List.length_map])|((with_reducible refine Qaa f1 ?_ ?_ ?_);rfl;rfl)|((with_reducible refine Qaa f2 ?_ ?_ ?_);rfl;rfl)|((with_reducible refine Qaa f3 ?_ ?_ ?_);rfl;rfl))
theorem Qnj (p:Pg) (B:Bat) (l:List Wd) (hp:okP p) (hl:l.length≤maxLen):Qae Tryz.prog 23 [pgV p,baPV B,wsPV l] (.int .i64 (Qck p B l)):=by
 skip
 have f1:=Qrd p hp;have f2:=Qfk l hl;have f3:=Qq9 B;unfold Qck;unfold pgV at f1 ⊢;cases e1:Qby p with
 |false=>
  rw [e1]at f1;rw [if_neg (fun h=>Bool.false_ne_true h.1)];refine Qab (tb:=[]) 24 [.tmp 6] [0,1,2,3,4,6,19,23] mixed Tryz.func23 rfl (by kernel_rfl) (by kernel_rfl) (by kernel_rfl) (by kernel_rfl) ?_;repeat (first|(simp -implicitDefEqProofs only [go_sem,seval,Bool.not_false,Bool.not_true])|((with_reducible refine Qaa f1 ?_ ?_ ?_);rfl;rfl))
 |true=>
 rw [e1]at f1;cases e2:Qa9 l with
 |false=>
  rw [e2]at f2;rw [if_neg (fun h=>Bool.false_ne_true h.2.1)];refine Qab (tb:=[]) 24 [.tmp 6] [0,1,2,3,4,6,19,23] mixed Tryz.func23 rfl (by kernel_rfl) (by kernel_rfl) (by kernel_rfl) (by kernel_rfl) ?_;repeat (first|(simp -implicitDefEqProofs only [go_sem,seval,Bool.not_false,Bool.not_true])|((with_reducible refine Qaa f1 ?_ ?_ ?_);rfl;rfl)|((with_reducible refine Qaa f2 ?_ ?_ ?_);rfl;rfl))
 |true=>
 rw [e2]at f2;cases e3:Qa5 B with
 |false=>
  rw [e3]at f3;rw [if_neg (fun h=>Bool.false_ne_true h.2.2)];unfold baPV at f3 ⊢;refine Qab (tb:=[]) 24 [.tmp 6] [0,1,2,3,4,6,19,23] mixed Tryz.func23 rfl (by kernel_rfl) (by kernel_rfl) (by kernel_rfl) (by kernel_rfl) ?_;repeat (first|(simp -implicitDefEqProofs only [go_sem,seval,Bool.not_false,Bool.not_true])|((with_reducible refine Qaa f1 ?_ ?_ ?_);rfl;rfl)|((with_reducible refine Qaa f2 ?_ ?_ ?_);rfl;rfl)|((with_reducible refine Qaa f3 ?_ ?_ ?_);rfl;rfl))
 |true=>
 rw [e3]at f3;rw [if_pos ⟨rfl,rfl,rfl⟩];unfold baPV at f3 ⊢;by_cases h3:p.as_.length=0
 ·have h3':((p.as_.length:Int)==0)=true:=by rw [h3];rfl
  rw [if_pos h3];refine Qab (tb:=[]) 24 [.tmp 6] [0,1,2,3,4,6,19,23] mixed Tryz.func23 rfl (by kernel_rfl) (by kernel_rfl) (by kernel_rfl) (by kernel_rfl) ?_;repeat (first|(simp -implicitDefEqProofs only [go_sem,seval,Bool.not_true,h3',List.length_map])|((with_reducible refine Qaa f1 ?_ ?_ ?_);rfl;rfl)|((with_reducible refine Qaa f2 ?_ ?_ ?_);rfl;rfl)|((with_reducible refine Qaa f3 ?_ ?_ ?_);rfl;rfl))
 ·have h3':((p.as_.length:Int)==0)=false:=beq_eq_false_iff_ne.2 (by omega);rw [if_neg h3];refine Qab (tb:=[]) 24 [.tmp 6] [0,1,2,3,4,6,19,23] mixed Tryz.func23 rfl (by kernel_rfl) (by kernel_rfl) (by kernel_rfl) (by kernel_rfl) ?_;repeat (first|(simp -implicitDefEqProofs only [go_sem,seval,Bool.not_true,h3',List.length_map])|((with_reducible refine Qaa f1 ?_ ?_ ?_);rfl;rfl)|((with_reducible refine Qaa f2 ?_ ?_ ?_);rfl;rfl)|((with_reducible refine Qaa f3 ?_ ?_ ?_);rfl;rfl))
theorem T_zw:Qau Tryz.prog 71=some (.agg [.int .i64 0,.int .i64 0,.int .i64 0,.int .i64 0,.int .i64 0,.int .i64 0,.int .i64 0,.int .i64 0,.int .i64 0,.int .i64 0,.int .i64 0]):=by kernel_rfl
abbrev dF (s:Int):PV:= .fn 30 [] [.rp [.int .i64 s]]
def delB (s:Int) (l:List Wd):List Wd:=Qbr s l++List.replicate (l.length-(Qbr s l).length) wd0
theorem Zx6 {a b:Nat} (h:a<b):((a:Int)<(b:Int))=True:=eq_true (by omega)
theorem wdset (l:List Wd) (i:Nat) (w:Wd):(l.map wdPV).set i (.agg [.int .i64 w.lx,.int .i64 w.ly,.int .i64 w.lz,.int .i64 w.hx,.int .i64 w.hy,.int .i64 w.hz,.int .i64 w.f,.int .i64 w.t,.int .i64 w.ux,.int .i64 w.uy,.int .i64 w.uz])=(l.set i w).map wdPV:=by rw [List.map_set];rfl
theorem Zfl (s:Int) (l:List Wd) (hl:l.length≤100000) (h: ∀w∈l,s<w.t):Qdb Tryz.prog 46 [.bs 1000000 11 0 l.length,dF s] [(1000000,wdB l)] (.int .i64 (-1)) [(1000000,wdB l)]:=by
 skip
 refine Qbx (tb:=[]) 19 [.tmp 4] [0,1,4,5,7,8,9,16] mixed Tryz.func46 rfl (by kernel_rfl) (by kernel_rfl) (by kernel_rfl) (by kernel_rfl) (by rfl) ?_;repeat (first|(simp -implicitDefEqProofs only [go_sem,seval]))
 refine Qav mixed (fun k:{k:Nat // k≤l.length}=>St.of [(0,.bs 1000000 11 0 l.length),(1,dF s),(7,.int .i64 (l.length:Int)),(8,.int .i64 (k.1:Int))] [(1000000,wdB l)]) (fun k=>l.length-k.1) ⟨0,Nat.zero_le _⟩ ?_ ?_
 ·refine Qan (θ:=[(1000000,1000000)]) rfl ?_ ?_
  ·simp [Qaf,lkp,ren1,ren0,Qai,dF]
  ·exact⟨⟨rfl,rfl,rfl,rfl,rfl,.inl ⟨rfl,rfl⟩⟩,trivial⟩
 ·rintro⟨k,hk⟩;simp only;by_cases hA:k<l.length
  ·skip
   have hA':=ltT hA;have n0:=nnT k;have hg:=Qk0 l k hA;have hd:=Q60 l[k] s;have hwk:=Qam (a:=k) (by omega);unfold wdPV at hd;have hlt:=h _ (List.getElem_mem hA);rw [decide_eq_false (show¬l[k].t≤s by omega)]at hd;generalize l[k]=w at*;repeat (first|(simp -implicitDefEqProofs only [go_sem,seval,hA',n0,hg,hwk,Int.toNat_natCast])|((with_reducible refine Qaa hd ?_ ?_ ?_);rfl;rfl))
   refine⟨⟨k+1,hA⟩,by simp only;omega,Qan (θ:=[(1000000,1000000)]) rfl ?_ ?_⟩
   ·simp [Qaf,lkp,ren1,ren0,Qai,dF]
   ·exact⟨⟨rfl,rfl,rfl,rfl,rfl,.inl ⟨rfl,rfl⟩⟩,trivial⟩
  ·have hA':=ltF hA;repeat (first|(simp -implicitDefEqProofs only [go_sem,seval,hA']))
   refine Qbg (.inl rfl) ?_;simp -implicitDefEqProofs only [go_sem,seval];refine Qan (θ:=[(1000000,1000000)]) rfl ?_ ?_
   ·simp [Qaf,lkp,ren1,ren0,Qai,dF]
   ·exact⟨⟨rfl,rfl,rfl,rfl,rfl,.inl ⟨rfl,rfl⟩⟩,trivial⟩
theorem Zfm (s:Int) (l:List Wd) (hl:l.length≤100000) (i:Nat) (hi:i<l.length) (h0: ¬s<l[i].t) (h1: ∀(j:Nat) (hj:j<i),s<(l[j]'(by omega)).t):
  Qdb Tryz.prog 46 [.bs 1000000 11 0 l.length,dF s] [(1000000,wdB l)] (.int .i64 (i:Int)) [(1000000,wdB l)]:=by
 skip
 refine Qbx (tb:=[]) 19 [.tmp 4] [0,1,4,5,7,8,9,16] mixed Tryz.func46 rfl (by kernel_rfl) (by kernel_rfl) (by kernel_rfl) (by kernel_rfl) (by rfl) ?_;repeat (first|(simp -implicitDefEqProofs only [go_sem,seval]))
 refine Qav mixed (fun k:{k:Nat // k≤i}=>St.of [(0,.bs 1000000 11 0 l.length),(1,dF s),(7,.int .i64 (l.length:Int)),(8,.int .i64 (k.1:Int))] [(1000000,wdB l)]) (fun k=>i-k.1) ⟨0,Nat.zero_le _⟩ ?_ ?_
 ·refine Qan (θ:=[(1000000,1000000)]) rfl ?_ ?_
  ·simp [Qaf,lkp,ren1,ren0,Qai,dF]
  ·exact⟨⟨rfl,rfl,rfl,rfl,rfl,.inl ⟨rfl,rfl⟩⟩,trivial⟩
 ·rintro⟨k,hk⟩;simp only;have hA:k<l.length:=by omega
  have hA':=ltT hA;have n0:=nnT k;have hg:=Qk0 l k hA;have hd:=Q60 l[k] s;have hwk:=Qam (a:=k) (by omega);unfold wdPV at hd;by_cases hq:k<i
  ·have hlt:=h1 k hq;rw [decide_eq_false (show¬l[k].t≤s by omega)]at hd;generalize l[k]=w at*;repeat (first|(simp -implicitDefEqProofs only [go_sem,seval,hA',n0,hg,hwk,Int.toNat_natCast])|((with_reducible refine Qaa hd ?_ ?_ ?_);rfl;rfl))
   refine⟨⟨k+1,hq⟩,by simp only;omega,Qan (θ:=[(1000000,1000000)]) rfl ?_ ?_⟩
   ·simp [Qaf,lkp,ren1,ren0,Qai,dF]
   ·exact⟨⟨rfl,rfl,rfl,rfl,rfl,.inl ⟨rfl,rfl⟩⟩,trivial⟩
  ·obtain rfl:k=i:=by omega
   rw [decide_eq_true (show l[k].t≤s by omega)]at hd;generalize l[k]=w at*;repeat (first|(simp -implicitDefEqProofs only [go_sem,seval,hA',n0,hg,Int.toNat_natCast])|((with_reducible refine Qaa hd ?_ ?_ ?_);rfl;rfl))
   refine Qbg (.inl rfl) ?_;simp -implicitDefEqProofs only [go_sem,seval];refine Qan (θ:=[(1000000,1000000)]) rfl ?_ ?_
   ·simp [Qaf,lkp,ren1,ren0,Qai,dF]
   ·exact⟨⟨rfl,rfl,rfl,rfl,rfl,.inl ⟨rfl,rfl⟩⟩,trivial⟩
set_option maxHeartbeats 4000000 in
theorem Zq9 (s:Int) (l:List Wd) (hl:l.length≤100000):Qdb Tryz.prog 28 [.bs 1000000 11 0 l.length,dF s] [(1000000,wdB l)] (.bs 1000000 11 0 (Qbr s l).length) [(1000000,wdB (if(Qbr s l).length=l.length then l else delB s l))]:=by
 rcases Zwt s l with h|⟨i,hi,h0,h1⟩
 ·have hk:=Qtp h;have hx:=Zfl s l hl h;rw [hk,if_pos rfl]

  refine Qbx (tb:=[(102,[(1000000,1000000)],[])]) 42 [.tmp 4] [0,1,4,5,6,7,12,19,29] mixed Tryz.func28 rfl (by kernel_rfl) (by kernel_rfl) (by kernel_rfl) (by kernel_rfl) (by rfl) ?_;repeat (first|(simp -implicitDefEqProofs only [go_sem,seval])|((with_reducible refine Qbo hx ?_ ?_ ?_ ?_);rfl;rfl;rfl))
  refine Qbg (.inl rfl) ?_;simp -implicitDefEqProofs only [go_sem,seval];refine Qan (θ:=[(1000000,1000000)]) rfl ?_ ?_
  ·simp [Qaf,lkp,ren1,ren0,Qai,dF]
  ·exact⟨⟨rfl,rfl,rfl,rfl,rfl,.inl ⟨rfl,rfl⟩⟩,trivial⟩
 ·have hx:=Zfm s l hl i hi h0 h1;have hkl:=Zev hi h0;rw [if_neg (by omega)];obtain⟨e1,e2⟩:=Q06 (s:=s) (l:=l) (i:=i) (by omega) h1;have e3:delE s l (i+1)=l:=by rw [Qyw hi h0,e2]
  have e4:(Qbr s (l.take (i+1))).length=i:=by rw [Qem hi,if_neg h0,List.append_nil,e1,List.length_take];omega
  have hwi:=Qam (a:=i) (by omega);have nm1:((i:Int)== -1)=false:=beq_eq_false_iff_ne.2 (by omega)

  refine Qbx (tb:=[(102,[(1000000,1000000)],[])]) 42 [.tmp 4] [0,1,4,5,6,7,12,19,29] mixed Tryz.func28 rfl (by kernel_rfl) (by kernel_rfl) (by kernel_rfl) (by kernel_rfl) (by rfl) ?_;repeat (first|(simp -implicitDefEqProofs only [go_sem,seval,nm1,hwi])|((with_reducible refine Qbo hx ?_ ?_ ?_ ?_);rfl;rfl;rfl))
  refine Qav mixed (fun j:{j:Nat // i+1≤j∧j≤l.length∧(Qbr s (l.take j)).length<j}=>St.of [(0,.bs 1000000 11 0 l.length),(1,dF s),(5,.int .i64 ((Qbr s (l.take j.1)).length:Int)),(6,.int .i64 (j.1:Int))] [(1000000,wdB (delE s l j.1))]) (fun j=>l.length-j.1) ⟨i+1,Nat.le_refl _,hi,by omega⟩ ?_ ?_
  ·simp only [e3,e4];refine Qan (θ:=[(1000000,1000000)]) rfl ?_ ?_
   ·simp [Qaf,lkp,ren1,ren0,Qai,dF]
   ·exact⟨⟨rfl,rfl,rfl,rfl,rfl,.inl ⟨rfl,rfl⟩⟩,trivial⟩
  ·rintro⟨j,hj0,hj,hK⟩;simp only;have hkt:=Qkb s l j;by_cases hA:j<l.length
   ·have hA':=ltT hA;have n0:=nnT j;have hg:((delE s l j).map wdPV)[j]? =some (wdPV l[j]):=by rw [List.getElem?_map,Zeu hkt,List.getElem?_eq_getElem hA];rfl
    have hd:=Q60 l[j] s;have hwj:=Qam (a:=j) (by omega);have hlen:((delE s l j).map wdPV).length=l.length:=by rw [List.length_map,Ql3 s l j hj]
    unfold wdPV at hd;by_cases hq:s<l[j].t
    ·rw [decide_eq_false (show¬l[j].t≤s by omega)]at hd;have s1:=Zp9 hA hq;have s2:(Qbr s (l.take (j+1))).length=(Qbr s (l.take j)).length+1:=by rw [Qem hA,if_pos hq,List.length_append];rfl
     have hst:=wdset (delE s l j) (Qbr s (l.take j)).length l[j];rw [←s1]at hst;have hKl:(Qbr s (l.take j)).length<(delE s l j).length:=by rw [Ql3 s l j hj];omega
     obtain⟨w',hw'⟩: ∃w',((delE s l j).map wdPV)[(Qbr s (l.take j)).length]? =some (wdPV w'):=⟨_,Qk0 _ _ hKl⟩;clear s1 hKl;generalize (Qbr s (l.take j)).length=K at*;generalize hD:delE s l (j+1)=D at*;generalize l[j]=w at*;have wK:=Qam (a:=K) (by omega);have nK:=nnT K;have lK:=Zx6 (show K<l.length by omega);repeat (first|(simp -implicitDefEqProofs only [go_sem,seval,T_zw,hA',n0,hg,hwj,wK,nK,lK,hst,hw',Int.toNat_natCast])|((with_reducible refine Qaa hd ?_ ?_ ?_);rfl;rfl))
     refine⟨⟨j+1,by omega,hA,by rw [s2];omega⟩,by simp only;omega,Qan (θ:=[(1000000,1000000)]) rfl ?_ ?_⟩
     ·simp only [s2];simp [Qaf,lkp,ren1,ren0,Qai,dF]
     ·simp only [hD];exact⟨⟨rfl,rfl,rfl,rfl,rfl,.inl ⟨rfl,rfl⟩⟩,trivial⟩
    ·rw [decide_eq_true (show l[j].t≤s by omega)]at hd;have s1:=Qyw hA hq;have s2:(Qbr s (l.take (j+1))).length=(Qbr s (l.take j)).length:=by rw [Qem hA,if_neg hq,List.append_nil]
     generalize (Qbr s (l.take j)).length=K at*;generalize l[j]=w at*;generalize hD:delE s l j=D at*;repeat (first|(simp -implicitDefEqProofs only [go_sem,seval,T_zw,hA',n0,hg,hwj,Int.toNat_natCast])|((with_reducible refine Qaa hd ?_ ?_ ?_);rfl;rfl))
     refine⟨⟨j+1,by omega,hA,by rw [s2];omega⟩,by simp only;omega,Qan (θ:=[(1000000,1000000)]) rfl ?_ ?_⟩
     ·simp only [s2];simp [Qaf,lkp,ren1,ren0,Qai,dF]
     ·simp only [s1];exact⟨⟨rfl,rfl,rfl,rfl,rfl,.inl ⟨rfl,rfl⟩⟩,trivial⟩
   ·have hA':=ltF hA;obtain rfl:j=l.length:=by omega
    have hKl:(Qbr s (l.take l.length)).length=(Qbr s l).length:=by rw [List.take_length]
    have c1:(((Qbr s l).length:Int)≤(l.length:Int))=True:=eq_true (by omega);have c2:((Qbr s l).length<l.length)=True:=eq_true hkl;have nk:=nnT (Qbr s l).length;have f1:(Nat.ble 0 (Qbr s l).length&&((Qbr s l).length+(l.length-(Qbr s l).length)).ble ((delE s l l.length).map wdPV).length)=true:=by
     rw [List.length_map,Ql3 s l l.length (Nat.le_refl _),Bool.and_eq_true];exact⟨Nat.ble_eq_true_of_le (Nat.zero_le _),Nat.ble_eq_true_of_le (by omega)⟩
    have f2:((delE s l l.length).map wdPV).take (Qbr s l).length++List.replicate (l.length-(Qbr s l).length) (PV.agg [.int .i64 0,.int .i64 0,.int .i64 0,.int .i64 0,.int .i64 0,.int .i64 0,.int .i64 0,.int .i64 0,.int .i64 0,.int .i64 0,.int .i64 0])++
      ((delE s l l.length).map wdPV).drop ((Qbr s l).length+(List.replicate (l.length-(Qbr s l).length) (PV.agg [.int .i64 0,.int .i64 0,.int .i64 0,.int .i64 0,.int .i64 0,.int .i64 0,.int .i64 0,.int .i64 0,.int .i64 0,.int .i64 0,.int .i64 0])).length)=(delB s l).map wdPV:=by
     have g1:(delE s l l.length).take (Qbr s l).length=Qbr s l:=by
      unfold delE;rw [List.take_length];exact List.take_left' rfl
     have g2:((delE s l l.length).map wdPV).drop ((Qbr s l).length+(List.replicate (l.length-(Qbr s l).length) (PV.agg [.int .i64 0,.int .i64 0,.int .i64 0,.int .i64 0,.int .i64 0,.int .i64 0,.int .i64 0,.int .i64 0,.int .i64 0,.int .i64 0,.int .i64 0])).length)=[]:=List.drop_eq_nil_of_le (by rw [List.length_map,Ql3 s l l.length (Nat.le_refl _),List.length_replicate];omega);rw [g2,←List.map_take,g1,List.append_nil];unfold delB;rw [List.map_append,List.map_replicate];rfl
    simp only [hKl];repeat (first|(simp -implicitDefEqProofs only [go_sem,seval,T_zw,hA',c1,c2,nk,f1,f2,Int.toNat_natCast]))
    refine Qbg (.inl rfl) ?_;simp -implicitDefEqProofs only [go_sem,seval];refine Qan (θ:=[(1000000,1000000)]) rfl ?_ ?_
    ·simp [Qaf,lkp,ren1,ren0,Qai,dF]
    ·exact⟨⟨rfl,rfl,rfl,rfl,rfl,.inl ⟨rfl,rfl⟩⟩,trivial⟩
theorem Zrb (s:Int):Qae Tryz.prog 46 [.slc [],dF s] (.int .i64 (-1)):=by
 have z:((0:Int)<((0:Nat):Int))=False:=eq_false (by decide);refine Qab (tb:=[]) 19 [.tmp 4] [0,1,4,5,7,8,9,16] mixed Tryz.func46 rfl (by kernel_rfl) (by kernel_rfl) (by kernel_rfl) (by kernel_rfl) ?_;repeat (first|(simp -implicitDefEqProofs only [go_sem,seval,List.length_nil]))
 refine Qch mixed [0] ?_;repeat (first|(simp -implicitDefEqProofs only [go_sem,seval,z]))
theorem Zfn (s:Int):Qae Tryz.prog 28 [.slc [],dF s] (.slc []):=by
 have hx:=Zrb s;have nm1:((-1:Int)== -1)=true:=rfl;refine Qab (tb:=[]) 42 [.tmp 4] [0,1,4,5,6,7,12,19,29] mixed Tryz.func28 rfl (by kernel_rfl) (by kernel_rfl) (by kernel_rfl) (by kernel_rfl) ?_;repeat (first|(simp -implicitDefEqProofs only [go_sem,seval,nm1])|((with_reducible refine Qaa hx ?_ ?_ ?_);rfl;rfl))
theorem Zfo (s:Int) (l:List Wd): ∃R:List Wd,(if(Qbr s l).length=l.length then l else delB s l)=Qbr s l++R∧(Qbr s l).length+R.length=l.length:=by
 have hle:=Qhk s l;by_cases h:(Qbr s l).length=l.length
 ·refine⟨[],?_,by simpa using h⟩;rw [if_pos h,List.append_nil];unfold Qbr at h ⊢;exact(List.filter_eq_self.2 (List.length_filter_eq_length_iff.1 h)).symm
 ·rw [if_neg h];refine⟨List.replicate (l.length-(Qbr s l).length) wd0,rfl,?_⟩;rw [List.length_replicate];omega
theorem Zx7 (l:List Wd):(((l.map wdPV).flatMap PV.cells).all flatc)=true:=by
 rw [List.all_flatMap,List.all_map,List.all_eq_true];intro _ _;rfl
def mvPV (l:List Wd) (s:Int):PV:=if Qa9 l=true∧0≤s∧s≤3600000 then .tup [wsPV (Qbm s l),.int .i64 0]else .tup [.slc [],.int .i64 2]
set_option maxHeartbeats 4000000 in
theorem Qrs (l:List Wd) (s:Int) (hl:l.length≤maxLen):Qae Tryz.prog 11 [wsPV l,.int .i64 s] (mvPV l s):=by
 have v1:=Qfk l hl;unfold mvPV;cases hv:Qa9 l with
 |false=>
  rw [hv]at v1;rw [if_neg (fun h=>Bool.false_ne_true h.1)];refine Qab (tb:=[]) 53 [.tmp 4,.tmp 5] [0,1,3,4,5,6,7,18,24,25,26] mixed Tryz.func11 rfl (by kernel_rfl) (by kernel_rfl) (by kernel_rfl) (by kernel_rfl) ?_;repeat (first|(simp -implicitDefEqProofs only [go_sem,seval,Bool.not_false])|((with_reducible refine Qaa v1 ?_ ?_ ?_);rfl;rfl))
 |true=>
 rw [hv]at v1;by_cases h1:0≤s
 case neg=>
  have h1':(s<0)=True:=eq_true (by omega);rw [if_neg (fun h=>h1 h.2.1)];refine Qab (tb:=[]) 53 [.tmp 4,.tmp 5] [0,1,3,4,5,6,7,18,24,25,26] mixed Tryz.func11 rfl (by kernel_rfl) (by kernel_rfl) (by kernel_rfl) (by kernel_rfl) ?_;repeat (first|(simp -implicitDefEqProofs only [go_sem,seval,Bool.not_true,h1',decide_true])|((with_reducible refine Qaa v1 ?_ ?_ ?_);rfl;rfl))
 have h1':(s<0)=False:=eq_false (by omega);by_cases h2:s≤3600000
 case neg=>
  have h2':(3600000<s)=True:=eq_true (by omega);rw [if_neg (fun h=>h2 h.2.2)];refine Qab (tb:=[]) 53 [.tmp 4,.tmp 5] [0,1,3,4,5,6,7,18,24,25,26] mixed Tryz.func11 rfl (by kernel_rfl) (by kernel_rfl) (by kernel_rfl) (by kernel_rfl) ?_;repeat (first|(simp -implicitDefEqProofs only [go_sem,seval,Bool.not_true,h1',h2',decide_true,decide_false])|((with_reducible refine Qaa v1 ?_ ?_ ?_);rfl;rfl))
 have h2':(3600000<s)=False:=eq_false (by omega);rw [if_pos ⟨rfl,h1,h2⟩];obtain⟨hvw,h8⟩:=Qb9 hv;by_cases hn:l=[]
 ·subst hn;have c1:=Q1a;have c2:=Zfn s;rw [show Qbm s []=[]from rfl];simp only [wsPV,List.map_nil]at v1 ⊢;have z:((0:Int)<((0:Nat):Int))=False:=eq_false (by decide);refine Qab (tb:=[]) 53 [.tmp 4,.tmp 5] [0,1,3,4,5,6,7,18,24,25,26] mixed Tryz.func11 rfl (by kernel_rfl) (by kernel_rfl) (by kernel_rfl) (by kernel_rfl) ?_;repeat (first|(simp -implicitDefEqProofs only [go_sem,seval,Bool.not_true,h1',h2',decide_false])|((with_reducible refine Qaa v1 ?_ ?_ ?_);rfl;rfl)|((with_reducible refine Qaa c1 ?_ ?_ ?_);rfl;rfl)|((with_reducible refine Qaa c2 ?_ ?_ ?_);rfl;rfl))
  refine Qch mixed [0] ?_;repeat (first|(simp -implicitDefEqProofs only [go_sem,seval,z]))
 have c1:=Q61 l hn (by omega);have c2:=Zq9 s l (by omega);obtain⟨R,eR,lR⟩:=Zfo s l;rw [eR]at c2;have hle:=Qhk s l;have hkv: ∀w∈Qbr s l,vWd w=true∧s<w.t:=fun w hw=>by
  obtain⟨q1,q2⟩:=List.mem_filter.1 hw;exact⟨hvw w q1,of_decide_eq_true q2⟩
 unfold Qbm;generalize hK:Qbr s l=K at*;have hfl:=Zx7 (K++R);have bl7:Nat.blt 1700 1000000=true:=rfl

 refine Qab (tb:=[(301,[],[(7,1700)]),(303,[(1000000,1700)],[])]) 53 [.tmp 4,.tmp 5] [0,1,3,4,5,6,7,18,24,25,26] mixed Tryz.func11 rfl (by kernel_rfl) (by kernel_rfl) (by kernel_rfl) (by kernel_rfl) ?_;repeat (first|(simp -implicitDefEqProofs only [go_sem,seval,Bool.not_true,h1',h2',decide_false,bl7,hfl])|((with_reducible refine Qaa v1 ?_ ?_ ?_);rfl;rfl)|((with_reducible refine Qbo c1 ?_ ?_ ?_ ?_);rfl;rfl;rfl)|((with_reducible refine Qbo c2 ?_ ?_ ?_ ?_);rfl;rfl;rfl))
 refine Qav mixed (fun i:{i:Nat // i≤K.length}=>St.of [(3,.bp 0 1 0 0),(6,.bs 1700 11 0 K.length),(24,.int .i64 (K.length:Int)),(25,.int .i64 (i.1:Int))] [(0,{els:=[.int .i64 s],esz:=1,ety:=3,fro:=0,live:=true,arr:=false}),(1700,wdB (mvdE s K i.1++R))]) (fun i=>K.length-i.1) ⟨0,Nat.zero_le _⟩ ?_ ?_
 ·simp only [Q53];refine Qan (θ:=[(0,0),(1700,1700)]) rfl ?_ ?_
  ·simp [Qaf,lkp,ren1,ren0,Qai]
  ·exact⟨⟨rfl,rfl,rfl,rfl,rfl,.inr ⟨rfl,_,_,rfl,rfl,rfl,rfl⟩⟩,⟨rfl,rfl,rfl,rfl,rfl,.inl ⟨rfl,rfl⟩⟩,trivial⟩
 ·rintro⟨i,hi⟩;simp only;by_cases hA:i<K.length
  ·have hA':=ltT hA;have n0:=nnT i;have hw:=Qfj (hkv _ (List.getElem_mem hA)).1;have hg:((mvdE s K i++R).map wdPV)[i]? =some (wdPV K[i]):=by
    rw [List.getElem?_map,List.getElem?_append_left (by rw [Qhl];exact hA),Zew hA];rfl
   have hst:((mvdE s K i++R).map wdPV).set i (PV.agg [.int .i64 K[i].lx,.int .i64 K[i].ly,.int .i64 K[i].lz,.int .i64 K[i].hx,.int .i64 K[i].hy,.int .i64 K[i].hz,.int .i64 (max 0 (K[i].f-s)),.int .i64 (K[i].t-s),.int .i64 K[i].ux,.int .i64 K[i].uy,.int .i64 K[i].uz])=(mvdE s K (i+1)++R).map wdPV:=by
    refine(wdset (mvdE s K i++R) i (mvW s K[i])).trans ?_;rw [List.set_append_left _ _ (by rw [Qhl];exact hA),Zex hA]
   have hwi:=Qam (a:=i) (by omega);have w1:IntKind.i64.wrap (K[i].f-s)=K[i].f-s:=Qag (by omega) (by omega);have w2:IntKind.i64.wrap (K[i].t-s)=K[i].t-s:=Qag (by omega) (by omega);have hlen:((mvdE s K i++R).map wdPV).length=K.length+R.length:=by rw [List.length_map,List.length_append,Qhl]
   have b1:(i<K.length+R.length)=True:=eq_true (by omega);have hss: ∀X:PV,(((mvdE s K i++R).map wdPV).set i X)[i]? =some X:=fun X=>List.getElem?_set_self (by rw [List.length_map,List.length_append,Qhl];omega);generalize hD1:mvdE s K (i+1)++R=D1 at*;generalize mvdE s K i++R=D0 at*;generalize K[i]=w at*;repeat (first|(simp -implicitDefEqProofs only [go_sem,seval,hA',n0,hg,hst,hss,List.set_set,hwi,w1,w2,Zvu,Int.toNat_natCast])|(with_reducible refine And.intro (Qac _ _ (by kernel_rfl)) ?_))
   refine⟨⟨i+1,hA⟩,by simp only;omega,Qan (θ:=[(0,0),(1700,1700)]) rfl ?_ ?_⟩
   ·simp [Qaf,lkp,ren1,ren0,Qai]
   ·simp only [hD1];exact⟨⟨rfl,rfl,rfl,rfl,rfl,.inr ⟨rfl,_,_,rfl,rfl,rfl,rfl⟩⟩,⟨rfl,rfl,rfl,rfl,rfl,.inl ⟨rfl,rfl⟩⟩,trivial⟩
  ·have hA':=ltF hA;obtain rfl:i=K.length:=by omega
   have ht:((mvdE s K K.length++R).map wdPV).take K.length=(K.map (mvW s)).map wdPV:=by
    rw [←List.map_take,List.take_left' (by rw [Qhl]),Zey]
   have hok:=Qt4 (mvdE s K K.length++R);have b2:(K.length≤(mvdE s K K.length++R).length)=True:=eq_true (by rw [List.length_append,Qhl];omega);generalize mvdE s K K.length++R=D0 at*;repeat (first|(simp -implicitDefEqProofs only [go_sem,seval,hA',ht,b2,decide_true,List.length_map]))
def sqO (W:List Wd) (p:Pg):List (List PV):=(sqA W p).flatten.map fun n=>[.int .i64 n]
theorem Q7h {W:List Wd} {p:Pg} {i k:Nat} (h:i<p.ns.length) (hk:k<(Qaj p i p.as_.length).length):(sqO W p)[befL (sqA W p) i+k]? =some [.int .i64 (sqW W (Qaj p i p.as_.length)[k])]:=by
 have h1:i<(sqA W p).length:=by rw [Qrp];exact h
 have h2:k<(sqA W p)[i].length:=by rw [Qrq _ _ h1,Qrr];exact hk
 have h3:=Qhm h1 h2;unfold sqO;rw [List.getElem?_map,h3];simp [Qrq,Zra,hk]
theorem Q7i (W:List Wd) (p:Pg):(sqO W p).length=befL (sqA W p) p.ns.length:=by
 have h:=Zez (sqA W p);rw [Qrp]at h;rw [h,sqO,List.length_map]
theorem Qzd (W:List Wd) (p:Pg) {i:Nat} (h:i<p.ns.length):befL (sqA W p) (i+1)=befL (sqA W p) i+(Qaj p i p.as_.length).length:=by
 have h1:i<(sqA W p).length:=by rw [Qrp];exact h
 rw [Qts h1,Qrq _ _ h1,Qrr]
theorem Zfp (W:List Wd) (p:Pg) {i k:Nat} (h:i<p.ns.length) (hk:k≤(Qaj p i p.as_.length).length):befL (sqA W p) i+k≤(sqO W p).length:=by
 have h1:i<(sqA W p).length:=by rw [Qrp];exact h
 have h2:=Q54 h1 (k:=k) (by rw [Qrq _ _ h1,Qrr];exact hk);rw [sqO,List.length_map];exact h2
theorem Qt6 {p:Pg} {W:List Wd} (v:Qby p=true) (hw:Qa9 W=true) (hN:p.as_.length≠0) {i:Nat} (hi:i<p.ns.length):
  Qae Tryz.prog 45 [wsPV W,Qdl (Qaj p i p.as_.length)] (.tup [.slc ((Qaj p i p.as_.length).map (alV W)),.int .i64 0])∧(Qaj p i p.as_.length).length≤256:=by
 have hV:=Qzb v hN hi;have hl:=(Qcv hV).2.2;have h8:=(Qb9 hw).2;have h:=Q6z W (Qaj p i p.as_.length) (Qpv hV) (Nat.le_trans h8 (by decide)) (by omega);rw [if_pos ⟨hw,hV⟩]at h;exact⟨h,hl⟩
theorem Qze {x y z:Int} (hx: -40000≤x∧x≤40000) (hy: -40000≤y∧y≤40000) (hz: -40000≤z∧z≤40000):
  IntKind.i64.wrap (x*x)=x*x∧IntKind.i64.wrap (y*y)=y*y∧IntKind.i64.wrap (z*z)=z*z∧IntKind.i64.wrap (x*x+y*y)=x*x+y*y∧IntKind.i64.wrap (x*x+y*y+z*z)=x*x+y*y+z*z∧0≤x*x+y*y+z*z∧x*x+y*y+z*z≤4800000000:=by
 have q: ∀a:Int, -40000≤a∧a≤40000→0≤a*a∧a*a≤1600000000:=fun a h=>by
  have h1:0≤(a+40000)*(40000-a):=Int.mul_nonneg (by omega) (by omega);have h2:(a+40000)*(40000-a)=1600000000-a*a:=by
   rw [Int.mul_sub,Int.add_mul,Int.add_mul];omega
  have h3:0≤a*a:=by
   rcases Int.le_total 0 a with h|h
   ·exact Int.mul_nonneg h h
   ·exact Int.mul_nonneg_of_nonpos_of_nonpos h h
  omega
 have a1:=q x hx;have a2:=q y hy;have a3:=q z hz;exact⟨Qag (by omega) (by omega),Qag (by omega) (by omega),Qag (by omega) (by omega),Qag (by omega) (by omega),Qag (by omega) (by omega),by omega,by omega⟩
set_option maxHeartbeats 8000000 in
theorem Zfq (p:Pg) (W:List Wd) (hf:FewP p) (v:Qby p=true) (hw:Qa9 W=true) (hN:p.as_.length≠0):Qlm Tryz.prog 47 [.rp (pgV p).cells,.rp [wsPV W]] (sqO W p):=by
 have hP:=Q7f p hf;unfold Qro at hP;rw [if_pos v,if_neg hN]at hP;have hal:=Qrb p;have hgA: ∀i,i<p.ns.length→(allL p)[i]? =some (pV (Qaj p i p.as_.length)):=fun i h=>Qrc h;have hn5:=hf.1;have hOl:=Q7i W p;have hroom:=fun i k h hk=>Zfp W p (i:=i) (k:=k) h hk;have hget:=fun i k h hk=>Q7h (W:=W) (p:=p) (i:=i) (k:=k) h hk;have hsuc:=fun i h=>Qzd W p (i:=i) h;have hone:=fun i h=>Qt6 v hw hN (i:=i) h;generalize allL p=AL at*;generalize sqO W p=OO at*;generalize hbe:befL (sqA W p)=be at*;have be0:be 0=0:=by rw [←hbe];exact Qtr _
 unfold pgV at hP ⊢;simp only [PV.cells];unfold pV at hgA;unfold Qdl at hone;refine Qow (tb:=[]) 57 [0,1,2,4,7,8,11,17,18,19,20,29,30,31,32,54] mixed Tryz.func47 rfl (by kernel_rfl) (by kernel_rfl) (by kernel_rfl) (by kernel_rfl) fun l stop=> ?_;repeat (first|(simp -implicitDefEqProofs only [go_sem,seval,hal])|((with_reducible refine Qaa hP ?_ ?_ ?_);rfl;rfl))
 refine Qav mixed (fun i:{i:Nat // i≤p.ns.length∧be i≤stop}=>St.ofG [(0,.yld l stop),(1,.rp [.slc (p.ns.map PV.str),.slc (p.hs.map v3PV),.slc (p.as_.map acV)]),(2,.rp [wsPV W]),(17,.slc AL),(18,.int .i64 (p.ns.length:Int)),(19,.int .i64 (i.1:Int))] [] (OO.take (be i.1)) (some (l,stop,OO))) (fun i=>p.ns.length-i.1) ⟨0,Nat.zero_le _,by rw [be0];exact Nat.zero_le _⟩ ?_ ?_
 ·simp only [be0,List.take_zero];refine Qa1 ?_;simp [Qaf,lkp,ren1,ren0,Qai]
 ·rintro⟨i,hi,hst⟩;simp only;by_cases hA:i<p.ns.length
  ·have hA':=ltT hA;have n0:=nnT i;have hgi:=hgA i hA;obtain⟨hAl,h256⟩:=hone i hA;have hwi:=Qam (a:=i) (by omega);repeat (first|(simp -implicitDefEqProofs only [go_sem,seval,hA',n0,hgi,Int.toNat_natCast,List.length_map])|((with_reducible refine Qaa hAl ?_ ?_ ?_);rfl;rfl))
   refine Qav mixed (fun k:{k:Nat // k≤(Qaj p i p.as_.length).length∧be i+k≤stop}=>St.ofG [(0,.yld l stop),(1,.rp [.slc (p.ns.map PV.str),.slc (p.hs.map v3PV),.slc (p.as_.map acV)]),(2,.rp [wsPV W]),(17,.slc AL),(18,.int .i64 (p.ns.length:Int)),(19,.int .i64 (i:Int)),(29,.slc ((Qaj p i p.as_.length).map (alV W))),(30,.int .i64 ((Qaj p i p.as_.length).length:Int)),(31,.int .i64 (k.1:Int))] [] (OO.take (be i+k.1)) (some (l,stop,OO))) (fun k=>(Qaj p i p.as_.length).length-k.1) ⟨0,Nat.zero_le _,by omega⟩ ?_ ?_
   ·simp only [Nat.add_zero];refine Qa1 ?_;simp [Qaf,lkp,ren1,ren0,Qai]
   ·rintro⟨k,hk,hstk⟩;simp only;by_cases hB:k<(Qaj p i p.as_.length).length
    ·skip
     have b1:=Qgi (.inl rfl) hw (posS (Qaj p i p.as_.length)[k] 0) (posS (Qaj p i p.as_.length)[k] 1) (posS (Qaj p i p.as_.length)[k] 2) (Qaj p i p.as_.length)[k].f;have b2:=Qgi (.inr (.inl rfl)) hw (posS (Qaj p i p.as_.length)[k] 0) (posS (Qaj p i p.as_.length)[k] 1) (posS (Qaj p i p.as_.length)[k] 2) (Qaj p i p.as_.length)[k].f;have b3:=Qgi (.inr (.inr rfl)) hw (posS (Qaj p i p.as_.length)[k] 0) (posS (Qaj p i p.as_.length)[k] 1) (posS (Qaj p i p.as_.length)[k] 2) (Qaj p i p.as_.length)[k].f;obtain⟨w1,w2,w3,w4,w5,q1,q2⟩:=Qze b1 b2 b3;have hg:=Q6c W (Qaj p i p.as_.length) hB;have n1:=nnT k;have hwk:=Qam (a:=k) (by omega);have hB':=ltT hB;have hgt:=hget i k hA hB;have hrm:=hroom i (k+1) hA hB;have hlen:(OO.take (be i+k)).length=be i+k:=by rw [List.length_take];omega
     have htk:OO.take (be i+(k+1))=OO.take (be i+k)++[[.int .i64 (sqW W (Qaj p i p.as_.length)[k])]]:=by rw [←Nat.add_assoc,List.take_add_one,hgt];rfl
     have hst':(be i+k≤stop)=True:=eq_true hstk;have hal2:((Qaj p i p.as_.length).map (alV W)).length=(Qaj p i p.as_.length).length:=List.length_map ..;unfold sqW at hgt htk;generalize (Qaj p i p.as_.length).map (alV W)=BL at*;generalize atW Wd.ux W (posS (Qaj p i p.as_.length)[k] 0) (posS (Qaj p i p.as_.length)[k] 1) (posS (Qaj p i p.as_.length)[k] 2) (Qaj p i p.as_.length)[k].f=x at*;generalize atW Wd.uy W (posS (Qaj p i p.as_.length)[k] 0) (posS (Qaj p i p.as_.length)[k] 1) (posS (Qaj p i p.as_.length)[k] 2) (Qaj p i p.as_.length)[k].f=y at*;generalize atW Wd.uz W (posS (Qaj p i p.as_.length)[k] 0) (posS (Qaj p i p.as_.length)[k] 1) (posS (Qaj p i p.as_.length)[k] 2) (Qaj p i p.as_.length)[k].f=z at*;generalize (Qaj p i p.as_.length).length=m at*;by_cases hlt:be i+k<stop
     ·have hlt':(be i+k<stop)=True:=eq_true hlt;repeat (first|(simp -implicitDefEqProofs only [go_sem,seval,hB',n1,hg,hwk,w1,w2,w3,w4,w5,hlen,hgt,hst',hlt',Int.toNat_natCast]))
      refine⟨⟨k+1,hB,by omega⟩,by simp only;omega,?_⟩;simp only [htk];refine Qa1 ?_;simp [Qaf,lkp,ren1,ren0,Qai]
     ·have hlt':(be i+k<stop)=False:=eq_false hlt;have hs:be i+k=stop:=by omega
      have htk2:OO.take (stop+1)=OO.take (be i+k)++[[.int .i64 (x*x+y*y+z*z)]]:=by rw [←hs,Nat.add_assoc];exact htk
      repeat (first|(simp -implicitDefEqProofs only [go_sem,seval,hB',n1,hg,w1,w2,w3,w4,w5,hlen,hgt,hst',hlt',Qfv,htk2,Int.toNat_natCast]))
    ·have hB':=ltF hB;have e1:=hsuc i hA;repeat (first|(simp -implicitDefEqProofs only [go_sem,seval,hB',hwi]))
     refine⟨⟨i+1,hA,by omega⟩,by simp only;omega,?_⟩;simp only [show be (i+1)=be i+k by omega];refine Qa1 ?_;simp [Qaf,lkp,ren1,ren0,Qai]
  ·have hA':=ltF hA;obtain rfl:i=p.ns.length:=by omega
   have e1:OO.take (be p.ns.length)=OO:=List.take_of_length_le (by omega);have e2:OO.take (stop+1)=OO:=List.take_of_length_le (by omega);rw [e1];repeat (first|(simp -implicitDefEqProofs only [go_sem,seval,hA',Qfv,e2]))
def bat0:Bat:=⟨0,0,0,0,0⟩
theorem Zrc:Qa5 bat0=true:=by decide+kernel
theorem Zfr (p:Pg) (W:List Wd):Qae Tryz.prog 32 [pgV p,wsPV W] (.fn 47 [] [.rp (pgV p).cells,.rp [wsPV W]]):=by
 unfold pgV;refine Qab (tb:=[]) 6 [.tmp 4] [0,1,2,3,4] mixed Tryz.func32 rfl (by kernel_rfl) (by kernel_rfl) (by kernel_rfl) (by kernel_rfl) ?_;repeat (first|(simp -implicitDefEqProofs only [go_sem,seval,PV.cells]))
end Go.Proofs.YtdpajapkhembcaaGreatDoor
