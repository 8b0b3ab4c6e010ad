/-
  Dbv, Dbw, QB2, QB3, QB4, QM4, QB5, QB6, Dbe, QM5, QM6 (merged for the claim).
-/
import Derived.Test.YtdpajapkhembcaaGreatDoorDbu
import Derived.Test.YtdpajapkhembcaaGreatDoorQM1
import Derived.Test.YtdpajapkhembcaaGreatDoorULD
set_option linter.unusedSimpArgs false
set_option linter.unusedVariables false
namespace Go.Dg
structure Bat where
 base:Int
 climb:Int
 drag:Int
 cap:Int
 res:Int
def Q4p (n:Int):Bool:=decide (0≤n)&&decide (n≤1000000)
def Qbc (B:Bat):Bool:=Q4p B.base&&(Q4p B.climb&&(Q4p B.drag&&(decide (0≤B.res)&&(decide (B.res≤B.cap)&&decide (B.cap≤1125899906842624)))))
def fr (n d:Int):Rat:=(n:Rat)/(d:Rat)
def axQ (q:Rat) (c:List Int) (o t b:Int):Rat:=q+sqQ c o*fr 1000 t+wayQ c o*fr (-2*b) 1+fr (b*b) 1*fr t 1000
def drQ (s:Sg) (x y z:Int):Rat:=axQ (axQ (axQ (fr 0 1) s.x s.o (s.t-s.f) x) s.y s.o (s.t-s.f) y) s.z s.o (s.t-s.f) z
def baQ (s:Sg) (B:Bat):Rat:=if(wayQ s.z s.o).num<0 then fr (B.base*(s.t-s.f)) 1000 else fr (B.base*(s.t-s.f)) 1000+wayQ s.z s.o*fr B.climb 100
def Q0n (s:Sg) (B:Bat) (x y z:Int):Rat:=baQ s B+drQ s x y z*fr B.drag 1000000
def Qoz (s:Sg) (B:Bat) (x y z:Int):Int:=upQ (Q0n s B x y z)
theorem Q4q (n:Int):fr n 1=(n:Rat):=by
 unfold fr;have:((1:Int):Rat)=1:=rfl;rw [this];grind
theorem Qyd {n d:Int} (h:d≠0):fr n d*(d:Rat)=(n:Rat):=Rat.div_mul_cancel (by exact_mod_cast h)
theorem Qvf {n:Int} (h:0<n):(0:Rat)<(n:Rat):=by exact_mod_cast h
theorem Qye {a b:Int} (h:a≤b):(a:Rat)≤(b:Rat):=Rat.intCast_le_intCast.2 h
theorem Qgr {n d:Int} (h:0≤n) (hd:0<d):0≤fr n d:=by
 have h1:=Qyd (n:=n) (show d≠0 by omega);have h2:=Qvf hd;have h3:=Qye h;simp only [Rat.intCast_zero]at h3;refine Rat.le_of_mul_le_mul_right (c:=(d:Rat)) ?_ h2
 grind
theorem Q4r {n d k:Int} (hd:0<d) (h:n≤k*d):fr n d≤(k:Rat):=by
 have h1:=Qyd (n:=n) (show d≠0 by omega);have h2:=Qvf hd;have h3:=Qye h;rw [Rat.intCast_mul]at h3;refine Rat.le_of_mul_le_mul_right (c:=(d:Rat)) ?_ h2
 grind
theorem Qvg {c:List Int} {o t b:Int} (ho:0<o) (h:axOK c o=true) (ht:0<t) (ht2:t≤3600000) (hb: -40000≤b) (hb2:b≤40000) (q:Rat):q≤axQ q c o t b∧axQ q c o t b≤q+120000000000000000:=by
 obtain⟨h1,h2,h3,h4⟩:=Q4o ho h;unfold axQ;rw [Q4q,Q4q];have u1:=Qyd (n:=1000) (show t≠0 by omega);have u2:=Qyd (n:=t) (d:=1000) (by decide);have u0:0≤fr 1000 t:=Qgr (by decide) ht;have u5:0≤fr t 1000:=Qgr (by omega) (by decide);have u3:fr 1000 t≤(1000:Int):=Q4r ht (by omega);have u4:fr t 1000≤(3600:Int):=Q4r (by decide) (by omega);have b1:=Qye hb;have b2:=Qye hb2;have e1:((-2*b:Int):Rat)= -2*(b:Rat):=by rw [Rat.intCast_mul];rfl
 have e2:((b*b:Int):Rat)=(b:Rat)*(b:Rat):=Rat.intCast_mul _ _;have e3:((1000:Int):Rat)=1000:=rfl;have e4:((3600:Int):Rat)=3600:=rfl;have e5:((-40000:Int):Rat)= -40000:=rfl;have e6:((40000:Int):Rat)=40000:=rfl;rw [e3]at u1 u2 u3;rw [e4]at u4;rw [e5]at b1;rw [e6]at b2;rw [e1,e2];have tp:=Qvf ht;have uv:fr 1000 t*fr t 1000=1:=by
  have k:fr 1000 t*fr t 1000*(t:Rat)=1*(t:Rat):=by
   have q1:fr 1000 t*fr t 1000*(t:Rat)=fr 1000 t*(t:Rat)*fr t 1000:=by rw [Rat.mul_assoc,Rat.mul_assoc,Rat.mul_comm (fr t 1000)]
   rw [q1,u1,Rat.mul_comm,u2,Rat.one_mul]
  refine Rat.le_antisymm ?_ ?_<;>refine Rat.le_of_mul_le_mul_right (c:=(t:Rat)) ?_ tp<;>rw [k]<;>exact Rat.le_refl
 generalize fr 1000 t=u at*;generalize fr t 1000=v at*;generalize (b:Rat)=w at*;generalize sqQ c o=S at*;generalize wayQ c o=y at*;clear e1 e2 tp u1 u2;have s0:0≤S:=Rat.le_trans (Qdt y) h1;have p1:=Rat.mul_le_mul_of_nonneg_right h1 u0;have p2:=Rat.mul_nonneg u0 (Qdt (y-w*v));have p3:=Rat.mul_le_mul_of_nonneg_left u3 s0;have p4:=Rat.mul_le_mul_of_nonneg_right h2 (show(0:Rat)≤1000 by decide);have w2:=Qh3 b1 b2;have p5:=Rat.mul_le_mul_of_nonneg_left u4 (Qdt w);have p6:=Rat.mul_le_mul_of_nonneg_right w2 (show(0:Rat)≤3600 by decide);have p7:2*w*y≤2*40000*2097152∧ -(2*w*y)≤2*40000*2097152:=by
  have key: ∀w:Rat, -40000≤w→w≤40000→2*w*y≤2*40000*2097152:=fun w b1 b2=>by
   have a1:=Rat.mul_nonneg (show 0≤40000-w by grind) (show 0≤2097152+y by grind);have a2:=Rat.mul_nonneg (show 0≤40000+w by grind) (show 0≤2097152-y by grind);have a3:(40000-w)*(2097152+y)+(40000+w)*(2097152-y)=2*40000*2097152-2*w*y:=by grind
   have a4:=Rat.add_nonneg a1 a2;rw [a3]at a4;exact(Rat.le_iff_sub_nonneg _ _).2 a4
  refine⟨key w b1 b2,?_⟩;have:=key (-w) (by grind) (by grind);have e:2* -w*y= -(2*w*y):=by grind
  rwa [e]at this
 have p8:u*((y-w*v)*(y-w*v))=y*y*u-2*w*y+w*w*v:=by
  have:u*((y-w*v)*(y-w*v))=y*y*u-2*w*y*(u*v)+w*w*v*(u*v):=by grind
  rw [this,uv,Rat.mul_one,Rat.mul_one]
 rw [p8]at p2;have e9:y*(-2*w)= -(2*w*y):=by grind
 rw [e9];clear p8 e9 uv h1 w2 b1 b2 hb hb2 ht2 ht h ho u3 u4 u0 u5 h3 h4;generalize 2*w*y=Z at*;generalize y*y*u=Y at*;generalize S*u=T at*;generalize w*w*v=V at*;generalize w*w=W at*;obtain⟨p7,p9⟩:=p7;constructor<;>grind
theorem Zyf {x:Rat} {n:Int} (h:x≤(n:Rat)):upQ x≤n:=by
 unfold upQ;have:=(Rat.le_iff _ _).1 h;simp only [Rat.num_intCast,Rat.den_intCast]at this;rw [Rat.neg_num,Rat.neg_den];have hd:(0:Int)<(x.den:Int):=by have:=x.den_pos;omega
 have: -n≤ -x.num/(x.den:Int):=by
  rw [Int.le_ediv_iff_mul_le hd];rw [Int.neg_mul];omega
 omega
theorem Zyg {x:Rat} (h:0≤x):0≤upQ x:=by
 unfold upQ;rw [Rat.neg_num,Rat.neg_den];have hd:(0:Int)<(x.den:Int):=by have:=x.den_pos;omega
 have hn:=Rat.num_nonneg.2 h;have: -x.num/(x.den:Int)≤0:=Int.ediv_nonpos_of_nonpos_of_neg (by omega) (by omega);omega
theorem Qdc {B:Bat} (h:Qbc B=true):(0≤B.base∧B.base≤1000000)∧(0≤B.climb∧B.climb≤1000000)∧(0≤B.drag∧B.drag≤1000000)∧0≤B.res∧B.res≤B.cap∧B.cap≤1125899906842624:=by
 simp only [Qbc,Q4p,Bool.and_eq_true,decide_eq_true_eq]at h;omega
theorem Qyf {s:Sg} {B:Bat} {x y z:Int} (hs:rngS s=true) (hx:axOK s.x s.o=true) (hy:axOK s.y s.o=true) (hz:axOK s.z s.o=true) (hB:Qbc B=true)
  (h1: -40000≤x∧x≤40000) (h2: -40000≤y∧y≤40000) (h3: -40000≤z∧z≤40000):0≤Qoz s B x y z∧Qoz s B x y z≤400000000000000000:=by
 obtain⟨B1,B2,B3, -⟩:=Qdc hB;simp only [rngS,Bool.and_eq_true,decide_eq_true_eq]at hs;obtain⟨r1,r2,r3,r4,r5⟩:=hs;have o0:0<s.o:=by omega
 have t0:0<s.t-s.f:=by omega
 have t1:s.t-s.f≤3600000:=by omega
 obtain⟨a1,a2⟩:=Qvg o0 hx t0 t1 h1.1 h1.2 (fr 0 1);obtain⟨a3,a4⟩:=Qvg o0 hy t0 t1 h2.1 h2.2 (axQ (fr 0 1) s.x s.o (s.t-s.f) x);obtain⟨a5,a6⟩:=Qvg o0 hz t0 t1 h3.1 h3.2 (axQ (axQ (fr 0 1) s.x s.o (s.t-s.f) x) s.y s.o (s.t-s.f) y);have e0:fr 0 1=0:=by rw [Q4q];rfl
 have z0:0≤fr 0 1:=by rw [e0];exact Rat.le_refl
 have dd:0≤drQ s x y z∧drQ s x y z≤360000000000000000:=by
  unfold drQ;generalize axQ (axQ (axQ (fr 0 1) s.x s.o (s.t-s.f) x) s.y s.o (s.t-s.f) y) s.z s.o (s.t-s.f) z=X3 at*;generalize axQ (axQ (fr 0 1) s.x s.o (s.t-s.f) x) s.y s.o (s.t-s.f) y=X2 at*;generalize axQ (fr 0 1) s.x s.o (s.t-s.f) x=X1 at*;refine⟨Rat.le_trans z0 (Rat.le_trans a1 (Rat.le_trans a3 a5)),?_⟩;rw [e0]at a2;clear h1 h2 h3 hB B1 B2 B3 r1 r2 r3 r4 r5 o0 t0 t1 e0 z0
  grind
 obtain⟨dn,dm⟩:=dd;clear a1 a2 a3 a4 a5 a6 z0 e0;have f0:0≤fr B.drag 1000000:=Qgr B3.1 (by decide);have f1:fr B.drag 1000000≤(1:Int):=Q4r (by decide) (by omega);have g0:0≤fr B.climb 100:=Qgr B2.1 (by decide);have g1:fr B.climb 100≤(10000:Int):=Q4r (by decide) (by omega);have k0:0≤fr (B.base*(s.t-s.f)) 1000:=Qgr (Int.mul_nonneg B1.1 (by omega)) (by decide);have k1:fr (B.base*(s.t-s.f)) 1000≤(3600000000:Int):=Q4r (by decide) (by
  have:=Int.mul_le_mul B1.2 t1 (by omega) (by decide);omega)
 obtain⟨-, -,w3,w4⟩:=Q4o o0 hz;have e1:((1:Int):Rat)=1:=rfl;have e2:((10000:Int):Rat)=10000:=rfl;have e3:((3600000000:Int):Rat)=3600000000:=rfl;rw [e1]at f1;rw [e2]at g1;rw [e3]at k1;have bn:0≤baQ s B∧baQ s B≤30000000000:=by
  unfold baQ;by_cases hw:(wayQ s.z s.o).num<0
  ·rw [if_pos hw];exact⟨k0,by grind⟩
  ·rw [if_neg hw];have w0:0≤wayQ s.z s.o:=Rat.num_nonneg.1 (by omega);have m0:=Rat.mul_nonneg w0 g0;have m1:=Rat.mul_le_mul_of_nonneg_left g1 w0;have m2:=Rat.mul_le_mul_of_nonneg_right w4 (show(0:Rat)≤10000 by decide);exact⟨by grind,by grind⟩
 have d0:=Rat.mul_nonneg dn f0;have d1:=Rat.mul_le_mul_of_nonneg_left f1 dn;unfold Qoz;refine⟨Zyg (by unfold Q0n;grind),Zyf ?_⟩;have:((400000000000000000:Int):Rat)=400000000000000000:=rfl;rw [this];unfold Q0n
 grind
theorem Qk0 {n d:Int} (h1:n.natAbs<2^64) (h2:d.natAbs<2^64) (hd:d≠0):fitQ 64 (fr n d):=Qqo h1 h2 hd
def ok64 (c:List Int):Prop:= ∀i,(c.getD i 0).natAbs<2^64
theorem Qpi {c:List Int} {o:Int} (hc:ok64 c) (ho:o.natAbs<2^64) (h0:o≠0) (i:Nat):fitQ 64 (coQ c o i):=Qqo (hc i) ho h0
theorem Zp1 {i k:Nat} (hi:1≤i) (hk:1≤k) (hi2:i≤6) (hk2:k≤6):fitQ 64 (ikQ i k):=by
 refine Qqo ?_ ?_ (by omega)
 ·have:=Nat.mul_le_mul hi2 hk2;rw [Int.natAbs_mul,Int.natAbs_natCast,Int.natAbs_natCast];omega
 ·omega
theorem Q4s {c:List Int} {o:Int} (hc:ok64 c) (ho:o.natAbs<2^64) (h0:o≠0) {i k:Nat} (hi:1≤i) (hk:1≤k) (hi2:i≤6) (hk2:k≤6):fitQ 192 (sqT c o i k):=
 Qdg (Qdg (Qpi hc ho h0 i) (Qpi hc ho h0 k)) (Zp1 hi hk hi2 hk2)
theorem Q4t {c:List Int} {o:Int} (hc:ok64 c) (ho:o.natAbs<2^64) (h0:o≠0) {i k:Nat} (hi:1≤i) (hi2:i≤6) (hk2:k≤5):fitQ 966 (sqR c o i k):=
 (Qyc k fun j hj=>Q4s hc ho h0 hi (by omega) hi2 (by omega)).mono (Nat.le_trans (Nat.add_le_add_right (Nat.mul_le_mul_right (192+1) hk2) 1) (by decide))
theorem Q4u {c:List Int} {o:Int} (hc:ok64 c) (ho:o.natAbs<2^64) (h0:o≠0) (hl:c.length≤6) {i:Nat} (hi:i≤5):fitQ 4836 (sqS c o i):=
 (Qyc i fun j hj=>Q4t hc ho h0 (by omega) (by omega) (by omega)).mono (Nat.le_trans (Nat.add_le_add_right (Nat.mul_le_mul_right (966+1) hi) 1) (by decide))
theorem Qvh {c:List Int} {o:Int} (hc:ok64 c) (ho:o.natAbs<2^64) (h0:o≠0) {n:Nat} (hn:n≤5):fitQ 326 (wyS c o n):=
 (Qyc n fun j _=>Qpi hc ho h0 _).mono (Nat.le_trans (Nat.add_le_add_right (Nat.mul_le_mul_right (64+1) hn) 1) (by decide))
end Go.Dg

namespace Go.Proofs.YtdpajapkhembcaaGreatDoor
open Go.Vl Go.RowKit Go.Dg
theorem Qbf (x:Rat): ∃b1 s1 b2 s2,ratQ x= .agg [.bool b1,.str s1,.bool b2,.str s2]:=⟨_,_,_,_,rfl⟩
def zQ:PV:= .agg [.bool false,.str ⟨#[]⟩,.bool false,.str ⟨#[]⟩]
attribute [go_sem] zQ
theorem Qih (n d:Int) (h1:i64 n) (h2:i64 d) (h0:d≠0):Qaf Tryz.prog 129 [.int .i64 n,.int .i64 d] (ratQ (fr n d)):=by
 have h:=Z3g n d h1.1 h1.2 h2.1 h2.2 h0;have e0:(n:Rat)/(d:Rat)=fr n d:=rfl;rw [e0]at h;obtain⟨b1,s1,b2,s2,e⟩:=Qbf (fr n d);rw [e]at h ⊢;refine Qab (tb:=[]) 14 [.cell 4 206] [0,1,4,5] mixed Tryz.func129 rfl (by kernel_rfl) ?_;repeat (first|simp only [go_sem,seval]|(with_reducible refine Qaa h ?_ ?_ ?_);rfl;rfl)
theorem Qii {k l:Nat} {x y:Rat} (hx:fitQ k x) (hy:fitQ l y) (hk:k+l+1≤65536):Qaf Tryz.prog 131 [ratQ x,ratQ y] (ratQ (x+y)):=by
 have h:=Zy2 hx hy hk;obtain⟨b1,s1,b2,s2,e⟩:=Qbf (x+y);obtain⟨c1,t1,c2,t2,e2⟩:=Qbf x;obtain⟨d1,u1,d2,u2,e3⟩:=Qbf y;rw [e,e2,e3]at h;rw [e,e2,e3];refine Qab (tb:=[]) 14 [.cell 4 206] [0,1,2,3,4,5] mixed Tryz.func131 rfl (by kernel_rfl) ?_;repeat (first|simp only [go_sem,seval]|(with_reducible refine Qaa h ?_ ?_ ?_);rfl;rfl)
def prQ (x:Rat) (l:List Rat) (k:Nat):Rat:=(l.take k).foldl (· * ·) x
def raB (x:Rat):Box:={els:=[ratQ x],esz:=4,ety:=206,fro:=0,live:=true,arr:=false}
theorem Q6k (x:Rat) (l:List Rat) (hl:l.length≤100) (hm: ∀k (h:k<l.length),Qaf Tryz.prog 150 [ratQ (prQ x l k),ratQ l[k]] (.tup [ratQ (prQ x l (k+1)),.int .i64 0])):
  Qaf Tryz.prog 132 [ratQ x,.slc (l.map ratQ)] (ratQ (prQ x l l.length)):=by
 obtain⟨b1,s1,b2,s2,e⟩:=Qbf x;have e0:prQ x l 0=x:=rfl;rw [e];refine Qab (tb:=[]) 24 [.cell 4 206] [0,1,2,4,6,7,9,10,11,12] mixed Tryz.func132 rfl (by kernel_rfl) ?_;repeat simp only [go_sem,seval]
 rw [←e];refine Qau mixed (fun k:{k:Nat // k≤l.length}=>St.of [(2,.bp 0 4 0 0),(4,.bp 1 4 0 0),(9,.slc (l.map ratQ)),(10,.int .i64 (l.length:Int)),(11,.int .i64 (k.1:Int))] [(0,raB (prQ x l k.1)),(1,{els:=[zQ],esz:=4,ety:=206,fro:=0,live:=true,arr:=false})]) (fun k=>l.length-k.1) ⟨0,Nat.zero_le _⟩ ?_ ?_
 ·refine Qaj (θ:=[(0,0),(1,1)]) rfl ?_ ?_
  ·simp [Qae,lkp,ren1,ren0,Qai]
  ·simp only [e0,raB];rw [e];exact⟨⟨rfl,rfl,rfl,rfl,rfl,.inr ⟨rfl,_,_,rfl,rfl,rfl,rfl⟩⟩,⟨rfl,rfl,rfl,rfl,rfl,.inr ⟨rfl,_,_,rfl,rfl,rfl,rfl⟩⟩,trivial⟩
 ·rintro⟨k,hk⟩;simp only [raB];obtain⟨c1,t1,c2,t2,e2⟩:=Qbf (prQ x l k);by_cases hA:k<l.length
  ·have hA':=ltT hA;have n0:=nnT k;have hwk:=Qak (a:=k) (by omega);have hM:=hm k hA;obtain⟨d1,u1,d2,u2,e3⟩:=Qbf (prQ x l (k+1));obtain⟨f1,v1,f2,v2,e4⟩:=Qbf l[k];have hg:(l.map ratQ)[k]? =some (.agg [.bool f1,.str v1,.bool f2,.str v2]):=by rw [List.getElem?_map,List.getElem?_eq_getElem hA,Option.map_some,e4]
   rw [e2,e3,e4]at hM;rw [e2];repeat (first|simp only [go_sem,seval,hA',n0,hwk,hg,Int.toNat_natCast]|(with_reducible refine Qaa hM ?_ ?_ ?_);rfl;rfl)
   refine⟨⟨k+1,hA⟩,by simp only;omega,Qaj (θ:=[(0,0),(1,1)]) rfl ?_ ?_⟩
   ·simp [Qae,lkp,ren1,ren0,Qai]
   ·simp only;rw [e3];exact⟨⟨rfl,rfl,rfl,rfl,rfl,.inr ⟨rfl,_,_,rfl,rfl,rfl,rfl⟩⟩,⟨rfl,rfl,rfl,rfl,rfl,.inr ⟨rfl,_,_,rfl,rfl,rfl,rfl⟩⟩,trivial⟩
  ·have hA':=ltF hA;obtain rfl:k=l.length:=by omega
   rw [e2];repeat simp only [go_sem,seval,hA']
theorem Qhn {k l:Nat} {x y:Rat} (hx:fitQ k x) (hy:fitQ l y) (hk:k+l≤65536):Qaf Tryz.prog 132 [ratQ x,.slc [ratQ y]] (ratQ (x*y)):=by
 have h:=Q6k x [y] (by simp) (fun i hi=>by
  obtain rfl:i=0:=by simp at hi;omega
  exact Q6j hx hy hk)
 exact h
theorem Zfy {k l m:Nat} {x y z:Rat} (hx:fitQ k x) (hy:fitQ l y) (hz:fitQ m z) (hk:k+l+m≤65536):Qaf Tryz.prog 132 [ratQ x,.slc [ratQ y,ratQ z]] (ratQ (x*y*z)):=by
 have h:=Q6k x [y,z] (by simp) (fun i hi=>by
  rcases(show i=0∨i=1 by simp at hi;omega)with rfl|rfl
  ·exact Q6j hx hy (by omega)
  ·exact Q6j (Qdg hx hy) hz (by omega))
 exact h
theorem Zy3 {c:List Int} {k:Nat} (h:k+1<c.length):((c.map (PV.int .i64)).drop 1)[k]? =some (.int .i64 (c.getD (k+1) 0)):=by
 rw [List.getElem?_drop,List.getElem?_map,List.getElem?_eq_getElem (by omega),List.getD_eq_getElem?_getD,List.getElem?_eq_getElem h];simp [Nat.add_comm]
set_option maxHeartbeats 1000000 in
theorem Zqb (c:List Int) (o:Int) (hc: ∀x∈c,i64 x) (h1:1≤c.length) (h6:c.length≤6) (ho:i64 o) (h0:o≠0) (hk:ok64 c):Qaf Tryz.prog 130 [.slc (c.map (PV.int .i64)),.int .i64 o] (ratQ (wayQ c o)):=by
 have hz:=Qih 0 1 (by unfold i64;omega) (by unfold i64;omega) (by decide);have e0:fr 0 1=wyS c o 0:=(by decide+kernel:fr 0 1=0);rw [e0]at hz;obtain⟨b1,s1,b2,s2,e⟩:=Qbf (wyS c o 0);rw [e]at hz;have l1:((1:Int)≤(c.length:Int))=True:=eq_true (by omega);have l2:(1≤c.length)=True:=eq_true h1;have l3:((c.map (PV.int .i64)).drop 1).take (c.length-1)=(c.map (PV.int .i64)).drop 1:=List.take_of_length_le (by simp);have l5:((c.map (PV.int .i64)).all fun x=>x.cells.length==1)=true:=by rw [List.all_map,List.all_eq_true];intro _ _;rfl
 have l6:(c.map (PV.int .i64)).take c.length=c.map (PV.int .i64):=List.take_of_length_le (by simp);have l4:((c.map (PV.int .i64)).drop 1).length=c.length-1:=by simp
 have oa:o.natAbs<2^64:=Qcb ho;refine Qab (tb:=[]) 23 [.cell 4 206] [0,1,4,5,7,10,11,12,13] mixed Tryz.func130 rfl (by kernel_rfl) ?_;repeat (first|simp only [go_sem,seval,l1,l4,l5,l6,List.length_map,Int.toNat_natCast]|(with_reducible refine Qaa hz ?_ ?_ ?_);rfl;rfl)
 rw [←e];refine Qau mixed (fun k:{k:Nat // k≤c.length-1}=>St.of [(1,.int .i64 o),(4,.bp 0 4 0 0),(5,.bp 101 4 0 0),(10,.slc ((c.map (PV.int .i64)).drop 1)),(11,.int .i64 ((c.length-1:Nat):Int)),(12,.int .i64 (k.1:Int))] [(0,{els:=[zQ],esz:=4,ety:=206,fro:=0,live:=true,arr:=false}),(101,raB (wyS c o k.1))]) (fun k=>c.length-1-k.1) ⟨0,Nat.zero_le _⟩ ?_ ?_
 ·refine Qaj (θ:=[(0,0),(101,101)]) rfl ?_ ?_
  ·simp [Qae,lkp,ren1,ren0,Qai]
  ·simp only [raB];rw [e];exact⟨⟨rfl,rfl,rfl,rfl,rfl,.inr ⟨rfl,_,_,rfl,rfl,rfl,rfl⟩⟩,⟨rfl,rfl,rfl,rfl,rfl,.inr ⟨rfl,_,_,rfl,rfl,rfl,rfl⟩⟩,trivial⟩
 ·rintro⟨k,hk2⟩;simp only [raB];obtain⟨c1,t1,c2,t2,e2⟩:=Qbf (wyS c o k);by_cases hA:k<c.length-1
  ·have hA':=ltT hA;have n0:=nnT k;have hwk:=Qak (a:=k) (by omega);have hg:=Zy3 (c:=c) (k:=k) (by omega);have hci:i64 (c.getD (k+1) 0):=by
    rw [List.getD_eq_getElem?_getD,List.getElem?_eq_getElem (by omega)];exact hc _ (List.getElem_mem _)
   have f1:=Qih (c.getD (k+1) 0) o hci ho h0;have e5:fr (c.getD (k+1) 0) o=coQ c o (k+1):=rfl;rw [e5]at f1;have f2:=Qii (Qvh hk oa h0 (n:=k) (by omega)) (Qpi hk oa h0 (k+1)) (by decide);have e6:wyS c o k+coQ c o (k+1)=wyS c o (k+1):=rfl;rw [e6]at f2;obtain⟨d1,u1,d2,u2,e3⟩:=Qbf (wyS c o (k+1));obtain⟨g1,v1,g2,v2,e4⟩:=Qbf (coQ c o (k+1));rw [e4]at f1;rw [e2,e3,e4]at f2;rw [e2];repeat (first|simp only [go_sem,seval,hA',n0,hwk,hg,Int.toNat_natCast]|(with_reducible refine Qaa f1 ?_ ?_ ?_);rfl;rfl|(with_reducible refine Qaa f2 ?_ ?_ ?_);rfl;rfl|(with_reducible refine And.intro (Qac _ _ (by kernel_rfl)) ?_))
   refine⟨⟨k+1,hA⟩,by simp only;omega,Qaj (θ:=[(0,0),(101,101)]) rfl ?_ ?_⟩
   ·simp [Qae,lkp,ren1,ren0,Qai]
   ·simp only;rw [e3];exact⟨⟨rfl,rfl,rfl,rfl,rfl,.inr ⟨rfl,_,_,rfl,rfl,rfl,rfl⟩⟩,⟨rfl,rfl,rfl,rfl,rfl,.inr ⟨rfl,_,_,rfl,rfl,rfl,rfl⟩⟩,trivial⟩
  ·have hA':=ltF hA;obtain rfl:k=c.length-1:=by omega
   have e7:wayQ c o=wyS c o (c.length-1):=rfl;rw [e7,e2];repeat simp only [go_sem,seval,hA']
theorem Qti {c:List Int} {k:Nat} (h:k<c.length):(c.map (PV.int .i64))[k]? =some (.int .i64 (c.getD k 0)):=by
 rw [List.getElem?_map,List.getElem?_eq_getElem h,List.getD_eq_getElem?_getD,List.getElem?_eq_getElem h];rfl
theorem Qvw {c:List Int} (hc: ∀x∈c,i64 x) {k:Nat} (h:k<c.length):i64 (c.getD k 0):=by
 rw [List.getD_eq_getElem?_getD,List.getElem?_eq_getElem h];exact hc _ (List.getElem_mem _)
theorem Z3h (i k:Nat):fr (((i+1:Nat):Int)*((k+1:Nat):Int)) (((i+1+(k+1)-1:Nat)):Int)=ikQ (i+1) (k+1):=by
 unfold fr ikQ;have:(((i+1+(k+1)-1:Nat)):Int)=((i+1:Nat):Int)+((k+1:Nat):Int)-1:=by omega
 rw [this]
set_option maxHeartbeats 4000000 in
theorem Z3i (c:List Int) (o:Int) (hc: ∀x∈c,i64 x) (h1:1≤c.length) (h6:c.length≤6) (ho:i64 o) (h0:o≠0) (hk:ok64 c):Qaf Tryz.prog 133 [.slc (c.map (PV.int .i64)),.int .i64 o] (ratQ (sqQ c o)):=by
 have hz:=Qih 0 1 (by unfold i64;omega) (by unfold i64;omega) (by decide);have e0:fr 0 1=sqS c o 0:=(by decide+kernel:fr 0 1=0);rw [e0]at hz;obtain⟨b1,s1,b2,s2,e⟩:=Qbf (sqS c o 0);rw [e]at hz;have oa:o.natAbs<2^64:=Qcb ho;refine Qab (tb:=[]) 46 [.cell 4 206] [0,1,4,5,6,7,12,18] mixed Tryz.func133 rfl (by kernel_rfl) ?_;repeat (first|simp -implicitDefEqProofs only [go_sem,seval]|(with_reducible refine Qaa hz ?_ ?_ ?_);rfl;rfl)
 rw [←e];refine Qau mixed (fun i:{i:Nat // i≤c.length-1}=>St.of [(0,.slc (c.map (PV.int .i64))),(1,.int .i64 o),(4,.bp 0 4 0 0),(5,.bp 101 4 0 0),(6,.int .i64 ((i.1+1:Nat):Int))] [(0,{els:=[zQ],esz:=4,ety:=206,fro:=0,live:=true,arr:=false}),(101,raB (sqS c o i.1))]) (fun i=>c.length-1-i.1) ⟨0,Nat.zero_le _⟩ ?_ ?_
 ·refine Qaj (θ:=[(0,0),(101,101)]) rfl ?_ ?_
  ·simp [Qae,lkp,ren1,ren0,Qai]
  ·simp only [raB];rw [e];exact⟨⟨rfl,rfl,rfl,rfl,rfl,.inr ⟨rfl,_,_,rfl,rfl,rfl,rfl⟩⟩,⟨rfl,rfl,rfl,rfl,rfl,.inr ⟨rfl,_,_,rfl,rfl,rfl,rfl⟩⟩,trivial⟩
 ·rintro⟨i,hi⟩;simp only;by_cases hA:i+1<c.length
  ·have hA':=ltT hA;have n0:=nnT (i+1);have hwk:=Qak (a:=i+1) (by omega);have hg:=Qti hA;have f1:=Qih (c.getD (i+1) 0) o (Qvw hc hA) ho h0;have e1:fr (c.getD (i+1) 0) o=coQ c o (i+1):=rfl;rw [e1]at f1;obtain⟨x1,x2,x3,x4,ex⟩:=Qbf (coQ c o (i+1));rw [ex]at f1;repeat simp -implicitDefEqProofs only [go_sem,seval,hA',List.length_map]
   refine Qau mixed (fun k:{k:Nat // k≤c.length-1}=>St.of [(0,.slc (c.map (PV.int .i64))),(1,.int .i64 o),(4,.bp 0 4 0 0),(5,.bp 101 4 0 0),(6,.int .i64 ((i+1:Nat):Int)),(7,.int .i64 ((k.1+1:Nat):Int))] [(0,{els:=[zQ],esz:=4,ety:=206,fro:=0,live:=true,arr:=false}),(101,raB (sqS c o i+sqR c o (i+1) k.1))]) (fun k=>c.length-1-k.1) ⟨0,Nat.zero_le _⟩ ?_ ?_
   ·refine Qaj (θ:=[(0,0),(101,101)]) rfl ?_ ?_
    ·simp [Qae,lkp,ren1,ren0,Qai]
    ·have e2:sqS c o i+sqR c o (i+1) 0=sqS c o i:=Rat.add_zero _;simp only [raB,e2];exact⟨⟨rfl,rfl,rfl,rfl,rfl,.inr ⟨rfl,_,_,rfl,rfl,rfl,rfl⟩⟩,⟨rfl,rfl,rfl,rfl,rfl,.inr ⟨rfl,_,_,rfl,rfl,rfl,rfl⟩⟩,trivial⟩
   ·rintro⟨k,hk2⟩;simp only [raB];by_cases hB:k+1<c.length
    ·have hB':=ltT hB;have n1:=nnT (k+1);have hwk2:=Qak (a:=k+1) (by omega);have hg2:=Qti hB;have f2:=Qih (c.getD (k+1) 0) o (Qvw hc hB) ho h0;have e2:fr (c.getD (k+1) 0) o=coQ c o (k+1):=rfl;rw [e2]at f2;have hmul:((i+1:Nat):Int)*((k+1:Nat):Int)≤5*5:=by
      have:=Nat.mul_le_mul (show i+1≤5 by omega) (show k+1≤5 by omega);omega
     have hmul0:0≤((i+1:Nat):Int)*((k+1:Nat):Int):=Int.mul_nonneg (by omega) (by omega);have f3:=Qih (((i+1:Nat):Int)*((k+1:Nat):Int)) ((i+1+(k+1)-1:Nat):Int) (by unfold i64;omega) (by unfold i64;omega) (by omega);rw [Z3h]at f3;have w1:IntKind.i64.wrap (((i+1:Nat):Int)*((k+1:Nat):Int))=((i+1:Nat):Int)*((k+1:Nat):Int):=Qag (by omega) (by omega);have w2:IntKind.i64.wrap (((i+1:Nat):Int)+((k+1:Nat):Int))=((i+1+(k+1):Nat):Int):=by rw [Qag (by omega) (by omega)];omega
     have w3:IntKind.i64.wrap (((i+1+(k+1):Nat):Int)-1)=((i+1+(k+1)-1:Nat):Int):=by rw [Qag (by omega) (by omega)];omega
     have t1:=Qpi hk oa h0 (i+1);have t2:=Qpi hk oa h0 (k+1);have t3:=Zp1 (i:=i+1) (k:=k+1) (by omega) (by omega) (by omega) (by omega);have f4:=Zfy t1 t2 t3 (by decide);have e4:coQ c o (i+1)*coQ c o (k+1)*ikQ (i+1) (k+1)=sqT c o (i+1) (k+1):=rfl;rw [e4]at f4;have t4:=Q4s hk oa h0 (i:=i+1) (k:=k+1) (by omega) (by omega) (by omega) (by omega);have t5:=Qgq (Q4u hk oa h0 h6 (i:=i) (by omega)) (Q4t hk oa h0 (i:=i+1) (k:=k) (by omega) (by omega) (by omega));have f5:=Qii t5 t4 (by decide);have e5:sqS c o i+sqR c o (i+1) k+sqT c o (i+1) (k+1)=sqS c o i+sqR c o (i+1) (k+1):=by rw [Rat.add_assoc];rfl
     rw [e5]at f5;obtain⟨y1,y2,y3,y4,ey⟩:=Qbf (coQ c o (k+1));obtain⟨z1,z2,z3,z4,ez⟩:=Qbf (ikQ (i+1) (k+1));obtain⟨v1,v2,v3,v4,ev⟩:=Qbf (sqT c o (i+1) (k+1));obtain⟨p1,p2,p3,p4,ep⟩:=Qbf (sqS c o i+sqR c o (i+1) k);obtain⟨q1,q2,q3,q4,eq⟩:=Qbf (sqS c o i+sqR c o (i+1) (k+1));rw [ey]at f2;rw [ez]at f3;rw [ex,ey,ez,ev]at f4;rw [ep,ev,eq]at f5;rw [ep];repeat (first|simp -implicitDefEqProofs only [go_sem,seval,hB',n0,n1,hwk2,hg,hg2,w1,w2,w3,Int.toNat_natCast,List.length_map]|(with_reducible refine Qaa f1 ?_ ?_ ?_);rfl;rfl|(with_reducible refine Qaa f2 ?_ ?_ ?_);rfl;rfl|(with_reducible refine Qaa f3 ?_ ?_ ?_);rfl;rfl|(with_reducible refine Qaa f4 ?_ ?_ ?_);rfl;rfl|(with_reducible refine Qaa f5 ?_ ?_ ?_);rfl;rfl|(with_reducible refine And.intro (Qac _ _ (by kernel_rfl)) ?_))
     refine⟨⟨k+1,by omega⟩,by simp only;omega,Qaj (θ:=[(0,0),(101,101)]) rfl ?_ ?_⟩
     ·simp [Qae,lkp,ren1,ren0,Qai]
     ·simp only;rw [eq];exact⟨⟨rfl,rfl,rfl,rfl,rfl,.inr ⟨rfl,_,_,rfl,rfl,rfl,rfl⟩⟩,⟨rfl,rfl,rfl,rfl,rfl,.inr ⟨rfl,_,_,rfl,rfl,rfl,rfl⟩⟩,trivial⟩
    ·have hB':=ltF hB;obtain rfl:k=c.length-1:=by omega
     have e2:sqS c o i+sqR c o (i+1) (c.length-1)=sqS c o (i+1):=rfl;obtain⟨p1,p2,p3,p4,ep⟩:=Qbf (sqS c o (i+1));rw [e2,ep];repeat simp -implicitDefEqProofs only [go_sem,seval,hB',hwk,List.length_map]
     refine⟨⟨i+1,by omega⟩,by simp only;omega,Qaj (θ:=[(0,0),(101,101)]) rfl ?_ ?_⟩
     ·simp [Qae,lkp,ren1,ren0,Qai]
     ·simp only [raB];rw [ep];exact⟨⟨rfl,rfl,rfl,rfl,rfl,.inr ⟨rfl,_,_,rfl,rfl,rfl,rfl⟩⟩,⟨rfl,rfl,rfl,rfl,rfl,.inr ⟨rfl,_,_,rfl,rfl,rfl,rfl⟩⟩,trivial⟩
  ·have hA':=ltF hA;obtain rfl:i=c.length-1:=by omega
   have e2:sqQ c o=sqS c o (c.length-1):=rfl;obtain⟨p1,p2,p3,p4,ep⟩:=Qbf (sqS c o (c.length-1));rw [e2];simp only [raB];rw [ep];repeat simp -implicitDefEqProofs only [go_sem,seval,hA',List.length_map]
theorem Z3j:fr (-1) 1= -1:=by decide+kernel
theorem up_v {k:Nat} {x:Rat} (hx:fitQ k x) (hk:k≤60000) (h1:0≤upQ x) (h2:upQ x≤9000000000000000000):Qaf Tryz.prog 134 [ratQ x] (.tup [.int .i64 (upQ x),.bool (decide (upQ x≤1125899906842624))]):=by
 have f1:=Qih (-1) 1 (by unfold i64;omega) (by unfold i64;omega) (by decide);rw [Z3j]at f1;have hm1:fitQ 1 (-1:Rat):=by unfold fitQ;decide+kernel
 have f2:=Qhn hx hm1 (by omega);have e:x*(-1:Rat)= -x:=by rw [Rat.mul_neg,Rat.mul_one]
 rw [e]at f2;have hnx:fitQ (k+1) (-x):=by rw [←e];exact Qdg hx hm1
 have f3:=Zfx hnx (by omega);have eu:(-x).num/((-x).den:Int)= -upQ x:=by unfold upQ;omega
 rw [eu]at f3;have f4:=Qzh (x:= -upQ x) (by
   have:(-upQ x).natAbs<2^64:=by omega
   exact Qa5 this (by decide))
 unfold Qfk at f4;rw [if_pos (by omega)]at f4;have w1:IntKind.i64.wrap (0- -upQ x)=upQ x:=by rw [Qag (by omega) (by omega)];omega
 obtain⟨a1,a2,a3,a4,ea⟩:=Qbf (-1);obtain⟨b1,b2,b3,b4,eb⟩:=Qbf x;obtain⟨c1,c2,c3,c4,ec⟩:=Qbf (-x);obtain⟨d1,d2,ed⟩: ∃d1 d2,wPV (-upQ x)= .agg [.bool d1,.str d2]:=⟨_,_,rfl⟩;rw [ea]at f1;rw [ea,eb,ec]at f2;rw [ec,ed]at f3;rw [ed]at f4;rw [eb];generalize upQ x=U at*;refine Qab (tb:=[]) 32 [.tmp 2,.tmp 3] [0,1,2,3,4,5,7,8] mixed Tryz.func134 rfl (by kernel_rfl) ?_;repeat (first|simp -implicitDefEqProofs only [go_sem,seval,w1]|(with_reducible refine Qaa f1 ?_ ?_ ?_);rfl;rfl|(with_reducible refine Qaa f2 ?_ ?_ ?_);rfl;rfl|(with_reducible refine Qaa f3 ?_ ?_ ?_);rfl;rfl|(with_reducible refine Qaa f4 ?_ ?_ ?_);rfl;rfl|(with_reducible refine And.intro (Qac _ _ (by kernel_rfl)) ?_))
def baPV (B:Bat):PV:= .agg [.int .i64 B.base,.int .i64 B.climb,.int .i64 B.drag,.int .i64 B.cap,.int .i64 B.res]
attribute [go_sem] baPV
structure okBat (B:Bat):Prop where
 base:i64 B.base
 climb:i64 B.climb
 drag:i64 B.drag
 cap:i64 B.cap
 res:i64 B.res
theorem Qvx {c:List Int} (h: ∀x∈c,i64 x):ok64 c:=fun i=>by
 by_cases hi:i<c.length
 ·exact Qcb (Qvw h hi)
 ·rw [List.getD_eq_getElem?_getD,List.getElem?_eq_none (by omega)];decide
theorem Qho {c:List Int} {o t b:Int} {k:Nat} {D:Rat} (hD:fitQ k D) (hk:k≤20000) (hc: ∀x∈c,i64 x) (h1:1≤c.length) (h6:c.length≤6) (ho:i64 o) (h0:o≠0) (ht:0<t) (ht2:t≤3600000) (hb: -40000≤b∧b≤40000):
  ∃q1 q2 q3 q4 q5 q6 q7 q8 q9 q10 q11:Rat,
   Qaf Tryz.prog 133 [.slc (c.map (PV.int .i64)),.int .i64 o] (ratQ q1)∧Qaf Tryz.prog 129 [.int .i64 1000,.int .i64 t] (ratQ q2)∧Qaf Tryz.prog 132 [ratQ q1,.slc [ratQ q2]] (ratQ q3)∧Qaf Tryz.prog 131 [ratQ D,ratQ q3] (ratQ q4)∧
   Qaf Tryz.prog 130 [.slc (c.map (PV.int .i64)),.int .i64 o] (ratQ q5)∧Qaf Tryz.prog 129 [.int .i64 (-2*b),.int .i64 1] (ratQ q6)∧Qaf Tryz.prog 132 [ratQ q5,.slc [ratQ q6]] (ratQ q7)∧Qaf Tryz.prog 131 [ratQ q4,ratQ q7] (ratQ q8)∧
   Qaf Tryz.prog 129 [.int .i64 (b*b),.int .i64 1] (ratQ q9)∧Qaf Tryz.prog 129 [.int .i64 t,.int .i64 1000] (ratQ q10)∧Qaf Tryz.prog 132 [ratQ q9,.slc [ratQ q10]] (ratQ q11)∧Qaf Tryz.prog 131 [ratQ q8,ratQ q11] (ratQ (axQ D c o t b))∧fitQ (k+5421) (axQ D c o t b):=by
 have ok:=Qvx hc;have oa:=Qcb ho;have hbb:0≤b*b∧b*b≤1600000000:=by
  have h1:=Int.mul_le_mul (a:=(b.natAbs:Int)) (b:=(b.natAbs:Int)) (c:=40000) (d:=40000) (by omega) (by omega) (by omega) (by omega);have h2:(b.natAbs:Int)*(b.natAbs:Int)=b*b:=Int.natAbs_mul_self' b;rw [h2]at h1;have h3:0≤b*b:=by rw [←h2];exact Int.mul_nonneg (by omega) (by omega)
  omega
 have t1:fitQ 4836 (sqQ c o):=Q4u ok oa h0 h6 (by omega);have t2:fitQ 64 (fr 1000 t):=Qk0 (by decide) (by omega) (by omega);have t5:fitQ 326 (wayQ c o):=Qvh ok oa h0 (by omega);have t6:fitQ 64 (fr (-2*b) 1):=Qk0 (by omega) (by decide) (by decide);have t9:fitQ 64 (fr (b*b) 1):=Qk0 (by omega) (by decide) (by decide);have t10:fitQ 64 (fr t 1000):=Qk0 (by omega) (by decide) (by decide);have s1:=Qgq hD (Qdg t1 t2);have s2:=Qgq s1 (Qdg t5 t6);have s3:=Qgq s2 (Qdg t9 t10);exact⟨sqQ c o,fr 1000 t,_,_,wayQ c o,fr (-2*b) 1,_,_,fr (b*b) 1,fr t 1000,_,
  Z3i c o hc h1 h6 ho h0 ok,Qih 1000 t (by unfold i64;omega) (by unfold i64;omega) (by omega),Qhn t1 t2 (by omega),Qii hD (Qdg t1 t2) (by omega),
  Zqb c o hc h1 h6 ho h0 ok,Qih (-2*b) 1 (by unfold i64;omega) (by unfold i64;omega) (by decide),Qhn t5 t6 (by omega),Qii s1 (Qdg t5 t6) (by omega),
  Qih (b*b) 1 (by unfold i64;omega) (by unfold i64;omega) (by decide),Qih t 1000 (by unfold i64;omega) (by unfold i64;omega) (by decide),Qhn t9 t10 (by omega),Qii s2 (Qdg t9 t10) (by omega),s3.mono (by omega)⟩
def drN (s:Sg) (x y z:Int):Nat→Rat
 |0=>fr 0 1
 |1=>axQ (fr 0 1) s.x s.o (s.t-s.f) x
 |2=>axQ (axQ (fr 0 1) s.x s.o (s.t-s.f) x) s.y s.o (s.t-s.f) y
 |_=>drQ s x y z
theorem Z3k:((0:Nat):Int)=0:=rfl
theorem Z3l:((1:Nat):Int)=1:=rfl
theorem Z3m:((2:Nat):Int)=2:=rfl
theorem Qi6:((3:Nat):Int)=3:=rfl
theorem Qq8:IntKind.i64.wrap 1=1:=rfl
theorem Qvy:IntKind.i64.wrap 2=2:=rfl
theorem Q6l:IntKind.i64.wrap 3=3:=rfl
theorem Zr9 {b:Int} (hb: -40000≤b∧b≤40000):0≤b*b∧b*b≤1600000000:=by
 have h1:=Int.mul_le_mul (a:=(b.natAbs:Int)) (b:=(b.natAbs:Int)) (c:=40000) (d:=40000) (by omega) (by omega) (by omega) (by omega);have h2:(b.natAbs:Int)*(b.natAbs:Int)=b*b:=Int.natAbs_mul_self' b;rw [h2]at h1;have h3:0≤b*b:=by rw [←h2];exact Int.mul_nonneg (by omega) (by omega)
 omega
set_option maxHeartbeats 16000000 in
set_option maxRecDepth 100000 in
theorem Zsa (s:Sg) (B:Bat) (x y z:Int) (hs:okSg s) (hv:Qbm s=true) (hB:Qbc B=true) (hx: -40000≤x∧x≤40000) (hy: -40000≤y∧y≤40000) (hz: -40000≤z∧z≤40000):
  Qaf Tryz.prog 110 [sgPV s,baPV B,.agg [.int .i64 x,.int .i64 y,.int .i64 z]] (.tup [.int .i64 (Qoz s B x y z),.bool (decide (Qoz s B x y z≤1125899906842624))]):=by
 obtain⟨⟨v1,v2,v3,v4,v5⟩,hax, -⟩:=Qbv hv;have hvx:=hax s.x (by simp [Sg.ax]);have hvy:=hax s.y (by simp [Sg.ax]);have hvz:=hax s.z (by simp [Sg.ax]);have hcx:=hs.c s.x (by simp [Sg.ax]);have hcy:=hs.c s.y (by simp [Sg.ax]);have hcz:=hs.c s.z (by simp [Sg.ax]);have hbx:=Zr9 hx;have hby:=Zr9 hy;have hbz:=Zr9 hz;obtain⟨B1,B2,B3, -⟩:=Qdc hB;have hwt:IntKind.i64.wrap (s.t-s.f)=s.t-s.f:=Qag (by omega) (by omega);have hbt:0≤B.base*(s.t-s.f)∧B.base*(s.t-s.f)≤1000000*3600000:=⟨Int.mul_nonneg B1.1 (by omega),Int.mul_le_mul B1.2 (by omega) (by omega) (by decide)⟩;have hwbt:IntKind.i64.wrap (B.base*(s.t-s.f))=B.base*(s.t-s.f):=Qag (by omega) (by omega);have g1:=Qih (B.base*(s.t-s.f)) 1000 (by unfold i64;omega) (by unfold i64;omega) (by decide);have g2:=Zqb s.z s.o hcz (Qbh hvz).1 (Qbh hvz).2.1 hs.o (by omega) (Qvx hcz);have g3:=Qih B.climb 100 (by unfold i64;omega) (by unfold i64;omega) (by decide);have ft1:fitQ 64 (fr (B.base*(s.t-s.f)) 1000):=Qk0 (by omega) (by decide) (by decide);have ft2:fitQ 326 (wayQ s.z s.o):=Qvh (Qvx hcz) (Qcb hs.o) (by omega) (by have:=(Qbh hvz).2.1;omega);have ft3:fitQ 64 (fr B.climb 100):=Qk0 (by omega) (by decide) (by decide);have g4:=Qhn ft2 ft3 (by decide);have g5:=Qii ft1 (Qdg ft2 ft3) (by decide);have g6:=Qih 0 1 (by unfold i64;omega) (by unfold i64;omega) (by decide);have ft6:fitQ 64 (fr 0 1):=Qk0 (by decide) (by decide) (by decide);have ftb:fitQ 455 (baQ s B):=by
  unfold baQ;split
  ·exact ft1.mono (by decide)
  ·exact Qgq ft1 (Qdg ft2 ft3)
 have hD1:fitQ 5485 (drN s x y z 1):=(Qho ft6 (by decide) hcx (Qbh hvx).1 (Qbh hvx).2.1 hs.o (by omega) (show 0<s.t-s.f by omega) (by omega) hx).elim fun _ h=>by obtain⟨_,_,_,_,_,_,_,_,_,_,_,_,_,_,_,_,_,_,_,_,_,_,h⟩:=h;exact h
 have hD2:fitQ 10906 (drN s x y z 2):=(Qho hD1 (by decide) hcy (Qbh hvy).1 (Qbh hvy).2.1 hs.o (by omega) (show 0<s.t-s.f by omega) (by omega) hy).elim fun _ h=>by obtain⟨_,_,_,_,_,_,_,_,_,_,_,_,_,_,_,_,_,_,_,_,_,_,h⟩:=h;exact h
 have hD3:fitQ 16327 (drQ s x y z):=(Qho hD2 (by decide) hcz (Qbh hvz).1 (Qbh hvz).2.1 hs.o (by omega) (show 0<s.t-s.f by omega) (by omega) hz).elim fun _ h=>by obtain⟨_,_,_,_,_,_,_,_,_,_,_,_,_,_,_,_,_,_,_,_,_,_,h⟩:=h;exact h
 have g7:=Qih B.drag 1000000 (by unfold i64;omega) (by unfold i64;omega) (by decide);have ft7:fitQ 64 (fr B.drag 1000000):=Qk0 (by omega) (by decide) (by decide);have g8:=Qhn hD3 ft7 (by decide);have g9:=Qii ftb (Qdg hD3 ft7) (by decide);obtain⟨c1,c2⟩:=Qyf (by unfold rngS;simp only [Bool.and_eq_true,decide_eq_true_eq];omega) hvx hvy hvz hB hx hy hz;have eC:baQ s B+drQ s x y z*fr B.drag 1000000=Q0n s B x y z:=rfl;have ftC:=Qgq ftb (Qdg hD3 ft7);rw [eC]at g9 ftC;have g10:=up_v ftC (by decide) c1 (by unfold Qoz at c2;omega);have eI:upQ (Q0n s B x y z)=Qoz s B x y z:=rfl;rw [eI]at g10;have d3:drN s x y z 3=drQ s x y z:=rfl;have d0:drN s x y z 0=fr 0 1:=rfl;have hsg:sgPV s= .agg [.int .i64 s.f,.int .i64 s.t,.int .i64 s.o,.slc (s.x.map (PV.int .i64)),.slc (s.y.map (PV.int .i64)),.slc (s.z.map (PV.int .i64))]:=rfl;refine Zq1 109 [.tmp 6,.tmp 7] Tryz.func110 rfl (by kernel_rfl) (by kernel_rfl) (by kernel_rfl) (by kernel_rfl) ?_;refine Qit mixed [] [0,1,2,3,4,5,6,7,8,9,10,11,13,32,57,58,59] 4 rfl (St.of [(3,.bp 0 6 0 0),(4,.bp 1 5 0 0),(5,.bp 2 3 0 0),(8,.int .i64 (s.t-s.f)),(9,.bp 205 4 0 0)] [(0,{els:=[sgPV s],esz:=6,ety:=121,fro:=0,live:=true,arr:=false}),(1,{els:=[baPV B],esz:=5,ety:=28,fro:=0,live:=true,arr:=false}),(2,{els:=[.agg [.int .i64 x,.int .i64 y,.int .i64 z]],esz:=3,ety:=69,fro:=0,live:=true,arr:=false}),(205,raB (baQ s B))]) ?_ ?_
 ·simp only [codes,Qgi,List.take_succ_cons,List.take_zero,List.drop_succ_cons,List.drop_zero,List.foldr_cons,List.foldr_nil];clear hD1 hD2 hD3 g6 g7 g8 g9 g10 ftC eC;unfold baQ;by_cases hn:(wayQ s.z s.o).num<0
  ·rw [if_pos hn];have hn':=decide_eq_true hn;generalize wayQ s.z s.o=W at*;generalize fr (B.base*(s.t-s.f)) 1000=E1 at*;unfold ratQ Qdz at g1 g2;simp only [hn']at g2;repeat (first|simp -implicitDefEqProofs only [go_sem,seval,hwt,hwbt]|(with_reducible refine Qaa g1 ?_ ?_ ?_);rfl;rfl|(with_reducible refine Qaa g2 ?_ ?_ ?_);rfl;rfl)
   refine Qaj (θ:=[(0,0),(1,1),(2,2),(205,205)]) rfl ?_ ?_
   ·simp [Qae,lkp,ren1,ren0,Qai]
   ·simp only [raB,ratQ,Qdz];exact⟨⟨rfl,rfl,rfl,rfl,rfl,.inr ⟨rfl,_,_,rfl,rfl,rfl,rfl⟩⟩,⟨rfl,rfl,rfl,rfl,rfl,.inr ⟨rfl,_,_,rfl,rfl,rfl,rfl⟩⟩,⟨rfl,rfl,rfl,rfl,rfl,.inr ⟨rfl,_,_,rfl,rfl,rfl,rfl⟩⟩,⟨rfl,rfl,rfl,rfl,rfl,.inr ⟨rfl,_,_,rfl,rfl,rfl,rfl⟩⟩,trivial⟩
  ·rw [if_neg hn];have hn':=decide_eq_false hn;generalize fr (B.base*(s.t-s.f)) 1000+wayQ s.z s.o*fr B.climb 100=E3 at*;generalize wayQ s.z s.o*fr B.climb 100=E2 at*;generalize wayQ s.z s.o=W at*;generalize fr (B.base*(s.t-s.f)) 1000=E1 at*;generalize fr B.climb 100=E4 at*;unfold ratQ Qdz at g1 g2 g3 g4 g5;simp only [hn']at g2 g4;repeat (first|simp -implicitDefEqProofs only [go_sem,seval,hwt,hwbt]|(with_reducible refine Qaa g1 ?_ ?_ ?_);rfl;rfl|(with_reducible refine Qaa g2 ?_ ?_ ?_);rfl;rfl|(with_reducible refine Qaa g3 ?_ ?_ ?_);rfl;rfl|(with_reducible refine Qaa g4 ?_ ?_ ?_);rfl;rfl|(with_reducible refine Qaa g5 ?_ ?_ ?_);rfl;rfl|(with_reducible refine And.intro (Qac _ _ (by kernel_rfl)) ?_))
   refine Qaj (θ:=[(0,0),(1,1),(2,2),(205,205)]) rfl ?_ ?_
   ·simp [Qae,lkp,ren1,ren0,Qai]
   ·simp only [raB,ratQ,Qdz];exact⟨⟨rfl,rfl,rfl,rfl,rfl,.inr ⟨rfl,_,_,rfl,rfl,rfl,rfl⟩⟩,⟨rfl,rfl,rfl,rfl,rfl,.inr ⟨rfl,_,_,rfl,rfl,rfl,rfl⟩⟩,⟨rfl,rfl,rfl,rfl,rfl,.inr ⟨rfl,_,_,rfl,rfl,rfl,rfl⟩⟩,⟨rfl,rfl,rfl,rfl,rfl,.inr ⟨rfl,_,_,rfl,rfl,rfl,rfl⟩⟩,trivial⟩
 ·refine v_go (tb:=[]) (ks:=[0,1,2,3,4,5,6,7,8,9,10,11,13,32,57,58,59]) mixed ?_;simp only [codes,Qgi,List.take_succ_cons,List.take_zero,List.drop_succ_cons,List.drop_zero,List.foldr_cons,List.foldr_nil];clear g1 g2 g3 g4 g5 ft1 ft2 ft3 hwbt;rw [←d0]at g6 ft6;generalize hE:baQ s B=E at*;generalize hG:drN s x y z 0=G at*;unfold ratQ Qdz at g6;simp only [raB];unfold ratQ Qdz;repeat (first|simp -implicitDefEqProofs only [go_sem,seval]|(with_reducible refine Qaa g6 ?_ ?_ ?_);rfl;rfl)
  refine Qau mixed (fun k:{k:Nat // k≤3}=>St.of [(3,.bp 0 6 0 0),(4,.bp 1 5 0 0),(8,.int .i64 (s.t-s.f)),(9,.bp 205 4 0 0),(11,.bp 601 4 0 0),(57,.agg [.slc (s.x.map (PV.int .i64)),.int .i64 x,.slc (s.y.map (PV.int .i64)),.int .i64 y,.slc (s.z.map (PV.int .i64)),.int .i64 z]),(58,.int .i64 (k.1:Int))] [(0,{els:=[sgPV s],esz:=6,ety:=121,fro:=0,live:=true,arr:=false}),(1,{els:=[baPV B],esz:=5,ety:=28,fro:=0,live:=true,arr:=false}),(205,raB E),(601,raB (drN s x y z k.1))]) (fun k=>3-k.1) ⟨0,Nat.zero_le _⟩ ?_ ?_
  ·refine Qaj (θ:=[(0,0),(1,1),(205,205),(601,601)]) rfl ?_ ?_
   ·simp [Qae,lkp,ren1,ren0,Qai]
   ·simp only [hG,raB,ratQ,Qdz];exact⟨⟨rfl,rfl,rfl,rfl,rfl,.inr ⟨rfl,_,_,rfl,rfl,rfl,rfl⟩⟩,⟨rfl,rfl,rfl,rfl,rfl,.inr ⟨rfl,_,_,rfl,rfl,rfl,rfl⟩⟩,⟨rfl,rfl,rfl,rfl,rfl,.inr ⟨rfl,_,_,rfl,rfl,rfl,rfl⟩⟩,⟨rfl,rfl,rfl,rfl,rfl,.inr ⟨rfl,_,_,rfl,rfl,rfl,rfl⟩⟩,trivial⟩
  ·subst hG;rintro⟨k,hk⟩;rcases(show k=0∨k=1∨k=2∨k=3 by omega)with rfl|rfl|rfl|rfl
   ·skip
    have hA':((0:Int)<3)=True:=eq_true (by decide);obtain⟨q1,q2,q3,q4,q5,q6,q7,q8,q9,q10,q11,f1,f2,f3,f4,f5,f6,f7,f8,f9,f10,f11,f12,fD⟩:=Qho (c:=s.x) (o:=s.o) (t:=s.t-s.f) (b:=x) (D:=drN s x y z 0) ft6 (by decide) hcx (Qbh hvx).1 (Qbh hvx).2.1 hs.o (by omega) (by omega) (by omega) (by omega);have eD:axQ (drN s x y z 0) s.x s.o (s.t-s.f) x=drN s x y z (0+1):=rfl;rw [eD]at f12;have hwb:IntKind.i64.wrap (-2*x)= -2*x:=Qag (by omega) (by omega);have hwc:IntKind.i64.wrap (x*x)=x*x:=by have:=hbx;exact Qag (by omega) (by omega)
    generalize hq0:drN s x y z 0=D0 at*;generalize hq1:drN s x y z (0+1)=D1 at*;simp only [raB];unfold ratQ Qdz at f1 f2 f3 f4 f5 f6 f7 f8 f9 f10 f11 f12 ⊢;repeat (first|simp -implicitDefEqProofs only [go_sem,seval,hA',Z3k,Qi6]|(with_reducible refine Qaa f1 ?_ ?_ ?_);rfl;rfl|(with_reducible refine Qaa f2 ?_ ?_ ?_);rfl;rfl|(with_reducible refine Qaa f3 ?_ ?_ ?_);rfl;rfl|(with_reducible refine Qaa f4 ?_ ?_ ?_);rfl;rfl|(with_reducible refine And.intro (Qac _ _ (by kernel_rfl)) ?_))
    repeat (first|simp -implicitDefEqProofs only [go_sem,seval,hwb,hwc]|(with_reducible refine Qaa f5 ?_ ?_ ?_);rfl;rfl|(with_reducible refine Qaa f6 ?_ ?_ ?_);rfl;rfl|(with_reducible refine Qaa f7 ?_ ?_ ?_);rfl;rfl|(with_reducible refine Qaa f8 ?_ ?_ ?_);rfl;rfl|(with_reducible refine And.intro (Qac _ _ (by kernel_rfl)) ?_))
    repeat (first|simp -implicitDefEqProofs only [go_sem,seval,Qq8]|(with_reducible refine Qaa f9 ?_ ?_ ?_);rfl;rfl|(with_reducible refine Qaa f10 ?_ ?_ ?_);rfl;rfl|(with_reducible refine Qaa f11 ?_ ?_ ?_);rfl;rfl|(with_reducible refine Qaa f12 ?_ ?_ ?_);rfl;rfl|(with_reducible refine And.intro (Qac _ _ (by kernel_rfl)) ?_))
    refine⟨⟨0+1,by omega⟩,by simp only;omega,Qaj (θ:=[(0,0),(1,1),(205,205),(601,601)]) rfl ?_ ?_⟩
    ·simp [Qae,lkp,ren1,ren0,Qai]
    ·have hq2:drN s x y z 1=D1:=hq1;simp only [Nat.reduceAdd,hq2,raB,ratQ,Qdz];exact⟨⟨rfl,rfl,rfl,rfl,rfl,.inr ⟨rfl,_,_,rfl,rfl,rfl,rfl⟩⟩,⟨rfl,rfl,rfl,rfl,rfl,.inr ⟨rfl,_,_,rfl,rfl,rfl,rfl⟩⟩,⟨rfl,rfl,rfl,rfl,rfl,.inr ⟨rfl,_,_,rfl,rfl,rfl,rfl⟩⟩,⟨rfl,rfl,rfl,rfl,rfl,.inr ⟨rfl,_,_,rfl,rfl,rfl,rfl⟩⟩,trivial⟩
   ·skip
    have hA':((1:Int)<3)=True:=eq_true (by decide);obtain⟨q1,q2,q3,q4,q5,q6,q7,q8,q9,q10,q11,f1,f2,f3,f4,f5,f6,f7,f8,f9,f10,f11,f12,fD⟩:=Qho (c:=s.y) (o:=s.o) (t:=s.t-s.f) (b:=y) (D:=drN s x y z 1) hD1 (by decide) hcy (Qbh hvy).1 (Qbh hvy).2.1 hs.o (by omega) (by omega) (by omega) (by omega);have eD:axQ (drN s x y z 1) s.y s.o (s.t-s.f) y=drN s x y z (1+1):=rfl;rw [eD]at f12;have hwb:IntKind.i64.wrap (-2*y)= -2*y:=Qag (by omega) (by omega);have hwc:IntKind.i64.wrap (y*y)=y*y:=by have:=hby;exact Qag (by omega) (by omega)
    generalize hq0:drN s x y z 1=D0 at*;generalize hq1:drN s x y z (1+1)=D1 at*;simp only [raB];unfold ratQ Qdz at f1 f2 f3 f4 f5 f6 f7 f8 f9 f10 f11 f12 ⊢;repeat (first|simp -implicitDefEqProofs only [go_sem,seval,hA',Z3l,Qi6]|(with_reducible refine Qaa f1 ?_ ?_ ?_);rfl;rfl|(with_reducible refine Qaa f2 ?_ ?_ ?_);rfl;rfl|(with_reducible refine Qaa f3 ?_ ?_ ?_);rfl;rfl|(with_reducible refine Qaa f4 ?_ ?_ ?_);rfl;rfl|(with_reducible refine And.intro (Qac _ _ (by kernel_rfl)) ?_))
    repeat (first|simp -implicitDefEqProofs only [go_sem,seval,hwb,hwc]|(with_reducible refine Qaa f5 ?_ ?_ ?_);rfl;rfl|(with_reducible refine Qaa f6 ?_ ?_ ?_);rfl;rfl|(with_reducible refine Qaa f7 ?_ ?_ ?_);rfl;rfl|(with_reducible refine Qaa f8 ?_ ?_ ?_);rfl;rfl|(with_reducible refine And.intro (Qac _ _ (by kernel_rfl)) ?_))
    repeat (first|simp -implicitDefEqProofs only [go_sem,seval,Qvy]|(with_reducible refine Qaa f9 ?_ ?_ ?_);rfl;rfl|(with_reducible refine Qaa f10 ?_ ?_ ?_);rfl;rfl|(with_reducible refine Qaa f11 ?_ ?_ ?_);rfl;rfl|(with_reducible refine Qaa f12 ?_ ?_ ?_);rfl;rfl|(with_reducible refine And.intro (Qac _ _ (by kernel_rfl)) ?_))
    refine⟨⟨1+1,by omega⟩,by simp only;omega,Qaj (θ:=[(0,0),(1,1),(205,205),(601,601)]) rfl ?_ ?_⟩
    ·simp [Qae,lkp,ren1,ren0,Qai]
    ·have hq2:drN s x y z 2=D1:=hq1;simp only [Nat.reduceAdd,hq2,raB,ratQ,Qdz];exact⟨⟨rfl,rfl,rfl,rfl,rfl,.inr ⟨rfl,_,_,rfl,rfl,rfl,rfl⟩⟩,⟨rfl,rfl,rfl,rfl,rfl,.inr ⟨rfl,_,_,rfl,rfl,rfl,rfl⟩⟩,⟨rfl,rfl,rfl,rfl,rfl,.inr ⟨rfl,_,_,rfl,rfl,rfl,rfl⟩⟩,⟨rfl,rfl,rfl,rfl,rfl,.inr ⟨rfl,_,_,rfl,rfl,rfl,rfl⟩⟩,trivial⟩
   ·skip
    have hA':((2:Int)<3)=True:=eq_true (by decide);obtain⟨q1,q2,q3,q4,q5,q6,q7,q8,q9,q10,q11,f1,f2,f3,f4,f5,f6,f7,f8,f9,f10,f11,f12,fD⟩:=Qho (c:=s.z) (o:=s.o) (t:=s.t-s.f) (b:=z) (D:=drN s x y z 2) hD2 (by decide) hcz (Qbh hvz).1 (Qbh hvz).2.1 hs.o (by omega) (by omega) (by omega) (by omega);have eD:axQ (drN s x y z 2) s.z s.o (s.t-s.f) z=drN s x y z (2+1):=rfl;rw [eD]at f12;have hwb:IntKind.i64.wrap (-2*z)= -2*z:=Qag (by omega) (by omega);have hwc:IntKind.i64.wrap (z*z)=z*z:=by have:=hbz;exact Qag (by omega) (by omega)
    generalize hq0:drN s x y z 2=D0 at*;generalize hq1:drN s x y z (2+1)=D1 at*;simp only [raB];unfold ratQ Qdz at f1 f2 f3 f4 f5 f6 f7 f8 f9 f10 f11 f12 ⊢;repeat (first|simp -implicitDefEqProofs only [go_sem,seval,hA',Z3m,Qi6]|(with_reducible refine Qaa f1 ?_ ?_ ?_);rfl;rfl|(with_reducible refine Qaa f2 ?_ ?_ ?_);rfl;rfl|(with_reducible refine Qaa f3 ?_ ?_ ?_);rfl;rfl|(with_reducible refine Qaa f4 ?_ ?_ ?_);rfl;rfl|(with_reducible refine And.intro (Qac _ _ (by kernel_rfl)) ?_))
    repeat (first|simp -implicitDefEqProofs only [go_sem,seval,hwb,hwc]|(with_reducible refine Qaa f5 ?_ ?_ ?_);rfl;rfl|(with_reducible refine Qaa f6 ?_ ?_ ?_);rfl;rfl|(with_reducible refine Qaa f7 ?_ ?_ ?_);rfl;rfl|(with_reducible refine Qaa f8 ?_ ?_ ?_);rfl;rfl|(with_reducible refine And.intro (Qac _ _ (by kernel_rfl)) ?_))
    repeat (first|simp -implicitDefEqProofs only [go_sem,seval,Q6l]|(with_reducible refine Qaa f9 ?_ ?_ ?_);rfl;rfl|(with_reducible refine Qaa f10 ?_ ?_ ?_);rfl;rfl|(with_reducible refine Qaa f11 ?_ ?_ ?_);rfl;rfl|(with_reducible refine Qaa f12 ?_ ?_ ?_);rfl;rfl|(with_reducible refine And.intro (Qac _ _ (by kernel_rfl)) ?_))
    refine⟨⟨2+1,by omega⟩,by simp only;omega,Qaj (θ:=[(0,0),(1,1),(205,205),(601,601)]) rfl ?_ ?_⟩
    ·simp [Qae,lkp,ren1,ren0,Qai]
    ·have hq2:drN s x y z 3=D1:=hq1;simp only [Nat.reduceAdd,hq2,raB,ratQ,Qdz];exact⟨⟨rfl,rfl,rfl,rfl,rfl,.inr ⟨rfl,_,_,rfl,rfl,rfl,rfl⟩⟩,⟨rfl,rfl,rfl,rfl,rfl,.inr ⟨rfl,_,_,rfl,rfl,rfl,rfl⟩⟩,⟨rfl,rfl,rfl,rfl,rfl,.inr ⟨rfl,_,_,rfl,rfl,rfl,rfl⟩⟩,⟨rfl,rfl,rfl,rfl,rfl,.inr ⟨rfl,_,_,rfl,rfl,rfl,rfl⟩⟩,trivial⟩
   ·have hA':((3:Int)<3)=False:=eq_false (by decide);simp only [d3];generalize baQ s B+drQ s x y z*fr B.drag 1000000=T at*;generalize Q0n s B x y z=T3 at*;generalize drQ s x y z*fr B.drag 1000000=T2 at*;generalize drQ s x y z=T1 at*;generalize fr B.drag 1000000=T4 at*;generalize Qoz s B x y z=I at*;simp only [raB];unfold ratQ Qdz at g7 g8 g9 g10 ⊢;repeat (first|simp -implicitDefEqProofs only [go_sem,seval,hA',Qi6]|(with_reducible refine Qaa g7 ?_ ?_ ?_);rfl;rfl|(with_reducible refine Qaa g8 ?_ ?_ ?_);rfl;rfl|(with_reducible refine Qaa g9 ?_ ?_ ?_);rfl;rfl|(with_reducible refine Qaa g10 ?_ ?_ ?_);rfl;rfl|(with_reducible exact Qac _ _ (by kernel_rfl)))
end Go.Proofs.YtdpajapkhembcaaGreatDoor

namespace Go.Dg
def mxE:Int:=1125899906842624
def preI (cs:List Int) (k:Nat):Int:=sm (fun i=>cs.getD i 0) k
theorem Qmt (cs:List Int) (k:Nat):preI cs (k+1)=preI cs k+cs.getD k 0:=rfl
def okCs (cs:List Int):Prop:= ∀c∈cs,0≤c∧c≤400000000000000000
theorem Q4j {cs:List Int} (h:okCs cs) (k:Nat):0≤cs.getD k 0∧cs.getD k 0≤400000000000000000:=by
 by_cases hk:k<cs.length
 ·rw [List.getD_eq_getElem?_getD,List.getElem?_eq_getElem hk];exact h _ (List.getElem_mem hk)
 ·rw [List.getD_eq_getElem?_getD,List.getElem?_eq_none (by omega)];decide
theorem Qst {cs:List Int} (h:okCs cs) {j k:Nat} (hjk:j≤k):preI cs j≤preI cs k:=by
 induction k with
 |zero=>
    obtain rfl:j=0:=by omega
    exact Int.le_refl _
 |succ k ih=>
  have:=(Q4j h k).1;rw [Qmt];by_cases e:j=k+1
  ·subst e;rw [Qmt];exact Int.le_refl _
  ·have:=ih (by omega);omega
theorem Q4k {cs:List Int} (h:okCs cs) (k:Nat):0≤preI cs k:=by
 have:=Qst h (Nat.zero_le k);exact this
def smL (cs:List Int) (k:Nat):List Int:=(List.range k).map fun j=>preI cs (j+1)
theorem Ze1 (cs:List Int) (k:Nat):smL cs (k+1)=smL cs k++[preI cs (k+1)]:=by
 unfold smL;rw [List.range_succ,List.map_append];rfl
theorem Qfb (cs:List Int) (k:Nat):(smL cs k).length=k:=by simp [smL]
theorem Zq5 {cs:List Int} {k i:Nat} (h:i<k):(smL cs k).getD i 0=preI cs (i+1):=by simp [smL,h]
def cutE (cs:List Int):Nat:=(List.range cs.length).findIdx fun j=>decide (mxE<preI cs (j+1))
theorem Ze2 {n i:Nat} {p:Nat→Bool} (h:i<n) (h1:p i=true) (h2: ∀j,j<i→p j=false):(List.range n).findIdx p=i:=by
 rw [List.findIdx_eq (by simpa using h)];exact⟨by simpa using h1,fun j hj=>by simpa using h2 j hj⟩
theorem Q4l {n:Nat} {p:Nat→Bool} (h2: ∀j,j<n→p j=false):(List.range n).findIdx p=n:=by
 have:=List.findIdx_eq_length_of_false (xs:=List.range n) (p:=p) (fun x hx=>h2 x (List.mem_range.1 hx))
 rwa [List.length_range]at this
theorem Qsu {cs:List Int} {i:Nat} (hi:i<cs.length) (h: ∀j,j<i→preI cs (j+1)≤mxE) (hs:mxE<preI cs (i+1)):cutE cs=i:=
 Ze2 hi (decide_eq_true hs) fun j hj=>decide_eq_false (by have:=h j hj;omega)
theorem Qyb {cs:List Int} (h: ∀j,j<cs.length→preI cs (j+1)≤mxE):cutE cs=cs.length:=
 Q4l fun j hj=>decide_eq_false (by have:=h j hj;omega)
theorem Q4m {cs:List Int} (hc:okCs cs) (hl:0<cs.length):(preI cs cs.length≤mxE→cutE cs=cs.length)∧(mxE<preI cs cs.length→cutE cs<cs.length):=by
 refine⟨fun h=>Qyb fun j hj=>Int.le_trans (Qst hc hj) h,fun h=> ?_⟩;have hlt:=List.findIdx_lt_length_of_exists (xs:=List.range cs.length) (p:=fun j=>decide (mxE<preI cs (j+1))) ⟨cs.length-1,List.mem_range.2 (by omega),decide_eq_true (by rw [Nat.sub_add_cancel hl];exact h)⟩
 rwa [List.length_range]at hlt
end Go.Dg

namespace Go.Proofs.YtdpajapkhembcaaGreatDoor
open Go.Vl Go.RowKit Go.Dg
theorem Qzf {m B:Nat} (h:m<2^B) (hk:B≤65000):m<2^65000:=Qvr (C:=65000) h hk
def w3PV (x y z:Int):PV:= .agg [.bool (decide (x<0)),.str (mB x),.bool (decide (y<0)),.str (mB y),.bool (decide (z<0)),.str (mB z)]
def Qad (x y z o:Int):PV:= .agg [.bool (decide (x<0)),.str (mB x),.bool (decide (y<0)),.str (mB y),.bool (decide (z<0)),.str (mB z),.bool (decide (o<0)),.str (mB o)]
theorem nc0:((0:Nat):Int)=0:=rfl
theorem nc1:((1:Nat):Int)=1:=rfl
theorem nc2:((2:Nat):Int)=2:=rfl
theorem nc3:((3:Nat):Int)=3:=rfl
theorem wr1:IntKind.i64.wrap 1=1:=rfl
theorem wr2:IntKind.i64.wrap 2=2:=rfl
theorem wr3:IntKind.i64.wrap 3=3:=rfl
attribute [go_sem] w3PV Qad nc0 nc1 nc2 nc3 wr1 wr2 wr3
theorem mB_0:mB 0=⟨#[]⟩:=by unfold mB;rw [(Qmh 0).2 rfl]
def sel (P:Nat→Int) (i m:Nat) (X:Int):Int:=if m=i then X else at3 P i m
def plV (s:Sg) (a d:Int):PV:=Qad (plP s a d 0/(plG s a d 3:Int)) (plP s a d 1/(plG s a d 3:Int)) (plP s a d 2/(plG s a d 3:Int)) (s.o*d^5/(plG s a d 3:Int))
set_option maxHeartbeats 2000000 in
theorem Qrj (s:Sg) (a d:Int) (hs:okSg s) (h6: ∀c∈s.ax,c.length≤6) (ho:1≤s.o) (ha:i64 a) (hd:i64 d) (hd1:1≤d):
  Qaf Tryz.prog 96 [sgPV s,.int .i64 a,.int .i64 d] (plV s a d):=by
 obtain⟨⟨a1,a2⟩,⟨a3,a4⟩,⟨a5,a6⟩,hc,hl⟩:=hs;have ba:=Qcb ha;have bd':=Qcb hd;have bo:=Qcb ⟨a5,a6⟩;have w1:=Qh5 s.o a5 a6;have p5:=Qfz d 5 64 hd.1 hd.2 (by decide) (by decide) bd';have bd5:=Q71 bd' 5;have bod:=Zrp (s:=s) bo bd';have m1:=Qh6 (Qa5 bo (by decide)) (Qa5 bd5 (by decide)) (Qa5 bod (by decide));have hax:=Zql s;have hG0:(plG s a d 0:Int)=s.o*d^5:=by
  have h:0<s.o*d^5:=Int.mul_pos (by omega) (Int.pow_pos (by omega));show(((s.o*d^5).natAbs:Nat):Int)=_;omega
 have hcB: ∀c∈s.ax,bd 64 c:=fun c hx x hx2=>Qcb (hc c hx x hx2);have bP:=Q5q hcB h6 ba bd';have bG:=Zyu hcB h6 bo ba bd';generalize hO:s.o*d^5=O at*;have hsg:sgPV s= .agg [.int .i64 s.f,.int .i64 s.t,.int .i64 s.o,.slc (s.x.map (PV.int .i64)),.slc (s.y.map (PV.int .i64)),.slc (s.z.map (PV.int .i64))]:=rfl;rw [hsg]at hax ⊢;refine Qab (tb:=[]) 74 [.cell 6 136] [0,1,2,3,6,7,8,9,10,11,12,13,22,23,24,27,28,29,30] mixed Tryz.func96 rfl (by kernel_rfl) ?_;repeat (first|simp -implicitDefEqProofs only [go_sem,seval,wPV]|(with_reducible refine Qaa w1 ?_ ?_ ?_);rfl;rfl|(with_reducible refine Qaa p5 ?_ ?_ ?_);rfl;rfl|(with_reducible refine Qaa m1 ?_ ?_ ?_);rfl;rfl|(with_reducible refine Qaa hax ?_ ?_ ?_);rfl;rfl)
 refine Qau mixed (fun i:{i:Nat // i≤3}=>St.of [(1,.int .i64 a),(2,.int .i64 d),(6,.bp 1 8 0 0),(7,.bp 100 6 0 0),(8,.bp 206 2 0 0),(9,.bp 301 2 0 0),(22,.agg [Qbj s.x,Qbj s.y,Qbj s.z]),(23,.int .i64 (i.1:Int))]
  [(1,{els:=[.agg [.bool false,.str ⟨#[]⟩,.bool false,.str ⟨#[]⟩,.bool false,.str ⟨#[]⟩,.bool false,.str ⟨#[]⟩]],esz:=8,ety:=136,fro:=0,live:=true,arr:=false}),(100,{els:=[w3PV (at3 (plP s a d) i.1 0) (at3 (plP s a d) i.1 1) (at3 (plP s a d) i.1 2)],esz:=6,ety:=139,fro:=0,live:=true,arr:=false}),(206,{els:=[wPV O],esz:=2,ety:=134,fro:=0,live:=true,arr:=false}),(301,{els:=[wPV ((plG s a d i.1:Nat):Int)],esz:=2,ety:=134,fro:=0,live:=true,arr:=false})]) (fun i=>3-i.1) ⟨0,Nat.zero_le _⟩ ?_ ?_
 ·refine Qaj (θ:=[(1,1),(100,100),(206,206),(301,301)]) rfl ?_ ?_
  ·simp [Qae,lkp,ren1,ren0,Qai,Qbj]
  ·refine⟨⟨rfl,rfl,rfl,rfl,rfl,.inr ⟨rfl,_,_,rfl,rfl,rfl,rfl⟩⟩,⟨rfl,rfl,rfl,rfl,rfl,.inr ⟨rfl,_,_,rfl,rfl,?_,rfl⟩⟩,⟨rfl,rfl,rfl,rfl,rfl,.inr ⟨rfl,_,_,rfl,rfl,rfl,rfl⟩⟩,⟨rfl,rfl,rfl,rfl,rfl,.inr ⟨rfl,_,_,rfl,rfl,?_,rfl⟩⟩,trivial⟩
   ·simp only [at3,Nat.not_lt_zero,if_false,w3PV,mB_0];rfl
   ·simp only [hG0];rfl
 ·rintro⟨i,hi⟩;by_cases hA:i<3
  ·have hA':((i:Int)<3)=True:=eq_true (by omega);have hA2:=ltT hA;have h0:=nnT i;have hx:=Q75 s i hA;have hwk:=Qak (a:=i) (by omega);rcases(show i=0∨i=1∨i=2 by omega)with hi0|hi0|hi0
   ·skip
    obtain rfl:i=0:=hi0;have hm:s.ax.getD 0 []=s.ax[0]'hA:=rfl;have hP:plP s a d 0=sm (plcT (s.ax[0]'hA) a d) (s.ax[0]'hA).length:=rfl;have hcx:=hc (s.ax[0]) (List.getElem_mem hA);have hlx:=h6 (s.ax[0]) (List.getElem_mem hA);have bPi:=bP 0 (by omega);have bGi:=bG 0 (by omega);have hGs:=Qfu s a d 0;generalize s.ax[0]'hA=c at*;repeat simp -implicitDefEqProofs only [go_sem,seval,hx,List.length_map,at3]
    refine Qau mixed (fun k:{k:Nat // k≤c.length}=>St.of [(1,.int .i64 a),(2,.int .i64 d),(6,.bp 1 8 0 0),(7,.bp 100 6 0 0),(8,.bp 206 2 0 0),(9,.bp 301 2 0 0),(22,.agg [Qbj s.x,Qbj s.y,Qbj s.z]),(23,.int .i64 0),(10,.int .i64 0),(27,Qbj c),(28,.int .i64 (c.length:Int)),(29,.int .i64 (k.1:Int))]
     [(1,{els:=[.agg [.bool false,.str ⟨#[]⟩,.bool false,.str ⟨#[]⟩,.bool false,.str ⟨#[]⟩,.bool false,.str ⟨#[]⟩]],esz:=8,ety:=136,fro:=0,live:=true,arr:=false}),(100,{els:=[w3PV (sel (plP s a d) 0 0 (sm (plcT c a d) k.1)) (sel (plP s a d) 0 1 (sm (plcT c a d) k.1)) (sel (plP s a d) 0 2 (sm (plcT c a d) k.1))],esz:=6,ety:=139,fro:=0,live:=true,arr:=false}),(206,{els:=[wPV O],esz:=2,ety:=134,fro:=0,live:=true,arr:=false}),(301,{els:=[wPV ((plG s a d 0:Nat):Int)],esz:=2,ety:=134,fro:=0,live:=true,arr:=false})]) (fun k=>c.length-k.1) ⟨0,Nat.zero_le _⟩ ?_ ?_
    ·refine Qaj (θ:=[(1,1),(100,100),(206,206),(301,301)]) rfl ?_ ?_
     ·simp [Qae,lkp,ren1,ren0,Qai,Qbj]
     ·refine⟨⟨rfl,rfl,rfl,rfl,rfl,.inr ⟨rfl,_,_,rfl,rfl,rfl,rfl⟩⟩,⟨rfl,rfl,rfl,rfl,rfl,.inr ⟨rfl,_,_,rfl,rfl,?_,rfl⟩⟩,⟨rfl,rfl,rfl,rfl,rfl,.inr ⟨rfl,_,_,rfl,rfl,rfl,rfl⟩⟩,⟨rfl,rfl,rfl,rfl,rfl,.inr ⟨rfl,_,_,rfl,rfl,rfl,rfl⟩⟩,trivial⟩;simp only [sel,at3,sm];rfl
    ·rintro⟨k,hk⟩;by_cases hB:k<c.length
     ·have hB':=ltT hB;have n0:=nnT k;have hgk:=Qf0 c k hB;have hwk2:=Qak (a:=k) (by omega);have w5:IntKind.i64.wrap (5-(k:Int))=((5-k:Nat):Int):=by rw [Qag (by omega) (by omega)];omega
      obtain⟨k1,k2⟩:=hcx _ (List.getElem_mem hB);have hcb:bd 64 c:=fun x hx=>Qcb (hcx x hx);have x1:=hcb _ (List.getElem_mem hB);have o1:=Qh5 c[k] k1 k2;have q1:=Qfz a k 64 ha.1 ha.2 (by omega) (by decide) ba;have q2:=Qfz d (5-k) 64 hd.1 hd.2 (by omega) (by decide) bd';obtain⟨t1,t2,t3,t4⟩:=Qq6 hcb ba bd' k (by omega);have mm1:=Qh6 (Qa5 t1 (by decide)) (Qa5 t2 (by decide)) (Qa5 t3 (by decide));have eT:plcT c a d k=c[k]*(a^k*d^(5-k)):=by unfold plcT;rw [Qnp hB]
      rw [eT]at t4;have mm2:=Qh6 (Qa5 x1 (by decide)) (Qa5 t3 (by decide)) (Qa5 t4 (by decide));rw [←eT]at mm2 t4;have y1:=Qfv hcb ba bd' k (by omega);have y2:=Qfv hcb ba bd' (k+1) (by omega);have es:sm (plcT c a d) (k+1)=sm (plcT c a d) k+plcT c a d k:=rfl;rw [es]at y2;have a1:=Qgx (Qa5 y1 (by decide)) (Qa5 t4 (by decide)) (Qa5 y2 (by decide));rw [←es]at a1;clear y1 y2 t1 t2 t3 t4 es eT hP;generalize hX:sm (plcT c a d) (k+1)=X at*;generalize sm (plcT c a d) k=Y at*;generalize plcT c a d k=T at*;generalize a^k*d^(5-k)=U at*;generalize a^k=U1 at*;generalize d^(5-k)=U2 at*;repeat (first|simp -implicitDefEqProofs only [go_sem,seval,wPV,hB',n0,hgk,hwk2,w5,sel,at3,Int.toNat_natCast]|(with_reducible refine Qaa o1 ?_ ?_ ?_);rfl;rfl|(with_reducible refine Qaa q1 ?_ ?_ ?_);rfl;rfl|(with_reducible refine Qaa q2 ?_ ?_ ?_);rfl;rfl|(with_reducible refine Qaa mm1 ?_ ?_ ?_);rfl;rfl|(with_reducible refine Qaa mm2 ?_ ?_ ?_);rfl;rfl|(with_reducible refine Qaa a1 ?_ ?_ ?_);rfl;rfl|(with_reducible refine And.intro (Qac _ _ (by kernel_rfl)) ?_))
      refine⟨⟨k+1,hB⟩,by simp only;omega,Qaj (θ:=[(1,1),(100,100),(206,206),(301,301)]) rfl ?_ ?_⟩
      ·simp [Qae,lkp,ren1,ren0,Qai,Qbj]
      ·simp only [hX];exact⟨⟨rfl,rfl,rfl,rfl,rfl,.inr ⟨rfl,_,_,rfl,rfl,rfl,rfl⟩⟩,⟨rfl,rfl,rfl,rfl,rfl,.inr ⟨rfl,_,_,rfl,rfl,rfl,rfl⟩⟩,⟨rfl,rfl,rfl,rfl,rfl,.inr ⟨rfl,_,_,rfl,rfl,rfl,rfl⟩⟩,⟨rfl,rfl,rfl,rfl,rfl,.inr ⟨rfl,_,_,rfl,rfl,rfl,rfl⟩⟩,trivial⟩
     ·have hB':=ltF hB;obtain rfl:k=c.length:=by omega
      have gg:=Qtx (Qa5 bGi (by decide)) (Qa5 bPi (by decide));rw [Int.natAbs_natCast,←hGs]at gg;rw [hP]at gg;generalize hX:sm (plcT c a d) c.length=X at*;repeat (first|simp -implicitDefEqProofs only [go_sem,seval,wPV,hB',sel,at3]|(with_reducible refine Qaa gg ?_ ?_ ?_);rfl;rfl|(with_reducible refine And.intro (Qac _ _ (by kernel_rfl)) ?_))
      refine⟨⟨0+1,hA⟩,by simp only;omega,Qaj (θ:=[(1,1),(100,100),(206,206),(301,301)]) rfl ?_ ?_⟩
      ·simp [Qae,lkp,ren1,ren0,Qai,Qbj]
      ·simp only [at3,hP,hX];exact⟨⟨rfl,rfl,rfl,rfl,rfl,.inr ⟨rfl,_,_,rfl,rfl,rfl,rfl⟩⟩,⟨rfl,rfl,rfl,rfl,rfl,.inr ⟨rfl,_,_,rfl,rfl,rfl,rfl⟩⟩,⟨rfl,rfl,rfl,rfl,rfl,.inr ⟨rfl,_,_,rfl,rfl,rfl,rfl⟩⟩,⟨rfl,rfl,rfl,rfl,rfl,.inr ⟨rfl,_,_,rfl,rfl,rfl,rfl⟩⟩,trivial⟩
   ·skip
    obtain rfl:i=1:=hi0;have hm:s.ax.getD 1 []=s.ax[1]'hA:=rfl;have hP:plP s a d 1=sm (plcT (s.ax[1]'hA) a d) (s.ax[1]'hA).length:=rfl;have hcx:=hc (s.ax[1]) (List.getElem_mem hA);have hlx:=h6 (s.ax[1]) (List.getElem_mem hA);have bPi:=bP 1 (by omega);have bGi:=bG 1 (by omega);have hGs:=Qfu s a d 1;generalize s.ax[1]'hA=c at*;repeat simp -implicitDefEqProofs only [go_sem,seval,hx,List.length_map,at3]
    refine Qau mixed (fun k:{k:Nat // k≤c.length}=>St.of [(1,.int .i64 a),(2,.int .i64 d),(6,.bp 1 8 0 0),(7,.bp 100 6 0 0),(8,.bp 206 2 0 0),(9,.bp 301 2 0 0),(22,.agg [Qbj s.x,Qbj s.y,Qbj s.z]),(23,.int .i64 1),(10,.int .i64 1),(27,Qbj c),(28,.int .i64 (c.length:Int)),(29,.int .i64 (k.1:Int))]
     [(1,{els:=[.agg [.bool false,.str ⟨#[]⟩,.bool false,.str ⟨#[]⟩,.bool false,.str ⟨#[]⟩,.bool false,.str ⟨#[]⟩]],esz:=8,ety:=136,fro:=0,live:=true,arr:=false}),(100,{els:=[w3PV (sel (plP s a d) 1 0 (sm (plcT c a d) k.1)) (sel (plP s a d) 1 1 (sm (plcT c a d) k.1)) (sel (plP s a d) 1 2 (sm (plcT c a d) k.1))],esz:=6,ety:=139,fro:=0,live:=true,arr:=false}),(206,{els:=[wPV O],esz:=2,ety:=134,fro:=0,live:=true,arr:=false}),(301,{els:=[wPV ((plG s a d 1:Nat):Int)],esz:=2,ety:=134,fro:=0,live:=true,arr:=false})]) (fun k=>c.length-k.1) ⟨0,Nat.zero_le _⟩ ?_ ?_
    ·refine Qaj (θ:=[(1,1),(100,100),(206,206),(301,301)]) rfl ?_ ?_
     ·simp [Qae,lkp,ren1,ren0,Qai,Qbj]
     ·refine⟨⟨rfl,rfl,rfl,rfl,rfl,.inr ⟨rfl,_,_,rfl,rfl,rfl,rfl⟩⟩,⟨rfl,rfl,rfl,rfl,rfl,.inr ⟨rfl,_,_,rfl,rfl,?_,rfl⟩⟩,⟨rfl,rfl,rfl,rfl,rfl,.inr ⟨rfl,_,_,rfl,rfl,rfl,rfl⟩⟩,⟨rfl,rfl,rfl,rfl,rfl,.inr ⟨rfl,_,_,rfl,rfl,rfl,rfl⟩⟩,trivial⟩;simp only [sel,at3,sm];rfl
    ·rintro⟨k,hk⟩;by_cases hB:k<c.length
     ·have hB':=ltT hB;have n0:=nnT k;have hgk:=Qf0 c k hB;have hwk2:=Qak (a:=k) (by omega);have w5:IntKind.i64.wrap (5-(k:Int))=((5-k:Nat):Int):=by rw [Qag (by omega) (by omega)];omega
      obtain⟨k1,k2⟩:=hcx _ (List.getElem_mem hB);have hcb:bd 64 c:=fun x hx=>Qcb (hcx x hx);have x1:=hcb _ (List.getElem_mem hB);have o1:=Qh5 c[k] k1 k2;have q1:=Qfz a k 64 ha.1 ha.2 (by omega) (by decide) ba;have q2:=Qfz d (5-k) 64 hd.1 hd.2 (by omega) (by decide) bd';obtain⟨t1,t2,t3,t4⟩:=Qq6 hcb ba bd' k (by omega);have mm1:=Qh6 (Qa5 t1 (by decide)) (Qa5 t2 (by decide)) (Qa5 t3 (by decide));have eT:plcT c a d k=c[k]*(a^k*d^(5-k)):=by unfold plcT;rw [Qnp hB]
      rw [eT]at t4;have mm2:=Qh6 (Qa5 x1 (by decide)) (Qa5 t3 (by decide)) (Qa5 t4 (by decide));rw [←eT]at mm2 t4;have y1:=Qfv hcb ba bd' k (by omega);have y2:=Qfv hcb ba bd' (k+1) (by omega);have es:sm (plcT c a d) (k+1)=sm (plcT c a d) k+plcT c a d k:=rfl;rw [es]at y2;have a1:=Qgx (Qa5 y1 (by decide)) (Qa5 t4 (by decide)) (Qa5 y2 (by decide));rw [←es]at a1;clear y1 y2 t1 t2 t3 t4 es eT hP;generalize hX:sm (plcT c a d) (k+1)=X at*;generalize sm (plcT c a d) k=Y at*;generalize plcT c a d k=T at*;generalize a^k*d^(5-k)=U at*;generalize a^k=U1 at*;generalize d^(5-k)=U2 at*;repeat (first|simp -implicitDefEqProofs only [go_sem,seval,wPV,hB',n0,hgk,hwk2,w5,sel,at3,Int.toNat_natCast]|(with_reducible refine Qaa o1 ?_ ?_ ?_);rfl;rfl|(with_reducible refine Qaa q1 ?_ ?_ ?_);rfl;rfl|(with_reducible refine Qaa q2 ?_ ?_ ?_);rfl;rfl|(with_reducible refine Qaa mm1 ?_ ?_ ?_);rfl;rfl|(with_reducible refine Qaa mm2 ?_ ?_ ?_);rfl;rfl|(with_reducible refine Qaa a1 ?_ ?_ ?_);rfl;rfl|(with_reducible refine And.intro (Qac _ _ (by kernel_rfl)) ?_))
      refine⟨⟨k+1,hB⟩,by simp only;omega,Qaj (θ:=[(1,1),(100,100),(206,206),(301,301)]) rfl ?_ ?_⟩
      ·simp [Qae,lkp,ren1,ren0,Qai,Qbj]
      ·simp only [hX];exact⟨⟨rfl,rfl,rfl,rfl,rfl,.inr ⟨rfl,_,_,rfl,rfl,rfl,rfl⟩⟩,⟨rfl,rfl,rfl,rfl,rfl,.inr ⟨rfl,_,_,rfl,rfl,rfl,rfl⟩⟩,⟨rfl,rfl,rfl,rfl,rfl,.inr ⟨rfl,_,_,rfl,rfl,rfl,rfl⟩⟩,⟨rfl,rfl,rfl,rfl,rfl,.inr ⟨rfl,_,_,rfl,rfl,rfl,rfl⟩⟩,trivial⟩
     ·have hB':=ltF hB;obtain rfl:k=c.length:=by omega
      have gg:=Qtx (Qa5 bGi (by decide)) (Qa5 bPi (by decide));rw [Int.natAbs_natCast,←hGs]at gg;rw [hP]at gg;generalize hX:sm (plcT c a d) c.length=X at*;repeat (first|simp -implicitDefEqProofs only [go_sem,seval,wPV,hB',sel,at3]|(with_reducible refine Qaa gg ?_ ?_ ?_);rfl;rfl|(with_reducible refine And.intro (Qac _ _ (by kernel_rfl)) ?_))
      refine⟨⟨1+1,hA⟩,by simp only;omega,Qaj (θ:=[(1,1),(100,100),(206,206),(301,301)]) rfl ?_ ?_⟩
      ·simp [Qae,lkp,ren1,ren0,Qai,Qbj]
      ·simp only [at3,hP,hX];exact⟨⟨rfl,rfl,rfl,rfl,rfl,.inr ⟨rfl,_,_,rfl,rfl,rfl,rfl⟩⟩,⟨rfl,rfl,rfl,rfl,rfl,.inr ⟨rfl,_,_,rfl,rfl,rfl,rfl⟩⟩,⟨rfl,rfl,rfl,rfl,rfl,.inr ⟨rfl,_,_,rfl,rfl,rfl,rfl⟩⟩,⟨rfl,rfl,rfl,rfl,rfl,.inr ⟨rfl,_,_,rfl,rfl,rfl,rfl⟩⟩,trivial⟩
   ·skip
    obtain rfl:i=2:=hi0;have hm:s.ax.getD 2 []=s.ax[2]'hA:=rfl;have hP:plP s a d 2=sm (plcT (s.ax[2]'hA) a d) (s.ax[2]'hA).length:=rfl;have hcx:=hc (s.ax[2]) (List.getElem_mem hA);have hlx:=h6 (s.ax[2]) (List.getElem_mem hA);have bPi:=bP 2 (by omega);have bGi:=bG 2 (by omega);have hGs:=Qfu s a d 2;generalize s.ax[2]'hA=c at*;repeat simp -implicitDefEqProofs only [go_sem,seval,hx,List.length_map,at3]
    refine Qau mixed (fun k:{k:Nat // k≤c.length}=>St.of [(1,.int .i64 a),(2,.int .i64 d),(6,.bp 1 8 0 0),(7,.bp 100 6 0 0),(8,.bp 206 2 0 0),(9,.bp 301 2 0 0),(22,.agg [Qbj s.x,Qbj s.y,Qbj s.z]),(23,.int .i64 2),(10,.int .i64 2),(27,Qbj c),(28,.int .i64 (c.length:Int)),(29,.int .i64 (k.1:Int))]
     [(1,{els:=[.agg [.bool false,.str ⟨#[]⟩,.bool false,.str ⟨#[]⟩,.bool false,.str ⟨#[]⟩,.bool false,.str ⟨#[]⟩]],esz:=8,ety:=136,fro:=0,live:=true,arr:=false}),(100,{els:=[w3PV (sel (plP s a d) 2 0 (sm (plcT c a d) k.1)) (sel (plP s a d) 2 1 (sm (plcT c a d) k.1)) (sel (plP s a d) 2 2 (sm (plcT c a d) k.1))],esz:=6,ety:=139,fro:=0,live:=true,arr:=false}),(206,{els:=[wPV O],esz:=2,ety:=134,fro:=0,live:=true,arr:=false}),(301,{els:=[wPV ((plG s a d 2:Nat):Int)],esz:=2,ety:=134,fro:=0,live:=true,arr:=false})]) (fun k=>c.length-k.1) ⟨0,Nat.zero_le _⟩ ?_ ?_
    ·refine Qaj (θ:=[(1,1),(100,100),(206,206),(301,301)]) rfl ?_ ?_
     ·simp [Qae,lkp,ren1,ren0,Qai,Qbj]
     ·refine⟨⟨rfl,rfl,rfl,rfl,rfl,.inr ⟨rfl,_,_,rfl,rfl,rfl,rfl⟩⟩,⟨rfl,rfl,rfl,rfl,rfl,.inr ⟨rfl,_,_,rfl,rfl,?_,rfl⟩⟩,⟨rfl,rfl,rfl,rfl,rfl,.inr ⟨rfl,_,_,rfl,rfl,rfl,rfl⟩⟩,⟨rfl,rfl,rfl,rfl,rfl,.inr ⟨rfl,_,_,rfl,rfl,rfl,rfl⟩⟩,trivial⟩;simp only [sel,at3,sm];rfl
    ·rintro⟨k,hk⟩;by_cases hB:k<c.length
     ·have hB':=ltT hB;have n0:=nnT k;have hgk:=Qf0 c k hB;have hwk2:=Qak (a:=k) (by omega);have w5:IntKind.i64.wrap (5-(k:Int))=((5-k:Nat):Int):=by rw [Qag (by omega) (by omega)];omega
      obtain⟨k1,k2⟩:=hcx _ (List.getElem_mem hB);have hcb:bd 64 c:=fun x hx=>Qcb (hcx x hx);have x1:=hcb _ (List.getElem_mem hB);have o1:=Qh5 c[k] k1 k2;have q1:=Qfz a k 64 ha.1 ha.2 (by omega) (by decide) ba;have q2:=Qfz d (5-k) 64 hd.1 hd.2 (by omega) (by decide) bd';obtain⟨t1,t2,t3,t4⟩:=Qq6 hcb ba bd' k (by omega);have mm1:=Qh6 (Qa5 t1 (by decide)) (Qa5 t2 (by decide)) (Qa5 t3 (by decide));have eT:plcT c a d k=c[k]*(a^k*d^(5-k)):=by unfold plcT;rw [Qnp hB]
      rw [eT]at t4;have mm2:=Qh6 (Qa5 x1 (by decide)) (Qa5 t3 (by decide)) (Qa5 t4 (by decide));rw [←eT]at mm2 t4;have y1:=Qfv hcb ba bd' k (by omega);have y2:=Qfv hcb ba bd' (k+1) (by omega);have es:sm (plcT c a d) (k+1)=sm (plcT c a d) k+plcT c a d k:=rfl;rw [es]at y2;have a1:=Qgx (Qa5 y1 (by decide)) (Qa5 t4 (by decide)) (Qa5 y2 (by decide));rw [←es]at a1;clear y1 y2 t1 t2 t3 t4 es eT hP;generalize hX:sm (plcT c a d) (k+1)=X at*;generalize sm (plcT c a d) k=Y at*;generalize plcT c a d k=T at*;generalize a^k*d^(5-k)=U at*;generalize a^k=U1 at*;generalize d^(5-k)=U2 at*;repeat (first|simp -implicitDefEqProofs only [go_sem,seval,wPV,hB',n0,hgk,hwk2,w5,sel,at3,Int.toNat_natCast]|(with_reducible refine Qaa o1 ?_ ?_ ?_);rfl;rfl|(with_reducible refine Qaa q1 ?_ ?_ ?_);rfl;rfl|(with_reducible refine Qaa q2 ?_ ?_ ?_);rfl;rfl|(with_reducible refine Qaa mm1 ?_ ?_ ?_);rfl;rfl|(with_reducible refine Qaa mm2 ?_ ?_ ?_);rfl;rfl|(with_reducible refine Qaa a1 ?_ ?_ ?_);rfl;rfl|(with_reducible refine And.intro (Qac _ _ (by kernel_rfl)) ?_))
      refine⟨⟨k+1,hB⟩,by simp only;omega,Qaj (θ:=[(1,1),(100,100),(206,206),(301,301)]) rfl ?_ ?_⟩
      ·simp [Qae,lkp,ren1,ren0,Qai,Qbj]
      ·simp only [hX];exact⟨⟨rfl,rfl,rfl,rfl,rfl,.inr ⟨rfl,_,_,rfl,rfl,rfl,rfl⟩⟩,⟨rfl,rfl,rfl,rfl,rfl,.inr ⟨rfl,_,_,rfl,rfl,rfl,rfl⟩⟩,⟨rfl,rfl,rfl,rfl,rfl,.inr ⟨rfl,_,_,rfl,rfl,rfl,rfl⟩⟩,⟨rfl,rfl,rfl,rfl,rfl,.inr ⟨rfl,_,_,rfl,rfl,rfl,rfl⟩⟩,trivial⟩
     ·have hB':=ltF hB;obtain rfl:k=c.length:=by omega
      have gg:=Qtx (Qa5 bGi (by decide)) (Qa5 bPi (by decide));rw [Int.natAbs_natCast,←hGs]at gg;rw [hP]at gg;generalize hX:sm (plcT c a d) c.length=X at*;repeat (first|simp -implicitDefEqProofs only [go_sem,seval,wPV,hB',sel,at3]|(with_reducible refine Qaa gg ?_ ?_ ?_);rfl;rfl|(with_reducible refine And.intro (Qac _ _ (by kernel_rfl)) ?_))
      refine⟨⟨2+1,hA⟩,by simp only;omega,Qaj (θ:=[(1,1),(100,100),(206,206),(301,301)]) rfl ?_ ?_⟩
      ·simp [Qae,lkp,ren1,ren0,Qai,Qbj]
      ·simp only [at3,hP,hX];exact⟨⟨rfl,rfl,rfl,rfl,rfl,.inr ⟨rfl,_,_,rfl,rfl,rfl,rfl⟩⟩,⟨rfl,rfl,rfl,rfl,rfl,.inr ⟨rfl,_,_,rfl,rfl,rfl,rfl⟩⟩,⟨rfl,rfl,rfl,rfl,rfl,.inr ⟨rfl,_,_,rfl,rfl,rfl,rfl⟩⟩,⟨rfl,rfl,rfl,rfl,rfl,.inr ⟨rfl,_,_,rfl,rfl,rfl,rfl⟩⟩,trivial⟩
  ·have hA':((i:Int)<3)=False:=eq_false (by omega);obtain rfl:i=3:=by omega
   have G0:=Qvt ho hd1 3 (s:=s) (d:=d) (a:=a);have bG3:=Qzf (bG 3 (by decide)) (by decide);have r0:=Qnm (bP 0 (by decide)) (by decide) bG3 (by omega);have r1:=Qnm (bP 1 (by decide)) (by decide) bG3 (by omega);have r2:=Qnm (bP 2 (by decide)) (by decide) bG3 (by omega);have r3:=Qnm bod (by decide) bG3 (by omega);unfold plV;rw [hO];have z0:at3 (plP s a d) 3 0=plP s a d 0:=rfl;have z1:at3 (plP s a d) 3 1=plP s a d 1:=rfl;have z2:at3 (plP s a d) 3 2=plP s a d 2:=rfl;simp only [z0,z1,z2];clear z0 z1 z2;generalize plP s a d 0=X0 at*;generalize plP s a d 1=X1 at*;generalize plP s a d 2=X2 at*;generalize ((plG s a d 3:Nat):Int)=G at*;generalize X0/G=Y0 at*;generalize X1/G=Y1 at*;generalize X2/G=Y2 at*;generalize O/G=Y3 at*;repeat (first|simp -implicitDefEqProofs only [go_sem,seval,wPV,at3]|(with_reducible refine Qaa r0 ?_ ?_ ?_);rfl;rfl|(with_reducible refine Qaa r1 ?_ ?_ ?_);rfl;rfl|(with_reducible refine Qaa r2 ?_ ?_ ?_);rfl;rfl|(with_reducible refine Qaa r3 ?_ ?_ ?_);rfl;rfl|(with_reducible exact Qac _ _ (by kernel_rfl)))
theorem ml1:(1≤maxLen)=True:=eq_true (by unfold maxLen;omega)
theorem ml2:(2≤maxLen)=True:=eq_true (by unfold maxLen;omega)
theorem ml3:(3≤maxLen)=True:=eq_true (by unfold maxLen;omega)
theorem ml4:(4≤maxLen)=True:=eq_true (by unfold maxLen;omega)
attribute [go_sem] ml1 ml2 ml3 ml4
end Go.Proofs.YtdpajapkhembcaaGreatDoor
