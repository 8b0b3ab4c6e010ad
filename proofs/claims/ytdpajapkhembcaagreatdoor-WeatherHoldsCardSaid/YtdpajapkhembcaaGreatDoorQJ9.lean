/-
  Dgo, Dwo, QJ3, QJ4, QJ2, QJ5, QJ6, QJ7, QJ8, QJ9 (merged for the claim).
-/
import Derived.Test.YtdpajapkhembcaaGreatDoorDgn
import Derived.Test.YtdpajapkhembcaaGreatDoorQM1
import Derived.Test.YtdpajapkhembcaaGreatDoorQF3
import Derived.Test.YtdpajapkhembcaaGreatDoorQI4
set_option linter.unusedSimpArgs false
set_option linter.unusedVariables false
namespace Go.Dg
theorem Qm2 (a b k:Int):plc (Qdm a b (rowK k)) 0 1=a:=by
 unfold Qdm;split
 ·simp [plc,sm,plcT]
 ·unfold rowK;split
  ·simp [plc,sm,plcT]
  ·split
   ·simp [plc,sm,plcT]
   ·simp [plc,sm,plcT]
theorem Q5a (a b:V3) (f t k:Int):(∀i,i<3→plQ (legS a b f t k) 0 1 i=a.co i)∧plO (legS a b f t k) 0 1=1:=by
 have hG:plG (legS a b f t k) 0 1 3=1:=Qiz _;refine⟨fun i hi=> ?_,?_⟩
 ·unfold plQ;rw [hG,show((1:Nat):Int)=1 from rfl,Int.ediv_one];rcases(show i=0∨i=1∨i=2 by omega)with rfl|rfl|rfl
  ·exact Qm2 _ _ _
  ·exact Qm2 _ _ _
  ·exact Qm2 _ _ _
 ·unfold plO;rw [hG];rfl
theorem Qqy {a b k:Int} (ha:inB a=true) (hb:inB b=true) (hk:k=1∨k=2∨a=b):axOK (Qdm a b (rowK k)) 1=true:=by
 rw [Q44]at ha hb;by_cases e:a=b
 ·unfold Qdm;rw [if_pos e];unfold axOK Qm4 Qet;simp [List.range_succ,ctl,sm,cw,bin];omega
 ·rcases hk with rfl|rfl|h
  ·unfold Qdm;rw [if_neg e];unfold axOK Qm4 Qet;simp [rowK,List.range_succ,ctl,sm,cw,bin];omega
  ·unfold Qdm;rw [if_neg e];unfold axOK Qm4 Qet;simp [rowK,List.range_succ,ctl,sm,cw,bin];omega
  ·exact absurd h e
theorem Q5b {a b:V3} {f t k:Int} (ha:ptB a=true) (hb:ptB b=true) (h0:0≤f) (h1:f<t) (h2:t≤3600000) (hk:k=1∨k=2∨a=b):Qbm (legS a b f t k)=true:=by
 have hx:k=1∨k=2∨a.x=b.x:=hk.imp_right (Or.imp_right fun h=>by rw [h]);have hy:k=1∨k=2∨a.y=b.y:=hk.imp_right (Or.imp_right fun h=>by rw [h]);have hz:k=1∨k=2∨a.z=b.z:=hk.imp_right (Or.imp_right fun h=>by rw [h]);unfold ptB at ha hb;simp only [Bool.and_eq_true]at ha hb;have hg:(legS a b f t k).ax.foldl gcdL (legS a b f t k).o.natAbs=1:=by
  show gcdL (gcdL (gcdL 1 _) _) _=1;rw [Qiz,Qiz,Qiz]
 unfold Qbm rngS;rw [hg];simp only [legS,Sg.ax,List.all_cons,List.all_nil];rw [Qqy ha.1 hb.1 hx,Qqy ha.2.1 hb.2.1 hy,Qqy ha.2.2 hb.2.2 hz];simp [h0,h1,h2]
def chn:List Sg→Int→Int→V3→V3→Prop
 | [],u,v,a,b=>u=v∧a=b
 |s::l,u,v,a,b=>Qbm s=true∧s.f=u∧(∀i,i<3→plQ s 0 1 i=a.co i)∧plO s 0 1=1∧ ∃c,(∀i,i<3→plQ s 1 1 i=c.co i)∧plO s 1 1=1∧chn l s.t v c b
theorem Qel: ∀{l l':List Sg} {u v w:Int} {a b c:V3},chn l u v a b→chn l' v w b c→chn (l++l') u w a c
 | [],_,_,_,_,_,_,_,h,h'=>by obtain⟨rfl,rfl⟩:=h;exact h'
 |s::l,_,_,_,_,_,_,_,h,h'=>by
  obtain⟨h1,h2,h3,h4,c,h5,h6,h7⟩:=h;exact⟨h1,h2,h3,h4,c,h5,h6,Qel h7 h'⟩
theorem Qqz {a b:V3} {f t k:Int} (ha:ptB a=true) (hb:ptB b=true) (h0:0≤f) (h1:f<t) (h2:t≤3600000) (hk:k=1∨k=2∨a=b):chn [legS a b f t k] f t a b:=
 ⟨Q5b ha hb h0 h1 h2 hk,rfl,(Q5a a b f t k).1,(Q5a a b f t k).2,b,(Q49 hk).1,(Q49 hk).2,rfl,rfl⟩
theorem Qq0 {a b:V3} {f t k:Int} (ha:ptB a=true) (hb:ptB b=true) (h0:0≤f) (h1:f<t∨f=t∧a=b) (h2:t≤3600000) (hk:k=1∨k=2∨a=b):chn (flyL a b f t k) f t a b:=by
 unfold flyL Qo0 tmB;rcases h1 with h1|⟨h1,h3⟩
 ·rw [ha,hb,decide_eq_true h0,decide_eq_true h1,decide_eq_true h2,if_pos (by rfl)];exact Qqz ha hb h0 h1 h2 hk
 ·rw [decide_eq_false (p:=f<t) (by omega),if_neg (by simp)];exact⟨h1,h3⟩
theorem Zyj {v:V3} {m:Mv} {a l:Int} (h:mvE v m a l=0):chn (mvP v m a l) a (a+l) v m.to:=by
 unfold mvP;rw [if_pos h];unfold mvE at h;split at h
 case isFalse=>cases h
 rename_i h1;split at h
 case isFalse=>cases h
 rename_i h9;obtain⟨hv,l1,l2,ha,hm⟩:=h1;rw [Qe5]at ha;unfold mvB at hm;simp only [Bool.and_eq_true,Qe5,decide_eq_true_eq]at hm;obtain⟨m1,m2,m3,m4,m5,m6⟩:=hm;unfold mvL Qc6;by_cases hf:m.f=0
 ·rw [if_pos hf]at m6 ⊢;simp only [Bool.and_eq_true,decide_eq_true_eq]at m6;rw [m6.1];exact Qq0 hv hv (by omega) (.inl (by omega)) (by omega) (.inr (.inr rfl))
 rw [if_neg hf]at m6 ⊢;refine Qel (v:=a+m.w+m.f) (b:=m.to) (Qel (v:=a+m.w) (b:=v) ?_ ?_) ?_
 ·exact Qq0 hv hv (by omega) (by
   by_cases q:m.w=0; · exact .inr ⟨by omega,rfl⟩
   ·exact .inl (by omega)) (by omega) (.inr (.inr rfl))
 ·unfold midL;by_cases hr:0<m.r
  ·rw [if_pos hr]at m6 ⊢;simp only [Bool.and_eq_true,decide_eq_true_eq]at m6;obtain⟨q1,q2,q3⟩:=m6;unfold hiB at q2 q3;unfold arc3;refine Qel (l:=[_]) (Qqz hv q2 (by omega) (by omega) (by omega) (.inr (.inl rfl))) ?_;refine Qel (l:=[_]) (Qqz q2 q3 (by omega) (by omega) (by omega) (.inr (.inl rfl))) ?_;exact Qqz q3 m1 (by omega) (by omega) (by omega) (.inr (.inl rfl))
  ·rw [if_neg hr];exact Qq0 hv m1 (by omega) (.inl (by omega)) (by omega) (.inr (.inl rfl))
 ·exact Qq0 m1 m1 (by omega) (by
   by_cases q:m.w+m.f=l; · exact .inr ⟨by omega,rfl⟩
   ·exact .inl (by omega)) (by omega) (.inr (.inr rfl))
theorem Zp3: ∀{l:List Sg} {u v:Int} {a b:V3},chn l u v a b→u≤v
 | [],_,_,_,_,h=>by have:=h.1;omega
 |s::l,_,_,_,_,h=>by
  obtain⟨h1,h2,_,_,c,_,_,h7⟩:=h;have:=(Qbv h1).1;have:=Zp3 h7;omega
theorem Q5c: ∀{l:List Sg} {u v:Int} {a b:V3},chn l u v a b→ ∀s∈l,Qbm s=true∧u≤s.f∧s.t≤v
 | [],_,_,_,_,_=>fun _ h=>by cases h
 |s::l,_,_,_,_,h=>by
  obtain⟨h1,h2,_,_,c,_,_,h7⟩:=h;have h8:=(Qbv h1).1;have h9:=Zp3 h7;intro x hx;rcases List.mem_cons.1 hx with rfl|hx
  ·exact⟨h1,by omega,h9⟩
  ·obtain⟨y1,y2,y3⟩:=Q5c h7 x hx;exact⟨y1,by omega,y3⟩
theorem Qs1: ∀{l:List Sg} {u v:Int} {a b:V3},chn l u v a b→ ∀(i:Nat) (hi:i+1<l.length),Qfg l[i] l[i+1]=true
 | [],_,_,_,_,_=>fun _ h=>by simp at h
 | [s],_,_,_,_,_=>fun _ h=>by simp at h
 |s::s'::l,_,_,_,_,h=>by
  obtain⟨h1,h2,_,_,c,h5,h6,h7⟩:=h;intro i hi
  match i,hi with
  |0,_=>
   obtain⟨k1,k2,k3,k4,_⟩:=h7;exact Ze6 (a:=s) (b:=s') k2.symm (fun i hi=>by rw [h5 i hi,k3 i hi]) (by rw [h6,k4])
  |i+1,hi=>
   have:=Qs1 h7 i (by simp only [List.length_cons]at hi ⊢;omega);simpa using this
theorem Qq1: ∀{l:List Sg} {u v:Int} {a b:V3},chn l u v a b→ ∀h:0<l.length,l[0].f=u∧(l[l.length-1]'(by omega)).t=v
 | [],_,_,_,_,_=>fun h=>by simp at h
 | [s],_,_,_,_,h=>fun _=>by
  obtain⟨h1,h2,_,_,c,_,_,h7⟩:=h;exact⟨h2,h7.1⟩
 |s::s'::l,_,_,_,_,h=>fun _=>by
  obtain⟨h1,h2,_,_,c,_,_,h7⟩:=h;have:=(Qq1 h7 (by simp)).2;exact⟨h2,by simpa using this⟩
theorem Q5d {l:List Sg} {u v:Int} {a b:V3} (h:chn l u v a b) (h1:1≤l.length) (h2:l.length≤256):Qbq l=true∧pBeg l=u∧pEnd l=v:=by
 refine⟨Q4w (fun i hi=>(Q5c h _ (List.getElem_mem hi)).1) (Qs1 h) h1 h2,?_,?_⟩
 ·unfold pBeg;rw [sgD (by omega)];exact(Qq1 h (by omega)).1
 ·unfold pEnd;rw [sgD (by omega)];exact(Qq1 h (by omega)).2
def pA (p:Pg) (i k:Nat):List Sg:=mvP ((Qco p k).getD i v0) ((p.as_.getD k ac0).mv.getD i mv0) (begT p k) (p.as_.getD k ac0).ln
def pT (p:Pg) (i k:Nat):List Sg:=(List.range k).flatMap fun a=>pA p i a
theorem Q5e (p:Pg) (i k:Nat):pT p i (k+1)=pT p i k++pA p i k:=by simp [pT,List.range_succ]
theorem Qvp {p:Pg} {k:Nat} (hk:k<p.as_.length):begT p (k+1)=begT p k+(p.as_.getD k ac0).ln:=by
 unfold begT;rw [List.take_add_one,List.getD_eq_getElem?_getD,List.getElem?_eq_getElem hk];simp only [Option.toList_some,List.map_append,List.map_cons,List.map_nil,List.sum_append,List.sum_cons,List.sum_nil,Option.getD_some];omega
theorem Q5f {p:Pg} {n:Nat}: ∀(d k:Nat) (t:Int) (many:List Int),k+d=p.as_.length→goB n (Qco p k) t many (p.as_.drop k)=true→t=begT p k→(Qco p k).length=n→many.length=n→
  ∀i,i<n→many.getD i 0=((pT p i k).length:Int)→ ∀j,k<j→j≤p.as_.length→(pT p i j).length≤256
 |0,k,_,_,hd,_,_,_,_,i,_,_,j,h1,h2=>by omega
 |d+1,k,t,many,hd,hg,ht,hl,hm,i,hi,hc,j,h1,h2=>by
  have hk:k<p.as_.length:=by omega
  have e:p.as_.drop k=p.as_.getD k ac0::p.as_.drop (k+1):=by
   rw [List.drop_eq_getElem_cons hk,List.getD_eq_getElem?_getD,List.getElem?_eq_getElem hk];rfl
  rw [e]at hg;simp only [goB,Bool.and_eq_true,hl]at hg;obtain⟨ga,go,gr⟩:=hg;unfold actB at ga;simp only [Bool.and_eq_true,decide_eq_true_eq]at ga;have h3:=List.all_eq_true.1 go i (List.mem_range.2 hi);unfold okAt at h3;simp only [Bool.and_eq_true,decide_eq_true_eq]at h3;have hcn:Qdk (Qco p k) (p.as_.getD k ac0).mv t (p.as_.getD k ac0).ln many i=((pT p i (k+1)).length:Int):=by
   unfold Qdk;rw [hc,Q5e,List.length_append,ht];unfold pA;omega
  rw [hcn]at h3;by_cases ej:j=k+1
  ·subst ej;omega
  ·have hf:Qco p (k+1)=(p.as_.getD k ac0).mv.map Mv.to:=rfl;refine Q5f d (k+1) _ _ (by omega) gr (by rw [ht,Qvp hk]) (by rw [hf,List.length_map];exact ga.2.2.2) (by rw [Qb6];exact hm) i hi ?_ j (by omega) h2;rw [List.getD_eq_getElem?_getD,Qch (by omega),if_pos hi,Option.getD_some,hcn]
section
variable {p:Pg} (v:Qcm p=true) {i:Nat} (hi:i<p.ns.length)
include v hi
theorem Zyk {k:Nat} (hk:k<p.as_.length):mvE ((Qco p k).getD i v0) ((p.as_.getD k ac0).mv.getD i mv0) (begT p k) (p.as_.getD k ac0).ln=0:=by
 unfold Qcm at v;simp only [Bool.and_eq_true,decide_eq_true_eq]at v;obtain⟨h1,h2,h3⟩:=v;unfold Qqu at h1;simp only [Bool.and_eq_true,decide_eq_true_eq]at h1;exact Zp2 p.as_.length 0 0 (List.replicate p.ns.length 0) (Nat.zero_add _) h3 rfl h1.2.2.1 k (Nat.zero_le _) hk i hi
theorem Zyl {k:Nat} (hk:k≤p.as_.length):(pT p i k).length≤256:=by
 unfold Qcm at v;simp only [Bool.and_eq_true,decide_eq_true_eq]at v;obtain⟨h1,h2,h3⟩:=v;unfold Qqu at h1;simp only [Bool.and_eq_true,decide_eq_true_eq]at h1;rcases Nat.eq_zero_or_pos k with rfl|h0
 ·exact Nat.zero_le _
 ·refine Q5f p.as_.length 0 0 (List.replicate p.ns.length 0) (Nat.zero_add _) h3 rfl h1.2.2.1 (by simp) i hi ?_ k h0 hk;rw [List.getD_eq_getElem?_getD,List.getElem?_replicate,if_pos hi];rfl
theorem Z3c {k:Nat} (hk:k<p.as_.length):begT p k<begT p (k+1)∧0≤begT p k∧begT p (k+1)≤3600000:=by
 have h:=Zyk v hi hk;unfold mvE at h;split at h
 case isFalse=>cases h
 rename_i h1;split at h
 case isFalse=>cases h
 obtain⟨_,l1,l2,ha,_⟩:=h1;rw [Qe5]at ha;rw [Qvp hk];omega
theorem Zym {k:Nat} (hk:k<p.as_.length):chn (pA p i k) (begT p k) (begT p (k+1)) ((Qco p k).getD i v0) ((Qco p (k+1)).getD i v0):=by
 have h:=Zyj (Zyk v hi hk);rw [←Qvp hk]at h;have e:(Qco p (k+1)).getD i v0=((p.as_.getD k ac0).mv.getD i mv0).to:=by
  unfold Qco;rw [if_neg (Nat.succ_ne_zero k),Nat.add_sub_cancel,List.getD_eq_getElem?_getD,List.getD_eq_getElem?_getD (l:=(p.as_.getD k ac0).mv),List.getElem?_map];cases (p.as_.getD k ac0).mv[i]? <;>rfl
 rw [e];exact h
theorem Q5g: ∀{k:Nat},k≤p.as_.length→chn (pT p i k) 0 (begT p k) ((Qco p 0).getD i v0) ((Qco p k).getD i v0)
 |0,_=>⟨rfl,rfl⟩
 |k+1,hk=>by
  rw [Q5e];exact Qel (Q5g (by omega)) (Zym v hi hk)
theorem Zyn {k:Nat} (h0:0<k) (hk:k≤p.as_.length):1≤(pT p i k).length:=by
 rcases Nat.eq_zero_or_pos (pT p i k).length with h|h
 ·have e:pT p i k=[]:=List.eq_nil_of_length_eq_zero h;have hc:=Q5g v hi hk;rw [e]at hc;have h1:=hc.1;obtain⟨m,rfl⟩: ∃m,k=m+1:=⟨k-1,by omega⟩;have:=Z3c v hi (k:=m) (by omega);omega
 ·exact h
theorem Zfe {k:Nat} (h0:0<k) (hk:k≤p.as_.length):Qbq (pT p i k)=true∧pBeg (pT p i k)=0∧pEnd (pT p i k)=begT p k:=
 Q5d (Q5g v hi hk) (Zyn v hi h0 hk) (Zyl v hi hk)
end
def befL {α:Type} (LL:List (List α)) (i:Nat):Nat:=(LL.take i).flatten.length
theorem Q6c {α:Type} (LL:List (List α)):befL LL 0=0:=by simp [befL]
theorem Qtf {α:Type} {LL:List (List α)} {i:Nat} (h:i<LL.length):befL LL (i+1)=befL LL i+LL[i].length:=by
 unfold befL;rw [List.take_add_one,List.getElem?_eq_getElem h,List.flatten_append];simp
theorem Zfv {α:Type} (LL:List (List α)):befL LL LL.length=LL.flatten.length:=by unfold befL;rw [List.take_length]
theorem Zr5 {α:Type} {LL:List (List α)}: ∀{i:Nat},i≤LL.length→befL LL i≤LL.flatten.length:=by
 intro i hi;have e:LL=LL.take i++LL.drop i:=(List.take_append_drop i LL).symm;unfold befL
 conv=>rhs;rw [e]
 rw [List.flatten_append,List.length_append];omega
theorem Qhl {α:Type} {LL:List (List α)} {i k:Nat} (h:i<LL.length) (hk:k<LL[i].length):LL.flatten[befL LL i+k]? =some LL[i][k]:=by
 have e:LL=LL.take i++(LL[i]::LL.drop (i+1)):=by
  conv=>lhs;rw [←List.take_append_drop i LL]
  rw [List.drop_eq_getElem_cons h]
 have e2:LL.flatten=(LL.take i).flatten++(LL[i]++(LL.drop (i+1)).flatten):=by
  conv=>lhs;rw [e]
  rw [List.flatten_append,List.flatten_cons]
 rw [e2];unfold befL;rw [List.getElem?_append_right (Nat.le_add_right _ _),Nat.add_sub_cancel_left,List.getElem?_append_left hk,List.getElem?_eq_getElem hk]
theorem Q6d {α:Type} {LL:List (List α)} {i k:Nat} (h:i<LL.length) (hk:k≤LL[i].length):befL LL i+k≤LL.flatten.length:=by
 have h1:=Qtf h;have h2:=Zr5 (LL:=LL) (i:=i+1) h;omega
def Qi3 (xs:List Int):Int:=xs.foldl max 0
theorem Q02 (xs:List Int) (x:Int):Qi3 (xs++[x])=max (Qi3 xs) x:=by simp [Qi3]
theorem Q03 {xs:List Int} {k:Nat} {x:Int} (h:xs[k]? =some x):Qi3 (xs.take (k+1))=max (Qi3 (xs.take k)) x:=by
 rw [List.take_add_one,h];exact Q02 _ _
theorem Q6e {xs:List Int} {n:Nat} (h:xs.length≤n):Qi3 (xs.take n)=Qi3 xs:=by rw [List.take_of_length_le h]
end Go.Dg

namespace Go.Proofs.YtdpajapkhembcaaGreatDoor
open Go.Vl Go.RowKit Go.Dg
def FewQ (p:Pg):Prop:=p.ns.length≤3∧p.hs.length≤3∧p.as_.length≤3∧(∀i,i<p.ns.length→(nmAt p i).size≤60)∧(∀i,i<p.as_.length→(p.as_.getD i ac0).nm.size≤60∧(p.as_.getD i ac0).mv.length≤3)
instance (p:Pg):Decidable (FewQ p):=by unfold FewQ;infer_instance
theorem Q7v {p:Pg} (h:FewQ p):FewP p:=⟨by have:=h.1;omega,by have:=h.2.1;omega,by have:=h.2.2.1;omega,h.2.2.2.1,fun i hi=>⟨(h.2.2.2.2 i hi).1,by have:=(h.2.2.2.2 i hi).2;omega⟩⟩
set_option maxHeartbeats 2000000 in
theorem Z0i (p:Pg):Qaf Tryz.prog 8 [pgV p,.int .i64 3,.int .i64 3] (.bool (decide (FewQ p))):=by
 unfold pgV;by_cases e1:p.ns.length≤3
 case neg=>
  have e1':((3:Int)<(p.ns.length:Int))=True:=eq_true (by omega);have e0:decide (FewQ p)=false:=decide_eq_false (fun h=>absurd (h.1) e1);rw [e0];refine Qab (tb:=[]) 68 [.tmp 6] [0,1,2,3,6,7,8,27,32,41,46,67] mixed Tryz.func8 rfl (by kernel_rfl) ?_;repeat simp -implicitDefEqProofs only [go_sem,seval,e1',decide_true,List.length_map]
 have e1':((3:Int)<(p.ns.length:Int))=False:=eq_false (by omega);by_cases e2:p.hs.length≤3
 case neg=>
  have e2':((3:Int)<(p.hs.length:Int))=True:=eq_true (by omega);have e0:decide (FewQ p)=false:=decide_eq_false (fun h=>absurd (h.2.1) e2);rw [e0];refine Qab (tb:=[]) 68 [.tmp 6] [0,1,2,3,6,7,8,27,32,41,46,67] mixed Tryz.func8 rfl (by kernel_rfl) ?_;repeat simp -implicitDefEqProofs only [go_sem,seval,e1',e2',decide_true,decide_false,List.length_map]
 have e2':((3:Int)<(p.hs.length:Int))=False:=eq_false (by omega);by_cases e3:p.as_.length≤3
 case neg=>
  have e3':((3:Int)<(p.as_.length:Int))=True:=eq_true (by omega);have e0:decide (FewQ p)=false:=decide_eq_false (fun h=>absurd (h.2.2.1) e3);rw [e0];refine Qab (tb:=[]) 68 [.tmp 6] [0,1,2,3,6,7,8,27,32,41,46,67] mixed Tryz.func8 rfl (by kernel_rfl) ?_;repeat simp -implicitDefEqProofs only [go_sem,seval,e1',e2',e3',decide_true,decide_false,List.length_map]
 have e3':((3:Int)<(p.as_.length:Int))=False:=eq_false (by omega);refine Qab (tb:=[]) 68 [.tmp 6] [0,1,2,3,6,7,8,27,32,41,46,67] mixed Tryz.func8 rfl (by kernel_rfl) ?_;repeat simp -implicitDefEqProofs only [go_sem,seval,e1',e2',e3',decide_false,List.length_map]
 refine Qau mixed (fun k:{k:Nat // k≤p.ns.length∧ ∀i,i<k→(nmAt p i).size≤60}=>St.of [(1,.int .i64 3),(2,.int .i64 3),(3,.bp 0 3 0 0),(7,.int .i64 (k.1:Int))] [(0,{els:=[.agg [.slc (p.ns.map PV.str),.slc (p.hs.map v3PV),.slc (p.as_.map acV)]],esz:=3,ety:=26,fro:=0,live:=true,arr:=false})]) (fun k=>p.ns.length-k.1) ⟨0,Nat.zero_le _,fun i h=>absurd h (Nat.not_lt_zero _)⟩ ?_ ?_
 ·refine Qaj (θ:=[(0,0)]) rfl ?_ ?_
  ·simp [Qae,lkp,ren1,ren0,Qai]
  ·exact⟨⟨rfl,rfl,rfl,rfl,rfl,.inr ⟨rfl,_,_,rfl,rfl,rfl,rfl⟩⟩,trivial⟩
 ·rintro⟨k,hk,hI⟩;simp only;have n0:=nn_T k;have hwk:=wr_1 (n:=k) (by omega);by_cases hA:k<p.ns.length
  ·have hA':=lt_T hA;have gn:=Zqf hA;by_cases hB:(nmAt p k).size≤60
   ·have hB':((60:Int)<((nmAt p k).size:Int))=False:=eq_false (by omega);repeat simp -implicitDefEqProofs only [go_sem,seval,hA',n0,gn,hB',hwk,Int.toNat_natCast,List.length_map]
    refine⟨⟨k+1,hA,fun i hi=> ?_⟩,by simp only;omega,?_⟩
    ·rcases Nat.lt_succ_iff_lt_or_eq.1 hi with h|rfl
     ·exact hI i h
     ·exact hB
    refine Qaj (θ:=[(0,0)]) rfl ?_ ?_
    ·simp [Qae,lkp,ren1,ren0,Qai]
    ·exact⟨⟨rfl,rfl,rfl,rfl,rfl,.inr ⟨rfl,_,_,rfl,rfl,rfl,rfl⟩⟩,trivial⟩
   ·have hB':((60:Int)<((nmAt p k).size:Int))=True:=eq_true (by omega);have e0:decide (FewQ p)=false:=decide_eq_false (fun h=>absurd (h.2.2.2.1 k hA) hB);rw [e0];repeat simp -implicitDefEqProofs only [go_sem,seval,hA',n0,gn,hB',Int.toNat_natCast,List.length_map]
  ·have hA':=lt_F hA;obtain rfl:k=p.ns.length:=by omega
   repeat simp -implicitDefEqProofs only [go_sem,seval,hA',List.length_map]
   refine Qau mixed (fun k:{k:Nat // k≤p.as_.length∧ ∀i,i<k→(p.as_.getD i ac0).nm.size≤60∧(p.as_.getD i ac0).mv.length≤3}=>St.of [(1,.int .i64 3),(2,.int .i64 3),(3,.bp 0 3 0 0),(8,.int .i64 (k.1:Int))] [(0,{els:=[.agg [.slc (p.ns.map PV.str),.slc (p.hs.map v3PV),.slc (p.as_.map acV)]],esz:=3,ety:=26,fro:=0,live:=true,arr:=false})]) (fun k=>p.as_.length-k.1) ⟨0,Nat.zero_le _,fun i h=>absurd h (Nat.not_lt_zero _)⟩ ?_ ?_
   ·refine Qaj (θ:=[(0,0)]) rfl ?_ ?_
    ·simp [Qae,lkp,ren1,ren0,Qai]
    ·exact⟨⟨rfl,rfl,rfl,rfl,rfl,.inr ⟨rfl,_,_,rfl,rfl,rfl,rfl⟩⟩,trivial⟩
   ·rintro⟨k,hk,hJ⟩;simp only;have n0:=nn_T k;have hwk:=wr_1 (n:=k) (by omega);by_cases hA:k<p.as_.length
    ·have hA':=lt_T hA;have ga:=Qtn hA;by_cases hB:(p.as_.getD k ac0).nm.size≤60
     case neg=>
      have hB':((60:Int)<((p.as_.getD k ac0).nm.size:Int))=True:=eq_true (by omega);have e0:decide (FewQ p)=false:=decide_eq_false (fun h=>absurd ((h.2.2.2.2 k hA).1) hB);rw [e0];repeat simp -implicitDefEqProofs only [go_sem,seval,hA',n0,ga,hB',decide_true,Int.toNat_natCast,List.length_map]
     have hB':((60:Int)<((p.as_.getD k ac0).nm.size:Int))=False:=eq_false (by omega);by_cases hC:(p.as_.getD k ac0).mv.length≤3
     case neg=>
      have hC':((3:Int)<((p.as_.getD k ac0).mv.length:Int))=True:=eq_true (by omega);have e0:decide (FewQ p)=false:=decide_eq_false (fun h=>absurd ((h.2.2.2.2 k hA).2) hC);rw [e0];repeat simp -implicitDefEqProofs only [go_sem,seval,hA',n0,ga,hB',hC',decide_true,decide_false,Int.toNat_natCast,List.length_map]
     have hC':((3:Int)<((p.as_.getD k ac0).mv.length:Int))=False:=eq_false (by omega);repeat simp -implicitDefEqProofs only [go_sem,seval,hA',n0,ga,hB',hC',hwk,decide_false,Int.toNat_natCast,List.length_map]
     refine⟨⟨k+1,hA,fun i hi=> ?_⟩,by simp only;omega,?_⟩
     ·rcases Nat.lt_succ_iff_lt_or_eq.1 hi with h|rfl
      ·exact hJ i h
      ·exact⟨hB,hC⟩
     refine Qaj (θ:=[(0,0)]) rfl ?_ ?_
     ·simp [Qae,lkp,ren1,ren0,Qai]
     ·exact⟨⟨rfl,rfl,rfl,rfl,rfl,.inr ⟨rfl,_,_,rfl,rfl,rfl,rfl⟩⟩,trivial⟩
    ·have hA':=lt_F hA;obtain rfl:k=p.as_.length:=by omega
     have e0:decide (FewQ p)=true:=decide_eq_true ⟨e1,e2,e3,hI,hJ⟩;rw [e0];repeat simp -implicitDefEqProofs only [go_sem,seval,hA',List.length_map]
def Qre (p:Pg):PV:=if Qcm p=true then(if p.as_.length=0 then .tup [.slc [],.int .i64 9]else .tup [.slc (allL p),.int .i64 0])else .tup [.slc [],.int .i64 2]
theorem Q7w (p:Pg) (hf:FewP p):Qaf Tryz.prog 40 [pgV p] (Qre p):=by
 have ok:=Qpu hf;have hV:=Q61 p ok;unfold Qre;cases e:Qcm p with
 |false=>
  rw [e]at hV;unfold pgV at hV ⊢;refine Qab (tb:=[]) 15 [.tmp 2,.tmp 3] [0,1,2,3,4,8] mixed Tryz.func40 rfl (by kernel_rfl) ?_;repeat (first|simp -implicitDefEqProofs only [go_sem,seval,Bool.not_false,Bool.false_eq_true,if_false]|(with_reducible refine Qaa hV ?_ ?_ ?_);rfl;rfl)
 |true=>
 rw [e]at hV;have hA:=Z3o p hf e;by_cases h3:p.as_.length=0
 ·have h3':((p.as_.length:Int)==0)=true:=by rw [h3];rfl
  rw [if_pos rfl,if_pos h3];unfold pgV at hV ⊢;refine Qab (tb:=[]) 15 [.tmp 2,.tmp 3] [0,1,2,3,4,8] mixed Tryz.func40 rfl (by kernel_rfl) ?_;repeat (first|simp -implicitDefEqProofs only [go_sem,seval,Bool.not_true,h3',List.length_map]|(with_reducible refine Qaa hV ?_ ?_ ?_);rfl;rfl)
 have h3':((p.as_.length:Int)==0)=false:=beq_eq_false_iff_ne.2 (by omega);rw [if_pos rfl,if_neg h3];generalize allL p=AL at*;unfold pgV at hV hA ⊢;refine Qab (tb:=[]) 15 [.tmp 2,.tmp 3] [0,1,2,3,4,8] mixed Tryz.func40 rfl (by kernel_rfl) ?_;repeat (first|simp -implicitDefEqProofs only [go_sem,seval,Bool.not_true,h3',List.length_map]|(with_reducible refine Qaa hV ?_ ?_ ?_);rfl;rfl|(with_reducible refine Qaa hA ?_ ?_ ?_);rfl;rfl)
theorem Q7x {s:Sg} (hv:Qbm s=true):okSg s:=by
 obtain⟨⟨v1,v2,v3,v4,v5⟩,hax, -⟩:=Qbv hv;refine⟨by unfold i64;omega,by unfold i64;omega,by unfold i64;omega,fun c hc x hx=> ?_,fun c hc=>by have:=(Qbh (hax c hc)).2.1;omega⟩;have:=Qvi hv c hc x hx;unfold i64;omega
theorem Qpx {p:List Sg} (hV:Qbq p=true): ∀s∈p,okSg s:=fun _ hs=>Q7x (Q4v hV hs)
theorem Qzc {p:Pg} (v:Qcm p=true) (h:p.as_.length≠0) {i:Nat} (hi:i<p.ns.length):Qbq (Qaq p i p.as_.length)=true:=
 (Zfe v hi (by omega) (Nat.le_refl _)).1
def sqW (l:List Wd) (s:Sg):Int:=atW Wd.ux l (posS s 0) (posS s 1) (posS s 2) s.f*atW Wd.ux l (posS s 0) (posS s 1) (posS s 2) s.f+atW Wd.uy l (posS s 0) (posS s 1) (posS s 2) s.f*atW Wd.uy l (posS s 0) (posS s 1) (posS s 2) s.f+atW Wd.uz l (posS s 0) (posS s 1) (posS s 2) s.f*atW Wd.uz l (posS s 0) (posS s 1) (posS s 2) s.f
def sqP (l:List Wd) (p:Pg) (i:Nat):List Int:=(Qaq p i p.as_.length).map (sqW l)
def sqA (l:List Wd) (p:Pg):List (List Int):=(List.range p.ns.length).map (sqP l p)
theorem Qrf (l:List Wd) (p:Pg):(sqA l p).length=p.ns.length:=by simp [sqA]
theorem Qrg (l:List Wd) (p:Pg) {i:Nat} (h:i<(sqA l p).length):(sqA l p)[i]=sqP l p i:=by simp [sqA]
theorem Qrh (l:List Wd) (p:Pg) (i:Nat):(sqP l p i).length=(Qaq p i p.as_.length).length:=by simp [sqP]
theorem Zs8 (l:List Wd) (p:Pg) {i k:Nat} (h:k<(Qaq p i p.as_.length).length):(sqP l p i)[k]'(by rw [Qrh];exact h)=sqW l (Qaq p i p.as_.length)[k]:=by simp [sqP]
def Qd6 (p:Pg) (B:Bat) (l:List Wd):Int:=if Qcm p=true∧Qba l=true∧Qbc B=true then(if p.as_.length=0 then 9 else 0)else 2
theorem Qhq {p:Pg} {B:Bat} {l:List Wd} (h:Qd6 p B l=0):Qcm p=true∧Qba l=true∧Qbc B=true∧p.as_.length≠0:=by
 unfold Qd6 at h;split at h
 ·rename_i q;split at h
  ·omega
  ·exact⟨q.1,q.2.1,q.2.2,by assumption⟩
 ·omega
theorem Qpy {p:Pg} {B:Bat} {l:List Wd} (h1:Qcm p=true) (h2:Qba l=true) (h3:Qbc B=true) (h4:p.as_.length≠0):Qd6 p B l=0:=by
 unfold Qd6;rw [if_pos ⟨h1,h2,h3⟩,if_neg h4]
theorem Qv5 (p:Pg) (B:Bat) (l:List Wd) (hp:okP p) (hl:l.length≤maxLen):Qaf Tryz.prog 31 [pgV p,baPV B,wsPV l] (.int .i64 (Qd6 p B l)):=by
 skip
 have f1:=Q61 p hp;have f2:=Qgw l hl;have f3:=Qyv B;unfold Qd6;unfold pgV at f1 ⊢;cases e1:Qcm p with
 |false=>
  rw [e1]at f1;rw [if_neg (fun h=>Bool.false_ne_true h.1)];refine Qab (tb:=[]) 22 [.tmp 6] [0,1,2,3,4,6,7,17] mixed Tryz.func31 rfl (by kernel_rfl) ?_;repeat (first|simp only [go_sem,seval,Bool.not_false]|(with_reducible refine Qaa f1 ?_ ?_ ?_);rfl;rfl)
 |true=>
 rw [e1]at f1;cases e2:Qba l with
 |false=>
  rw [e2]at f2;rw [if_neg (fun h=>Bool.false_ne_true h.2.1)];refine Qab (tb:=[]) 22 [.tmp 6] [0,1,2,3,4,6,7,17] mixed Tryz.func31 rfl (by kernel_rfl) ?_;repeat (first|simp only [go_sem,seval,Bool.not_false,Bool.not_true]|(with_reducible refine Qaa f1 ?_ ?_ ?_);rfl;rfl|(with_reducible refine Qaa f2 ?_ ?_ ?_);rfl;rfl)
 |true=>
 rw [e2]at f2;cases e3:Qbc B with
 |false=>
  rw [e3]at f3;rw [if_neg (fun h=>Bool.false_ne_true h.2.2)];unfold baPV at f3 ⊢;refine Qab (tb:=[]) 22 [.tmp 6] [0,1,2,3,4,6,7,17] mixed Tryz.func31 rfl (by kernel_rfl) ?_;repeat (first|simp only [go_sem,seval,Bool.not_false,Bool.not_true]|(with_reducible refine Qaa f1 ?_ ?_ ?_);rfl;rfl|(with_reducible refine Qaa f2 ?_ ?_ ?_);rfl;rfl|(with_reducible refine Qaa f3 ?_ ?_ ?_);rfl;rfl)
 |true=>
 rw [e3]at f3;rw [if_pos ⟨rfl,rfl,rfl⟩];unfold baPV at f3 ⊢;by_cases h3:p.as_.length=0
 ·have h3':((p.as_.length:Int)==0)=true:=by rw [h3];rfl
  rw [if_pos h3];refine Qab (tb:=[]) 22 [.tmp 6] [0,1,2,3,4,6,7,17] mixed Tryz.func31 rfl (by kernel_rfl) ?_;repeat (first|simp only [go_sem,seval,Bool.not_true,h3',List.length_map]|(with_reducible refine Qaa f1 ?_ ?_ ?_);rfl;rfl|(with_reducible refine Qaa f2 ?_ ?_ ?_);rfl;rfl|(with_reducible refine Qaa f3 ?_ ?_ ?_);rfl;rfl)
 ·have h3':((p.as_.length:Int)==0)=false:=beq_eq_false_iff_ne.2 (by omega);rw [if_neg h3];refine Qab (tb:=[]) 22 [.tmp 6] [0,1,2,3,4,6,7,17] mixed Tryz.func31 rfl (by kernel_rfl) ?_;repeat (first|simp only [go_sem,seval,Bool.not_true,h3',List.length_map]|(with_reducible refine Qaa f1 ?_ ?_ ?_);rfl;rfl|(with_reducible refine Qaa f2 ?_ ?_ ?_);rfl;rfl|(with_reducible refine Qaa f3 ?_ ?_ ?_);rfl;rfl)
theorem T_zw:Qar Tryz.prog 71=some (.agg [.int .i64 0,.int .i64 0,.int .i64 0,.int .i64 0,.int .i64 0,.int .i64 0,.int .i64 0,.int .i64 0,.int .i64 0,.int .i64 0,.int .i64 0]):=by kernel_rfl
abbrev dF (s:Int):PV:= .fn 30 [] [.rp [.int .i64 s]]
def delB (s:Int) (l:List Wd):List Wd:=Qbr s l++List.replicate (l.length-(Qbr s l).length) wd0
theorem Z0f {a b:Nat} (h:a<b):((a:Int)<(b:Int))=True:=eq_true (by omega)
theorem wdset (l:List Wd) (i:Nat) (w:Wd):(l.map wdPV).set i (.agg [.int .i64 w.lx,.int .i64 w.ly,.int .i64 w.lz,.int .i64 w.hx,.int .i64 w.hy,.int .i64 w.hz,.int .i64 w.f,.int .i64 w.t,.int .i64 w.ux,.int .i64 w.uy,.int .i64 w.uz])=(l.set i w).map wdPV:=by rw [List.map_set];rfl
theorem Zgq (s:Int) (l:List Wd) (hl:l.length≤100000) (h: ∀w∈l,s<w.t):Qct Tryz.prog 46 [.bs 1000000 11 0 l.length,dF s] [(1000000,wdB l)] (.int .i64 (-1)) [(1000000,wdB l)]:=by
 skip
 refine Qbp (tb:=[]) 19 [.tmp 4] [0,1,4,5,7,8,9,16] mixed Tryz.func46 rfl (by kernel_rfl) (by kernel_rfl) (by kernel_rfl) (by kernel_rfl) (by rfl) ?_;repeat simp only [go_sem,seval]
 refine Qau mixed (fun k:{k:Nat // k≤l.length}=>St.of [(0,.bs 1000000 11 0 l.length),(1,dF s),(7,.int .i64 (l.length:Int)),(8,.int .i64 (k.1:Int))] [(1000000,wdB l)]) (fun k=>l.length-k.1) ⟨0,Nat.zero_le _⟩ ?_ ?_
 ·refine Qaj (θ:=[(1000000,1000000)]) rfl ?_ ?_
  ·simp [Qae,lkp,ren1,ren0,Qai,dF]
  ·exact⟨⟨rfl,rfl,rfl,rfl,rfl,.inl ⟨rfl,rfl⟩⟩,trivial⟩
 ·rintro⟨k,hk⟩;simp only;by_cases hA:k<l.length
  ·skip
   have hA':=ltT hA;have n0:=nnT k;have hg:=Qk5 l k hA;have hd:=Q7c l[k] s;have hwk:=Qak (a:=k) (by omega);unfold wdPV at hd;have hlt:=h _ (List.getElem_mem hA);rw [decide_eq_false (show¬l[k].t≤s by omega)]at hd;generalize l[k]=w at*;repeat (first|simp only [go_sem,seval,hA',n0,hg,hwk,Int.toNat_natCast]|(with_reducible refine Qaa hd ?_ ?_ ?_);rfl;rfl)
   refine⟨⟨k+1,hA⟩,by simp only;omega,Qaj (θ:=[(1000000,1000000)]) rfl ?_ ?_⟩
   ·simp [Qae,lkp,ren1,ren0,Qai,dF]
   ·exact⟨⟨rfl,rfl,rfl,rfl,rfl,.inl ⟨rfl,rfl⟩⟩,trivial⟩
  ·have hA':=ltF hA;repeat simp only [go_sem,seval,hA']
   refine Qa7 (.inl rfl) ?_;simp only [go_sem,seval];refine Qaj (θ:=[(1000000,1000000)]) rfl ?_ ?_
   ·simp [Qae,lkp,ren1,ren0,Qai,dF]
   ·exact⟨⟨rfl,rfl,rfl,rfl,rfl,.inl ⟨rfl,rfl⟩⟩,trivial⟩
theorem Zgr (s:Int) (l:List Wd) (hl:l.length≤100000) (i:Nat) (hi:i<l.length) (h0: ¬s<l[i].t) (h1: ∀(j:Nat) (hj:j<i),s<(l[j]'(by omega)).t):
  Qct Tryz.prog 46 [.bs 1000000 11 0 l.length,dF s] [(1000000,wdB l)] (.int .i64 (i:Int)) [(1000000,wdB l)]:=by
 skip
 refine Qbp (tb:=[]) 19 [.tmp 4] [0,1,4,5,7,8,9,16] mixed Tryz.func46 rfl (by kernel_rfl) (by kernel_rfl) (by kernel_rfl) (by kernel_rfl) (by rfl) ?_;repeat simp only [go_sem,seval]
 refine Qau mixed (fun k:{k:Nat // k≤i}=>St.of [(0,.bs 1000000 11 0 l.length),(1,dF s),(7,.int .i64 (l.length:Int)),(8,.int .i64 (k.1:Int))] [(1000000,wdB l)]) (fun k=>i-k.1) ⟨0,Nat.zero_le _⟩ ?_ ?_
 ·refine Qaj (θ:=[(1000000,1000000)]) rfl ?_ ?_
  ·simp [Qae,lkp,ren1,ren0,Qai,dF]
  ·exact⟨⟨rfl,rfl,rfl,rfl,rfl,.inl ⟨rfl,rfl⟩⟩,trivial⟩
 ·rintro⟨k,hk⟩;simp only;have hA:k<l.length:=by omega
  have hA':=ltT hA;have n0:=nnT k;have hg:=Qk5 l k hA;have hd:=Q7c l[k] s;have hwk:=Qak (a:=k) (by omega);unfold wdPV at hd;by_cases hq:k<i
  ·have hlt:=h1 k hq;rw [decide_eq_false (show¬l[k].t≤s by omega)]at hd;generalize l[k]=w at*;repeat (first|simp only [go_sem,seval,hA',n0,hg,hwk,Int.toNat_natCast]|(with_reducible refine Qaa hd ?_ ?_ ?_);rfl;rfl)
   refine⟨⟨k+1,hq⟩,by simp only;omega,Qaj (θ:=[(1000000,1000000)]) rfl ?_ ?_⟩
   ·simp [Qae,lkp,ren1,ren0,Qai,dF]
   ·exact⟨⟨rfl,rfl,rfl,rfl,rfl,.inl ⟨rfl,rfl⟩⟩,trivial⟩
  ·obtain rfl:k=i:=by omega
   rw [decide_eq_true (show l[k].t≤s by omega)]at hd;generalize l[k]=w at*;repeat (first|simp only [go_sem,seval,hA',n0,hg,Int.toNat_natCast]|(with_reducible refine Qaa hd ?_ ?_ ?_);rfl;rfl)
   refine Qa7 (.inl rfl) ?_;simp only [go_sem,seval];refine Qaj (θ:=[(1000000,1000000)]) rfl ?_ ?_
   ·simp [Qae,lkp,ren1,ren0,Qai,dF]
   ·exact⟨⟨rfl,rfl,rfl,rfl,rfl,.inl ⟨rfl,rfl⟩⟩,trivial⟩
set_option maxHeartbeats 4000000 in
theorem Zs6 (s:Int) (l:List Wd) (hl:l.length≤100000):Qct Tryz.prog 28 [.bs 1000000 11 0 l.length,dF s] [(1000000,wdB l)] (.bs 1000000 11 0 (Qbr s l).length) [(1000000,wdB (if(Qbr s l).length=l.length then l else delB s l))]:=by
 rcases Zy0 s l with h|⟨i,hi,h0,h1⟩
 ·have hk:=Qte h;have hx:=Zgq s l hl h;rw [hk,if_pos rfl]

  refine Qbp (tb:=[(102,[(1000000,1000000)],[])]) 42 [.tmp 4] [0,1,4,5,6,7,12,19,29] mixed Tryz.func28 rfl (by kernel_rfl) (by kernel_rfl) (by kernel_rfl) (by kernel_rfl) (by rfl) ?_;repeat (first|simp only [go_sem,seval]|(with_reducible refine Qa4 hx ?_ ?_ ?_ ?_);rfl;rfl;rfl)
  refine Qa7 (.inl rfl) ?_;simp only [go_sem,seval];refine Qaj (θ:=[(1000000,1000000)]) rfl ?_ ?_
  ·simp [Qae,lkp,ren1,ren0,Qai,dF]
  ·exact⟨⟨rfl,rfl,rfl,rfl,rfl,.inl ⟨rfl,rfl⟩⟩,trivial⟩
 ·have hx:=Zgr s l hl i hi h0 h1;have hkl:=Zfr hi h0;rw [if_neg (by omega)];obtain⟨e1,e2⟩:=Q01 (s:=s) (l:=l) (i:=i) (by omega) h1;have e3:delE s l (i+1)=l:=by rw [Qyt hi h0,e2]
  have e4:(Qbr s (l.take (i+1))).length=i:=by rw [Qfj hi,if_neg h0,List.append_nil,e1,List.length_take];omega
  have hwi:=Qak (a:=i) (by omega);have nm1:((i:Int)== -1)=false:=beq_eq_false_iff_ne.2 (by omega)

  refine Qbp (tb:=[(102,[(1000000,1000000)],[])]) 42 [.tmp 4] [0,1,4,5,6,7,12,19,29] mixed Tryz.func28 rfl (by kernel_rfl) (by kernel_rfl) (by kernel_rfl) (by kernel_rfl) (by rfl) ?_;repeat (first|simp only [go_sem,seval,nm1,hwi]|(with_reducible refine Qa4 hx ?_ ?_ ?_ ?_);rfl;rfl;rfl)
  refine Qau mixed (fun j:{j:Nat // i+1≤j∧j≤l.length∧(Qbr s (l.take j)).length<j}=>St.of [(0,.bs 1000000 11 0 l.length),(1,dF s),(5,.int .i64 ((Qbr s (l.take j.1)).length:Int)),(6,.int .i64 (j.1:Int))] [(1000000,wdB (delE s l j.1))]) (fun j=>l.length-j.1) ⟨i+1,Nat.le_refl _,hi,by omega⟩ ?_ ?_
  ·simp only [e3,e4];refine Qaj (θ:=[(1000000,1000000)]) rfl ?_ ?_
   ·simp [Qae,lkp,ren1,ren0,Qai,dF]
   ·exact⟨⟨rfl,rfl,rfl,rfl,rfl,.inl ⟨rfl,rfl⟩⟩,trivial⟩
  ·rintro⟨j,hj0,hj,hK⟩;simp only;have hkt:=Qkf s l j;by_cases hA:j<l.length
   ·have hA':=ltT hA;have n0:=nnT j;have hg:((delE s l j).map wdPV)[j]? =some (wdPV l[j]):=by rw [List.getElem?_map,Zfq hkt,List.getElem?_eq_getElem hA];rfl
    have hd:=Q7c l[j] s;have hwj:=Qak (a:=j) (by omega);have hlen:((delE s l j).map wdPV).length=l.length:=by rw [List.length_map,Ql6 s l j hj]
    unfold wdPV at hd;by_cases hq:s<l[j].t
    ·rw [decide_eq_false (show¬l[j].t≤s by omega)]at hd;have s1:=Zr4 hA hq;have s2:(Qbr s (l.take (j+1))).length=(Qbr s (l.take j)).length+1:=by rw [Qfj hA,if_pos hq,List.length_append];rfl
     have hst:=wdset (delE s l j) (Qbr s (l.take j)).length l[j];rw [←s1]at hst;have hKl:(Qbr s (l.take j)).length<(delE s l j).length:=by rw [Ql6 s l j hj];omega
     obtain⟨w',hw'⟩: ∃w',((delE s l j).map wdPV)[(Qbr s (l.take j)).length]? =some (wdPV w'):=⟨_,Qk5 _ _ hKl⟩;clear s1 hKl;generalize (Qbr s (l.take j)).length=K at*;generalize hD:delE s l (j+1)=D at*;generalize l[j]=w at*;have wK:=Qak (a:=K) (by omega);have nK:=nnT K;have lK:=Z0f (show K<l.length by omega);repeat (first|simp only [go_sem,seval,T_zw,hA',n0,hg,hwj,wK,nK,lK,hst,hw',Int.toNat_natCast]|(with_reducible refine Qaa hd ?_ ?_ ?_);rfl;rfl)
     refine⟨⟨j+1,by omega,hA,by rw [s2];omega⟩,by simp only;omega,Qaj (θ:=[(1000000,1000000)]) rfl ?_ ?_⟩
     ·simp only [s2];simp [Qae,lkp,ren1,ren0,Qai,dF]
     ·simp only [hD];exact⟨⟨rfl,rfl,rfl,rfl,rfl,.inl ⟨rfl,rfl⟩⟩,trivial⟩
    ·rw [decide_eq_true (show l[j].t≤s by omega)]at hd;have s1:=Qyt hA hq;have s2:(Qbr s (l.take (j+1))).length=(Qbr s (l.take j)).length:=by rw [Qfj hA,if_neg hq,List.append_nil]
     generalize (Qbr s (l.take j)).length=K at*;generalize l[j]=w at*;generalize hD:delE s l j=D at*;repeat (first|simp only [go_sem,seval,T_zw,hA',n0,hg,hwj,Int.toNat_natCast]|(with_reducible refine Qaa hd ?_ ?_ ?_);rfl;rfl)
     refine⟨⟨j+1,by omega,hA,by rw [s2];omega⟩,by simp only;omega,Qaj (θ:=[(1000000,1000000)]) rfl ?_ ?_⟩
     ·simp only [s2];simp [Qae,lkp,ren1,ren0,Qai,dF]
     ·simp only [s1];exact⟨⟨rfl,rfl,rfl,rfl,rfl,.inl ⟨rfl,rfl⟩⟩,trivial⟩
   ·have hA':=ltF hA;obtain rfl:j=l.length:=by omega
    have hKl:(Qbr s (l.take l.length)).length=(Qbr s l).length:=by rw [List.take_length]
    have c1:(((Qbr s l).length:Int)≤(l.length:Int))=True:=eq_true (by omega);have c2:((Qbr s l).length<l.length)=True:=eq_true hkl;have nk:=nnT (Qbr s l).length;have f1:(Nat.ble 0 (Qbr s l).length&&((Qbr s l).length+(l.length-(Qbr s l).length)).ble ((delE s l l.length).map wdPV).length)=true:=by
     rw [List.length_map,Ql6 s l l.length (Nat.le_refl _),Bool.and_eq_true];exact⟨Nat.ble_eq_true_of_le (Nat.zero_le _),Nat.ble_eq_true_of_le (by omega)⟩
    have f2:((delE s l l.length).map wdPV).take (Qbr s l).length++List.replicate (l.length-(Qbr s l).length) (PV.agg [.int .i64 0,.int .i64 0,.int .i64 0,.int .i64 0,.int .i64 0,.int .i64 0,.int .i64 0,.int .i64 0,.int .i64 0,.int .i64 0,.int .i64 0])++
      ((delE s l l.length).map wdPV).drop ((Qbr s l).length+(List.replicate (l.length-(Qbr s l).length) (PV.agg [.int .i64 0,.int .i64 0,.int .i64 0,.int .i64 0,.int .i64 0,.int .i64 0,.int .i64 0,.int .i64 0,.int .i64 0,.int .i64 0,.int .i64 0])).length)=(delB s l).map wdPV:=by
     have g1:(delE s l l.length).take (Qbr s l).length=Qbr s l:=by
      unfold delE;rw [List.take_length];exact List.take_left' rfl
     have g2:((delE s l l.length).map wdPV).drop ((Qbr s l).length+(List.replicate (l.length-(Qbr s l).length) (PV.agg [.int .i64 0,.int .i64 0,.int .i64 0,.int .i64 0,.int .i64 0,.int .i64 0,.int .i64 0,.int .i64 0,.int .i64 0,.int .i64 0,.int .i64 0])).length)=[]:=List.drop_eq_nil_of_le (by rw [List.length_map,Ql6 s l l.length (Nat.le_refl _),List.length_replicate];omega);rw [g2,←List.map_take,g1,List.append_nil];unfold delB;rw [List.map_append,List.map_replicate];rfl
    simp only [hKl];repeat simp only [go_sem,seval,T_zw,hA',c1,c2,nk,f1,f2,Int.toNat_natCast]
    refine Qa7 (.inl rfl) ?_;simp only [go_sem,seval];refine Qaj (θ:=[(1000000,1000000)]) rfl ?_ ?_
    ·simp [Qae,lkp,ren1,ren0,Qai,dF]
    ·exact⟨⟨rfl,rfl,rfl,rfl,rfl,.inl ⟨rfl,rfl⟩⟩,trivial⟩
theorem Zs9 (s:Int):Qaf Tryz.prog 46 [.slc [],dF s] (.int .i64 (-1)):=by
 have z:((0:Int)<((0:Nat):Int))=False:=eq_false (by decide);refine Qab (tb:=[]) 19 [.tmp 4] [0,1,4,5,7,8,9,16] mixed Tryz.func46 rfl (by kernel_rfl) ?_;repeat simp -implicitDefEqProofs only [go_sem,seval,List.length_nil]
 refine Qcf mixed [0] ?_;repeat simp -implicitDefEqProofs only [go_sem,seval,z]
theorem Zgt (s:Int):Qaf Tryz.prog 28 [.slc [],dF s] (.slc []):=by
 have hx:=Zs9 s;have nm1:((-1:Int)== -1)=true:=rfl;refine Qab (tb:=[]) 42 [.tmp 4] [0,1,4,5,6,7,12,19,29] mixed Tryz.func28 rfl (by kernel_rfl) ?_;repeat (first|simp -implicitDefEqProofs only [go_sem,seval,nm1]|(with_reducible refine Qaa hx ?_ ?_ ?_);rfl;rfl)
theorem Zgu (s:Int) (l:List Wd): ∃R:List Wd,(if(Qbr s l).length=l.length then l else delB s l)=Qbr s l++R∧(Qbr s l).length+R.length=l.length:=by
 have hle:=Qhj s l;by_cases h:(Qbr s l).length=l.length
 ·refine⟨[],?_,by simpa using h⟩;rw [if_pos h,List.append_nil];unfold Qbr at h ⊢;exact(List.filter_eq_self.2 (List.length_filter_eq_length_iff.1 h)).symm
 ·rw [if_neg h];refine⟨List.replicate (l.length-(Qbr s l).length) wd0,rfl,?_⟩;rw [List.length_replicate];omega
theorem Z0j (l:List Wd):(((l.map wdPV).flatMap PV.cells).all flatc)=true:=by
 rw [List.all_flatMap,List.all_map,List.all_eq_true];intro _ _;rfl
def mvPV (l:List Wd) (s:Int):PV:=if Qba l=true∧0≤s∧s≤3600000 then .tup [wsPV (Qcw s l),.int .i64 0]else .tup [.slc [],.int .i64 2]
set_option maxHeartbeats 4000000 in
theorem Qil (l:List Wd) (s:Int) (hl:l.length≤maxLen):Qaf Tryz.prog 11 [wsPV l,.int .i64 s] (mvPV l s):=by
 have v1:=Qgw l hl;unfold mvPV;cases hv:Qba l with
 |false=>
  rw [hv]at v1;rw [if_neg (fun h=>Bool.false_ne_true h.1)];refine Qab (tb:=[]) 53 [.tmp 4,.tmp 5] [0,1,3,4,5,6,7,18,24,25,26] mixed Tryz.func11 rfl (by kernel_rfl) ?_;repeat (first|simp -implicitDefEqProofs only [go_sem,seval,Bool.not_false]|(with_reducible refine Qaa v1 ?_ ?_ ?_);rfl;rfl)
 |true=>
 rw [hv]at v1;by_cases h1:0≤s
 case neg=>
  have h1':(s<0)=True:=eq_true (by omega);rw [if_neg (fun h=>h1 h.2.1)];refine Qab (tb:=[]) 53 [.tmp 4,.tmp 5] [0,1,3,4,5,6,7,18,24,25,26] mixed Tryz.func11 rfl (by kernel_rfl) ?_;repeat (first|simp -implicitDefEqProofs only [go_sem,seval,Bool.not_true,h1',decide_true]|(with_reducible refine Qaa v1 ?_ ?_ ?_);rfl;rfl)
 have h1':(s<0)=False:=eq_false (by omega);by_cases h2:s≤3600000
 case neg=>
  have h2':(3600000<s)=True:=eq_true (by omega);rw [if_neg (fun h=>h2 h.2.2)];refine Qab (tb:=[]) 53 [.tmp 4,.tmp 5] [0,1,3,4,5,6,7,18,24,25,26] mixed Tryz.func11 rfl (by kernel_rfl) ?_;repeat (first|simp -implicitDefEqProofs only [go_sem,seval,Bool.not_true,h1',h2',decide_true,decide_false]|(with_reducible refine Qaa v1 ?_ ?_ ?_);rfl;rfl)
 have h2':(3600000<s)=False:=eq_false (by omega);rw [if_pos ⟨rfl,h1,h2⟩];obtain⟨hvw,h8⟩:=Qbo hv;by_cases hn:l=[]
 ·subst hn;have c1:=Q07;have c2:=Zgt s;rw [show Qcw s []=[]from rfl];simp only [wsPV,List.map_nil]at v1 ⊢;have z:((0:Int)<((0:Nat):Int))=False:=eq_false (by decide);refine Qab (tb:=[]) 53 [.tmp 4,.tmp 5] [0,1,3,4,5,6,7,18,24,25,26] mixed Tryz.func11 rfl (by kernel_rfl) ?_;repeat (first|simp -implicitDefEqProofs only [go_sem,seval,Bool.not_true,h1',h2',decide_false]|(with_reducible refine Qaa v1 ?_ ?_ ?_);rfl;rfl|(with_reducible refine Qaa c1 ?_ ?_ ?_);rfl;rfl|(with_reducible refine Qaa c2 ?_ ?_ ?_);rfl;rfl)
  refine Qcf mixed [0] ?_;repeat simp -implicitDefEqProofs only [go_sem,seval,z]
 have c1:=Q7d l hn (by omega);have c2:=Zs6 s l (by omega);obtain⟨R,eR,lR⟩:=Zgu s l;rw [eR]at c2;have hle:=Qhj s l;have hkv: ∀w∈Qbr s l,vWd w=true∧s<w.t:=fun w hw=>by
  obtain⟨q1,q2⟩:=List.mem_filter.1 hw;exact⟨hvw w q1,of_decide_eq_true q2⟩
 unfold Qcw;generalize hK:Qbr s l=K at*;have hfl:=Z0j (K++R);have bl7:Nat.blt 1700 1000000=true:=rfl

 refine Qab (tb:=[(301,[],[(7,1700)]),(303,[(1000000,1700)],[])]) 53 [.tmp 4,.tmp 5] [0,1,3,4,5,6,7,18,24,25,26] mixed Tryz.func11 rfl (by kernel_rfl) ?_;repeat (first|simp -implicitDefEqProofs only [go_sem,seval,Bool.not_true,h1',h2',decide_false,bl7,hfl]|(with_reducible refine Qaa v1 ?_ ?_ ?_);rfl;rfl|(with_reducible refine Qa4 c1 ?_ ?_ ?_ ?_);rfl;rfl;rfl|(with_reducible refine Qa4 c2 ?_ ?_ ?_ ?_);rfl;rfl;rfl)
 refine Qau mixed (fun i:{i:Nat // i≤K.length}=>St.of [(3,.bp 0 1 0 0),(6,.bs 1700 11 0 K.length),(24,.int .i64 (K.length:Int)),(25,.int .i64 (i.1:Int))] [(0,{els:=[.int .i64 s],esz:=1,ety:=3,fro:=0,live:=true,arr:=false}),(1700,wdB (mvdE s K i.1++R))]) (fun i=>K.length-i.1) ⟨0,Nat.zero_le _⟩ ?_ ?_
 ·simp only [Q6b];refine Qaj (θ:=[(0,0),(1700,1700)]) rfl ?_ ?_
  ·simp [Qae,lkp,ren1,ren0,Qai]
  ·exact⟨⟨rfl,rfl,rfl,rfl,rfl,.inr ⟨rfl,_,_,rfl,rfl,rfl,rfl⟩⟩,⟨rfl,rfl,rfl,rfl,rfl,.inl ⟨rfl,rfl⟩⟩,trivial⟩
 ·rintro⟨i,hi⟩;simp only;by_cases hA:i<K.length
  ·have hA':=ltT hA;have n0:=nnT i;have hw:=Qfi (hkv _ (List.getElem_mem hA)).1;have hg:((mvdE s K i++R).map wdPV)[i]? =some (wdPV K[i]):=by
    rw [List.getElem?_map,List.getElem?_append_left (by rw [Qhk];exact hA),Zfs hA];rfl
   have hst:((mvdE s K i++R).map wdPV).set i (PV.agg [.int .i64 K[i].lx,.int .i64 K[i].ly,.int .i64 K[i].lz,.int .i64 K[i].hx,.int .i64 K[i].hy,.int .i64 K[i].hz,.int .i64 (max 0 (K[i].f-s)),.int .i64 (K[i].t-s),.int .i64 K[i].ux,.int .i64 K[i].uy,.int .i64 K[i].uz])=(mvdE s K (i+1)++R).map wdPV:=by
    refine(wdset (mvdE s K i++R) i (mvW s K[i])).trans ?_;rw [List.set_append_left _ _ (by rw [Qhk];exact hA),Zft hA]
   have hwi:=Qak (a:=i) (by omega);have w1:IntKind.i64.wrap (K[i].f-s)=K[i].f-s:=Qag (by omega) (by omega);have w2:IntKind.i64.wrap (K[i].t-s)=K[i].t-s:=Qag (by omega) (by omega);have hlen:((mvdE s K i++R).map wdPV).length=K.length+R.length:=by rw [List.length_map,List.length_append,Qhk]
   have b1:(i<K.length+R.length)=True:=eq_true (by omega);have hss: ∀X:PV,(((mvdE s K i++R).map wdPV).set i X)[i]? =some X:=fun X=>List.getElem?_set_self (by rw [List.length_map,List.length_append,Qhk];omega);generalize hD1:mvdE s K (i+1)++R=D1 at*;generalize mvdE s K i++R=D0 at*;generalize K[i]=w at*;repeat (first|simp -implicitDefEqProofs only [go_sem,seval,hA',n0,hg,hst,hss,List.set_set,hwi,w1,w2,Zxy,Int.toNat_natCast]|(with_reducible refine And.intro (Qac _ _ (by kernel_rfl)) ?_))
   refine⟨⟨i+1,hA⟩,by simp only;omega,Qaj (θ:=[(0,0),(1700,1700)]) rfl ?_ ?_⟩
   ·simp [Qae,lkp,ren1,ren0,Qai]
   ·simp only [hD1];exact⟨⟨rfl,rfl,rfl,rfl,rfl,.inr ⟨rfl,_,_,rfl,rfl,rfl,rfl⟩⟩,⟨rfl,rfl,rfl,rfl,rfl,.inl ⟨rfl,rfl⟩⟩,trivial⟩
  ·have hA':=ltF hA;obtain rfl:i=K.length:=by omega
   have ht:((mvdE s K K.length++R).map wdPV).take K.length=(K.map (mvW s)).map wdPV:=by
    rw [←List.map_take,List.take_left' (by rw [Qhk]),Zfu]
   have hok:=Zqj (mvdE s K K.length++R);have b2:(K.length≤(mvdE s K K.length++R).length)=True:=eq_true (by rw [List.length_append,Qhk];omega);generalize mvdE s K K.length++R=D0 at*;repeat simp -implicitDefEqProofs only [go_sem,seval,hA',ht,b2,decide_true,List.length_map]
def sqO (W:List Wd) (p:Pg):List (List PV):=(sqA W p).flatten.map fun n=>[.int .i64 n]
theorem Zta {W:List Wd} {p:Pg} {i k:Nat} (h:i<p.ns.length) (hk:k<(Qaq p i p.as_.length).length):(sqO W p)[befL (sqA W p) i+k]? =some [.int .i64 (sqW W (Qaq p i p.as_.length)[k])]:=by
 have h1:i<(sqA W p).length:=by rw [Qrf];exact h
 have h2:k<(sqA W p)[i].length:=by rw [Qrg _ _ h1,Qrh];exact hk
 have h3:=Qhl h1 h2;unfold sqO;rw [List.getElem?_map,h3];simp [Qrg,Zs8,hk]
theorem Ztb (W:List Wd) (p:Pg):(sqO W p).length=befL (sqA W p) p.ns.length:=by
 have h:=Zfv (sqA W p);rw [Qrf]at h;rw [h,sqO,List.length_map]
theorem Zgv (W:List Wd) (p:Pg) {i:Nat} (h:i<p.ns.length):befL (sqA W p) (i+1)=befL (sqA W p) i+(Qaq p i p.as_.length).length:=by
 have h1:i<(sqA W p).length:=by rw [Qrf];exact h
 rw [Qtf h1,Qrg _ _ h1,Qrh]
theorem Zgw (W:List Wd) (p:Pg) {i k:Nat} (h:i<p.ns.length) (hk:k≤(Qaq p i p.as_.length).length):befL (sqA W p) i+k≤(sqO W p).length:=by
 have h1:i<(sqA W p).length:=by rw [Qrf];exact h
 have h2:=Q6d h1 (k:=k) (by rw [Qrg _ _ h1,Qrh];exact hk);rw [sqO,List.length_map];exact h2
theorem Q7y {p:Pg} {W:List Wd} (v:Qcm p=true) (hw:Qba W=true) (hN:p.as_.length≠0) {i:Nat} (hi:i<p.ns.length):
  Qaf Tryz.prog 45 [wsPV W,Qdx (Qaq p i p.as_.length)] (.tup [.slc ((Qaq p i p.as_.length).map (alV W)),.int .i64 0])∧(Qaq p i p.as_.length).length≤256:=by
 have hV:=Qzc v hN hi;have hl:=(Qcv hV).2.2;have h8:=(Qbo hw).2;have h:=Q7a W (Qaq p i p.as_.length) (Qpx hV) (Nat.le_trans h8 (by decide)) (by omega);rw [if_pos ⟨hw,hV⟩]at h;exact⟨h,hl⟩
theorem Zgx {x y z:Int} (hx: -40000≤x∧x≤40000) (hy: -40000≤y∧y≤40000) (hz: -40000≤z∧z≤40000):
  IntKind.i64.wrap (x*x)=x*x∧IntKind.i64.wrap (y*y)=y*y∧IntKind.i64.wrap (z*z)=z*z∧IntKind.i64.wrap (x*x+y*y)=x*x+y*y∧IntKind.i64.wrap (x*x+y*y+z*z)=x*x+y*y+z*z∧0≤x*x+y*y+z*z∧x*x+y*y+z*z≤4800000000:=by
 have q: ∀a:Int, -40000≤a∧a≤40000→0≤a*a∧a*a≤1600000000:=fun a h=>by
  have h1:0≤(a+40000)*(40000-a):=Int.mul_nonneg (by omega) (by omega);have h2:(a+40000)*(40000-a)=1600000000-a*a:=by
   rw [Int.mul_sub,Int.add_mul,Int.add_mul];omega
  have h3:0≤a*a:=by
   rcases Int.le_total 0 a with h|h
   ·exact Int.mul_nonneg h h
   ·exact Int.mul_nonneg_of_nonpos_of_nonpos h h
  omega
 have a1:=q x hx;have a2:=q y hy;have a3:=q z hz;exact⟨Qag (by omega) (by omega),Qag (by omega) (by omega),Qag (by omega) (by omega),Qag (by omega) (by omega),Qag (by omega) (by omega),by omega,by omega⟩
set_option maxHeartbeats 8000000 in
theorem Zgy (p:Pg) (W:List Wd) (hf:FewP p) (v:Qcm p=true) (hw:Qba W=true) (hN:p.as_.length≠0):Qj3 Tryz.prog 47 [.rp (pgV p).cells,.rp [wsPV W]] (sqO W p):=by
 have hP:=Q7w p hf;unfold Qre at hP;rw [if_pos v,if_neg hN]at hP;have hal:=Qyy p;have hgA: ∀i,i<p.ns.length→(allL p)[i]? =some (pV (Qaq p i p.as_.length)):=fun i h=>Qyz h;have hn5:=hf.1;have hOl:=Ztb W p;have hroom:=fun i k h hk=>Zgw W p (i:=i) (k:=k) h hk;have hget:=fun i k h hk=>Zta (W:=W) (p:=p) (i:=i) (k:=k) h hk;have hsuc:=fun i h=>Zgv W p (i:=i) h;have hone:=fun i h=>Q7y v hw hN (i:=i) h;generalize allL p=AL at*;generalize sqO W p=OO at*;generalize hbe:befL (sqA W p)=be at*;have be0:be 0=0:=by rw [←hbe];exact Q6c _
 unfold pgV at hP ⊢;simp only [PV.cells];unfold pV at hgA;unfold Qdx at hone;refine Qj6 (tb:=[]) 57 [0,1,2,4,7,8,11,17,18,19,20,29,30,31,32,54] mixed Tryz.func47 rfl (by kernel_rfl) (by kernel_rfl) (by kernel_rfl) (by kernel_rfl) fun l stop=> ?_;repeat (first|simp -implicitDefEqProofs only [go_sem,seval,hal]|(with_reducible refine Qaa hP ?_ ?_ ?_);rfl;rfl)
 refine Qau mixed (fun i:{i:Nat // i≤p.ns.length∧be i≤stop}=>St.ofG [(0,.yld l stop),(1,.rp [.slc (p.ns.map PV.str),.slc (p.hs.map v3PV),.slc (p.as_.map acV)]),(2,.rp [wsPV W]),(17,.slc AL),(18,.int .i64 (p.ns.length:Int)),(19,.int .i64 (i.1:Int))] [] (OO.take (be i.1)) (some (l,stop,OO))) (fun i=>p.ns.length-i.1) ⟨0,Nat.zero_le _,by rw [be0];exact Nat.zero_le _⟩ ?_ ?_
 ·simp only [be0,List.take_zero];refine Qax ?_;simp [Qae,lkp,ren1,ren0,Qai]
 ·rintro⟨i,hi,hst⟩;simp only;by_cases hA:i<p.ns.length
  ·have hA':=ltT hA;have n0:=nnT i;have hgi:=hgA i hA;obtain⟨hAl,h256⟩:=hone i hA;have hwi:=Qak (a:=i) (by omega);repeat (first|simp -implicitDefEqProofs only [go_sem,seval,hA',n0,hgi,Int.toNat_natCast,List.length_map]|(with_reducible refine Qaa hAl ?_ ?_ ?_);rfl;rfl)
   refine Qau mixed (fun k:{k:Nat // k≤(Qaq p i p.as_.length).length∧be i+k≤stop}=>St.ofG [(0,.yld l stop),(1,.rp [.slc (p.ns.map PV.str),.slc (p.hs.map v3PV),.slc (p.as_.map acV)]),(2,.rp [wsPV W]),(17,.slc AL),(18,.int .i64 (p.ns.length:Int)),(19,.int .i64 (i:Int)),(29,.slc ((Qaq p i p.as_.length).map (alV W))),(30,.int .i64 ((Qaq p i p.as_.length).length:Int)),(31,.int .i64 (k.1:Int))] [] (OO.take (be i+k.1)) (some (l,stop,OO))) (fun k=>(Qaq p i p.as_.length).length-k.1) ⟨0,Nat.zero_le _,by omega⟩ ?_ ?_
   ·simp only [Nat.add_zero];refine Qax ?_;simp [Qae,lkp,ren1,ren0,Qai]
   ·rintro⟨k,hk,hstk⟩;simp only;by_cases hB:k<(Qaq p i p.as_.length).length
    ·skip
     have b1:=Qgj (.inl rfl) hw (posS (Qaq p i p.as_.length)[k] 0) (posS (Qaq p i p.as_.length)[k] 1) (posS (Qaq p i p.as_.length)[k] 2) (Qaq p i p.as_.length)[k].f;have b2:=Qgj (.inr (.inl rfl)) hw (posS (Qaq p i p.as_.length)[k] 0) (posS (Qaq p i p.as_.length)[k] 1) (posS (Qaq p i p.as_.length)[k] 2) (Qaq p i p.as_.length)[k].f;have b3:=Qgj (.inr (.inr rfl)) hw (posS (Qaq p i p.as_.length)[k] 0) (posS (Qaq p i p.as_.length)[k] 1) (posS (Qaq p i p.as_.length)[k] 2) (Qaq p i p.as_.length)[k].f;obtain⟨w1,w2,w3,w4,w5,q1,q2⟩:=Zgx b1 b2 b3;have hg:=Zqc W (Qaq p i p.as_.length) hB;have n1:=nnT k;have hwk:=Qak (a:=k) (by omega);have hB':=ltT hB;have hgt:=hget i k hA hB;have hrm:=hroom i (k+1) hA hB;have hlen:(OO.take (be i+k)).length=be i+k:=by rw [List.length_take];omega
     have htk:OO.take (be i+(k+1))=OO.take (be i+k)++[[.int .i64 (sqW W (Qaq p i p.as_.length)[k])]]:=by rw [←Nat.add_assoc,List.take_add_one,hgt];rfl
     have hst':(be i+k≤stop)=True:=eq_true hstk;have hal2:((Qaq p i p.as_.length).map (alV W)).length=(Qaq p i p.as_.length).length:=List.length_map ..;unfold sqW at hgt htk;generalize (Qaq p i p.as_.length).map (alV W)=BL at*;generalize atW Wd.ux W (posS (Qaq p i p.as_.length)[k] 0) (posS (Qaq p i p.as_.length)[k] 1) (posS (Qaq p i p.as_.length)[k] 2) (Qaq p i p.as_.length)[k].f=x at*;generalize atW Wd.uy W (posS (Qaq p i p.as_.length)[k] 0) (posS (Qaq p i p.as_.length)[k] 1) (posS (Qaq p i p.as_.length)[k] 2) (Qaq p i p.as_.length)[k].f=y at*;generalize atW Wd.uz W (posS (Qaq p i p.as_.length)[k] 0) (posS (Qaq p i p.as_.length)[k] 1) (posS (Qaq p i p.as_.length)[k] 2) (Qaq p i p.as_.length)[k].f=z at*;generalize (Qaq p i p.as_.length).length=m at*;by_cases hlt:be i+k<stop
     ·have hlt':(be i+k<stop)=True:=eq_true hlt;repeat simp -implicitDefEqProofs only [go_sem,seval,hB',n1,hg,hwk,w1,w2,w3,w4,w5,hlen,hgt,hst',hlt',Int.toNat_natCast]
      refine⟨⟨k+1,hB,by omega⟩,by simp only;omega,?_⟩;simp only [htk];refine Qax ?_;simp [Qae,lkp,ren1,ren0,Qai]
     ·have hlt':(be i+k<stop)=False:=eq_false hlt;have hs:be i+k=stop:=by omega
      have htk2:OO.take (stop+1)=OO.take (be i+k)++[[.int .i64 (x*x+y*y+z*z)]]:=by rw [←hs,Nat.add_assoc];exact htk
      repeat simp -implicitDefEqProofs only [go_sem,seval,hB',n1,hg,w1,w2,w3,w4,w5,hlen,hgt,hst',hlt',Qe3,htk2,Int.toNat_natCast]
    ·have hB':=ltF hB;have e1:=hsuc i hA;repeat simp -implicitDefEqProofs only [go_sem,seval,hB',hwi]
     refine⟨⟨i+1,hA,by omega⟩,by simp only;omega,?_⟩;simp only [show be (i+1)=be i+k by omega];refine Qax ?_;simp [Qae,lkp,ren1,ren0,Qai]
  ·have hA':=ltF hA;obtain rfl:i=p.ns.length:=by omega
   have e1:OO.take (be p.ns.length)=OO:=List.take_of_length_le (by omega);have e2:OO.take (stop+1)=OO:=List.take_of_length_le (by omega);rw [e1];repeat simp -implicitDefEqProofs only [go_sem,seval,hA',Qe3,e2]
def bat0:Bat:=⟨0,0,0,0,0⟩
theorem Ztc:Qbc bat0=true:=by decide+kernel
theorem Zgz (p:Pg) (W:List Wd):Qaf Tryz.prog 32 [pgV p,wsPV W] (.fn 47 [] [.rp (pgV p).cells,.rp [wsPV W]]):=by
 unfold pgV;refine Qab (tb:=[]) 6 [.tmp 4] [0,1,2,3,4] mixed Tryz.func32 rfl (by kernel_rfl) ?_;repeat simp -implicitDefEqProofs only [go_sem,seval,PV.cells]
theorem T_zb:Qar Tryz.prog 28=some (.agg [.int .i64 0,.int .i64 0,.int .i64 0,.int .i64 0,.int .i64 0]):=by kernel_rfl
theorem T_sq:tyFn Tryz.prog 76=true:=by kernel_rfl
theorem Qnl (p:Pg) (B:Bat) (W:List Wd):Qd6 p B W=0∨Qd6 p B W=2∨Qd6 p B W=9:=by
 unfold Qd6;split
 ·split
  ·exact .inr (.inr rfl)
  ·exact .inl rfl
 ·exact .inr (.inl rfl)
def wstI (W:List Wd) (p:Pg):Int:=Qi3 (sqA W p).flatten
def Q7z (W:List Wd) (p:Pg):PV:= .tup [.int .i64 (if Qd6 p bat0 W=0 then wstI W p else 0),.int .i64 (Qd6 p bat0 W)]
theorem n2_0:((2:Int) != 0)=true:=rfl
theorem n9_0:((9:Int) != 0)=true:=rfl
theorem n0_0:((0:Int) != 0)=false:=rfl
set_option maxHeartbeats 4000000 in
theorem Qv6 (p:Pg) (W:List Wd) (hf:FewP p) (hl:W.length≤maxLen):Qaf Tryz.prog 14 [pgV p,wsPV W] (Q7z W p):=by
 have hg:=Qv5 p bat0 W (Qpu hf) hl;have ha:=Zgz p W;have hb:baPV bat0= .agg [.int .i64 0,.int .i64 0,.int .i64 0,.int .i64 0,.int .i64 0]:=rfl;rw [hb]at hg;unfold Q7z;rcases Qnl p bat0 W with e|e|e
 case inr.inl=>
  rw [e]at hg ⊢;unfold pgV at hg ⊢;rw [if_neg (by decide)];refine Qab (tb:=[]) 24 [.tmp 4,.tmp 5] [0,1,2,4,5,6,7,8,14,18,19] mixed Tryz.func14 rfl (by kernel_rfl) ?_;repeat (first|simp only [go_sem,seval,T_zb,n2_0]|(with_reducible refine Qaa hg ?_ ?_ ?_);rfl;rfl)
 case inr.inr=>
  rw [e]at hg ⊢;unfold pgV at hg ⊢;rw [if_neg (by decide)];refine Qab (tb:=[]) 24 [.tmp 4,.tmp 5] [0,1,2,4,5,6,7,8,14,18,19] mixed Tryz.func14 rfl (by kernel_rfl) ?_;repeat (first|simp only [go_sem,seval,T_zb,n9_0]|(with_reducible refine Qaa hg ?_ ?_ ?_);rfl;rfl)
 rw [e]at hg ⊢;rw [if_pos rfl];obtain⟨v,hw, -,hN⟩:=Qhq e;have hY:=Zgy p W hf v hw hN;unfold wstI sqO at*;generalize (sqA W p).flatten=xs at*;unfold pgV at hg ha hY ⊢;simp only [PV.cells]at ha hY;have hlO:(xs.map fun n=>[PV.int .i64 n]).length=xs.length:=List.length_map ..;have hmin:min (xs.map fun n=>[PV.int .i64 n]).length (xs.length+1)=xs.length:=by rw [hlO];omega
 have htk:Qi3 (xs.take xs.length)=Qi3 xs:=Q6e (Nat.le_refl _);refine Qab (tb:=[]) 24 [.tmp 4,.tmp 5] [0,1,2,4,5,6,7,8,14,18,19] mixed Tryz.func14 rfl (by kernel_rfl) ?_;repeat (first|simp only [go_sem,seval,T_zb,n0_0]|(with_reducible refine Qaa hg ?_ ?_ ?_);rfl;rfl|(with_reducible refine Qaa ha ?_ ?_ ?_);rfl;rfl)
 refine Qoy mixed hY rfl rfl _ rfl [(1000000,400)] [1000000] rfl [(7,.bp 1000000 1 0 0)] (fun j=>[(1000000,{els:=[.int .i64 (Qi3 (xs.take j))],esz:=1,ety:=3,fro:=0,live:=true,arr:=false})]) rfl rfl ?_ ?_ ?_ xs.length .normal (fun h=>by rw [hlO]at h;omega) (fun j _ _=>by simp [lkp]) ?_ rfl ?_
  [(400,1000000)] [(7,.bp 400 1 0 0)] [(400,{els:=[.int .i64 (Qi3 xs)],esz:=1,ety:=3,fro:=0,live:=true,arr:=false})] rfl rfl ?_ ?_ (fun _=> ?_) (fun h=>by rw [hlO]at h;omega)
 ·simp [Qae,lkp,ren1,ren0,Qai]
 ·simp only [List.take_zero,show Qi3 ([]:List Int)=0 from rfl];exact⟨⟨rfl,rfl,rfl,rfl,rfl,.inr ⟨rfl,_,_,rfl,rfl,rfl,rfl⟩⟩,trivial⟩
 ·simp [Qae,lkp,ren1,ren0,Qai,Qj4]
 ·intro k args h;simp only [List.getElem?_map,Option.map_eq_some_iff]at h;obtain⟨x, -,rfl⟩:=h;rfl
 ·intro k args h hk;simp only [List.getElem?_map,Option.map_eq_some_iff]at h;obtain⟨x,hx,rfl⟩:=h;have hm:=Q03 hx;have hkl:k<xs.length:=(List.getElem?_eq_some_iff.1 hx).1;repeat simp only [go_sem,seval,pvars,List.toList_toArray]
  refine⟨by simp [lkp],?_⟩;generalize Qi3 (xs.take k)=M at*;repeat simp only [go_sem,Zxy]
  refine⟨by omega,?_⟩;simp only [hm];refine Qaj (θ:=[(1000000,1000000)]) rfl ?_ ?_
  ·simp [Qae,lkp,ren1,ren0,Qai]
  ·exact⟨⟨rfl,rfl,rfl,rfl,rfl,.inr ⟨rfl,_,_,rfl,rfl,rfl,rfl⟩⟩,trivial⟩
 ·simp [Qae,lkp,ren1,ren0,Qai]
 ·rw [hmin,htk];exact⟨⟨rfl,rfl,rfl,rfl,rfl,.inr ⟨rfl,_,_,rfl,rfl,rfl,rfl⟩⟩,trivial⟩
 ·repeat simp only [go_sem,seval]
def shB (W:List Wd) (B:Bat) (p:Pg) (i:Nat):Bool:= !(decide (totE W B (Qaq p i p.as_.length)≤mxE)&&decide (B.res≤B.cap-totE W B (Qaq p i p.as_.length)))
def shL (W:List Wd) (B:Bat) (p:Pg) (k:Nat):List Int:=((List.range k).filter (shB W B p)).map fun(i:Nat)=>(i:Int)
theorem Zg0 (W:List Wd) (B:Bat) (p:Pg):shL W B p 0=[]:=rfl
theorem Zg1 (W:List Wd) (B:Bat) (p:Pg) (k:Nat):shL W B p (k+1)=shL W B p k++(if shB W B p k=true then [(k:Int)]else []):=by
 unfold shL;rw [List.range_succ,List.filter_append,List.map_append];congr 1;cases h:shB W B p k<;>simp [h]
theorem Z0k (W:List Wd) (B:Bat) (p:Pg) (k:Nat):(shL W B p k).length≤k:=by
 unfold shL;rw [List.length_map];exact Nat.le_trans (List.length_filter_le _ _) (by simp)
theorem Q1a {p:Pg} {W:List Wd} {B:Bat} (v:Qcm p=true) (hw:Qba W=true) (hB:Qbc B=true) (hN:p.as_.length≠0) {i:Nat} (hi:i<p.ns.length):
  ∃is:Bool,∃c:Int,Qaf Tryz.prog 41 [Qdx (Qaq p i p.as_.length),baPV B,wsPV W] (.tup [.bool is,.int .i64 c])∧((c=0∧shB W B p i= !is)∨(c=7∧shB W B p i=true)):=by
 have hV:=Qzc v hN hi;have hl:=(Qcv hV).2.2;have h8:=(Qbo hw).2;have h:=Q6p (Qaq p i p.as_.length) B W (Qpx hV) (Nat.le_trans h8 (by decide)) (by omega);unfold ehPV at h;rw [if_pos (by unfold Qnd;rw [hV,hB,hw];rfl)]at h;unfold shB;by_cases hT:totE W B (Qaq p i p.as_.length)≤mxE
 ·rw [if_pos hT]at h;refine⟨_,_,h,.inl ⟨rfl,?_⟩⟩;rw [decide_eq_true hT,Bool.true_and]
 ·rw [if_neg hT]at h;refine⟨_,_,h,.inr ⟨rfl,?_⟩⟩;rw [decide_eq_false hT];rfl
def shPV (W:List Wd) (B:Bat) (p:Pg):PV:= .tup [.slc ((if Qd6 p B W=0 then shL W B p p.ns.length else []).map (PV.int .i64)),.int .i64 (Qd6 p B W)]
theorem n7_0:((7:Int) != 0)=true:=rfl
set_option maxHeartbeats 8000000 in
theorem Ztd (p:Pg) (B:Bat) (W:List Wd) (hf:FewP p) (hl:W.length≤maxLen):Qaf Tryz.prog 22 [pgV p,baPV B,wsPV W] (shPV W B p):=by
 have hg:=Qv5 p B W (Qpu hf) hl;have hP:=Q7w p hf;have hn5:=hf.1;unfold shPV;rcases Qnl p B W with e|e|e
 case inr.inl=>
  rw [e]at hg ⊢;unfold pgV baPV at hg ⊢;rw [if_neg (by decide)];refine Qab (tb:=[]) 54 [.tmp 6,.tmp 7] [0,1,2,3,4,6,7,8,9,11,12,13,14,15,21,28,29,30,31,47] mixed Tryz.func22 rfl (by kernel_rfl) ?_;repeat (first|simp only [go_sem,seval,n2_0,List.map_nil]|(with_reducible refine Qaa hg ?_ ?_ ?_);rfl;rfl)
 case inr.inr=>
  rw [e]at hg ⊢;unfold pgV baPV at hg ⊢;rw [if_neg (by decide)];refine Qab (tb:=[]) 54 [.tmp 6,.tmp 7] [0,1,2,3,4,6,7,8,9,11,12,13,14,15,21,28,29,30,31,47] mixed Tryz.func22 rfl (by kernel_rfl) ?_;repeat (first|simp only [go_sem,seval,n9_0,List.map_nil]|(with_reducible refine Qaa hg ?_ ?_ ?_);rfl;rfl)
 rw [e]at hg ⊢;rw [if_pos rfl];obtain⟨v,hw,hB,hN⟩:=Qhq e;unfold Qre at hP;rw [if_pos v,if_neg hN]at hP;have hal:=Qyy p;have hgA: ∀i,i<p.ns.length→(allL p)[i]? =some (pV (Qaq p i p.as_.length)):=fun i h=>Qyz h;generalize allL p=AL at*;unfold pV at hgA;unfold pgV baPV at hg ⊢;unfold pgV at hP;refine Qab (tb:=[]) 54 [.tmp 6,.tmp 7] [0,1,2,3,4,6,7,8,9,11,12,13,14,15,21,28,29,30,31,47] mixed Tryz.func22 rfl (by kernel_rfl) ?_;repeat (first|simp only [go_sem,seval,n0_0,hal]|(with_reducible refine Qaa hg ?_ ?_ ?_);rfl;rfl|(with_reducible refine Qaa hP ?_ ?_ ?_);rfl;rfl)
 refine Qau mixed (fun i:{i:Nat // i≤p.ns.length}=>St.of [(2,wsPV W),(4,.bp 1 5 0 0),(11,.bs 7 1 0 (shL W B p i.1).length),(28,.slc AL),(29,.int .i64 (p.ns.length:Int)),(30,.int .i64 (i.1:Int))] [(1,{els:=[.agg [.int .i64 B.base,.int .i64 B.climb,.int .i64 B.drag,.int .i64 B.cap,.int .i64 B.res]],esz:=5,ety:=28,fro:=0,live:=true,arr:=false}),(7,iB1 (shL W B p i.1))]) (fun i=>p.ns.length-i.1) ⟨0,Nat.zero_le _⟩ ?_ ?_
 ·simp only [Zg0,List.length_nil];refine Qow 11 7 1 3 rfl rfl rfl (by decide) [(1,1),(7,7)] rfl ?_ ?_
  ·simp [Qae,lkp,ren1,ren0,Qai]
  ·exact⟨⟨rfl,rfl,rfl,rfl,rfl,.inr ⟨rfl,_,_,rfl,rfl,rfl,rfl⟩⟩,⟨rfl,rfl,rfl,rfl,rfl,.inl ⟨rfl,rfl⟩⟩,trivial⟩
 ·rintro⟨i,hi⟩;simp only;by_cases hA:i<p.ns.length
  ·skip
   have hwi:=Qak (a:=i) (by omega);have hle:=Z0k W B p i;have hsu:=Zg1 W B p i;have hA':=ltT hA;have n0:=nnT i;have hk1:=Qfy (shL W B p i);have hk2:(((shL W B p i).length+1)*8≤140737488355328)=True:=eq_true (by omega);have hk3:((shL W B p i).length+1≤maxLen)=True:=eq_true (by unfold maxLen;omega);obtain⟨is,c,hE,hc⟩:=Q1a v hw hB hN hA;unfold Qdx at hE;have hgi:=hgA i hA;unfold baPV at hE;cases hs:shB W B p i with
   |false=>
    rw [hs]at hc hsu;rw [if_neg Bool.false_ne_true,List.append_nil]at hsu;obtain⟨rfl,hc⟩|⟨-,hc⟩:=hc
    ·obtain rfl:is=true:=by cases is<;>first|rfl|exact absurd hc (by decide)
     repeat (first|simp only [go_sem,seval,hA',n0,hgi,hwi,n0_0,Bool.not_true,Int.toNat_natCast]|(with_reducible refine Qaa hE ?_ ?_ ?_);rfl;rfl)
     refine⟨⟨i+1,hA⟩,by simp only;omega,?_⟩;simp only [hsu];refine Qaj (θ:=[(1,1),(7,7)]) rfl ?_ ?_
     ·simp [Qae,lkp,ren1,ren0,Qai]
     ·exact⟨⟨rfl,rfl,rfl,rfl,rfl,.inr ⟨rfl,_,_,rfl,rfl,rfl,rfl⟩⟩,⟨rfl,rfl,rfl,rfl,rfl,.inl ⟨rfl,rfl⟩⟩,trivial⟩
    ·cases hc
   |true=>
    rw [hs]at hc;rw [hs,if_pos rfl]at hsu;have hq:(shL W B p (i+1)).length=(shL W B p i).length+1:=by rw [hsu,List.length_append];rfl
    generalize hQ:shL W B p (i+1)=Q at*;generalize shL W B p i=S at*;obtain⟨rfl,hc⟩|⟨rfl,hc⟩:=hc
    ·obtain rfl:is=false:=by cases is<;>first|rfl|exact absurd hc (by decide)
     repeat (first|simp only [go_sem,seval,hA',n0,hgi,hwi,n0_0,hk1,hk2,hk3,Bool.not_false,Int.toNat_natCast,List.length_map]|(with_reducible refine Qaa hE ?_ ?_ ?_);rfl;rfl)
     refine⟨⟨i+1,hA⟩,by simp only;omega,?_⟩;refine Qaj (θ:=[(1,1),(7,1103)]) rfl ?_ ?_
     ·simp only [hQ,hq];simp [Qae,lkp,ren1,ren0,Qai]
     ·simp only [hQ];subst hsu;refine⟨⟨rfl,rfl,rfl,rfl,rfl,.inr ⟨rfl,_,_,rfl,rfl,rfl,rfl⟩⟩,⟨rfl,rfl,rfl,rfl,rfl,.inl ⟨rfl,?_⟩⟩,trivial⟩;simp
    ·repeat (first|simp only [go_sem,seval,hA',n0,hgi,hwi,n7_0,hk1,hk2,hk3,Int.toNat_natCast,List.length_map]|(with_reducible refine Qaa hE ?_ ?_ ?_);rfl;rfl)
     refine⟨⟨i+1,hA⟩,by simp only;omega,?_⟩;refine Qaj (θ:=[(1,1),(7,1103)]) rfl ?_ ?_
     ·simp only [hQ,hq];simp [Qae,lkp,ren1,ren0,Qai]
     ·simp only [hQ];subst hsu;refine⟨⟨rfl,rfl,rfl,rfl,rfl,.inr ⟨rfl,_,_,rfl,rfl,rfl,rfl⟩⟩,⟨rfl,rfl,rfl,rfl,rfl,.inl ⟨rfl,?_⟩⟩,trivial⟩;simp
  ·have hA':=ltF hA;obtain rfl:i=p.ns.length:=by omega
   have ht:((shL W B p p.ns.length).map (PV.int .i64)).take (shL W B p p.ns.length).length=(shL W B p p.ns.length).map (PV.int .i64):=List.take_of_length_le (by simp);have hk1:=Qfy (shL W B p p.ns.length);generalize shL W B p p.ns.length=S at*;repeat simp only [go_sem,seval,hA',ht,List.length_map,Nat.le_refl,decide_true]
def decN (n:Int) (s:Nat) (g h:Int):Int:=if 0<s∨h*h<n then 2 else if g*g<n then 1 else 0
def decI (W:List Wd) (B:Bat) (p:Pg) (g h:Int):Int:=decN (wstI W p) (shL W B p p.ns.length).length g h
def decE (W:List Wd) (B:Bat) (p:Pg) (g h:Int):Int:=if rulB g h=true then Qd6 p B W else 2
def Qv7 (W:List Wd) (B:Bat) (p:Pg) (g h:Int):PV:= .tup [.int .i64 (if decE W B p g h=0 then decI W B p g h else 0),.int .i64 (decE W B p g h)]
theorem Qtw {g h:Int} (e:rulB g h=true):0≤g∧g≤h∧h≤100000:=by
 unfold rulB at e;simpa only [Bool.and_eq_true,decide_eq_true_eq]using e
theorem Z0l {g h:Int} (e:rulB g h=true):IntKind.i64.wrap (h*h)=h*h∧IntKind.i64.wrap (g*g)=g*g:=by
 obtain⟨h0,h1,h2⟩:=Qtw e;have q: ∀a:Int,0≤a∧a≤100000→0≤a*a∧a*a≤10000000000:=fun a h=>by
  refine⟨Int.mul_nonneg h.1 h.1,?_⟩;have:=Int.mul_le_mul h.2 h.2 h.1 (by omega:(0:Int)≤100000);omega
 have a1:=q h ⟨by omega,h2⟩;have a2:=q g ⟨h0,by omega⟩;exact⟨Qag (by omega) (by omega),Qag (by omega) (by omega)⟩
theorem Qzd {p:Pg} {B:Bat} {W:List Wd} (e:Qd6 p B W=0):Qd6 p bat0 W=0:=by
 obtain⟨v,hw, -,hN⟩:=Qhq e;exact Qpy v hw Ztc hN
set_option maxHeartbeats 4000000 in
theorem Qja (p:Pg) (B:Bat) (W:List Wd) (g h:Int) (hf:FewP p) (hl:W.length≤maxLen):Qaf Tryz.prog 13 [pgV p,baPV B,wsPV W,.agg [.int .i64 g,.int .i64 h]] (Qv7 W B p g h):=by
 have f1:=Qtt g h;have f2:=Ztd p B W hf hl;have f3:=Qv6 p W hf hl;unfold shPV at f2;unfold Q7z at f3;unfold Qv7 decE;unfold pgV baPV at*;cases e0:rulB g h with
 |false=>
  rw [e0]at f1;rw [if_neg Bool.false_ne_true,if_neg (by decide)];refine Qab (tb:=[]) 53 [.tmp 8,.tmp 9] [0,1,2,3,4,5,7,8,9,10,11,12,16,25,33,37,45] mixed Tryz.func13 rfl (by kernel_rfl) ?_;repeat (first|simp only [go_sem,seval,Bool.not_false]|(with_reducible refine Qaa f1 ?_ ?_ ?_);rfl;rfl)
 |true=>
 rw [e0]at f1;obtain⟨w1,w2⟩:=Z0l e0;rw [if_pos rfl];rcases Qnl p B W with e|e|e
 case inr.inl=>
  rw [e]at f2 ⊢;rw [if_neg (by decide)];refine Qab (tb:=[]) 53 [.tmp 8,.tmp 9] [0,1,2,3,4,5,7,8,9,10,11,12,16,25,33,37,45] mixed Tryz.func13 rfl (by kernel_rfl) ?_;repeat (first|simp only [go_sem,seval,n2_0,Bool.not_true]|(with_reducible refine Qaa f1 ?_ ?_ ?_);rfl;rfl|(with_reducible refine Qaa f2 ?_ ?_ ?_);rfl;rfl)
 case inr.inr=>
  rw [e]at f2 ⊢;rw [if_neg (by decide)];refine Qab (tb:=[]) 53 [.tmp 8,.tmp 9] [0,1,2,3,4,5,7,8,9,10,11,12,16,25,33,37,45] mixed Tryz.func13 rfl (by kernel_rfl) ?_;repeat (first|simp only [go_sem,seval,n9_0,Bool.not_true]|(with_reducible refine Qaa f1 ?_ ?_ ?_);rfl;rfl|(with_reducible refine Qaa f2 ?_ ?_ ?_);rfl;rfl)
 rw [e,if_pos rfl]at f2;rw [Qzd e,if_pos rfl]at f3;rw [e,if_pos rfl];unfold decI decN;generalize hS:shL W B p p.ns.length=S at*;have hs:(S.map (PV.int .i64)).length=S.length:=List.length_map ..;generalize S.map (PV.int .i64)=SM at*;generalize S.length=s at*;generalize wstI W p=n at*;by_cases c1:0<s
 ·have c1':((0:Int)<(s:Int))=True:=eq_true (by omega);rw [if_pos (.inl c1)];refine Qab (tb:=[]) 53 [.tmp 8,.tmp 9] [0,1,2,3,4,5,7,8,9,10,11,12,16,25,33,37,45] mixed Tryz.func13 rfl (by kernel_rfl) ?_;repeat (first|simp only [go_sem,seval,n0_0,hs,c1',decide_true,Bool.not_true]|(with_reducible refine Qaa f1 ?_ ?_ ?_);rfl;rfl|(with_reducible refine Qaa f2 ?_ ?_ ?_);rfl;rfl|(with_reducible refine Qaa f3 ?_ ?_ ?_);rfl;rfl)
 have c1':((0:Int)<(s:Int))=False:=eq_false (by omega);by_cases c2:h*h<n
 ·have c2':=eq_true c2;rw [if_pos (.inr c2)];refine Qab (tb:=[]) 53 [.tmp 8,.tmp 9] [0,1,2,3,4,5,7,8,9,10,11,12,16,25,33,37,45] mixed Tryz.func13 rfl (by kernel_rfl) ?_;repeat (first|simp only [go_sem,seval,n0_0,w1,hs,c1',c2',decide_true,decide_false,Bool.not_true]|(with_reducible refine Qaa f1 ?_ ?_ ?_);rfl;rfl|(with_reducible refine Qaa f2 ?_ ?_ ?_);rfl;rfl|(with_reducible refine Qaa f3 ?_ ?_ ?_);rfl;rfl)
 have c2':=eq_false c2;rw [if_neg (fun q=>q.elim c1 c2)];by_cases c3:g*g<n
 ·have c3':=eq_true c3;rw [if_pos c3];refine Qab (tb:=[]) 53 [.tmp 8,.tmp 9] [0,1,2,3,4,5,7,8,9,10,11,12,16,25,33,37,45] mixed Tryz.func13 rfl (by kernel_rfl) ?_;repeat (first|simp only [go_sem,seval,n0_0,w1,w2,hs,c1',c2',c3',decide_true,decide_false,Bool.not_true]|(with_reducible refine Qaa f1 ?_ ?_ ?_);rfl;rfl|(with_reducible refine Qaa f2 ?_ ?_ ?_);rfl;rfl|(with_reducible refine Qaa f3 ?_ ?_ ?_);rfl;rfl)
 have c3':=eq_false c3;rw [if_neg c3];refine Qab (tb:=[]) 53 [.tmp 8,.tmp 9] [0,1,2,3,4,5,7,8,9,10,11,12,16,25,33,37,45] mixed Tryz.func13 rfl (by kernel_rfl) ?_;repeat (first|simp only [go_sem,seval,n0_0,w1,w2,hs,c1',c2',c3',decide_true,decide_false,Bool.not_true]|(with_reducible refine Qaa f1 ?_ ?_ ?_);rfl;rfl|(with_reducible refine Qaa f2 ?_ ?_ ?_);rfl;rfl|(with_reducible refine Qaa f3 ?_ ?_ ?_);rfl;rfl)
end Go.Proofs.YtdpajapkhembcaaGreatDoor
