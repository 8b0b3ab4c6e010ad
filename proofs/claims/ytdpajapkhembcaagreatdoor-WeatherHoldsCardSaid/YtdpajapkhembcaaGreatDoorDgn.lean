/-
  QM7, QM8, QM9, QM10, QB7, QI6, QB8, QB9, Dso, Dv, Dy, Dcv, Dsp, Dcw, Dcx, Dcy, Dsr, Dcm, Dcz, Dgn (merged for the claim).
-/
import Derived.Test.YtdpajapkhembcaaGreatDoorQM6
import Derived.Test.YtdpajapkhembcaaGreatDoorDbu
import Derived.Test.YtdpajapkhembcaaGreatDoorQI4
import Derived.Test.YtdpajapkhembcaaGreatDoorQM1
import Derived.Test.YtdpajapkhembcaaGreatDoorQF3
set_option linter.unusedSimpArgs false
set_option linter.unusedVariables false
namespace Go.Proofs.YtdpajapkhembcaaGreatDoor
open Go.Vl Go.RowKit Go.Dg
theorem Zqm (s:Sg) (a d:Int):plV s a d=Qad (plQ s a d 0) (plQ s a d 1) (plQ s a d 2) (plO s a d):=rfl
theorem Zqn {x y:Int} {B:Nat} (hx:x.natAbs<2^B) (hy:0<y):(x/y).natAbs<2^(B+1):=by
 rw [Nat.pow_succ];have h2:0<2^B:=Nat.two_pow_pos B;rcases Qze hx hy with h|h<;>omega
theorem Z0o {m B:Nat} (h:m<2^B) (hk:B≤2000):m<2^2000:=Qvr (C:=2000) h hk
theorem Z0p {s:Sg} {a d:Int} (hs:okSg s) (h6: ∀c∈s.ax,c.length≤6) (ho:1≤s.o) (ha:i64 a) (hd:i64 d) (hd1:1≤d):(∀i,i<3→(plQ s a d i).natAbs<2^2000)∧(plO s a d).natAbs<2^2000:=by
 have hcB: ∀c∈s.ax,bd 64 c:=fun c hx x hx2=>Qcb (hs.c c hx x hx2);have bP:=Q5q hcB h6 (Qcb ha) (Qcb hd);have bo:=Zrp (s:=s) (Qcb hs.o) (Qcb hd);have hg:=Qvt ho hd1 3 (s:=s) (a:=a);exact⟨fun i hi=>Z0o (Zqn (bP i hi) (by omega)) (by decide),Z0o (Zqn bo (by omega)) (by decide)⟩
theorem Q76 (x y z o x' y' z' o':Int):(decide (x<0)==decide (x'<0)&&(mB x==mB x'&&(decide (y<0)==decide (y'<0)&&(mB y==mB y'&&(decide (z<0)==decide (z'<0)&&(mB z==mB z'&&(decide (o<0)==decide (o'<0)&&mB o==mB o')))))))=
  (decide (x=x')&&(decide (y=y')&&(decide (z=z')&&decide (o=o')))):=by
 rw [←Qnn x x',←Qnn y y',←Qnn z z',←Qnn o o'];simp only [Bool.and_assoc]
theorem Zg4 (a b:Sg) (ha:okSg a) (hb:okSg b) (va:Qbm a=true) (vb:Qbm b=true):Qaf Tryz.prog 69 [sgPV a,sgPV b] (.bool (Qfg a b)):=by
 have o1:i64 1:=by unfold i64;omega
 have o0:i64 0:=by unfold i64;omega
 have t1:=Qrj a 1 1 ha (Qi1 va) (Qi2 va) o1 o1 (by decide);have t2:=Qrj b 0 1 hb (Qi1 vb) (Qi2 vb) o0 o1 (by decide);rw [Zqm]at t1 t2;unfold Qfg Q5r;generalize plQ a 1 1 0=x0 at*;generalize plQ a 1 1 1=x1 at*;generalize plQ a 1 1 2=x2 at*;generalize plO a 1 1=x3 at*;generalize plQ b 0 1 0=y0 at*;generalize plQ b 0 1 1=y1 at*;generalize plQ b 0 1 2=y2 at*;generalize plO b 0 1=y3 at*;by_cases h:a.t=b.f
 ·have h':(a.t==b.f)=true:=by rw [h];exact beq_self_eq_true _
  rw [decide_eq_true h,Bool.true_and];refine Qab (tb:=[]) 17 [.tmp 4] [0,1,2,3,4] mixed Tryz.func69 rfl (by kernel_rfl) ?_;repeat (first|simp -implicitDefEqProofs only [go_sem,seval,h',Q76]|(with_reducible refine Qaa t1 ?_ ?_ ?_);rfl;rfl|(with_reducible refine Qaa t2 ?_ ?_ ?_);rfl;rfl|(with_reducible exact Qac _ _ (by kernel_rfl)))
 ·have h':(a.t==b.f)=false:=beq_eq_false_iff_ne.2 h;rw [decide_eq_false h,Bool.false_and];refine Qab (tb:=[]) 17 [.tmp 4] [0,1,2,3,4] mixed Tryz.func69 rfl (by kernel_rfl) ?_;repeat (first|simp -implicitDefEqProofs only [go_sem,seval,h']|(with_reducible exact Qac _ _ (by kernel_rfl)))
def Qdx (p:List Sg):PV:= .slc (p.map sgPV)
attribute [go_sem] Qdx
theorem Qgy (p:List Sg) (i:Nat) (h:i<p.length):(p.map sgPV)[i]? =some (.agg [.int .i64 p[i].f,.int .i64 p[i].t,.int .i64 p[i].o,.slc (p[i].x.map (PV.int .i64)),.slc (p[i].y.map (PV.int .i64)),.slc (p[i].z.map (PV.int .i64))]):=by
 rw [List.getElem?_map,List.getElem?_eq_getElem h];rfl
set_option maxHeartbeats 1000000 in
theorem Qgz (p:List Sg) (hp: ∀s∈p,okSg s) (hl:p.length≤1000000):Qaf Tryz.prog 58 [Qdx p] (.bool (Qbq p)):=by
 refine Qab (tb:=[]) 38 [.tmp 2] [0,2,3,4,5,6,7,8,28] mixed Tryz.func58 rfl (by kernel_rfl) ?_;repeat simp -implicitDefEqProofs only [go_sem,seval,List.length_map]
 have z0:0≤p.length∧vpTo p 0=true:=⟨Nat.zero_le _,rfl⟩;refine Qau mixed (fun i:{i:Nat // i≤p.length∧vpTo p i=true}=>St.of [(0,Qdx p),(2,.bool false),(5,Qdx p),(6,.int .i64 (p.length:Int)),(7,.int .i64 (i.1:Int))] []) (fun i=>p.length-i.1) ⟨0,z0⟩ ?_ ?_
 ·exact Qax (by simp [Qae,lkp,ren1,ren0,Qdx])
 ·rintro⟨i,hi,hall⟩;by_cases hA:i<p.length
  ·have hA':=ltT hA;have n0:=nnT i;have hg:=Qgy p i hA;have hwk:=Qak (a:=i) (by omega);have ok1:=hp _ (List.getElem_mem hA);have hv:=Zg3 p[i] ok1;have hgD:=sgD hA;cases hV:Qbm p[i]with
   |false=>
    have e:Qbq p=false:=Qpo (j:=i) (by unfold vpAt;rw [hgD,hV];rfl) hA;rw [hV]at hv;unfold sgPV Qbj at hv;repeat (first|simp -implicitDefEqProofs only [go_sem,seval,hA',n0,hg,Int.toNat_natCast,e]|(with_reducible refine Qaa hv ?_ ?_ ?_);rfl;rfl|(with_reducible exact Qac _ _ (by kernel_rfl)))
   |true=>
    rw [hV]at hv;unfold sgPV Qbj at hv;by_cases hz:i=0
    ·have hz':((0:Int)<(i:Int))=False:=eq_false (by omega);have hn:vpTo p (i+1)=true:=by rw [Qta,hall];unfold vpAt;rw [hgD,hV,decide_eq_true hz];rfl
     repeat (first|simp -implicitDefEqProofs only [go_sem,seval,hA',n0,hg,hwk,hz',Int.toNat_natCast]|(with_reducible refine Qaa hv ?_ ?_ ?_);rfl;rfl|(with_reducible refine And.intro (Qac _ _ (by kernel_rfl)) ?_))
     refine⟨⟨i+1,hA,hn⟩,by simp only;omega,Qax (by simp [Qae,lkp,ren1,ren0,Qdx])⟩
    ·have hz':((0:Int)<(i:Int))=True:=eq_true (by omega);have hA1:i-1<p.length:=by omega
     have n1:=nnT (i-1);have hg1:=Qgy p (i-1) hA1;have w1:IntKind.i64.wrap ((i:Int)-1)=((i-1:Nat):Int):=by rw [Qag (by omega) (by omega)];omega
     have hV1:Qbm p[i-1]=true:=by have:=Qpp hall (j:=i-1) (by omega);rwa [sgD hA1]at this
     have hm:=Zg4 p[i-1] p[i] (hp _ (List.getElem_mem hA1)) ok1 hV1 hV;have ev:vpAt p i=Qfg p[i-1] p[i]:=by unfold vpAt;rw [hgD,sgD hA1,hV,decide_eq_false hz];simp
     cases hM:Qfg p[i-1] p[i]with
     |false=>
      have e:Qbq p=false:=Qpo (j:=i) (ev.trans hM) hA;rw [hM]at hm;unfold sgPV Qbj at hm;repeat (first|simp -implicitDefEqProofs only [go_sem,seval,hA',n0,hg,hz',w1,n1,hg1,Int.toNat_natCast,e]|(with_reducible refine Qaa hv ?_ ?_ ?_);rfl;rfl|(with_reducible refine Qaa hm ?_ ?_ ?_);rfl;rfl|(with_reducible exact Qac _ _ (by kernel_rfl)))
     |true=>
      have hn:vpTo p (i+1)=true:=by rw [Qta,hall,ev,hM];rfl
      rw [hM]at hm;unfold sgPV Qbj at hm;repeat (first|simp -implicitDefEqProofs only [go_sem,seval,hA',n0,hg,hwk,hz',w1,n1,hg1,Int.toNat_natCast]|(with_reducible refine Qaa hv ?_ ?_ ?_);rfl;rfl|(with_reducible refine Qaa hm ?_ ?_ ?_);rfl;rfl|(with_reducible refine And.intro (Qac _ _ (by kernel_rfl)) ?_))
      refine⟨⟨i+1,hA,hn⟩,by simp only;omega,Qax (by simp [Qae,lkp,ren1,ren0,Qdx])⟩
  ·have hA':=ltF hA;obtain rfl:i=p.length:=by omega
   have e0:Qbq p=(decide (1≤p.length)&&decide (p.length≤256)):=by unfold Qbq;rw [hall,Bool.true_and]
   rw [e0];by_cases c1:1≤p.length
   ·have c1':((1:Int)≤(p.length:Int))=True:=eq_true (by omega);have c2':decide ((p.length:Int)≤256)=decide (p.length≤256):=by rw [decide_eq_decide];omega
    rw [decide_eq_true c1,Bool.true_and];repeat simp -implicitDefEqProofs only [go_sem,seval,hA',c1',c2',List.length_map]
   ·have c1':((1:Int)≤(p.length:Int))=False:=eq_false (by omega);rw [decide_eq_false c1,Bool.false_and];repeat simp -implicitDefEqProofs only [go_sem,seval,hA',c1',List.length_map]
theorem Zg5:((0:Int) != 0)=false:=rfl
theorem Z0q:((0:Int)==0)=true:=rfl
theorem Z34:((1:Int) != 0)=true:=rfl
theorem Z35:((1:Int)==0)=false:=rfl
theorem Ztf:((2:Int) != 0)=true:=rfl
theorem Z0r:((2:Int)==0)=false:=rfl
theorem Z36:((3:Int) != 0)=true:=rfl
theorem Z37:((3:Int)==0)=false:=rfl
theorem Z0s:((7:Int) != 0)=true:=rfl
theorem Z0t:((7:Int)==0)=false:=rfl
theorem Z38:((9:Int) != 0)=true:=rfl
theorem Z39:((9:Int)==0)=false:=rfl
theorem Z0u:((10:Int) != 0)=true:=rfl
theorem Z0v:((10:Int)==0)=false:=rfl
attribute [go_sem] Zg5 Z0q Z34 Z35 Ztf Z0r Z36 Z37 Z0s Z0t Z38 Z39 Z0u Z0v
def lasts (p:List Sg) (t:Int):Bool:=decide (pBeg p≤t)&&decide (t≤pEnd p)
theorem Ztg (p:List Sg) (hp: ∀s∈p,okSg s) (hl:p.length≤1000000):Qaf Tryz.prog 97 [Qdx p] (if Qbq p=true then .tup [.int .i64 (pBeg p),.int .i64 (pEnd p),.int .i64 0]else .tup [.int .i64 0,.int .i64 0,.int .i64 2]):=by
 have hv:=Qgz p hp hl;unfold Qdx at hv;cases hV:Qbq p with
 |false=>
  rw [hV]at hv;refine Qab (tb:=[]) 19 [.tmp 2,.tmp 3,.tmp 4] [0,2,3,4,7] mixed Tryz.func97 rfl (by kernel_rfl) ?_;repeat (first|simp only [go_sem,seval,Bool.false_eq_true]|(with_reducible refine Qaa hv ?_ ?_ ?_);rfl;rfl)
 |true=>
  have h:=(Qcv hV).2.1;have hi:p.length-1<p.length:=by omega
  have hg0:=Qgy p 0 (by omega);have hg:=Qgy p (p.length-1) hi;have wl:=Qme (n:=p.length) (by omega) (by omega);have n1:=nnT (p.length-1);have e1:pEnd p=p[p.length-1].t:=by unfold pEnd;rw [sgD hi]
  have e2:pBeg p=p[0].f:=by unfold pBeg;rw [sgD (by omega)]
  rw [e1,e2];rw [hV]at hv;refine Qab (tb:=[]) 19 [.tmp 2,.tmp 3,.tmp 4] [0,2,3,4,7] mixed Tryz.func97 rfl (by kernel_rfl) ?_;repeat (first|simp only [go_sem,seval,hg,hg0,wl,n1,Int.toNat_natCast,List.length_map]|(with_reducible refine Qaa hv ?_ ?_ ?_);rfl;rfl|(with_reducible exact Qac _ _ (by kernel_rfl)))
theorem Zg6 (n m:Nat) (f:FuncId) (cap:List PV) (Pr:Nat→Bool) (hn:n≤1000000000) (hm:m≤n) (h1: ∀i,i<m→Pr i=false) (h2: ∀i,m≤i→i<n→Pr i=true)
  (hc:Qfn cap (fun _=>none)=some ((cap,[]),[])) (hcr:ren1 [] (.fn f [] cap)=some (.fn f [] cap)) (hf: ∀i:Nat,i<n→Qaf Tryz.prog f (.int .i64 (i:Int)::cap) (.bool (Pr i))):Qaf Tryz.prog 98 [.int .i64 (n:Int),.fn f [] cap] (.int .i64 (m:Int)):=by
 refine Qab (tb:=[]) 26 [.tmp 4] [0,1,4,5,6,7,11,21] mixed Tryz.func98 rfl (by kernel_rfl) ?_;repeat simp only [go_sem,seval,if_true]
 have z0:0≤m∧m≤n∧n≤n:=⟨Nat.zero_le _,hm,Nat.le_refl _⟩;refine Qau mixed (fun x:{x:Nat×Nat // x.1≤m∧m≤x.2∧x.2≤n}=>St.of [(0,.int .i64 (n:Int)),(1,.fn f [] cap),(5,.int .i64 (x.1.1:Int)),(6,.int .i64 (x.1.2:Int))] []) (fun x=>x.1.2-x.1.1) ⟨(0,n),z0⟩ ?_ ?_
 ·exact Qax ⟨by simp [lkp,ren1,ren0],by simp only [lkp];exact hcr,by simp [lkp,ren1,ren0],by simp [lkp,ren1,ren0],trivial⟩
 ·rintro⟨⟨i,j⟩,hi,hj,hjn⟩;simp only at hi hj hjn;by_cases hA:i<j
  ·have hA':=ltT hA;have w1:IntKind.i64.wrap ((i:Int)+(j:Int))=((i+j:Nat):Int):=by rw [Qag (by omega) (by omega)];omega
   have w2:IntKind.u64.wrap ((i+j:Nat):Int)=((i+j:Nat):Int):=Qnt (by omega);have w3:(((i+j:Nat):Int)).fdiv (2^min 1 64)=(((i+j)/2:Nat):Int):=by
    rw [Int.fdiv_eq_ediv_of_nonneg _ (by decide)];rfl
   have w4:IntKind.i64.wrap (((i+j)/2:Nat):Int)=(((i+j)/2:Nat):Int):=wrapn (by omega);have hh:(i+j)/2<n:=by omega
   have hfh:=hf ((i+j)/2) hh;have w5:=Qak (a:=(i+j)/2) (by omega);generalize hH:(i+j)/2=h at*;by_cases hmh:h<m
   ·rw [h1 h hmh]at hfh;repeat (first|simp only [go_sem,seval,hA',w1,w2,w3,w4,w5,hc]|(with_reducible refine Qaa hfh ?_ ?_ ?_);rfl;rfl)
    refine⟨⟨(h+1,j),by simp only;omega,hj,hjn⟩,by simp only;omega,Qax ⟨by simp [lkp,ren1,ren0],by simp only [lkp];exact hcr,by simp [lkp,ren1,ren0],by simp [lkp,ren1,ren0],trivial⟩⟩
   ·rw [h2 h (by omega) hh]at hfh;repeat (first|simp only [go_sem,seval,hA',w1,w2,w3,w4,hc]|(with_reducible refine Qaa hfh ?_ ?_ ?_);rfl;rfl)
    refine⟨⟨(i,h),hi,by simp only;omega,by simp only;omega⟩,by simp only;omega,Qax ⟨by simp [lkp,ren1,ren0],by simp only [lkp];exact hcr,by simp [lkp,ren1,ren0],by simp [lkp,ren1,ren0],trivial⟩⟩
  ·have hA':=ltF hA;obtain rfl:i=m:=by omega
   repeat simp only [go_sem,seval,hA']
theorem Zg7 (p:List Sg) (t:Int) (i:Nat) (h:i<p.length):Qaf Tryz.prog 99 [.int .i64 (i:Int),.rp [.int .i64 t],.rp [.slc (p.map sgPV)]] (.bool (decide (t≤p[i].t))):=by
 have hg:=Qgy p i h;have n0:=nnT i;refine Qab (tb:=[]) 12 [.tmp 4] [0,1,2,4] mixed Tryz.func99 rfl (by kernel_rfl) ?_;repeat (first|simp only [go_sem,seval,hg,n0,Int.toNat_natCast]|(with_reducible exact Qac _ _ (by kernel_rfl)))
def Qno:PV:= .agg [.bool false,.str ⟨#[]⟩,.bool false,.str ⟨#[]⟩,.bool false,.str ⟨#[]⟩,.bool false,.str ⟨#[]⟩]
attribute [go_sem] Qno
def exA (p:List Sg) (t:Int):Int:=t-(p.getD (atIx p t) sg0).f
def exD (p:List Sg) (t:Int):Int:=(p.getD (atIx p t) sg0).t-(p.getD (atIx p t) sg0).f
def exQ (p:List Sg) (t:Int) (i:Nat):Int:=plQ (p.getD (atIx p t) sg0) (exA p t) (exD p t) i
def exO (p:List Sg) (t:Int):Int:=plO (p.getD (atIx p t) sg0) (exA p t) (exD p t)
def Qv9 (p:List Sg) (t:Int):PV:=if Qbq p=true then(if lasts p t=true then .tup [Qad (exQ p t 0) (exQ p t 1) (exQ p t 2) (exO p t),.int .i64 0]else .tup [Qno,.int .i64 3])else .tup [Qno,.int .i64 2]
theorem Qzg {p:List Sg} {t:Int} (hV:Qbq p=true) (hL:lasts p t=true): ∃h:atIx p t<p.length,exA p t=t-p[atIx p t].f∧exD p t=p[atIx p t].t-p[atIx p t].f∧0≤exA p t∧exA p t≤exD p t∧1≤exD p t∧exD p t≤3600000∧Qbm p[atIx p t]=true∧p.getD (atIx p t) sg0=p[atIx p t]:=by
 unfold lasts at hL;simp only [Bool.and_eq_true,decide_eq_true_eq]at hL;have hi:=Zru hV hL.2;have h1:=Q5x hi;have h2:=Q5y hV hL.1 hi;have hv:=Qfh hV _ hi;have h3:=(Qbv hv).1;have e1:exA p t=t-p[atIx p t].f:=by unfold exA;rw [sgD hi]
 have e2:exD p t=p[atIx p t].t-p[atIx p t].f:=by unfold exD;rw [sgD hi]
 exact⟨hi,e1,e2,by omega,by omega,by omega,by omega,hv,sgD hi⟩
set_option maxHeartbeats 1000000 in
theorem Zg8 (p:List Sg) (t:Int) (hp: ∀s∈p,okSg s) (hl:p.length≤1000000) (ht:i64 t):Qaf Tryz.prog 70 [Qdx p,.int .i64 t] (Qv9 p t):=by
 have hs:=Ztg p hp hl;unfold Qdx at hs;unfold Qv9;cases hV:Qbq p with
 |false=>
  rw [hV]at hs;simp only [Bool.false_eq_true,if_false]at hs ⊢;refine Qab (tb:=[]) 49 [.cell 4 136,.tmp 5] [0,1,2,3,4,5,6,7,8,9,16,21] mixed Tryz.func70 rfl (by kernel_rfl) ?_;repeat (first|simp only [go_sem,seval]|(with_reducible refine Qaa hs ?_ ?_ ?_);rfl;rfl)
 |true=>
  rw [hV]at hs;simp only [if_true]at hs ⊢;by_cases c1:pBeg p≤t
  case neg=>
   have c1':(t<pBeg p)=True:=eq_true (by omega);have e:lasts p t=false:=by unfold lasts;rw [decide_eq_false c1];rfl
   rw [e];simp only [Bool.false_eq_true,if_false];refine Qab (tb:=[]) 49 [.cell 4 136,.tmp 5] [0,1,2,3,4,5,6,7,8,9,16,21] mixed Tryz.func70 rfl (by kernel_rfl) ?_;repeat (first|simp only [go_sem,seval,c1']|(with_reducible refine Qaa hs ?_ ?_ ?_);rfl;rfl)
  have c1':(t<pBeg p)=False:=eq_false (by omega);by_cases c2:t≤pEnd p
  case neg=>
   have c2':(pEnd p<t)=True:=eq_true (by omega);have e:lasts p t=false:=by unfold lasts;rw [decide_eq_false c2,Bool.and_false]
   rw [e];simp only [Bool.false_eq_true,if_false];refine Qab (tb:=[]) 49 [.cell 4 136,.tmp 5] [0,1,2,3,4,5,6,7,8,9,16,21] mixed Tryz.func70 rfl (by kernel_rfl) ?_;repeat (first|simp only [go_sem,seval,c1',c2']|(with_reducible refine Qaa hs ?_ ?_ ?_);rfl;rfl)
  have c2':(pEnd p<t)=False:=eq_false (by omega);have hL:lasts p t=true:=by unfold lasts;rw [decide_eq_true c1,decide_eq_true c2];rfl
  rw [hL];simp only [if_true];obtain⟨hi,eA,eD,k1,k2,k3,k4,hv,hD⟩:=Qzg hV hL;have hsr:=Zg6 p.length (atIx p t) 99 [.rp [.int .i64 t],.rp [.slc (p.map sgPV)]] (fun i=>decide (t≤(p.getD i sg0).t)) (by omega) (Nat.le_of_lt hi)
   (fun i h=>by rw [sgD (by omega)];exact decide_eq_false (Int.not_le.2 (Qm8 h (by omega))))
   (fun i h h'=>by rw [sgD h'];exact decide_eq_true (Int.le_trans (Q5x hi) (Qm7 hV i _ h' h))) rfl rfl
   (fun i h=>by rw [sgD h];exact Zg7 p t i h)
  have hpl:=Qrj p[atIx p t] (exA p t) (exD p t) (hp _ (List.getElem_mem hi)) (Qi1 hv) (Qi2 hv) (by unfold i64;omega) (by unfold i64;omega) (by omega);rw [Zqm]at hpl;unfold exQ exO;rw [hD];have hg:=Qgy p (atIx p t) hi;have n0:=nnT (atIx p t);have wa:IntKind.i64.wrap (t-p[atIx p t].f)=exA p t:=by rw [eA];exact Qag (by omega) (by omega)
  have wd:IntKind.i64.wrap (p[atIx p t].t-p[atIx p t].f)=exD p t:=by rw [eD];exact Qag (by omega) (by omega)
  generalize plQ p[atIx p t] (exA p t) (exD p t) 0=q0 at*;generalize plQ p[atIx p t] (exA p t) (exD p t) 1=q1 at*;generalize plQ p[atIx p t] (exA p t) (exD p t) 2=q2 at*;generalize plO p[atIx p t] (exA p t) (exD p t)=q3 at*;unfold sgPV Qbj at hpl;refine Qab (tb:=[]) 49 [.cell 4 136,.tmp 5] [0,1,2,3,4,5,6,7,8,9,16,21] mixed Tryz.func70 rfl (by kernel_rfl) ?_;repeat (first|simp only [go_sem,seval,List.length_map,c1',c2',hg,n0,wa,wd,Int.toNat_natCast]|(with_reducible refine Qaa hs ?_ ?_ ?_);rfl;rfl|(with_reducible refine Qaa hsr ?_ ?_ ?_);rfl;rfl|(with_reducible refine Qaa hpl ?_ ?_ ?_);rfl;rfl|(with_reducible refine And.intro (Qac _ _ (by kernel_rfl)) ?_))
def vPV (x y z:Int):PV:= .agg [.int .i64 x,.int .i64 y,.int .i64 z]
attribute [go_sem] vPV
theorem Qv8 {x o:Int} {B:Nat} (hx:x.natAbs<2^B) (ho:o.natAbs<2^B):(x+x+o).natAbs<2^(B+1+1):=
 Qpz (Qpz hx hx) (Nat.lt_of_lt_of_le ho (Nat.pow_le_pow_right (by decide) (by omega)))
theorem Z31 {p:List Sg} {t:Int} (hp: ∀s∈p,okSg s) (hV:Qbq p=true) (hL:lasts p t=true):(∀i,i<3→(exQ p t i).natAbs<2^2000∧ -1048576≤rnd (exQ p t i) (exO p t)∧rnd (exQ p t i) (exO p t)≤1048576)∧(exO p t).natAbs<2^2000∧0<exO p t:=by
 obtain⟨hi,eA,eD,k1,k2,k3,k4,hv,hD⟩:=Qzg hV hL;have b:=Z0p (a:=exA p t) (d:=exD p t) (hp _ (List.getElem_mem hi)) (Qi1 hv) (Qi2 hv) (by unfold i64;omega) (by unfold i64;omega) (by omega);have b2:=fun i h=>Q5v hv k1 k2 k3 i h;unfold exQ exO;rw [hD];refine⟨fun i h=>⟨b.1 i h,?_⟩,b.2,(b2 0 (by decide)).1⟩;obtain⟨h1,h2,h3⟩:=b2 i h;exact Q5w h1 h2 h3
def atPV (p:List Sg) (t:Int):PV:=if Qbq p=true then(if lasts p t=true then .tup [vPV (rnd (exQ p t 0) (exO p t)) (rnd (exQ p t 1) (exO p t)) (rnd (exQ p t 2) (exO p t)),.int .i64 0]else .tup [vPV 0 0 0,.int .i64 3])else .tup [vPV 0 0 0,.int .i64 2]
def sel3 (R:Nat→Int) (i m:Nat):Int:=if m<i then R m else 0
set_option maxHeartbeats 1000000 in
theorem Z32 (p:List Sg) (t:Int) (hp: ∀s∈p,okSg s) (hl:p.length≤1000000) (ht:i64 t):Qaf Tryz.prog 59 [Qdx p,.int .i64 t] (atPV p t):=by
 have he:=Zg8 p t hp hl ht;unfold Qv9 at he;unfold atPV;unfold Qdx at he;cases hV:Qbq p with
 |false=>
  rw [hV]at he;simp only [Bool.false_eq_true,if_false]at he ⊢;refine Qab (tb:=[]) 58 [.cell 4 69,.tmp 5] [0,1,4,5,6,7,8,9,10,18,27,28,29] mixed Tryz.func59 rfl (by kernel_rfl) ?_;repeat (first|simp -implicitDefEqProofs only [go_sem,seval]|(with_reducible refine Qaa he ?_ ?_ ?_);rfl;rfl)
 |true=>
  cases hL:lasts p t with
  |false=>
   rw [hV,hL]at he;simp only [Bool.false_eq_true,if_false,if_true]at he ⊢;refine Qab (tb:=[]) 58 [.cell 4 69,.tmp 5] [0,1,4,5,6,7,8,9,10,18,27,28,29] mixed Tryz.func59 rfl (by kernel_rfl) ?_;repeat (first|simp -implicitDefEqProofs only [go_sem,seval]|(with_reducible refine Qaa he ?_ ?_ ?_);rfl;rfl)
  |true=>
   rw [hV,hL]at he;simp only [if_true]at he ⊢;obtain⟨hb,ho,h0⟩:=Z31 hp hV hL;have hb0:=hb 0 (by decide);have hbb1:=hb 1 (by decide);have hb2:=hb 2 (by decide);clear hb;generalize exQ p t 0=x0 at*;generalize exQ p t 1=x1 at*;generalize exQ p t 2=x2 at*;generalize exO p t=o at*;have b3:=Qpz ho ho;have a3:=Qgx (Qa5 ho (by decide)) (Qa5 ho (by decide)) (Qa5 b3 (by decide));refine Qab (tb:=[]) 58 [.cell 4 69,.tmp 5] [0,1,4,5,6,7,8,9,10,18,27,28,29] mixed Tryz.func59 rfl (by kernel_rfl) ?_;repeat (first|simp -implicitDefEqProofs only [go_sem,seval]|(with_reducible refine Qaa he ?_ ?_ ?_);rfl;rfl)
   refine Qau mixed (fun i:{i:Nat // i≤3}=>St.of [(4,.bp 0 3 0 0),(5,.int .i64 0),(6,.bp 106 8 0 0),(8,.bp 400 3 0 0),(27,w3PV x0 x1 x2),(28,.int .i64 (i.1:Int))]
    [(0,{els:=[vPV 0 0 0],esz:=3,ety:=69,fro:=0,live:=true,arr:=false}),(106,{els:=[Qad x0 x1 x2 o],esz:=8,ety:=136,fro:=0,live:=true,arr:=false}),(400,{els:=[vPV (sel3 (fun m=>rnd ([x0,x1,x2].getD m 0) o) i.1 0) (sel3 (fun m=>rnd ([x0,x1,x2].getD m 0) o) i.1 1) (sel3 (fun m=>rnd ([x0,x1,x2].getD m 0) o) i.1 2)],esz:=3,ety:=88,fro:=0,live:=true,arr:=false})]) (fun i=>3-i.1) ⟨0,Nat.zero_le _⟩ ?_ ?_
   ·refine Qaj (θ:=[(0,0),(106,106),(400,400)]) rfl ?_ ?_
    ·simp [Qae,lkp,ren1,ren0,Qai,w3PV]
    ·exact⟨⟨rfl,rfl,rfl,rfl,rfl,.inr ⟨rfl,_,_,rfl,rfl,rfl,rfl⟩⟩,⟨rfl,rfl,rfl,rfl,rfl,.inr ⟨rfl,_,_,rfl,rfl,rfl,rfl⟩⟩,⟨rfl,rfl,rfl,rfl,rfl,.inr ⟨rfl,_,_,rfl,rfl,rfl,rfl⟩⟩,trivial⟩
   ·rintro⟨i,hi⟩;by_cases hA:i<3
    ·have hA':((i:Int)<3)=True:=eq_true (by omega);rcases(show i=0∨i=1∨i=2 by omega)with hi0|hi0|hi0
     ·obtain⟨hb1,hr1,hr2⟩:=hb0;obtain rfl:i=0:=hi0;have ii:Qfk (rnd x0 o)= .tup [.int .i64 (rnd x0 o),.int .i64 0]:=by unfold Qfk;rw [if_pos (by omega)]
      have wi:=Qzh (x:=rnd x0 o) (Qa5 (B:=64) (by have:(2:Nat)^64=18446744073709551616:=rfl;omega) (by decide));rw [ii]at wi;have b1:=Qpz hb1 hb1;have b2:=Qv8 hb1 ho;have a1:=Qgx (Qa5 hb1 (by decide)) (Qa5 hb1 (by decide)) (Qa5 b1 (by decide));have a2:=Qgx (Qa5 b1 (by decide)) (Qa5 ho (by decide)) (Qa5 b2 (by decide));have q:=Qnm b2 (by decide) (Qzf b3 (by decide)) (show 0<o+o by omega);have er:(x0+x0+o)/(o+o)=rnd x0 o:=rfl;rw [er]at q;clear er b1 b2 ii;generalize hR:rnd x0 o=R at*;generalize x0+x0+o=S at*;generalize x0+x0=S1 at*;generalize o+o=S2 at*;repeat (first|simp -implicitDefEqProofs only [go_sem,seval,wPV,sel3]|(with_reducible refine Qaa a1 ?_ ?_ ?_);rfl;rfl|(with_reducible refine Qaa a2 ?_ ?_ ?_);rfl;rfl|(with_reducible refine Qaa a3 ?_ ?_ ?_);rfl;rfl|(with_reducible refine Qaa q ?_ ?_ ?_);rfl;rfl|(with_reducible refine Qaa wi ?_ ?_ ?_);rfl;rfl|(with_reducible refine And.intro (Qac _ _ (by kernel_rfl)) ?_))
      refine⟨⟨0+1,hA⟩,by simp only;omega,Qaj (θ:=[(0,0),(106,106),(400,400)]) rfl ?_ ?_⟩
      ·simp [Qae,lkp,ren1,ren0,Qai]
      ·subst hR;exact⟨⟨rfl,rfl,rfl,rfl,rfl,.inr ⟨rfl,_,_,rfl,rfl,rfl,rfl⟩⟩,⟨rfl,rfl,rfl,rfl,rfl,.inr ⟨rfl,_,_,rfl,rfl,rfl,rfl⟩⟩,⟨rfl,rfl,rfl,rfl,rfl,.inr ⟨rfl,_,_,rfl,rfl,rfl,rfl⟩⟩,trivial⟩
     ·obtain⟨hb1,hr1,hr2⟩:=hbb1;obtain rfl:i=1:=hi0;have ii:Qfk (rnd x1 o)= .tup [.int .i64 (rnd x1 o),.int .i64 0]:=by unfold Qfk;rw [if_pos (by omega)]
      have wi:=Qzh (x:=rnd x1 o) (Qa5 (B:=64) (by have:(2:Nat)^64=18446744073709551616:=rfl;omega) (by decide));rw [ii]at wi;have b1:=Qpz hb1 hb1;have b2:=Qv8 hb1 ho;have a1:=Qgx (Qa5 hb1 (by decide)) (Qa5 hb1 (by decide)) (Qa5 b1 (by decide));have a2:=Qgx (Qa5 b1 (by decide)) (Qa5 ho (by decide)) (Qa5 b2 (by decide));have q:=Qnm b2 (by decide) (Qzf b3 (by decide)) (show 0<o+o by omega);have er:(x1+x1+o)/(o+o)=rnd x1 o:=rfl;rw [er]at q;clear er b1 b2 ii;generalize hR:rnd x1 o=R at*;generalize x1+x1+o=S at*;generalize x1+x1=S1 at*;generalize o+o=S2 at*;repeat (first|simp -implicitDefEqProofs only [go_sem,seval,wPV,sel3]|(with_reducible refine Qaa a1 ?_ ?_ ?_);rfl;rfl|(with_reducible refine Qaa a2 ?_ ?_ ?_);rfl;rfl|(with_reducible refine Qaa a3 ?_ ?_ ?_);rfl;rfl|(with_reducible refine Qaa q ?_ ?_ ?_);rfl;rfl|(with_reducible refine Qaa wi ?_ ?_ ?_);rfl;rfl|(with_reducible refine And.intro (Qac _ _ (by kernel_rfl)) ?_))
      refine⟨⟨1+1,hA⟩,by simp only;omega,Qaj (θ:=[(0,0),(106,106),(400,400)]) rfl ?_ ?_⟩
      ·simp [Qae,lkp,ren1,ren0,Qai]
      ·subst hR;exact⟨⟨rfl,rfl,rfl,rfl,rfl,.inr ⟨rfl,_,_,rfl,rfl,rfl,rfl⟩⟩,⟨rfl,rfl,rfl,rfl,rfl,.inr ⟨rfl,_,_,rfl,rfl,rfl,rfl⟩⟩,⟨rfl,rfl,rfl,rfl,rfl,.inr ⟨rfl,_,_,rfl,rfl,rfl,rfl⟩⟩,trivial⟩
     ·obtain⟨hb1,hr1,hr2⟩:=hb2;obtain rfl:i=2:=hi0;have ii:Qfk (rnd x2 o)= .tup [.int .i64 (rnd x2 o),.int .i64 0]:=by unfold Qfk;rw [if_pos (by omega)]
      have wi:=Qzh (x:=rnd x2 o) (Qa5 (B:=64) (by have:(2:Nat)^64=18446744073709551616:=rfl;omega) (by decide));rw [ii]at wi;have b1:=Qpz hb1 hb1;have b2:=Qv8 hb1 ho;have a1:=Qgx (Qa5 hb1 (by decide)) (Qa5 hb1 (by decide)) (Qa5 b1 (by decide));have a2:=Qgx (Qa5 b1 (by decide)) (Qa5 ho (by decide)) (Qa5 b2 (by decide));have q:=Qnm b2 (by decide) (Qzf b3 (by decide)) (show 0<o+o by omega);have er:(x2+x2+o)/(o+o)=rnd x2 o:=rfl;rw [er]at q;clear er b1 b2 ii;generalize hR:rnd x2 o=R at*;generalize x2+x2+o=S at*;generalize x2+x2=S1 at*;generalize o+o=S2 at*;repeat (first|simp -implicitDefEqProofs only [go_sem,seval,wPV,sel3]|(with_reducible refine Qaa a1 ?_ ?_ ?_);rfl;rfl|(with_reducible refine Qaa a2 ?_ ?_ ?_);rfl;rfl|(with_reducible refine Qaa a3 ?_ ?_ ?_);rfl;rfl|(with_reducible refine Qaa q ?_ ?_ ?_);rfl;rfl|(with_reducible refine Qaa wi ?_ ?_ ?_);rfl;rfl|(with_reducible refine And.intro (Qac _ _ (by kernel_rfl)) ?_))
      refine⟨⟨2+1,hA⟩,by simp only;omega,Qaj (θ:=[(0,0),(106,106),(400,400)]) rfl ?_ ?_⟩
      ·simp [Qae,lkp,ren1,ren0,Qai]
      ·subst hR;exact⟨⟨rfl,rfl,rfl,rfl,rfl,.inr ⟨rfl,_,_,rfl,rfl,rfl,rfl⟩⟩,⟨rfl,rfl,rfl,rfl,rfl,.inr ⟨rfl,_,_,rfl,rfl,rfl,rfl⟩⟩,⟨rfl,rfl,rfl,rfl,rfl,.inr ⟨rfl,_,_,rfl,rfl,rfl,rfl⟩⟩,trivial⟩
    ·have hA':((i:Int)<3)=False:=eq_false (by omega);obtain rfl:i=3:=by omega
     have z0:sel3 (fun m=>rnd ([x0,x1,x2].getD m 0) o) 3 0=rnd x0 o:=rfl;have z1:sel3 (fun m=>rnd ([x0,x1,x2].getD m 0) o) 3 1=rnd x1 o:=rfl;have z2:sel3 (fun m=>rnd ([x0,x1,x2].getD m 0) o) 3 2=rnd x2 o:=rfl;simp only [z0,z1,z2];repeat simp -implicitDefEqProofs only [go_sem,seval]
abbrev BaOk (B:Bat):Prop:=(0≤B.base∧B.base≤1000000)∧(0≤B.climb∧B.climb≤1000000)∧(0≤B.drag∧B.drag≤1000000)∧0≤B.res∧B.res≤B.cap∧B.cap≤1125899906842624
theorem Zy4 {B:Bat} (h:BaOk B):Qbc B=true:=by
 unfold BaOk at h;simp only [Qbc,Q4p,Bool.and_eq_true,decide_eq_true_eq];omega
theorem Qq9 {B:Bat} (h: ¬BaOk B):Qbc B=false:=by
 cases e:Qbc B with
 |false=>rfl
 |true=>exact(h (Qdc e)).elim
set_option maxHeartbeats 4000000 in
set_option maxRecDepth 100000 in
theorem Qyv (B:Bat):Qaf Tryz.prog 43 [baPV B] (.bool (Qbc B)):=by
 unfold baPV;by_cases c0:B.base<0
 ·have c0':=eq_true c0;have e:Qbc B=false:=Qq9 (by unfold BaOk;omega);refine Qab (tb:=[]) 37 [.tmp 2] [0,1,2,4,11,12,13,20] mixed Tryz.func43 rfl (by kernel_rfl) ?_;repeat simp only [go_sem,seval]
  refine Qcf mixed [0,1,2,3] ?_;repeat simp only [go_sem,seval,e,Qi6,decide_true,c0']
 have c0':=eq_false c0;by_cases c1:1000000<B.base
 ·have c1':=eq_true c1;have e:Qbc B=false:=Qq9 (by unfold BaOk;omega);refine Qab (tb:=[]) 37 [.tmp 2] [0,1,2,4,11,12,13,20] mixed Tryz.func43 rfl (by kernel_rfl) ?_;repeat simp only [go_sem,seval]
  refine Qcf mixed [0,1,2,3] ?_;repeat simp only [go_sem,seval,e,Qi6,decide_true,decide_false,c0',c1']
 have c1':=eq_false c1;by_cases c2:B.climb<0
 ·have c2':=eq_true c2;have e:Qbc B=false:=Qq9 (by unfold BaOk;omega);refine Qab (tb:=[]) 37 [.tmp 2] [0,1,2,4,11,12,13,20] mixed Tryz.func43 rfl (by kernel_rfl) ?_;repeat simp only [go_sem,seval]
  refine Qcf mixed [0,1,2,3] ?_;repeat simp only [go_sem,seval,e,Qq8,Qi6,decide_true,decide_false,c0',c1',c2']
 have c2':=eq_false c2;by_cases c3:1000000<B.climb
 ·have c3':=eq_true c3;have e:Qbc B=false:=Qq9 (by unfold BaOk;omega);refine Qab (tb:=[]) 37 [.tmp 2] [0,1,2,4,11,12,13,20] mixed Tryz.func43 rfl (by kernel_rfl) ?_;repeat simp only [go_sem,seval]
  refine Qcf mixed [0,1,2,3] ?_;repeat simp only [go_sem,seval,e,Qq8,Qi6,decide_true,decide_false,c0',c1',c2',c3']
 have c3':=eq_false c3;by_cases c4:B.drag<0
 ·have c4':=eq_true c4;have e:Qbc B=false:=Qq9 (by unfold BaOk;omega);refine Qab (tb:=[]) 37 [.tmp 2] [0,1,2,4,11,12,13,20] mixed Tryz.func43 rfl (by kernel_rfl) ?_;repeat simp only [go_sem,seval]
  refine Qcf mixed [0,1,2,3] ?_;repeat simp only [go_sem,seval,e,Qq8,Qvy,Qi6,decide_true,decide_false,c0',c1',c2',c3',c4']
 have c4':=eq_false c4;by_cases c5:1000000<B.drag
 ·have c5':=eq_true c5;have e:Qbc B=false:=Qq9 (by unfold BaOk;omega);refine Qab (tb:=[]) 37 [.tmp 2] [0,1,2,4,11,12,13,20] mixed Tryz.func43 rfl (by kernel_rfl) ?_;repeat simp only [go_sem,seval]
  refine Qcf mixed [0,1,2,3] ?_;repeat simp only [go_sem,seval,e,Qq8,Qvy,Qi6,decide_true,decide_false,c0',c1',c2',c3',c4',c5']
 have c5':=eq_false c5;by_cases c6:0≤B.res
 case neg=>
  have c6':=eq_false c6;have e:Qbc B=false:=Qq9 (by unfold BaOk;omega);refine Qab (tb:=[]) 37 [.tmp 2] [0,1,2,4,11,12,13,20] mixed Tryz.func43 rfl (by kernel_rfl) ?_;repeat simp only [go_sem,seval]
  refine Qcf mixed [0,1,2,3] ?_;repeat simp only [go_sem,seval,e,Qq8,Qvy,Q6l,Qi6,decide_true,decide_false,c0',c1',c2',c3',c4',c5',c6']
 have c6':=eq_true c6;by_cases c7:B.res≤B.cap
 case neg=>
  have c7':=eq_false c7;have e:Qbc B=false:=Qq9 (by unfold BaOk;omega);refine Qab (tb:=[]) 37 [.tmp 2] [0,1,2,4,11,12,13,20] mixed Tryz.func43 rfl (by kernel_rfl) ?_;repeat simp only [go_sem,seval]
  refine Qcf mixed [0,1,2,3] ?_;repeat simp only [go_sem,seval,e,Qq8,Qvy,Q6l,Qi6,decide_true,decide_false,c0',c1',c2',c3',c4',c5',c6',c7']
 have c7':=eq_true c7;by_cases c8:B.cap≤1125899906842624
 case neg=>
  have c8':=eq_false c8;have e:Qbc B=false:=Qq9 (by unfold BaOk;omega);refine Qab (tb:=[]) 37 [.tmp 2] [0,1,2,4,11,12,13,20] mixed Tryz.func43 rfl (by kernel_rfl) ?_;repeat simp only [go_sem,seval]
  refine Qcf mixed [0,1,2,3] ?_;repeat simp only [go_sem,seval,e,Qq8,Qvy,Q6l,Qi6,decide_true,decide_false,c0',c1',c2',c3',c4',c5',c6',c7',c8']
 have c8':=eq_true c8;have e:Qbc B=true:=Zy4 (by unfold BaOk;omega);refine Qab (tb:=[]) 37 [.tmp 2] [0,1,2,4,11,12,13,20] mixed Tryz.func43 rfl (by kernel_rfl) ?_;repeat simp only [go_sem,seval]
 refine Qcf mixed [0,1,2,3] ?_;repeat simp only [go_sem,seval,e,Qq8,Qvy,Q6l,Qi6,decide_true,decide_false,c0',c1',c2',c3',c4',c5',c6',c7',c8']
def posS (s:Sg) (i:Nat):Int:=rnd (exQ [s] s.f i) (exO [s] s.f)
def alV (l:List Wd) (s:Sg):PV:=Q06 l (posS s 0) (posS s 1) (posS s 2) s.f
theorem Q68 {s:Sg} (h:Qbm s=true):Qbq [s]=true:=by
 unfold Qbq vpTo;simp [vpAt,h,List.range_succ]
theorem Q69 {s:Sg} (h:Qbm s=true):lasts [s] s.f=true:=by
 have:=(Qbv h).1;simp only [lasts,pBeg,pEnd,Bool.and_eq_true,decide_eq_true_eq];simp;omega
theorem Zzy {s:Sg} (hs:okSg s) (h:Qbm s=true):Qaf Tryz.prog 59 [.slc [sgPV s],.int .i64 s.f] (.tup [.agg [.int .i64 (posS s 0),.int .i64 (posS s 1),.int .i64 (posS s 2)],.int .i64 0]):=by
 have h1:=Z32 [s] s.f (fun x hx=>by rw [List.mem_singleton.1 hx];exact hs) (by simp) hs.f;unfold atPV at h1;rw [if_pos (Q68 h),if_pos (Q69 h)]at h1;exact h1
theorem Zf8 (p:List Sg) (i:Nat) (h:i<p.length):((p.map sgPV).take (i+1)).drop i=[sgPV p[i]]:=by
 rw [Qcp _ i (by simpa using h),List.drop_append_of_le_length (by simp;omega),List.drop_eq_nil_of_le (by simp;omega)];simp
theorem Zsz (p:List Sg):((p.map sgPV).all fun x=>x.cells.length==6)=true:=by rw [List.all_map,List.all_eq_true];intro _ _;rfl
theorem Zqi (l:List Wd) (T:List Sg):((T.map (alV l)).flatMap PV.cells).all PV.okCell=true:=by
 rw [List.all_eq_true];intro c hc;simp only [List.mem_flatMap,List.mem_map]at hc;obtain⟨_,⟨s,_,rfl⟩,h⟩:=hc;simp only [alV,Q06,PV.cells,List.mem_cons,List.not_mem_nil,or_false]at h;rcases h with rfl|rfl|rfl<;>rfl
set_option maxHeartbeats 4000000 in
theorem Q7a (l:List Wd) (p:List Sg) (hp: ∀s∈p,okSg s) (hl:l.length≤maxLen) (hpl:p.length≤1000000):Qaf Tryz.prog 45 [wsPV l,Qdx p] (if Qba l=true∧Qbq p=true then .tup [.slc (p.map (alV l)),.int .i64 0]else .tup [.slc [],.int .i64 2]):=by
 have v1:=Qgw l hl;have v2:=Qgz p hp hpl;unfold Qdx at v2 ⊢;cases hv:Qba l with
 |false=>
  rw [hv]at v1;refine Qab (tb:=[]) 49 [.tmp 4,.tmp 5] [0,1,4,5,6,7,8,9,18,19,20,21,22] mixed Tryz.func45 rfl (by kernel_rfl) ?_;repeat (first|simp only [go_sem,seval,Bool.not_false,Bool.false_eq_true,false_and]|(with_reducible refine Qaa v1 ?_ ?_ ?_);rfl;rfl)
 |true=>
 cases hV:Qbq p with
 |false=>
  rw [hv]at v1;rw [hV]at v2;refine Qab (tb:=[]) 49 [.tmp 4,.tmp 5] [0,1,4,5,6,7,8,9,18,19,20,21,22] mixed Tryz.func45 rfl (by kernel_rfl) ?_;repeat (first|simp only [go_sem,seval,Bool.not_false,Bool.not_true,Bool.false_eq_true,and_false]|(with_reducible refine Qaa v1 ?_ ?_ ?_);rfl;rfl|(with_reducible refine Qaa v2 ?_ ?_ ?_);rfl;rfl)
 |true=>
  rw [hv]at v1;rw [hV]at v2;rw [if_pos ⟨rfl,rfl⟩];have h8:=(Qbo hv).2;refine Qab (tb:=[]) 49 [.tmp 4,.tmp 5] [0,1,4,5,6,7,8,9,18,19,20,21,22] mixed Tryz.func45 rfl (by kernel_rfl) ?_;repeat (first|simp only [go_sem,seval,Bool.not_true,List.length_map]|(with_reducible refine Qaa v1 ?_ ?_ ?_);rfl;rfl|(with_reducible refine Qaa v2 ?_ ?_ ?_);rfl;rfl)
  refine Qau mixed (fun i:{i:Nat // i≤p.length}=>St.of [(0,wsPV l),(1,.slc (p.map sgPV)),(6,.bs 7 3 0 i.1),(19,.slc (p.map sgPV)),(20,.int .i64 (p.length:Int)),(21,.int .i64 (i.1:Int))] [(7,{els:=(p.take i.1).map (alV l),esz:=3,ety:=69,fro:=0,live:=true,arr:=true})]) (fun i=>p.length-i.1) ⟨0,Nat.zero_le _⟩ ?_ ?_
  ·refine Qow 6 7 3 69 rfl rfl rfl (by decide) [(7,7)] rfl ?_ ?_
   ·simp [Qae,lkp,ren1,ren0,Qai,wsPV]
   ·exact⟨⟨rfl,rfl,rfl,rfl,rfl,.inl ⟨rfl,rfl⟩⟩,trivial⟩
  ·rintro⟨i,hi⟩;simp only;by_cases hA:i<p.length
   ·skip
    have hA':=ltT hA;have n0:=nnT i;have hg:=Qgy p i hA;have hsl:((p.map sgPV).take (i+1)).drop i=[.agg [.int .i64 p[i].f,.int .i64 p[i].t,.int .i64 p[i].o,.slc (p[i].x.map (PV.int .i64)),.slc (p[i].y.map (PV.int .i64)),.slc (p[i].z.map (PV.int .i64))]]:=Zf8 p i hA;have hs:=hp _ (List.getElem_mem hA);have hvs:=Qfh hV _ hA;have f1:=Zzy hs hvs;have f2:=Qtr l (posS p[i] 0) (posS p[i] 1) (posS p[i] 2) p[i].f h8;have f3:=Q67 l (posS p[i] 0) (posS p[i] 1) (posS p[i] 2) p[i].f hv;have hwk:=Qak (a:=i) (by omega);have hsn:(p.take (i+1)).map (alV l)=(p.take i).map (alV l)++[Q06 l (posS p[i] 0) (posS p[i] 1) (posS p[i] 2) p[i].f]:=by rw [Qcp p i hA,List.map_append];rfl
    have hln:((p.take i).map (alV l)).length=i:=by simp;omega
    have hok:=Zqi l (p.take i);have k1:((i+1)*24≤140737488355328)=True:=eq_true (by omega);have k2:(i+1≤maxLen)=True:=eq_true (by unfold maxLen;omega);have k3:((i:Int)≤((i+1:Nat):Int))=True:=eq_true (by omega);have k4:(((i+1:Nat):Int)≤(p.length:Int))=True:=eq_true (by omega);have hall:=Zsz p;generalize hT2:(p.take (i+1)).map (alV l)=T2 at*;generalize (p.take i).map (alV l)=T at*;generalize p[i]=s at*;generalize mask (blW (posS s 0) (posS s 1) (posS s 2) s.f) l=m at*;unfold Q06 at f3 hsn;generalize atW Wd.ux l (posS s 0) (posS s 1) (posS s 2) s.f=u0 at*;generalize atW Wd.uy l (posS s 0) (posS s 1) (posS s 2) s.f=u1 at*;generalize atW Wd.uz l (posS s 0) (posS s 1) (posS s 2) s.f=u2 at*;generalize posS s 0=x0 at*;generalize posS s 1=x1 at*;generalize posS s 2=x2 at*;unfold sgPV Qbj at f1;repeat (first|simp only [go_sem,seval,hA',n0,hg,hsl,hwk,k3,k4,hall,Int.toNat_natCast,List.length_map]|(with_reducible refine Qaa f1 ?_ ?_ ?_);rfl;rfl|(with_reducible refine And.intro (Qac _ _ (by kernel_rfl)) ?_))
    repeat (first|simp only [go_sem,seval,hln,hok,hwk,k1,k2]|(with_reducible refine Qaa f2 ?_ ?_ ?_);rfl;rfl|(with_reducible refine Qaa f3 ?_ ?_ ?_);rfl;rfl)
    refine⟨⟨i+1,hA⟩,by simp only;omega,Qaj (θ:=[(7,809)]) rfl ?_ ?_⟩
    ·simp [Qae,lkp,ren1,ren0,Qai,wsPV]
    ·simp only [hT2,hsn];exact⟨⟨rfl,rfl,rfl,rfl,rfl,.inl ⟨rfl,rfl⟩⟩,trivial⟩
   ·have hA':=ltF hA;obtain rfl:i=p.length:=by omega
    have ht:p.take p.length=p:=List.take_length;have ht2:(p.map (alV l)).take p.length=p.map (alV l):=List.take_of_length_le (by simp);have hok:=Zqi l p;rw [ht];have hln:(p.map (alV l)).length=p.length:=by simp
    generalize p.map (alV l)=T at*;repeat simp only [go_sem,seval,hA',ht2,hln]
def cstW (l:List Wd) (B:Bat) (s:Sg):Int:=Qoz s B (atW Wd.ux l (posS s 0) (posS s 1) (posS s 2) s.f) (atW Wd.uy l (posS s 0) (posS s 1) (posS s 2) s.f) (atW Wd.uz l (posS s 0) (posS s 1) (posS s 2) s.f)
def csL (l:List Wd) (B:Bat) (p:List Sg):List Int:=p.map (cstW l B)
theorem Q6m (l:List Wd) (B:Bat) (p:List Sg):(csL l B p).length=p.length:=by simp [csL]
theorem Zsb (l:List Wd) (B:Bat) (p:List Sg) {i:Nat} (h:i<p.length):(csL l B p).getD i 0=cstW l B p[i]:=by simp [csL,h]
theorem Zy5 {s:Sg} (hv:Qbm s=true) {B:Bat} (hB:Qbc B=true) {l:List Wd} (hw:Qba l=true):0≤cstW l B s∧cstW l B s≤400000000000000000:=by
 obtain⟨⟨v1,v2,v3,v4,v5⟩,hax, -⟩:=Qbv hv;exact Qyf (by unfold rngS;simp only [Bool.and_eq_true,decide_eq_true_eq];omega) (hax s.x (by simp [Sg.ax])) (hax s.y (by simp [Sg.ax])) (hax s.z (by simp [Sg.ax])) hB (Qgj (.inl rfl) hw _ _ _ _) (Qgj (.inr (.inl rfl)) hw _ _ _ _) (Qgj (.inr (.inr rfl)) hw _ _ _ _)
theorem Q6n {p:List Sg} (hV:Qbq p=true) {B:Bat} (hB:Qbc B=true) {l:List Wd} (hw:Qba l=true):okCs (csL l B p):=by
 intro c hc;obtain⟨s,hs,rfl⟩:=List.mem_map.1 hc;obtain⟨i,hi,rfl⟩:=List.mem_iff_getElem.1 hs;exact Zy5 (Qfh hV i hi) hB hw
theorem Zqc (l:List Wd) (p:List Sg) {i:Nat} (h:i<p.length):(p.map (alV l))[i]? =some (.agg [.int .i64 (atW Wd.ux l (posS p[i] 0) (posS p[i] 1) (posS p[i] 2) p[i].f),.int .i64 (atW Wd.uy l (posS p[i] 0) (posS p[i] 1) (posS p[i] 2) p[i].f),.int .i64 (atW Wd.uz l (posS p[i] 0) (posS p[i] 1) (posS p[i] 2) p[i].f)]):=by
 rw [List.getElem?_map,List.getElem?_eq_getElem h];rfl
def Qnd (p:List Sg) (B:Bat) (l:List Wd):Bool:=Qbq p&&(Qbc B&&Qba l)
set_option maxHeartbeats 8000000 in
theorem Zsc (p:List Sg) (B:Bat) (l:List Wd) (hp: ∀s∈p,okSg s) (hl:l.length≤maxLen) (hpl:p.length≤1000000):
  Qaf Tryz.prog 87 [Qdx p,baPV B,wsPV l] (if Qnd p B l=true then .tup [.slc ((smL (csL l B p) (cutE (csL l B p))).map (PV.int .i64)),.int .i64 0]else .tup [.slc [],.int .i64 2]):=by
 have v1:=Qgz p hp hpl;have v2:=Qyv B;have v3:=Qgw l hl;have f1:=Q7a l p hp hl hpl;unfold Qnd;unfold Qdx at v1 f1 ⊢;cases hV:Qbq p with
 |false=>
  rw [hV]at v1;unfold baPV at v2 ⊢;refine Qab (tb:=[]) 67 [.tmp 6,.tmp 7] [0,1,2,4,6,7,8,10,11,12,13,14,15,28,35,36,37,38,60] mixed Tryz.func87 rfl (by kernel_rfl) ?_;repeat (first|simp only [go_sem,seval,Bool.not_false,Bool.false_eq_true,Bool.false_and]|(with_reducible refine Qaa v1 ?_ ?_ ?_);rfl;rfl)
 |true=>
 rw [hV]at v1;cases hB:Qbc B with
 |false=>
  rw [hB]at v2;unfold baPV at v2 ⊢;refine Qab (tb:=[]) 67 [.tmp 6,.tmp 7] [0,1,2,4,6,7,8,10,11,12,13,14,15,28,35,36,37,38,60] mixed Tryz.func87 rfl (by kernel_rfl) ?_;repeat (first|simp only [go_sem,seval,Bool.not_false,Bool.not_true,Bool.false_eq_true,Bool.false_and,Bool.true_and]|(with_reducible refine Qaa v1 ?_ ?_ ?_);rfl;rfl|(with_reducible refine Qaa v2 ?_ ?_ ?_);rfl;rfl)
 |true=>
 rw [hB]at v2;cases hw:Qba l with
 |false=>
  rw [hw]at v3;unfold baPV at v2 ⊢;refine Qab (tb:=[]) 67 [.tmp 6,.tmp 7] [0,1,2,4,6,7,8,10,11,12,13,14,15,28,35,36,37,38,60] mixed Tryz.func87 rfl (by kernel_rfl) ?_;repeat (first|simp only [go_sem,seval,Bool.not_false,Bool.not_true,Bool.false_eq_true,Bool.and_false,Bool.true_and]|(with_reducible refine Qaa v1 ?_ ?_ ?_);rfl;rfl|(with_reducible refine Qaa v2 ?_ ?_ ?_);rfl;rfl|(with_reducible refine Qaa v3 ?_ ?_ ?_);rfl;rfl)
 |true=>
 rw [hw]at v3;rw [if_pos ⟨hw,hV⟩]at f1;rw [if_pos (show(true&&(true&&true))=true from rfl)];have hok:=Q6n hV hB hw;have hcl:=Q6m l B p;have hpV:=Qcv hV;unfold baPV at v2 ⊢;refine Qab (tb:=[]) 67 [.tmp 6,.tmp 7] [0,1,2,4,6,7,8,10,11,12,13,14,15,28,35,36,37,38,60] mixed Tryz.func87 rfl (by kernel_rfl) ?_;repeat (first|simp only [go_sem,seval,Bool.not_true,List.length_map]|(with_reducible refine Qaa v1 ?_ ?_ ?_);rfl;rfl|(with_reducible refine Qaa v2 ?_ ?_ ?_);rfl;rfl|(with_reducible refine Qaa v3 ?_ ?_ ?_);rfl;rfl|(with_reducible refine Qaa f1 ?_ ?_ ?_);rfl;rfl)
 refine Qau mixed (fun i:{i:Nat // i≤p.length∧ ∀j,j<i→preI (csL l B p) (j+1)≤mxE}=>St.of [(4,.bp 0 5 0 0),(8,.slc (p.map (alV l))),(10,.bs 7 1 0 i.1),(11,.int .i64 (preI (csL l B p) i.1)),(35,.slc (p.map sgPV)),(36,.int .i64 (p.length:Int)),(37,.int .i64 (i.1:Int))]
  [(0,{els:=[baPV B],esz:=5,ety:=28,fro:=0,live:=true,arr:=false}),(7,iB1 (smL (csL l B p) i.1))]) (fun i=>p.length-i.1) ⟨0,Nat.zero_le _,fun j hj=>by omega⟩ ?_ ?_
 ·refine Qow 10 7 1 3 rfl rfl rfl (by decide) [(0,0),(7,7)] rfl ?_ ?_
  ·simp [Qae,lkp,ren1,ren0,Qai];rfl
  ·exact⟨⟨rfl,rfl,rfl,rfl,rfl,.inr ⟨rfl,_,_,rfl,rfl,rfl,rfl⟩⟩,⟨rfl,rfl,rfl,rfl,rfl,.inl ⟨rfl,rfl⟩⟩,trivial⟩
 rintro⟨i,hi,hall⟩;simp only;by_cases hA:i<p.length
 case neg=>
  have hA':=ltF hA;obtain rfl:i=p.length:=by omega
  have hce:cutE (csL l B p)=p.length:=by rw [Qyb (by rw [hcl];exact hall),hcl]
  rw [hce];have hsm:(smL (csL l B p) p.length).length=p.length:=Qfb _ _;have ht:((smL (csL l B p) p.length).map (PV.int .i64)).take p.length=(smL (csL l B p) p.length).map (PV.int .i64):=List.take_of_length_le (by simp [Qfb]);have hk:=Qfy (smL (csL l B p) p.length);generalize smL (csL l B p) p.length=SM at*;repeat simp only [go_sem,seval,hA',hsm,ht,List.length_map]
 have hA':=ltT hA;have n0:=nnT i;have hg:=Qgy p i hA;have hga:=Zqc l p hA;have hvs:=Qfh hV _ hA;have f2:=Zsa p[i] B _ _ _ (hp _ (List.getElem_mem hA)) hvs hB (Qgj (.inl rfl) hw (posS p[i] 0) (posS p[i] 1) (posS p[i] 2) p[i].f) (Qgj (.inr (.inl rfl)) hw (posS p[i] 0) (posS p[i] 1) (posS p[i] 2) p[i].f) (Qgj (.inr (.inr rfl)) hw (posS p[i] 0) (posS p[i] 1) (posS p[i] 2) p[i].f);have hcw:Qoz p[i] B (atW Wd.ux l (posS p[i] 0) (posS p[i] 1) (posS p[i] 2) p[i].f) (atW Wd.uy l (posS p[i] 0) (posS p[i] 1) (posS p[i] 2) p[i].f) (atW Wd.uz l (posS p[i] 0) (posS p[i] 1) (posS p[i] 2) p[i].f)=(csL l B p).getD i 0:=(Zsb l B p hA).symm;rw [hcw]at f2;have hbd:=Q4j hok i;have hpre:=Qmt (csL l B p) i;have hnn:=Q4k hok i;have hle:preI (csL l B p) i≤mxE:=by
  cases i with
  |zero=>exact(by decide:(0:Int)≤mxE)
  |succ i=>exact hall i (by omega)
 have hwk:=Qak (a:=i) (by omega);have hws:IntKind.i64.wrap (preI (csL l B p) i+(csL l B p).getD i 0)=preI (csL l B p) (i+1):=by rw [←hpre];unfold mxE at hle;exact Qag (by omega) (by omega)
 clear hcw;generalize atW Wd.ux l (posS p[i] 0) (posS p[i] 1) (posS p[i] 2) p[i].f=w0 at*;generalize atW Wd.uy l (posS p[i] 0) (posS p[i] 1) (posS p[i] 2) p[i].f=w1 at*;generalize atW Wd.uz l (posS p[i] 0) (posS p[i] 1) (posS p[i] 2) p[i].f=w2 at*;generalize p[i]=s at*;unfold sgPV Qbj baPV at f2;by_cases hC:(csL l B p).getD i 0≤1125899906842624
 ·rw [decide_eq_true hC]at f2;by_cases hS:1125899906842624<preI (csL l B p) (i+1)
  ·have hS':=eq_true hS;have hce:cutE (csL l B p)=i:=Qsu (by omega) hall hS;have hsm:(smL (csL l B p) i).length=i:=Qfb _ _;have ht:((smL (csL l B p) i).map (PV.int .i64)).take i=(smL (csL l B p) i).map (PV.int .i64):=List.take_of_length_le (by simp [Qfb]);have hk:=Qfy (smL (csL l B p) i);rw [hce];generalize smL (csL l B p) i=SM at*;generalize preI (csL l B p) (i+1)=P1 at*;generalize preI (csL l B p) i=P0 at*;generalize (csL l B p).getD i 0=C at*;repeat (first|simp only [go_sem,seval,hA',n0,hg,hga,hws,hS',hsm,ht,Bool.not_true,decide_true,Int.toNat_natCast,List.length_map]|(with_reducible refine Qaa f2 ?_ ?_ ?_);rfl;rfl|(with_reducible exact Qac _ _ (by kernel_rfl)))
  ·have hS':=eq_false hS;have hsn:=Ze1 (csL l B p) i;have hsm:(smL (csL l B p) i).length=i:=Qfb _ _;have hk:=Qfy (smL (csL l B p) i);have k1:((i+1)*8≤140737488355328)=True:=eq_true (by omega);have k2:(i+1≤maxLen)=True:=eq_true (by unfold maxLen;omega);have hall2: ∀j,j<i+1→preI (csL l B p) (j+1)≤mxE:=fun j hj=>by
    by_cases e:j=i
    ·subst e;unfold mxE;omega
    ·exact hall j (by omega)
   generalize hSM2:smL (csL l B p) (i+1)=SM2 at*;generalize smL (csL l B p) i=SM at*;generalize hP1:preI (csL l B p) (i+1)=P1 at*;generalize preI (csL l B p) i=P0 at*;generalize (csL l B p).getD i 0=C at*;repeat (first|simp only [go_sem,seval,hA',n0,hg,hga,hws,hwk,hS',hsm,hk,k1,k2,Bool.not_true,decide_false,Int.toNat_natCast,List.length_map]|(with_reducible refine Qaa f2 ?_ ?_ ?_);rfl;rfl|(with_reducible refine And.intro (Qac _ _ (by kernel_rfl)) ?_))
   refine⟨⟨i+1,hA,hall2⟩,by simp only;omega,Qaj (θ:=[(0,0),(7,1203)]) rfl ?_ ?_⟩
   ·simp only [hP1];simp [Qae,lkp,ren1,ren0,Qai]
   ·simp only [hSM2,hsn];refine⟨⟨rfl,rfl,rfl,rfl,rfl,.inr ⟨rfl,_,_,rfl,rfl,rfl,rfl⟩⟩,⟨rfl,rfl,rfl,rfl,rfl,.inl ⟨rfl,?_⟩⟩,trivial⟩;simp
 ·rw [decide_eq_false hC]at f2;have hS:mxE<preI (csL l B p) (i+1):=by unfold mxE;omega
  have hce:cutE (csL l B p)=i:=Qsu (by omega) hall hS;have hsm:(smL (csL l B p) i).length=i:=Qfb _ _;have ht:((smL (csL l B p) i).map (PV.int .i64)).take i=(smL (csL l B p) i).map (PV.int .i64):=List.take_of_length_le (by simp [Qfb]);have hk:=Qfy (smL (csL l B p) i);rw [hce];generalize smL (csL l B p) i=SM at*;generalize preI (csL l B p) (i+1)=P1 at*;generalize preI (csL l B p) i=P0 at*;generalize (csL l B p).getD i 0=C at*;repeat (first|simp only [go_sem,seval,hA',n0,hg,hga,hws,hsm,ht,Bool.not_false,Int.toNat_natCast,List.length_map]|(with_reducible refine Qaa f2 ?_ ?_ ?_);rfl;rfl|(with_reducible exact Qac _ _ (by kernel_rfl)))
def totE (l:List Wd) (B:Bat) (p:List Sg):Int:=preI (csL l B p) p.length
def enPV (l:List Wd) (B:Bat) (p:List Sg):PV:=if Qnd p B l=true then(if totE l B p≤mxE then .tup [.int .i64 (totE l B p),.int .i64 0]else .tup [.int .i64 0,.int .i64 7])else .tup [.int .i64 0,.int .i64 2]
def lePV (l:List Wd) (B:Bat) (p:List Sg):PV:=if Qnd p B l=true then(if totE l B p≤mxE then .tup [.int .i64 (B.cap-totE l B p),.int .i64 0]else .tup [.int .i64 0,.int .i64 7])else .tup [.int .i64 0,.int .i64 2]
def ehPV (l:List Wd) (B:Bat) (p:List Sg):PV:=if Qnd p B l=true then(if totE l B p≤mxE then .tup [.bool (decide (B.res≤B.cap-totE l B p)),.int .i64 0]else .tup [.bool false,.int .i64 7])else .tup [.bool false,.int .i64 2]
theorem Qne {p:List Sg} {B:Bat} {l:List Wd} (h:Qnd p B l=true):Qbq p=true∧Qbc B=true∧Qba l=true:=by
 simpa only [Qnd,Bool.and_eq_true]using h
theorem Zy6 {cs:List Int} {k i:Nat} (h:i<k):((smL cs k).map (PV.int .i64))[i]? =some (.int .i64 (preI cs (i+1))):=by
 rw [List.getElem?_map,List.getElem?_eq_getElem (by rw [Qfb];exact h)];have:=Zq5 (cs:=cs) h;rw [List.getD_eq_getElem?_getD,List.getElem?_eq_getElem (by rw [Qfb];exact h)]at this;simp only [Option.getD_some]at this;rw [Option.map_some,this]
set_option maxHeartbeats 4000000 in
theorem Q6o (p:List Sg) (B:Bat) (l:List Wd) (hp: ∀s∈p,okSg s) (hl:l.length≤maxLen) (hpl:p.length≤1000000):Qaf Tryz.prog 64 [Qdx p,baPV B,wsPV l] (enPV l B p):=by
 have h:=Zsc p B l hp hl hpl;unfold enPV;unfold Qdx baPV at h ⊢;cases hO:Qnd p B l with
 |false=>
  rw [hO]at h;refine Qab (tb:=[]) 33 [.tmp 6,.tmp 7] [0,1,2,4,6,7,8,9,17,21] mixed Tryz.func64 rfl (by kernel_rfl) ?_;repeat (first|simp only [go_sem,seval,Ztf,Bool.false_eq_true]|(with_reducible refine Qaa h ?_ ?_ ?_);rfl;rfl)
 |true=>
  rw [hO]at h;simp only [if_true]at h ⊢;obtain⟨hV,hB,hw⟩:=Qne hO;have hok:=Q6n hV hB hw;have hcl:=Q6m l B p;obtain⟨-,l1,l2⟩:=Qcv hV;obtain⟨c1,c2⟩:=Q4m hok (by omega);rw [hcl]at c1 c2;have hsl:=Qfb (csL l B p) (cutE (csL l B p));unfold totE;by_cases hT:preI (csL l B p) p.length≤mxE
  ·have hce:=c1 hT;rw [hce]at h hsl;rw [if_pos hT];have lt:((p.length:Int)<(p.length:Int))=False:=eq_false (Int.lt_irrefl _);have wl:=Qme (n:=p.length) (by omega) (by omega);have n1:=nnT (p.length-1);have hg:=Zy6 (cs:=csL l B p) (show p.length-1<p.length by omega);rw [Nat.sub_add_cancel l1]at hg;generalize preI (csL l B p) p.length=T at*;generalize smL (csL l B p) p.length=SM at*;refine Qab (tb:=[]) 33 [.tmp 6,.tmp 7] [0,1,2,4,6,7,8,9,17,21] mixed Tryz.func64 rfl (by kernel_rfl) ?_;repeat (first|simp only [go_sem,seval,Zg5,hsl,lt,wl,n1,hg,Int.toNat_natCast,List.length_map]|(with_reducible refine Qaa h ?_ ?_ ?_);rfl;rfl)
  ·have hce:=c2 (by omega);rw [if_neg hT];have lt:((cutE (csL l B p):Int)<(p.length:Int))=True:=eq_true (by omega);generalize cutE (csL l B p)=K at*;generalize smL (csL l B p) K=SM at*;refine Qab (tb:=[]) 33 [.tmp 6,.tmp 7] [0,1,2,4,6,7,8,9,17,21] mixed Tryz.func64 rfl (by kernel_rfl) ?_;repeat (first|simp only [go_sem,seval,Zg5,hsl,lt,List.length_map]|(with_reducible refine Qaa h ?_ ?_ ?_);rfl;rfl)
set_option maxHeartbeats 4000000 in
theorem Zsd (p:List Sg) (B:Bat) (l:List Wd) (hp: ∀s∈p,okSg s) (hl:l.length≤maxLen) (hpl:p.length≤1000000):Qaf Tryz.prog 54 [Qdx p,baPV B,wsPV l] (lePV l B p):=by
 have h:=Q6o p B l hp hl hpl;unfold enPV at h;unfold lePV;unfold Qdx baPV at h ⊢;cases hO:Qnd p B l with
 |false=>
  rw [hO]at h;simp only [Bool.false_eq_true,if_false]at h ⊢;refine Qab (tb:=[]) 24 [.tmp 6,.tmp 7] [0,1,2,4,6,7,8,9,18] mixed Tryz.func54 rfl (by kernel_rfl) ?_;repeat (first|simp only [go_sem,seval,Ztf]|(with_reducible refine Qaa h ?_ ?_ ?_);rfl;rfl)
 |true=>
  rw [hO]at h;simp only [if_true]at h ⊢;obtain⟨hV,hB,hw⟩:=Qne hO;have hnn:=Q4k (Q6n hV hB hw) p.length;obtain⟨-, -, -,b1,b2,b3⟩:=Qdc hB;have e:preI (csL l B p) p.length=totE l B p:=rfl;rw [e]at hnn;by_cases hT:totE l B p≤mxE
  ·rw [if_pos hT]at h ⊢;unfold mxE at hT;have hw1:IntKind.i64.wrap (B.cap-totE l B p)=B.cap-totE l B p:=Qag (by omega) (by omega);generalize totE l B p=T at*;refine Qab (tb:=[]) 24 [.tmp 6,.tmp 7] [0,1,2,4,6,7,8,9,18] mixed Tryz.func54 rfl (by kernel_rfl) ?_;repeat (first|simp only [go_sem,seval,Zg5,hw1]|(with_reducible refine Qaa h ?_ ?_ ?_);rfl;rfl)
  ·rw [if_neg hT]at h ⊢;refine Qab (tb:=[]) 24 [.tmp 6,.tmp 7] [0,1,2,4,6,7,8,9,18] mixed Tryz.func54 rfl (by kernel_rfl) ?_;repeat (first|simp only [go_sem,seval,Z0s]|(with_reducible refine Qaa h ?_ ?_ ?_);rfl;rfl)
set_option maxHeartbeats 4000000 in
theorem Q6p (p:List Sg) (B:Bat) (l:List Wd) (hp: ∀s∈p,okSg s) (hl:l.length≤maxLen) (hpl:p.length≤1000000):Qaf Tryz.prog 41 [Qdx p,baPV B,wsPV l] (ehPV l B p):=by
 have h:=Zsd p B l hp hl hpl;unfold lePV at h;unfold ehPV;unfold Qdx baPV at h ⊢;cases hO:Qnd p B l with
 |false=>
  rw [hO]at h;simp only [Bool.false_eq_true,if_false]at h ⊢;refine Qab (tb:=[]) 26 [.tmp 6,.tmp 7] [0,1,2,4,6,7,8,9] mixed Tryz.func41 rfl (by kernel_rfl) ?_;repeat (first|simp only [go_sem,seval,Z0r]|(with_reducible refine Qaa h ?_ ?_ ?_);rfl;rfl)
 |true=>
  rw [hO]at h;simp only [if_true]at h ⊢;by_cases hT:totE l B p≤mxE
  ·rw [if_pos hT]at h ⊢;generalize B.cap-totE l B p=T at*;refine Qab (tb:=[]) 26 [.tmp 6,.tmp 7] [0,1,2,4,6,7,8,9] mixed Tryz.func41 rfl (by kernel_rfl) ?_;repeat (first|simp only [go_sem,seval,Z0q]|(with_reducible refine Qaa h ?_ ?_ ?_);rfl;rfl)
  ·rw [if_neg hT]at h ⊢;refine Qab (tb:=[]) 26 [.tmp 6,.tmp 7] [0,1,2,4,6,7,8,9] mixed Tryz.func41 rfl (by kernel_rfl) ?_;repeat (first|simp only [go_sem,seval,Z0t]|(with_reducible refine Qaa h ?_ ?_ ?_);rfl;rfl)
end Go.Proofs.YtdpajapkhembcaaGreatDoor

namespace Go.Dg
def ptF (s:Sg) (a b:Int):Bool:=Z3e (ptL s a b) (ptO s)
def spF (x:Sg×Int×Int):Bool:=ptF x.1 x.2.1 x.2.2
def pieces (n:Nat):Nat→List Int→List (List Int)
 |0,f=>[f]
 |d+1,f=>pieces n d (Zyr f n)++pieces n d (Zys f n)
section
variable {c:List Int} {n:Nat} (hc:c.length=n+1) (a b d:Int)
include hc
end
structure turnOK (a b d:Int):Prop where
 a0:0≤a
 a1:a≤d
 b0:0≤a+b
 b1:a+b≤d
 b:b≠0
 d:1≤d
section
variable {s:Sg} (hv:Qbm s=true) {a b d:Int} (ht:turnOK a b d) {f t O:Int} (hO:O=s.o*d^5)
include hv ht hO
end
theorem Qvi {s:Sg} (hv:Qbm s=true): ∀c∈s.ax,∀x∈c,x.natAbs≤1094374710063759360:=by
 obtain⟨⟨v1,v2,v3,v4,v5⟩,hax, -⟩:=Qbv hv;intro c hc x hx;have h1:=Zyv (hax c hc) (by omega);have h2:=Zrv hx;omega
theorem gD {L:List Int} {i:Nat} (h:i<L.length):L.getD i 0=L[i]:=by rw [List.getD_eq_getElem?_getD,List.getElem?_eq_getElem h];rfl
def dd:List Int→List Int
 | []=>[]
 | [a]=>[a]
 |a::b::L=>if a=b then dd (b::L)else a::dd (b::L)
theorem Zp9: ∀(L:List Int) (y:Int),y∈dd L↔y∈L
 | [],_=>Iff.rfl
 | [_],_=>Iff.rfl
 |a::b::L,y=>by
  have ih:=Zp9 (b::L) y;unfold dd;split
  ·rename_i e;subst e;rw [ih];simp
  ·simp only [List.mem_cons]at ih ⊢;rw [ih]
theorem Q50: ∀(l:List Int) (a x:Int),dd (l++[a]++[x])=if a=x then dd (l++[a])else dd (l++[a])++[x]
 | [],a,x=>by by_cases h:a=x<;>simp [dd,h]
 | [b],a,x=>by
  simp only [List.cons_append,List.nil_append,dd];split<;>split<;>simp_all
 |b::c::l,a,x=>by
  have ih:=Q50 (c::l) a x;simp only [List.cons_append,dd]at ih ⊢;rw [ih];split<;>split<;>simp
theorem Qm9 (xs:List Int) (j:Nat) (h1:1≤j) (h:j<xs.length):dd (xs.take (j+1))=if xs.getD (j-1) 0=xs.getD j 0 then dd (xs.take j)else dd (xs.take j)++[xs.getD j 0]:=by
 obtain⟨i,rfl⟩: ∃i,j=i+1:=⟨j-1,by omega⟩;have e1:xs.take (i+1)=xs.take i++[xs[i]]:=by rw [List.take_add_one,List.getElem?_eq_getElem (show i<xs.length by omega)];rfl
 have e2:xs.take (i+1+1)=xs.take i++[xs[i]]++[xs[i+1]]:=by rw [List.take_add_one,List.getElem?_eq_getElem h,e1];rfl
 rw [e2,e1,Q50,gD h,Nat.add_sub_cancel,gD (show i<xs.length by omega)]
theorem Q51: ∀(l:List Int),(dd l).length≤l.length
 | []=>Nat.le_refl _
 | [_]=>Nat.le_refl _
 |a::b::l=>by
  have ih:=Q51 (b::l);unfold dd;split<;>simp at ih ⊢ <;>omega
def ddE (xs:List Int) (j:Nat):List Int:=dd (xs.take j)++xs.drop (dd (xs.take j)).length
theorem Qna (xs:List Int) (j:Nat):(ddE xs j).length=xs.length:=by
 have h1:=Q51 (xs.take j);have h2:(xs.take j).length≤xs.length:=by simp;omega
 simp only [ddE,List.length_append,List.length_drop];omega
theorem Q52 (xs:List Int) (j i:Nat) (h:(dd (xs.take j)).length≤i):(ddE xs j).getD i 0=xs.getD i 0:=by
 simp only [ddE,List.getD_eq_getElem?_getD];rw [List.getElem?_append_right h,List.getElem?_drop];congr 2;omega
theorem Zr2 (xs:List Int) (j:Nat) (h1:1≤j) (h:j<xs.length) (hl:(dd (xs.take j)).length<j) (hne:xs.getD (j-1) 0≠xs.getD j 0):(ddE xs j).set (dd (xs.take j)).length (xs.getD j 0)=ddE xs (j+1):=by
 have e:=Qm9 xs j h1 h;rw [if_neg hne]at e;simp only [ddE,e,List.length_append,List.length_singleton];have hd:xs.drop (dd (xs.take j)).length=xs[(dd (xs.take j)).length]'(by omega)::xs.drop ((dd (xs.take j)).length+1):=List.drop_eq_getElem_cons (by omega);rw [List.set_append_right _ _ (Nat.le_refl _),Nat.sub_self,hd,List.set_cons_zero,List.append_assoc];rfl
theorem Zfk (xs:List Int) (j:Nat) (h1:1≤j) (h:j<xs.length) (he:xs.getD (j-1) 0=xs.getD j 0):ddE xs (j+1)=ddE xs j∧(dd (xs.take (j+1))).length=(dd (xs.take j)).length:=by
 have e:=Qm9 xs j h1 h;rw [if_pos he]at e;simp only [ddE,e,and_self]
theorem Q53 (xs:List Int) (k:Nat) (h1:1≤k) (h:k<xs.length) (hd:dd (xs.take k)=xs.take k) (he:xs.getD (k-1) 0=xs.getD k 0):ddE xs (k+1)=xs∧(dd (xs.take (k+1))).length=k:=by
 have e:=Qm9 xs k h1 h;rw [if_pos he,hd]at e;have hl:(xs.take k).length=k:=by simp;omega
 exact⟨by simp only [ddE,e,hl,List.take_append_drop],by rw [e,hl]⟩
def sc (p:List Sg):List (Sg×Int×Int)→Int→Int→Prop
 | [],u,v=>u=v
 |x::r,u,v=>x.1∈p∧x.2.1=u∧x.1.f≤x.2.1∧x.2.1<x.2.2∧x.2.2≤x.1.t∧sc p r x.2.2 v
theorem Q4v {p:List Sg} (hV:Qbq p=true) {s:Sg} (h:s∈p):Qbm s=true:=by
 obtain⟨i,hi,rfl⟩:=List.getElem_of_mem h;exact Qfh hV i hi
theorem Zrc {q:List Sg} (h1: ∀(i:Nat) (hi:i<q.length),Qbm q[i]=true) (h2: ∀(i:Nat) (hi:i+1<q.length),Qfg q[i] q[i+1]=true):vpTo q q.length=true:=by
 unfold vpTo;rw [List.all_eq_true];intro j hj;have hj:=List.mem_range.1 hj;unfold vpAt;rw [sgD hj,h1 j hj,Bool.true_and];rcases Nat.eq_zero_or_pos j with r|r
 ·subst r;rfl
 ·obtain⟨i,rfl⟩: ∃i,j=i+1:=⟨j-1,by omega⟩;rw [Nat.add_sub_cancel,sgD (show i<q.length by omega),h2 i hj,Bool.or_true]
theorem Q4w {q:List Sg} (h1: ∀(i:Nat) (hi:i<q.length),Qbm q[i]=true) (h2: ∀(i:Nat) (hi:i+1<q.length),Qfg q[i] q[i+1]=true) (h3:1≤q.length) (h4:q.length≤256):Qbq q=true:=by
 unfold Qbq;rw [Zrc h1 h2,decide_eq_true h3,decide_eq_true h4];rfl
theorem Ze6 {a b:Sg} (h:a.t=b.f) (h1: ∀i,i<3→plQ a 1 1 i=plQ b 0 1 i) (h2:plO a 1 1=plO b 0 1):Qfg a b=true:=by
 unfold Qfg Q5r;rw [decide_eq_true h,decide_eq_true (h1 0 (by decide)),decide_eq_true (h1 1 (by decide)),decide_eq_true (h1 2 (by decide)),decide_eq_true h2];rfl
section
variable {p:List Sg} (hV:Qbq p=true) {S:List (Sg×Int×Int)} {u v:Int} (h:sc p S u v) (hf:S.all spF=true)
include hV h hf
end
section
variable {p:List Sg} (hV:Qbq p=true)
include hV
end
theorem Qiz (c:List Int):gcdL 1 c=1:=by
 unfold gcdL
 induction c with
 |nil=>rfl
 |cons x c ih=>simp only [List.foldl_cons,Nat.gcd_one_left];exact ih
def V3.co (v:V3) (i:Nat):Int:=if i=0 then v.x else if i=1 then v.y else v.z
theorem Qm1 {a b k:Int} (hk:k=1∨k=2∨a=b):plc (Qdm a b (rowK k)) 1 1=b:=by
 by_cases e:a=b
 ·unfold Qdm;rw [if_pos e];simp [plc,sm,plcT,e]
 ·rcases hk with rfl|rfl|h
  ·unfold Qdm;rw [if_neg e];simp [plc,sm,plcT,rowK];omega
  ·unfold Qdm;rw [if_neg e];simp [plc,sm,plcT,rowK];omega
  ·exact absurd h e
theorem Q49 {a b:V3} {f t k:Int} (hk:k=1∨k=2∨a=b):(∀i,i<3→plQ (legS a b f t k) 1 1 i=b.co i)∧plO (legS a b f t k) 1 1=1:=by
 have hG:plG (legS a b f t k) 1 1 3=1:=Qiz _;have hx:k=1∨k=2∨a.x=b.x:=hk.imp_right (Or.imp_right fun h=>by rw [h]);have hy:k=1∨k=2∨a.y=b.y:=hk.imp_right (Or.imp_right fun h=>by rw [h]);have hz:k=1∨k=2∨a.z=b.z:=hk.imp_right (Or.imp_right fun h=>by rw [h]);refine⟨fun i hi=> ?_,?_⟩
 ·unfold plQ;rw [hG,show((1:Nat):Int)=1 from rfl,Int.ediv_one];rcases(show i=0∨i=1∨i=2 by omega)with rfl|rfl|rfl
  ·exact Qm1 hx
  ·exact Qm1 hy
  ·exact Qm1 hz
 ·unfold plO;rw [hG];rfl
theorem Zp2 {p:Pg} {n:Nat}: ∀(d k:Nat) (t:Int) (many:List Int),k+d=p.as_.length→goB n (Qco p k) t many (p.as_.drop k)=true→t=begT p k→(Qco p k).length=n→
  ∀j,k≤j→j<p.as_.length→ ∀i,i<n→mvE ((Qco p j).getD i v0) ((p.as_.getD j ac0).mv.getD i mv0) (begT p j) (p.as_.getD j ac0).ln=0
 |0,k,_,_,hd,_,_,_,j,h1,h2,_,_=>by omega
 |d+1,k,t,many,hd,hg,ht,hl,j,h1,h2,i,hi=>by
  have hk:k<p.as_.length:=by omega
  have e:p.as_.drop k=p.as_.getD k ac0::p.as_.drop (k+1):=by
   rw [List.drop_eq_getElem_cons hk,List.getD_eq_getElem?_getD,List.getElem?_eq_getElem hk];rfl
  rw [e]at hg;simp only [goB,Bool.and_eq_true,hl]at hg;obtain⟨ga,go,gr⟩:=hg;unfold actB at ga;simp only [Bool.and_eq_true,decide_eq_true_eq]at ga;by_cases ej:j=k
  ·subst ej;have:=List.all_eq_true.1 go i (List.mem_range.2 hi);unfold okAt at this;simp only [Bool.and_eq_true,decide_eq_true_eq]at this;rw [←ht];exact this.1
  ·have hf:Qco p (k+1)=(p.as_.getD k ac0).mv.map Mv.to:=rfl;have hb:begT p (k+1)=begT p k+(p.as_.getD k ac0).ln:=by
    unfold begT;rw [List.take_add_one,List.getD_eq_getElem?_getD,List.getElem?_eq_getElem hk];simp only [Option.toList_some,List.map_append,List.map_cons,List.map_nil,List.sum_append,List.sum_cons,List.sum_nil,Option.getD_some];omega
   exact Zp2 d (k+1) _ _ (by omega) gr (by rw [ht,hb]) (by rw [hf,List.length_map];exact ga.2.2.2) j (by omega) h2 i hi
end Go.Dg
