/-
  KM9, KM10, KB7, Dwi, KI1 (merged for the claim).
-/
import Derived.Test.YtcaffiaempefjaaGreatDoorKM8
import Derived.Test.YtcaffiaempefjaaGreatDoorKB2
import Derived.Test.YtcaffiaempefjaaGreatDoorDbe
import Derived.Test.YtcaffiaempefjaaGreatDoorDsi
set_option linter.unusedSimpArgs false
set_option linter.unusedVariables false
namespace Go.Proofs.YtcaffiaempefjaaGreatDoor
open Go.Vl Go.RowKit Go.Dg
theorem Qwp:((0:Int) != 0)=false:=rfl
theorem Zrf:((0:Int)==0)=true:=rfl
theorem Z0h:((1:Int) != 0)=true:=rfl
theorem Z0i:((1:Int)==0)=false:=rfl
theorem Zfv:((2:Int) != 0)=true:=rfl
theorem Zxh:((2:Int)==0)=false:=rfl
theorem Z0j:((3:Int) != 0)=true:=rfl
theorem Z0k:((3:Int)==0)=false:=rfl
theorem Zrg:((7:Int) != 0)=true:=rfl
theorem Zxi:((7:Int)==0)=false:=rfl
theorem Z0l:((9:Int) != 0)=true:=rfl
theorem Z0m:((9:Int)==0)=false:=rfl
theorem Zxj:((10:Int) != 0)=true:=rfl
theorem Zxk:((10:Int)==0)=false:=rfl
attribute [go_sem] Qwp Zrf Z0h Z0i Zfv Zxh Z0j Z0k Zrg Zxi Z0l Z0m Zxj Zxk
def lasts (p:List Sg) (t:Int):Bool:=decide (pBeg p≤t)&&decide (t≤pEnd p)
theorem Q7f (p:List Sg) (hp: ∀s∈p,okSg s) (hl:p.length≤1000000):Qaf Tryz.prog 28 [Qbx p] (if Qa7 p=true then .tup [.int .i64 (pBeg p),.int .i64 (pEnd p),.int .i64 0]else .tup [.int .i64 0,.int .i64 0,.int .i64 2]):=by
 have hv:=Qhh p hp hl;unfold Qbx at hv;cases hV:Qa7 p with
 |false=>
  rw [hV]at hv;refine Qab (tb:=[]) 19 [.tmp 2,.tmp 3,.tmp 4] [0,2,3,4,7] mixed Tryz.func28 rfl (by kernel_rfl) ?_;repeat (first|simp -implicitDefEqProofs only [go_sem,seval,Bool.false_eq_true]|(with_reducible refine Qaa hv ?_ ?_ ?_);rfl;rfl)
 |true=>
  have h:=(Qbj hV).2.1;have hi:p.length-1<p.length:=by omega
  have hg0:=Qd6 p 0 (by omega);have hg:=Qd6 p (p.length-1) hi;have wl:=Qgt (n:=p.length) (by omega) (by omega);have n1:=nnT (p.length-1);have e1:pEnd p=p[p.length-1].t:=by unfold pEnd;rw [sgD hi]
  have e2:pBeg p=p[0].f:=by unfold pBeg;rw [sgD (by omega)]
  rw [e1,e2];rw [hV]at hv;refine Qab (tb:=[]) 19 [.tmp 2,.tmp 3,.tmp 4] [0,2,3,4,7] mixed Tryz.func28 rfl (by kernel_rfl) ?_;repeat (first|simp -implicitDefEqProofs only [go_sem,seval,hg,hg0,wl,n1,Int.toNat_natCast,List.length_map]|(with_reducible refine Qaa hv ?_ ?_ ?_);rfl;rfl|(with_reducible exact Qac _ _ (by kernel_rfl)))
theorem Zfw (n m:Nat) (f:FuncId) (cap:List PV) (Pr:Nat→Bool) (hn:n≤1000000000) (hm:m≤n) (h1: ∀i,i<m→Pr i=false) (h2: ∀i,m≤i→i<n→Pr i=true)
  (hc:Qgg cap (fun _=>none)=some ((cap,[]),[])) (hcr:ren1 [] (.fn f [] cap)=some (.fn f [] cap)) (hf: ∀i:Nat,i<n→Qaf Tryz.prog f (.int .i64 (i:Int)::cap) (.bool (Pr i))):Qaf Tryz.prog 129 [.int .i64 (n:Int),.fn f [] cap] (.int .i64 (m:Int)):=by
 refine Qab (tb:=[]) 26 [.tmp 4] [0,1,4,5,6,7,11,21] mixed Tryz.func129 rfl (by kernel_rfl) ?_;repeat simp -implicitDefEqProofs only [go_sem,seval,if_true]
 have z0:0≤m∧m≤n∧n≤n:=⟨Nat.zero_le _,hm,Nat.le_refl _⟩;refine Qat mixed (fun x:{x:Nat×Nat // x.1≤m∧m≤x.2∧x.2≤n}=>St.of [(0,.int .i64 (n:Int)),(1,.fn f [] cap),(5,.int .i64 (x.1.1:Int)),(6,.int .i64 (x.1.2:Int))] []) (fun x=>x.1.2-x.1.1) ⟨(0,n),z0⟩ ?_ ?_
 ·exact Qa5 ⟨by simp [lkp,ren1,ren0],by simp only [lkp];exact hcr,by simp [lkp,ren1,ren0],by simp [lkp,ren1,ren0],trivial⟩
 ·rintro⟨⟨i,j⟩,hi,hj,hjn⟩;simp only at hi hj hjn;by_cases hA:i<j
  ·have hA':=ltT hA;have w1:IntKind.i64.wrap ((i:Int)+(j:Int))=((i+j:Nat):Int):=by rw [Qah (by omega) (by omega)];omega
   have w2:IntKind.u64.wrap ((i+j:Nat):Int)=((i+j:Nat):Int):=Qn4 (by omega);have w3:(((i+j:Nat):Int)).fdiv (2^min 1 64)=(((i+j)/2:Nat):Int):=by
    rw [Int.fdiv_eq_ediv_of_nonneg _ (by decide)];rfl
   have w4:IntKind.i64.wrap (((i+j)/2:Nat):Int)=(((i+j)/2:Nat):Int):=wrapn (by omega);have hh:(i+j)/2<n:=by omega
   have hfh:=hf ((i+j)/2) hh;have w5:=Qai (a:=(i+j)/2) (by omega);generalize hH:(i+j)/2=h at*;by_cases hmh:h<m
   ·rw [h1 h hmh]at hfh;repeat (first|simp -implicitDefEqProofs only [go_sem,seval,hA',w1,w2,w3,w4,w5,hc]|(with_reducible refine Qaa hfh ?_ ?_ ?_);rfl;rfl)
    refine⟨⟨(h+1,j),by simp only;omega,hj,hjn⟩,by simp only;omega,Qa5 ⟨by simp [lkp,ren1,ren0],by simp only [lkp];exact hcr,by simp [lkp,ren1,ren0],by simp [lkp,ren1,ren0],trivial⟩⟩
   ·rw [h2 h (by omega) hh]at hfh;repeat (first|simp -implicitDefEqProofs only [go_sem,seval,hA',w1,w2,w3,w4,hc]|(with_reducible refine Qaa hfh ?_ ?_ ?_);rfl;rfl)
    refine⟨⟨(i,h),hi,by simp only;omega,by simp only;omega⟩,by simp only;omega,Qa5 ⟨by simp [lkp,ren1,ren0],by simp only [lkp];exact hcr,by simp [lkp,ren1,ren0],by simp [lkp,ren1,ren0],trivial⟩⟩
  ·have hA':=ltF hA;obtain rfl:i=m:=by omega
   repeat simp -implicitDefEqProofs only [go_sem,seval,hA']
theorem Zfx (p:List Sg) (t:Int) (i:Nat) (h:i<p.length):Qaf Tryz.prog 130 [.int .i64 (i:Int),.rp [.int .i64 t],.rp [.slc (p.map sgPV)]] (.bool (decide (t≤p[i].t))):=by
 have hg:=Qd6 p i h;have n0:=nnT i;refine Qab (tb:=[]) 12 [.tmp 4] [0,1,2,4] mixed Tryz.func130 rfl (by kernel_rfl) ?_;repeat (first|simp -implicitDefEqProofs only [go_sem,seval,hg,n0,Int.toNat_natCast]|(with_reducible exact Qac _ _ (by kernel_rfl)))
def Qn1:PV:= .agg [.bool false,.str ⟨#[]⟩,.bool false,.str ⟨#[]⟩,.bool false,.str ⟨#[]⟩,.bool false,.str ⟨#[]⟩]
attribute [go_sem] Qn1
def exA (p:List Sg) (t:Int):Int:=t-(p.getD (atIx p t) sg0).f
def exD (p:List Sg) (t:Int):Int:=(p.getD (atIx p t) sg0).t-(p.getD (atIx p t) sg0).f
def exQ (p:List Sg) (t:Int) (i:Nat):Int:=plQ (p.getD (atIx p t) sg0) (exA p t) (exD p t) i
def exO (p:List Sg) (t:Int):Int:=plO (p.getD (atIx p t) sg0) (exA p t) (exD p t)
def Qwq (p:List Sg) (t:Int):PV:=if Qa7 p=true then(if lasts p t=true then .tup [Qad (exQ p t 0) (exQ p t 1) (exQ p t 2) (exO p t),.int .i64 0]else .tup [Qn1,.int .i64 3])else .tup [Qn1,.int .i64 2]
theorem Qzt {p:List Sg} {t:Int} (hV:Qa7 p=true) (hL:lasts p t=true): ∃h:atIx p t<p.length,exA p t=t-p[atIx p t].f∧exD p t=p[atIx p t].t-p[atIx p t].f∧0≤exA p t∧exA p t≤exD p t∧1≤exD p t∧exD p t≤3600000∧Qau p[atIx p t]=true∧p.getD (atIx p t) sg0=p[atIx p t]:=by
 unfold lasts at hL;simp only [Bool.and_eq_true,decide_eq_true_eq]at hL;have hi:=Zp3 hV hL.2;have h1:=Q5y hi;have h2:=Q5z hV hL.1 hi;have hv:=Qby hV _ hi;have h3:=(Qaq hv).1;have e1:exA p t=t-p[atIx p t].f:=by unfold exA;rw [sgD hi]
 have e2:exD p t=p[atIx p t].t-p[atIx p t].f:=by unfold exD;rw [sgD hi]
 exact⟨hi,e1,e2,by omega,by omega,by omega,by omega,hv,sgD hi⟩
set_option maxHeartbeats 1000000 in
theorem Zfy (p:List Sg) (t:Int) (hp: ∀s∈p,okSg s) (hl:p.length≤1000000) (ht:i64 t):Qaf Tryz.prog 109 [Qbx p,.int .i64 t] (Qwq p t):=by
 have hs:=Q7f p hp hl;unfold Qbx at hs;unfold Qwq;cases hV:Qa7 p with
 |false=>
  rw [hV]at hs;simp only [Bool.false_eq_true,if_false]at hs ⊢;refine Qab (tb:=[]) 49 [.cell 4 38,.tmp 5] [0,1,2,3,4,5,6,7,8,9,16,21] mixed Tryz.func109 rfl (by kernel_rfl) ?_;repeat (first|simp -implicitDefEqProofs only [go_sem,seval]|(with_reducible refine Qaa hs ?_ ?_ ?_);rfl;rfl)
 |true=>
  rw [hV]at hs;simp only [if_true]at hs ⊢;by_cases c1:pBeg p≤t
  case neg=>
   have c1':(t<pBeg p)=True:=eq_true (by omega);have e:lasts p t=false:=by unfold lasts;rw [decide_eq_false c1];rfl
   rw [e];simp only [Bool.false_eq_true,if_false];refine Qab (tb:=[]) 49 [.cell 4 38,.tmp 5] [0,1,2,3,4,5,6,7,8,9,16,21] mixed Tryz.func109 rfl (by kernel_rfl) ?_;repeat (first|simp -implicitDefEqProofs only [go_sem,seval,c1']|(with_reducible refine Qaa hs ?_ ?_ ?_);rfl;rfl)
  have c1':(t<pBeg p)=False:=eq_false (by omega);by_cases c2:t≤pEnd p
  case neg=>
   have c2':(pEnd p<t)=True:=eq_true (by omega);have e:lasts p t=false:=by unfold lasts;rw [decide_eq_false c2,Bool.and_false]
   rw [e];simp only [Bool.false_eq_true,if_false];refine Qab (tb:=[]) 49 [.cell 4 38,.tmp 5] [0,1,2,3,4,5,6,7,8,9,16,21] mixed Tryz.func109 rfl (by kernel_rfl) ?_;repeat (first|simp -implicitDefEqProofs only [go_sem,seval,c1',c2']|(with_reducible refine Qaa hs ?_ ?_ ?_);rfl;rfl)
  have c2':(pEnd p<t)=False:=eq_false (by omega);have hL:lasts p t=true:=by unfold lasts;rw [decide_eq_true c1,decide_eq_true c2];rfl
  rw [hL];simp only [if_true];obtain⟨hi,eA,eD,k1,k2,k3,k4,hv,hD⟩:=Qzt hV hL;have hsr:=Zfw p.length (atIx p t) 130 [.rp [.int .i64 t],.rp [.slc (p.map sgPV)]] (fun i=>decide (t≤(p.getD i sg0).t)) (by omega) (Nat.le_of_lt hi)
   (fun i h=>by rw [sgD (by omega)];exact decide_eq_false (Int.not_le.2 (Qno h (by omega))))
   (fun i h h'=>by rw [sgD h'];exact decide_eq_true (Int.le_trans (Q5y hi) (Qgp hV i _ h' h))) rfl rfl
   (fun i h=>by rw [sgD h];exact Zfx p t i h)
  have hpl:=Qr4 p[atIx p t] (exA p t) (exD p t) (hp _ (List.getElem_mem hi)) (Qdg hv) (Qc7 hv) (by unfold i64;omega) (by unfold i64;omega) (by omega);rw [Zoj]at hpl;unfold exQ exO;rw [hD];have hg:=Qd6 p (atIx p t) hi;have n0:=nnT (atIx p t);have wa:IntKind.i64.wrap (t-p[atIx p t].f)=exA p t:=by rw [eA];exact Qah (by omega) (by omega)
  have wd:IntKind.i64.wrap (p[atIx p t].t-p[atIx p t].f)=exD p t:=by rw [eD];exact Qah (by omega) (by omega)
  generalize plQ p[atIx p t] (exA p t) (exD p t) 0=q0 at*;generalize plQ p[atIx p t] (exA p t) (exD p t) 1=q1 at*;generalize plQ p[atIx p t] (exA p t) (exD p t) 2=q2 at*;generalize plO p[atIx p t] (exA p t) (exD p t)=q3 at*;unfold sgPV Qas at hpl;refine Qab (tb:=[]) 49 [.cell 4 38,.tmp 5] [0,1,2,3,4,5,6,7,8,9,16,21] mixed Tryz.func109 rfl (by kernel_rfl) ?_;repeat (first|simp -implicitDefEqProofs only [go_sem,seval,List.length_map,c1',c2',hg,n0,wa,wd,Int.toNat_natCast]|(with_reducible refine Qaa hs ?_ ?_ ?_);rfl;rfl|(with_reducible refine Qaa hsr ?_ ?_ ?_);rfl;rfl|(with_reducible refine Qaa hpl ?_ ?_ ?_);rfl;rfl|(with_reducible refine And.intro (Qac _ _ (by kernel_rfl)) ?_))
def vPV (x y z:Int):PV:= .agg [.int .i64 x,.int .i64 y,.int .i64 z]
attribute [go_sem] vPV
theorem Qwk {x o:Int} {B:Nat} (hx:x.natAbs<2^B) (ho:o.natAbs<2^B):(x+x+o).natAbs<2^(B+1+1):=
 Qp5 (Qp5 hx hx) (Nat.lt_of_lt_of_le ho (Nat.pow_le_pow_right (by decide) (by omega)))
theorem Z0c {p:List Sg} {t:Int} (hp: ∀s∈p,okSg s) (hV:Qa7 p=true) (hL:lasts p t=true):(∀i,i<3→(exQ p t i).natAbs<2^2000∧ -1048576≤rnd (exQ p t i) (exO p t)∧rnd (exQ p t i) (exO p t)≤1048576)∧(exO p t).natAbs<2^2000∧0<exO p t:=by
 obtain⟨hi,eA,eD,k1,k2,k3,k4,hv,hD⟩:=Qzt hV hL;have b:=Qt9 (a:=exA p t) (d:=exD p t) (hp _ (List.getElem_mem hi)) (Qdg hv) (Qc7 hv) (by unfold i64;omega) (by unfold i64;omega) (by omega);have b2:=fun i h=>Q5w hv k1 k2 k3 i h;unfold exQ exO;rw [hD];refine⟨fun i h=>⟨b.1 i h,?_⟩,b.2,(b2 0 (by decide)).1⟩;obtain⟨h1,h2,h3⟩:=b2 i h;exact Q5x h1 h2 h3
def atPV (p:List Sg) (t:Int):PV:=if Qa7 p=true then(if lasts p t=true then .tup [vPV (rnd (exQ p t 0) (exO p t)) (rnd (exQ p t 1) (exO p t)) (rnd (exQ p t 2) (exO p t)),.int .i64 0]else .tup [vPV 0 0 0,.int .i64 3])else .tup [vPV 0 0 0,.int .i64 2]
def sel3 (R:Nat→Int) (i m:Nat):Int:=if m<i then R m else 0
set_option maxHeartbeats 1000000 in
theorem Z0d (p:List Sg) (t:Int) (hp: ∀s∈p,okSg s) (hl:p.length≤1000000) (ht:i64 t):Qaf Tryz.prog 76 [Qbx p,.int .i64 t] (atPV p t):=by
 have he:=Zfy p t hp hl ht;unfold Qwq at he;unfold atPV;unfold Qbx at he;cases hV:Qa7 p with
 |false=>
  rw [hV]at he;simp only [Bool.false_eq_true,if_false]at he ⊢;refine Qab (tb:=[]) 58 [.cell 4 56,.tmp 5] [0,1,4,5,6,7,8,9,10,18,27,28,29] mixed Tryz.func76 rfl (by kernel_rfl) ?_;repeat (first|simp -implicitDefEqProofs only [go_sem,seval]|(with_reducible refine Qaa he ?_ ?_ ?_);rfl;rfl)
 |true=>
  cases hL:lasts p t with
  |false=>
   rw [hV,hL]at he;simp only [Bool.false_eq_true,if_false,if_true]at he ⊢;refine Qab (tb:=[]) 58 [.cell 4 56,.tmp 5] [0,1,4,5,6,7,8,9,10,18,27,28,29] mixed Tryz.func76 rfl (by kernel_rfl) ?_;repeat (first|simp -implicitDefEqProofs only [go_sem,seval]|(with_reducible refine Qaa he ?_ ?_ ?_);rfl;rfl)
  |true=>
   rw [hV,hL]at he;simp only [if_true]at he ⊢;obtain⟨hb,ho,h0⟩:=Z0c hp hV hL;have hb0:=hb 0 (by decide);have hbb1:=hb 1 (by decide);have hb2:=hb 2 (by decide);clear hb;generalize exQ p t 0=x0 at*;generalize exQ p t 1=x1 at*;generalize exQ p t 2=x2 at*;generalize exO p t=o at*;have b3:=Qp5 ho ho;have a3:=Qhg (Qav ho (by decide)) (Qav ho (by decide)) (Qav b3 (by decide));refine Qab (tb:=[]) 58 [.cell 4 56,.tmp 5] [0,1,4,5,6,7,8,9,10,18,27,28,29] mixed Tryz.func76 rfl (by kernel_rfl) ?_;repeat (first|simp -implicitDefEqProofs only [go_sem,seval]|(with_reducible refine Qaa he ?_ ?_ ?_);rfl;rfl)
   refine Qat mixed (fun i:{i:Nat // i≤3}=>St.of [(4,.bp 0 3 0 0),(5,.int .i64 0),(6,.bp 106 8 0 0),(8,.bp 400 3 0 0),(27,w3PV x0 x1 x2),(28,.int .i64 (i.1:Int))]
    [(0,{els:=[vPV 0 0 0],esz:=3,ety:=56,fro:=0,live:=true,arr:=false}),(106,{els:=[Qad x0 x1 x2 o],esz:=8,ety:=38,fro:=0,live:=true,arr:=false}),(400,{els:=[vPV (sel3 (fun m=>rnd ([x0,x1,x2].getD m 0) o) i.1 0) (sel3 (fun m=>rnd ([x0,x1,x2].getD m 0) o) i.1 1) (sel3 (fun m=>rnd ([x0,x1,x2].getD m 0) o) i.1 2)],esz:=3,ety:=126,fro:=0,live:=true,arr:=false})]) (fun i=>3-i.1) ⟨0,Nat.zero_le _⟩ ?_ ?_
   ·refine Qak (θ:=[(0,0),(106,106),(400,400)]) rfl ?_ ?_
    ·simp [Qae,lkp,ren1,ren0,Qan,w3PV]
    ·exact⟨⟨rfl,rfl,rfl,rfl,rfl,.inr ⟨rfl,_,_,rfl,rfl,rfl,rfl⟩⟩,⟨rfl,rfl,rfl,rfl,rfl,.inr ⟨rfl,_,_,rfl,rfl,rfl,rfl⟩⟩,⟨rfl,rfl,rfl,rfl,rfl,.inr ⟨rfl,_,_,rfl,rfl,rfl,rfl⟩⟩,trivial⟩
   ·rintro⟨i,hi⟩;by_cases hA:i<3
    ·have hA':((i:Int)<3)=True:=eq_true (by omega);rcases(show i=0∨i=1∨i=2 by omega)with hi0|hi0|hi0
     ·obtain⟨hb1,hr1,hr2⟩:=hb0;obtain rfl:i=0:=hi0;have ii:Qdy (rnd x0 o)= .tup [.int .i64 (rnd x0 o),.int .i64 0]:=by unfold Qdy;rw [if_pos (by omega)]
      have wi:=Qll (x:=rnd x0 o) (Qav (B:=64) (by have:(2:Nat)^64=18446744073709551616:=rfl;omega) (by decide));rw [ii]at wi;have b1:=Qp5 hb1 hb1;have b2:=Qwk hb1 ho;have a1:=Qhg (Qav hb1 (by decide)) (Qav hb1 (by decide)) (Qav b1 (by decide));have a2:=Qhg (Qav b1 (by decide)) (Qav ho (by decide)) (Qav b2 (by decide));have q:=Qjr b2 (by decide) (Qp4 b3 (by decide)) (show 0<o+o by omega);have er:(x0+x0+o)/(o+o)=rnd x0 o:=rfl;rw [er]at q;clear er b1 b2 ii;generalize hR:rnd x0 o=R at*;generalize x0+x0+o=S at*;generalize x0+x0=S1 at*;generalize o+o=S2 at*;repeat (first|simp -implicitDefEqProofs only [go_sem,seval,wPV,sel3]|(with_reducible refine Qaa a1 ?_ ?_ ?_);rfl;rfl|(with_reducible refine Qaa a2 ?_ ?_ ?_);rfl;rfl|(with_reducible refine Qaa a3 ?_ ?_ ?_);rfl;rfl|(with_reducible refine Qaa q ?_ ?_ ?_);rfl;rfl|(with_reducible refine Qaa wi ?_ ?_ ?_);rfl;rfl|(with_reducible refine And.intro (Qac _ _ (by kernel_rfl)) ?_))
      refine⟨⟨0+1,hA⟩,by simp only;omega,Qak (θ:=[(0,0),(106,106),(400,400)]) rfl ?_ ?_⟩
      ·simp [Qae,lkp,ren1,ren0,Qan]
      ·subst hR;exact⟨⟨rfl,rfl,rfl,rfl,rfl,.inr ⟨rfl,_,_,rfl,rfl,rfl,rfl⟩⟩,⟨rfl,rfl,rfl,rfl,rfl,.inr ⟨rfl,_,_,rfl,rfl,rfl,rfl⟩⟩,⟨rfl,rfl,rfl,rfl,rfl,.inr ⟨rfl,_,_,rfl,rfl,rfl,rfl⟩⟩,trivial⟩
     ·obtain⟨hb1,hr1,hr2⟩:=hbb1;obtain rfl:i=1:=hi0;have ii:Qdy (rnd x1 o)= .tup [.int .i64 (rnd x1 o),.int .i64 0]:=by unfold Qdy;rw [if_pos (by omega)]
      have wi:=Qll (x:=rnd x1 o) (Qav (B:=64) (by have:(2:Nat)^64=18446744073709551616:=rfl;omega) (by decide));rw [ii]at wi;have b1:=Qp5 hb1 hb1;have b2:=Qwk hb1 ho;have a1:=Qhg (Qav hb1 (by decide)) (Qav hb1 (by decide)) (Qav b1 (by decide));have a2:=Qhg (Qav b1 (by decide)) (Qav ho (by decide)) (Qav b2 (by decide));have q:=Qjr b2 (by decide) (Qp4 b3 (by decide)) (show 0<o+o by omega);have er:(x1+x1+o)/(o+o)=rnd x1 o:=rfl;rw [er]at q;clear er b1 b2 ii;generalize hR:rnd x1 o=R at*;generalize x1+x1+o=S at*;generalize x1+x1=S1 at*;generalize o+o=S2 at*;repeat (first|simp -implicitDefEqProofs only [go_sem,seval,wPV,sel3]|(with_reducible refine Qaa a1 ?_ ?_ ?_);rfl;rfl|(with_reducible refine Qaa a2 ?_ ?_ ?_);rfl;rfl|(with_reducible refine Qaa a3 ?_ ?_ ?_);rfl;rfl|(with_reducible refine Qaa q ?_ ?_ ?_);rfl;rfl|(with_reducible refine Qaa wi ?_ ?_ ?_);rfl;rfl|(with_reducible refine And.intro (Qac _ _ (by kernel_rfl)) ?_))
      refine⟨⟨1+1,hA⟩,by simp only;omega,Qak (θ:=[(0,0),(106,106),(400,400)]) rfl ?_ ?_⟩
      ·simp [Qae,lkp,ren1,ren0,Qan]
      ·subst hR;exact⟨⟨rfl,rfl,rfl,rfl,rfl,.inr ⟨rfl,_,_,rfl,rfl,rfl,rfl⟩⟩,⟨rfl,rfl,rfl,rfl,rfl,.inr ⟨rfl,_,_,rfl,rfl,rfl,rfl⟩⟩,⟨rfl,rfl,rfl,rfl,rfl,.inr ⟨rfl,_,_,rfl,rfl,rfl,rfl⟩⟩,trivial⟩
     ·obtain⟨hb1,hr1,hr2⟩:=hb2;obtain rfl:i=2:=hi0;have ii:Qdy (rnd x2 o)= .tup [.int .i64 (rnd x2 o),.int .i64 0]:=by unfold Qdy;rw [if_pos (by omega)]
      have wi:=Qll (x:=rnd x2 o) (Qav (B:=64) (by have:(2:Nat)^64=18446744073709551616:=rfl;omega) (by decide));rw [ii]at wi;have b1:=Qp5 hb1 hb1;have b2:=Qwk hb1 ho;have a1:=Qhg (Qav hb1 (by decide)) (Qav hb1 (by decide)) (Qav b1 (by decide));have a2:=Qhg (Qav b1 (by decide)) (Qav ho (by decide)) (Qav b2 (by decide));have q:=Qjr b2 (by decide) (Qp4 b3 (by decide)) (show 0<o+o by omega);have er:(x2+x2+o)/(o+o)=rnd x2 o:=rfl;rw [er]at q;clear er b1 b2 ii;generalize hR:rnd x2 o=R at*;generalize x2+x2+o=S at*;generalize x2+x2=S1 at*;generalize o+o=S2 at*;repeat (first|simp -implicitDefEqProofs only [go_sem,seval,wPV,sel3]|(with_reducible refine Qaa a1 ?_ ?_ ?_);rfl;rfl|(with_reducible refine Qaa a2 ?_ ?_ ?_);rfl;rfl|(with_reducible refine Qaa a3 ?_ ?_ ?_);rfl;rfl|(with_reducible refine Qaa q ?_ ?_ ?_);rfl;rfl|(with_reducible refine Qaa wi ?_ ?_ ?_);rfl;rfl|(with_reducible refine And.intro (Qac _ _ (by kernel_rfl)) ?_))
      refine⟨⟨2+1,hA⟩,by simp only;omega,Qak (θ:=[(0,0),(106,106),(400,400)]) rfl ?_ ?_⟩
      ·simp [Qae,lkp,ren1,ren0,Qan]
      ·subst hR;exact⟨⟨rfl,rfl,rfl,rfl,rfl,.inr ⟨rfl,_,_,rfl,rfl,rfl,rfl⟩⟩,⟨rfl,rfl,rfl,rfl,rfl,.inr ⟨rfl,_,_,rfl,rfl,rfl,rfl⟩⟩,⟨rfl,rfl,rfl,rfl,rfl,.inr ⟨rfl,_,_,rfl,rfl,rfl,rfl⟩⟩,trivial⟩
    ·have hA':((i:Int)<3)=False:=eq_false (by omega);obtain rfl:i=3:=by omega
     have z0:sel3 (fun m=>rnd ([x0,x1,x2].getD m 0) o) 3 0=rnd x0 o:=rfl;have z1:sel3 (fun m=>rnd ([x0,x1,x2].getD m 0) o) 3 1=rnd x1 o:=rfl;have z2:sel3 (fun m=>rnd ([x0,x1,x2].getD m 0) o) 3 2=rnd x2 o:=rfl;simp only [z0,z1,z2];repeat simp -implicitDefEqProofs only [go_sem,seval]
abbrev BaOk (B:Bat):Prop:=(0≤B.base∧B.base≤1000000)∧(0≤B.climb∧B.climb≤1000000)∧(0≤B.drag∧B.drag≤1000000)∧0≤B.res∧B.res≤B.cap∧B.cap≤1125899906842624
theorem Zoa {B:Bat} (h:BaOk B):Qax B=true:=by
 unfold BaOk at h;simp only [Qax,Qko,Bool.and_eq_true,decide_eq_true_eq];omega
theorem Ql6 {B:Bat} (h: ¬BaOk B):Qax B=false:=by
 cases e:Qax B with
 |false=>rfl
 |true=>exact(h (Qck e)).elim
set_option maxHeartbeats 4000000 in
set_option maxRecDepth 100000 in
theorem Qzh (B:Bat):Qaf Tryz.prog 42 [baPV B] (.bool (Qax B)):=by
 unfold baPV;by_cases c0:B.base<0
 ·have c0':=eq_true c0;have e:Qax B=false:=Ql6 (by unfold BaOk;omega);refine Qab (tb:=[]) 37 [.tmp 2] [0,1,2,4,11,12,13,20] mixed Tryz.func42 rfl (by kernel_rfl) ?_;repeat simp -implicitDefEqProofs only [go_sem,seval]
  refine Qbt mixed [0,1,2,3] ?_;repeat simp -implicitDefEqProofs only [go_sem,seval,e,Qew,decide_true,c0']
 have c0':=eq_false c0;by_cases c1:1000000<B.base
 ·have c1':=eq_true c1;have e:Qax B=false:=Ql6 (by unfold BaOk;omega);refine Qab (tb:=[]) 37 [.tmp 2] [0,1,2,4,11,12,13,20] mixed Tryz.func42 rfl (by kernel_rfl) ?_;repeat simp -implicitDefEqProofs only [go_sem,seval]
  refine Qbt mixed [0,1,2,3] ?_;repeat simp -implicitDefEqProofs only [go_sem,seval,e,Qew,decide_true,decide_false,c0',c1']
 have c1':=eq_false c1;by_cases c2:B.climb<0
 ·have c2':=eq_true c2;have e:Qax B=false:=Ql6 (by unfold BaOk;omega);refine Qab (tb:=[]) 37 [.tmp 2] [0,1,2,4,11,12,13,20] mixed Tryz.func42 rfl (by kernel_rfl) ?_;repeat simp -implicitDefEqProofs only [go_sem,seval]
  refine Qbt mixed [0,1,2,3] ?_;repeat simp -implicitDefEqProofs only [go_sem,seval,e,Qhf,Qew,decide_true,decide_false,c0',c1',c2']
 have c2':=eq_false c2;by_cases c3:1000000<B.climb
 ·have c3':=eq_true c3;have e:Qax B=false:=Ql6 (by unfold BaOk;omega);refine Qab (tb:=[]) 37 [.tmp 2] [0,1,2,4,11,12,13,20] mixed Tryz.func42 rfl (by kernel_rfl) ?_;repeat simp -implicitDefEqProofs only [go_sem,seval]
  refine Qbt mixed [0,1,2,3] ?_;repeat simp -implicitDefEqProofs only [go_sem,seval,e,Qhf,Qew,decide_true,decide_false,c0',c1',c2',c3']
 have c3':=eq_false c3;by_cases c4:B.drag<0
 ·have c4':=eq_true c4;have e:Qax B=false:=Ql6 (by unfold BaOk;omega);refine Qab (tb:=[]) 37 [.tmp 2] [0,1,2,4,11,12,13,20] mixed Tryz.func42 rfl (by kernel_rfl) ?_;repeat simp -implicitDefEqProofs only [go_sem,seval]
  refine Qbt mixed [0,1,2,3] ?_;repeat simp -implicitDefEqProofs only [go_sem,seval,e,Qhf,Qky,Qew,decide_true,decide_false,c0',c1',c2',c3',c4']
 have c4':=eq_false c4;by_cases c5:1000000<B.drag
 ·have c5':=eq_true c5;have e:Qax B=false:=Ql6 (by unfold BaOk;omega);refine Qab (tb:=[]) 37 [.tmp 2] [0,1,2,4,11,12,13,20] mixed Tryz.func42 rfl (by kernel_rfl) ?_;repeat simp -implicitDefEqProofs only [go_sem,seval]
  refine Qbt mixed [0,1,2,3] ?_;repeat simp -implicitDefEqProofs only [go_sem,seval,e,Qhf,Qky,Qew,decide_true,decide_false,c0',c1',c2',c3',c4',c5']
 have c5':=eq_false c5;by_cases c6:0≤B.res
 case neg=>
  have c6':=eq_false c6;have e:Qax B=false:=Ql6 (by unfold BaOk;omega);refine Qab (tb:=[]) 37 [.tmp 2] [0,1,2,4,11,12,13,20] mixed Tryz.func42 rfl (by kernel_rfl) ?_;repeat simp -implicitDefEqProofs only [go_sem,seval]
  refine Qbt mixed [0,1,2,3] ?_;repeat simp -implicitDefEqProofs only [go_sem,seval,e,Qhf,Qky,Qrv,Qew,decide_true,decide_false,c0',c1',c2',c3',c4',c5',c6']
 have c6':=eq_true c6;by_cases c7:B.res≤B.cap
 case neg=>
  have c7':=eq_false c7;have e:Qax B=false:=Ql6 (by unfold BaOk;omega);refine Qab (tb:=[]) 37 [.tmp 2] [0,1,2,4,11,12,13,20] mixed Tryz.func42 rfl (by kernel_rfl) ?_;repeat simp -implicitDefEqProofs only [go_sem,seval]
  refine Qbt mixed [0,1,2,3] ?_;repeat simp -implicitDefEqProofs only [go_sem,seval,e,Qhf,Qky,Qrv,Qew,decide_true,decide_false,c0',c1',c2',c3',c4',c5',c6',c7']
 have c7':=eq_true c7;by_cases c8:B.cap≤1125899906842624
 case neg=>
  have c8':=eq_false c8;have e:Qax B=false:=Ql6 (by unfold BaOk;omega);refine Qab (tb:=[]) 37 [.tmp 2] [0,1,2,4,11,12,13,20] mixed Tryz.func42 rfl (by kernel_rfl) ?_;repeat simp -implicitDefEqProofs only [go_sem,seval]
  refine Qbt mixed [0,1,2,3] ?_;repeat simp -implicitDefEqProofs only [go_sem,seval,e,Qhf,Qky,Qrv,Qew,decide_true,decide_false,c0',c1',c2',c3',c4',c5',c6',c7',c8']
 have c8':=eq_true c8;have e:Qax B=true:=Zoa (by unfold BaOk;omega);refine Qab (tb:=[]) 37 [.tmp 2] [0,1,2,4,11,12,13,20] mixed Tryz.func42 rfl (by kernel_rfl) ?_;repeat simp -implicitDefEqProofs only [go_sem,seval]
 refine Qbt mixed [0,1,2,3] ?_;repeat simp -implicitDefEqProofs only [go_sem,seval,e,Qhf,Qky,Qrv,Qew,decide_true,decide_false,c0',c1',c2',c3',c4',c5',c6',c7',c8']
theorem Qnx (n:Int):Qaf Tryz.prog 37 [.int .i64 n] (.bool (Qko n)):=by
 by_cases c:0≤n
 ·have c':=eq_true c;have e:Qko n=decide (n≤1000000):=by rw [Qko,decide_eq_true c,Bool.true_and]
  rw [e];refine Qab (tb:=[]) 9 [.tmp 2] [0,2] mixed Tryz.func37 rfl (by kernel_rfl) ?_;repeat simp -implicitDefEqProofs only [go_sem,seval,c']
 ·have c':=eq_false c;have e:Qko n=false:=by rw [Qko,decide_eq_false c,Bool.false_and]
  rw [e];refine Qab (tb:=[]) 9 [.tmp 2] [0,2] mixed Tryz.func37 rfl (by kernel_rfl) ?_;repeat simp -implicitDefEqProofs only [go_sem,seval,c']
set_option maxHeartbeats 4000000 in
theorem Q6m (B:Bat):Qaf Tryz.prog 15 [baPV B] (.bool (Qax B)):=by
 have h0:=Qnx B.base;have h1:=Qnx B.climb;have h2:=Qnx B.drag;unfold baPV;cases c0:Qko B.base with
 |false=>
  rw [c0]at h0;have e:Qax B=false:=by unfold Qax;simp [c0]
  refine Qab (tb:=[]) 33 [.tmp 2] [0,1,2] mixed Tryz.func15 rfl (by kernel_rfl) ?_;repeat (first|simp -implicitDefEqProofs only [go_sem,seval,e,decide_true]|(with_reducible refine Qaa h0 ?_ ?_ ?_);rfl;rfl)
 |true=>
 rw [c0]at h0;cases c1:Qko B.climb with
 |false=>
  rw [c1]at h1;have e:Qax B=false:=by unfold Qax;simp [c0,c1]
  refine Qab (tb:=[]) 33 [.tmp 2] [0,1,2] mixed Tryz.func15 rfl (by kernel_rfl) ?_;repeat (first|simp -implicitDefEqProofs only [go_sem,seval,e,decide_true]|(with_reducible refine Qaa h0 ?_ ?_ ?_);rfl;rfl|(with_reducible refine Qaa h1 ?_ ?_ ?_);rfl;rfl)
 |true=>
 rw [c1]at h1;cases c2:Qko B.drag with
 |false=>
  rw [c2]at h2;have e:Qax B=false:=by unfold Qax;simp [c0,c1,c2]
  refine Qab (tb:=[]) 33 [.tmp 2] [0,1,2] mixed Tryz.func15 rfl (by kernel_rfl) ?_;repeat (first|simp -implicitDefEqProofs only [go_sem,seval,e,decide_true]|(with_reducible refine Qaa h0 ?_ ?_ ?_);rfl;rfl|(with_reducible refine Qaa h1 ?_ ?_ ?_);rfl;rfl|(with_reducible refine Qaa h2 ?_ ?_ ?_);rfl;rfl)
 |true=>
 rw [c2]at h2;by_cases c3:0≤B.res
 case neg=>
  have c3':=eq_false c3;have e:Qax B=false:=Ql6 (by unfold BaOk;omega);refine Qab (tb:=[]) 33 [.tmp 2] [0,1,2] mixed Tryz.func15 rfl (by kernel_rfl) ?_;repeat (first|simp -implicitDefEqProofs only [go_sem,seval,e,decide_true,decide_false,c3']|(with_reducible refine Qaa h0 ?_ ?_ ?_);rfl;rfl|(with_reducible refine Qaa h1 ?_ ?_ ?_);rfl;rfl|(with_reducible refine Qaa h2 ?_ ?_ ?_);rfl;rfl)
 have c3':=eq_true c3;by_cases c4:B.res≤B.cap
 case neg=>
  have c4':=eq_false c4;have e:Qax B=false:=Ql6 (by unfold BaOk;omega);refine Qab (tb:=[]) 33 [.tmp 2] [0,1,2] mixed Tryz.func15 rfl (by kernel_rfl) ?_;repeat (first|simp -implicitDefEqProofs only [go_sem,seval,e,decide_true,decide_false,c3',c4']|(with_reducible refine Qaa h0 ?_ ?_ ?_);rfl;rfl|(with_reducible refine Qaa h1 ?_ ?_ ?_);rfl;rfl|(with_reducible refine Qaa h2 ?_ ?_ ?_);rfl;rfl)
 have c4':=eq_true c4;by_cases c5:B.cap≤1125899906842624
 case neg=>
  have c5':=eq_false c5;have e:Qax B=false:=Ql6 (by unfold BaOk;omega);refine Qab (tb:=[]) 33 [.tmp 2] [0,1,2] mixed Tryz.func15 rfl (by kernel_rfl) ?_;repeat (first|simp -implicitDefEqProofs only [go_sem,seval,e,decide_true,decide_false,c3',c4',c5']|(with_reducible refine Qaa h0 ?_ ?_ ?_);rfl;rfl|(with_reducible refine Qaa h1 ?_ ?_ ?_);rfl;rfl|(with_reducible refine Qaa h2 ?_ ?_ ?_);rfl;rfl)
 have c5':=eq_true c5;have e:Qax B=true:=by
  unfold Qax;rw [c0,c1,c2,decide_eq_true c3,decide_eq_true c4,decide_eq_true c5];rfl
 refine Qab (tb:=[]) 33 [.tmp 2] [0,1,2] mixed Tryz.func15 rfl (by kernel_rfl) ?_;repeat (first|simp -implicitDefEqProofs only [go_sem,seval,e,decide_true,c3',c4',c5']|(with_reducible refine Qaa h0 ?_ ?_ ?_);rfl;rfl|(with_reducible refine Qaa h1 ?_ ?_ ?_);rfl;rfl|(with_reducible refine Qaa h2 ?_ ?_ ?_);rfl;rfl)
def blB (x:Int):Bool:=decide (-40000≤x∧x≤40000)
theorem Zqx {x:Int} (h:blB x=true): -40000≤x∧x≤40000:=of_decide_eq_true h
def Q6n (s:Sg) (B:Bat) (x y z:Int):PV:=if(blB x&&(blB y&&(blB z&&(Qau s&&Qax B))))=true then(if Qf6 s B x y z≤mxE then .tup [.int .i64 (Qf6 s B x y z),.int .i64 0]else .tup [.int .i64 0,.int .i64 7])else .tup [.int .i64 0,.int .i64 2]
theorem Qlk {s:Sg} {B:Bat} {x y z:Int} (h:(blB x&&(blB y&&(blB z&&(Qau s&&Qax B))))=false):Q6n s B x y z= .tup [.int .i64 0,.int .i64 2]:=by
 unfold Q6n;rw [if_neg (by rw [h];simp)]
theorem Q6o {s:Sg} {B:Bat} {x y z:Int} (h1:blB x=true) (h2:blB y=true) (h3:blB z=true) (h4:Qau s=true) (h5:Qax B=true):Q6n s B x y z=(if Qf6 s B x y z≤mxE then .tup [.int .i64 (Qf6 s B x y z),.int .i64 0]else .tup [.int .i64 0,.int .i64 7]):=by
 unfold Q6n;rw [if_pos (by rw [h1,h2,h3,h4,h5];rfl)]
set_option maxHeartbeats 4000000 in
set_option maxRecDepth 100000 in
theorem Zqy (s:Sg) (B:Bat) (x y z:Int) (hs:okSg s):Qaf Tryz.prog 38 [sgPV s,baPV B,.agg [.int .i64 x,.int .i64 y,.int .i64 z]] (Q6n s B x y z):=by
 have h1:=Qzq s hs;have h2:=Qzh B;have hsg:sgPV s= .agg [.int .i64 s.f,.int .i64 s.t,.int .i64 s.o,.slc (s.x.map (PV.int .i64)),.slc (s.y.map (PV.int .i64)),.slc (s.z.map (PV.int .i64))]:=rfl;have h3:=fun(a:Qau s=true) (b:Qax B=true) (c:blB x=true) (d:blB y=true) (e:blB z=true)=>Q6l s B x y z hs a b (Zqx c) (Zqx d) (Zqx e);rw [hsg]at h1 h3 ⊢;unfold baPV at h2 h3 ⊢;by_cases c0:x< -40000
 ·have c0':=eq_true c0;rw [Qlk (by
    have e:blB x=false:=decide_eq_false (by omega);rw [e];simp)]
  refine Qab (tb:=[]) 47 [.tmp 6,.tmp 7] [0,1,2,3,4,5,6,7,9,10,11,18,19,20,27,36,45] mixed Tryz.func38 rfl (by kernel_rfl) ?_;repeat simp -implicitDefEqProofs only [go_sem,seval]
  refine Qbt mixed [0,1,2,3] ?_;repeat simp -implicitDefEqProofs only [go_sem,seval,Qew,decide_true,Bool.not_true,c0']
 have c0':=eq_false c0;by_cases c1:40000<x
 ·have c1':=eq_true c1;rw [Qlk (by
    have e:blB x=false:=decide_eq_false (by omega);rw [e];simp)]
  refine Qab (tb:=[]) 47 [.tmp 6,.tmp 7] [0,1,2,3,4,5,6,7,9,10,11,18,19,20,27,36,45] mixed Tryz.func38 rfl (by kernel_rfl) ?_;repeat simp -implicitDefEqProofs only [go_sem,seval]
  refine Qbt mixed [0,1,2,3] ?_;repeat simp -implicitDefEqProofs only [go_sem,seval,Qew,decide_true,decide_false,c0',c1']
 have c1':=eq_false c1;by_cases c2:y< -40000
 ·have c2':=eq_true c2;rw [Qlk (by
    have e:blB y=false:=decide_eq_false (by omega);rw [e];simp)]
  refine Qab (tb:=[]) 47 [.tmp 6,.tmp 7] [0,1,2,3,4,5,6,7,9,10,11,18,19,20,27,36,45] mixed Tryz.func38 rfl (by kernel_rfl) ?_;repeat simp -implicitDefEqProofs only [go_sem,seval]
  refine Qbt mixed [0,1,2,3] ?_;repeat simp -implicitDefEqProofs only [go_sem,seval,Qhf,Qew,decide_true,decide_false,Bool.not_true,c0',c1',c2']
 have c2':=eq_false c2;by_cases c3:40000<y
 ·have c3':=eq_true c3;rw [Qlk (by
    have e:blB y=false:=decide_eq_false (by omega);rw [e];simp)]
  refine Qab (tb:=[]) 47 [.tmp 6,.tmp 7] [0,1,2,3,4,5,6,7,9,10,11,18,19,20,27,36,45] mixed Tryz.func38 rfl (by kernel_rfl) ?_;repeat simp -implicitDefEqProofs only [go_sem,seval]
  refine Qbt mixed [0,1,2,3] ?_;repeat simp -implicitDefEqProofs only [go_sem,seval,Qhf,Qew,decide_true,decide_false,c0',c1',c2',c3']
 have c3':=eq_false c3;by_cases c4:z< -40000
 ·have c4':=eq_true c4;rw [Qlk (by
    have e:blB z=false:=decide_eq_false (by omega);rw [e];simp)]
  refine Qab (tb:=[]) 47 [.tmp 6,.tmp 7] [0,1,2,3,4,5,6,7,9,10,11,18,19,20,27,36,45] mixed Tryz.func38 rfl (by kernel_rfl) ?_;repeat simp -implicitDefEqProofs only [go_sem,seval]
  refine Qbt mixed [0,1,2,3] ?_;repeat simp -implicitDefEqProofs only [go_sem,seval,Qhf,Qky,Qew,decide_true,decide_false,Bool.not_true,c0',c1',c2',c3',c4']
 have c4':=eq_false c4;by_cases c5:40000<z
 ·have c5':=eq_true c5;rw [Qlk (by
    have e:blB z=false:=decide_eq_false (by omega);rw [e];simp)]
  refine Qab (tb:=[]) 47 [.tmp 6,.tmp 7] [0,1,2,3,4,5,6,7,9,10,11,18,19,20,27,36,45] mixed Tryz.func38 rfl (by kernel_rfl) ?_;repeat simp -implicitDefEqProofs only [go_sem,seval]
  refine Qbt mixed [0,1,2,3] ?_;repeat simp -implicitDefEqProofs only [go_sem,seval,Qhf,Qky,Qew,decide_true,decide_false,c0',c1',c2',c3',c4',c5']
 have c5':=eq_false c5;have bx:blB x=true:=decide_eq_true (by omega);have by':blB y=true:=decide_eq_true (by omega);have bz:blB z=true:=decide_eq_true (by omega);cases hv:Qau s with
 |false=>
  rw [hv]at h1;rw [Qlk (by rw [hv];simp)];refine Qab (tb:=[]) 47 [.tmp 6,.tmp 7] [0,1,2,3,4,5,6,7,9,10,11,18,19,20,27,36,45] mixed Tryz.func38 rfl (by kernel_rfl) ?_;repeat simp -implicitDefEqProofs only [go_sem,seval]
  refine Qbt mixed [0,1,2,3] ?_;repeat (first|simp -implicitDefEqProofs only [go_sem,seval,Qhf,Qky,Qrv,Qew,decide_true,decide_false,Bool.not_true,Bool.not_false,c0',c1',c2',c3',c4',c5']|(with_reducible refine Qaa h1 ?_ ?_ ?_);rfl;rfl)
 |true=>
 rw [hv]at h1;cases hB:Qax B with
 |false=>
  rw [hB]at h2;rw [Qlk (by rw [hB];simp)];refine Qab (tb:=[]) 47 [.tmp 6,.tmp 7] [0,1,2,3,4,5,6,7,9,10,11,18,19,20,27,36,45] mixed Tryz.func38 rfl (by kernel_rfl) ?_;repeat simp -implicitDefEqProofs only [go_sem,seval]
  refine Qbt mixed [0,1,2,3] ?_;repeat (first|simp -implicitDefEqProofs only [go_sem,seval,Qhf,Qky,Qrv,Qew,decide_true,decide_false,Bool.not_true,Bool.not_false,c0',c1',c2',c3',c4',c5']|(with_reducible refine Qaa h1 ?_ ?_ ?_);rfl;rfl|(with_reducible refine Qaa h2 ?_ ?_ ?_);rfl;rfl)
 |true=>
 rw [hB]at h2;have h3:=h3 hv hB bx by' bz;rw [Q6o bx by' bz hv hB];unfold mxE;generalize Qf6 s B x y z=C at*;by_cases hC:C≤1125899906842624
 ·rw [decide_eq_true hC]at h3;rw [if_pos hC];refine Qab (tb:=[]) 47 [.tmp 6,.tmp 7] [0,1,2,3,4,5,6,7,9,10,11,18,19,20,27,36,45] mixed Tryz.func38 rfl (by kernel_rfl) ?_;repeat simp -implicitDefEqProofs only [go_sem,seval]
  refine Qbt mixed [0,1,2,3] ?_;repeat (first|simp -implicitDefEqProofs only [go_sem,seval,Qhf,Qky,Qrv,Qew,decide_true,decide_false,Bool.not_true,c0',c1',c2',c3',c4',c5']|(with_reducible refine Qaa h1 ?_ ?_ ?_);rfl;rfl|(with_reducible refine Qaa h2 ?_ ?_ ?_);rfl;rfl|(with_reducible refine Qaa h3 ?_ ?_ ?_);rfl;rfl)
 ·rw [decide_eq_false hC]at h3;rw [if_neg hC];refine Qab (tb:=[]) 47 [.tmp 6,.tmp 7] [0,1,2,3,4,5,6,7,9,10,11,18,19,20,27,36,45] mixed Tryz.func38 rfl (by kernel_rfl) ?_;repeat simp -implicitDefEqProofs only [go_sem,seval]
  refine Qbt mixed [0,1,2,3] ?_;repeat (first|simp -implicitDefEqProofs only [go_sem,seval,Qhf,Qky,Qrv,Qew,decide_true,decide_false,Bool.not_true,Bool.not_false,c0',c1',c2',c3',c4',c5']|(with_reducible refine Qaa h1 ?_ ?_ ?_);rfl;rfl|(with_reducible refine Qaa h2 ?_ ?_ ?_);rfl;rfl|(with_reducible refine Qaa h3 ?_ ?_ ?_);rfl;rfl)
end Go.Proofs.YtcaffiaempefjaaGreatDoor

namespace Go.Dg
structure Wd where
 lx:Int
 ly:Int
 lz:Int
 hx:Int
 hy:Int
 hz:Int
 f:Int
 t:Int
 ux:Int
 uy:Int
 uz:Int
deriving DecidableEq
def wd0:Wd:=⟨0,0,0,0,0,0,0,0,0,0,0⟩
def ptW (x y z:Int):Bool:=decide ((-1048576≤x∧x≤1048576)∧(-1048576≤y∧y≤1048576)∧(-1048576≤z∧z≤1048576))
def uB (x:Int):Bool:=decide (-5000≤x∧x≤5000)
def vWd (w:Wd):Bool:=ptW w.lx w.ly w.lz&&(ptW w.hx w.hy w.hz&&(decide (0≤w.f∧w.f<w.t∧w.t≤3600000)&&(decide (w.lx≤w.hx∧w.ly≤w.hy∧w.lz≤w.hz)&&(uB w.ux&&(uB w.uy&&uB w.uz)))))
def Qbe (l:List Wd):Bool:=l.all vWd&&decide (l.length≤8)
def blW (x y z t:Int) (w:Wd):Bool:=decide ((w.lx≤x∧x≤w.hx)∧(w.ly≤y∧y≤w.hy)∧(w.lz≤z∧z≤w.hz)∧w.f≤t∧t<w.t)
theorem Qnq {w:Wd} (h:vWd w=true):(-1048576≤w.lx∧w.lx≤1048576)∧(-1048576≤w.ly∧w.ly≤1048576)∧(-1048576≤w.lz∧w.lz≤1048576)∧(-1048576≤w.hx∧w.hx≤1048576)∧(-1048576≤w.hy∧w.hy≤1048576)∧(-1048576≤w.hz∧w.hz≤1048576)∧
  0≤w.f∧w.f<w.t∧w.t≤3600000∧w.lx≤w.hx∧w.ly≤w.hy∧w.lz≤w.hz∧(-5000≤w.ux∧w.ux≤5000)∧(-5000≤w.uy∧w.uy≤5000)∧(-5000≤w.uz∧w.uz≤5000):=by
 simp only [vWd,ptW,uB,Bool.and_eq_true,decide_eq_true_eq]at h;omega
theorem Qel {l:List Wd} (h:Qbe l=true):(∀w∈l,vWd w=true)∧l.length≤8:=by
 simp only [Qbe,Bool.and_eq_true,decide_eq_true_eq,List.all_eq_true]at h;exact h
def Qtp (p:Wd→Bool):List Wd→Nat→Nat→Nat
 | [],_,m=>m
 |w::l,i,m=>Qtp p l (i+1) (if p w then m+2^i else m)
def mask (p:Wd→Bool) (l:List Wd):Nat:=Qtp p l 0 0
theorem Qlh (p:Wd→Bool): ∀(a b:List Wd) (i m:Nat),Qtp p (a++b) i m=Qtp p b (i+a.length) (Qtp p a i m)
 | [],_,_,_=>rfl
 |w::a,b,i,m=>by
  simp only [List.cons_append,Qtp,List.length_cons];rw [Qlh p a b,Nat.add_assoc,Nat.add_comm 1]
theorem Qtq (p:Wd→Bool) (a:List Wd) (w:Wd):mask p (a++[w])=if p w then mask p a+2^a.length else mask p a:=by
 unfold mask;rw [Qlh,Nat.zero_add];rfl
theorem Qy9 (p:Wd→Bool): ∀(a:List Wd) (i m:Nat),m<2^i→Qtp p a i m<2^(i+a.length)
 | [],_,_,h=>h
 |w::a,i,m,h=>by
  have h1:2^(i+1)=2^i+2^i:=by rw [Nat.pow_succ];omega
  have:=Qy9 p a (i+1) (if p w then m+2^i else m) (by split<;>omega);simp only [Qtp,List.length_cons];rw [show i+(a.length+1)=i+1+a.length from by omega];exact this
theorem Qwb (p:Wd→Bool) (a:List Wd):mask p a<2^a.length:=by
 have:=Qy9 p a 0 0 (by decide)
 rwa [Nat.zero_add]at this
theorem Zwt {m k:Nat} (h:m<2^k):m ||| 2^k=m+2^k:=by
 have:=Nat.two_pow_add_eq_or_of_lt h 1;rw [Nat.mul_one,Nat.add_comm,Nat.or_comm]at this;exact this.symm
def Qb2 (m:Nat):List Nat:=(List.range 8).filter fun i=>m.testBit i
def loB (m:Nat):Nat:=(Qb2 m).headD 0
theorem Q1i: ∀m,m<256→m≠0→Qb2 m=loB m::Qb2 (m &&& (m-1))∧(m &&& (m-1))<256∧loB m<8:=by decide+kernel
theorem Qku:Qb2 0=[]:=by decide+kernel
theorem Ze4: ∀m,m<256→Qb2 m=[]→m=0:=by decide+kernel
def Qih:Nat→Nat→Nat
 |0,m=>m
 |k+1,m=>Qih k (m &&& (m-1))
theorem Qkv: ∀(k m:Nat),m<256→k≤(Qb2 m).length→Qb2 (Qih k m)=(Qb2 m).drop k∧Qih k m<256
 |0,m,h,_=>⟨rfl,h⟩
 |k+1,m,h,hk=>by
  have h0:m≠0:=by rintro rfl;rw [Qku]at hk;simp at hk
  obtain⟨e,h1, -⟩:=Q1i m h h0;rw [e]at hk ⊢;simp only [List.length_cons]at hk;obtain⟨i1,i2⟩:=Qkv k (m &&& (m-1)) h1 (by omega);exact⟨by simp only [Qih,List.drop_succ_cons];exact i1,i2⟩
theorem Qpu: ∀(k m:Nat),Qih (k+1) m=Qih k m &&& (Qih k m-1)
 |0,_=>rfl
 |k+1,m=>by
  show Qih (k+1) (m &&& (m-1))=_;rw [Qpu k];rfl
theorem Q55 {k m:Nat} (h:m<256) (hk:k<(Qb2 m).length):Qih k m≠0∧loB (Qih k m)=(Qb2 m).getD k 0∧Qih k m<256:=by
 obtain⟨e1,e2⟩:=Qkv k m h (by omega);refine⟨?_,?_,e2⟩
 ·intro e0;rw [e0,Qku]at e1;have:=congrArg List.length e1;simp at this;omega
 ·unfold loB;rw [e1,List.headD_eq_head?_getD,List.head?_drop,List.getD_eq_getElem?_getD]
theorem Q56 {m:Nat} (h:m<256):Qih (Qb2 m).length m=0:=by
 obtain⟨e1,e2⟩:=Qkv _ m h (Nat.le_refl _);exact Ze4 _ e2 (by rw [e1,List.drop_length])
def onI (p:Wd→Bool):List Wd→Nat→List Nat
 | [],_=>[]
 |w::l,i=>if p w then i::onI p l (i+1)else onI p l (i+1)
theorem Qpv (p:Wd→Bool): ∀(a b:List Wd) (i:Nat),onI p (a++b) i=onI p a i++onI p b (i+a.length)
 | [],_,_=>rfl
 |w::a,b,i=>by
  simp only [List.cons_append,onI,List.length_cons];rw [Qpv p a b,show i+1+a.length=i+(a.length+1)from by omega];split<;>simp
theorem Ze5 (p:Wd→Bool) (a:List Wd) (w:Wd):onI p (a++[w]) 0=if p w then onI p a 0++[a.length]else onI p a 0:=by
 rw [Qpv,Nat.zero_add];simp only [onI];split<;>simp
theorem Q57 (p:Wd→Bool): ∀(a:List Wd) (i k:Nat),k∈onI p a i→i≤k∧k<i+a.length
 | [],_,_,h=>nomatch h
 |w::a,i,k,h=>by
  simp only [onI]at h;simp only [List.length_cons];split at h
  ·simp only [List.mem_cons]at h;rcases h with rfl|h
   ·omega
   ·have:=Q57 p a (i+1) k h;omega
  ·have:=Q57 p a (i+1) k h;omega
theorem Ze6: ∀m,m<256→ ∀k,k<8→m<2^k→Qb2 (m+2^k)=Qb2 m++[k]:=by decide+kernel
theorem bits_mask (p:Wd→Bool) (l:List Wd) (h:l.length≤8):Qb2 (mask p l)=onI p l 0:=by
 have key: ∀k,k≤l.length→Qb2 (mask p (l.take k))=onI p (l.take k) 0:=by
  intro k
  induction k with
  |zero=>intro _;rw [List.take_zero];exact Qku
  |succ k ih=>
   intro hk;have ih:=ih (by omega);have hk':k<l.length:=by omega
   have e:l.take (k+1)=l.take k++[l[k]]:=by rw [List.take_add_one,List.getElem?_eq_getElem hk'];rfl
   have hlt:=Qwb p (l.take k);have hl:(l.take k).length=k:=by simp;omega
   rw [hl]at hlt;rw [e,Qtq,Ze5,hl];have h256:(2:Nat)^k≤2^7:=Nat.pow_le_pow_right (by decide) (by omega);split
   ·rw [Ze6 _ (by omega) k (by omega) hlt,ih]
   ·exact ih
 have:=key l.length (Nat.le_refl _)
 rwa [List.take_length]at this
theorem Ze7 (p:Wd→Bool) {l:List Wd} (h:l.length≤8):mask p l<256:=by
 have h1:=Qwb p l;have h256:(2:Nat)^l.length≤2^8:=Nat.pow_le_pow_right (by decide) h;omega
def smW (g:Wd→Int):List Wd→Int
 | []=>0
 |w::l=>g w+smW g l
theorem Qpw (g:Wd→Int): ∀a b:List Wd,smW g (a++b)=smW g a+smW g b
 | [],b=>by simp [smW]
 |w::a,b=>by simp only [List.cons_append,smW];rw [Qpw g a b,Int.add_assoc]
def pick (l:List Wd) (ix:List Nat):List Wd:=ix.map fun i=>l.getD i wd0
theorem Zqg (p:Wd→Bool) (l:List Wd):pick l (onI p l 0)=l.filter p:=by
 have key: ∀(b a:List Wd),l=a++b→pick l (onI p b a.length)=b.filter p:=by
  intro b
  induction b with
  |nil=>intro a _;rfl
  |cons w b ih=>
   intro a e;have:=ih (a++[w]) (by rw [e,List.append_assoc];rfl);rw [List.length_append]at this;simp only [onI,List.filter_cons];have hw:l.getD a.length wd0=w:=by rw [e,List.getD_eq_getElem?_getD,List.getElem?_append_right (Nat.le_refl _)];simp
   split
   ·unfold pick at this ⊢;rw [List.map_cons,hw];exact congrArg _ this
   ·exact this
 exact key l [] rfl
theorem Q58 (g:Wd→Int) (K:Int): ∀l:List Wd,(∀w∈l, -K≤g w∧g w≤K)→ -(K*l.length)≤smW g l∧smW g l≤K*l.length
 | [],_=>by simp [smW]
 |w::l,h=>by
  have h1:=h w (by simp);have h2:=Q58 g K l fun x hx=>h x (by simp [hx]);simp only [smW,List.length_cons,Int.natCast_add,Int.mul_add];generalize K*(l.length:Int)=q at*;omega
theorem Ze8 {l:List Wd} {ix:List Nat} (h: ∀i∈ix,i<l.length) {w:Wd} (hw:w∈pick l ix):w∈l:=by
 obtain⟨i,hi,rfl⟩:=List.mem_map.1 hw;rw [List.getD_eq_getElem?_getD,List.getElem?_eq_getElem (h i hi)];exact List.getElem_mem _
def atW (g:Wd→Int) (l:List Wd) (x y z t:Int):Int:=smW g (l.filter (blW x y z t))
theorem Qpx {g:Wd→Int} (hg:g=Wd.ux∨g=Wd.uy∨g=Wd.uz) {l:List Wd} (hv:Qbe l=true) (x y z t:Int): -40000≤atW g l x y z t∧atW g l x y z t≤40000:=by
 obtain⟨h1,h2⟩:=Qel hv;have h3:=Q58 g 5000 (l.filter (blW x y z t)) fun w hw=>by
  have:=Qnq (h1 w (List.mem_filter.1 hw).1);rcases hg with rfl|rfl|rfl<;>omega
 have h4:=List.length_filter_le (blW x y z t) l;unfold atW;omega
end Go.Dg

namespace Go.Proofs.YtcaffiaempefjaaGreatDoor
open Go.Vl Go.RowKit Go.Dg
def wdPV (w:Wd):PV:= .agg [.int .i64 w.lx,.int .i64 w.ly,.int .i64 w.lz,.int .i64 w.hx,.int .i64 w.hy,.int .i64 w.hz,.int .i64 w.f,.int .i64 w.t,.int .i64 w.ux,.int .i64 w.uy,.int .i64 w.uz]
attribute [go_sem] wdPV
abbrev wsPV (l:List Wd):PV:= .slc (l.map wdPV)
theorem wo_1:IntKind.i64.wrap 1=1:=rfl
theorem wr_2:IntKind.i64.wrap 2=2:=rfl
theorem wr_3:IntKind.i64.wrap 3=3:=rfl
theorem wr_4:IntKind.i64.wrap 4=4:=rfl
theorem nc_2:((2:Nat):Int)=2:=rfl
theorem nc_3:((3:Nat):Int)=3:=rfl
theorem nc_4:((4:Nat):Int)=4:=rfl
attribute [go_sem] wo_1 wr_2 wr_3 wr_4 nc_2 nc_3 nc_4
theorem Qzj (l:List Wd) (i:Nat) (h:i<l.length):(l.map wdPV)[i]? =some (wdPV l[i]):=by rw [List.getElem?_map,List.getElem?_eq_getElem h];rfl
theorem Qjq {x y z:Int} (h:ptW x y z=false): ¬((-1048576≤x∧x≤1048576)∧(-1048576≤y∧y≤1048576)∧(-1048576≤z∧z≤1048576)):=of_decide_eq_false h
theorem Qmo {x y z:Int} (h:ptW x y z=true):(-1048576≤x∧x≤1048576)∧(-1048576≤y∧y≤1048576)∧(-1048576≤z∧z≤1048576):=of_decide_eq_true h
theorem Qrw {x:Int} (h:uB x=false): ¬(-5000≤x∧x≤5000):=of_decide_eq_false h
theorem Qwi {x:Int} (h:uB x=true): -5000≤x∧x≤5000:=of_decide_eq_true h
abbrev WdOk (w:Wd):Prop:=(-1048576≤w.lx∧w.lx≤1048576)∧(-1048576≤w.ly∧w.ly≤1048576)∧(-1048576≤w.lz∧w.lz≤1048576)∧(-1048576≤w.hx∧w.hx≤1048576)∧(-1048576≤w.hy∧w.hy≤1048576)∧(-1048576≤w.hz∧w.hz≤1048576)∧
  0≤w.f∧w.f<w.t∧w.t≤3600000∧w.lx≤w.hx∧w.ly≤w.hy∧w.lz≤w.hz∧(-5000≤w.ux∧w.ux≤5000)∧(-5000≤w.uy∧w.uy≤5000)∧(-5000≤w.uz∧w.uz≤5000)
theorem Q6q {w:Wd} (h:WdOk w):vWd w=true:=by
 unfold WdOk at h;simp only [vWd,ptW,uB,Bool.and_eq_true,decide_eq_true_eq];omega
theorem Qp2 {l:List Wd} {i:Nat} {h:i<l.length} (e: ¬WdOk l[i]):Qbe l=false:=by
 cases e2:Qbe l with
 |false=>rfl
 |true=>exact(e (Qnq ((Qel e2).1 _ (List.getElem_mem h)))).elim
theorem Q6r {l:List Wd} {i:Nat} (h:i<l.length) (h1:(l.take i).all vWd=true) (h2:vWd l[i]=true):(l.take (i+1)).all vWd=true:=by
 rw [Qbq l i h,List.all_append,h1];simp [h2]
set_option maxRecDepth 100000 in
theorem Zw2 (m:Int) (x y z:Int) (hm:0≤m) (hm2:m≤1000000000):Qaf Tryz.prog 108 [.int .i64 m,.slc [.int .i64 x,.int .i64 y,.int .i64 z]] (.bool (decide ((-m≤x∧x≤m)∧(-m≤y∧y≤m)∧(-m≤z∧z≤m)))):=by
 have wm:IntKind.i64.wrap (0-m)= -m:=by rw [Qah (by omega) (by omega)];omega
 by_cases c0:x< -m
 ·have c0':=eq_true c0;have e:decide ((-m≤x∧x≤m)∧(-m≤y∧y≤m)∧(-m≤z∧z≤m))=false:=decide_eq_false (by omega);refine Qab (tb:=[]) 23 [.tmp 4] [0,1,4,6,7,8,9,10,21] mixed Tryz.func108 rfl (by kernel_rfl) ?_;repeat simp -implicitDefEqProofs only [go_sem,seval]
  refine Qbt mixed [0,1,2,3] ?_;repeat simp -implicitDefEqProofs only [go_sem,seval,wm,e,Bool.not_true,c0']
 have c0':=eq_false c0;by_cases c1:m<x
 ·have c1':=eq_true c1;have e:decide ((-m≤x∧x≤m)∧(-m≤y∧y≤m)∧(-m≤z∧z≤m))=false:=decide_eq_false (by omega);refine Qab (tb:=[]) 23 [.tmp 4] [0,1,4,6,7,8,9,10,21] mixed Tryz.func108 rfl (by kernel_rfl) ?_;repeat simp -implicitDefEqProofs only [go_sem,seval]
  refine Qbt mixed [0,1,2,3] ?_;repeat simp -implicitDefEqProofs only [go_sem,seval,wm,e,c0',c1']
 have c1':=eq_false c1;by_cases c2:y< -m
 ·have c2':=eq_true c2;have e:decide ((-m≤x∧x≤m)∧(-m≤y∧y≤m)∧(-m≤z∧z≤m))=false:=decide_eq_false (by omega);refine Qab (tb:=[]) 23 [.tmp 4] [0,1,4,6,7,8,9,10,21] mixed Tryz.func108 rfl (by kernel_rfl) ?_;repeat simp -implicitDefEqProofs only [go_sem,seval]
  refine Qbt mixed [0,1,2,3] ?_;repeat simp -implicitDefEqProofs only [go_sem,seval,wm,e,Bool.not_true,c0',c1',c2']
 have c2':=eq_false c2;by_cases c3:m<y
 ·have c3':=eq_true c3;have e:decide ((-m≤x∧x≤m)∧(-m≤y∧y≤m)∧(-m≤z∧z≤m))=false:=decide_eq_false (by omega);refine Qab (tb:=[]) 23 [.tmp 4] [0,1,4,6,7,8,9,10,21] mixed Tryz.func108 rfl (by kernel_rfl) ?_;repeat simp -implicitDefEqProofs only [go_sem,seval]
  refine Qbt mixed [0,1,2,3] ?_;repeat simp -implicitDefEqProofs only [go_sem,seval,wm,e,c0',c1',c2',c3']
 have c3':=eq_false c3;by_cases c4:z< -m
 ·have c4':=eq_true c4;have e:decide ((-m≤x∧x≤m)∧(-m≤y∧y≤m)∧(-m≤z∧z≤m))=false:=decide_eq_false (by omega);refine Qab (tb:=[]) 23 [.tmp 4] [0,1,4,6,7,8,9,10,21] mixed Tryz.func108 rfl (by kernel_rfl) ?_;repeat simp -implicitDefEqProofs only [go_sem,seval]
  refine Qbt mixed [0,1,2,3] ?_;repeat simp -implicitDefEqProofs only [go_sem,seval,wm,e,Bool.not_true,c0',c1',c2',c3',c4']
 have c4':=eq_false c4;by_cases c5:m<z
 ·have c5':=eq_true c5;have e:decide ((-m≤x∧x≤m)∧(-m≤y∧y≤m)∧(-m≤z∧z≤m))=false:=decide_eq_false (by omega);refine Qab (tb:=[]) 23 [.tmp 4] [0,1,4,6,7,8,9,10,21] mixed Tryz.func108 rfl (by kernel_rfl) ?_;repeat simp -implicitDefEqProofs only [go_sem,seval]
  refine Qbt mixed [0,1,2,3] ?_;repeat simp -implicitDefEqProofs only [go_sem,seval,wm,e,c0',c1',c2',c3',c4',c5']
 have c5':=eq_false c5;have e:decide ((-m≤x∧x≤m)∧(-m≤y∧y≤m)∧(-m≤z∧z≤m))=true:=decide_eq_true (by omega);refine Qab (tb:=[]) 23 [.tmp 4] [0,1,4,6,7,8,9,10,21] mixed Tryz.func108 rfl (by kernel_rfl) ?_;repeat simp -implicitDefEqProofs only [go_sem,seval]
 refine Qbt mixed [0,1,2,3] ?_;repeat simp -implicitDefEqProofs only [go_sem,seval,wm,e,c0',c1',c2',c3',c4',c5']
theorem Qzk (x y z:Int):Qaf Tryz.prog 74 [.agg [.int .i64 x,.int .i64 y,.int .i64 z]] (.bool (ptW x y z)):=by
 have h:=Zw2 1048576 x y z (by decide) (by decide);have e:decide ((-1048576≤x∧x≤1048576)∧(-1048576≤y∧y≤1048576)∧(-1048576≤z∧z≤1048576))=ptW x y z:=rfl;rw [e]at h;generalize ptW x y z=b at*;refine Qab (tb:=[]) 11 [.tmp 2] [0,1,2] mixed Tryz.func74 rfl (by kernel_rfl) ?_;repeat (first|simp -implicitDefEqProofs only [go_sem,seval]|(with_reducible refine Qaa h ?_ ?_ ?_);rfl;rfl)
theorem Qrx (x:Int):Qaf Tryz.prog 67 [.int .i64 x] (.bool (decide (-1048576≤x)&&decide (x≤1048576))):=by
 by_cases c: -1048576≤x
 ·have c':=eq_true c;rw [decide_eq_true c];refine Qab (tb:=[]) 9 [.tmp 2] [0,2] mixed Tryz.func67 rfl (by kernel_rfl) ?_;repeat simp -implicitDefEqProofs only [go_sem,seval,c',Bool.true_and]
 ·have c':=eq_false c;rw [decide_eq_false c];refine Qab (tb:=[]) 9 [.tmp 2] [0,2] mixed Tryz.func67 rfl (by kernel_rfl) ?_;repeat simp -implicitDefEqProofs only [go_sem,seval,c',Bool.false_and]
theorem Qzl (x y z:Int):Qaf Tryz.prog 33 [.agg [.int .i64 x,.int .i64 y,.int .i64 z]] (.bool (ptW x y z)):=by
 have h1:=Qrx x;have h2:=Qrx y;have h3:=Qrx z;have e:ptW x y z=((decide (-1048576≤x)&&decide (x≤1048576))&&((decide (-1048576≤y)&&decide (y≤1048576))&&(decide (-1048576≤z)&&decide (z≤1048576)))):=by
  rw [ptW,Bool.eq_iff_iff];simp [Bool.and_eq_true]
 rw [e];clear e;generalize (decide (-1048576≤x)&&decide (x≤1048576))=b1 at*;generalize (decide (-1048576≤y)&&decide (y≤1048576))=b2 at*;generalize (decide (-1048576≤z)&&decide (z≤1048576))=b3 at*;cases b1 with
 |false=>
  refine Qab (tb:=[]) 16 [.tmp 2] [0,1,2] mixed Tryz.func33 rfl (by kernel_rfl) ?_;repeat (first|simp -implicitDefEqProofs only [go_sem,seval,Bool.false_and]|(with_reducible refine Qaa h1 ?_ ?_ ?_);rfl;rfl)
 |true=>
 cases b2 with
 |false=>
  refine Qab (tb:=[]) 16 [.tmp 2] [0,1,2] mixed Tryz.func33 rfl (by kernel_rfl) ?_;repeat (first|simp -implicitDefEqProofs only [go_sem,seval,Bool.false_and,Bool.true_and]|(with_reducible refine Qaa h1 ?_ ?_ ?_);rfl;rfl|(with_reducible refine Qaa h2 ?_ ?_ ?_);rfl;rfl)
 |true=>
  refine Qab (tb:=[]) 16 [.tmp 2] [0,1,2] mixed Tryz.func33 rfl (by kernel_rfl) ?_;repeat (first|simp -implicitDefEqProofs only [go_sem,seval,Bool.true_and]|(with_reducible refine Qaa h1 ?_ ?_ ?_);rfl;rfl|(with_reducible refine Qaa h2 ?_ ?_ ?_);rfl;rfl|(with_reducible refine Qaa h3 ?_ ?_ ?_);rfl;rfl)
theorem Qry (x:Int):Qaf Tryz.prog 34 [.int .i64 x] (.bool (uB x)):=by
 by_cases c: -5000≤x
 ·have c':=eq_true c;have e:uB x=decide (x≤5000):=by rw [uB,Bool.eq_iff_iff];simp [c]
  rw [e];refine Qab (tb:=[]) 9 [.tmp 2] [0,2] mixed Tryz.func34 rfl (by kernel_rfl) ?_;repeat simp -implicitDefEqProofs only [go_sem,seval,c']
 ·have c':=eq_false c;have e:uB x=false:=by rw [uB];exact decide_eq_false (by omega)
  rw [e];refine Qab (tb:=[]) 9 [.tmp 2] [0,2] mixed Tryz.func34 rfl (by kernel_rfl) ?_;repeat simp -implicitDefEqProofs only [go_sem,seval,c']
theorem Qkz (x y z:Int):Qaf Tryz.prog 75 [.agg [.int .i64 x,.int .i64 y,.int .i64 z]] (.agg [.int .i64 x,.int .i64 y,.int .i64 z]):=by
 refine Qab (tb:=[]) 10 [.cell 2 126] [0,1,2] mixed Tryz.func75 rfl (by kernel_rfl) ?_;repeat simp -implicitDefEqProofs only [go_sem,seval]
set_option maxHeartbeats 8000000 in
set_option maxRecDepth 100000 in
theorem Qtx (l:List Wd) (hl:l.length≤maxLen):Qaf Tryz.prog 43 [wsPV l] (.bool (Qbe l)):=by
 have hm:=Qem;refine Qab (tb:=[]) 75 [.tmp 2] [0,2,4,5,6,7,8,9,10,11,12,41,50,51,52,69] mixed Tryz.func43 rfl (by kernel_rfl) ?_;repeat simp -implicitDefEqProofs only [go_sem,seval]
 refine Qat mixed (fun i:{i:Nat // i≤l.length∧(l.take i).all vWd=true}=>St.of [(0,wsPV l),(9,wsPV l),(10,.int .i64 (l.length:Int)),(11,.int .i64 (i.1:Int))] []) (fun i=>l.length-i.1) ⟨0,Nat.zero_le _,rfl⟩ ?_ ?_
 ·refine Qa5 ?_;simp [Qae,lkp,ren1,ren0,Qan,wsPV]
 rintro⟨i,hi,hall⟩;simp only;by_cases hA:i<l.length
 case neg=>
  have hA':=ltF hA;have et:l.take i=l:=List.take_of_length_le (by omega);rw [et]at hall;by_cases h8:l.length≤8
  ·have h8':((l.length:Int)≤8)=True:=eq_true (by omega);have e:Qbe l=true:=by simp [Qbe,hall,h8]
   repeat simp -implicitDefEqProofs only [go_sem,seval,hA',h8',e,List.length_map,decide_true,decide_false]
  ·have h8':((l.length:Int)≤8)=False:=eq_false (by omega);have e:Qbe l=false:=by simp [Qbe,h8]
   repeat simp -implicitDefEqProofs only [go_sem,seval,hA',h8',e,List.length_map,decide_true,decide_false]
 have hA':=ltT hA;have n0:=nnT i;have hg:=Qzj l i hA;have hwk:=Qai (a:=i) (by omega);have hbad:=fun h=>Qp2 (h:=hA) h;have hok:=Q6r hA hall;generalize l[i]=w at*;have h0:=Qzk w.lx w.ly w.lz;have h1:=Qzk w.hx w.hy w.hz;have q0:=Qkz w.lx w.ly w.lz;have q1:=Qkz w.hx w.hy w.hz;have q2:=Qkz w.ux w.uy w.uz;cases c0:ptW w.lx w.ly w.lz with
 |false=>
  rw [c0]at h0;have c0:=Qjq c0;have e:Qbe l=false:=hbad (by unfold WdOk;omega);repeat (first|simp -implicitDefEqProofs only [go_sem,seval,hA',n0,hg,e,Int.toNat_natCast,Bool.not_true,Bool.not_false,decide_true]|(with_reducible refine Qaa h0 ?_ ?_ ?_);rfl;rfl)
 |true=>
 rw [c0]at h0;have c0:=Qmo c0;cases c1:ptW w.hx w.hy w.hz with
 |false=>
  rw [c1]at h1;have c1:=Qjq c1;have e:Qbe l=false:=hbad (by unfold WdOk;omega);repeat (first|simp -implicitDefEqProofs only [go_sem,seval,hA',n0,hg,e,Int.toNat_natCast,Bool.not_true,Bool.not_false,decide_true]|(with_reducible refine Qaa h0 ?_ ?_ ?_);rfl;rfl|(with_reducible refine Qaa h1 ?_ ?_ ?_);rfl;rfl)
 |true=>
 rw [c1]at h1;have c1:=Qmo c1;by_cases c2:w.f<0
 ·have c2':=eq_true c2;have e:Qbe l=false:=hbad (by unfold WdOk;omega);repeat (first|simp -implicitDefEqProofs only [go_sem,seval,hA',n0,hg,e,Int.toNat_natCast,Bool.not_true,decide_true,c2']|(with_reducible refine Qaa h0 ?_ ?_ ?_);rfl;rfl|(with_reducible refine Qaa h1 ?_ ?_ ?_);rfl;rfl)
 have c2':=eq_false c2;by_cases c3:w.t≤w.f
 ·have c3':=eq_true c3;have e:Qbe l=false:=hbad (by unfold WdOk;omega);repeat (first|simp -implicitDefEqProofs only [go_sem,seval,hA',n0,hg,e,Int.toNat_natCast,Bool.not_true,decide_true,decide_false,c2',c3']|(with_reducible refine Qaa h0 ?_ ?_ ?_);rfl;rfl|(with_reducible refine Qaa h1 ?_ ?_ ?_);rfl;rfl)
 have c3':=eq_false c3;by_cases c4:3600000<w.t
 ·have c4':=eq_true c4;have e:Qbe l=false:=hbad (by unfold WdOk;omega);repeat (first|simp -implicitDefEqProofs only [go_sem,seval,hA',n0,hg,e,Int.toNat_natCast,Bool.not_true,decide_true,decide_false,c2',c3',c4']|(with_reducible refine Qaa h0 ?_ ?_ ?_);rfl;rfl|(with_reducible refine Qaa h1 ?_ ?_ ?_);rfl;rfl)
 have c4':=eq_false c4;repeat (first|simp -implicitDefEqProofs only [go_sem,seval,hA',n0,hg,Int.toNat_natCast,Bool.not_true,decide_true,decide_false,c2',c3',c4']|(with_reducible refine Qaa h0 ?_ ?_ ?_);rfl;rfl|(with_reducible refine Qaa h1 ?_ ?_ ?_);rfl;rfl|(with_reducible refine Qaa q0 ?_ ?_ ?_);rfl;rfl|(with_reducible refine Qaa q1 ?_ ?_ ?_);rfl;rfl|(with_reducible refine Qaa q2 ?_ ?_ ?_);rfl;rfl|(with_reducible refine And.intro (Qac _ _ (by kernel_rfl)) ?_))
 refine Qbt mixed [0,1,2,3] ?_;by_cases c5:w.hx<w.lx
 ·have c5':=eq_true c5;have e:Qbe l=false:=hbad (by unfold WdOk;omega);repeat (first|simp -implicitDefEqProofs only [go_sem,seval,e,Bool.not_true,decide_true,c5']|(with_reducible exact Qac _ _ (by kernel_rfl)))
 have c5':=eq_false c5;by_cases c6:w.ux< -5000
 ·have c6':=eq_true c6;have e:Qbe l=false:=hbad (by unfold WdOk;omega);repeat (first|simp -implicitDefEqProofs only [go_sem,seval,e,Bool.not_true,decide_true,decide_false,c5',c6']|(with_reducible exact Qac _ _ (by kernel_rfl)))
 have c6':=eq_false c6;by_cases c7:5000<w.ux
 ·have c7':=eq_true c7;have e:Qbe l=false:=hbad (by unfold WdOk;omega);repeat (first|simp -implicitDefEqProofs only [go_sem,seval,e,decide_true,decide_false,c5',c6',c7']|(with_reducible exact Qac _ _ (by kernel_rfl)))
 have c7':=eq_false c7;by_cases c8:w.hy<w.ly
 ·have c8':=eq_true c8;have e:Qbe l=false:=hbad (by unfold WdOk;omega);repeat (first|simp -implicitDefEqProofs only [go_sem,seval,e,Bool.not_true,decide_true,decide_false,c5',c6',c7',c8']|(with_reducible exact Qac _ _ (by kernel_rfl))|(with_reducible refine And.intro (Qac _ _ (by kernel_rfl)) ?_))
 have c8':=eq_false c8;by_cases c9:w.uy< -5000
 ·have c9':=eq_true c9;have e:Qbe l=false:=hbad (by unfold WdOk;omega);repeat (first|simp -implicitDefEqProofs only [go_sem,seval,e,Bool.not_true,decide_true,decide_false,c5',c6',c7',c8',c9']|(with_reducible exact Qac _ _ (by kernel_rfl))|(with_reducible refine And.intro (Qac _ _ (by kernel_rfl)) ?_))
 have c9':=eq_false c9;by_cases c10:5000<w.uy
 ·have c10':=eq_true c10;have e:Qbe l=false:=hbad (by unfold WdOk;omega);repeat (first|simp -implicitDefEqProofs only [go_sem,seval,e,decide_true,decide_false,c5',c6',c7',c8',c9',c10']|(with_reducible exact Qac _ _ (by kernel_rfl))|(with_reducible refine And.intro (Qac _ _ (by kernel_rfl)) ?_))
 have c10':=eq_false c10;by_cases c11:w.hz<w.lz
 ·have c11':=eq_true c11;have e:Qbe l=false:=hbad (by unfold WdOk;omega);repeat (first|simp -implicitDefEqProofs only [go_sem,seval,e,Bool.not_true,decide_true,decide_false,c5',c6',c7',c8',c9',c10',c11']|(with_reducible exact Qac _ _ (by kernel_rfl))|(with_reducible refine And.intro (Qac _ _ (by kernel_rfl)) ?_))
 have c11':=eq_false c11;by_cases c12:w.uz< -5000
 ·have c12':=eq_true c12;have e:Qbe l=false:=hbad (by unfold WdOk;omega);repeat (first|simp -implicitDefEqProofs only [go_sem,seval,e,Bool.not_true,decide_true,decide_false,c5',c6',c7',c8',c9',c10',c11',c12']|(with_reducible exact Qac _ _ (by kernel_rfl))|(with_reducible refine And.intro (Qac _ _ (by kernel_rfl)) ?_))
 have c12':=eq_false c12;by_cases c13:5000<w.uz
 ·have c13':=eq_true c13;have e:Qbe l=false:=hbad (by unfold WdOk;omega);repeat (first|simp -implicitDefEqProofs only [go_sem,seval,e,decide_true,decide_false,c5',c6',c7',c8',c9',c10',c11',c12',c13']|(with_reducible exact Qac _ _ (by kernel_rfl))|(with_reducible refine And.intro (Qac _ _ (by kernel_rfl)) ?_))
 have c13':=eq_false c13;have e:=hok (Q6q (by unfold WdOk;omega));repeat (first|simp -implicitDefEqProofs only [go_sem,seval,hwk,List.length_map,decide_true,decide_false,c5',c6',c7',c8',c9',c10',c11',c12',c13']|(with_reducible refine And.intro (Qac _ _ (by kernel_rfl)) ?_))
 refine⟨⟨i+1,hA,e⟩,by simp only;omega,Qak (θ:=[]) rfl ?_ trivial⟩;simp [Qae,lkp,ren1,ren0,Qan,wsPV]
set_option maxHeartbeats 4000000 in
set_option maxRecDepth 100000 in
theorem Qty (l:List Wd) (hl:l.length≤maxLen):Qaf Tryz.prog 13 [wsPV l] (.bool (Qbe l)):=by
 have hm:=Qem;refine Qab (tb:=[]) 93 [.tmp 2] [0,2,3,4,8,89] mixed Tryz.func13 rfl (by kernel_rfl) ?_;repeat simp -implicitDefEqProofs only [go_sem,seval]
 refine Qat mixed (fun i:{i:Nat // i≤l.length∧(l.take i).all vWd=true}=>St.of [(0,wsPV l),(3,.int .i64 (i.1:Int))] []) (fun i=>l.length-i.1) ⟨0,Nat.zero_le _,rfl⟩ ?_ ?_
 ·refine Qa5 ?_;simp [Qae,lkp,ren1,ren0,Qan,wsPV]
 rintro⟨i,hi,hall⟩;simp only;by_cases hA:i<l.length
 case neg=>
  have hA':=ltF hA;have et:l.take i=l:=List.take_of_length_le (by omega);rw [et]at hall;by_cases h8:l.length≤8
  ·have h8':((l.length:Int)≤8)=True:=eq_true (by omega);have e:Qbe l=true:=by simp [Qbe,hall,h8]
   repeat simp -implicitDefEqProofs only [go_sem,seval,hA',h8',e,List.length_map,decide_true,decide_false]
  ·have h8':((l.length:Int)≤8)=False:=eq_false (by omega);have e:Qbe l=false:=by simp [Qbe,h8]
   repeat simp -implicitDefEqProofs only [go_sem,seval,hA',h8',e,List.length_map,decide_true,decide_false]
 have hA':=ltT hA;have n0:=nnT i;have hg:=Qzj l i hA;have hwk:=Qai (a:=i) (by omega);have hbad:=fun h=>Qp2 (h:=hA) h;have hok:=Q6r hA hall;generalize l[i]=w at*;have h0:=Qzl w.lx w.ly w.lz;have h1:=Qzl w.hx w.hy w.hz;have h8:=Qry w.ux;have h9:=Qry w.uy;have h10:=Qry w.uz;cases c0:ptW w.lx w.ly w.lz with
 |false=>
  rw [c0]at h0;have c0:=Qjq c0;have e:Qbe l=false:=hbad (by unfold WdOk;omega);repeat (first|simp -implicitDefEqProofs only [go_sem,seval,hA',n0,hg,e,Int.toNat_natCast,List.length_map,Bool.not_true,Bool.not_false,decide_true]|(with_reducible refine Qaa h0 ?_ ?_ ?_);rfl;rfl)
 |true=>
 rw [c0]at h0;have c0:=Qmo c0;cases c1:ptW w.hx w.hy w.hz with
 |false=>
  rw [c1]at h1;have c1:=Qjq c1;have e:Qbe l=false:=hbad (by unfold WdOk;omega);repeat (first|simp -implicitDefEqProofs only [go_sem,seval,hA',n0,hg,e,Int.toNat_natCast,List.length_map,Bool.not_true,Bool.not_false,decide_true]|(with_reducible refine Qaa h0 ?_ ?_ ?_);rfl;rfl|(with_reducible refine Qaa h1 ?_ ?_ ?_);rfl;rfl)
 |true=>
 rw [c1]at h1;have c1:=Qmo c1;by_cases c2:w.hx<w.lx
 ·have c2':=eq_true c2;have e:Qbe l=false:=hbad (by unfold WdOk;omega);repeat (first|simp -implicitDefEqProofs only [go_sem,seval,hA',n0,hg,e,Int.toNat_natCast,List.length_map,Bool.not_true,decide_true,c2']|(with_reducible refine Qaa h0 ?_ ?_ ?_);rfl;rfl|(with_reducible refine Qaa h1 ?_ ?_ ?_);rfl;rfl)
 have c2':=eq_false c2;by_cases c3:w.hy<w.ly
 ·have c3':=eq_true c3;have e:Qbe l=false:=hbad (by unfold WdOk;omega);repeat (first|simp -implicitDefEqProofs only [go_sem,seval,hA',n0,hg,e,Int.toNat_natCast,List.length_map,Bool.not_true,decide_true,decide_false,c2',c3']|(with_reducible refine Qaa h0 ?_ ?_ ?_);rfl;rfl|(with_reducible refine Qaa h1 ?_ ?_ ?_);rfl;rfl)
 have c3':=eq_false c3;by_cases c4:w.hz<w.lz
 ·have c4':=eq_true c4;have e:Qbe l=false:=hbad (by unfold WdOk;omega);repeat (first|simp -implicitDefEqProofs only [go_sem,seval,hA',n0,hg,e,Int.toNat_natCast,List.length_map,Bool.not_true,decide_true,decide_false,c2',c3',c4']|(with_reducible refine Qaa h0 ?_ ?_ ?_);rfl;rfl|(with_reducible refine Qaa h1 ?_ ?_ ?_);rfl;rfl)
 have c4':=eq_false c4;by_cases c5:w.f<0
 ·have c5':=eq_true c5;have e:Qbe l=false:=hbad (by unfold WdOk;omega);repeat (first|simp -implicitDefEqProofs only [go_sem,seval,hA',n0,hg,e,Int.toNat_natCast,List.length_map,Bool.not_true,decide_true,decide_false,c2',c3',c4',c5']|(with_reducible refine Qaa h0 ?_ ?_ ?_);rfl;rfl|(with_reducible refine Qaa h1 ?_ ?_ ?_);rfl;rfl)
 have c5':=eq_false c5;by_cases c6:w.t≤w.f
 ·have c6':=eq_true c6;have e:Qbe l=false:=hbad (by unfold WdOk;omega);repeat (first|simp -implicitDefEqProofs only [go_sem,seval,hA',n0,hg,e,Int.toNat_natCast,List.length_map,Bool.not_true,decide_true,decide_false,c2',c3',c4',c5',c6']|(with_reducible refine Qaa h0 ?_ ?_ ?_);rfl;rfl|(with_reducible refine Qaa h1 ?_ ?_ ?_);rfl;rfl)
 have c6':=eq_false c6;by_cases c7:3600000<w.t
 ·have c7':=eq_true c7;have e:Qbe l=false:=hbad (by unfold WdOk;omega);repeat (first|simp -implicitDefEqProofs only [go_sem,seval,hA',n0,hg,e,Int.toNat_natCast,List.length_map,Bool.not_true,decide_true,decide_false,c2',c3',c4',c5',c6',c7']|(with_reducible refine Qaa h0 ?_ ?_ ?_);rfl;rfl|(with_reducible refine Qaa h1 ?_ ?_ ?_);rfl;rfl)
 have c7':=eq_false c7;cases c8:uB w.ux with
 |false=>
  rw [c8]at h8;have c8:=Qrw c8;have e:Qbe l=false:=hbad (by unfold WdOk;omega);repeat (first|simp -implicitDefEqProofs only [go_sem,seval,hA',n0,hg,e,Int.toNat_natCast,List.length_map,Bool.not_true,Bool.not_false,decide_true,decide_false,c2',c3',c4',c5',c6',c7']|(with_reducible refine Qaa h0 ?_ ?_ ?_);rfl;rfl|(with_reducible refine Qaa h1 ?_ ?_ ?_);rfl;rfl|(with_reducible refine Qaa h8 ?_ ?_ ?_);rfl;rfl)
 |true=>
 rw [c8]at h8;have c8:=Qwi c8;cases c9:uB w.uy with
 |false=>
  rw [c9]at h9;have c9:=Qrw c9;have e:Qbe l=false:=hbad (by unfold WdOk;omega);repeat (first|simp -implicitDefEqProofs only [go_sem,seval,hA',n0,hg,e,Int.toNat_natCast,List.length_map,Bool.not_true,Bool.not_false,decide_true,decide_false,c2',c3',c4',c5',c6',c7']|(with_reducible refine Qaa h0 ?_ ?_ ?_);rfl;rfl|(with_reducible refine Qaa h1 ?_ ?_ ?_);rfl;rfl|(with_reducible refine Qaa h8 ?_ ?_ ?_);rfl;rfl|(with_reducible refine Qaa h9 ?_ ?_ ?_);rfl;rfl)
 |true=>
 rw [c9]at h9;have c9:=Qwi c9;cases c10:uB w.uz with
 |false=>
  rw [c10]at h10;have c10:=Qrw c10;have e:Qbe l=false:=hbad (by unfold WdOk;omega);repeat (first|simp -implicitDefEqProofs only [go_sem,seval,hA',n0,hg,e,Int.toNat_natCast,List.length_map,Bool.not_true,Bool.not_false,decide_true,decide_false,c2',c3',c4',c5',c6',c7']|(with_reducible refine Qaa h0 ?_ ?_ ?_);rfl;rfl|(with_reducible refine Qaa h1 ?_ ?_ ?_);rfl;rfl|(with_reducible refine Qaa h8 ?_ ?_ ?_);rfl;rfl|(with_reducible refine Qaa h9 ?_ ?_ ?_);rfl;rfl|(with_reducible refine Qaa h10 ?_ ?_ ?_);rfl;rfl)
 |true=>
 rw [c10]at h10;have c10:=Qwi c10;have e:=hok (Q6q (by unfold WdOk;omega));repeat (first|simp -implicitDefEqProofs only [go_sem,seval,hA',n0,hg,hwk,Int.toNat_natCast,List.length_map,Bool.not_true,decide_true,decide_false,c2',c3',c4',c5',c6',c7']|(with_reducible refine Qaa h0 ?_ ?_ ?_);rfl;rfl|(with_reducible refine Qaa h1 ?_ ?_ ?_);rfl;rfl|(with_reducible refine Qaa h8 ?_ ?_ ?_);rfl;rfl|(with_reducible refine Qaa h9 ?_ ?_ ?_);rfl;rfl|(with_reducible refine Qaa h10 ?_ ?_ ?_);rfl;rfl)
 refine⟨⟨i+1,hA,e⟩,by simp only;omega,Qa5 ?_⟩;simp [Qae,lkp,ren1,ren0,Qan,wsPV]
end Go.Proofs.YtcaffiaempefjaaGreatDoor
