/-
  QF4, QF5, QF6, QF7 (merged for the claim).
-/
import Derived.Test.YtdpajapkhembcaaGreatDoorQF3
set_option linter.unusedSimpArgs false
set_option linter.unusedVariables false
namespace Go.Proofs.YtdpajapkhembcaaGreatDoor
open Go.Vl Go.RowKit Go.Dg
def mvV (m:Mv):PV:= .agg [.int .i64 m.to.x,.int .i64 m.to.y,.int .i64 m.to.z,.int .i64 m.w,.int .i64 m.f,.int .i64 m.r]
theorem Zzi:Qci Tryz.prog 69=some [1,1,1]:=by kernel_rfl
theorem Z3r (n m:Int):Qaf Tryz.prog 111 [.int .i64 n,.int .i64 m] (.bool (decide (0≤n)&&decide (n≤m))):=by
 by_cases h:0≤n
 ·have h':(0≤n)=True:=eq_true h;refine Qab (tb:=[]) 12 [.tmp 4] [0,1,4] mixed Tryz.func111 rfl (by kernel_rfl) ?_;repeat simp -implicitDefEqProofs only [go_sem,seval,h',decide_true,Bool.true_and]
 ·have h':(0≤n)=False:=eq_false h;refine Qab (tb:=[]) 12 [.tmp 4] [0,1,4] mixed Tryz.func111 rfl (by kernel_rfl) ?_;repeat simp -implicitDefEqProofs only [go_sem,seval,h',decide_false,Bool.false_and]
theorem Qpw (n:Int):Qaf Tryz.prog 89 [.int .i64 n] (.bool (tB n)):=by
 have h:=Z3r n 3600000;unfold tB;refine Qab (tb:=[]) 5 [.tmp 2] [0,2] mixed Tryz.func89 rfl (by kernel_rfl) ?_;repeat (first|simp -implicitDefEqProofs only [go_sem,seval]|(with_reducible refine Qaa h ?_ ?_ ?_);rfl;rfl)
theorem Qy0 (v:V3) (r:Int) (hv:ptB v=true) (hr:tB r=true):Qaf Tryz.prog 112 [v3PV v,.int .i64 r] (.bool (hiB v r)):=by
 have i:=Qka.1 hv;have j:=Qe5.1 hr;have h:=Qfx (up v r);have w:IntKind.i64.wrap (v.z+r)=v.z+r:=Qag (by omega) (by omega);unfold hiB up;unfold v3PV up at h;unfold v3PV;refine Qab (tb:=[]) 12 [.tmp 4] [0,1,2,4] mixed Tryz.func112 rfl (by kernel_rfl) ?_;repeat (first|simp -implicitDefEqProofs only [go_sem,seval,w]|(with_reducible refine Qaa h ?_ ?_ ?_);rfl;rfl)
theorem Z3s {a b:V3} (h:a≠b):(a.x==b.x&&(a.y==b.y&&a.z==b.z))=false:=by
 cases e:(a.x==b.x&&(a.y==b.y&&a.z==b.z))with
 |false=>rfl
 |true=>
  simp only [Bool.and_eq_true,beq_iff_eq]at e;exact absurd (by cases a;cases b;simp_all) h
set_option maxRecDepth 100000 in
set_option maxHeartbeats 4000000 in
theorem Zf2 (v:V3) (m:Mv) (len:Int) (hv:ptB v=true):Qaf Tryz.prog 90 [v3PV v,mvV m,.int .i64 len] (.bool (mvB v m len)):=by
 have h1:=Qfx m.to;have h2:=Qpw m.w;have h3:=Qpw m.f;have h4:=Qpw m.r;unfold mvB;unfold v3PV at h1 ⊢;unfold mvV;cases e1:ptB m.to with
 |false=>
  rw [e1]at h1;refine Qab (tb:=[]) 72 [.tmp 6] [0,1,2,3,4,6,37,38,51] mixed Tryz.func90 rfl (by kernel_rfl) ?_;repeat (first|simp -implicitDefEqProofs only [go_sem,seval,Bool.not_false,Bool.false_and]|(with_reducible refine Qaa h1 ?_ ?_ ?_);rfl;rfl)
 |true=>
 rw [e1]at h1;cases e2:tB m.w with
 |false=>
  rw [e2]at h2;refine Qab (tb:=[]) 72 [.tmp 6] [0,1,2,3,4,6,37,38,51] mixed Tryz.func90 rfl (by kernel_rfl) ?_;repeat (first|simp -implicitDefEqProofs only [go_sem,seval,Bool.not_false,Bool.not_true,Bool.false_and,Bool.true_and]|(with_reducible refine Qaa h1 ?_ ?_ ?_);rfl;rfl|(with_reducible refine Qaa h2 ?_ ?_ ?_);rfl;rfl)
 |true=>
 rw [e2]at h2;cases e3:tB m.f with
 |false=>
  rw [e3]at h3;refine Qab (tb:=[]) 72 [.tmp 6] [0,1,2,3,4,6,37,38,51] mixed Tryz.func90 rfl (by kernel_rfl) ?_;repeat (first|simp -implicitDefEqProofs only [go_sem,seval,Bool.not_false,Bool.not_true,Bool.false_and,Bool.true_and]|(with_reducible refine Qaa h1 ?_ ?_ ?_);rfl;rfl|(with_reducible refine Qaa h2 ?_ ?_ ?_);rfl;rfl|(with_reducible refine Qaa h3 ?_ ?_ ?_);rfl;rfl)
 |true=>
 rw [e3]at h3;cases e4:tB m.r with
 |false=>
  rw [e4]at h4;refine Qab (tb:=[]) 72 [.tmp 6] [0,1,2,3,4,6,37,38,51] mixed Tryz.func90 rfl (by kernel_rfl) ?_;repeat (first|simp -implicitDefEqProofs only [go_sem,seval,Bool.not_false,Bool.not_true,Bool.false_and,Bool.true_and]|(with_reducible refine Qaa h1 ?_ ?_ ?_);rfl;rfl|(with_reducible refine Qaa h2 ?_ ?_ ?_);rfl;rfl|(with_reducible refine Qaa h3 ?_ ?_ ?_);rfl;rfl|(with_reducible refine Qaa h4 ?_ ?_ ?_);rfl;rfl)
 |true=>
 rw [e4]at h4;have t2:=Qe5.1 e2;have t3:=Qe5.1 e3;have w:IntKind.i64.wrap (m.w+m.f)=m.w+m.f:=Qag (by omega) (by omega);by_cases e5:m.w+m.f≤len
 case neg=>
  have e5':(len<m.w+m.f)=True:=eq_true (by omega);rw [decide_eq_false e5];refine Qab (tb:=[]) 72 [.tmp 6] [0,1,2,3,4,6,37,38,51] mixed Tryz.func90 rfl (by kernel_rfl) ?_;repeat (first|simp -implicitDefEqProofs only [go_sem,seval,w,e5',decide_true,Bool.not_true,Bool.false_and,Bool.true_and]|(with_reducible refine Qaa h1 ?_ ?_ ?_);rfl;rfl|(with_reducible refine Qaa h2 ?_ ?_ ?_);rfl;rfl|(with_reducible refine Qaa h3 ?_ ?_ ?_);rfl;rfl|(with_reducible refine Qaa h4 ?_ ?_ ?_);rfl;rfl)
 have e5':(len<m.w+m.f)=False:=eq_false (by omega);rw [decide_eq_true e5];by_cases e6:m.f=0
 ·have e6':(m.f==0)=true:=by simp [e6]
  rw [if_pos e6];by_cases e7:m.to=v
  ·rw [decide_eq_true e7];rw [←e7];have e8:(m.r==0)=decide (m.r=0):=rfl;refine Qab (tb:=[]) 72 [.tmp 6] [0,1,2,3,4,6,37,38,51] mixed Tryz.func90 rfl (by kernel_rfl) ?_;repeat (first|simp -implicitDefEqProofs only [go_sem,seval,Zzi,w,e5',e6',e8,decide_false,Bool.not_true,Bool.true_and,beq_self_eq_true]|(with_reducible refine Qaa h1 ?_ ?_ ?_);rfl;rfl|(with_reducible refine Qaa h2 ?_ ?_ ?_);rfl;rfl|(with_reducible refine Qaa h3 ?_ ?_ ?_);rfl;rfl|(with_reducible refine Qaa h4 ?_ ?_ ?_);rfl;rfl)
  ·rw [decide_eq_false e7];have e8:=Z3s e7;refine Qab (tb:=[]) 72 [.tmp 6] [0,1,2,3,4,6,37,38,51] mixed Tryz.func90 rfl (by kernel_rfl) ?_;repeat (first|simp -implicitDefEqProofs only [go_sem,seval,Zzi,w,e5',e6',e8,decide_false,Bool.not_true,Bool.true_and,Bool.false_and]|(with_reducible refine Qaa h1 ?_ ?_ ?_);rfl;rfl|(with_reducible refine Qaa h2 ?_ ?_ ?_);rfl;rfl|(with_reducible refine Qaa h3 ?_ ?_ ?_);rfl;rfl|(with_reducible refine Qaa h4 ?_ ?_ ?_);rfl;rfl)
 ·have e6':(m.f==0)=false:=by simp [e6]
  rw [if_neg e6];by_cases e7:0<m.r
  ·have e7':(0<m.r)=True:=eq_true e7;rw [if_pos e7];have hm:m.f.tmod 4=m.f%4:=Int.tmod_eq_emod_of_nonneg (by omega);have h5:=Qy0 v m.r hv e4;have h6:=Qy0 m.to m.r e1 e4;unfold v3PV at h5 h6;by_cases e8:m.f%4=0
   ·have e8':(m.f%4==0)=true:=by simp [e8]
    rw [decide_eq_true e8];cases e9:hiB v m.r with
    |false=>
     rw [e9]at h5;refine Qab (tb:=[]) 72 [.tmp 6] [0,1,2,3,4,6,37,38,51] mixed Tryz.func90 rfl (by kernel_rfl) ?_;repeat (first|simp -implicitDefEqProofs only [go_sem,seval,w,e5',e6',e7',hm,e8',decide_false,decide_true,Bool.not_true,Bool.true_and,Bool.false_and]|(with_reducible refine Qaa h1 ?_ ?_ ?_);rfl;rfl|(with_reducible refine Qaa h2 ?_ ?_ ?_);rfl;rfl|(with_reducible refine Qaa h3 ?_ ?_ ?_);rfl;rfl|(with_reducible refine Qaa h4 ?_ ?_ ?_);rfl;rfl|(with_reducible refine Qaa h5 ?_ ?_ ?_);rfl;rfl)
    |true=>
     rw [e9]at h5;refine Qab (tb:=[]) 72 [.tmp 6] [0,1,2,3,4,6,37,38,51] mixed Tryz.func90 rfl (by kernel_rfl) ?_;repeat (first|simp -implicitDefEqProofs only [go_sem,seval,w,e5',e6',e7',hm,e8',decide_false,decide_true,Bool.not_true,Bool.true_and]|(with_reducible refine Qaa h1 ?_ ?_ ?_);rfl;rfl|(with_reducible refine Qaa h2 ?_ ?_ ?_);rfl;rfl|(with_reducible refine Qaa h3 ?_ ?_ ?_);rfl;rfl|(with_reducible refine Qaa h4 ?_ ?_ ?_);rfl;rfl|(with_reducible refine Qaa h5 ?_ ?_ ?_);rfl;rfl|(with_reducible refine Qaa h6 ?_ ?_ ?_);rfl;rfl)
   ·have e8':(m.f%4==0)=false:=by simp [e8]
    rw [decide_eq_false e8];refine Qab (tb:=[]) 72 [.tmp 6] [0,1,2,3,4,6,37,38,51] mixed Tryz.func90 rfl (by kernel_rfl) ?_;repeat (first|simp -implicitDefEqProofs only [go_sem,seval,w,e5',e6',e7',hm,e8',decide_false,decide_true,Bool.not_true,Bool.true_and,Bool.false_and]|(with_reducible refine Qaa h1 ?_ ?_ ?_);rfl;rfl|(with_reducible refine Qaa h2 ?_ ?_ ?_);rfl;rfl|(with_reducible refine Qaa h3 ?_ ?_ ?_);rfl;rfl|(with_reducible refine Qaa h4 ?_ ?_ ?_);rfl;rfl)
  ·have e7':(0<m.r)=False:=eq_false e7;rw [if_neg e7];refine Qab (tb:=[]) 72 [.tmp 6] [0,1,2,3,4,6,37,38,51] mixed Tryz.func90 rfl (by kernel_rfl) ?_;repeat (first|simp -implicitDefEqProofs only [go_sem,seval,w,e5',e6',e7',decide_false,Bool.not_true,Bool.true_and]|(with_reducible refine Qaa h1 ?_ ?_ ?_);rfl;rfl|(with_reducible refine Qaa h2 ?_ ?_ ?_);rfl;rfl|(with_reducible refine Qaa h3 ?_ ?_ ?_);rfl;rfl|(with_reducible refine Qaa h4 ?_ ?_ ?_);rfl;rfl)
theorem Q6x (v:V3) (f t:Int):Qct Tryz.prog 113 [v3PV v,.int .i64 f,.int .i64 t,.bp 1000000 1 0 0] [(1000000,{els:=[.nilS],esz:=1,ety:=94,fro:=0,live:=true,arr:=false})] (.tup [])
  [(1000000,{els:=[.bs 7 6 0 (Qc6 v f t).length],esz:=1,ety:=94,fro:=0,live:=true,arr:=false}),(7,{els:=(Qc6 v f t).map sgV,esz:=6,ety:=121,fro:=0,live:=true,arr:=true})]:=by
 have h:=Q6q v f t;have hl:=Qcl v v f t 0;have k1:((Qc6 v f t).length*96≤140737488355328)=True:=eq_true (by unfold Qc6;omega);have k2:((Qc6 v f t).length≤maxLen)=True:=eq_true (by unfold Qc6 maxLen;omega);have k3:=Q6v (Qc6 v f t);have e:flyL v v f t 0=Qc6 v f t:=rfl;rw [e]at h;unfold pV v3PV at h;unfold v3PV;generalize Qc6 v f t=S at*;refine Qbp (tb:=[]) 19 [] [0,1,2,3,4,7] mixed Tryz.func113 rfl (by kernel_rfl) (by kernel_rfl) (by kernel_rfl) (by kernel_rfl) (by rfl) ?_;repeat (first|simp -implicitDefEqProofs only [go_sem,seval,k1,k2,k3,List.length_map]|(with_reducible refine Qaa h ?_ ?_ ?_);rfl;rfl)
 refine Qa7 (.inr rfl) ?_;simp -implicitDefEqProofs only [go_sem];refine Qaj (θ:=[(1000000,1000000),(7,202)]) rfl ?_ ?_
 ·simp [Qae,lkp,ren1,ren0,Qai]
 ·exact⟨⟨rfl,rfl,rfl,rfl,rfl,.inr ⟨rfl,_,_,rfl,rfl,rfl,rfl⟩⟩,⟨rfl,rfl,rfl,rfl,rfl,.inl ⟨rfl,rfl⟩⟩,trivial⟩
theorem Zzj (v:V3) (f t:Int) (L:List Sg) (hL:L.length≤1000):Qct Tryz.prog 113 [v3PV v,.int .i64 f,.int .i64 t,.bp 1000000 1 0 0] [(1000000,{els:=[.bs 1000001 6 0 L.length],esz:=1,ety:=94,fro:=0,live:=true,arr:=false}),(1000001,{els:=L.map sgV,esz:=6,ety:=121,fro:=0,live:=true,arr:=true})] (.tup [])
  [(1000000,{els:=[.bs 8 6 0 (L++Qc6 v f t).length],esz:=1,ety:=94,fro:=0,live:=true,arr:=false}),(1000001,{els:=[],esz:=6,ety:=121,fro:=0,live:=false,arr:=true}),(8,{els:=(L++Qc6 v f t).map sgV,esz:=6,ety:=121,fro:=0,live:=true,arr:=true})]:=by
 have h:=Q6q v f t;have hl:=Qcl v v f t 0;have k1:((L.length+(Qc6 v f t).length)*96≤140737488355328)=True:=eq_true (by unfold Qc6;omega);have k2:(L.length+(Qc6 v f t).length≤maxLen)=True:=eq_true (by unfold Qc6 maxLen;omega);have k3:=Q6v (Qc6 v f t);have k4:=Qtl L;have e:flyL v v f t 0=Qc6 v f t:=rfl;rw [e]at h;unfold pV v3PV at h;unfold v3PV;rw [List.length_append,List.map_append];generalize Qc6 v f t=S at*;refine Qbp (tb:=[]) 19 [] [0,1,2,3,4,7] mixed Tryz.func113 rfl (by kernel_rfl) (by kernel_rfl) (by kernel_rfl) (by kernel_rfl) (by rfl) ?_;repeat (first|simp -implicitDefEqProofs only [go_sem,seval,k1,k2,k3,k4,List.length_map]|(with_reducible refine Qaa h ?_ ?_ ?_);rfl;rfl)
 refine Qa7 (.inr rfl) ?_;simp -implicitDefEqProofs only [go_sem];refine Qaj (θ:=[(1000000,1000000),(1000001,1000001),(8,202)]) rfl ?_ ?_
 ·simp [Qae,lkp,ren1,ren0,Qai]
 ·exact⟨⟨rfl,rfl,rfl,rfl,rfl,.inr ⟨rfl,_,_,rfl,rfl,rfl,rfl⟩⟩,⟨rfl,rfl,rfl,rfl,rfl,.inl ⟨rfl,rfl⟩⟩,⟨rfl,rfl,rfl,rfl,rfl,.inl ⟨rfl,rfl⟩⟩,trivial⟩
theorem Q6y {v:V3} {m:Mv} {len:Int} (h:mvB v m len=true):ptB m.to=true∧tB m.w=true∧tB m.f=true∧tB m.r=true∧m.w+m.f≤len∧(m.f=0→m.to=v∧m.r=0)∧(m.f≠0→0<m.r→m.f%4=0∧hiB v m.r=true∧hiB m.to m.r=true):=by
 unfold mvB at h;simp only [Bool.and_eq_true,decide_eq_true_eq]at h;obtain⟨h1,h2,h3,h4,h5,h6⟩:=h;refine⟨h1,h2,h3,h4,h5,fun e=> ?_,fun e e2=> ?_⟩
 ·rw [if_pos e]at h6;simpa using h6
 ·rw [if_neg e,if_pos e2]at h6;simpa using h6
set_option maxRecDepth 100000 in
set_option maxHeartbeats 4000000 in
theorem Zzk (v:V3) (m:Mv) (at_ len:Int) (hv:ptB v=true) (hm:mvB v m len=true) (h0:0≤at_) (h1:at_+len≤3600000):Qaf Tryz.prog 91 [v3PV v,mvV m,.int .i64 at_,.int .i64 len] (pV (mvL v m at_ len)):=by
 obtain⟨p1,p2,p3,p4,p5,p6,p7⟩:=Q6y hm;have t2:=Qe5.1 p2;have t3:=Qe5.1 p3;have t4:=Qe5.1 p4;have w1:IntKind.i64.wrap (at_+m.w)=at_+m.w:=Qag (by omega) (by omega);have w2:IntKind.i64.wrap (at_+m.w+m.f)=at_+m.w+m.f:=Qag (by omega) (by omega);have w3:IntKind.i64.wrap (at_+len)=at_+len:=Qag (by omega) (by omega);have bl7:Nat.blt 7 1000000=true:=rfl;have bl8:Nat.blt 8 1000000=true:=rfl;have okl: ∀L:List Sg,(((L.map sgV).flatMap PV.cells).all PV.okCell)=true:=Qtl;unfold pV mvL;by_cases e0:m.f=0
 ·have e0':(m.f==0)=true:=by simp [e0]
  rw [if_pos e0];have s1:=Q6x v at_ (at_+len);have hl:=Qcl v v at_ (at_+len) 0;have htk:((Qc6 v at_ (at_+len)).map sgV).take (Qc6 v at_ (at_+len)).length=(Qc6 v at_ (at_+len)).map sgV:=List.take_of_length_le (by simp);have hlm:((Qc6 v at_ (at_+len)).map sgV).length=(Qc6 v at_ (at_+len)).length:=List.length_map _;generalize Qc6 v at_ (at_+len)=S at*;unfold v3PV at s1 ⊢;unfold mvV;have hle:(S.length≤(S.map sgV).length)=True:=eq_true (by simp)

  refine Qab (tb:=[(506,[(1000000,2)],[(7,7)]),(704,[(1000000,2)],[(7,7)]),(1207,[(1000000,2),(1000001,1102)],[(8,8)])]) 74 [.cell 8 94] [0,1,2,3,4,5,8,9,10,11,12,25,50] mixed Tryz.func91 rfl (by kernel_rfl) ?_;repeat (first|simp -implicitDefEqProofs only [go_sem,seval,w1,w2,w3,e0',bl7,htk,hle]|(with_reducible refine Qa4 s1 ?_ ?_ ?_ ?_);rfl;rfl;rfl)
 ·have e0':(m.f==0)=false:=by simp [e0]
  rw [if_neg e0];have s1:=Q6x v at_ (at_+m.w);have g1:=Zsf v m.to (at_+m.w) (at_+m.w+m.f);have hl1:(Qc6 v at_ (at_+m.w)).length≤1:=Qcl _ _ _ _ _;have hl2:(midL v m (at_+m.w) (at_+m.w+m.f)).length≤3:=by
   unfold midL;split
   ·simp [arc3]
   ·exact Nat.le_trans (Qcl _ _ _ _ _) (by decide)
  have s3:=Zzj m.to (at_+m.w+m.f) (at_+len) (Qc6 v at_ (at_+m.w)++midL v m (at_+m.w) (at_+m.w+m.f)) (by rw [List.length_append];omega);have hl3:(Qc6 m.to (at_+m.w+m.f) (at_+len)).length≤1:=Qcl _ _ _ _ _;have hA:0<m.r→Qaf Tryz.prog 116 [v3PV v,v3PV m.to,.int .i64 m.r,.int .i64 (at_+m.w),.int .i64 (at_+m.w+m.f)] (.tup [pV (midL v m (at_+m.w) (at_+m.w+m.f)),.int .i64 0]):=by
   intro hr;obtain⟨q1,q2,q3⟩:=p7 e0 hr;have e:midL v m (at_+m.w) (at_+m.w+m.f)=arc3 v m.to m.r (at_+m.w) (at_+m.w+m.f):=if_pos hr;rw [e];refine Z3q v m.to m.r _ _ ?_ (by omega) t4 q2 q3;unfold Qo0 tmB;rw [hv,p1];simp only [Bool.true_and,Bool.and_eq_true,decide_eq_true_eq];omega
  have hG: ¬0<m.r→flyL v m.to (at_+m.w) (at_+m.w+m.f) 2=midL v m (at_+m.w) (at_+m.w+m.f):=fun hr=>(if_neg hr).symm;generalize flyL v m.to (at_+m.w) (at_+m.w+m.f) 2=G0 at*;generalize flyE v m.to (at_+m.w) (at_+m.w+m.f)=E0 at*;generalize Qc6 v at_ (at_+m.w)=S at*;generalize midL v m (at_+m.w) (at_+m.w+m.f)=M at*;generalize Qc6 m.to (at_+m.w+m.f) (at_+len)=Z at*;simp only [List.length_append,List.map_append]at s3;have k1:((S.length+M.length)*96≤140737488355328)=True:=eq_true (by omega);have k2:(S.length+M.length≤maxLen)=True:=eq_true (by unfold maxLen;omega);have k3:=Q6v M;have k4:=Qtl S;have k5:(S.length+M.length+Z.length≤(S.map sgV++M.map sgV++Z.map sgV).length)=True:=eq_true (by simp;omega);have k6:(S.map sgV++M.map sgV++Z.map sgV).take (S.length+M.length+Z.length)=S.map sgV++M.map sgV++Z.map sgV:=List.take_of_length_le (by simp;omega);have k7:(S.map sgV).length=S.length:=List.length_map _;have k8:(M.map sgV).length=M.length:=List.length_map _;unfold pV at g1 hA;unfold v3PV at s1 s3 g1 hA ⊢;unfold mvV;rw [List.map_append,List.map_append];by_cases hr:0<m.r
  ·have hr':(0<m.r)=True:=eq_true hr;have a1:=hA hr;generalize S.map sgV=SV at*;generalize M.map sgV=MV at*;generalize Z.map sgV=ZV at*

   refine Qab (tb:=[(506,[(1000000,2)],[(7,7)]),(704,[(1000000,2)],[(7,7)]),(1207,[(1000000,2),(1000001,1102)],[(8,8)])]) 74 [.cell 8 94] [0,1,2,3,4,5,8,9,10,11,12,25,50] mixed Tryz.func91 rfl (by kernel_rfl) ?_;repeat (first|simp -implicitDefEqProofs only [go_sem,seval,w1,w2,w3,e0',hr',bl7,bl8,k1,k2,k3,k4,k5,k6,k7,k8]|(with_reducible refine Qa4 s1 ?_ ?_ ?_ ?_);rfl;rfl;rfl|(with_reducible refine Qaa g1 ?_ ?_ ?_);rfl;rfl|(with_reducible refine Qaa a1 ?_ ?_ ?_);rfl;rfl|(with_reducible refine Qa4 s3 ?_ ?_ ?_ ?_);rfl;rfl;rfl)
  ·have hr':(0<m.r)=False:=eq_false hr;rw [hG hr]at g1;generalize S.map sgV=SV at*;generalize M.map sgV=MV at*;generalize Z.map sgV=ZV at*

   refine Qab (tb:=[(506,[(1000000,2)],[(7,7)]),(704,[(1000000,2)],[(7,7)]),(1207,[(1000000,2),(1000001,1102)],[(8,8)])]) 74 [.cell 8 94] [0,1,2,3,4,5,8,9,10,11,12,25,50] mixed Tryz.func91 rfl (by kernel_rfl) ?_;repeat (first|simp -implicitDefEqProofs only [go_sem,seval,w1,w2,w3,e0',hr',bl7,bl8,k1,k2,k3,k4,k5,k6,k7,k8]|(with_reducible refine Qa4 s1 ?_ ?_ ?_ ?_);rfl;rfl;rfl|(with_reducible refine Qaa g1 ?_ ?_ ?_);rfl;rfl|(with_reducible refine Qa4 s3 ?_ ?_ ?_ ?_);rfl;rfl;rfl)
set_option maxRecDepth 100000 in
set_option maxHeartbeats 4000000 in
theorem Zsl (v:V3) (m:Mv) (at_ len:Int):Qaf Tryz.prog 67 [v3PV v,mvV m,.int .i64 at_,.int .i64 len] (.tup [pV (mvP v m at_ len),.int .i64 (mvE v m at_ len)]):=by
 have h1:=Qfx v;have h2:=Qpw len;have h3:=Qpw at_;have bad: ¬(ptB v=true∧1≤len∧len≤3600000∧tB at_=true∧mvB v m len=true)→(.tup [pV (mvP v m at_ len),.int .i64 (mvE v m at_ len)]:PV)= .tup [.slc [],.int .i64 2]:=by
  intro hc;have e:mvE v m at_ len=2:=if_neg hc;unfold mvP;rw [e];rfl
 have hE:mvE v m at_ len=if ptB v=true∧1≤len∧len≤3600000∧tB at_=true∧mvB v m len=true then(if at_+len≤3600000 then 0 else 3)else 2:=rfl;cases e1:ptB v with
 |false=>
  rw [bad (by rw [e1];simp)];rw [e1]at h1;unfold v3PV at h1 ⊢;unfold mvV;refine Qab (tb:=[]) 46 [.tmp 8,.tmp 9] [0,1,2,3,4,5,8,9,10,35] mixed Tryz.func67 rfl (by kernel_rfl) ?_;repeat (first|simp -implicitDefEqProofs only [go_sem,seval,Bool.not_false]|(with_reducible refine Qaa h1 ?_ ?_ ?_);rfl;rfl)
 |true=>
 by_cases e2:1≤len
 case neg=>
  rw [bad (by omega)];rw [e1]at h1;have e2':(len<1)=True:=eq_true (by omega);unfold v3PV at h1 ⊢;unfold mvV;refine Qab (tb:=[]) 46 [.tmp 8,.tmp 9] [0,1,2,3,4,5,8,9,10,35] mixed Tryz.func67 rfl (by kernel_rfl) ?_;repeat (first|simp -implicitDefEqProofs only [go_sem,seval,Bool.not_true,e2',decide_true]|(with_reducible refine Qaa h1 ?_ ?_ ?_);rfl;rfl)
 have e2':(len<1)=False:=eq_false (by omega);cases e3:tB len with
 |false=>
  rw [bad (by intro h;have:tB len=true:=Qe5.2 (by omega);rw [e3]at this;cases this)];rw [e1]at h1;rw [e3]at h2;unfold v3PV at h1 ⊢;unfold mvV;refine Qab (tb:=[]) 46 [.tmp 8,.tmp 9] [0,1,2,3,4,5,8,9,10,35] mixed Tryz.func67 rfl (by kernel_rfl) ?_;repeat (first|simp -implicitDefEqProofs only [go_sem,seval,Bool.not_true,Bool.not_false,e2',decide_false]|(with_reducible refine Qaa h1 ?_ ?_ ?_);rfl;rfl|(with_reducible refine Qaa h2 ?_ ?_ ?_);rfl;rfl)
 |true=>
 have t3:=Qe5.1 e3;cases e4:tB at_ with
 |false=>
  rw [bad (by rw [e4];simp)];rw [e1]at h1;rw [e3]at h2;rw [e4]at h3;unfold v3PV at h1 ⊢;unfold mvV;refine Qab (tb:=[]) 46 [.tmp 8,.tmp 9] [0,1,2,3,4,5,8,9,10,35] mixed Tryz.func67 rfl (by kernel_rfl) ?_;repeat (first|simp -implicitDefEqProofs only [go_sem,seval,Bool.not_true,Bool.not_false,e2',decide_false]|(with_reducible refine Qaa h1 ?_ ?_ ?_);rfl;rfl|(with_reducible refine Qaa h2 ?_ ?_ ?_);rfl;rfl|(with_reducible refine Qaa h3 ?_ ?_ ?_);rfl;rfl)
 |true=>
 have t4:=Qe5.1 e4;have h4:=Zf2 v m len e1;cases e5:mvB v m len with
 |false=>
  rw [bad (by rw [e5];simp)];rw [e1]at h1;rw [e3]at h2;rw [e4]at h3;rw [e5]at h4;unfold v3PV at h1 h4 ⊢;unfold mvV at h4 ⊢;refine Qab (tb:=[]) 46 [.tmp 8,.tmp 9] [0,1,2,3,4,5,8,9,10,35] mixed Tryz.func67 rfl (by kernel_rfl) ?_;repeat (first|simp -implicitDefEqProofs only [go_sem,seval,Bool.not_true,Bool.not_false,e2',decide_false]|(with_reducible refine Qaa h1 ?_ ?_ ?_);rfl;rfl|(with_reducible refine Qaa h2 ?_ ?_ ?_);rfl;rfl|(with_reducible refine Qaa h3 ?_ ?_ ?_);rfl;rfl|(with_reducible refine Qaa h4 ?_ ?_ ?_);rfl;rfl)
 |true=>
 have hE2:mvE v m at_ len=if at_+len≤3600000 then 0 else 3:=by rw [hE,if_pos ⟨e1,e2,t3.2,e4,e5⟩]
 have h5:=Qpw (at_+len);have w:IntKind.i64.wrap (at_+len)=at_+len:=Qag (by omega) (by omega);by_cases e6:at_+len≤3600000
 ·rw [if_pos e6]at hE2;have h6:=Zzk v m at_ len e1 e5 t4.1 e6;have hP:mvP v m at_ len=mvL v m at_ len:=if_pos hE2;rw [hP,hE2];have e7:tB (at_+len)=true:=Qe5.2 (by omega);rw [e1]at h1;rw [e3]at h2;rw [e4]at h3;rw [e5]at h4;rw [e7]at h5;generalize mvL v m at_ len=S at*;unfold pV at h6 ⊢;unfold v3PV at h1 h4 h6 ⊢;unfold mvV at h4 h6 ⊢;refine Qab (tb:=[]) 46 [.tmp 8,.tmp 9] [0,1,2,3,4,5,8,9,10,35] mixed Tryz.func67 rfl (by kernel_rfl) ?_;repeat (first|simp -implicitDefEqProofs only [go_sem,seval,Bool.not_true,e2',w,decide_false]|(with_reducible refine Qaa h1 ?_ ?_ ?_);rfl;rfl|(with_reducible refine Qaa h2 ?_ ?_ ?_);rfl;rfl|(with_reducible refine Qaa h3 ?_ ?_ ?_);rfl;rfl|(with_reducible refine Qaa h4 ?_ ?_ ?_);rfl;rfl|(with_reducible refine Qaa h5 ?_ ?_ ?_);rfl;rfl|(with_reducible refine Qaa h6 ?_ ?_ ?_);rfl;rfl)
 ·rw [if_neg e6]at hE2;have hP:mvP v m at_ len=[]:=if_neg (by rw [hE2];decide);rw [hP,hE2];have e7:tB (at_+len)=false:=by
   cases h:tB (at_+len)with
   |false=>rfl
   |true=>have:=Qe5.1 h;omega
  rw [e1]at h1;rw [e3]at h2;rw [e4]at h3;rw [e5]at h4;rw [e7]at h5;unfold pV;unfold v3PV at h1 h4 ⊢;unfold mvV at h4 ⊢;refine Qab (tb:=[]) 46 [.tmp 8,.tmp 9] [0,1,2,3,4,5,8,9,10,35] mixed Tryz.func67 rfl (by kernel_rfl) ?_;repeat (first|simp -implicitDefEqProofs only [go_sem,seval,Bool.not_true,Bool.not_false,e2',w,decide_false,List.map_nil]|(with_reducible refine Qaa h1 ?_ ?_ ?_);rfl;rfl|(with_reducible refine Qaa h2 ?_ ?_ ?_);rfl;rfl|(with_reducible refine Qaa h3 ?_ ?_ ?_);rfl;rfl|(with_reducible refine Qaa h4 ?_ ?_ ?_);rfl;rfl|(with_reducible refine Qaa h5 ?_ ?_ ?_);rfl;rfl)
theorem Zsm {s:ByteArray} {i:Nat} (h:i<s.size):s[i]? =some (UInt8.ofNat (bAt s i))∧bAt s i<256:=by
 have hl:i<s.data.toList.length:=by simpa using h
 have e:bAt s i=(s.data.toList[i]'hl).toNat:=by unfold bAt;rw [List.getD_eq_getElem?_getD,List.getElem?_eq_getElem hl];rfl
 refine⟨?_,by rw [e];exact UInt8.toNat_lt _⟩;rw [e,UInt8.ofNat_toNat];rw [getElem?_pos s i h];congr 1
theorem Zf3 {n:Nat} (h:n<256):(UInt8.ofNat n).toNat=n:=by simp [UInt8.toNat_ofNat];omega
set_option maxRecDepth 100000 in
set_option maxHeartbeats 4000000 in
theorem Zqe (s:ByteArray) (hs:s.size≤9223372036854775806):Qaf Tryz.prog 56 [.str s] (.bool (Qvn s)):=by
 have fin:Qvn s=(Qiw s s.size&&(decide (1≤s.size)&&decide (s.size≤32))):=rfl;refine Qab (tb:=[]) 56 [.tmp 2] [0,2,3,4,6,7,8,13,28] mixed Tryz.func56 rfl (by kernel_rfl) ?_;repeat simp -implicitDefEqProofs only [go_sem,seval]
 refine Qau mixed (fun k:{k:Nat // k≤s.size∧Qiw s k=true}=>St.of [(0,.str s),(2,.bool false),(6,.int .i64 (s.size:Int)),(7,.int .i64 (k.1:Int))] []) (fun k=>s.size-k.1) ⟨0,Nat.zero_le _,rfl⟩ ?_ ?_
 ·exact Qax (by simp [Qae,lkp,ren1,ren0,Qai])
 ·rintro⟨k,hk,hall⟩;simp only;by_cases hA:k<s.size
  ·have hA':=lt_T hA;have n0:=nn_T k;obtain⟨hg,hc⟩:=Zsm hA;have hu:=Zf3 hc;have hwk:=wr_1 (n:=k) (by omega);have hnx:=Qmw s k;rw [hall,Bool.true_and]at hnx;have hno:chB k (bAt s k)=false→Qvn s=false:=fun h=>by
    rw [fin,Q45 (by rw [hnx];exact h:Qiw s (k+1)=false) hA];rfl
   generalize bAt s k=c at*;have hcl:(0≤c∧c≤44)∨(c=45)∨(46≤c∧c≤47)∨(48≤c∧c≤57)∨(58≤c∧c≤64)∨(65≤c∧c≤90)∨(91≤c∧c≤94)∨(c=95)∨(c=96)∨(97≤c∧c≤122)∨(123≤c∧c≤255):=by omega
   rcases hcl with h|h|h|h|h|h|h|h|h|h|h
   ·have a1:(97≤(c:Int))=False:=eq_false (by omega);have a2:((c:Int)≤122)=True:=eq_true (by omega);have a3:(65≤(c:Int))=False:=eq_false (by omega);have a4:((c:Int)≤90)=True:=eq_true (by omega);have a5:(48≤(c:Int))=False:=eq_false (by omega);have a6:((c:Int)≤57)=True:=eq_true (by omega);have a7:((c:Int)==45)=false:=by simp;omega
    have a8:((c:Int)==95)=false:=by simp;omega
    by_cases h0:0<k
    ·have z:((0:Int)<(k:Int))=True:=eq_true (by omega);rw [hno (by simp [chB];omega)];repeat simp -implicitDefEqProofs only [go_sem,seval,hA',n0,hg,hu,Int.toNat_natCast,a1,a3,a5,a7,a8,z,decide_true,decide_false]
    ·have z:((0:Int)<(k:Int))=False:=eq_false (by omega);rw [hno (by simp [chB];omega)];repeat simp -implicitDefEqProofs only [go_sem,seval,hA',n0,hg,hu,Int.toNat_natCast,a1,a3,z,decide_true,decide_false]
   ·have a1:(97≤(c:Int))=False:=eq_false (by omega);have a2:((c:Int)≤122)=True:=eq_true (by omega);have a3:(65≤(c:Int))=False:=eq_false (by omega);have a4:((c:Int)≤90)=True:=eq_true (by omega);have a5:(48≤(c:Int))=False:=eq_false (by omega);have a6:((c:Int)≤57)=True:=eq_true (by omega);have a7:((c:Int)==45)=true:=by simp;omega
    have a8:((c:Int)==95)=false:=by simp;omega
    by_cases h0:0<k
    ·have z:((0:Int)<(k:Int))=True:=eq_true (by omega);repeat simp -implicitDefEqProofs only [go_sem,seval,hA',n0,hg,hu,hwk,Int.toNat_natCast,a1,a3,a5,a7,z,decide_true,decide_false]
     refine⟨⟨k+1,hA,?_⟩,by simp only;omega,?_⟩
     ·rw [hnx];simp [chB];omega
     ·exact Qax (by simp [Qae,lkp,ren1,ren0,Qai])
    ·have z:((0:Int)<(k:Int))=False:=eq_false (by omega);rw [hno (by simp [chB];omega)];repeat simp -implicitDefEqProofs only [go_sem,seval,hA',n0,hg,hu,Int.toNat_natCast,a1,a3,z,decide_true,decide_false]
   ·have a1:(97≤(c:Int))=False:=eq_false (by omega);have a2:((c:Int)≤122)=True:=eq_true (by omega);have a3:(65≤(c:Int))=False:=eq_false (by omega);have a4:((c:Int)≤90)=True:=eq_true (by omega);have a5:(48≤(c:Int))=False:=eq_false (by omega);have a6:((c:Int)≤57)=True:=eq_true (by omega);have a7:((c:Int)==45)=false:=by simp;omega
    have a8:((c:Int)==95)=false:=by simp;omega
    by_cases h0:0<k
    ·have z:((0:Int)<(k:Int))=True:=eq_true (by omega);rw [hno (by simp [chB];omega)];repeat simp -implicitDefEqProofs only [go_sem,seval,hA',n0,hg,hu,Int.toNat_natCast,a1,a3,a5,a7,a8,z,decide_true,decide_false]
    ·have z:((0:Int)<(k:Int))=False:=eq_false (by omega);rw [hno (by simp [chB];omega)];repeat simp -implicitDefEqProofs only [go_sem,seval,hA',n0,hg,hu,Int.toNat_natCast,a1,a3,z,decide_true,decide_false]
   ·have a1:(97≤(c:Int))=False:=eq_false (by omega);have a2:((c:Int)≤122)=True:=eq_true (by omega);have a3:(65≤(c:Int))=False:=eq_false (by omega);have a4:((c:Int)≤90)=True:=eq_true (by omega);have a5:(48≤(c:Int))=True:=eq_true (by omega);have a6:((c:Int)≤57)=True:=eq_true (by omega);have a7:((c:Int)==45)=false:=by simp;omega
    have a8:((c:Int)==95)=false:=by simp;omega
    by_cases h0:0<k
    ·have z:((0:Int)<(k:Int))=True:=eq_true (by omega);repeat simp -implicitDefEqProofs only [go_sem,seval,hA',n0,hg,hu,hwk,Int.toNat_natCast,a1,a3,a5,a6,z,decide_true,decide_false]
     refine⟨⟨k+1,hA,?_⟩,by simp only;omega,?_⟩
     ·rw [hnx];simp [chB];omega
     ·exact Qax (by simp [Qae,lkp,ren1,ren0,Qai])
    ·have z:((0:Int)<(k:Int))=False:=eq_false (by omega);rw [hno (by simp [chB];omega)];repeat simp -implicitDefEqProofs only [go_sem,seval,hA',n0,hg,hu,Int.toNat_natCast,a1,a3,z,decide_true,decide_false]
   ·have a1:(97≤(c:Int))=False:=eq_false (by omega);have a2:((c:Int)≤122)=True:=eq_true (by omega);have a3:(65≤(c:Int))=False:=eq_false (by omega);have a4:((c:Int)≤90)=True:=eq_true (by omega);have a5:(48≤(c:Int))=True:=eq_true (by omega);have a6:((c:Int)≤57)=False:=eq_false (by omega);have a7:((c:Int)==45)=false:=by simp;omega
    have a8:((c:Int)==95)=false:=by simp;omega
    by_cases h0:0<k
    ·have z:((0:Int)<(k:Int))=True:=eq_true (by omega);rw [hno (by simp [chB];omega)];repeat simp -implicitDefEqProofs only [go_sem,seval,hA',n0,hg,hu,Int.toNat_natCast,a1,a3,a5,a6,a7,a8,z,decide_true,decide_false]
    ·have z:((0:Int)<(k:Int))=False:=eq_false (by omega);rw [hno (by simp [chB];omega)];repeat simp -implicitDefEqProofs only [go_sem,seval,hA',n0,hg,hu,Int.toNat_natCast,a1,a3,z,decide_true,decide_false]
   ·have a1:(97≤(c:Int))=False:=eq_false (by omega);have a2:((c:Int)≤122)=True:=eq_true (by omega);have a3:(65≤(c:Int))=True:=eq_true (by omega);have a4:((c:Int)≤90)=True:=eq_true (by omega);have a5:(48≤(c:Int))=True:=eq_true (by omega);have a6:((c:Int)≤57)=False:=eq_false (by omega);have a7:((c:Int)==45)=false:=by simp;omega
    have a8:((c:Int)==95)=false:=by simp;omega
    repeat simp -implicitDefEqProofs only [go_sem,seval,hA',n0,hg,hu,hwk,Int.toNat_natCast,a1,a3,a4,decide_true,decide_false]
    refine⟨⟨k+1,hA,?_⟩,by simp only;omega,?_⟩
    ·rw [hnx];simp [chB];omega
    ·exact Qax (by simp [Qae,lkp,ren1,ren0,Qai])
   ·have a1:(97≤(c:Int))=False:=eq_false (by omega);have a2:((c:Int)≤122)=True:=eq_true (by omega);have a3:(65≤(c:Int))=True:=eq_true (by omega);have a4:((c:Int)≤90)=False:=eq_false (by omega);have a5:(48≤(c:Int))=True:=eq_true (by omega);have a6:((c:Int)≤57)=False:=eq_false (by omega);have a7:((c:Int)==45)=false:=by simp;omega
    have a8:((c:Int)==95)=false:=by simp;omega
    by_cases h0:0<k
    ·have z:((0:Int)<(k:Int))=True:=eq_true (by omega);rw [hno (by simp [chB];omega)];repeat simp -implicitDefEqProofs only [go_sem,seval,hA',n0,hg,hu,Int.toNat_natCast,a1,a3,a4,a5,a6,a7,a8,z,decide_true,decide_false]
    ·have z:((0:Int)<(k:Int))=False:=eq_false (by omega);rw [hno (by simp [chB];omega)];repeat simp -implicitDefEqProofs only [go_sem,seval,hA',n0,hg,hu,Int.toNat_natCast,a1,a3,a4,z,decide_true,decide_false]
   ·have a1:(97≤(c:Int))=False:=eq_false (by omega);have a2:((c:Int)≤122)=True:=eq_true (by omega);have a3:(65≤(c:Int))=True:=eq_true (by omega);have a4:((c:Int)≤90)=False:=eq_false (by omega);have a5:(48≤(c:Int))=True:=eq_true (by omega);have a6:((c:Int)≤57)=False:=eq_false (by omega);have a7:((c:Int)==45)=false:=by simp;omega
    have a8:((c:Int)==95)=true:=by simp;omega
    by_cases h0:0<k
    ·have z:((0:Int)<(k:Int))=True:=eq_true (by omega);repeat simp -implicitDefEqProofs only [go_sem,seval,hA',n0,hg,hu,hwk,Int.toNat_natCast,a1,a3,a4,a5,a6,a7,a8,z,decide_true,decide_false]
     refine⟨⟨k+1,hA,?_⟩,by simp only;omega,?_⟩
     ·rw [hnx];simp [chB];omega
     ·exact Qax (by simp [Qae,lkp,ren1,ren0,Qai])
    ·have z:((0:Int)<(k:Int))=False:=eq_false (by omega);rw [hno (by simp [chB];omega)];repeat simp -implicitDefEqProofs only [go_sem,seval,hA',n0,hg,hu,Int.toNat_natCast,a1,a3,a4,z,decide_true,decide_false]
   ·have a1:(97≤(c:Int))=False:=eq_false (by omega);have a2:((c:Int)≤122)=True:=eq_true (by omega);have a3:(65≤(c:Int))=True:=eq_true (by omega);have a4:((c:Int)≤90)=False:=eq_false (by omega);have a5:(48≤(c:Int))=True:=eq_true (by omega);have a6:((c:Int)≤57)=False:=eq_false (by omega);have a7:((c:Int)==45)=false:=by simp;omega
    have a8:((c:Int)==95)=false:=by simp;omega
    by_cases h0:0<k
    ·have z:((0:Int)<(k:Int))=True:=eq_true (by omega);rw [hno (by simp [chB];omega)];repeat simp -implicitDefEqProofs only [go_sem,seval,hA',n0,hg,hu,Int.toNat_natCast,a1,a3,a4,a5,a6,a7,a8,z,decide_true,decide_false]
    ·have z:((0:Int)<(k:Int))=False:=eq_false (by omega);rw [hno (by simp [chB];omega)];repeat simp -implicitDefEqProofs only [go_sem,seval,hA',n0,hg,hu,Int.toNat_natCast,a1,a3,a4,z,decide_true,decide_false]
   ·have a1:(97≤(c:Int))=True:=eq_true (by omega);have a2:((c:Int)≤122)=True:=eq_true (by omega);have a3:(65≤(c:Int))=True:=eq_true (by omega);have a4:((c:Int)≤90)=False:=eq_false (by omega);have a5:(48≤(c:Int))=True:=eq_true (by omega);have a6:((c:Int)≤57)=False:=eq_false (by omega);have a7:((c:Int)==45)=false:=by simp;omega
    have a8:((c:Int)==95)=false:=by simp;omega
    repeat simp -implicitDefEqProofs only [go_sem,seval,hA',n0,hg,hu,hwk,Int.toNat_natCast,a1,a2,decide_true]
    refine⟨⟨k+1,hA,?_⟩,by simp only;omega,?_⟩
    ·rw [hnx];simp [chB];omega
    ·exact Qax (by simp [Qae,lkp,ren1,ren0,Qai])
   ·have a1:(97≤(c:Int))=True:=eq_true (by omega);have a2:((c:Int)≤122)=False:=eq_false (by omega);have a3:(65≤(c:Int))=True:=eq_true (by omega);have a4:((c:Int)≤90)=False:=eq_false (by omega);have a5:(48≤(c:Int))=True:=eq_true (by omega);have a6:((c:Int)≤57)=False:=eq_false (by omega);have a7:((c:Int)==45)=false:=by simp;omega
    have a8:((c:Int)==95)=false:=by simp;omega
    by_cases h0:0<k
    ·have z:((0:Int)<(k:Int))=True:=eq_true (by omega);rw [hno (by simp [chB];omega)];repeat simp -implicitDefEqProofs only [go_sem,seval,hA',n0,hg,hu,Int.toNat_natCast,a1,a2,a3,a4,a5,a6,a7,a8,z,decide_true,decide_false]
    ·have z:((0:Int)<(k:Int))=False:=eq_false (by omega);rw [hno (by simp [chB];omega)];repeat simp -implicitDefEqProofs only [go_sem,seval,hA',n0,hg,hu,Int.toNat_natCast,a1,a2,a3,a4,z,decide_true,decide_false]
  ·have hA':=lt_F hA;obtain rfl:k=s.size:=by omega
   rw [fin,hall,Bool.true_and];by_cases h1:1≤s.size
   ·have h1':((1:Int)≤(s.size:Int))=True:=eq_true (by omega);by_cases h2:s.size≤32
    ·have h2':((s.size:Int)≤32)=True:=eq_true (by omega);rw [decide_eq_true h1,decide_eq_true h2];repeat simp -implicitDefEqProofs only [go_sem,seval,hA',h1',h2',decide_true,Bool.and_self]
    ·have h2':((s.size:Int)≤32)=False:=eq_false (by omega);rw [decide_eq_true h1,decide_eq_false h2];repeat simp -implicitDefEqProofs only [go_sem,seval,hA',h1',h2',decide_true,decide_false,Bool.and_false]
   ·have h1':((1:Int)≤(s.size:Int))=False:=eq_false (by omega);rw [decide_eq_false h1];repeat simp -implicitDefEqProofs only [go_sem,seval,hA',h1',decide_false,Bool.false_and]
def acV (a:Ac):PV:= .agg [.str a.nm,.int .i64 a.ln,.slc (a.mv.map mvV)]
def pgV (p:Pg):PV:= .agg [.slc (p.ns.map PV.str),.slc (p.hs.map v3PV),.slc (p.as_.map acV)]
theorem T_n1:Qru Tryz.prog 126=some (9,4):=by kernel_rfl
theorem T_n2:Q3i Tryz.prog 9=some [2]:=by kernel_rfl
theorem T_n3:Qbb Tryz.prog 9=false:=by kernel_rfl
theorem T_n4:Qar Tryz.prog 4=some (.bool false):=by kernel_rfl
theorem T_p1:Qru Tryz.prog 127=some (69,4):=by kernel_rfl
theorem T_p2:Q3i Tryz.prog 69=some [1,1,1]:=by kernel_rfl
theorem T_p3:Qbb Tryz.prog 69=true:=by kernel_rfl
theorem Zqf {p:Pg} {i:Nat} (h:i<p.ns.length):(p.ns.map PV.str)[i]? =some (.str (nmAt p i)):=by
 unfold nmAt;rw [List.getElem?_map,List.getElem?_eq_getElem h,List.getD_eq_getElem?_getD,List.getElem?_eq_getElem h];rfl
theorem Zzl {p:Pg} {i:Nat} (h:i<p.hs.length):(p.hs.map v3PV)[i]? =some (.agg [.int .i64 (hmAt p i).x,.int .i64 (hmAt p i).y,.int .i64 (hmAt p i).z]):=Qtk p.hs i h
theorem Zsn {p:Pg} {i:Nat} (h:i<p.ns.length):p.ns.take (i+1)=p.ns.take i++[nmAt p i]:=by
 rw [Qkh _ _ h];unfold nmAt;rw [List.getD_eq_getElem?_getD,List.getElem?_eq_getElem h];rfl
theorem Zso {p:Pg} {i:Nat} (h:i<p.hs.length):p.hs.take (i+1)=p.hs.take i++[hmAt p i]:=by
 rw [Qkh _ _ h];unfold hmAt;rw [List.getD_eq_getElem?_getD,List.getElem?_eq_getElem h];rfl
def okPg (p:Pg):Prop:= ∀i,(nmAt p i).size≤9223372036854775806
set_option maxRecDepth 100000 in
set_option maxHeartbeats 4000000 in
theorem Zzm (p:Pg) (hp:okPg p) (hn:p.ns.length≤maxLen):Qaf Tryz.prog 55 [pgV p] (.bool (Qqu p)):=by
 have hm:p.ns.length≤9223372036854775807:=by unfold maxLen at hn;exact hn
 unfold Qqu;by_cases e1:1≤p.ns.length
 case neg=>
  have e1':((p.ns.length:Int)<1)=True:=eq_true (by omega);rw [decide_eq_false e1];refine Qab (tb:=[]) 71 [.tmp 2] [0,1,2,3,4,5,6,7,23,27,28,29,30,59] mixed Tryz.func55 rfl (by kernel_rfl) ?_;repeat simp -implicitDefEqProofs only [go_sem,seval,pgV,e1',decide_true,List.length_map,Bool.false_and]
 have e1':((p.ns.length:Int)<1)=False:=eq_false (by omega);by_cases e2:p.ns.length≤64
 case neg=>
  have e2':((64:Int)<(p.ns.length:Int))=True:=eq_true (by omega);rw [decide_eq_false e2];refine Qab (tb:=[]) 71 [.tmp 2] [0,1,2,3,4,5,6,7,23,27,28,29,30,59] mixed Tryz.func55 rfl (by kernel_rfl) ?_;repeat simp -implicitDefEqProofs only [go_sem,seval,pgV,e1',e2',decide_true,decide_false,List.length_map,Bool.false_and,Bool.and_false]
 have e2':((64:Int)<(p.ns.length:Int))=False:=eq_false (by omega);by_cases e3:p.hs.length=p.ns.length
 case neg=>
  have e3':((p.hs.length:Int) != (p.ns.length:Int))=true:=by simp;omega
  rw [decide_eq_false e3];refine Qab (tb:=[]) 71 [.tmp 2] [0,1,2,3,4,5,6,7,23,27,28,29,30,59] mixed Tryz.func55 rfl (by kernel_rfl) ?_;repeat simp -implicitDefEqProofs only [go_sem,seval,pgV,e1',e2',e3',decide_true,decide_false,List.length_map,Bool.false_and,Bool.and_false]
 have e3':((p.hs.length:Int) != (p.ns.length:Int))=false:=by simp;omega
 rw [decide_eq_true e1,decide_eq_true e2,decide_eq_true e3,Bool.true_and,Bool.true_and,Bool.true_and];refine Qab (tb:=[]) 71 [.tmp 2] [0,1,2,3,4,5,6,7,23,27,28,29,30,59] mixed Tryz.func55 rfl (by kernel_rfl) ?_;repeat simp -implicitDefEqProofs only [go_sem,seval,T_n1,T_p1,pgV,e1',e2',e3',decide_true,decide_false,List.length_map]
 refine Qau mixed (fun k:{k:Nat // k≤p.ns.length∧Qix p k=true}=>St.of [(1,.bp 0 3 0 0),(2,.bool false),(3,.int .i64 (p.ns.length:Int)),(4,.mp 400),(5,.mp 401),(27,.slc (p.ns.map PV.str)),(28,.int .i64 (p.ns.length:Int)),(29,.int .i64 (k.1:Int))]
  [(0,{els:=[pgV p],esz:=3,ety:=26,fro:=0,live:=true,arr:=false}),(400,{els:=[],esz:=1,ety:=126,fro:=0,live:=true,arr:=true,mp:=some (Qiy (p.ns.take k.1))}),(401,{els:=[],esz:=1,ety:=127,fro:=0,live:=true,arr:=true,mp:=some (Qdu (p.hs.take k.1))})]) (fun k=>p.ns.length-k.1) ⟨0,Nat.zero_le _,rfl⟩ ?_ ?_
 ·refine Qaj (θ:=[(0,0),(400,400),(401,401)]) rfl ?_ ?_
  ·simp [Qae,lkp,ren1,ren0,Qai,pgV]
  ·exact⟨⟨rfl,rfl,rfl,rfl,rfl,.inr ⟨rfl,_,_,rfl,rfl,rfl,rfl⟩⟩,⟨rfl,rfl,rfl,rfl,rfl,.inl ⟨rfl,rfl⟩⟩,⟨rfl,rfl,rfl,rfl,rfl,.inl ⟨rfl,rfl⟩⟩,trivial⟩
 ·rintro⟨k,hk,hall⟩;simp only;by_cases hA:k<p.ns.length
  ·have hA':=lt_T hA;have n0:=nn_T k;have hB:k<p.hs.length:=by omega
   have g1:=Zqf hA;have g2:=Zzl hB;have hwk:=wr_1 (n:=k) (by omega);have hnx:=Qmx p k;rw [hall,Bool.true_and]at hnx;unfold Q46 at hnx;have hno: ∀b,Qix p (k+1)=b→b=false→Qix p p.ns.length=false:=fun b h e=>Q47 (h.trans e) hA;have c1:=Zqe (nmAt p k) (hp k);have c2:=Qfx (hmAt p k);have sN:=Zsn hA;have sP:=Zso hB;have hN:=Qvo (p.ns.take k) (nmAt p k);have hP:=Qs0 (p.hs.take k) (hmAt p k);rw [←sN]at hN;rw [←sP]at hP;cases b1:Qvn (nmAt p k)with
   |false=>
    rw [b1]at c1 hnx;rw [hno _ hnx rfl];generalize nmAt p k=s at*;repeat (first|simp -implicitDefEqProofs only [go_sem,seval,T_n3,hA',n0,g1,Int.toNat_natCast,Bool.not_false,pgV]|(with_reducible refine Qaa c1 ?_ ?_ ?_);rfl;rfl)
   |true=>
   rw [b1,Bool.true_and]at hnx;rw [b1]at c1;cases b2:memN (nmAt p k) (p.ns.take k)with
   |true=>
    rw [b2]at hnx;rw [hno _ hnx rfl];have f1:=Qqv b2;generalize nmAt p k=s at*;repeat (first|simp -implicitDefEqProofs only [go_sem,seval,T_n1,T_n2,T_n3,T_n4,hA',n0,g1,f1,Int.toNat_natCast,Bool.not_true,pgV]|(with_reducible refine Qaa c1 ?_ ?_ ?_);rfl;rfl)
   |false=>
   have f1:=Qsz b2;rw [b2,Bool.not_false,Bool.true_and]at hnx;cases b3:ptB (hmAt p k)with
   |false=>
    rw [b3]at hnx c2;rw [hno _ hnx rfl];generalize nmAt p k=s at*;generalize hmAt p k=v at*;unfold v3PV at c2;repeat (first|simp -implicitDefEqProofs only [go_sem,seval,T_n1,T_n2,T_n3,T_n4,T_p3,hA',n0,g1,g2,f1,Int.toNat_natCast,Bool.not_true,Bool.not_false,pgV]|(with_reducible refine Qaa c1 ?_ ?_ ?_);rfl;rfl|(with_reducible refine Qaa c2 ?_ ?_ ?_);rfl;rfl)
   |true=>
   rw [b3]at c2;rw [b3,Bool.true_and]at hnx;cases b4:memP (hmAt p k) (p.hs.take k)with
   |true=>
    rw [b4]at hnx;rw [hno _ hnx rfl];have f2:=Qo1 b4;generalize nmAt p k=s at*;generalize hmAt p k=v at*;unfold v3PV at c2;repeat (first|simp -implicitDefEqProofs only [go_sem,seval,T_n1,T_n2,T_n3,T_n4,T_p1,T_p2,T_p3,hA',n0,g1,g2,f1,f2,Int.toNat_natCast,Bool.not_true,pgV]|(with_reducible refine Qaa c1 ?_ ?_ ?_);rfl;rfl|(with_reducible refine Qaa c2 ?_ ?_ ?_);rfl;rfl)
   |false=>
    have f2:=Qqw b4;rw [b4]at hnx;have hln:((Qdu (p.hs.take k)).length:Int)<(((Qdu (p.hs.take k))++[((.agg [.int .i64 (hmAt p k).x,.int .i64 (hmAt p k).y,.int .i64 (hmAt p k).z]:PV),(.bool false:PV))]).length:Int):=by simp;omega
    have hln':=eq_true hln;have n1:=nn_T (Qdu (p.hs.take k)).length;generalize nmAt p k=s at*;generalize hmAt p k=v at*;generalize hTN:Qiy (p.ns.take k)=TN at*;generalize hTP:Qdu (p.hs.take k)=TP at*;unfold v3PV at c2;repeat (first|simp -implicitDefEqProofs only [go_sem,seval,T_n1,T_n2,T_n3,T_n4,T_p1,T_p2,T_p3,hA',n0,n1,g1,g2,f1,f2,hwk,hln',Int.toNat_natCast,Bool.not_true,pgV]|(with_reducible refine Qaa c1 ?_ ?_ ?_);rfl;rfl|(with_reducible refine Qaa c2 ?_ ?_ ?_);rfl;rfl)
    refine⟨⟨k+1,hA,hnx⟩,by simp only;omega,?_⟩;simp only [←hN,←hP];refine Qaj (θ:=[(0,0),(400,400),(401,401)]) rfl ?_ ?_
    ·simp [Qae,lkp,ren1,ren0,Qai,pgV]
    ·exact⟨⟨rfl,rfl,rfl,rfl,rfl,.inr ⟨rfl,_,_,rfl,rfl,rfl,rfl⟩⟩,⟨rfl,rfl,rfl,rfl,rfl,.inl ⟨rfl,rfl⟩⟩,⟨rfl,rfl,rfl,rfl,rfl,.inl ⟨rfl,rfl⟩⟩,trivial⟩
  ·have hA':=lt_F hA;obtain rfl:k=p.ns.length:=by omega
   rw [hall];repeat simp -implicitDefEqProofs only [go_sem,seval,hA']
theorem Zzn (l:List V3):((l.map v3PV).all fun e=>e.cells.length==3&&e.cells.all PV.okCell)=true:=by
 rw [List.all_map,List.all_eq_true];intro _ _;rfl
theorem Zqg (l:List V3):(((l.map v3PV).flatMap PV.cells).all PV.okCell)=true:=by
 rw [List.all_flatMap,List.all_map,List.all_eq_true];intro _ _;rfl
theorem Zf4 (l:List V3) (hl:l≠ []) (hl2:l.length≤100000):Qaf Tryz.prog 88 [psV l] (psV l):=by
 have h0:(l.map v3PV).isEmpty=false:=by cases l with|nil=>exact absurd rfl hl|cons=>rfl
 have h1:(l.length*24≤140737488355328)=True:=eq_true (by omega);have h2:(l.length≤maxLen)=True:=eq_true (by unfold maxLen;omega);have h3:(l.map v3PV).take l.length=l.map v3PV:=List.take_of_length_le (by simp);have h4:=Zqg l;have h5:=Zzn l;unfold psV;refine Qab (tb:=[]) 8 [.tmp 2] [0,2,4] mixed Tryz.func88 rfl (by kernel_rfl) ?_;repeat simp only [go_sem,seval,h0,List.length_map,h1,h2,h3,h5]
theorem Qtn {p:Pg} {i:Nat} (h:i<p.as_.length):(p.as_.map acV)[i]? =some (.agg [.str (p.as_.getD i ac0).nm,.int .i64 (p.as_.getD i ac0).ln,.slc ((p.as_.getD i ac0).mv.map mvV)]):=by
 rw [List.getElem?_map,List.getElem?_eq_getElem h,List.getD_eq_getElem?_getD,List.getElem?_eq_getElem h];rfl
theorem Zqh {l:List Mv} {i:Nat} (h:i<l.length):(l.map mvV)[i]? =some (.agg [.int .i64 (l.getD i mv0).to.x,.int .i64 (l.getD i mv0).to.y,.int .i64 (l.getD i mv0).to.z,.int .i64 (l.getD i mv0).w,.int .i64 (l.getD i mv0).f,.int .i64 (l.getD i mv0).r]):=by
 rw [List.getElem?_map,List.getElem?_eq_getElem h,List.getD_eq_getElem?_getD,List.getElem?_eq_getElem h];rfl
theorem Zsp {l:List Mv} {i:Nat} (h:i<l.length):((l.take (i+1)).map Mv.to).map v3PV=((l.take i).map Mv.to).map v3PV++[.agg [.int .i64 (l.getD i mv0).to.x,.int .i64 (l.getD i mv0).to.y,.int .i64 (l.getD i mv0).to.z]]:=by
 rw [Qkh _ _ h,List.map_append,List.map_append,List.getD_eq_getElem?_getD,List.getElem?_eq_getElem h];rfl
set_option maxRecDepth 100000 in
set_option maxHeartbeats 2000000 in
theorem Zzo (p:Pg) (k:Nat) (hk:k≤p.as_.length) (h0:p.hs≠ []) (hh:p.hs.length≤100000) (hm: ∀i,(p.as_.getD i ac0).mv.length≤100000) (hl:p.as_.length≤100000):Qaf Tryz.prog 66 [pgV p,.int .i64 (k:Int)] (psV (Qco p k)):=by
 have hc:=Zf4 p.hs h0 hh;unfold psV at hc;cases k with
 |zero=>
  have e:Qco p 0=p.hs:=rfl;have e0:(((0:Nat):Int)==0)=true:=rfl;rw [e];unfold psV pgV;refine Qab (tb:=[]) 32 [.tmp 4] [0,1,2,4,5,7,9,19,20,21,22] mixed Tryz.func66 rfl (by kernel_rfl) ?_;repeat (first|simp only [go_sem,seval,e0]|(with_reducible refine Qaa hc ?_ ?_ ?_);rfl;rfl)
 |succ k=>
  have e:Qco p (k+1)=(p.as_.getD k ac0).mv.map Mv.to:=rfl;have e0:(((k+1:Nat):Int)==0)=false:=by simp;omega
  have wk:IntKind.i64.wrap (((k+1:Nat):Int)-1)=(k:Int):=by rw [Qag (by omega) (by omega)];omega
  have n0:=nn_T k;have ga:=Qtn (p:=p) (i:=k) (by omega);have hml:=hm k;rw [e];generalize p.as_.getD k ac0=a at*;unfold psV pgV;refine Qab (tb:=[]) 32 [.tmp 4] [0,1,2,4,5,7,9,19,20,21,22] mixed Tryz.func66 rfl (by kernel_rfl) ?_;repeat simp only [go_sem,seval,e0,wk,n0,ga,Int.toNat_natCast,List.length_map]
  refine Qau mixed (fun i:{i:Nat // i≤a.mv.length}=>St.of [(5,.bs 7 3 0 i.1),(19,.slc (a.mv.map mvV)),(20,.int .i64 (a.mv.length:Int)),(21,.int .i64 (i.1:Int))]
   [(7,{els:=((a.mv.take i.1).map Mv.to).map v3PV,esz:=3,ety:=69,fro:=0,live:=true,arr:=true})]) (fun i=>a.mv.length-i.1) ⟨0,Nat.zero_le _⟩ ?_ ?_
  ·refine Qow 5 7 3 69 rfl rfl rfl (by decide) [(7,7)] rfl ?_ ?_
   ·simp [Qae,lkp,ren1,ren0,Qai]
   ·exact⟨⟨rfl,rfl,rfl,rfl,rfl,.inl ⟨rfl,rfl⟩⟩,trivial⟩
  ·rintro⟨i,hi⟩;simp only;by_cases hA:i<a.mv.length
   ·have hA':=lt_T hA;have n1:=nn_T i;have gm:=Zqh hA;have hwk:=wr_1 (n:=i) (by omega);have hlt:(((a.mv.take i).map Mv.to).map v3PV).length=i:=by simp;omega
    have hok:=Zqg ((a.mv.take i).map Mv.to);have k1:((i+1)*24≤140737488355328)=True:=eq_true (by omega);have k2:(i+1≤maxLen)=True:=eq_true (by unfold maxLen;omega);have hts:=Zsp hA;generalize ((a.mv.take i).map Mv.to).map v3PV=T at*;generalize a.mv.getD i mv0=m at*;repeat simp only [go_sem,seval,hA',n1,gm,hwk,hlt,hok,k1,k2,Int.toNat_natCast]
    refine⟨⟨i+1,hA⟩,by simp only;omega,Qaj (θ:=[(7,704)]) rfl ?_ ?_⟩
    ·simp [Qae,lkp,ren1,ren0,Qai]
    ·simp only [hts];exact⟨⟨rfl,rfl,rfl,rfl,rfl,.inl ⟨rfl,rfl⟩⟩,trivial⟩
   ·have hA':=lt_F hA;obtain rfl:i=a.mv.length:=by omega
    have ht:a.mv.take a.mv.length=a.mv:=List.take_length;have hlt:((a.mv.map Mv.to).map v3PV).length=a.mv.length:=by simp
    have htk:((a.mv.map Mv.to).map v3PV).take a.mv.length=(a.mv.map Mv.to).map v3PV:=List.take_of_length_le (by simp);simp only [ht];generalize (a.mv.map Mv.to).map v3PV=T at*;repeat simp only [go_sem,seval,hA',hlt,htk]
theorem Q6z (p:Pg) (k:Nat) (t:Int):Qaf Tryz.prog 57 [pgV p,.int .i64 (k:Int),.int .i64 t] (.fn 65 [] [.rp (pgV p).cells,.rp [.int .i64 (k:Int)],.rp [.int .i64 t]]):=by
 unfold pgV;refine Qab (tb:=[]) 8 [.tmp 6] [0,1,2,3,4,5,6] mixed Tryz.func57 rfl (by kernel_rfl) ?_;repeat simp only [go_sem,seval]
def pthO (fr:List V3) (ms:List Mv) (at_ ln:Int) (i:Nat):List PV:=[pV (mvP (fr.getD i v0) (ms.getD i mv0) at_ ln),.int .i64 (mvE (fr.getD i v0) (ms.getD i mv0) at_ ln)]
def Qlr (fr:List V3) (ms:List Mv) (at_ ln:Int):List (List PV):=(List.range fr.length).map (pthO fr ms at_ ln)
theorem Qnh (fr:List V3) (ms:List Mv) (at_ ln:Int):(Qlr fr ms at_ ln).length=fr.length:=by simp [Qlr]
theorem Qni (fr:List V3) (ms:List Mv) (at_ ln:Int) {i:Nat} (h:i<fr.length):(Qlr fr ms at_ ln)[i]? =some (pthO fr ms at_ ln i):=by simp [Qlr,h]
set_option maxRecDepth 100000 in
set_option maxHeartbeats 4000000 in
theorem Qy1 (p:Pg) (k:Nat) (t:Int) (hk:k<p.as_.length) (h0:p.hs≠ []) (hh:p.hs.length≤100000) (hm: ∀i,(p.as_.getD i ac0).mv.length≤100000) (hl:p.as_.length≤100000) (hn:(Qco p k).length≤(p.as_.getD k ac0).mv.length):
  Qj3 Tryz.prog 65 [.rp (pgV p).cells,.rp [.int .i64 (k:Int)],.rp [.int .i64 t]] (Qlr (Qco p k) (p.as_.getD k ac0).mv t (p.as_.getD k ac0).ln):=by
 have hf:=Zzo p k (by omega) h0 hh hm hl;have n0:=nn_T k;have ga:=Qtn hk;have hml:=hm k;have hlO:=Qnh (Qco p k) (p.as_.getD k ac0).mv t (p.as_.getD k ac0).ln;have hgO:=fun i h=>Qni (Qco p k) (p.as_.getD k ac0).mv t (p.as_.getD k ac0).ln (i:=i) h;unfold psV pgV at hf;unfold pgV;simp only [PV.cells];generalize p.as_.getD k ac0=a at*;generalize Qco p k=F at*;generalize hOO:Qlr F a.mv t a.ln=OO at*;refine Qj6 (tb:=[]) 38 [0,1,2,3,5,6,7,15,16,17,18,36] mixed Tryz.func65 rfl (by kernel_rfl) (by kernel_rfl) (by kernel_rfl) (by kernel_rfl) fun l stop=> ?_;repeat (first|simp only [go_sem,seval,n0,ga,Int.toNat_natCast,List.length_map]|(with_reducible refine Qaa hf ?_ ?_ ?_);rfl;rfl)
 refine Qau mixed (fun i:{i:Nat // i≤F.length∧i≤stop}=>St.ofG [(0,.yld l stop),(1,.rp [.slc (p.ns.map PV.str),.slc (p.hs.map v3PV),.slc (p.as_.map acV)]),(2,.rp [.int .i64 (k:Int)]),(3,.rp [.int .i64 t]),(5,.bp 5 3 0 0),(15,.slc (F.map v3PV)),(16,.int .i64 (F.length:Int)),(17,.int .i64 (i.1:Int))]
  [(5,{els:=[.agg [.str a.nm,.int .i64 a.ln,.slc (a.mv.map mvV)]],esz:=3,ety:=65,fro:=0,live:=true,arr:=false})] (OO.take i.1) (some (l,stop,OO))) (fun i=>F.length-i.1) ⟨0,Nat.zero_le _,Nat.zero_le _⟩ ?_ ?_
 ·refine Qaj (θ:=[(5,5)]) rfl ?_ ?_
  ·simp [Qae,lkp,ren1,ren0,Qai]
  ·exact⟨⟨rfl,rfl,rfl,rfl,rfl,.inr ⟨rfl,_,_,rfl,rfl,rfl,rfl⟩⟩,trivial⟩
 ·rintro⟨i,hi,hst⟩;simp only;have hlen:(OO.take i).length=i:=by rw [List.length_take];omega
  by_cases hA:i<F.length
  ·have hA':=lt_T hA;have n1:=nn_T i;have g1:=Qtk F i hA;have g2:=Zqh (l:=a.mv) (i:=i) (by omega);have hwk:=wr_1 (n:=i) (by omega);have hP:=Zsl (F.getD i v0) (a.mv.getD i mv0) t a.ln;have hgt:=hgO i hA;have htk:OO.take (i+1)=OO.take i++[pthO F a.mv t a.ln i]:=by rw [List.take_add_one,hgt];rfl
   unfold pthO at hgt htk;generalize mvP (F.getD i v0) (a.mv.getD i mv0) t a.ln=S at*;generalize mvE (F.getD i v0) (a.mv.getD i mv0) t a.ln=E at*;generalize F.getD i v0=va at*;generalize a.mv.getD i mv0=m at*;unfold v3PV mvV at hP;unfold pV at hP hgt htk;have hst':(i≤stop)=True:=eq_true hst;by_cases hlt:i<stop
   ·have hlt':(i<stop)=True:=eq_true hlt;repeat (first|simp only [go_sem,seval,hA',n1,g1,g2,hwk,hlen,hgt,hst',hlt',Int.toNat_natCast]|(with_reducible refine Qaa hP ?_ ?_ ?_);rfl;rfl|(with_reducible refine And.intro (Qac _ _ (by kernel_rfl)) ?_))
    refine⟨⟨i+1,hA,hlt⟩,by simp only;omega,?_⟩;simp only [htk];refine Qaj (θ:=[(5,5)]) rfl ?_ ?_
    ·simp [Qae,lkp,ren1,ren0,Qai]
    ·exact⟨⟨rfl,rfl,rfl,rfl,rfl,.inr ⟨rfl,_,_,rfl,rfl,rfl,rfl⟩⟩,trivial⟩
   ·have hlt':(i<stop)=False:=eq_false hlt;obtain rfl:i=stop:=by omega
    repeat (first|simp only [go_sem,seval,hA',n1,g1,g2,hlen,hgt,hst',hlt',Qe3,htk,Int.toNat_natCast]|(with_reducible refine Qaa hP ?_ ?_ ?_);rfl;rfl|(with_reducible exact Qac _ _ (by kernel_rfl)))
  ·have hA':=lt_F hA;have e1:OO.take i=OO:=List.take_of_length_le (by omega);have e2:OO.take (stop+1)=OO:=List.take_of_length_le (by omega);rw [e1];repeat simp only [go_sem,seval,hA',Qe3,e2]
end Go.Proofs.YtdpajapkhembcaaGreatDoor
