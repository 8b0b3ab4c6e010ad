/-
  KI6, KB8, KB9, KB10, KB11, KB12, KB14, KM11, KM12 (merged for the claim).
-/
import Derived.Test.YtcaffiaempefjaaGreatDoorKI4
import Derived.Test.YtcaffiaempefjaaGreatDoorKI1
import Derived.Test.YtcaffiaempefjaaGreatDoorDbe
import Derived.Test.YtcaffiaempefjaaGreatDoorKM8
import Derived.Test.YtcaffiaempefjaaGreatDoorDsi
import Derived.Test.YtcaffiaempefjaaGreatDoorKB2
import Derived.Test.YtcaffiaempefjaaGreatDoorKN2
set_option linter.unusedSimpArgs false
set_option linter.unusedVariables false
namespace Go.Proofs.YtcaffiaempefjaaGreatDoor
open Go.Vl Go.RowKit Go.Dg
def posS (s:Sg) (i:Nat):Int:=rnd (exQ [s] s.f i) (exO [s] s.f)
def alV (l:List Wd) (s:Sg):PV:=Q6w l (posS s 0) (posS s 1) (posS s 2) s.f
theorem Qt0 {s:Sg} (h:Qau s=true):Qa7 [s]=true:=by
 unfold Qa7 vpTo;simp [vpAt,h,List.range_succ]
theorem Q6x {s:Sg} (h:Qau s=true):lasts [s] s.f=true:=by
 have:=(Qaq h).1;simp only [lasts,pBeg,pEnd,Bool.and_eq_true,decide_eq_true_eq];simp;omega
theorem Zxa {s:Sg} (hs:okSg s) (h:Qau s=true):Qaf Tryz.prog 76 [.slc [sgPV s],.int .i64 s.f] (.tup [.agg [.int .i64 (posS s 0),.int .i64 (posS s 1),.int .i64 (posS s 2)],.int .i64 0]):=by
 have h1:=Z0d [s] s.f (fun x hx=>by rw [List.mem_singleton.1 hx];exact hs) (by simp) hs.f;unfold atPV at h1;rw [if_pos (Qt0 h),if_pos (Q6x h)]at h1;exact h1
theorem Zfo (p:List Sg) (i:Nat) (h:i<p.length):((p.map sgPV).take (i+1)).drop i=[sgPV p[i]]:=by
 rw [Qbq _ i (by simpa using h),List.drop_append_of_le_length (by simp;omega),List.drop_eq_nil_of_le (by simp;omega)];simp
theorem Q6y (p:List Sg):((p.map sgPV).all fun x=>x.cells.length==6)=true:=by rw [List.all_map,List.all_eq_true];intro _ _;rfl
theorem Zoc (l:List Wd) (T:List Sg):((T.map (alV l)).flatMap PV.cells).all PV.okCell=true:=by
 rw [List.all_eq_true];intro c hc;simp only [List.mem_flatMap,List.mem_map]at hc;obtain⟨_,⟨s,_,rfl⟩,h⟩:=hc;simp only [alV,Q6w,PV.cells,List.mem_cons,List.not_mem_nil,or_false]at h;rcases h with rfl|rfl|rfl<;>rfl
set_option maxHeartbeats 4000000 in
theorem Zq7 (l:List Wd) (p:List Sg) (hp: ∀s∈p,okSg s) (hl:l.length≤maxLen) (hpl:p.length≤1000000):Qaf Tryz.prog 44 [wsPV l,Qbx p] (if Qbe l=true∧Qa7 p=true then .tup [.slc (p.map (alV l)),.int .i64 0]else .tup [.slc [],.int .i64 2]):=by
 have v1:=Qtx l hl;have v2:=Qhh p hp hpl;unfold Qbx at v2 ⊢;cases hv:Qbe l with
 |false=>
  rw [hv]at v1;refine Qab (tb:=[]) 49 [.tmp 4,.tmp 5] [0,1,4,5,6,7,8,9,18,19,20,21,22] mixed Tryz.func44 rfl (by kernel_rfl) ?_;repeat (first|simp -implicitDefEqProofs only [go_sem,seval,Bool.not_false,Bool.false_eq_true,false_and]|(with_reducible refine Qaa v1 ?_ ?_ ?_);rfl;rfl)
 |true=>
 cases hV:Qa7 p with
 |false=>
  rw [hv]at v1;rw [hV]at v2;refine Qab (tb:=[]) 49 [.tmp 4,.tmp 5] [0,1,4,5,6,7,8,9,18,19,20,21,22] mixed Tryz.func44 rfl (by kernel_rfl) ?_;repeat (first|simp -implicitDefEqProofs only [go_sem,seval,Bool.not_false,Bool.not_true,Bool.false_eq_true,and_false]|(with_reducible refine Qaa v1 ?_ ?_ ?_);rfl;rfl|(with_reducible refine Qaa v2 ?_ ?_ ?_);rfl;rfl)
 |true=>
  rw [hv]at v1;rw [hV]at v2;rw [if_pos ⟨rfl,rfl⟩];have h8:=(Qel hv).2;refine Qab (tb:=[]) 49 [.tmp 4,.tmp 5] [0,1,4,5,6,7,8,9,18,19,20,21,22] mixed Tryz.func44 rfl (by kernel_rfl) ?_;repeat (first|simp -implicitDefEqProofs only [go_sem,seval,Bool.not_true,List.length_map]|(with_reducible refine Qaa v1 ?_ ?_ ?_);rfl;rfl|(with_reducible refine Qaa v2 ?_ ?_ ?_);rfl;rfl)
  refine Qat mixed (fun i:{i:Nat // i≤p.length}=>St.of [(0,wsPV l),(1,.slc (p.map sgPV)),(6,.bs 7 3 0 i.1),(19,.slc (p.map sgPV)),(20,.int .i64 (p.length:Int)),(21,.int .i64 (i.1:Int))] [(7,{els:=(p.take i.1).map (alV l),esz:=3,ety:=56,fro:=0,live:=true,arr:=true})]) (fun i=>p.length-i.1) ⟨0,Nat.zero_le _⟩ ?_ ?_
  ·refine Qhu 6 7 3 56 rfl rfl rfl (by decide) [(7,7)] rfl ?_ ?_
   ·simp [Qae,lkp,ren1,ren0,Qan,wsPV]
   ·exact⟨⟨rfl,rfl,rfl,rfl,rfl,.inl ⟨rfl,rfl⟩⟩,trivial⟩
  ·rintro⟨i,hi⟩;simp only;by_cases hA:i<p.length
   ·skip
    have hA':=ltT hA;have n0:=nnT i;have hg:=Qd6 p i hA;have hsl:((p.map sgPV).take (i+1)).drop i=[.agg [.int .i64 p[i].f,.int .i64 p[i].t,.int .i64 p[i].o,.slc (p[i].x.map (PV.int .i64)),.slc (p[i].y.map (PV.int .i64)),.slc (p[i].z.map (PV.int .i64))]]:=Zfo p i hA;have hs:=hp _ (List.getElem_mem hA);have hvs:=Qby hV _ hA;have f1:=Zxa hs hvs;have f2:=Q6v l (posS p[i] 0) (posS p[i] 1) (posS p[i] 2) p[i].f h8;have f3:=Zq6 l (posS p[i] 0) (posS p[i] 1) (posS p[i] 2) p[i].f hv;have hwk:=Qai (a:=i) (by omega);have hsn:(p.take (i+1)).map (alV l)=(p.take i).map (alV l)++[Q6w l (posS p[i] 0) (posS p[i] 1) (posS p[i] 2) p[i].f]:=by rw [Qbq p i hA,List.map_append];rfl
    have hln:((p.take i).map (alV l)).length=i:=by simp;omega
    have hok:=Zoc l (p.take i);have k1:((i+1)*24≤140737488355328)=True:=eq_true (by omega);have k2:(i+1≤maxLen)=True:=eq_true (by unfold maxLen;omega);have k3:((i:Int)≤((i+1:Nat):Int))=True:=eq_true (by omega);have k4:(((i+1:Nat):Int)≤(p.length:Int))=True:=eq_true (by omega);have hall:=Q6y p;generalize hT2:(p.take (i+1)).map (alV l)=T2 at*;generalize (p.take i).map (alV l)=T at*;generalize p[i]=s at*;generalize mask (blW (posS s 0) (posS s 1) (posS s 2) s.f) l=m at*;unfold Q6w at f3 hsn;generalize atW Wd.ux l (posS s 0) (posS s 1) (posS s 2) s.f=u0 at*;generalize atW Wd.uy l (posS s 0) (posS s 1) (posS s 2) s.f=u1 at*;generalize atW Wd.uz l (posS s 0) (posS s 1) (posS s 2) s.f=u2 at*;generalize posS s 0=x0 at*;generalize posS s 1=x1 at*;generalize posS s 2=x2 at*;unfold sgPV Qas at f1;repeat (first|simp -implicitDefEqProofs only [go_sem,seval,hA',n0,hg,hsl,hwk,k3,k4,hall,Int.toNat_natCast,List.length_map]|(with_reducible refine Qaa f1 ?_ ?_ ?_);rfl;rfl|(with_reducible refine And.intro (Qac _ _ (by kernel_rfl)) ?_))
    repeat (first|simp -implicitDefEqProofs only [go_sem,seval,hln,hok,hwk,k1,k2]|(with_reducible refine Qaa f2 ?_ ?_ ?_);rfl;rfl|(with_reducible refine Qaa f3 ?_ ?_ ?_);rfl;rfl)
    refine⟨⟨i+1,hA⟩,by simp only;omega,Qak (θ:=[(7,809)]) rfl ?_ ?_⟩
    ·simp [Qae,lkp,ren1,ren0,Qan,wsPV]
    ·simp only [hT2,hsn];exact⟨⟨rfl,rfl,rfl,rfl,rfl,.inl ⟨rfl,rfl⟩⟩,trivial⟩
   ·have hA':=ltF hA;obtain rfl:i=p.length:=by omega
    have ht:p.take p.length=p:=List.take_length;have ht2:(p.map (alV l)).take p.length=p.map (alV l):=List.take_of_length_le (by simp);have hok:=Zoc l p;rw [ht];have hln:(p.map (alV l)).length=p.length:=by simp
    generalize p.map (alV l)=T at*;repeat simp -implicitDefEqProofs only [go_sem,seval,hA',ht2,hln]
def cstW (l:List Wd) (B:Bat) (s:Sg):Int:=Qf6 s B (atW Wd.ux l (posS s 0) (posS s 1) (posS s 2) s.f) (atW Wd.uy l (posS s 0) (posS s 1) (posS s 2) s.f) (atW Wd.uz l (posS s 0) (posS s 1) (posS s 2) s.f)
def csL (l:List Wd) (B:Bat) (p:List Sg):List Int:=p.map (cstW l B)
theorem Qi7 (l:List Wd) (B:Bat) (p:List Sg):(csL l B p).length=p.length:=by simp [csL]
theorem Zqz (l:List Wd) (B:Bat) (p:List Sg) {i:Nat} (h:i<p.length):(csL l B p).getD i 0=cstW l B p[i]:=by simp [csL,h]
theorem Zw0 {s:Sg} (hv:Qau s=true) {B:Bat} (hB:Qax B=true) {l:List Wd} (hw:Qbe l=true):0≤cstW l B s∧cstW l B s≤400000000000000000:=by
 obtain⟨⟨v1,v2,v3,v4,v5⟩,hax, -⟩:=Qaq hv;exact Qyq (by unfold rngS;simp only [Bool.and_eq_true,decide_eq_true_eq];omega) (hax s.x (by simp [Sg.ax])) (hax s.y (by simp [Sg.ax])) (hax s.z (by simp [Sg.ax])) hB (Qpx (.inl rfl) hw _ _ _ _) (Qpx (.inr (.inl rfl)) hw _ _ _ _) (Qpx (.inr (.inr rfl)) hw _ _ _ _)
theorem Qp1 {p:List Sg} (hV:Qa7 p=true) {B:Bat} (hB:Qax B=true) {l:List Wd} (hw:Qbe l=true):okCs (csL l B p):=by
 intro c hc;obtain⟨s,hs,rfl⟩:=List.mem_map.1 hc;obtain⟨i,hi,rfl⟩:=List.mem_iff_getElem.1 hs;exact Zw0 (Qby hV i hi) hB hw
theorem Zw1 (l:List Wd) (p:List Sg) {i:Nat} (h:i<p.length):(p.map (alV l))[i]? =some (.agg [.int .i64 (atW Wd.ux l (posS p[i] 0) (posS p[i] 1) (posS p[i] 2) p[i].f),.int .i64 (atW Wd.uy l (posS p[i] 0) (posS p[i] 1) (posS p[i] 2) p[i].f),.int .i64 (atW Wd.uz l (posS p[i] 0) (posS p[i] 1) (posS p[i] 2) p[i].f)]):=by
 rw [List.getElem?_map,List.getElem?_eq_getElem h];rfl
def Qde (p:List Sg) (B:Bat) (l:List Wd):Bool:=Qa7 p&&(Qax B&&Qbe l)
set_option maxHeartbeats 8000000 in
theorem Q6p (p:List Sg) (B:Bat) (l:List Wd) (hp: ∀s∈p,okSg s) (hl:l.length≤maxLen) (hpl:p.length≤1000000):
  Qaf Tryz.prog 19 [Qbx p,baPV B,wsPV l] (if Qde p B l=true then .tup [.slc ((smL (csL l B p) (cutE (csL l B p))).map (PV.int .i64)),.int .i64 0]else .tup [.slc [],.int .i64 2]):=by
 have v1:=Qhh p hp hpl;have v2:=Qzh B;have v3:=Qtx l hl;have f1:=Zq7 l p hp hl hpl;unfold Qde;unfold Qbx at v1 f1 ⊢;cases hV:Qa7 p with
 |false=>
  rw [hV]at v1;unfold baPV at v2 ⊢;refine Qab (tb:=[]) 67 [.tmp 6,.tmp 7] [0,1,2,4,6,7,8,10,11,12,13,14,15,28,35,36,37,38,60] mixed Tryz.func19 rfl (by kernel_rfl) ?_;repeat (first|simp -implicitDefEqProofs only [go_sem,seval,Bool.not_false,Bool.false_eq_true,Bool.false_and]|(with_reducible refine Qaa v1 ?_ ?_ ?_);rfl;rfl)
 |true=>
 rw [hV]at v1;cases hB:Qax B with
 |false=>
  rw [hB]at v2;unfold baPV at v2 ⊢;refine Qab (tb:=[]) 67 [.tmp 6,.tmp 7] [0,1,2,4,6,7,8,10,11,12,13,14,15,28,35,36,37,38,60] mixed Tryz.func19 rfl (by kernel_rfl) ?_;repeat (first|simp -implicitDefEqProofs only [go_sem,seval,Bool.not_false,Bool.not_true,Bool.false_eq_true,Bool.false_and,Bool.true_and]|(with_reducible refine Qaa v1 ?_ ?_ ?_);rfl;rfl|(with_reducible refine Qaa v2 ?_ ?_ ?_);rfl;rfl)
 |true=>
 rw [hB]at v2;cases hw:Qbe l with
 |false=>
  rw [hw]at v3;unfold baPV at v2 ⊢;refine Qab (tb:=[]) 67 [.tmp 6,.tmp 7] [0,1,2,4,6,7,8,10,11,12,13,14,15,28,35,36,37,38,60] mixed Tryz.func19 rfl (by kernel_rfl) ?_;repeat (first|simp -implicitDefEqProofs only [go_sem,seval,Bool.not_false,Bool.not_true,Bool.false_eq_true,Bool.and_false,Bool.true_and]|(with_reducible refine Qaa v1 ?_ ?_ ?_);rfl;rfl|(with_reducible refine Qaa v2 ?_ ?_ ?_);rfl;rfl|(with_reducible refine Qaa v3 ?_ ?_ ?_);rfl;rfl)
 |true=>
 rw [hw]at v3;rw [if_pos ⟨hw,hV⟩]at f1;rw [if_pos (show(true&&(true&&true))=true from rfl)];have hok:=Qp1 hV hB hw;have hcl:=Qi7 l B p;have hpV:=Qbj hV;unfold baPV at v2 ⊢;refine Qab (tb:=[]) 67 [.tmp 6,.tmp 7] [0,1,2,4,6,7,8,10,11,12,13,14,15,28,35,36,37,38,60] mixed Tryz.func19 rfl (by kernel_rfl) ?_;repeat (first|simp -implicitDefEqProofs only [go_sem,seval,Bool.not_true,List.length_map]|(with_reducible refine Qaa v1 ?_ ?_ ?_);rfl;rfl|(with_reducible refine Qaa v2 ?_ ?_ ?_);rfl;rfl|(with_reducible refine Qaa v3 ?_ ?_ ?_);rfl;rfl|(with_reducible refine Qaa f1 ?_ ?_ ?_);rfl;rfl)
 refine Qat mixed (fun i:{i:Nat // i≤p.length∧ ∀j,j<i→preI (csL l B p) (j+1)≤mxE}=>St.of [(4,.bp 0 5 0 0),(8,.slc (p.map (alV l))),(10,.bs 7 1 0 i.1),(11,.int .i64 (preI (csL l B p) i.1)),(35,.slc (p.map sgPV)),(36,.int .i64 (p.length:Int)),(37,.int .i64 (i.1:Int))]
  [(0,{els:=[baPV B],esz:=5,ety:=25,fro:=0,live:=true,arr:=false}),(7,iB1 (smL (csL l B p) i.1))]) (fun i=>p.length-i.1) ⟨0,Nat.zero_le _,fun j hj=>by omega⟩ ?_ ?_
 ·refine Qhu 10 7 1 3 rfl rfl rfl (by decide) [(0,0),(7,7)] rfl ?_ ?_
  ·simp [Qae,lkp,ren1,ren0,Qan];rfl
  ·exact⟨⟨rfl,rfl,rfl,rfl,rfl,.inr ⟨rfl,_,_,rfl,rfl,rfl,rfl⟩⟩,⟨rfl,rfl,rfl,rfl,rfl,.inl ⟨rfl,rfl⟩⟩,trivial⟩
 rintro⟨i,hi,hall⟩;simp only;by_cases hA:i<p.length
 case neg=>
  have hA':=ltF hA;obtain rfl:i=p.length:=by omega
  have hce:cutE (csL l B p)=p.length:=by rw [Qyk (by rw [hcl];exact hall),hcl]
  rw [hce];have hsm:(smL (csL l B p) p.length).length=p.length:=Qe6 _ _;have ht:((smL (csL l B p) p.length).map (PV.int .i64)).take p.length=(smL (csL l B p) p.length).map (PV.int .i64):=List.take_of_length_le (by simp [Qe6]);have hk:=Qrz (smL (csL l B p) p.length);generalize smL (csL l B p) p.length=SM at*;repeat simp -implicitDefEqProofs only [go_sem,seval,hA',hsm,ht,List.length_map]
 have hA':=ltT hA;have n0:=nnT i;have hg:=Qd6 p i hA;have hga:=Zw1 l p hA;have hvs:=Qby hV _ hA;have f2:=Q6l p[i] B _ _ _ (hp _ (List.getElem_mem hA)) hvs hB (Qpx (.inl rfl) hw (posS p[i] 0) (posS p[i] 1) (posS p[i] 2) p[i].f) (Qpx (.inr (.inl rfl)) hw (posS p[i] 0) (posS p[i] 1) (posS p[i] 2) p[i].f) (Qpx (.inr (.inr rfl)) hw (posS p[i] 0) (posS p[i] 1) (posS p[i] 2) p[i].f);have hcw:Qf6 p[i] B (atW Wd.ux l (posS p[i] 0) (posS p[i] 1) (posS p[i] 2) p[i].f) (atW Wd.uy l (posS p[i] 0) (posS p[i] 1) (posS p[i] 2) p[i].f) (atW Wd.uz l (posS p[i] 0) (posS p[i] 1) (posS p[i] 2) p[i].f)=(csL l B p).getD i 0:=(Zqz l B p hA).symm;rw [hcw]at f2;have hbd:=Q4k hok i;have hpre:=Qe5 (csL l B p) i;have hnn:=Qm3 hok i;have hle:preI (csL l B p) i≤mxE:=by
  cases i with
  |zero=>exact(by decide:(0:Int)≤mxE)
  |succ i=>exact hall i (by omega)
 have hwk:=Qai (a:=i) (by omega);have hws:IntKind.i64.wrap (preI (csL l B p) i+(csL l B p).getD i 0)=preI (csL l B p) (i+1):=by rw [←hpre];unfold mxE at hle;exact Qah (by omega) (by omega)
 clear hcw;generalize atW Wd.ux l (posS p[i] 0) (posS p[i] 1) (posS p[i] 2) p[i].f=w0 at*;generalize atW Wd.uy l (posS p[i] 0) (posS p[i] 1) (posS p[i] 2) p[i].f=w1 at*;generalize atW Wd.uz l (posS p[i] 0) (posS p[i] 1) (posS p[i] 2) p[i].f=w2 at*;generalize p[i]=s at*;unfold sgPV Qas baPV at f2;by_cases hC:(csL l B p).getD i 0≤1125899906842624
 ·rw [decide_eq_true hC]at f2;by_cases hS:1125899906842624<preI (csL l B p) (i+1)
  ·have hS':=eq_true hS;have hce:cutE (csL l B p)=i:=Qs9 (by omega) hall hS;have hsm:(smL (csL l B p) i).length=i:=Qe6 _ _;have ht:((smL (csL l B p) i).map (PV.int .i64)).take i=(smL (csL l B p) i).map (PV.int .i64):=List.take_of_length_le (by simp [Qe6]);have hk:=Qrz (smL (csL l B p) i);rw [hce];generalize smL (csL l B p) i=SM at*;generalize preI (csL l B p) (i+1)=P1 at*;generalize preI (csL l B p) i=P0 at*;generalize (csL l B p).getD i 0=C at*;repeat (first|simp -implicitDefEqProofs only [go_sem,seval,hA',n0,hg,hga,hws,hS',hsm,ht,Bool.not_true,decide_true,Int.toNat_natCast,List.length_map]|(with_reducible refine Qaa f2 ?_ ?_ ?_);rfl;rfl|(with_reducible exact Qac _ _ (by kernel_rfl)))
  ·have hS':=eq_false hS;have hsn:=Zd6 (csL l B p) i;have hsm:(smL (csL l B p) i).length=i:=Qe6 _ _;have hk:=Qrz (smL (csL l B p) i);have k1:((i+1)*8≤140737488355328)=True:=eq_true (by omega);have k2:(i+1≤maxLen)=True:=eq_true (by unfold maxLen;omega);have hall2: ∀j,j<i+1→preI (csL l B p) (j+1)≤mxE:=fun j hj=>by
    by_cases e:j=i
    ·subst e;unfold mxE;omega
    ·exact hall j (by omega)
   generalize hSM2:smL (csL l B p) (i+1)=SM2 at*;generalize smL (csL l B p) i=SM at*;generalize hP1:preI (csL l B p) (i+1)=P1 at*;generalize preI (csL l B p) i=P0 at*;generalize (csL l B p).getD i 0=C at*;repeat (first|simp -implicitDefEqProofs only [go_sem,seval,hA',n0,hg,hga,hws,hwk,hS',hsm,hk,k1,k2,Bool.not_true,decide_false,Int.toNat_natCast,List.length_map]|(with_reducible refine Qaa f2 ?_ ?_ ?_);rfl;rfl|(with_reducible refine And.intro (Qac _ _ (by kernel_rfl)) ?_))
   refine⟨⟨i+1,hA,hall2⟩,by simp only;omega,Qak (θ:=[(0,0),(7,1203)]) rfl ?_ ?_⟩
   ·simp only [hP1];simp [Qae,lkp,ren1,ren0,Qan]
   ·simp only [hSM2,hsn];refine⟨⟨rfl,rfl,rfl,rfl,rfl,.inr ⟨rfl,_,_,rfl,rfl,rfl,rfl⟩⟩,⟨rfl,rfl,rfl,rfl,rfl,.inl ⟨rfl,?_⟩⟩,trivial⟩;simp
 ·rw [decide_eq_false hC]at f2;have hS:mxE<preI (csL l B p) (i+1):=by unfold mxE;omega
  have hce:cutE (csL l B p)=i:=Qs9 (by omega) hall hS;have hsm:(smL (csL l B p) i).length=i:=Qe6 _ _;have ht:((smL (csL l B p) i).map (PV.int .i64)).take i=(smL (csL l B p) i).map (PV.int .i64):=List.take_of_length_le (by simp [Qe6]);have hk:=Qrz (smL (csL l B p) i);rw [hce];generalize smL (csL l B p) i=SM at*;generalize preI (csL l B p) (i+1)=P1 at*;generalize preI (csL l B p) i=P0 at*;generalize (csL l B p).getD i 0=C at*;repeat (first|simp -implicitDefEqProofs only [go_sem,seval,hA',n0,hg,hga,hws,hsm,ht,Bool.not_false,Int.toNat_natCast,List.length_map]|(with_reducible refine Qaa f2 ?_ ?_ ?_);rfl;rfl|(with_reducible exact Qac _ _ (by kernel_rfl)))
def totE (l:List Wd) (B:Bat) (p:List Sg):Int:=preI (csL l B p) p.length
def enPV (l:List Wd) (B:Bat) (p:List Sg):PV:=if Qde p B l=true then(if totE l B p≤mxE then .tup [.int .i64 (totE l B p),.int .i64 0]else .tup [.int .i64 0,.int .i64 7])else .tup [.int .i64 0,.int .i64 2]
def lePV (l:List Wd) (B:Bat) (p:List Sg):PV:=if Qde p B l=true then(if totE l B p≤mxE then .tup [.int .i64 (B.cap-totE l B p),.int .i64 0]else .tup [.int .i64 0,.int .i64 7])else .tup [.int .i64 0,.int .i64 2]
def ehPV (l:List Wd) (B:Bat) (p:List Sg):PV:=if Qde p B l=true then(if totE l B p≤mxE then .tup [.bool (decide (B.res≤B.cap-totE l B p)),.int .i64 0]else .tup [.bool false,.int .i64 7])else .tup [.bool false,.int .i64 2]
def rcPV (l:List Wd) (B:Bat) (p:List Sg):PV:=if Qde p B l=true then .tup [.int .i64 ((rcN (csL l B p) B:Nat):Int),.int .i64 0]else .tup [.int .i64 0,.int .i64 2]
theorem Qd4 {p:List Sg} {B:Bat} {l:List Wd} (h:Qde p B l=true):Qa7 p=true∧Qax B=true∧Qbe l=true:=by
 simpa only [Qde,Bool.and_eq_true]using h
theorem Zob {cs:List Int} {k i:Nat} (h:i<k):((smL cs k).map (PV.int .i64))[i]? =some (.int .i64 (preI cs (i+1))):=by
 rw [List.getElem?_map,List.getElem?_eq_getElem (by rw [Qe6];exact h)];have:=Zo7 (cs:=cs) h;rw [List.getD_eq_getElem?_getD,List.getElem?_eq_getElem (by rw [Qe6];exact h)]at this;simp only [Option.getD_some]at this;rw [Option.map_some,this]
set_option maxHeartbeats 4000000 in
theorem Qfd (p:List Sg) (B:Bat) (l:List Wd) (hp: ∀s∈p,okSg s) (hl:l.length≤maxLen) (hpl:p.length≤1000000):Qaf Tryz.prog 7 [Qbx p,baPV B,wsPV l] (enPV l B p):=by
 have h:=Q6p p B l hp hl hpl;unfold enPV;unfold Qbx baPV at h ⊢;cases hO:Qde p B l with
 |false=>
  rw [hO]at h;refine Qab (tb:=[]) 33 [.tmp 6,.tmp 7] [0,1,2,4,6,7,8,9,17,21] mixed Tryz.func7 rfl (by kernel_rfl) ?_;repeat (first|simp -implicitDefEqProofs only [go_sem,seval,Zfv,Bool.false_eq_true]|(with_reducible refine Qaa h ?_ ?_ ?_);rfl;rfl)
 |true=>
  rw [hO]at h;simp only [if_true]at h ⊢;obtain⟨hV,hB,hw⟩:=Qd4 hO;have hok:=Qp1 hV hB hw;have hcl:=Qi7 l B p;obtain⟨-,l1,l2⟩:=Qbj hV;obtain⟨c1,c2⟩:=Q4l hok (by omega);rw [hcl]at c1 c2;have hsl:=Qe6 (csL l B p) (cutE (csL l B p));unfold totE;by_cases hT:preI (csL l B p) p.length≤mxE
  ·have hce:=c1 hT;rw [hce]at h hsl;rw [if_pos hT];have lt:((p.length:Int)<(p.length:Int))=False:=eq_false (Int.lt_irrefl _);have wl:=Qgt (n:=p.length) (by omega) (by omega);have n1:=nnT (p.length-1);have hg:=Zob (cs:=csL l B p) (show p.length-1<p.length by omega);rw [Nat.sub_add_cancel l1]at hg;generalize preI (csL l B p) p.length=T at*;generalize smL (csL l B p) p.length=SM at*;refine Qab (tb:=[]) 33 [.tmp 6,.tmp 7] [0,1,2,4,6,7,8,9,17,21] mixed Tryz.func7 rfl (by kernel_rfl) ?_;repeat (first|simp -implicitDefEqProofs only [go_sem,seval,Qwp,hsl,lt,wl,n1,hg,Int.toNat_natCast,List.length_map]|(with_reducible refine Qaa h ?_ ?_ ?_);rfl;rfl)
  ·have hce:=c2 (by omega);rw [if_neg hT];have lt:((cutE (csL l B p):Int)<(p.length:Int))=True:=eq_true (by omega);generalize cutE (csL l B p)=K at*;generalize smL (csL l B p) K=SM at*;refine Qab (tb:=[]) 33 [.tmp 6,.tmp 7] [0,1,2,4,6,7,8,9,17,21] mixed Tryz.func7 rfl (by kernel_rfl) ?_;repeat (first|simp -implicitDefEqProofs only [go_sem,seval,Qwp,hsl,lt,List.length_map]|(with_reducible refine Qaa h ?_ ?_ ?_);rfl;rfl)
set_option maxHeartbeats 4000000 in
theorem Zq0 (p:List Sg) (B:Bat) (l:List Wd) (hp: ∀s∈p,okSg s) (hl:l.length≤maxLen) (hpl:p.length≤1000000):Qaf Tryz.prog 20 [Qbx p,baPV B,wsPV l] (lePV l B p):=by
 have h:=Qfd p B l hp hl hpl;unfold enPV at h;unfold lePV;unfold Qbx baPV at h ⊢;cases hO:Qde p B l with
 |false=>
  rw [hO]at h;simp only [Bool.false_eq_true,if_false]at h ⊢;refine Qab (tb:=[]) 24 [.tmp 6,.tmp 7] [0,1,2,4,6,7,8,9,18] mixed Tryz.func20 rfl (by kernel_rfl) ?_;repeat (first|simp -implicitDefEqProofs only [go_sem,seval,Zfv]|(with_reducible refine Qaa h ?_ ?_ ?_);rfl;rfl)
 |true=>
  rw [hO]at h;simp only [if_true]at h ⊢;obtain⟨hV,hB,hw⟩:=Qd4 hO;have hnn:=Qm3 (Qp1 hV hB hw) p.length;obtain⟨-, -, -,b1,b2,b3⟩:=Qck hB;have e:preI (csL l B p) p.length=totE l B p:=rfl;rw [e]at hnn;by_cases hT:totE l B p≤mxE
  ·rw [if_pos hT]at h ⊢;unfold mxE at hT;have hw1:IntKind.i64.wrap (B.cap-totE l B p)=B.cap-totE l B p:=Qah (by omega) (by omega);generalize totE l B p=T at*;refine Qab (tb:=[]) 24 [.tmp 6,.tmp 7] [0,1,2,4,6,7,8,9,18] mixed Tryz.func20 rfl (by kernel_rfl) ?_;repeat (first|simp -implicitDefEqProofs only [go_sem,seval,Qwp,hw1]|(with_reducible refine Qaa h ?_ ?_ ?_);rfl;rfl)
  ·rw [if_neg hT]at h ⊢;refine Qab (tb:=[]) 24 [.tmp 6,.tmp 7] [0,1,2,4,6,7,8,9,18] mixed Tryz.func20 rfl (by kernel_rfl) ?_;repeat (first|simp -implicitDefEqProofs only [go_sem,seval,Zrg]|(with_reducible refine Qaa h ?_ ?_ ?_);rfl;rfl)
set_option maxHeartbeats 4000000 in
theorem Qjp (p:List Sg) (B:Bat) (l:List Wd) (hp: ∀s∈p,okSg s) (hl:l.length≤maxLen) (hpl:p.length≤1000000):Qaf Tryz.prog 9 [Qbx p,baPV B,wsPV l] (ehPV l B p):=by
 have h:=Zq0 p B l hp hl hpl;unfold lePV at h;unfold ehPV;unfold Qbx baPV at h ⊢;cases hO:Qde p B l with
 |false=>
  rw [hO]at h;simp only [Bool.false_eq_true,if_false]at h ⊢;refine Qab (tb:=[]) 26 [.tmp 6,.tmp 7] [0,1,2,4,6,7,8,9] mixed Tryz.func9 rfl (by kernel_rfl) ?_;repeat (first|simp -implicitDefEqProofs only [go_sem,seval,Zxh]|(with_reducible refine Qaa h ?_ ?_ ?_);rfl;rfl)
 |true=>
  rw [hO]at h;simp only [if_true]at h ⊢;by_cases hT:totE l B p≤mxE
  ·rw [if_pos hT]at h ⊢;generalize B.cap-totE l B p=T at*;refine Qab (tb:=[]) 26 [.tmp 6,.tmp 7] [0,1,2,4,6,7,8,9] mixed Tryz.func9 rfl (by kernel_rfl) ?_;repeat (first|simp -implicitDefEqProofs only [go_sem,seval,Zrf]|(with_reducible refine Qaa h ?_ ?_ ?_);rfl;rfl)
  ·rw [if_neg hT]at h ⊢;refine Qab (tb:=[]) 26 [.tmp 6,.tmp 7] [0,1,2,4,6,7,8,9] mixed Tryz.func9 rfl (by kernel_rfl) ?_;repeat (first|simp -implicitDefEqProofs only [go_sem,seval,Zxi]|(with_reducible refine Qaa h ?_ ?_ ?_);rfl;rfl)
set_option maxHeartbeats 4000000 in
theorem Qzi (p:List Sg) (B:Bat) (l:List Wd) (hp: ∀s∈p,okSg s) (hl:l.length≤maxLen) (hpl:p.length≤1000000):Qaf Tryz.prog 8 [Qbx p,baPV B,wsPV l] (rcPV l B p):=by
 have h:=Q6p p B l hp hl hpl;unfold rcPV;unfold Qbx baPV at h ⊢;cases hO:Qde p B l with
 |false=>
  rw [hO]at h;simp only [Bool.false_eq_true,if_false]at h ⊢;refine Qab (tb:=[]) 39 [.tmp 6,.tmp 7] [0,1,2,4,6,7,8,9,10,11,19,20,21,22,32] mixed Tryz.func8 rfl (by kernel_rfl) ?_;repeat (first|simp -implicitDefEqProofs only [go_sem,seval]|(with_reducible refine Qaa h ?_ ?_ ?_);rfl;rfl)
  refine Qbt mixed [0] ?_;have z:((0:Int)<((0:Nat):Int))=False:=eq_false (by decide);repeat simp -implicitDefEqProofs only [go_sem,seval]
 |true=>
  rw [hO]at h;simp only [if_true]at h ⊢;obtain⟨hV,hB,hw⟩:=Qd4 hO;have hok:=Qp1 hV hB hw;have hcl:=Qi7 l B p;obtain⟨-, -, -,b1,b2,b3⟩:=Qck hB;have hcut:=Q4m (csL l B p);have hclt:=fun j h=>Zo8 (cs:=csL l B p) (j:=j) h;have hcat:=Zo9 (cs:=csL l B p);have hsl:=Qe6 (csL l B p) (cutE (csL l B p));have hpl2:=(Qbj hV).2.2;have hget:=fun i h=>Zob (cs:=csL l B p) (k:=cutE (csL l B p)) (i:=i) h;generalize csL l B p=cs at*;generalize hK:cutE cs=K at*;refine Qab (tb:=[]) 39 [.tmp 6,.tmp 7] [0,1,2,4,6,7,8,9,10,11,19,20,21,22,32] mixed Tryz.func8 rfl (by kernel_rfl) ?_;repeat (first|simp -implicitDefEqProofs only [go_sem,seval,hsl,List.length_map]|(with_reducible refine Qaa h ?_ ?_ ?_);rfl;rfl)
  refine Qat mixed (fun i:{i:Nat // i≤K∧ ∀j,j<i→okE cs B (j+1)=true}=>St.of [(4,.bp 0 5 0 0),(8,.slc ((smL cs K).map (PV.int .i64))),(9,.int .i64 0),(19,.slc ((smL cs K).map (PV.int .i64))),(20,.int .i64 (K:Int)),(21,.int .i64 (i.1:Int))] [(0,{els:=[baPV B],esz:=5,ety:=25,fro:=0,live:=true,arr:=false})]) (fun i=>K-i.1) ⟨0,Nat.zero_le _,fun j hj=>by omega⟩ ?_ ?_
  ·refine Qak (θ:=[(0,0)]) rfl ?_ ?_
   ·simp [Qae,lkp,ren1,ren0,Qan]
   ·exact⟨⟨rfl,rfl,rfl,rfl,rfl,.inr ⟨rfl,_,_,rfl,rfl,rfl,rfl⟩⟩,trivial⟩
  rintro⟨i,hi,hall⟩;simp only;by_cases hA:i<K
  ·have hA':=ltT hA;have n0:=nnT i;have hg:=hget i hA;have hc:=hclt i hA;have hnn:=Qm3 hok (i+1);unfold mxE at hc;have hwk:=Qai (a:=i) (by omega);have hws:IntKind.i64.wrap (B.cap-preI cs (i+1))=B.cap-preI cs (i+1):=Qah (by omega) (by omega);by_cases hR:B.cap-preI cs (i+1)<B.res
   ·have hR':=eq_true hR;have hr:rcN cs B=i:=Qyl (by omega) hall (Zpb hR);rw [hr];generalize preI cs (i+1)=P1 at*;repeat simp -implicitDefEqProofs only [go_sem,seval,hA',n0,hg,hws,hR',Int.toNat_natCast]
   ·have hR':=eq_false hR;have hall2: ∀j,j<i+1→okE cs B (j+1)=true:=fun j hj=>by
     by_cases e:j=i
     ·subst e;exact Qym (by unfold mxE;omega) (by omega)
     ·exact hall j (by omega)
    generalize preI cs (i+1)=P1 at*;repeat simp -implicitDefEqProofs only [go_sem,seval,hA',n0,hg,hws,hwk,hR',Int.toNat_natCast]
    refine⟨⟨i+1,hA,hall2⟩,by simp only;omega,Qak (θ:=[(0,0)]) rfl ?_ ?_⟩
    ·simp [Qae,lkp,ren1,ren0,Qan]
    ·exact⟨⟨rfl,rfl,rfl,rfl,rfl,.inr ⟨rfl,_,_,rfl,rfl,rfl,rfl⟩⟩,trivial⟩
  ·have hA':=ltF hA;obtain rfl:i=K:=by omega
   have hr:rcN cs B=i:=by
    by_cases e:i<cs.length
    ·exact Qyl e hall (Zpa (hcat e))
    ·rw [Q4n fun j hj=>hall j (by omega)];omega
   rw [hr];repeat simp -implicitDefEqProofs only [go_sem,seval,hA',hsl,List.length_map]
theorem Qnt {p:List Sg} (h:Qa7 p=true) {k:Nat} (h1:1≤k) (h2:k≤p.length):Qa7 (p.take k)=true:=by
 obtain⟨a1,a2,a3⟩:=Qbj h;have hl:(p.take k).length=k:=by simp;omega
 unfold Qa7;rw [hl];have e:vpTo (p.take k) k=true:=by
  unfold vpTo at a1 ⊢;rw [List.all_eq_true]at a1 ⊢;intro j hj;have hj:=List.mem_range.1 hj;have:=a1 j (List.mem_range.2 (by omega));have g1:(p.take k).getD j sg0=p.getD j sg0:=by rw [List.getD_eq_getElem?_getD,List.getD_eq_getElem?_getD,List.getElem?_take_of_lt hj]
  have g2:(p.take k).getD (j-1) sg0=p.getD (j-1) sg0:=by rw [List.getD_eq_getElem?_getD,List.getD_eq_getElem?_getD,List.getElem?_take_of_lt (by omega)]
  unfold vpAt at this ⊢;rw [g1,g2];exact this
 rw [e,decide_eq_true h1,decide_eq_true (show k≤256 by omega)];rfl
theorem Qrs (p:List Sg) (B:Bat) (l:List Wd) (hp: ∀s∈p,okSg s) (hl:l.length≤maxLen) (hpl:p.length≤1000000):Qaf Tryz.prog 5 [Qbx p,baPV B,wsPV l] (.bool (!Qde p B l)):=by
 have v1:=Qub p hp hpl;have v2:=Q6m B;have v3:=Qty l hl;unfold Qde;unfold Qbx at v1 ⊢;cases hV:Qa7 p with
 |false=>
  rw [hV]at v1;unfold baPV at v2 ⊢;refine Qab (tb:=[]) 20 [.tmp 6] [0,1,2,4,6] mixed Tryz.func5 rfl (by kernel_rfl) ?_;repeat (first|simp -implicitDefEqProofs only [go_sem,seval,Bool.not_false,Bool.false_and]|(with_reducible refine Qaa v1 ?_ ?_ ?_);rfl;rfl)
 |true=>
 rw [hV]at v1;cases hB:Qax B with
 |false=>
  rw [hB]at v2;unfold baPV at v2 ⊢;refine Qab (tb:=[]) 20 [.tmp 6] [0,1,2,4,6] mixed Tryz.func5 rfl (by kernel_rfl) ?_;repeat (first|simp -implicitDefEqProofs only [go_sem,seval,Bool.not_false,Bool.not_true,Bool.false_and,Bool.true_and]|(with_reducible refine Qaa v1 ?_ ?_ ?_);rfl;rfl|(with_reducible refine Qaa v2 ?_ ?_ ?_);rfl;rfl)
 |true=>
 rw [hB]at v2;unfold baPV at v2 ⊢;generalize Qbe l=b at*;refine Qab (tb:=[]) 20 [.tmp 6] [0,1,2,4,6] mixed Tryz.func5 rfl (by kernel_rfl) ?_;repeat (first|simp -implicitDefEqProofs only [go_sem,seval,Bool.not_true,Bool.true_and]|(with_reducible refine Qaa v1 ?_ ?_ ?_);rfl;rfl|(with_reducible refine Qaa v2 ?_ ?_ ?_);rfl;rfl|(with_reducible refine Qaa v3 ?_ ?_ ?_);rfl;rfl)
theorem Qzf (l:List Wd) (B:Bat) (p:List Sg) (k:Nat):csL l B (p.take k)=(csL l B p).take k:=by unfold csL;rw [List.map_take]
theorem Zqt {p:List Sg} {B:Bat} {l:List Wd} (h:Qde p B l=true) {k:Nat} (h1:1≤k) (h2:k≤p.length):enPV l B (p.take k)=(if preI (csL l B p) k≤mxE then .tup [.int .i64 (preI (csL l B p) k),.int .i64 0]else .tup [.int .i64 0,.int .i64 7]):=by
 obtain⟨hV,hB,hw⟩:=Qd4 h;have e1:Qde (p.take k) B l=true:=by unfold Qde;rw [Qnt hV h1 h2,hB,hw];rfl
 have e2:totE l B (p.take k)=preI (csL l B p) k:=by
  unfold totE;have hl:(p.take k).length=k:=by simp;omega
  rw [hl,Qzf,Qta _ (Nat.le_refl _)]
 unfold enPV;rw [if_pos e1,e2]
def trmL (a b:Int) (k:Int):List Int:=if b-a=0∨k=2 then [a]else if k=1 then [a,b-a]else [a,0,0,10*(b-a), -15*(b-a),6*(b-a)]
theorem Qrt (a b k:Int) (ha: -1048576≤a∧a≤1048576) (hb: -1048576≤b∧b≤1048576):Qaf Tryz.prog 72 [.int .i64 a,.int .i64 b,.int .i64 k] (.slc ((trmL a b k).map (PV.int .i64))):=by
 have w0:IntKind.i64.wrap (b-a)=b-a:=Qah (by omega) (by omega);have w1:IntKind.i64.wrap (10*(b-a))=10*(b-a):=Qah (by omega) (by omega);have w2:IntKind.i64.wrap (-15*(b-a))= -15*(b-a):=Qah (by omega) (by omega);have w3:IntKind.i64.wrap (6*(b-a))=6*(b-a):=Qah (by omega) (by omega);unfold trmL;by_cases c1:b-a=0
 ·rw [if_pos (.inl c1)];have c1':((b-a)==0)=true:=by rw [c1];rfl
  refine Qab (tb:=[]) 32 [.tmp 6] [0,1,2,6,7,16,20] mixed Tryz.func72 rfl (by kernel_rfl) ?_;repeat simp -implicitDefEqProofs only [go_sem,seval,w0,c1',List.map_cons,List.map_nil]
 have c1':((b-a)==0)=false:=by simpa using c1
 by_cases c2:k=2
 ·rw [if_pos (.inr c2)];have c2':(k==2)=true:=by rw [c2];rfl
  refine Qab (tb:=[]) 32 [.tmp 6] [0,1,2,6,7,16,20] mixed Tryz.func72 rfl (by kernel_rfl) ?_;repeat simp -implicitDefEqProofs only [go_sem,seval,w0,c1',c2',List.map_cons,List.map_nil]
 have c2':(k==2)=false:=by simpa using c2
 rw [if_neg (by omega)];by_cases c3:k=1
 ·rw [if_pos c3];have c3':(k==1)=true:=by rw [c3];rfl
  refine Qab (tb:=[]) 32 [.tmp 6] [0,1,2,6,7,16,20] mixed Tryz.func72 rfl (by kernel_rfl) ?_;repeat simp -implicitDefEqProofs only [go_sem,seval,w0,c1',c2',c3',List.map_cons,List.map_nil]
 have c3':(k==1)=false:=by simpa using c3
 rw [if_neg c3];refine Qab (tb:=[]) 32 [.tmp 6] [0,1,2,6,7,16,20] mixed Tryz.func72 rfl (by kernel_rfl) ?_;repeat simp -implicitDefEqProofs only [go_sem,seval,w0,w1,w2,w3,c1',c2',c3',List.map_cons,List.map_nil]
def legS (ax ay az bx byy bz f t k:Int):Sg:=⟨f,t,1,trmL ax bx k,trmL ay byy k,trmL az bz k⟩
theorem Zn6 (ax ay az bx byy bz f t k:Int) (h1: -1048576≤ax∧ax≤1048576) (h2: -1048576≤ay∧ay≤1048576) (h3: -1048576≤az∧az≤1048576) (h4: -1048576≤bx∧bx≤1048576) (h5: -1048576≤byy∧byy≤1048576) (h6: -1048576≤bz∧bz≤1048576):
  Qaf Tryz.prog 39 [.agg [.int .i64 ax,.int .i64 ay,.int .i64 az],.agg [.int .i64 bx,.int .i64 byy,.int .i64 bz],.int .i64 f,.int .i64 t,.int .i64 k] (sgPV (legS ax ay az bx byy bz f t k)):=by
 have f1:=Qrt ax bx k h1 h4;have f2:=Qrt ay byy k h2 h5;have f3:=Qrt az bz k h3 h6;have e:sgPV (legS ax ay az bx byy bz f t k)= .agg [.int .i64 f,.int .i64 t,.int .i64 1,.slc ((trmL ax bx k).map (PV.int .i64)),.slc ((trmL ay byy k).map (PV.int .i64)),.slc ((trmL az bz k).map (PV.int .i64))]:=rfl;rw [e];clear e;generalize (trmL ax bx k).map (PV.int .i64)=L1 at*;generalize (trmL ay byy k).map (PV.int .i64)=L2 at*;generalize (trmL az bz k).map (PV.int .i64)=L3 at*;refine Qab (tb:=[]) 32 [.cell 10 47] [0,1,2,3,4,5,6,10] mixed Tryz.func39 rfl (by kernel_rfl) ?_;repeat (first|simp -implicitDefEqProofs only [go_sem,seval]|(with_reducible refine Qaa f1 ?_ ?_ ?_);rfl;rfl|(with_reducible refine Qaa f2 ?_ ?_ ?_);rfl;rfl|(with_reducible refine Qaa f3 ?_ ?_ ?_);rfl;rfl|(with_reducible exact Qac _ _ (by kernel_rfl)))
def gBat:Bat:=⟨100,50,200,10000,1000⟩
theorem Qts:Qaf Tryz.prog 40 [] (baPV gBat):=by
 unfold baPV gBat;refine Qab (tb:=[]) 2 [.cell 0 25] [0] mixed Tryz.func40 rfl (by kernel_rfl) ?_;repeat simp -implicitDefEqProofs only [go_sem,seval]
theorem Qkx (x y z:Int):Qaf Tryz.prog 16 [.int .i64 x,.int .i64 y,.int .i64 z] (.agg [.int .i64 x,.int .i64 y,.int .i64 z]):=by
 refine Qab (tb:=[]) 11 [.cell 6 56] [0,1,2,6] mixed Tryz.func16 rfl (by kernel_rfl) ?_;repeat simp -implicitDefEqProofs only [go_sem,seval]
def sgB (s:Sg):Bool:=decide (-9223372036854775808≤s.f∧s.f≤9223372036854775807)&&(decide (-9223372036854775808≤s.t∧s.t≤9223372036854775807)&&(decide (-9223372036854775808≤s.o∧s.o≤9223372036854775807)&&(s.ax.all fun c=>c.all (fun x=>decide (-9223372036854775808≤x∧x≤9223372036854775807))&&decide (c.length≤1000))))
theorem Zn7 {s:Sg} (h:sgB s=true):okSg s:=by
 unfold sgB at h;simp only [Bool.and_eq_true,decide_eq_true_eq,List.all_eq_true]at h;obtain⟨h1,h2,h3,h4⟩:=h;exact⟨h1,h2,h3,fun c hc=>(h4 c hc).1,fun c hc=>(h4 c hc).2⟩
theorem Qev (ax ay az bx byy bz time kind wx wy wz want:Int) (hp:([ax,ay,az,bx,byy,bz].all fun x=>decide (-1048576≤x)&&decide (x≤1048576))=true) (hs:sgB (legS ax ay az bx byy bz 0 time kind)=true) (hv:Qau (legS ax ay az bx byy bz 0 time kind)=true)
  (hw:(blB wx&&(blB wy&&blB wz))=true) (hc:Qf6 (legS ax ay az bx byy bz 0 time kind) gBat wx wy wz=want) (hle:want≤mxE):
  Qaf Tryz.prog 17 [.agg [.int .i64 ax,.int .i64 ay,.int .i64 az],.agg [.int .i64 bx,.int .i64 byy,.int .i64 bz],.int .i64 time,.int .i64 kind,.agg [.int .i64 wx,.int .i64 wy,.int .i64 wz],.int .i64 want] (.bool true):=by
 simp only [List.all_cons,List.all_nil,Bool.and_true,Bool.and_eq_true]at hp;simp only [Bool.and_eq_true]at hw;obtain⟨p1,p2,p3,p4,p5,p6⟩:=hp;have f1:=Zn6 ax ay az bx byy bz 0 time kind (by simpa using p1) (by simpa using p2) (by simpa using p3) (by simpa using p4) (by simpa using p5) (by simpa using p6);have f2:=Qts;have f3:=Zqy (legS ax ay az bx byy bz 0 time kind) gBat wx wy wz (Zn7 hs);have hB:Qax gBat=true:=by decide+kernel
 rw [Q6o hw.1 hw.2.1 hw.2.2 hv hB,hc,if_pos hle]at f3;have eb:baPV gBat= .agg [.int .i64 100,.int .i64 50,.int .i64 200,.int .i64 10000,.int .i64 1000]:=rfl;rw [eb]at f2 f3;obtain⟨S1,S2,S3,S4,S5,S6,hS⟩: ∃S1 S2 S3 S4 S5 S6,sgPV (legS ax ay az bx byy bz 0 time kind)= .agg [.int .i64 S1,.int .i64 S2,.int .i64 S3,.slc S4,.slc S5,.slc S6]:=⟨_,_,_,_,_,_,rfl⟩;rw [hS]at f1 f3;refine Qab (tb:=[]) 33 [.tmp 12] [0,1,2,3,4,5,6,7,10,12,13,14] mixed Tryz.func17 rfl (by kernel_rfl) ?_;repeat (first|simp -implicitDefEqProofs only [go_sem,seval,beq_self_eq_true]|(with_reducible refine Qaa f1 ?_ ?_ ?_);rfl;rfl|(with_reducible refine Qaa f2 ?_ ?_ ?_);rfl;rfl|(with_reducible refine Qaa f3 ?_ ?_ ?_);rfl;rfl|(with_reducible exact Qac _ _ (by kernel_rfl)))
theorem Q1l {s:Sg} (h:Qau s=true) (B:Bat) (hB:Qax B=true):Qde [s] B []=true:=by
 unfold Qde;rw [Qt0 h,hB];rfl
theorem Qtt (n:Int) (b:Bool) (h0:0≤n) (h1:n≤3600) (hs:sgB (legS 0 0 0 0 0 0 0 (1000*n) 2)=true) (hv:Qau (legS 0 0 0 0 0 0 0 (1000*n) 2)=true) (hc:totE [] gBat [legS 0 0 0 0 0 0 0 (1000*n) 2]≤mxE)
  (hb:decide (gBat.res≤gBat.cap-totE [] gBat [legS 0 0 0 0 0 0 0 (1000*n) 2])=b):Qaf Tryz.prog 18 [.int .i64 n,.bool b] (.bool true):=by
 have g1:=Qkx 0 0 0;have f1:=Zn6 0 0 0 0 0 0 0 (1000*n) 2 (by decide) (by decide) (by decide) (by decide) (by decide) (by decide);have f2:=Qts;have f3:=Qjp [legS 0 0 0 0 0 0 0 (1000*n) 2] gBat [] (fun s hs'=>by rw [List.mem_singleton.1 hs'];exact Zn7 hs) (by decide) (by simp);have hB:Qax gBat=true:=by decide+kernel
 unfold ehPV at f3;rw [if_pos (Q1l hv gBat hB),if_pos hc,hb]at f3;have eb:baPV gBat= .agg [.int .i64 100,.int .i64 50,.int .i64 200,.int .i64 10000,.int .i64 1000]:=rfl;rw [eb]at f2 f3;have hwn:IntKind.i64.wrap (1000*n)=1000*n:=Qah (by omega) (by omega);have ep:Qbx [legS 0 0 0 0 0 0 0 (1000*n) 2]= .slc [sgPV (legS 0 0 0 0 0 0 0 (1000*n) 2)]:=rfl;rw [ep]at f3;obtain⟨S1,S2,S3,S4,S5,S6,hS⟩: ∃S1 S2 S3 S4 S5 S6,sgPV (legS 0 0 0 0 0 0 0 (1000*n) 2)= .agg [.int .i64 S1,.int .i64 S2,.int .i64 S3,.slc S4,.slc S5,.slc S6]:=⟨_,_,_,_,_,_,rfl⟩;rw [hS]at f1 f3;unfold wsPV at f3;rw [List.map_nil]at f3;clear hS ep hb hc hv hs;refine Qab (tb:=[]) 25 [.tmp 4] [0,1,4,5,6] mixed Tryz.func18 rfl (by kernel_rfl) ?_;repeat (first|simp -implicitDefEqProofs only [go_sem,seval,hwn,beq_self_eq_true]|(with_reducible refine Qaa g1 ?_ ?_ ?_);rfl;rfl|(with_reducible refine Qaa f1 ?_ ?_ ?_);rfl;rfl|(with_reducible refine Qaa f2 ?_ ?_ ?_);rfl;rfl|(with_reducible refine Qaa f3 ?_ ?_ ?_);rfl;rfl)
set_option maxHeartbeats 8000000 in
set_option maxRecDepth 100000 in
theorem Qnu:Qaf Tryz.prog 6 [] (.bool true):=by
 have v1:=Qkx 0 0 0;have v2:=Qkx 1000 0 0;have v3:=Qkx 0 0 1000;have v4:=Qkx (-1000) 0 0;have v5:=Qkx 700 0 0;have c1:=Qev 0 0 0 0 0 0 1000 2 0 0 0 100 (by decide+kernel) (by decide+kernel) (by decide+kernel) (by decide+kernel) (by decide+kernel) (by decide+kernel);have c2:=Qev 0 0 0 0 0 0 1 2 0 0 0 1 (by decide+kernel) (by decide+kernel) (by decide+kernel) (by decide+kernel) (by decide+kernel) (by decide+kernel);have c3:=Qev 0 0 0 0 0 0 1000 2 1000 0 0 300 (by decide+kernel) (by decide+kernel) (by decide+kernel) (by decide+kernel) (by decide+kernel) (by decide+kernel);have c4:=Qev 0 0 0 1000 0 0 1000 1 0 0 0 300 (by decide+kernel) (by decide+kernel) (by decide+kernel) (by decide+kernel) (by decide+kernel) (by decide+kernel);have c5:=Qev 0 0 0 1000 0 0 1000 1 1000 0 0 100 (by decide+kernel) (by decide+kernel) (by decide+kernel) (by decide+kernel) (by decide+kernel) (by decide+kernel);have c6:=Qev 0 0 0 1000 0 0 1000 1 (-1000) 0 0 900 (by decide+kernel) (by decide+kernel) (by decide+kernel) (by decide+kernel) (by decide+kernel) (by decide+kernel);have c7:=Qev 0 0 0 0 0 1000 1000 1 0 0 0 800 (by decide+kernel) (by decide+kernel) (by decide+kernel) (by decide+kernel) (by decide+kernel) (by decide+kernel);have c8:=Qev 0 0 1000 0 0 0 1000 1 0 0 0 300 (by decide+kernel) (by decide+kernel) (by decide+kernel) (by decide+kernel) (by decide+kernel) (by decide+kernel)
 have c9:=Qev 0 0 0 700 0 0 1000 0 0 0 0 240 (by decide+kernel) (by decide+kernel) (by decide+kernel) (by decide+kernel) (by decide+kernel) (by decide+kernel);have e1:=Qtt 90 true (by decide) (by decide) (by decide+kernel) (by decide+kernel) (by decide+kernel) (by decide+kernel);have e2:=Qtt 91 false (by decide) (by decide) (by decide+kernel) (by decide+kernel) (by decide+kernel) (by decide+kernel);refine Qab (tb:=[]) 69 [.tmp 0] [0,1,2,3,25,58] mixed Tryz.func6 rfl (by kernel_rfl) ?_;repeat (first|simp -implicitDefEqProofs only [go_sem,seval,Bool.not_true]|(with_reducible refine Qaa v1 ?_ ?_ ?_);rfl;rfl|(with_reducible refine Qaa v2 ?_ ?_ ?_);rfl;rfl|(with_reducible refine Qaa v3 ?_ ?_ ?_);rfl;rfl|(with_reducible refine Qaa c1 ?_ ?_ ?_);rfl;rfl|(with_reducible refine Qaa c2 ?_ ?_ ?_);rfl;rfl|(with_reducible refine Qaa c3 ?_ ?_ ?_);rfl;rfl)
 repeat (first|simp -implicitDefEqProofs only [go_sem,seval,Bool.not_true]|(with_reducible refine Qaa c4 ?_ ?_ ?_);rfl;rfl|(with_reducible refine Qaa c5 ?_ ?_ ?_);rfl;rfl|(with_reducible refine Qaa v4 ?_ ?_ ?_);rfl;rfl|(with_reducible refine Qaa c6 ?_ ?_ ?_);rfl;rfl|(with_reducible refine Qaa c7 ?_ ?_ ?_);rfl;rfl|(with_reducible refine Qaa c8 ?_ ?_ ?_);rfl;rfl|(with_reducible refine And.intro (Qac _ _ (by kernel_rfl)) ?_))
 repeat (first|simp -implicitDefEqProofs only [go_sem,seval]|(with_reducible refine Qaa v5 ?_ ?_ ?_);rfl;rfl|(with_reducible refine Qaa c9 ?_ ?_ ?_);rfl;rfl|(with_reducible refine Qaa e1 ?_ ?_ ?_);rfl;rfl|(with_reducible refine Qaa e2 ?_ ?_ ?_);rfl;rfl|(with_reducible exact Qac _ _ (by kernel_rfl)))
def rawS (s:Sg):Prop:=i64 s.f∧i64 s.t∧i64 s.o∧ ∀c∈s.ax,(∀x∈c,i64 x)∧c.length≤maxLen
theorem Zqu {s:Sg} (h:rawS s) (hl: ∀c∈s.ax,c.length≤1000):okSg s:=⟨h.1,h.2.1,h.2.2.1,fun c hc=>(h.2.2.2 c hc).1,hl⟩
theorem Qwe {p:List Sg} (h:Qa7 p=true) {k:Nat} (h2:k<p.length):Qa7 (p.drop k)=true:=by
 obtain⟨a1,a2,a3⟩:=Qbj h;have hl:(p.drop k).length=p.length-k:=by simp
 unfold Qa7;rw [hl];have e:vpTo (p.drop k) (p.length-k)=true:=by
  unfold vpTo at a1 ⊢;rw [List.all_eq_true]at a1 ⊢;intro j hj;have hj:=List.mem_range.1 hj;have:=a1 (k+j) (List.mem_range.2 (by omega));have g1:(p.drop k).getD j sg0=p.getD (k+j) sg0:=by rw [List.getD_eq_getElem?_getD,List.getD_eq_getElem?_getD,List.getElem?_drop]
  have g2:(p.drop k).getD (j-1) sg0=p.getD (k+(j-1)) sg0:=by rw [List.getD_eq_getElem?_getD,List.getD_eq_getElem?_getD,List.getElem?_drop]
  unfold vpAt at this ⊢;rw [g1,g2];simp only [Bool.and_eq_true,Bool.or_eq_true,decide_eq_true_eq]at this ⊢;refine⟨this.1,?_⟩;by_cases e0:j=0
  ·exact .inl e0
  ·refine .inr ?_;have h3:=this.2.resolve_left (by omega)
   rwa [show k+j-1=k+(j-1)from by omega]at h3
 rw [e,decide_eq_true (show 1≤p.length-k by omega),decide_eq_true (show p.length-k≤256 by omega)];rfl
theorem Zfh (l:List Wd) (B:Bat) (p:List Sg) (k:Nat):csL l B (p.drop k)=(csL l B p).drop k:=by unfold csL;rw [List.map_drop]
theorem Qtu (cs:List Int) (k:Nat): ∀j,preI (cs.drop k) j=preI cs (k+j)-preI cs k
 |0=>by show(0:Int)=_;rw [Nat.add_zero,Int.sub_self]
 |j+1=>by
  rw [Qe5,Qtu cs k j,←Nat.add_assoc,Qe5];have:(cs.drop k).getD j 0=cs.getD (k+j) 0:=by rw [List.getD_eq_getElem?_getD,List.getD_eq_getElem?_getD,List.getElem?_drop]
  rw [this];omega
theorem Q6g (l:List Wd) (B:Bat) (p:List Sg) {k:Nat} (h:k≤p.length):totE l B (p.take k)=preI (csL l B p) k:=by
 unfold totE;rw [Qzf,List.length_take,Nat.min_eq_left h,Qta _ (Nat.le_refl k)]
theorem Q6h (l:List Wd) (B:Bat) (p:List Sg) {k:Nat} (h:k≤p.length):totE l B (p.drop k)=totE l B p-preI (csL l B p) k:=by
 unfold totE;rw [Zfh,List.length_drop,Qtu,Nat.add_sub_cancel' h]
def capB (B:Bat) (c:Int):Bat:=⟨B.base,B.climb,B.drag,c,B.res⟩
theorem Zfi (B:Bat) (c:Int) (l:List Wd) (p:List Sg):totE l (capB B c) p=totE l B p:=rfl
theorem Q1m {B:Bat} (h:Qax B=true) {c:Int} (h1:B.cap≤c) (h2:c≤1125899906842624):Qax (capB B c)=true:=by
 have:=Qck h;exact Zoa (by unfold BaOk capB;simp only;omega)
theorem Zn8 {p:List Sg} {B:Bat} {l:List Wd} (h:Qde p B l=true):(rcN (csL l B p) B=p.length)↔(totE l B p≤mxE∧B.res≤B.cap-totE l B p):=by
 obtain⟨hV,hB,hw⟩:=Qd4 h;have hc:=Qp1 hV hB hw;have hn:(csL l B p).length=p.length:=Qi7 l B p;have h1:1≤p.length:=(Qbj hV).2.1;constructor
 ·intro e;have hlast:okE (csL l B p) B p.length=true:=by
   have:=List.not_of_lt_findIdx (xs:=List.range (csL l B p).length) (p:=fun j=> !okE (csL l B p) B (j+1)) (i:=p.length-1) (by
    show p.length-1<rcN (csL l B p) B;omega)
   simp only [List.getElem_range,Bool.not_eq_true',Bool.not_eq_false']at this;rw [Nat.sub_add_cancel h1]at this;simpa using this
  unfold okE at hlast;simp only [Bool.and_eq_true,decide_eq_true_eq]at hlast;exact hlast
 ·rintro⟨e1,e2⟩;rw [←hn];refine Q4n fun j hj=> ?_;have hm:=Qje hc (show j+1≤p.length by omega);unfold totE at e1 e2;exact Qym (by omega) (by omega)
def dkB (ety:Nat):Box:={els:=[.agg [.int .i64 0]],esz:=1,ety:=ety,fro:=0,live:=true,arr:=false}
attribute [go_sem] dkB
abbrev dkT:Nat:=164
theorem Zod (x:Int):Qdz Tryz.prog 124 [.bp 1000000 1 0 0,wPV x,.int .i64 0] [(1000000,dkB dkT)] (wPV x) [(1000000,dkB dkT)]:=by
 refine Qdx (tb:=[]) 17 [.cell 6 36] [0,1,2,4,6,11] mixed Tryz.func124 rfl (by kernel_rfl) (by kernel_rfl) (by kernel_rfl) (by kernel_rfl) (by rfl) ?_;repeat simp -implicitDefEqProofs only [go_sem,seval,wPV]
 refine Qcq (.inl rfl) ?_;simp -implicitDefEqProofs only [go_sem,seval];refine Qak (θ:=[(1000000,1000000)]) rfl ?_ ?_
 ·simp [Qae,lkp,ren1,ren0,Qan]
 ·exact⟨⟨rfl,rfl,rfl,rfl,rfl,.inr ⟨rfl,_,_,rfl,rfl,rfl,rfl⟩⟩,trivial⟩
theorem Qt2 {x y:Int} (hx:x.natAbs<2^65536) (hy:y.natAbs<2^65536) (h:(x*y).natAbs<2^65536):Qdz Tryz.prog 99 [.bp 1000000 1 0 0,wPV x,wPV y] [(1000000,dkB dkT)] (wPV (x*y)) [(1000000,dkB dkT)]:=by
 have h1:=Zom hx hy;rw [Qh3 h]at h1;have hn:=Zod (x*y);generalize x*y=S at*

 refine Qdx (tb:=[(108,[(1000000,1000000)],[])]) 16 [.cell 6 36] [0,1,2,4,5,6] mixed Tryz.func99 rfl (by kernel_rfl) (by kernel_rfl) (by kernel_rfl) (by kernel_rfl) (by rfl) ?_;repeat (first|simp -implicitDefEqProofs only [go_sem,seval,wPV]|(with_reducible refine Qaa h1 ?_ ?_ ?_);rfl;rfl|(with_reducible refine Qc0 hn ?_ ?_ ?_ ?_);rfl;rfl;rfl|(with_reducible refine And.intro (Qac _ _ (by kernel_rfl)) ?_))
 refine Qcq (.inl rfl) ?_;simp -implicitDefEqProofs only [go_sem,seval];refine Qak (θ:=[(1000000,1000000)]) rfl ?_ ?_
 ·simp [Qae,lkp,ren1,ren0,Qan]
 ·exact⟨⟨rfl,rfl,rfl,rfl,rfl,.inr ⟨rfl,_,_,rfl,rfl,rfl,rfl⟩⟩,trivial⟩
theorem Zoe {x y:Int} (hx:x.natAbs<2^65536) (hy:y.natAbs<2^65536) (h:(x+y).natAbs<2^65536):Qdz Tryz.prog 100 [.bp 1000000 1 0 0,wPV x,wPV y] [(1000000,dkB dkT)] (wPV (x+y)) [(1000000,dkB dkT)]:=by
 have h1:=Zon hx hy;rw [Qh3 h]at h1;have hn:=Zod (x+y);generalize x+y=S at*

 refine Qdx (tb:=[(108,[(1000000,1000000)],[])]) 16 [.cell 6 36] [0,1,2,4,5,6] mixed Tryz.func100 rfl (by kernel_rfl) (by kernel_rfl) (by kernel_rfl) (by kernel_rfl) (by rfl) ?_;repeat (first|simp -implicitDefEqProofs only [go_sem,seval,wPV]|(with_reducible refine Qaa h1 ?_ ?_ ?_);rfl;rfl|(with_reducible refine Qc0 hn ?_ ?_ ?_ ?_);rfl;rfl;rfl|(with_reducible refine And.intro (Qac _ _ (by kernel_rfl)) ?_))
 refine Qcq (.inl rfl) ?_;simp -implicitDefEqProofs only [go_sem,seval];refine Qak (θ:=[(1000000,1000000)]) rfl ?_ ?_
 ·simp [Qae,lkp,ren1,ren0,Qan]
 ·exact⟨⟨rfl,rfl,rfl,rfl,rfl,.inr ⟨rfl,_,_,rfl,rfl,rfl,rfl⟩⟩,trivial⟩
theorem Q60 (xs:List Int) (hl:xs.length≤1000000) (hx: ∀x∈xs,x.natAbs<2^65536):Qaf Tryz.prog 95 [wL xs] (wL (Qay xs)):=by
 refine Qab (tb:=[]) 22 [.tmp 2] [0,2,15] mixed Tryz.func95 rfl (by kernel_rfl) ?_;repeat simp -implicitDefEqProofs only [go_sem,seval,wL]
 refine Qat mixed (fun m:{m:Nat // m≤xs.length∧Qay (xs.take m)=Qay xs}=>St.of [(0,wL (xs.take m.1)),(2,.nilS)] []) (fun m=>m.1) ⟨xs.length,Nat.le_refl _,by rw [List.take_length]⟩ ?_ ?_
 ·exact Qa5 (by simp [Qae,lkp,ren1,ren0,wL])
 ·rintro⟨m,hm,ht⟩;have hlen:(xs.take m).length=m:=by rw [List.length_take];omega
  simp only;cases m with
  |zero=>
   have g1:((0:Int)<((0:Nat):Int))=False:=by simp
   have e:Qay xs=[]:=by rw [←ht];rfl
   repeat simp -implicitDefEqProofs only [go_sem,seval,wL,e,List.take_zero,List.map_nil,List.length_nil]
  |succ m=>
   have g1:((0:Int)<((m+1:Nat):Int))=True:=by simp only [eq_iff_iff,iff_true];omega
   have hlt:m<(xs.take (m+1)).length:=by omega
   have w1:IntKind.i64.wrap (((m+1:Nat):Int)-1)=(m:Int):=by rw [Qah (by omega) (by omega)];omega
   have h0:=nnT m;have hg:=Qdu (xs.take (m+1)) m hlt;have hgm:(xs.take (m+1))[m]=xs[m]'(by omega):=List.getElem_take;have htk:xs.take (m+1)=xs.take m++[xs[m]'(by omega)]:=Qbq xs m (by omega);have hrs:=Q7g (x:=(xs.take (m+1))[m]) (by rw [hgm];exact hx _ (List.getElem_mem _));by_cases hz:xs[m]'(by omega)=0
   ·have g2:(((xs.take (m+1))[m]).sign==0)=true:=by rw [hgm,hz];rfl
    have e1:((xs.take (m+1)).map wPV).take m=(xs.take m).map wPV:=by rw [←List.map_take,List.take_take,Nat.min_eq_left (by omega)]
    have g3:((m:Int)≤((m+1:Nat):Int))=True:=by simp only [eq_iff_iff,iff_true];omega
    have hcl:(((xs.take (m+1)).map wPV).all fun x=>x.cells.length==2)=true:=by rw [List.all_map,List.all_eq_true];intro _ _;rfl
    repeat (first|simp -implicitDefEqProofs only [go_sem,seval,wL,List.length_map,hlen,g1,g2,g3,w1,h0,hg,Int.toNat_natCast,hcl,e1]|(with_reducible refine Qaa hrs ?_ ?_ ?_);rfl;rfl)
    refine⟨⟨m,by omega,?_⟩,by simp only;omega,Qa5 (by simp [Qae,lkp,ren1,ren0,wL])⟩;rw [←ht,htk,hz,Qi1]
   ·have g2:(((xs.take (m+1))[m]).sign==0)=false:=by rw [hgm];simp only [beq_eq_false_iff_ne,ne_eq,Int.sign_eq_zero_iff_zero];exact hz
    have e:Qay xs=xs.take (m+1):=by rw [←ht,htk,Qkr _ _ hz]
    repeat (first|simp -implicitDefEqProofs only [go_sem,seval,wL,List.length_map,hlen,g1,g2,w1,h0,hg,Int.toNat_natCast]|(with_reducible refine Qaa hrs ?_ ?_ ?_);rfl;rfl)
    rw [e]
theorem Q61 (xs:List Int) (hl:xs.length≤1000000) (hx: ∀x∈xs,x.natAbs<2^65536):Qdz Tryz.prog 101 [.bp 1000000 1 0 0,wL xs] [(1000000,dkB dkT)] (.tup [wL (Qay xs),.int .i64 0]) [(1000000,dkB dkT)]:=by
 have ht:=Q60 xs hl hx;unfold wL at ht ⊢;refine Qdx (tb:=[]) 19 [.tmp 4,.tmp 5] [0,1,4,5,11] mixed Tryz.func101 rfl (by kernel_rfl) (by kernel_rfl) (by kernel_rfl) (by kernel_rfl) (by rfl) ?_;repeat (first|simp -implicitDefEqProofs only [go_sem,seval,if_true]|(with_reducible refine Qaa ht ?_ ?_ ?_);rfl;rfl)
 refine Qcq (.inl rfl) ?_;simp -implicitDefEqProofs only [go_sem,seval];refine Zzl (θ:=[(1000000,1000000)]) rfl ?_ ?_
 ·simp [Qob,ren1,ren0]
 ·exact⟨⟨rfl,rfl,rfl,rfl,rfl,.inr ⟨rfl,_,_,rfl,rfl,rfl,rfl⟩⟩,trivial⟩
theorem Q62 (xs:List Int) (hl:xs.length≤1000000) (hx: ∀x∈xs,x.natAbs<2^65536):Qaf Tryz.prog 98 [wL xs] (.int .i64 (Qdp blen xs:Int)):=by
 refine Qab (tb:=[]) 18 [.tmp 2] [0,2,3,5,6,7,8,9] mixed Tryz.func98 rfl (by kernel_rfl) ?_;repeat simp -implicitDefEqProofs only [go_sem,seval,wL,List.length_map]
 refine Qat mixed (fun i:{i:Nat // i≤xs.length}=>St.of [(3,.int .i64 (Qdp blen (xs.take i.1):Int)),(6,wL xs),(7,.int .i64 (xs.length:Int)),(8,.int .i64 (i.1:Int))] []) (fun i=>xs.length-i.1) ⟨0,Nat.zero_le _⟩ ?_ ?_
 ·exact Qa5 (by simp [Qae,lkp,ren1,ren0,wL,Qdp])
 ·rintro⟨i,hi⟩;by_cases hA:i<xs.length
  ·have hA':=ltT hA;have h0:=nnT i;have hg:=Qdu xs i hA;have hwk:=Qai (a:=i) (by omega);have hL:=Zxm (hx _ (List.getElem_mem hA));have e:=Q1d blen (xs.take i) xs[i];rw [←Qbq xs i hA]at e;by_cases hlt:Qdp blen (xs.take i)<blen xs[i].natAbs
   ·rw [if_pos hlt]at e;have hlt':=ltT hlt;repeat (first|simp -implicitDefEqProofs only [go_sem,seval,wL,hA',h0,hg,Int.toNat_natCast,hwk,hlt']|(with_reducible refine Qaa hL ?_ ?_ ?_);rfl;rfl)
    refine⟨⟨i+1,hA⟩,by simp only;omega,Qa5 (by simp [Qae,lkp,ren1,ren0,wL,e])⟩
   ·rw [if_neg hlt]at e;have hlt':=ltF hlt;repeat (first|simp -implicitDefEqProofs only [go_sem,seval,wL,hA',h0,hg,Int.toNat_natCast,hwk,hlt']|(with_reducible refine Qaa hL ?_ ?_ ?_);rfl;rfl)
    refine⟨⟨i+1,hA⟩,by simp only;omega,Qa5 (by simp [Qae,lkp,ren1,ren0,wL,e])⟩
  ·have hA':=ltF hA;rw [List.take_of_length_le (show xs.length≤i by omega)];repeat simp -implicitDefEqProofs only [go_sem,seval,wL,hA']
structure okPoly (xs:List Int):Prop where
 b: ∀x∈xs,x.natAbs<2^65536
 l:xs.length≤25
 t:xs≠ []→xs.getD (xs.length-1) 0≠0
theorem Qt3 {xs:List Int} (h:okPoly xs):Qaf Tryz.prog 96 [wL xs] (.bool true):=by
 obtain⟨hb,hl,ht⟩:=h;have e0:wL xs= .slc ((xs.map fun x=>(decide (x<0),mB x)).map wA):=by unfold wL;rw [List.map_map];rfl
 have hv:=Zf2 (xs.map fun x=>(decide (x<0),mB x)) (by rw [List.length_map];omega) (by
  intro p hp;simp only [List.mem_map]at hp;obtain⟨x,hx,rfl⟩:=hp;exact Qb4 (hb x hx))
 rw [e0];have e1:Qwv (xs.map fun x=>(decide (x<0),mB x))=true:=by
  unfold Qwv Qzw;have h1:((xs.map fun x=>(decide (x<0),mB x)).all fun p=>Qba p.1 p.2.data.toList)=true:=by
   rw [List.all_map,List.all_eq_true];intro x hx;exact Qch (hb x hx)
  have h2:decide ((xs.map fun x=>(decide (x<0),mB x)).length≤25)=true:=by rw [List.length_map];exact decide_eq_true hl
  have h3:topB (xs.map fun x=>(decide (x<0),mB x))=true:=by
   by_cases hn:xs=[]
   ·subst hn;rfl
   ·have hlt:xs.length-1<xs.length:=by have:=List.length_pos_iff.2 hn;omega
    have hlt2:(xs.map fun x=>(decide (x<0),mB x)).length-1<(xs.map fun x=>(decide (x<0),mB x)).length:=by rw [List.length_map];exact hlt
    rw [Que hlt2,decide_eq_true_eq,List.getElem_map];simp only [List.length_map];have hz:=ht hn;rw [Qc5 hlt]at hz;rw [Qiy];exact List.length_pos_iff.2 (Zrh hz)
  rw [h1,h2,h3];rfl
 rw [e1]at hv;exact hv
theorem Qwl: ∀(l:List Int),Qay l≠ []→(Qay l).getD ((Qay l).length-1) 0≠0:=by
 intro l h he;have hl:0<(Qay l).length:=List.length_pos_iff.2 h;have hlt:(Qay l).length-1<(Qay l).length:=by omega
 have hsp:Qay l=(Qay l).take ((Qay l).length-1)++[0]:=by
  have h1:=Qbq (Qay l) ((Qay l).length-1) hlt;rw [show(Qay l).length-1+1=(Qay l).length by omega,List.take_length]at h1;rw [Qc5 hlt]at he;rw [he]at h1;exact h1
 have h2:(Qay (Qay l)).length=(Qay l).length:=by rw [Qhx]
 have h3:(Qay ((Qay l).take ((Qay l).length-1)++[0])).length≤(Qay l).length-1:=by
  rw [Qi1];exact Nat.le_trans (Qbv _) (by rw [List.length_take];omega)
 rw [←hsp]at h3;omega
theorem Qd5 {l:List Int} (hb: ∀x∈l,x.natAbs<2^65536) (hl:l.length≤25):okPoly (Qay l):=
 ⟨fun x hx=>hb x (Qjj hx),Nat.le_trans (Qbv l) hl,Qwl l⟩
theorem Zq9 (c:List Int) (hl:c.length≤25) (hc: ∀x∈c,i64 x):Qaf Tryz.prog 61 [Qas c] (.tup [wL (Qay c),.int .i64 0]):=by
 refine Qab (tb:=[]) 25 [.tmp 2,.tmp 3] [0,2,3,4,6,7,8,9,10,23] mixed Tryz.func61 rfl (by kernel_rfl) ?_;repeat simp -implicitDefEqProofs only [go_sem,seval,List.length_map]
 refine Qat mixed (fun i:{i:Nat // i≤c.length}=>St.of [(4,.bs 7 2 0 i.1),(7,Qas c),(8,.int .i64 (c.length:Int)),(9,.int .i64 (i.1:Int))]
  [(7,{els:=(c.take i.1).map wPV,esz:=2,ety:=36,fro:=0,live:=true,arr:=true})]) (fun i=>c.length-i.1) ⟨0,Nat.zero_le _⟩ ?_ ?_
 ·refine Qhu 4 7 2 36 rfl rfl rfl (by decide) [(7,7)] rfl ?_ ?_
  ·simp [Qae,lkp,ren1,ren0,Qan,Qas]
  ·simp [Qal,lkp,Box.renames]
 ·rintro⟨i,hi⟩;have hlen:((c.take i).map wPV).length=i:=by rw [List.length_map,List.length_take];omega
  by_cases hA:i<c.length
  ·have hA':=ltT hA;have n0:=nnT i;have hg:=Qcv c i hA;have hwk:=Qai (a:=i) (by omega);have q1:(i==i)=true:=beq_self_eq_true i;have q2:((i+1)*24≤140737488355328)=True:=eq_true (by omega);have q3:(i+1≤maxLen)=True:=eq_true (by unfold maxLen;omega);obtain⟨k1,k2⟩:=hc _ (List.getElem_mem hA);have o1:=Qfe c[i] k1 k2;have htk:=map_take wPV c i hA;repeat (first|simp -implicitDefEqProofs only [go_sem,seval,wPV,hA',n0,hg,hwk,hlen,q1,q2,q3,Zri,Int.toNat_natCast]|(with_reducible refine Qaa o1 ?_ ?_ ?_);rfl;rfl)
   refine⟨⟨i+1,hA⟩,by simp only;omega,Qak (θ:=[(7,504)]) rfl ?_ ?_⟩
   ·simp [Qae,lkp,ren1,ren0,Qan,Qas]
   ·simp only [htk];simp [Qal,lkp,Box.renames,wPV]
  ·have hA':=ltF hA;obtain rfl:i=c.length:=by omega
   have e1:((c.take c.length).map wPV).take c.length=c.map wPV:=by rw [List.take_length,List.take_of_length_le (by rw [List.length_map];omega)]
   have ht:=Q60 c (by omega) fun x hx=>Qav (Qa2 (hc x hx)) (by decide);unfold wL at ht ⊢;have hle:=Qbv c;have h25:((25:Int)<((Qay c).length:Int))=False:=eq_false (by omega);repeat (first|simp -implicitDefEqProofs only [go_sem,seval,hA',hlen,e1,h25,List.length_map]|(with_reducible refine Qaa ht ?_ ?_ ?_);rfl;rfl)
end Go.Proofs.YtcaffiaempefjaaGreatDoor
