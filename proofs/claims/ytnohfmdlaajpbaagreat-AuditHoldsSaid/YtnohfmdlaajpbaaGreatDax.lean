/-
  OM10, Dsk, Dsl, Dsm, Dsn, Dso, Dv, Dy, Dcv, Dsp, Dcw, Dcx, Dcy, Dsr, Dcm, Dcz, Dgn, Dgo, OE0, OE14, OE15, OE16, Dax (merged for the claim).
-/
import Derived.Test.YtnohfmdlaajpbaaGreatOM9
import Derived.Test.YtnohfmdlaajpbaaGreatDgm
import Derived.Test.YtnohfmdlaajpbaaGreatOW6
import Derived.Test.YtnohfmdlaajpbaaGreatOF12
import Derived.Test.YtnohfmdlaajpbaaGreatOF4
set_option linter.unusedSimpArgs false
set_option linter.unusedVariables false
namespace Go.Proofs.YtnohfmdlaajpbaaGreat
open Go.Vl Go.RowKit Go.Dg
def vPV (x y z:Int):PV:= .agg [.int .i64 x,.int .i64 y,.int .i64 z]
attribute [go_sem] vPV
theorem Qva {x o:Int} {B:Nat} (hx:x.natAbs<2^B) (ho:o.natAbs<2^B):(x+x+o).natAbs<2^(B+1+1):=
 Qo1 (Qo1 hx hx) (Nat.lt_of_lt_of_le ho (Nat.pow_le_pow_right (by decide) (by omega)))
theorem Zyl {p:List Sg} {t:Int} (hp: ∀s∈p,okSg s) (hV:Qbs p=true) (hL:lasts p t=true):(∀i,i<3→(exQ p t i).natAbs<2^2000∧ -1048576≤rnd (exQ p t i) (exO p t)∧rnd (exQ p t i) (exO p t)≤1048576)∧(exO p t).natAbs<2^2000∧0<exO p t:=by
 obtain⟨hi,eA,eD,k1,k2,k3,k4,hv,hD⟩:=Qyl hV hL;have b:=Zyp (a:=exA p t) (d:=exD p t) (hp _ (List.getElem_mem hi)) (Qig hv) (Qih hv) (by unfold i64;omega) (by unfold i64;omega) (by omega);have b2:=fun i h=>Q4v hv k1 k2 k3 i h;unfold exQ exO;rw [hD];refine⟨fun i h=>⟨b.1 i h,?_⟩,b.2,(b2 0 (by decide)).1⟩;obtain⟨h1,h2,h3⟩:=b2 i h;exact Q4w h1 h2 h3
def atPV (p:List Sg) (t:Int):PV:=if Qbs p=true then(if lasts p t=true then .tup [vPV (rnd (exQ p t 0) (exO p t)) (rnd (exQ p t 1) (exO p t)) (rnd (exQ p t 2) (exO p t)),.int .i64 0]else .tup [vPV 0 0 0,.int .i64 3])else .tup [vPV 0 0 0,.int .i64 2]
def sel3 (R:Nat→Int) (i m:Nat):Int:=if m<i then R m else 0
set_option maxHeartbeats 1000000 in
theorem Z10 (p:List Sg) (t:Int) (hp: ∀s∈p,okSg s) (hl:p.length≤1000000) (ht:i64 t):Qaf Tryz.prog 29 [Qj0 p,.int .i64 t] (atPV p t):=by
 have he:=Zfb p t hp hl ht;unfold Qvb at he;unfold atPV;unfold Qj0 at he;cases hV:Qbs p with
 |false=>
  rw [hV]at he;simp only [Bool.false_eq_true,if_false]at he ⊢;refine Qab (tb:=[]) 58 [.cell 4 52,.tmp 5] [0,1,4,5,6,7,8,9,10,18,27,28,29] mixed Tryz.func29 rfl (by kernel_rfl) ?_;repeat (first|simp -implicitDefEqProofs only [go_sem,seval]|(with_reducible refine Qaa he ?_ ?_ ?_);rfl;rfl)
 |true=>
  cases hL:lasts p t with
  |false=>
   rw [hV,hL]at he;simp only [Bool.false_eq_true,if_false,if_true]at he ⊢;refine Qab (tb:=[]) 58 [.cell 4 52,.tmp 5] [0,1,4,5,6,7,8,9,10,18,27,28,29] mixed Tryz.func29 rfl (by kernel_rfl) ?_;repeat (first|simp -implicitDefEqProofs only [go_sem,seval]|(with_reducible refine Qaa he ?_ ?_ ?_);rfl;rfl)
  |true=>
   rw [hV,hL]at he;simp only [if_true]at he ⊢;obtain⟨hb,ho,h0⟩:=Zyl hp hV hL;have hb0:=hb 0 (by decide);have hbb1:=hb 1 (by decide);have hb2:=hb 2 (by decide);clear hb;generalize exQ p t 0=x0 at*;generalize exQ p t 1=x1 at*;generalize exQ p t 2=x2 at*;generalize exO p t=o at*;have b3:=Qo1 ho ho;have a3:=Qgd (Qbb ho (by decide)) (Qbb ho (by decide)) (Qbb b3 (by decide));refine Qab (tb:=[]) 58 [.cell 4 52,.tmp 5] [0,1,4,5,6,7,8,9,10,18,27,28,29] mixed Tryz.func29 rfl (by kernel_rfl) ?_;repeat (first|simp -implicitDefEqProofs only [go_sem,seval]|(with_reducible refine Qaa he ?_ ?_ ?_);rfl;rfl)
   refine Qas mixed (fun i:{i:Nat // i≤3}=>St.of [(4,.bp 0 3 0 0),(5,.int .i64 0),(6,.bp 106 8 0 0),(8,.bp 400 3 0 0),(27,w3PV x0 x1 x2),(28,.int .i64 (i.1:Int))]
    [(0,{els:=[vPV 0 0 0],esz:=3,ety:=52,fro:=0,live:=true,arr:=false}),(106,{els:=[Qae x0 x1 x2 o],esz:=8,ety:=127,fro:=0,live:=true,arr:=false}),(400,{els:=[vPV (sel3 (fun m=>rnd ([x0,x1,x2].getD m 0) o) i.1 0) (sel3 (fun m=>rnd ([x0,x1,x2].getD m 0) o) i.1 1) (sel3 (fun m=>rnd ([x0,x1,x2].getD m 0) o) i.1 2)],esz:=3,ety:=130,fro:=0,live:=true,arr:=false})]) (fun i=>3-i.1) ⟨0,Nat.zero_le _⟩ ?_ ?_
   ·refine Qaj (θ:=[(0,0),(106,106),(400,400)]) rfl ?_ ?_
    ·simp [Qac,lkp,ren1,ren0,Qah,w3PV]
    ·exact⟨⟨rfl,rfl,rfl,rfl,rfl,.inr ⟨rfl,_,_,rfl,rfl,rfl,rfl⟩⟩,⟨rfl,rfl,rfl,rfl,rfl,.inr ⟨rfl,_,_,rfl,rfl,rfl,rfl⟩⟩,⟨rfl,rfl,rfl,rfl,rfl,.inr ⟨rfl,_,_,rfl,rfl,rfl,rfl⟩⟩,trivial⟩
   ·rintro⟨i,hi⟩;by_cases hA:i<3
    ·have hA':((i:Int)<3)=True:=eq_true (by omega);rcases(show i=0∨i=1∨i=2 by omega)with hi0|hi0|hi0
     ·obtain⟨hb1,hr1,hr2⟩:=hb0;obtain rfl:i=0:=hi0;have ii:Qfk (rnd x0 o)= .tup [.int .i64 (rnd x0 o),.int .i64 0]:=by unfold Qfk;rw [if_pos (by omega)]
      have wi:=Q6j (x:=rnd x0 o) (Qbb (B:=64) (by have:(2:Nat)^64=18446744073709551616:=rfl;omega) (by decide));rw [ii]at wi;have b1:=Qo1 hb1 hb1;have b2:=Qva hb1 ho;have a1:=Qgd (Qbb hb1 (by decide)) (Qbb hb1 (by decide)) (Qbb b1 (by decide));have a2:=Qgd (Qbb b1 (by decide)) (Qbb ho (by decide)) (Qbb b2 (by decide));have q:=Qmo b2 (by decide) (Qyk b3 (by decide)) (show 0<o+o by omega);have er:(x0+x0+o)/(o+o)=rnd x0 o:=rfl;rw [er]at q;clear er b1 b2 ii;generalize hR:rnd x0 o=R at*;generalize x0+x0+o=S at*;generalize x0+x0=S1 at*;generalize o+o=S2 at*;repeat (first|simp -implicitDefEqProofs only [go_sem,seval,wPV,sel3]|(with_reducible refine Qaa a1 ?_ ?_ ?_);rfl;rfl|(with_reducible refine Qaa a2 ?_ ?_ ?_);rfl;rfl|(with_reducible refine Qaa a3 ?_ ?_ ?_);rfl;rfl|(with_reducible refine Qaa q ?_ ?_ ?_);rfl;rfl|(with_reducible refine Qaa wi ?_ ?_ ?_);rfl;rfl|(with_reducible refine And.intro (Qad _ _ (by kernel_rfl)) ?_))
      refine⟨⟨0+1,hA⟩,by simp only;omega,Qaj (θ:=[(0,0),(106,106),(400,400)]) rfl ?_ ?_⟩
      ·simp [Qac,lkp,ren1,ren0,Qah]
      ·subst hR;exact⟨⟨rfl,rfl,rfl,rfl,rfl,.inr ⟨rfl,_,_,rfl,rfl,rfl,rfl⟩⟩,⟨rfl,rfl,rfl,rfl,rfl,.inr ⟨rfl,_,_,rfl,rfl,rfl,rfl⟩⟩,⟨rfl,rfl,rfl,rfl,rfl,.inr ⟨rfl,_,_,rfl,rfl,rfl,rfl⟩⟩,trivial⟩
     ·obtain⟨hb1,hr1,hr2⟩:=hbb1;obtain rfl:i=1:=hi0;have ii:Qfk (rnd x1 o)= .tup [.int .i64 (rnd x1 o),.int .i64 0]:=by unfold Qfk;rw [if_pos (by omega)]
      have wi:=Q6j (x:=rnd x1 o) (Qbb (B:=64) (by have:(2:Nat)^64=18446744073709551616:=rfl;omega) (by decide));rw [ii]at wi;have b1:=Qo1 hb1 hb1;have b2:=Qva hb1 ho;have a1:=Qgd (Qbb hb1 (by decide)) (Qbb hb1 (by decide)) (Qbb b1 (by decide));have a2:=Qgd (Qbb b1 (by decide)) (Qbb ho (by decide)) (Qbb b2 (by decide));have q:=Qmo b2 (by decide) (Qyk b3 (by decide)) (show 0<o+o by omega);have er:(x1+x1+o)/(o+o)=rnd x1 o:=rfl;rw [er]at q;clear er b1 b2 ii;generalize hR:rnd x1 o=R at*;generalize x1+x1+o=S at*;generalize x1+x1=S1 at*;generalize o+o=S2 at*;repeat (first|simp -implicitDefEqProofs only [go_sem,seval,wPV,sel3]|(with_reducible refine Qaa a1 ?_ ?_ ?_);rfl;rfl|(with_reducible refine Qaa a2 ?_ ?_ ?_);rfl;rfl|(with_reducible refine Qaa a3 ?_ ?_ ?_);rfl;rfl|(with_reducible refine Qaa q ?_ ?_ ?_);rfl;rfl|(with_reducible refine Qaa wi ?_ ?_ ?_);rfl;rfl|(with_reducible refine And.intro (Qad _ _ (by kernel_rfl)) ?_))
      refine⟨⟨1+1,hA⟩,by simp only;omega,Qaj (θ:=[(0,0),(106,106),(400,400)]) rfl ?_ ?_⟩
      ·simp [Qac,lkp,ren1,ren0,Qah]
      ·subst hR;exact⟨⟨rfl,rfl,rfl,rfl,rfl,.inr ⟨rfl,_,_,rfl,rfl,rfl,rfl⟩⟩,⟨rfl,rfl,rfl,rfl,rfl,.inr ⟨rfl,_,_,rfl,rfl,rfl,rfl⟩⟩,⟨rfl,rfl,rfl,rfl,rfl,.inr ⟨rfl,_,_,rfl,rfl,rfl,rfl⟩⟩,trivial⟩
     ·obtain⟨hb1,hr1,hr2⟩:=hb2;obtain rfl:i=2:=hi0;have ii:Qfk (rnd x2 o)= .tup [.int .i64 (rnd x2 o),.int .i64 0]:=by unfold Qfk;rw [if_pos (by omega)]
      have wi:=Q6j (x:=rnd x2 o) (Qbb (B:=64) (by have:(2:Nat)^64=18446744073709551616:=rfl;omega) (by decide));rw [ii]at wi;have b1:=Qo1 hb1 hb1;have b2:=Qva hb1 ho;have a1:=Qgd (Qbb hb1 (by decide)) (Qbb hb1 (by decide)) (Qbb b1 (by decide));have a2:=Qgd (Qbb b1 (by decide)) (Qbb ho (by decide)) (Qbb b2 (by decide));have q:=Qmo b2 (by decide) (Qyk b3 (by decide)) (show 0<o+o by omega);have er:(x2+x2+o)/(o+o)=rnd x2 o:=rfl;rw [er]at q;clear er b1 b2 ii;generalize hR:rnd x2 o=R at*;generalize x2+x2+o=S at*;generalize x2+x2=S1 at*;generalize o+o=S2 at*;repeat (first|simp -implicitDefEqProofs only [go_sem,seval,wPV,sel3]|(with_reducible refine Qaa a1 ?_ ?_ ?_);rfl;rfl|(with_reducible refine Qaa a2 ?_ ?_ ?_);rfl;rfl|(with_reducible refine Qaa a3 ?_ ?_ ?_);rfl;rfl|(with_reducible refine Qaa q ?_ ?_ ?_);rfl;rfl|(with_reducible refine Qaa wi ?_ ?_ ?_);rfl;rfl|(with_reducible refine And.intro (Qad _ _ (by kernel_rfl)) ?_))
      refine⟨⟨2+1,hA⟩,by simp only;omega,Qaj (θ:=[(0,0),(106,106),(400,400)]) rfl ?_ ?_⟩
      ·simp [Qac,lkp,ren1,ren0,Qah]
      ·subst hR;exact⟨⟨rfl,rfl,rfl,rfl,rfl,.inr ⟨rfl,_,_,rfl,rfl,rfl,rfl⟩⟩,⟨rfl,rfl,rfl,rfl,rfl,.inr ⟨rfl,_,_,rfl,rfl,rfl,rfl⟩⟩,⟨rfl,rfl,rfl,rfl,rfl,.inr ⟨rfl,_,_,rfl,rfl,rfl,rfl⟩⟩,trivial⟩
    ·have hA':((i:Int)<3)=False:=eq_false (by omega);obtain rfl:i=3:=by omega
     have z0:sel3 (fun m=>rnd ([x0,x1,x2].getD m 0) o) 3 0=rnd x0 o:=rfl;have z1:sel3 (fun m=>rnd ([x0,x1,x2].getD m 0) o) 3 1=rnd x1 o:=rfl;have z2:sel3 (fun m=>rnd ([x0,x1,x2].getD m 0) o) 3 2=rnd x2 o:=rfl;simp only [z0,z1,z2];repeat simp -implicitDefEqProofs only [go_sem,seval]
end Go.Proofs.YtnohfmdlaajpbaaGreat

namespace Go.Dg
def nxE (out:List Int) (a b:Int) (k j:Nat):Int:=(if j<k then out.getD j 0*a else 0)+(if 0<j∧j≤k then out.getD (j-1) 0*b else 0)
def nxL (out:List Int) (a b:Int) (k:Nat):List Int:=(List.range (out.length+1)).map (nxE out a b k)
def hstep (out:List Int) (a b c:Int):List Int:=(nxL out a b out.length).set 0 ((nxL out a b out.length).getD 0 0+c)
def mdG (L:Nat→List Int) (o:Int):Nat→Nat
 |0=>o.natAbs
 |i+1=>gcdL (mdG L o i) (L i)
def mdO (L:Nat→List Int) (o:Int):Int:=o/(mdG L o 3:Int)
def Z1g (L:Nat→List Int) (o:Int):Bool:=decide (mdO L o≤4294967296)
def cmpC (c:List Int) (a b d:Int):List Int:=Zn6 (Zw5 (Qsb c) a b d (Qsb c).length) (d^(6-c.length))
def cmpL (s:Sg) (a b d:Int) (i:Nat):List Int:=cmpC (s.ax.getD i []) a b d
def nrm:List Int→Nat
 | []=>0
 |x::l=>x.natAbs+nrm l
theorem Zpv {l:List Int} {x:Int} (h:x∈l):x.natAbs≤nrm l:=by
 induction l with
 |nil=>cases h
 |cons y l ih=>
  cases h with
  |head=>exact Nat.le_add_right _ _
  |tail _ h=>exact Nat.le_trans (ih h) (Nat.le_add_left _ _)
theorem Qc4 {x K:Int} (h:(x.natAbs:Int)≤K): -K≤x∧x≤K:=by omega
theorem Zpw {c:List Int} {o:Int} (h:Qel c o c.length=true) (j:Nat) (hj:j<c.length):((ctl c j).natAbs:Int)≤62914560*o:=by
 unfold Qel at h;rw [List.all_eq_true]at h;exact of_decide_eq_true (h j (List.mem_range.2 hj))
theorem Zpx {o a0:Int} (ho:0≤o) (h: ∀j,j<1→((ctl [a0] j).natAbs:Int)≤62914560*o):(nrm [a0]:Int)≤1048576*o:=by
 have h0:=Qc4 (h 0 (by decide));have e0:ctl [a0] 0=60*a0:=by simp [ctl,sm,cw,bin];omega
 generalize ctl [a0] 0=b0 at*;clear h;have f0:60*a0=1*b0:=by omega
 clear e0;have g0:(a0.natAbs:Int)≤1048576*o:=by omega
 clear h0 f0;simp only [nrm];generalize a0.natAbs=m0 at*;omega
theorem Zpy {o a0 a1:Int} (ho:0≤o) (h: ∀j,j<2→((ctl [a0,a1] j).natAbs:Int)≤62914560*o):(nrm [a0,a1]:Int)≤3145728*o:=by
 have h0:=Qc4 (h 0 (by decide));have h1:=Qc4 (h 1 (by decide));have e0:ctl [a0,a1] 0=60*a0:=by simp [ctl,sm,cw,bin];omega
 have e1:ctl [a0,a1] 1=60*a0+60*a1:=by simp [ctl,sm,cw,bin];omega
 generalize ctl [a0,a1] 0=b0 at*;generalize ctl [a0,a1] 1=b1 at*;clear h;have f0:60*a0=1*b0:=by omega
 have f1:60*a1= -1*b0+1*b1:=by omega
 clear e0 e1;have g0:(a0.natAbs:Int)≤1048576*o:=by omega
 have g1:(a1.natAbs:Int)≤2097152*o:=by omega
 clear h0 h1 f0 f1;simp only [nrm];generalize a0.natAbs=m0 at*;generalize a1.natAbs=m1 at*;omega
theorem Zpz {o a0 a1 a2:Int} (ho:0≤o) (h: ∀j,j<3→((ctl [a0,a1,a2] j).natAbs:Int)≤62914560*o):(nrm [a0,a1,a2]:Int)≤9437184*o:=by
 have h0:=Qc4 (h 0 (by decide));have h1:=Qc4 (h 1 (by decide));have h2:=Qc4 (h 2 (by decide));have e0:ctl [a0,a1,a2] 0=60*a0:=by simp [ctl,sm,cw,bin];omega
 have e1:ctl [a0,a1,a2] 1=60*a0+30*a1:=by simp [ctl,sm,cw,bin];omega
 have e2:ctl [a0,a1,a2] 2=60*a0+60*a1+60*a2:=by simp [ctl,sm,cw,bin];omega
 generalize ctl [a0,a1,a2] 0=b0 at*;generalize ctl [a0,a1,a2] 1=b1 at*;generalize ctl [a0,a1,a2] 2=b2 at*;clear h;have f0:60*a0=1*b0:=by omega
 have f1:30*a1= -1*b0+1*b1:=by omega
 have f2:60*a2=1*b0+ -2*b1+1*b2:=by omega
 clear e0 e1 e2;have g0:(a0.natAbs:Int)≤1048576*o:=by omega
 have g1:(a1.natAbs:Int)≤4194304*o:=by omega
 have g2:(a2.natAbs:Int)≤4194304*o:=by omega
 clear h0 h1 h2 f0 f1 f2;simp only [nrm];generalize a0.natAbs=m0 at*;generalize a1.natAbs=m1 at*;generalize a2.natAbs=m2 at*;omega
theorem Zp0 {o a0 a1 a2 a3:Int} (ho:0≤o) (h: ∀j,j<4→((ctl [a0,a1,a2,a3] j).natAbs:Int)≤62914560*o):(nrm [a0,a1,a2,a3]:Int)≤28311552*o:=by
 have h0:=Qc4 (h 0 (by decide));have h1:=Qc4 (h 1 (by decide));have h2:=Qc4 (h 2 (by decide));have h3:=Qc4 (h 3 (by decide));have e0:ctl [a0,a1,a2,a3] 0=60*a0:=by simp [ctl,sm,cw,bin];omega
 have e1:ctl [a0,a1,a2,a3] 1=60*a0+20*a1:=by simp [ctl,sm,cw,bin];omega
 have e2:ctl [a0,a1,a2,a3] 2=60*a0+40*a1+20*a2:=by simp [ctl,sm,cw,bin];omega
 have e3:ctl [a0,a1,a2,a3] 3=60*a0+60*a1+60*a2+60*a3:=by simp [ctl,sm,cw,bin];omega
 generalize ctl [a0,a1,a2,a3] 0=b0 at*;generalize ctl [a0,a1,a2,a3] 1=b1 at*;generalize ctl [a0,a1,a2,a3] 2=b2 at*;generalize ctl [a0,a1,a2,a3] 3=b3 at*;clear h;have f0:60*a0=1*b0:=by omega
 have f1:20*a1= -1*b0+1*b1:=by omega
 have f2:20*a2=1*b0+ -2*b1+1*b2:=by omega
 have f3:60*a3= -1*b0+3*b1+ -3*b2+1*b3:=by omega
 clear e0 e1 e2 e3;have g0:(a0.natAbs:Int)≤1048576*o:=by omega
 have g1:(a1.natAbs:Int)≤6291456*o:=by omega
 have g2:(a2.natAbs:Int)≤12582912*o:=by omega
 have g3:(a3.natAbs:Int)≤8388608*o:=by omega
 clear h0 h1 h2 h3 f0 f1 f2 f3;simp only [nrm];generalize a0.natAbs=m0 at*;generalize a1.natAbs=m1 at*;generalize a2.natAbs=m2 at*;generalize a3.natAbs=m3 at*;omega
theorem Zp1 {o a0 a1 a2 a3 a4:Int} (ho:0≤o) (h: ∀j,j<5→((ctl [a0,a1,a2,a3,a4] j).natAbs:Int)≤62914560*o):(nrm [a0,a1,a2,a3,a4]:Int)≤84934656*o:=by
 have h0:=Qc4 (h 0 (by decide));have h1:=Qc4 (h 1 (by decide));have h2:=Qc4 (h 2 (by decide));have h3:=Qc4 (h 3 (by decide));have h4:=Qc4 (h 4 (by decide));have e0:ctl [a0,a1,a2,a3,a4] 0=60*a0:=by simp [ctl,sm,cw,bin];omega
 have e1:ctl [a0,a1,a2,a3,a4] 1=60*a0+15*a1:=by simp [ctl,sm,cw,bin];omega
 have e2:ctl [a0,a1,a2,a3,a4] 2=60*a0+30*a1+10*a2:=by simp [ctl,sm,cw,bin];omega
 have e3:ctl [a0,a1,a2,a3,a4] 3=60*a0+45*a1+30*a2+15*a3:=by simp [ctl,sm,cw,bin];omega
 have e4:ctl [a0,a1,a2,a3,a4] 4=60*a0+60*a1+60*a2+60*a3+60*a4:=by simp [ctl,sm,cw,bin];omega
 generalize ctl [a0,a1,a2,a3,a4] 0=b0 at*;generalize ctl [a0,a1,a2,a3,a4] 1=b1 at*;generalize ctl [a0,a1,a2,a3,a4] 2=b2 at*;generalize ctl [a0,a1,a2,a3,a4] 3=b3 at*;generalize ctl [a0,a1,a2,a3,a4] 4=b4 at*;clear h;have f0:60*a0=1*b0:=by omega
 have f1:15*a1= -1*b0+1*b1:=by omega
 have f2:10*a2=1*b0+ -2*b1+1*b2:=by omega
 have f3:15*a3= -1*b0+3*b1+ -3*b2+1*b3:=by omega
 have f4:60*a4=1*b0+ -4*b1+6*b2+ -4*b3+1*b4:=by omega
 clear e0 e1 e2 e3 e4;have g0:(a0.natAbs:Int)≤1048576*o:=by omega
 have g1:(a1.natAbs:Int)≤8388608*o:=by omega
 have g2:(a2.natAbs:Int)≤25165824*o:=by omega
 have g3:(a3.natAbs:Int)≤33554432*o:=by omega
 have g4:(a4.natAbs:Int)≤16777216*o:=by omega
 clear h0 h1 h2 h3 h4 f0 f1 f2 f3 f4;simp only [nrm];generalize a0.natAbs=m0 at*;generalize a1.natAbs=m1 at*;generalize a2.natAbs=m2 at*;generalize a3.natAbs=m3 at*;generalize a4.natAbs=m4 at*;omega
theorem Zp2 {o a0 a1 a2 a3 a4 a5:Int} (ho:0≤o) (h: ∀j,j<6→((ctl [a0,a1,a2,a3,a4,a5] j).natAbs:Int)≤62914560*o):(nrm [a0,a1,a2,a3,a4,a5]:Int)≤254803968*o:=by
 have h0:=Qc4 (h 0 (by decide));have h1:=Qc4 (h 1 (by decide));have h2:=Qc4 (h 2 (by decide));have h3:=Qc4 (h 3 (by decide));have h4:=Qc4 (h 4 (by decide));have h5:=Qc4 (h 5 (by decide));have e0:ctl [a0,a1,a2,a3,a4,a5] 0=60*a0:=by simp [ctl,sm,cw,bin];omega
 have e1:ctl [a0,a1,a2,a3,a4,a5] 1=60*a0+12*a1:=by simp [ctl,sm,cw,bin];omega
 have e2:ctl [a0,a1,a2,a3,a4,a5] 2=60*a0+24*a1+6*a2:=by simp [ctl,sm,cw,bin];omega
 have e3:ctl [a0,a1,a2,a3,a4,a5] 3=60*a0+36*a1+18*a2+6*a3:=by simp [ctl,sm,cw,bin];omega
 have e4:ctl [a0,a1,a2,a3,a4,a5] 4=60*a0+48*a1+36*a2+24*a3+12*a4:=by simp [ctl,sm,cw,bin];omega
 have e5:ctl [a0,a1,a2,a3,a4,a5] 5=60*a0+60*a1+60*a2+60*a3+60*a4+60*a5:=by simp [ctl,sm,cw,bin];omega
 generalize ctl [a0,a1,a2,a3,a4,a5] 0=b0 at*;generalize ctl [a0,a1,a2,a3,a4,a5] 1=b1 at*;generalize ctl [a0,a1,a2,a3,a4,a5] 2=b2 at*;generalize ctl [a0,a1,a2,a3,a4,a5] 3=b3 at*;generalize ctl [a0,a1,a2,a3,a4,a5] 4=b4 at*;generalize ctl [a0,a1,a2,a3,a4,a5] 5=b5 at*;clear h;have f0:60*a0=1*b0:=by omega
 have f1:12*a1= -1*b0+1*b1:=by omega
 have f2:6*a2=1*b0+ -2*b1+1*b2:=by omega
 have f3:6*a3= -1*b0+3*b1+ -3*b2+1*b3:=by omega
 have f4:12*a4=1*b0+ -4*b1+6*b2+ -4*b3+1*b4:=by omega
 have f5:60*a5= -1*b0+5*b1+ -10*b2+10*b3+ -5*b4+1*b5:=by omega
 clear e0 e1 e2 e3 e4 e5;have g0:(a0.natAbs:Int)≤1048576*o:=by omega
 have g1:(a1.natAbs:Int)≤10485760*o:=by omega
 have g2:(a2.natAbs:Int)≤41943040*o:=by omega
 have g3:(a3.natAbs:Int)≤83886080*o:=by omega
 have g4:(a4.natAbs:Int)≤83886080*o:=by omega
 have g5:(a5.natAbs:Int)≤33554432*o:=by omega
 clear h0 h1 h2 h3 h4 h5 f0 f1 f2 f3 f4 f5;simp only [nrm];generalize a0.natAbs=m0 at*;generalize a1.natAbs=m1 at*;generalize a2.natAbs=m2 at*;generalize a3.natAbs=m3 at*;generalize a4.natAbs=m4 at*;generalize a5.natAbs=m5 at*;omega
theorem Zw4 {c:List Int} {o:Int} (h:axOK c o=true) (ho:0≤o):(nrm c:Int)≤254803968*o:=by
 obtain⟨h1,h6, -,hb⟩:=Qg3 h;have hj:=Zpw hb;clear hb h
 match c,h1,h6,hj with
 | [a0],_,_,hj=>exact Int.le_trans (Zpx ho hj) (by omega)
 | [a0,a1],_,_,hj=>exact Int.le_trans (Zpy ho hj) (by omega)
 | [a0,a1,a2],_,_,hj=>exact Int.le_trans (Zpz ho hj) (by omega)
 | [a0,a1,a2,a3],_,_,hj=>exact Int.le_trans (Zp0 ho hj) (by omega)
 | [a0,a1,a2,a3,a4],_,_,hj=>exact Int.le_trans (Zp1 ho hj) (by omega)
 | [a0,a1,a2,a3,a4,a5],_,_,hj=>exact Int.le_trans (Zp2 ho hj) (by omega)
 |_::_::_::_::_::_::_::_,_,h6,_=>simp at h6
def ptL (s:Sg) (a b:Int):Nat→List Int:=cmpL s (a-s.f) (b-a) (s.t-s.f)
def ptO (s:Sg):Int:=s.o*(s.t-s.f)^5
def ptF (s:Sg) (a b:Int):Bool:=Z1g (ptL s a b) (ptO s)
def spF (x:Sg×Int×Int):Bool:=ptF x.1 x.2.1 x.2.2
def pieces (n:Nat):Nat→List Int→List (List Int)
 |0,f=>[f]
 |d+1,f=>pieces n d (Zw0 f n)++pieces n d (Zw1 f n)
section
variable {c:List Int} {n:Nat} (hc:c.length=n+1) (a b d:Int)
include hc
end
structure turnOK (a b d:Int):Prop where
 a0:0≤a
 a1:a≤d
 b0:0≤a+b
 b1:a+b≤d
 b:b≠0
 d:1≤d
section
variable {s:Sg} (hv:Qbo s=true) {a b d:Int} (ht:turnOK a b d) {f t O:Int} (hO:O=s.o*d^5)
include hv ht hO
end
theorem Qug {s:Sg} (hv:Qbo s=true): ∀c∈s.ax,∀x∈c,x.natAbs≤1094374710063759360:=by
 obtain⟨⟨v1,v2,v3,v4,v5⟩,hax, -⟩:=Qca hv;intro c hc x hx;have h1:=Zw4 (hax c hc) (by omega);have h2:=Zpv hx;omega
def dd:List Int→List Int
 | []=>[]
 | [a]=>[a]
 |a::b::L=>if a=b then dd (b::L)else a::dd (b::L)
def sc (p:List Sg):List (Sg×Int×Int)→Int→Int→Prop
 | [],u,v=>u=v
 |x::r,u,v=>x.1∈p∧x.2.1=u∧x.1.f≤x.2.1∧x.2.1<x.2.2∧x.2.2≤x.1.t∧sc p r x.2.2 v
theorem Q3v {p:List Sg} (hV:Qbs p=true) {s:Sg} (h:s∈p):Qbo s=true:=by
 obtain⟨i,hi,rfl⟩:=List.getElem_of_mem h;exact Qmc hV i hi
theorem Zpc {q:List Sg} (h1: ∀(i:Nat) (hi:i<q.length),Qbo q[i]=true) (h2: ∀(i:Nat) (hi:i+1<q.length),Qe4 q[i] q[i+1]=true):vpTo q q.length=true:=by
 unfold vpTo;rw [List.all_eq_true];intro j hj;have hj:=List.mem_range.1 hj;unfold vpAt;rw [sgD hj,h1 j hj,Bool.true_and];rcases Nat.eq_zero_or_pos j with r|r
 ·subst r;rfl
 ·obtain⟨i,rfl⟩: ∃i,j=i+1:=⟨j-1,by omega⟩;rw [Nat.add_sub_cancel,sgD (show i<q.length by omega),h2 i hj,Bool.or_true]
theorem Q3w {q:List Sg} (h1: ∀(i:Nat) (hi:i<q.length),Qbo q[i]=true) (h2: ∀(i:Nat) (hi:i+1<q.length),Qe4 q[i] q[i+1]=true) (h3:1≤q.length) (h4:q.length≤256):Qbs q=true:=by
 unfold Qbs;rw [Zpc h1 h2,decide_eq_true h3,decide_eq_true h4];rfl
theorem Zd4 {a b:Sg} (h:a.t=b.f) (h1: ∀i,i<3→plQ a 1 1 i=plQ b 0 1 i) (h2:plO a 1 1=plO b 0 1):Qe4 a b=true:=by
 unfold Qe4 Q4r;rw [decide_eq_true h,decide_eq_true (h1 0 (by decide)),decide_eq_true (h1 1 (by decide)),decide_eq_true (h1 2 (by decide)),decide_eq_true h2];rfl
section
variable {p:List Sg} (hV:Qbs p=true) {S:List (Sg×Int×Int)} {u v:Int} (h:sc p S u v) (hf:S.all spF=true)
include hV h hf
end
section
variable {p:List Sg} (hV:Qbs p=true)
include hV
end
theorem Qie (c:List Int):gcdL 1 c=1:=by
 unfold gcdL
 induction c with
 |nil=>rfl
 |cons x c ih=>simp only [List.foldl_cons,Nat.gcd_one_left];exact ih
def V3.co (v:V3) (i:Nat):Int:=if i=0 then v.x else if i=1 then v.y else v.z
theorem Ql8 {a b k:Int} (hk:k=1∨k=2∨a=b):plc (Qdc a b (rowK k)) 1 1=b:=by
 by_cases e:a=b
 ·unfold Qdc;rw [if_pos e];simp [plc,sm,plcT,e]
 ·rcases hk with rfl|rfl|h
  ·unfold Qdc;rw [if_neg e];simp [plc,sm,plcT,rowK];omega
  ·unfold Qdc;rw [if_neg e];simp [plc,sm,plcT,rowK];omega
  ·exact absurd h e
theorem Q39 {a b:V3} {f t k:Int} (hk:k=1∨k=2∨a=b):(∀i,i<3→plQ (legS a b f t k) 1 1 i=b.co i)∧plO (legS a b f t k) 1 1=1:=by
 have hG:plG (legS a b f t k) 1 1 3=1:=Qie _;have hx:k=1∨k=2∨a.x=b.x:=hk.imp_right (Or.imp_right fun h=>by rw [h]);have hy:k=1∨k=2∨a.y=b.y:=hk.imp_right (Or.imp_right fun h=>by rw [h]);have hz:k=1∨k=2∨a.z=b.z:=hk.imp_right (Or.imp_right fun h=>by rw [h]);refine⟨fun i hi=> ?_,?_⟩
 ·unfold plQ;rw [hG,show((1:Nat):Int)=1 from rfl,Int.ediv_one];rcases(show i=0∨i=1∨i=2 by omega)with rfl|rfl|rfl
  ·exact Ql8 hx
  ·exact Ql8 hy
  ·exact Ql8 hz
 ·unfold plO;rw [hG];rfl
theorem Zn1 {p:Pg} {n:Nat}: ∀(d k:Nat) (t:Int) (many:List Int),k+d=p.as_.length→goB n (Qcg p k) t many (p.as_.drop k)=true→t=begT p k→(Qcg p k).length=n→
  ∀j,k≤j→j<p.as_.length→ ∀i,i<n→mvE ((Qcg p j).getD i v0) ((p.as_.getD j ac0).mv.getD i mv0) (begT p j) (p.as_.getD j ac0).ln=0
 |0,k,_,_,hd,_,_,_,j,h1,h2,_,_=>by omega
 |d+1,k,t,many,hd,hg,ht,hl,j,h1,h2,i,hi=>by
  have hk:k<p.as_.length:=by omega
  have e:p.as_.drop k=p.as_.getD k ac0::p.as_.drop (k+1):=by
   rw [List.drop_eq_getElem_cons hk,List.getD_eq_getElem?_getD,List.getElem?_eq_getElem hk];rfl
  rw [e]at hg;simp only [goB,Bool.and_eq_true,hl]at hg;obtain⟨ga,go,gr⟩:=hg;unfold actB at ga;simp only [Bool.and_eq_true,decide_eq_true_eq]at ga;by_cases ej:j=k
  ·subst ej;have:=List.all_eq_true.1 go i (List.mem_range.2 hi);unfold okAt at this;simp only [Bool.and_eq_true,decide_eq_true_eq]at this;rw [←ht];exact this.1
  ·have hf:Qcg p (k+1)=(p.as_.getD k ac0).mv.map Mv.to:=rfl;have hb:begT p (k+1)=begT p k+(p.as_.getD k ac0).ln:=by
    unfold begT;rw [List.take_add_one,List.getD_eq_getElem?_getD,List.getElem?_eq_getElem hk];simp only [Option.toList_some,List.map_append,List.map_cons,List.map_nil,List.sum_append,List.sum_cons,List.sum_nil,Option.getD_some];omega
   exact Zn1 d (k+1) _ _ (by omega) gr (by rw [ht,hb]) (by rw [hf,List.length_map];exact ga.2.2.2) j (by omega) h2 i hi
theorem Ql9 (a b k:Int):plc (Qdc a b (rowK k)) 0 1=a:=by
 unfold Qdc;split
 ·simp [plc,sm,plcT]
 ·unfold rowK;split
  ·simp [plc,sm,plcT]
  ·split
   ·simp [plc,sm,plcT]
   ·simp [plc,sm,plcT]
theorem Q4a (a b:V3) (f t k:Int):(∀i,i<3→plQ (legS a b f t k) 0 1 i=a.co i)∧plO (legS a b f t k) 0 1=1:=by
 have hG:plG (legS a b f t k) 0 1 3=1:=Qie _;refine⟨fun i hi=> ?_,?_⟩
 ·unfold plQ;rw [hG,show((1:Nat):Int)=1 from rfl,Int.ediv_one];rcases(show i=0∨i=1∨i=2 by omega)with rfl|rfl|rfl
  ·exact Ql9 _ _ _
  ·exact Ql9 _ _ _
  ·exact Ql9 _ _ _
 ·unfold plO;rw [hG];rfl
theorem Qpy {a b k:Int} (ha:inB a=true) (hb:inB b=true) (hk:k=1∨k=2∨a=b):axOK (Qdc a b (rowK k)) 1=true:=by
 rw [Q34]at ha hb;by_cases e:a=b
 ·unfold Qdc;rw [if_pos e];unfold axOK Qn4 Qel;simp [List.range_succ,ctl,sm,cw,bin];omega
 ·rcases hk with rfl|rfl|h
  ·unfold Qdc;rw [if_neg e];unfold axOK Qn4 Qel;simp [rowK,List.range_succ,ctl,sm,cw,bin];omega
  ·unfold Qdc;rw [if_neg e];unfold axOK Qn4 Qel;simp [rowK,List.range_succ,ctl,sm,cw,bin];omega
  ·exact absurd h e
theorem Q4b {a b:V3} {f t k:Int} (ha:ptB a=true) (hb:ptB b=true) (h0:0≤f) (h1:f<t) (h2:t≤3600000) (hk:k=1∨k=2∨a=b):Qbo (legS a b f t k)=true:=by
 have hx:k=1∨k=2∨a.x=b.x:=hk.imp_right (Or.imp_right fun h=>by rw [h]);have hy:k=1∨k=2∨a.y=b.y:=hk.imp_right (Or.imp_right fun h=>by rw [h]);have hz:k=1∨k=2∨a.z=b.z:=hk.imp_right (Or.imp_right fun h=>by rw [h]);unfold ptB at ha hb;simp only [Bool.and_eq_true]at ha hb;have hg:(legS a b f t k).ax.foldl gcdL (legS a b f t k).o.natAbs=1:=by
  show gcdL (gcdL (gcdL 1 _) _) _=1;rw [Qie,Qie,Qie]
 unfold Qbo rngS;rw [hg];simp only [legS,Sg.ax,List.all_cons,List.all_nil];rw [Qpy ha.1 hb.1 hx,Qpy ha.2.1 hb.2.1 hy,Qpy ha.2.2 hb.2.2 hz];simp [h0,h1,h2]
def chn:List Sg→Int→Int→V3→V3→Prop
 | [],u,v,a,b=>u=v∧a=b
 |s::l,u,v,a,b=>Qbo s=true∧s.f=u∧(∀i,i<3→plQ s 0 1 i=a.co i)∧plO s 0 1=1∧ ∃c,(∀i,i<3→plQ s 1 1 i=c.co i)∧plO s 1 1=1∧chn l s.t v c b
theorem Qed: ∀{l l':List Sg} {u v w:Int} {a b c:V3},chn l u v a b→chn l' v w b c→chn (l++l') u w a c
 | [],_,_,_,_,_,_,_,h,h'=>by obtain⟨rfl,rfl⟩:=h;exact h'
 |s::l,_,_,_,_,_,_,_,h,h'=>by
  obtain⟨h1,h2,h3,h4,c,h5,h6,h7⟩:=h;exact⟨h1,h2,h3,h4,c,h5,h6,Qed h7 h'⟩
theorem Qpz {a b:V3} {f t k:Int} (ha:ptB a=true) (hb:ptB b=true) (h0:0≤f) (h1:f<t) (h2:t≤3600000) (hk:k=1∨k=2∨a=b):chn [legS a b f t k] f t a b:=
 ⟨Q4b ha hb h0 h1 h2 hk,rfl,(Q4a a b f t k).1,(Q4a a b f t k).2,b,(Q39 hk).1,(Q39 hk).2,rfl,rfl⟩
theorem Qp0 {a b:V3} {f t k:Int} (ha:ptB a=true) (hb:ptB b=true) (h0:0≤f) (h1:f<t∨f=t∧a=b) (h2:t≤3600000) (hk:k=1∨k=2∨a=b):chn (flyL a b f t k) f t a b:=by
 unfold flyL Qn1 tmB;rcases h1 with h1|⟨h1,h3⟩
 ·rw [ha,hb,decide_eq_true h0,decide_eq_true h1,decide_eq_true h2,if_pos (by rfl)];exact Qpz ha hb h0 h1 h2 hk
 ·rw [decide_eq_false (p:=f<t) (by omega),if_neg (by simp)];exact⟨h1,h3⟩
theorem Zws {v:V3} {m:Mv} {a l:Int} (h:mvE v m a l=0):chn (mvP v m a l) a (a+l) v m.to:=by
 unfold mvP;rw [if_pos h];unfold mvE at h;split at h
 case isFalse=>cases h
 rename_i h1;split at h
 case isFalse=>cases h
 rename_i h9;obtain⟨hv,l1,l2,ha,hm⟩:=h1;rw [Qey]at ha;unfold mvB at hm;simp only [Bool.and_eq_true,Qey,decide_eq_true_eq]at hm;obtain⟨m1,m2,m3,m4,m5,m6⟩:=hm;unfold mvL Qc0;by_cases hf:m.f=0
 ·rw [if_pos hf]at m6 ⊢;simp only [Bool.and_eq_true,decide_eq_true_eq]at m6;rw [m6.1];exact Qp0 hv hv (by omega) (.inl (by omega)) (by omega) (.inr (.inr rfl))
 rw [if_neg hf]at m6 ⊢;refine Qed (v:=a+m.w+m.f) (b:=m.to) (Qed (v:=a+m.w) (b:=v) ?_ ?_) ?_
 ·exact Qp0 hv hv (by omega) (by
   by_cases q:m.w=0; · exact .inr ⟨by omega,rfl⟩
   ·exact .inl (by omega)) (by omega) (.inr (.inr rfl))
 ·unfold midL;by_cases hr:0<m.r
  ·rw [if_pos hr]at m6 ⊢;simp only [Bool.and_eq_true,decide_eq_true_eq]at m6;obtain⟨q1,q2,q3⟩:=m6;unfold hiB at q2 q3;unfold arc3;refine Qed (l:=[_]) (Qpz hv q2 (by omega) (by omega) (by omega) (.inr (.inl rfl))) ?_;refine Qed (l:=[_]) (Qpz q2 q3 (by omega) (by omega) (by omega) (.inr (.inl rfl))) ?_;exact Qpz q3 m1 (by omega) (by omega) (by omega) (.inr (.inl rfl))
  ·rw [if_neg hr];exact Qp0 hv m1 (by omega) (.inl (by omega)) (by omega) (.inr (.inl rfl))
 ·exact Qp0 m1 m1 (by omega) (by
   by_cases q:m.w+m.f=l; · exact .inr ⟨by omega,rfl⟩
   ·exact .inl (by omega)) (by omega) (.inr (.inr rfl))
theorem Zn2: ∀{l:List Sg} {u v:Int} {a b:V3},chn l u v a b→u≤v
 | [],_,_,_,_,h=>by have:=h.1;omega
 |s::l,_,_,_,_,h=>by
  obtain⟨h1,h2,_,_,c,_,_,h7⟩:=h;have:=(Qca h1).1;have:=Zn2 h7;omega
theorem Q4c: ∀{l:List Sg} {u v:Int} {a b:V3},chn l u v a b→ ∀s∈l,Qbo s=true∧u≤s.f∧s.t≤v
 | [],_,_,_,_,_=>fun _ h=>by cases h
 |s::l,_,_,_,_,h=>by
  obtain⟨h1,h2,_,_,c,_,_,h7⟩:=h;have h8:=(Qca h1).1;have h9:=Zn2 h7;intro x hx;rcases List.mem_cons.1 hx with rfl|hx
  ·exact⟨h1,by omega,h9⟩
  ·obtain⟨y1,y2,y3⟩:=Q4c h7 x hx;exact⟨y1,by omega,y3⟩
theorem Qr3: ∀{l:List Sg} {u v:Int} {a b:V3},chn l u v a b→ ∀(i:Nat) (hi:i+1<l.length),Qe4 l[i] l[i+1]=true
 | [],_,_,_,_,_=>fun _ h=>by simp at h
 | [s],_,_,_,_,_=>fun _ h=>by simp at h
 |s::s'::l,_,_,_,_,h=>by
  obtain⟨h1,h2,_,_,c,h5,h6,h7⟩:=h;intro i hi
  match i,hi with
  |0,_=>
   obtain⟨k1,k2,k3,k4,_⟩:=h7;exact Zd4 (a:=s) (b:=s') k2.symm (fun i hi=>by rw [h5 i hi,k3 i hi]) (by rw [h6,k4])
  |i+1,hi=>
   have:=Qr3 h7 i (by simp only [List.length_cons]at hi ⊢;omega);simpa using this
theorem Qp1: ∀{l:List Sg} {u v:Int} {a b:V3},chn l u v a b→ ∀h:0<l.length,l[0].f=u∧(l[l.length-1]'(by omega)).t=v
 | [],_,_,_,_,_=>fun h=>by simp at h
 | [s],_,_,_,_,h=>fun _=>by
  obtain⟨h1,h2,_,_,c,_,_,h7⟩:=h;exact⟨h2,h7.1⟩
 |s::s'::l,_,_,_,_,h=>fun _=>by
  obtain⟨h1,h2,_,_,c,_,_,h7⟩:=h;have:=(Qp1 h7 (by simp)).2;exact⟨h2,by simpa using this⟩
theorem Q4d {l:List Sg} {u v:Int} {a b:V3} (h:chn l u v a b) (h1:1≤l.length) (h2:l.length≤256):Qbs l=true∧pBeg l=u∧pEnd l=v:=by
 refine⟨Q3w (fun i hi=>(Q4c h _ (List.getElem_mem hi)).1) (Qr3 h) h1 h2,?_,?_⟩
 ·unfold pBeg;rw [sgD (by omega)];exact(Qp1 h (by omega)).1
 ·unfold pEnd;rw [sgD (by omega)];exact(Qp1 h (by omega)).2
def pA (p:Pg) (i k:Nat):List Sg:=mvP ((Qcg p k).getD i v0) ((p.as_.getD k ac0).mv.getD i mv0) (begT p k) (p.as_.getD k ac0).ln
def pT (p:Pg) (i k:Nat):List Sg:=(List.range k).flatMap fun a=>pA p i a
theorem Q4e (p:Pg) (i k:Nat):pT p i (k+1)=pT p i k++pA p i k:=by simp [pT,List.range_succ]
theorem Qun {p:Pg} {k:Nat} (hk:k<p.as_.length):begT p (k+1)=begT p k+(p.as_.getD k ac0).ln:=by
 unfold begT;rw [List.take_add_one,List.getD_eq_getElem?_getD,List.getElem?_eq_getElem hk];simp only [Option.toList_some,List.map_append,List.map_cons,List.map_nil,List.sum_append,List.sum_cons,List.sum_nil,Option.getD_some];omega
theorem Q4f {p:Pg} {n:Nat}: ∀(d k:Nat) (t:Int) (many:List Int),k+d=p.as_.length→goB n (Qcg p k) t many (p.as_.drop k)=true→t=begT p k→(Qcg p k).length=n→many.length=n→
  ∀i,i<n→many.getD i 0=((pT p i k).length:Int)→ ∀j,k<j→j≤p.as_.length→(pT p i j).length≤256
 |0,k,_,_,hd,_,_,_,_,i,_,_,j,h1,h2=>by omega
 |d+1,k,t,many,hd,hg,ht,hl,hm,i,hi,hc,j,h1,h2=>by
  have hk:k<p.as_.length:=by omega
  have e:p.as_.drop k=p.as_.getD k ac0::p.as_.drop (k+1):=by
   rw [List.drop_eq_getElem_cons hk,List.getD_eq_getElem?_getD,List.getElem?_eq_getElem hk];rfl
  rw [e]at hg;simp only [goB,Bool.and_eq_true,hl]at hg;obtain⟨ga,go,gr⟩:=hg;unfold actB at ga;simp only [Bool.and_eq_true,decide_eq_true_eq]at ga;have h3:=List.all_eq_true.1 go i (List.mem_range.2 hi);unfold okAt at h3;simp only [Bool.and_eq_true,decide_eq_true_eq]at h3;have hcn:Qdb (Qcg p k) (p.as_.getD k ac0).mv t (p.as_.getD k ac0).ln many i=((pT p i (k+1)).length:Int):=by
   unfold Qdb;rw [hc,Q4e,List.length_append,ht];unfold pA;omega
  rw [hcn]at h3;by_cases ej:j=k+1
  ·subst ej;omega
  ·have hf:Qcg p (k+1)=(p.as_.getD k ac0).mv.map Mv.to:=rfl;refine Q4f d (k+1) _ _ (by omega) gr (by rw [ht,Qun hk]) (by rw [hf,List.length_map];exact ga.2.2.2) (by rw [Qbx];exact hm) i hi ?_ j (by omega) h2;rw [List.getD_eq_getElem?_getD,Qb9 (by omega),if_pos hi,Option.getD_some,hcn]
section
variable {p:Pg} (v:Qbd p=true) {i:Nat} (hi:i<p.ns.length)
include v hi
theorem Zwt {k:Nat} (hk:k<p.as_.length):mvE ((Qcg p k).getD i v0) ((p.as_.getD k ac0).mv.getD i mv0) (begT p k) (p.as_.getD k ac0).ln=0:=by
 unfold Qbd at v;simp only [Bool.and_eq_true,decide_eq_true_eq]at v;obtain⟨h1,h2,h3⟩:=v;unfold Qn2 at h1;simp only [Bool.and_eq_true,decide_eq_true_eq]at h1;exact Zn1 p.as_.length 0 0 (List.replicate p.ns.length 0) (Nat.zero_add _) h3 rfl h1.2.2.1 k (Nat.zero_le _) hk i hi
theorem Zwu {k:Nat} (hk:k≤p.as_.length):(pT p i k).length≤256:=by
 unfold Qbd at v;simp only [Bool.and_eq_true,decide_eq_true_eq]at v;obtain⟨h1,h2,h3⟩:=v;unfold Qn2 at h1;simp only [Bool.and_eq_true,decide_eq_true_eq]at h1;rcases Nat.eq_zero_or_pos k with rfl|h0
 ·exact Nat.zero_le _
 ·refine Q4f p.as_.length 0 0 (List.replicate p.ns.length 0) (Nat.zero_add _) h3 rfl h1.2.2.1 (by simp) i hi ?_ k h0 hk;rw [List.getD_eq_getElem?_getD,List.getElem?_replicate,if_pos hi];rfl
theorem Z1e {k:Nat} (hk:k<p.as_.length):begT p k<begT p (k+1)∧0≤begT p k∧begT p (k+1)≤3600000:=by
 have h:=Zwt v hi hk;unfold mvE at h;split at h
 case isFalse=>cases h
 rename_i h1;split at h
 case isFalse=>cases h
 obtain⟨_,l1,l2,ha,_⟩:=h1;rw [Qey]at ha;rw [Qun hk];omega
theorem Zwv {k:Nat} (hk:k<p.as_.length):chn (pA p i k) (begT p k) (begT p (k+1)) ((Qcg p k).getD i v0) ((Qcg p (k+1)).getD i v0):=by
 have h:=Zws (Zwt v hi hk);rw [←Qun hk]at h;have e:(Qcg p (k+1)).getD i v0=((p.as_.getD k ac0).mv.getD i mv0).to:=by
  unfold Qcg;rw [if_neg (Nat.succ_ne_zero k),Nat.add_sub_cancel,List.getD_eq_getElem?_getD,List.getD_eq_getElem?_getD (l:=(p.as_.getD k ac0).mv),List.getElem?_map];cases (p.as_.getD k ac0).mv[i]? <;>rfl
 rw [e];exact h
theorem Q4g: ∀{k:Nat},k≤p.as_.length→chn (pT p i k) 0 (begT p k) ((Qcg p 0).getD i v0) ((Qcg p k).getD i v0)
 |0,_=>⟨rfl,rfl⟩
 |k+1,hk=>by
  rw [Q4e];exact Qed (Q4g (by omega)) (Zwv v hi hk)
theorem Zww {k:Nat} (h0:0<k) (hk:k≤p.as_.length):1≤(pT p i k).length:=by
 rcases Nat.eq_zero_or_pos (pT p i k).length with h|h
 ·have e:pT p i k=[]:=List.eq_nil_of_length_eq_zero h;have hc:=Q4g v hi hk;rw [e]at hc;have h1:=hc.1;obtain⟨m,rfl⟩: ∃m,k=m+1:=⟨k-1,by omega⟩;have:=Z1e v hi (k:=m) (by omega);omega
 ·exact h
theorem Zec {k:Nat} (h0:0<k) (hk:k≤p.as_.length):Qbs (pT p i k)=true∧pBeg (pT p i k)=0∧pEnd (pT p i k)=begT p k:=
 Q4d (Q4g v hi hk) (Zww v hi h0 hk) (Zwu v hi hk)
end
end Go.Dg

namespace Go.Proofs.YtnohfmdlaajpbaaGreat
open Go.Vl Go.RowKit Go.Dg
def FewQ (p:Pg):Prop:=p.ns.length≤3∧p.hs.length≤3∧p.as_.length≤3∧(∀i,i<p.ns.length→(nmAt p i).size≤60)∧(∀i,i<p.as_.length→(p.as_.getD i ac0).nm.size≤60∧(p.as_.getD i ac0).mv.length≤3)
instance (p:Pg):Decidable (FewQ p):=by unfold FewQ;infer_instance
theorem Zp3 {p:Pg} (h:FewQ p):FewP p:=⟨by have:=h.1;omega,by have:=h.2.1;omega,by have:=h.2.2.1;omega,h.2.2.2.1,fun i hi=>⟨(h.2.2.2.2 i hi).1,by have:=(h.2.2.2.2 i hi).2;omega⟩⟩
set_option maxHeartbeats 2000000 in
theorem Zn8 (p:Pg):Qaf Tryz.prog 8 [pgV p,.int .i64 3,.int .i64 3] (.bool (decide (FewQ p))):=by
 unfold pgV;by_cases e1:p.ns.length≤3
 case neg=>
  have e1':((3:Int)<(p.ns.length:Int))=True:=eq_true (by omega);have e0:decide (FewQ p)=false:=decide_eq_false (fun h=>absurd (h.1) e1);rw [e0];refine Qab (tb:=[]) 68 [.tmp 6] [0,1,2,3,6,7,8,27,32,41,46,67] mixed Tryz.func8 rfl (by kernel_rfl) ?_;repeat simp -implicitDefEqProofs only [go_sem,seval,e1',decide_true,List.length_map]
 have e1':((3:Int)<(p.ns.length:Int))=False:=eq_false (by omega);by_cases e2:p.hs.length≤3
 case neg=>
  have e2':((3:Int)<(p.hs.length:Int))=True:=eq_true (by omega);have e0:decide (FewQ p)=false:=decide_eq_false (fun h=>absurd (h.2.1) e2);rw [e0];refine Qab (tb:=[]) 68 [.tmp 6] [0,1,2,3,6,7,8,27,32,41,46,67] mixed Tryz.func8 rfl (by kernel_rfl) ?_;repeat simp -implicitDefEqProofs only [go_sem,seval,e1',e2',decide_true,decide_false,List.length_map]
 have e2':((3:Int)<(p.hs.length:Int))=False:=eq_false (by omega);by_cases e3:p.as_.length≤3
 case neg=>
  have e3':((3:Int)<(p.as_.length:Int))=True:=eq_true (by omega);have e0:decide (FewQ p)=false:=decide_eq_false (fun h=>absurd (h.2.2.1) e3);rw [e0];refine Qab (tb:=[]) 68 [.tmp 6] [0,1,2,3,6,7,8,27,32,41,46,67] mixed Tryz.func8 rfl (by kernel_rfl) ?_;repeat simp -implicitDefEqProofs only [go_sem,seval,e1',e2',e3',decide_true,decide_false,List.length_map]
 have e3':((3:Int)<(p.as_.length:Int))=False:=eq_false (by omega);refine Qab (tb:=[]) 68 [.tmp 6] [0,1,2,3,6,7,8,27,32,41,46,67] mixed Tryz.func8 rfl (by kernel_rfl) ?_;repeat simp -implicitDefEqProofs only [go_sem,seval,e1',e2',e3',decide_false,List.length_map]
 refine Qas mixed (fun k:{k:Nat // k≤p.ns.length∧ ∀i,i<k→(nmAt p i).size≤60}=>St.of [(1,.int .i64 3),(2,.int .i64 3),(3,.bp 0 3 0 0),(7,.int .i64 (k.1:Int))] [(0,{els:=[.agg [.slc (p.ns.map PV.str),.slc (p.hs.map v3PV),.slc (p.as_.map acV)]],esz:=3,ety:=26,fro:=0,live:=true,arr:=false})]) (fun k=>p.ns.length-k.1) ⟨0,Nat.zero_le _,fun i h=>absurd h (Nat.not_lt_zero _)⟩ ?_ ?_
 ·refine Qaj (θ:=[(0,0)]) rfl ?_ ?_
  ·simp [Qac,lkp,ren1,ren0,Qah]
  ·exact⟨⟨rfl,rfl,rfl,rfl,rfl,.inr ⟨rfl,_,_,rfl,rfl,rfl,rfl⟩⟩,trivial⟩
 ·rintro⟨k,hk,hI⟩;simp only;have n0:=nn_T k;have hwk:=wr_1 (n:=k) (by omega);by_cases hA:k<p.ns.length
  ·have hA':=lt_T hA;have gn:=Zop hA;by_cases hB:(nmAt p k).size≤60
   ·have hB':((60:Int)<((nmAt p k).size:Int))=False:=eq_false (by omega);repeat simp -implicitDefEqProofs only [go_sem,seval,hA',n0,gn,hB',hwk,Int.toNat_natCast,List.length_map]
    refine⟨⟨k+1,hA,fun i hi=> ?_⟩,by simp only;omega,?_⟩
    ·rcases Nat.lt_succ_iff_lt_or_eq.1 hi with h|rfl
     ·exact hI i h
     ·exact hB
    refine Qaj (θ:=[(0,0)]) rfl ?_ ?_
    ·simp [Qac,lkp,ren1,ren0,Qah]
    ·exact⟨⟨rfl,rfl,rfl,rfl,rfl,.inr ⟨rfl,_,_,rfl,rfl,rfl,rfl⟩⟩,trivial⟩
   ·have hB':((60:Int)<((nmAt p k).size:Int))=True:=eq_true (by omega);have e0:decide (FewQ p)=false:=decide_eq_false (fun h=>absurd (h.2.2.2.1 k hA) hB);rw [e0];repeat simp -implicitDefEqProofs only [go_sem,seval,hA',n0,gn,hB',Int.toNat_natCast,List.length_map]
  ·have hA':=lt_F hA;obtain rfl:k=p.ns.length:=by omega
   repeat simp -implicitDefEqProofs only [go_sem,seval,hA',List.length_map]
   refine Qas mixed (fun k:{k:Nat // k≤p.as_.length∧ ∀i,i<k→(p.as_.getD i ac0).nm.size≤60∧(p.as_.getD i ac0).mv.length≤3}=>St.of [(1,.int .i64 3),(2,.int .i64 3),(3,.bp 0 3 0 0),(8,.int .i64 (k.1:Int))] [(0,{els:=[.agg [.slc (p.ns.map PV.str),.slc (p.hs.map v3PV),.slc (p.as_.map acV)]],esz:=3,ety:=26,fro:=0,live:=true,arr:=false})]) (fun k=>p.as_.length-k.1) ⟨0,Nat.zero_le _,fun i h=>absurd h (Nat.not_lt_zero _)⟩ ?_ ?_
   ·refine Qaj (θ:=[(0,0)]) rfl ?_ ?_
    ·simp [Qac,lkp,ren1,ren0,Qah]
    ·exact⟨⟨rfl,rfl,rfl,rfl,rfl,.inr ⟨rfl,_,_,rfl,rfl,rfl,rfl⟩⟩,trivial⟩
   ·rintro⟨k,hk,hJ⟩;simp only;have n0:=nn_T k;have hwk:=wr_1 (n:=k) (by omega);by_cases hA:k<p.as_.length
    ·have hA':=lt_T hA;have ga:=Qmk hA;by_cases hB:(p.as_.getD k ac0).nm.size≤60
     case neg=>
      have hB':((60:Int)<((p.as_.getD k ac0).nm.size:Int))=True:=eq_true (by omega);have e0:decide (FewQ p)=false:=decide_eq_false (fun h=>absurd ((h.2.2.2.2 k hA).1) hB);rw [e0];repeat simp -implicitDefEqProofs only [go_sem,seval,hA',n0,ga,hB',decide_true,Int.toNat_natCast,List.length_map]
     have hB':((60:Int)<((p.as_.getD k ac0).nm.size:Int))=False:=eq_false (by omega);by_cases hC:(p.as_.getD k ac0).mv.length≤3
     case neg=>
      have hC':((3:Int)<((p.as_.getD k ac0).mv.length:Int))=True:=eq_true (by omega);have e0:decide (FewQ p)=false:=decide_eq_false (fun h=>absurd ((h.2.2.2.2 k hA).2) hC);rw [e0];repeat simp -implicitDefEqProofs only [go_sem,seval,hA',n0,ga,hB',hC',decide_true,decide_false,Int.toNat_natCast,List.length_map]
     have hC':((3:Int)<((p.as_.getD k ac0).mv.length:Int))=False:=eq_false (by omega);repeat simp -implicitDefEqProofs only [go_sem,seval,hA',n0,ga,hB',hC',hwk,decide_false,Int.toNat_natCast,List.length_map]
     refine⟨⟨k+1,hA,fun i hi=> ?_⟩,by simp only;omega,?_⟩
     ·rcases Nat.lt_succ_iff_lt_or_eq.1 hi with h|rfl
      ·exact hJ i h
      ·exact⟨hB,hC⟩
     refine Qaj (θ:=[(0,0)]) rfl ?_ ?_
     ·simp [Qac,lkp,ren1,ren0,Qah]
     ·exact⟨⟨rfl,rfl,rfl,rfl,rfl,.inr ⟨rfl,_,_,rfl,rfl,rfl,rfl⟩⟩,trivial⟩
    ·have hA':=lt_F hA;obtain rfl:k=p.as_.length:=by omega
     have e0:decide (FewQ p)=true:=decide_eq_true ⟨e1,e2,e3,hI,hJ⟩;rw [e0];repeat simp -implicitDefEqProofs only [go_sem,seval,hA',List.length_map]
def Quu (p:Pg):PV:=if Qbd p=true then(if p.as_.length=0 then .tup [.slc [],.int .i64 9]else .tup [.slc (allL p),.int .i64 0])else .tup [.slc [],.int .i64 2]
theorem Zp4 (p:Pg) (hf:FewP p):Qaf Tryz.prog 61 [pgV p] (Quu p):=by
 have ok:=Qgb hf;have hV:=Qgc p ok;unfold Quu;cases e:Qbd p with
 |false=>
  rw [e]at hV;unfold pgV at hV ⊢;refine Qab (tb:=[]) 15 [.tmp 2,.tmp 3] [0,1,2,3,4,8] mixed Tryz.func61 rfl (by kernel_rfl) ?_;repeat (first|simp -implicitDefEqProofs only [go_sem,seval,Bool.not_false,Bool.false_eq_true,if_false]|(with_reducible refine Qaa hV ?_ ?_ ?_);rfl;rfl)
 |true=>
 rw [e]at hV;have hA:=Zya p hf e;by_cases h3:p.as_.length=0
 ·have h3':((p.as_.length:Int)==0)=true:=by rw [h3];rfl
  rw [if_pos rfl,if_pos h3];unfold pgV at hV ⊢;refine Qab (tb:=[]) 15 [.tmp 2,.tmp 3] [0,1,2,3,4,8] mixed Tryz.func61 rfl (by kernel_rfl) ?_;repeat (first|simp -implicitDefEqProofs only [go_sem,seval,Bool.not_true,h3',List.length_map]|(with_reducible refine Qaa hV ?_ ?_ ?_);rfl;rfl)
 have h3':((p.as_.length:Int)==0)=false:=beq_eq_false_iff_ne.2 (by omega);rw [if_pos rfl,if_neg h3];generalize allL p=AL at*;unfold pgV at hV hA ⊢;refine Qab (tb:=[]) 15 [.tmp 2,.tmp 3] [0,1,2,3,4,8] mixed Tryz.func61 rfl (by kernel_rfl) ?_;repeat (first|simp -implicitDefEqProofs only [go_sem,seval,Bool.not_true,h3',List.length_map]|(with_reducible refine Qaa hV ?_ ?_ ?_);rfl;rfl|(with_reducible refine Qaa hA ?_ ?_ ?_);rfl;rfl)
theorem Q41 {s:Sg} (hv:Qbo s=true):okSg s:=by
 obtain⟨⟨v1,v2,v3,v4,v5⟩,hax, -⟩:=Qca hv;refine⟨by unfold i64;omega,by unfold i64;omega,by unfold i64;omega,fun c hc x hx=> ?_,fun c hc=>by have:=(Qg3 (hax c hc)).2.1;omega⟩;have:=Qug hv c hc x hx;unfold i64;omega
theorem Qox {p:List Sg} (hV:Qbs p=true): ∀s∈p,okSg s:=fun _ hs=>Q41 (Q3v hV hs)
theorem Qp7 {p:Pg} (v:Qbd p=true) (h:p.as_.length≠0) {i:Nat} (hi:i<p.ns.length):Qbs (Qba p i p.as_.length)=true:=
 (Zec v hi (by omega) (Nat.le_refl _)).1
theorem Qxz {p:Pg} (hf:FewP p) (v:Qbd p=true) (h:p.as_.length≠0) {i:Nat} (hi:i<p.ns.length):Qaf Tryz.prog 28 [pgV p,.int .i64 (i:Int)] (.tup [pV (Qba p i p.as_.length),.int .i64 0]):=by
 have hP:=Zyb p hf i;unfold Zqu at hP;rw [show Qil p (i:Int)=0 by unfold Qil;rw [if_pos v,if_pos ⟨by omega,by omega⟩,if_neg h],if_pos rfl,Int.toNat_natCast]at hP;exact hP
def atV (P:List Sg) (t:Int):V3:=if Qbs P=true then(if lasts P t=true then⟨rnd (exQ P t 0) (exO P t),rnd (exQ P t 1) (exO P t),rnd (exQ P t 2) (exO P t)⟩else v0)else v0
def atE (P:List Sg) (t:Int):Int:=if Qbs P=true then(if lasts P t=true then 0 else 3)else 2
theorem Zxa (P:List Sg) (t:Int):atPV P t= .tup [.agg [.int .i64 (atV P t).x,.int .i64 (atV P t).y,.int .i64 (atV P t).z],.int .i64 (atE P t)]:=by
 unfold atPV atV atE;split
 ·split<;>rfl
 ·rfl
theorem At_v (P:List Sg) (t:Int) (hV:Qbs P=true) (ht:i64 t):Qaf Tryz.prog 29 [.slc (P.map sgV),.int .i64 t] (.tup [.agg [.int .i64 (atV P t).x,.int .i64 (atV P t).y,.int .i64 (atV P t).z],.int .i64 (atE P t)]):=by
 have h:=Z10 P t (Qox hV) (by have:=(Qdv hV).2.2;omega) ht;rw [Zxa]at h;exact h
theorem Qx2 (P:List Sg) (t:Int):ptB (atV P t)=true:=by
 have h0:ptB v0=true:=by decide
 unfold atV;by_cases hV:Qbs P=true
 ·rw [if_pos hV];by_cases hL:lasts P t=true
  ·rw [if_pos hL];have hx:=(Zyl (Qox hV) hV hL).1;have h1:=hx 0 (by decide);have h2:=hx 1 (by decide);have h3:=hx 2 (by decide);simp only [ptB,inB,Bool.and_eq_true,Bool.not_eq_true',Bool.or_eq_false_iff,decide_eq_false_iff_not];omega
  ·rw [if_neg hL];exact h0
 ·rw [if_neg hV];exact h0
set_option maxRecDepth 100000 in
theorem Zxb (x y z:Int) (hx: -16777216≤x∧x≤16777216) (hy: -16777216≤y∧y≤16777216) (hz: -16777216≤z∧z≤16777216):Qaf Tryz.prog 89 [.int .i64 16777216,.slc [.int .i64 x,.int .i64 y,.int .i64 z]] (.bool true):=by
 skip
 have w0:IntKind.i64.wrap (0-16777216)= -16777216:=rfl;have w1:IntKind.i64.wrap 1=1:=rfl;have w2:IntKind.i64.wrap 2=2:=rfl;have w3:IntKind.i64.wrap 3=3:=rfl;have a1:=eq_false (show¬x< -16777216 by omega);have a2:=eq_false (show¬16777216<x by omega);have a3:=eq_false (show¬y< -16777216 by omega);have a4:=eq_false (show¬16777216<y by omega);have a5:=eq_false (show¬z< -16777216 by omega);have a6:=eq_false (show¬16777216<z by omega);have w00:IntKind.i64.wrap (-16777216)= -16777216:=rfl;refine Qab (tb:=[]) 23 [.tmp 4] [0,1,4,6,7,8,9,10,21] mixed Tryz.func89 rfl (by kernel_rfl) ?_;repeat simp -implicitDefEqProofs only [go_sem,seval,List.length_cons,List.length_nil,kc3]
 refine Qkh mixed [0,1,2,3] ?_;repeat simp -implicitDefEqProofs only [go_sem,seval,List.getElem?_cons_zero,List.getElem?_cons_succ,w00,w1,w2,w3,a1,a2,a3,a4,a5,a6,decide_false]
theorem Qx3 (v:V3) (h:ptB v=true):Qaf Tryz.prog 65 [.agg [.int .i64 v.x,.int .i64 v.y,.int .i64 v.z]] (.bool true):=by
 have b:=Qqa h;have i:=Zxb v.x v.y v.z (by omega) (by omega) (by omega);refine Qab (tb:=[]) 11 [.tmp 2] [0,1,2] mixed Tryz.func65 rfl (by kernel_rfl) ?_;repeat (first|simp -implicitDefEqProofs only [go_sem,seval]|(with_reducible refine Qaa i ?_ ?_ ?_);rfl;rfl)
theorem Quz (x y w:Int) (h:IntKind.i64.wrap (x-y)=w):Qaf Tryz.prog 67 [.int .i64 x,.int .i64 y] (.int .i64 w):=by
 refine Qab (tb:=[]) 8 [.tmp 4] [0,1,4] mixed Tryz.func67 rfl (by kernel_rfl) ?_;repeat simp -implicitDefEqProofs only [go_sem,seval,h]
theorem Zqb (a b:V3) (ha:ptB a=true) (hb:ptB b=true):Qaf Tryz.prog 66 [.agg [.int .i64 a.x,.int .i64 a.y,.int .i64 a.z],.agg [.int .i64 b.x,.int .i64 b.y,.int .i64 b.z],.fn 67 [] []] (.agg [.int .i64 (a.x-b.x),.int .i64 (a.y-b.y),.int .i64 (a.z-b.z)]):=by
 have b1:=Qqa ha;have b2:=Qqa hb;have d1:=Quz a.x b.x (a.x-b.x) (Qag (by omega) (by omega));have d2:=Quz a.y b.y (a.y-b.y) (Qag (by omega) (by omega));have d3:=Quz a.z b.z (a.z-b.z) (Qag (by omega) (by omega));refine Qab (tb:=[]) 26 [.cell 6 52] [0,1,2,3,4,6] mixed Tryz.func66 rfl (by kernel_rfl) ?_;repeat (first|simp -implicitDefEqProofs only [go_sem,seval]|(with_reducible refine Qaa d1 ?_ ?_ ?_);rfl;rfl|(with_reducible refine Qaa d2 ?_ ?_ ?_);rfl;rfl|(with_reducible refine Qaa d3 ?_ ?_ ?_);rfl;rfl|(with_reducible exact Qad _ _ (by kernel_rfl)))
theorem Qz0 {x:Int} (h: -4194304≤x∧x≤4194304):0≤x*x∧x*x≤17592186044416:=by
 have h0:0≤x*x:=by
  rcases Int.le_total 0 x with h|h
  ·exact Int.mul_nonneg h h
  ·exact Int.mul_nonneg_of_nonpos_of_nonpos h h
 have h1:0≤(4194304-x)*(4194304+x):=Int.mul_nonneg (by omega) (by omega);rw [Int.sub_mul,Int.mul_add,Int.mul_add]at h1;omega
def sqS (x y z:Int):Int:=x*x+y*y+z*z
theorem Zxc (x y z:Int) (hx: -4194304≤x∧x≤4194304) (hy: -4194304≤y∧y≤4194304) (hz: -4194304≤z∧z≤4194304):Qaf Tryz.prog 68 [.agg [.int .i64 x,.int .i64 y,.int .i64 z],.agg [.int .i64 x,.int .i64 y,.int .i64 z]] (.int .i64 (sqS x y z)):=by
 have b1:=Qz0 hx;have b2:=Qz0 hy;have b3:=Qz0 hz;unfold sqS;generalize hX:x*x=X at*;generalize hY:y*y=Y at*;generalize hZ:z*z=Z at*;have w1:IntKind.i64.wrap X=X:=Qag (by omega) (by omega);have w2:IntKind.i64.wrap Y=Y:=Qag (by omega) (by omega);have w3:IntKind.i64.wrap Z=Z:=Qag (by omega) (by omega);have w4:IntKind.i64.wrap (X+Y)=X+Y:=Qag (by omega) (by omega);have w5:IntKind.i64.wrap (X+Y+Z)=X+Y+Z:=Qag (by omega) (by omega);refine Qab (tb:=[]) 22 [.tmp 4] [0,1,2,3,4] mixed Tryz.func68 rfl (by kernel_rfl) ?_;repeat simp -implicitDefEqProofs only [go_sem,seval,hX,hY,hZ,w1,w2,w3,w4,w5]
def d2V (a b:V3):Int:=sqS (a.x-b.x) (a.y-b.y) (a.z-b.z)
theorem Zxd {a b:V3} (ha:ptB a=true) (hb:ptB b=true):0≤d2V a b∧d2V a b≤100000000000000:=by
 have b1:=Qqa ha;have b2:=Qqa hb;have q1:=Qz0 (x:=a.x-b.x) (by omega);have q2:=Qz0 (x:=a.y-b.y) (by omega);have q3:=Qz0 (x:=a.z-b.z) (by omega);unfold d2V sqS;omega
theorem Zen (a:V3):d2V a a=0:=by
 unfold d2V sqS;simp
theorem Q47 (a b:V3) (ha:ptB a=true) (hb:ptB b=true):Qaf Tryz.prog 40 [.agg [.int .i64 a.x,.int .i64 a.y,.int .i64 a.z],.agg [.int .i64 b.x,.int .i64 b.y,.int .i64 b.z]] (.tup [.int .i64 (d2V a b),.int .i64 0]):=by
 have b1:=Qqa ha;have b2:=Qqa hb;have v1:=Qx3 a ha;have v2:=Qx3 b hb;have j:=Zqb a b ha hb;have d:=Zxc (a.x-b.x) (a.y-b.y) (a.z-b.z) (by omega) (by omega) (by omega);unfold d2V;generalize a.x-b.x=dx at*;generalize a.y-b.y=dy at*;generalize a.z-b.z=dz at*;refine Qab (tb:=[]) 21 [.tmp 4,.tmp 5] [0,1,2,3,4,5,6,14] mixed Tryz.func40 rfl (by kernel_rfl) ?_;repeat (first|simp -implicitDefEqProofs only [go_sem,seval,Bool.not_true]|(with_reducible refine Qaa v1 ?_ ?_ ?_);rfl;rfl|(with_reducible refine Qaa v2 ?_ ?_ ?_);rfl;rfl|(with_reducible refine Qaa j ?_ ?_ ?_);rfl;rfl|(with_reducible refine Qaa d ?_ ?_ ?_);rfl;rfl)
def dvV (d:Dv):PV:= .agg [.int .i64 d.i,.int .i64 d.a,.int .i64 d.t,.int .i64 d.q]
abbrev dvB (D:List Dv):Box:={els:=D.map dvV,esz:=4,ety:=33,fro:=0,live:=true,arr:=true}
theorem Q48 (D:List Dv):(((D.map dvV).flatMap PV.cells).all PV.okCell)=true:=by
 rw [List.all_flatMap,List.all_map,List.all_eq_true];intro _ _;rfl
def sqR (p:Pg) (s:Int) (r:Rc):Int:=d2V (atV (Qba p (r.a-1).toNat p.as_.length) (min (max (r.t-s) 0) (begT p p.as_.length))) r.v
abbrev dvs (p:Pg) (s:Int) (L:List Rc) (i:Nat):List Dv:=devs p.ns.length s (sqR p s) L i
set_option maxHeartbeats 8000000 in
set_option maxRecDepth 100000 in
theorem Zxe (p:Pg) (hf:FewP p) (v:Qbd p=true) (hN:p.as_.length≠0) (s:Int) (hs:0≤s∧s≤3600000) (L:List Rc) (hl:L.length≤100000) (hL: ∀k,k<L.length→recB (L.getD k rc0)=true):
  Qaf Tryz.prog 13 [pgV p,.slc (L.map rcV),.int .i64 s] (.slc ((dvs p s L L.length).map dvV)):=by
 have hend:=Q6a p v p.as_.length (Nat.le_refl _) ((p.as_.length:Int)-1) rfl;have hbt:=Qd3 v (k:=p.as_.length) (Nat.le_refl _);have hpa:=(Qc8 v).2.1;have hw1:IntKind.i64.wrap ((p.as_.length:Int)-1)=(p.as_.length:Int)-1:=Qag (by omega) (by omega);have hdl: ∀i,(dvs p s L i).length≤i:=fun i=>Qew p.ns.length s (sqR p s) L i;have e0:dvs p s L 0=[]:=rfl;unfold pgV at hend ⊢;refine Qab (tb:=[]) 92 [.tmp 6] [0,1,2,3,6,7,8,9,10,11,13,15,20,45] mixed Tryz.func13 rfl (by kernel_rfl) ?_;repeat simp -implicitDefEqProofs only [go_sem,seval]
 refine Qas mixed (fun i:{i:Nat // i≤L.length}=>St.of [(1,.slc (L.map rcV)),(2,.int .i64 s),(3,.bp 0 3 0 0),(7,.bs 7 4 0 (dvs p s L i.1).length),(8,.int .i64 (i.1:Int))]
  [(0,{els:=[.agg [.slc (p.ns.map PV.str),.slc (p.hs.map v3PV),.slc (p.as_.map acV)]],esz:=3,ety:=26,fro:=0,live:=true,arr:=false}),(7,dvB (dvs p s L i.1))]) (fun i=>L.length-i.1) ⟨0,Nat.zero_le _⟩ ?_ ?_
 ·refine Qnw 7 7 4 33 rfl rfl rfl (by decide) [(7,7),(0,0)] rfl ?_ ?_
  ·simp [Qac,lkp,ren1,ren0,Qah,e0]
  ·simp only [e0];exact⟨⟨rfl,rfl,rfl,rfl,rfl,.inr ⟨rfl,_,_,rfl,rfl,rfl,rfl⟩⟩,⟨rfl,rfl,rfl,rfl,rfl,.inl ⟨rfl,rfl⟩⟩,trivial⟩
 ·rintro⟨i,hi⟩;simp only;by_cases hA:i<L.length
  ·have hA':=ltE hA;have n0:=nnE i;have hg:=Qga L i hA;have hwi:=wrE (n:=i) (by omega);have hfi:=hL i hA;have hln:=hdl i;have hst:dvs p s L (i+1)=dvs p s L i++dv1 p.ns.length s (sqR p s) i (L.getD i rc0):=rfl;unfold dv1 isP at hst;generalize L.getD i rc0=r at*;have hT:=Qcq hfi;have htw:IntKind.i64.wrap (r.t-s)=r.t-s:=Qag (by omega) (by omega);have haw:IntKind.i64.wrap (r.a-1)=r.a-1:=Qag (by omega) (by omega);cases hk:(r.k==1)with
   |false=>
    have hk':(r.k != 1)=true:=by simp [bne,hk]
    rw [bq,hk,Bool.false_and,if_neg (by decide),List.append_nil]at hst;repeat simp -implicitDefEqProofs only [go_sem,seval,hA',n0,hg,hwi,haw,hk',Int.toNat_natCast,List.length_map]
    refine⟨⟨i+1,hA⟩,by simp only;omega,?_⟩;simp only [hst];refine Qaj (θ:=[(0,0),(7,7)]) rfl ?_ ?_
    ·simp [Qac,lkp,ren1,ren0,Qah]
    ·exact⟨⟨rfl,rfl,rfl,rfl,rfl,.inr ⟨rfl,_,_,rfl,rfl,rfl,rfl⟩⟩,⟨rfl,rfl,rfl,rfl,rfl,.inl ⟨rfl,rfl⟩⟩,trivial⟩
   |true=>
   have hk':(r.k != 1)=false:=by simp [bne,hk]
   have hk1:=beq_iff_eq.1 hk;have ha1:1≤r.a:=by rcases hT.2.2 with q|q|q<;>omega
   have hng:=eq_false (show¬r.a-1<0 by omega);rw [bq,hk,Bool.true_and,decide_eq_true ha1,Bool.true_and]at hst;by_cases haN:r.a≤(p.ns.length:Int)
   case neg=>
    have haN':=eq_true (show(p.ns.length:Int)≤r.a-1 by omega);rw [decide_eq_false haN,if_neg (by decide),List.append_nil]at hst;repeat simp -implicitDefEqProofs only [go_sem,seval,hA',n0,hg,hwi,haw,hk',hng,haN',decide_true,decide_false,Int.toNat_natCast,List.length_map]
    refine⟨⟨i+1,hA⟩,by simp only;omega,?_⟩;simp only [hst];refine Qaj (θ:=[(0,0),(7,7)]) rfl ?_ ?_
    ·simp [Qac,lkp,ren1,ren0,Qah]
    ·exact⟨⟨rfl,rfl,rfl,rfl,rfl,.inr ⟨rfl,_,_,rfl,rfl,rfl,rfl⟩⟩,⟨rfl,rfl,rfl,rfl,rfl,.inl ⟨rfl,rfl⟩⟩,trivial⟩
   have haN':=eq_false (show¬(p.ns.length:Int)≤r.a-1 by omega);rw [decide_eq_true haN,if_pos rfl]at hst;obtain⟨m,hm⟩: ∃m:Nat,r.a=(m:Int)+1:=⟨(r.a-1).toNat,by omega⟩;have hmN:m<p.ns.length:=by omega
   have hma:r.a-1=(m:Int):=by omega
   have hpt:ptB r.v=true:=by rcases hT.2.2 with q|q|q<;>first|exact q.2.1|omega
   have hA:=At_v (Qba p m p.as_.length) (min (max (r.t-s) 0) (begT p p.as_.length)) (Qp7 v hN hmN) (by unfold i64;omega);have hat:=Qx2 (Qba p m p.as_.length) (min (max (r.t-s) 0) (begT p p.as_.length));have hsq:sqR p s r=d2V (atV (Qba p m p.as_.length) (min (max (r.t-s) 0) (begT p p.as_.length))) r.v:=by unfold sqR;rw [hma,Int.toNat_natCast]
   have hD:=Q47 (atV (Qba p m p.as_.length) (min (max (r.t-s) 0) (begT p p.as_.length))) r.v hat hpt;rw [hsq]at hst;generalize atV (Qba p m p.as_.length) (min (max (r.t-s) 0) (begT p p.as_.length))=av at*;generalize atE (Qba p m p.as_.length) (min (max (r.t-s) 0) (begT p p.as_.length))=ae at*;generalize d2V av r.v=qq at*;have hP:=Qxz hf v hN hmN;unfold pgV pV at hP;have hlt:((dvs p s L i).map dvV).length=(dvs p s L i).length:=List.length_map ..;have hok:=Q48 (dvs p s L i);have k1:(((dvs p s L i).length+1)*32≤140737488355328)=True:=eq_true (by omega);have k2:((dvs p s L i).length+1≤maxLen)=True:=eq_true (by unfold maxLen;omega)
   replace haw:=haw.trans hma
   rw [hma]at hng haN' hst;repeat (first|simp -implicitDefEqProofs only [go_sem,seval,hA',n0,hg,hwi,haw,htw,hk',hng,haN',hw1,hlt,hok,k1,k2,Znt,Zdz,decide_true,decide_false,Int.toNat_natCast,List.length_map]|(with_reducible refine Qaa hP ?_ ?_ ?_);rfl;rfl|(with_reducible refine Qaa hend ?_ ?_ ?_);rfl;rfl|(with_reducible refine Qaa hA ?_ ?_ ?_);rfl;rfl|(with_reducible refine Qaa hD ?_ ?_ ?_);rfl;rfl|(with_reducible refine And.intro (Qad _ _ (by kernel_rfl)) ?_))
   refine⟨⟨i+1, ‹_›⟩,by simp only;omega,?_⟩;simp only [hst,dvB,List.map_append,List.length_append];refine Qaj (θ:=[(0,0),(7,1107)]) rfl ?_ ?_
   ·simp [Qac,lkp,ren1,ren0,Qah]
   ·exact⟨⟨rfl,rfl,rfl,rfl,rfl,.inr ⟨rfl,_,_,rfl,rfl,rfl,rfl⟩⟩,⟨rfl,rfl,rfl,rfl,rfl,.inl ⟨rfl,rfl⟩⟩,trivial⟩
  ·have hA':=ltE' hA;obtain rfl:i=L.length:=by omega
   have hlt:((dvs p s L L.length).map dvV).length=(dvs p s L L.length).length:=List.length_map ..;have htk:((dvs p s L L.length).map dvV).take (dvs p s L L.length).length=(dvs p s L L.length).map dvV:=List.take_of_length_le (by omega);repeat simp -implicitDefEqProofs only [go_sem,seval,hA',hlt,htk,List.length_map]
theorem Qii (t g:Int):Qaf Tryz.prog 16 [.agg [.int .i64 t,.int .i64 g]] (.bool (wiB t 0 1000000&&wiB g 1 3600000)):=by
 have w1:=Quv t 0 1000000;have w2:=Quv g 1 3600000;cases e:wiB t 0 1000000 with
 |false=>
  rw [e]at w1;refine Qab (tb:=[]) 11 [.tmp 2] [0,1,2] mixed Tryz.func16 rfl (by kernel_rfl) ?_;repeat (first|simp -implicitDefEqProofs only [go_sem,seval,Bool.false_and]|(with_reducible refine Qaa w1 ?_ ?_ ?_);rfl;rfl)
 |true=>
  rw [e]at w1;refine Qab (tb:=[]) 11 [.tmp 2] [0,1,2] mixed Tryz.func16 rfl (by kernel_rfl) ?_;repeat (first|simp -implicitDefEqProofs only [go_sem,seval,Bool.true_and]|(with_reducible refine Qaa w1 ?_ ?_ ?_);rfl;rfl|(with_reducible refine Qaa w2 ?_ ?_ ?_);rfl;rfl)
def Qz1 (p:Pg) (s:Int):Int:=if(Qbd p&&wiB s 0 3600000)=true then 0 else 2
theorem Qu0 (p:Pg) (hf:FewP p) (L:List Rc) (s:Int):Qaf Tryz.prog 34 [pgV p,lgR L,.int .i64 s] (.int .i64 (Qz1 p s)):=by
 have hV:=Qgc p (Qgb hf);have w:=Quv s 0 3600000;unfold Qz1;cases e:Qbd p with
 |false=>
  rw [e]at hV;unfold pgV at hV ⊢;rw [Bool.false_and,if_neg (by decide)];refine Qab (tb:=[]) 17 [.tmp 6] [0,1,2,3,6,7,10] mixed Tryz.func34 rfl (by kernel_rfl) ?_;repeat (first|simp -implicitDefEqProofs only [go_sem,seval,lgR,Bool.not_false]|(with_reducible refine Qaa hV ?_ ?_ ?_);rfl;rfl)
 |true=>
  rw [e]at hV;unfold pgV at hV ⊢;rw [Bool.true_and];cases e2:wiB s 0 3600000 with
  |false=>
   rw [e2]at w;rw [if_neg (by decide)];refine Qab (tb:=[]) 17 [.tmp 6] [0,1,2,3,6,7,10] mixed Tryz.func34 rfl (by kernel_rfl) ?_;repeat (first|simp -implicitDefEqProofs only [go_sem,seval,lgR,Bool.not_false,Bool.not_true]|(with_reducible refine Qaa hV ?_ ?_ ?_);rfl;rfl|(with_reducible refine Qaa w ?_ ?_ ?_);rfl;rfl)
  |true=>
   rw [e2]at w;rw [if_pos rfl];refine Qab (tb:=[]) 17 [.tmp 6] [0,1,2,3,6,7,10] mixed Tryz.func34 rfl (by kernel_rfl) ?_;repeat (first|simp -implicitDefEqProofs only [go_sem,seval,lgR,Bool.not_true]|(with_reducible refine Qaa hV ?_ ?_ ?_);rfl;rfl|(with_reducible refine Qaa w ?_ ?_ ?_);rfl;rfl)
abbrev ddB (nm n:Nat):Box:={els:=[.bs nm 4 0 n],esz:=1,ety:=38,fro:=0,live:=true,arr:=false}
abbrev stB (s:Int):Box:={els:=[.int .i64 s],esz:=1,ety:=3,fro:=0,live:=true,arr:=false}
set_option maxHeartbeats 8000000 in
set_option maxRecDepth 100000 in
theorem Q49 (p:Pg) (hf:FewP p) (v:Qbd p=true) (hN:p.as_.length≠0) (s:Int) (hs:0≤s∧s≤3600000) (L:List Rc) (hl:L.length≤100000) (hL: ∀k,k<L.length→recB (L.getD k rc0)=true):
  Qaf Tryz.prog 37 [pgV p,lgR L,.int .i64 s] (.slc ((dvs p s L L.length).map dvV)):=by
 have hPs:=Zp4 p hf;unfold Quu at hPs;rw [if_pos v,if_neg hN]at hPs;have hLe:=Qqd p (Qgb hf) v;have hbt:=Qd3 v (k:=p.as_.length) (Nat.le_refl _);have hal:=Qyf p;have hgA: ∀i,i<p.ns.length→(allL p)[i]? =some (pV (Qba p i p.as_.length)):=fun i h=>Qyg h;have hdl: ∀i,(dvs p s L i).length≤i:=fun i=>Qew p.ns.length s (sqR p s) L i;have e0:dvs p s L 0=[]:=rfl;have ha:=Qyb L;have hY:=Qyc L hl;have hlO:=Qij L;have hgO:=fun i h=>Qik L i h;have hn5:=hf.1;generalize allO L=OO at*;generalize hAL:allL p=AL at*;unfold pgV at hPs hLe ⊢;refine Qab (tb:=[]) 79 [.tmp 6] [0,1,2,3,5,6,7,9,11,12,13,14,15,17,30,31,32,42] mixed Tryz.func37 rfl (by kernel_rfl) ?_;repeat (first|simp -implicitDefEqProofs only [go_sem,seval,lgR]|(with_reducible refine Qaa hPs ?_ ?_ ?_);rfl;rfl|(with_reducible refine Qaa hLe ?_ ?_ ?_);rfl;rfl|(with_reducible refine Qaa ha ?_ ?_ ?_);rfl;rfl)
 refine Qi1 (Qqr 300 7 4 33 rfl rfl rfl rfl rfl (by decide)) ?_;refine Qh6 mixed hY rfl rfl _ rfl [(1000001,1),(1000002,105),(1000003,205),(1000004,300),(7,7)] [1000001,1000002,1000003,1000004] rfl [(5,.bp 1000001 1 0 0),(7,.bp 1000002 1 0 0),(9,.bp 1000003 1 0 0),(11,.bp 1000004 1 0 0)]
  (fun j:Nat=>[(1000001,stB s),(1000002,{els:=[.slc AL],esz:=1,ety:=122,fro:=0,live:=true,arr:=false}),(1000003,stB (begT p p.as_.length)),(1000004,ddB 7 (dvs p s L j).length),(7,dvB (dvs p s L j))]) rfl rfl ?_ ?_ ?_ L.length .normal (fun h=>by omega) (fun j _ _=>by simp [lkp]) ?_ rfl ?_
  [(300,1000004),(7,7)] [(11,.bp 300 1 0 0)] [(300,ddB 7 (dvs p s L L.length).length),(7,dvB (dvs p s L L.length))] rfl rfl ?_ ?_ (fun _=> ?_) (fun h=>by omega)
 ·simp [Qac,lkp,ren1,ren0,Qah]
 ·simp only [e0];exact⟨⟨rfl,rfl,rfl,rfl,rfl,.inr ⟨rfl,_,_,rfl,rfl,rfl,rfl⟩⟩,⟨rfl,rfl,rfl,rfl,rfl,.inr ⟨rfl,_,_,rfl,rfl,rfl,rfl⟩⟩,⟨rfl,rfl,rfl,rfl,rfl,.inr ⟨rfl,_,_,rfl,rfl,rfl,rfl⟩⟩,⟨rfl,rfl,rfl,rfl,rfl,.inr ⟨rfl,_,_,rfl,rfl,rfl,rfl⟩⟩,⟨rfl,rfl,rfl,rfl,rfl,.inl ⟨rfl,rfl⟩⟩,trivial⟩
 ·simp [Qac,lkp,ren1,ren0,Qah,Qki]
 ·intro j args h;rw [hgO j (by rw [←hlO];exact(List.getElem?_eq_some_iff.1 h).1)]at h;cases h;rfl
 ·rintro j args hja hjs;have hj:j<L.length:=by rw [←hlO];exact(List.getElem?_eq_some_iff.1 hja).1
  rw [hgO j hj]at hja;cases hja;have hfi:=hL j hj;have hln:=hdl j;have hst:dvs p s L (j+1)=dvs p s L j++dv1 p.ns.length s (sqR p s) j (L.getD j rc0):=rfl;unfold dv1 isP at hst;generalize L.getD j rc0=r at*;simp only [Qqb r];have hT:=Qcq hfi;have htw:IntKind.i64.wrap (r.t-s)=r.t-s:=Qag (by omega) (by omega);have haw:IntKind.i64.wrap (r.a-1)=r.a-1:=Qag (by omega) (by omega);cases hk:(r.k==1)with
  |false=>
   have hk':(r.k != 1)=true:=by simp [bne,hk]
   rw [bq,hk,Bool.false_and,if_neg (by decide),List.append_nil]at hst;repeat simp -implicitDefEqProofs only [go_sem,seval,pvars,List.toList_toArray]
   refine⟨by simp [lkp],?_⟩;repeat simp -implicitDefEqProofs only [go_sem,seval,hk']
   refine⟨hj,?_⟩;simp only [hst,dvB,List.map_append,List.length_append];refine Qaj (θ:=[(1000001,1000001),(1000002,1000002),(1000003,1000003),(1000004,1000004),(7,7)]) rfl ?_ ?_
   ·simp [Qac,lkp,ren1,ren0,Qah]
   ·exact⟨⟨rfl,rfl,rfl,rfl,rfl,.inr ⟨rfl,_,_,rfl,rfl,rfl,rfl⟩⟩,⟨rfl,rfl,rfl,rfl,rfl,.inr ⟨rfl,_,_,rfl,rfl,rfl,rfl⟩⟩,⟨rfl,rfl,rfl,rfl,rfl,.inr ⟨rfl,_,_,rfl,rfl,rfl,rfl⟩⟩,⟨rfl,rfl,rfl,rfl,rfl,.inr ⟨rfl,_,_,rfl,rfl,rfl,rfl⟩⟩,⟨rfl,rfl,rfl,rfl,rfl,.inl ⟨rfl,rfl⟩⟩,trivial⟩
  |true=>
  have hk':(r.k != 1)=false:=by simp [bne,hk]
  have hk1:=beq_iff_eq.1 hk;have ha1:1≤r.a:=by rcases hT.2.2 with q|q|q<;>omega
  rw [bq,hk,Bool.true_and,decide_eq_true ha1,Bool.true_and]at hst;by_cases haN:r.a≤(p.ns.length:Int)
  case neg=>
   have haN':=eq_true (show(p.ns.length:Int)<r.a by omega);rw [decide_eq_false haN,if_neg (by decide),List.append_nil]at hst;repeat simp -implicitDefEqProofs only [go_sem,seval,pvars,List.toList_toArray]
   refine⟨by simp [lkp],?_⟩;repeat simp -implicitDefEqProofs only [go_sem,seval,hk',haN',hal,decide_true]
   refine⟨hj,?_⟩;simp only [hst,dvB,List.map_append,List.length_append];refine Qaj (θ:=[(1000001,1000001),(1000002,1000002),(1000003,1000003),(1000004,1000004),(7,7)]) rfl ?_ ?_
   ·simp [Qac,lkp,ren1,ren0,Qah]
   ·exact⟨⟨rfl,rfl,rfl,rfl,rfl,.inr ⟨rfl,_,_,rfl,rfl,rfl,rfl⟩⟩,⟨rfl,rfl,rfl,rfl,rfl,.inr ⟨rfl,_,_,rfl,rfl,rfl,rfl⟩⟩,⟨rfl,rfl,rfl,rfl,rfl,.inr ⟨rfl,_,_,rfl,rfl,rfl,rfl⟩⟩,⟨rfl,rfl,rfl,rfl,rfl,.inr ⟨rfl,_,_,rfl,rfl,rfl,rfl⟩⟩,⟨rfl,rfl,rfl,rfl,rfl,.inl ⟨rfl,rfl⟩⟩,trivial⟩
  have haN':=eq_false (show¬(p.ns.length:Int)<r.a by omega);rw [decide_eq_true haN,if_pos rfl]at hst;obtain⟨m,hm⟩: ∃m:Nat,r.a=(m:Int)+1:=⟨(r.a-1).toNat,by omega⟩;have hmN:m<p.ns.length:=by omega
  have hma:r.a-1=(m:Int):=by omega
  have hpt:ptB r.v=true:=by rcases hT.2.2 with q|q|q<;>first|exact q.2.1|omega
  have hA:=At_v (Qba p m p.as_.length) (min (max (r.t-s) 0) (begT p p.as_.length)) (Qp7 v hN hmN) (by unfold i64;omega);have hat:=Qx2 (Qba p m p.as_.length) (min (max (r.t-s) 0) (begT p p.as_.length));have hsq:sqR p s r=d2V (atV (Qba p m p.as_.length) (min (max (r.t-s) 0) (begT p p.as_.length))) r.v:=by unfold sqR;rw [hma,Int.toNat_natCast]
  have hD:=Q47 (atV (Qba p m p.as_.length) (min (max (r.t-s) 0) (begT p p.as_.length))) r.v hat hpt;rw [hsq]at hst;generalize atV (Qba p m p.as_.length) (min (max (r.t-s) 0) (begT p p.as_.length))=av at*;generalize atE (Qba p m p.as_.length) (min (max (r.t-s) 0) (begT p p.as_.length))=ae at*;generalize d2V av r.v=qq at*;have hgm:=hgA m hmN;unfold pV at hgm;have hlt:((dvs p s L j).map dvV).length=(dvs p s L j).length:=List.length_map ..;have hok:=Q48 (dvs p s L j);have k1:(((dvs p s L j).length+1)*32≤140737488355328)=True:=eq_true (by omega);have k2:((dvs p s L j).length+1≤maxLen)=True:=eq_true (by unfold maxLen;omega);have n0:=nnE m;have hmN':=ltE hmN
  replace haw:=haw.trans hma
  rw [hma]at hst;repeat simp -implicitDefEqProofs only [go_sem,seval,pvars,List.toList_toArray]
  refine⟨by simp [lkp],?_⟩;repeat (first|simp -implicitDefEqProofs only [go_sem,seval,hk',haN',hal,haw,htw,n0,hgm,hlt,hok,k1,k2,Znt,Zdz,decide_true,decide_false,Int.toNat_natCast]|(with_reducible refine Qaa hA ?_ ?_ ?_);rfl;rfl|(with_reducible refine Qaa hD ?_ ?_ ?_);rfl;rfl|(with_reducible refine And.intro (Qad _ _ (by kernel_rfl)) ?_))
  refine⟨hj,?_⟩;simp only [hst,dvB,List.map_append,List.length_append];refine Qaj (θ:=[(1000001,1000001),(1000002,1000002),(1000003,1000003),(1000004,1000004),(7,1109)]) rfl ?_ ?_
  ·simp [Qac,lkp,ren1,ren0,Qah]
  ·exact⟨⟨rfl,rfl,rfl,rfl,rfl,.inr ⟨rfl,_,_,rfl,rfl,rfl,rfl⟩⟩,⟨rfl,rfl,rfl,rfl,rfl,.inr ⟨rfl,_,_,rfl,rfl,rfl,rfl⟩⟩,⟨rfl,rfl,rfl,rfl,rfl,.inr ⟨rfl,_,_,rfl,rfl,rfl,rfl⟩⟩,⟨rfl,rfl,rfl,rfl,rfl,.inr ⟨rfl,_,_,rfl,rfl,rfl,rfl⟩⟩,⟨rfl,rfl,rfl,rfl,rfl,.inl ⟨rfl,rfl⟩⟩,trivial⟩
 ·simp [Qac,lkp,ren1,ren0,Qah]
 ·have hm:min OO.length (L.length+1)=L.length:=by omega
  rw [hm];exact⟨⟨rfl,rfl,rfl,rfl,rfl,.inr ⟨rfl,_,_,rfl,rfl,rfl,rfl⟩⟩,⟨rfl,rfl,rfl,rfl,rfl,.inl ⟨rfl,rfl⟩⟩,trivial⟩
 ·have hlt:((dvs p s L L.length).map dvV).length=(dvs p s L L.length).length:=List.length_map ..;have htk:((dvs p s L L.length).map dvV).take (dvs p s L L.length).length=(dvs p s L L.length).map dvV:=List.take_of_length_le (by omega);repeat simp -implicitDefEqProofs only [go_sem,seval,hlt,htk]
end Go.Proofs.YtnohfmdlaajpbaaGreat

namespace Go.Dg
theorem Qh7 (N:Nat) (s:Int) (L:List Rc): ∀i,(unks N s L i).length≤i
 |0=>Nat.le_refl _
 |i+1=>by
  have:=Qh7 N s L i;simp only [unks,List.length_append];have:(unk1 N s i (L.getD i rc0)).length≤1:=by unfold unk1;split<;>simp
  omega
theorem Qpp (g n len:Int) (D:List Dv): ∀i,(gapA g n len D i).out.length≤i
 |0=>Nat.le_refl _
 |i+1=>by
  have:=Qpp g n len D i;simp only [gapA];split
  ·simp only;split
   ·simp;omega
   ·omega
  ·omega
theorem Qrw (g n len:Int) (D:List Dv) (hl:0≤len∧len≤3600000): ∀i,0≤(gapA g n len D i).last∧(gapA g n len D i).last≤3600000
 |0=>by simp [gapA]
 |i+1=>by
  have:=Qrw g n len D hl i;simp only [gapA];split
  ·rename_i h;simp only [inD,Bool.and_eq_true]at h;have:=Qb7.1 h.2;simp only;omega
  ·exact this
theorem Q3q (g n len:Int) (p:Gp):(Qk9 g n len p).length≤1:=by
 unfold Qk9;split
 ·split<;>simp
 ·simp
theorem Qgz (t n:Int) (D:List Dv): ∀i,(offs t n D i).length≤i
 |0=>Nat.le_refl _
 |i+1=>by
  have:=Qgz t n D i;simp only [offs,List.length_append];have:(off1 t n (D.getD i dv0)).length≤1:=by unfold off1;split<;>simp
  omega
theorem Quf (s n:Int) (L:List Rc): ∀i,(stA s n L i).out.length≤i
 |0=>Nat.le_refl _
 |i+1=>by
  have:=Quf s n L i;simp only [stA];split
  ·simp only;split
   ·omega
   ·simp;omega
  ·omega
theorem Qg0 (g t s len:Int) (D:List Dv) (L:List Rc): ∀n,(ofTo g t s len D L n).length≤n*(2*D.length+L.length+1)
 |0=>by simp [ofTo]
 |n+1=>by
  have h0:=Qg0 g t s len D L n;have h1:=Qpp g (n:Int) len D D.length;have h2:=Q3q g (n:Int) len (gapA g n len D D.length);have h3:=Qgz t (n:Int) D D.length;have h4:=Quf s (n:Int) L L.length;have e:(n+1)*(2*D.length+L.length+1)=n*(2*D.length+L.length+1)+(2*D.length+L.length+1):=Nat.succ_mul _ _;rw [e];have e2:(ofTo g t s len D L (n+1)).length=(ofTo g t s len D L n).length+((gapA g (n:Int) len D D.length).out.length+(Qk9 g (n:Int) len (gapA g n len D D.length)).length+(offs t (n:Int) D D.length).length+(stA s (n:Int) L L.length).out.length):=by
   simp only [ofTo,ofN,List.length_append]
  generalize n*(2*D.length+L.length+1)=X at*;omega
def okD (D:List Dv):Prop:= ∀d∈D,(-3600000≤d.t∧d.t≤3600000)∧(0≤d.q∧d.q≤100000000000000)
theorem Zpa {D:List Dv} (h:okD D) {i:Nat} (hi:i<D.length):(-3600000≤(D.getD i dv0).t∧(D.getD i dv0).t≤3600000)∧(0≤(D.getD i dv0).q∧(D.getD i dv0).q≤100000000000000):=by
 rw [List.getD_eq_getElem?_getD,List.getElem?_eq_getElem hi];exact h _ (List.getElem_mem hi)
end Go.Dg
