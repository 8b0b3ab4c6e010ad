/-
  KB3, KB4, KM4, KB5, By, KB6, Dbe (merged for the claim).
-/
import Derived.Test.YtcaffiaempefjaaGreatDoorKB2
import Derived.Test.YtcaffiaempefjaaGreatDoorDsi
import Derived.Test.YtcaffiaempefjaaGreatDoorKN2
set_option linter.unusedSimpArgs false
set_option linter.unusedVariables false
namespace Go.Proofs.YtcaffiaempefjaaGreatDoor
open Go.Vl Go.RowKit Go.Dg
theorem Qtw {c:List Int} {k:Nat} (h:k<c.length):(c.map (PV.int .i64))[k]? =some (.int .i64 (c.getD k 0)):=by
 rw [List.getElem?_map,List.getElem?_eq_getElem h,List.getD_eq_getElem?_getD,List.getElem?_eq_getElem h];rfl
theorem Qwg {c:List Int} (hc: ∀x∈c,i64 x) {k:Nat} (h:k<c.length):i64 (c.getD k 0):=by
 rw [List.getD_eq_getElem?_getD,List.getElem?_eq_getElem h];exact hc _ (List.getElem_mem _)
theorem Zz3 (i k:Nat):fr (((i+1:Nat):Int)*((k+1:Nat):Int)) (((i+1+(k+1)-1:Nat)):Int)=ikQ (i+1) (k+1):=by
 unfold fr ikQ;have:(((i+1+(k+1)-1:Nat)):Int)=((i+1:Nat):Int)+((k+1:Nat):Int)-1:=by omega
 rw [this]
set_option maxHeartbeats 4000000 in
theorem Zz4 (c:List Int) (o:Int) (hc: ∀x∈c,i64 x) (h1:1≤c.length) (h6:c.length≤6) (ho:i64 o) (h0:o≠0) (hk:ok64 c):Qaf Tryz.prog 83 [.slc (c.map (PV.int .i64)),.int .i64 o] (ratQ (sqQ c o)):=by
 have hz:=Qi5 0 1 (by unfold i64;omega) (by unfold i64;omega) (by decide);have e0:fr 0 1=sqS c o 0:=(by decide+kernel:fr 0 1=0);rw [e0]at hz;obtain⟨b1,s1,b2,s2,e⟩:=Qbh (sqS c o 0);rw [e]at hz;have oa:o.natAbs<2^64:=Qa2 ho;refine Qab (tb:=[]) 46 [.cell 4 137] [0,1,4,5,6,7,12,18] mixed Tryz.func83 rfl (by kernel_rfl) ?_;repeat (first|simp -implicitDefEqProofs only [go_sem,seval]|(with_reducible refine Qaa hz ?_ ?_ ?_);rfl;rfl)
 rw [←e];refine Qat mixed (fun i:{i:Nat // i≤c.length-1}=>St.of [(0,.slc (c.map (PV.int .i64))),(1,.int .i64 o),(4,.bp 0 4 0 0),(5,.bp 101 4 0 0),(6,.int .i64 ((i.1+1:Nat):Int))] [(0,{els:=[zQ],esz:=4,ety:=137,fro:=0,live:=true,arr:=false}),(101,raB (sqS c o i.1))]) (fun i=>c.length-1-i.1) ⟨0,Nat.zero_le _⟩ ?_ ?_
 ·refine Qak (θ:=[(0,0),(101,101)]) rfl ?_ ?_
  ·simp [Qae,lkp,ren1,ren0,Qan]
  ·simp only [raB];rw [e];exact⟨⟨rfl,rfl,rfl,rfl,rfl,.inr ⟨rfl,_,_,rfl,rfl,rfl,rfl⟩⟩,⟨rfl,rfl,rfl,rfl,rfl,.inr ⟨rfl,_,_,rfl,rfl,rfl,rfl⟩⟩,trivial⟩
 ·rintro⟨i,hi⟩;simp only;by_cases hA:i+1<c.length
  ·have hA':=ltT hA;have n0:=nnT (i+1);have hwk:=Qai (a:=i+1) (by omega);have hg:=Qtw hA;have f1:=Qi5 (c.getD (i+1) 0) o (Qwg hc hA) ho h0;have e1:fr (c.getD (i+1) 0) o=coQ c o (i+1):=rfl;rw [e1]at f1;obtain⟨x1,x2,x3,x4,ex⟩:=Qbh (coQ c o (i+1));rw [ex]at f1;repeat simp -implicitDefEqProofs only [go_sem,seval,hA',List.length_map]
   refine Qat mixed (fun k:{k:Nat // k≤c.length-1}=>St.of [(0,.slc (c.map (PV.int .i64))),(1,.int .i64 o),(4,.bp 0 4 0 0),(5,.bp 101 4 0 0),(6,.int .i64 ((i+1:Nat):Int)),(7,.int .i64 ((k.1+1:Nat):Int))] [(0,{els:=[zQ],esz:=4,ety:=137,fro:=0,live:=true,arr:=false}),(101,raB (sqS c o i+sqR c o (i+1) k.1))]) (fun k=>c.length-1-k.1) ⟨0,Nat.zero_le _⟩ ?_ ?_
   ·refine Qak (θ:=[(0,0),(101,101)]) rfl ?_ ?_
    ·simp [Qae,lkp,ren1,ren0,Qan]
    ·have e2:sqS c o i+sqR c o (i+1) 0=sqS c o i:=Rat.add_zero _;simp only [raB,e2];exact⟨⟨rfl,rfl,rfl,rfl,rfl,.inr ⟨rfl,_,_,rfl,rfl,rfl,rfl⟩⟩,⟨rfl,rfl,rfl,rfl,rfl,.inr ⟨rfl,_,_,rfl,rfl,rfl,rfl⟩⟩,trivial⟩
   ·rintro⟨k,hk2⟩;simp only [raB];by_cases hB:k+1<c.length
    ·have hB':=ltT hB;have n1:=nnT (k+1);have hwk2:=Qai (a:=k+1) (by omega);have hg2:=Qtw hB;have f2:=Qi5 (c.getD (k+1) 0) o (Qwg hc hB) ho h0;have e2:fr (c.getD (k+1) 0) o=coQ c o (k+1):=rfl;rw [e2]at f2;have hmul:((i+1:Nat):Int)*((k+1:Nat):Int)≤5*5:=by
      have:=Nat.mul_le_mul (show i+1≤5 by omega) (show k+1≤5 by omega);omega
     have hmul0:0≤((i+1:Nat):Int)*((k+1:Nat):Int):=Int.mul_nonneg (by omega) (by omega);have f3:=Qi5 (((i+1:Nat):Int)*((k+1:Nat):Int)) ((i+1+(k+1)-1:Nat):Int) (by unfold i64;omega) (by unfold i64;omega) (by omega);rw [Zz3]at f3;have w1:IntKind.i64.wrap (((i+1:Nat):Int)*((k+1:Nat):Int))=((i+1:Nat):Int)*((k+1:Nat):Int):=Qah (by omega) (by omega);have w2:IntKind.i64.wrap (((i+1:Nat):Int)+((k+1:Nat):Int))=((i+1+(k+1):Nat):Int):=by rw [Qah (by omega) (by omega)];omega
     have w3:IntKind.i64.wrap (((i+1+(k+1):Nat):Int)-1)=((i+1+(k+1)-1:Nat):Int):=by rw [Qah (by omega) (by omega)];omega
     have t1:=Qpj hk oa h0 (i+1);have t2:=Qpj hk oa h0 (k+1);have t3:=Znw (i:=i+1) (k:=k+1) (by omega) (by omega) (by omega) (by omega);have f4:=Zfl t1 t2 t3 (by decide);have e4:coQ c o (i+1)*coQ c o (k+1)*ikQ (i+1) (k+1)=sqT c o (i+1) (k+1):=rfl;rw [e4]at f4;have t4:=Q4q hk oa h0 (i:=i+1) (k:=k+1) (by omega) (by omega) (by omega) (by omega);have t5:=Qhc (Q4s hk oa h0 h6 (i:=i) (by omega)) (Q4r hk oa h0 (i:=i+1) (k:=k) (by omega) (by omega) (by omega));have f5:=Qi6 t5 t4 (by decide);have e5:sqS c o i+sqR c o (i+1) k+sqT c o (i+1) (k+1)=sqS c o i+sqR c o (i+1) (k+1):=by rw [Rat.add_assoc];rfl
     rw [e5]at f5;obtain⟨y1,y2,y3,y4,ey⟩:=Qbh (coQ c o (k+1));obtain⟨z1,z2,z3,z4,ez⟩:=Qbh (ikQ (i+1) (k+1));obtain⟨v1,v2,v3,v4,ev⟩:=Qbh (sqT c o (i+1) (k+1));obtain⟨p1,p2,p3,p4,ep⟩:=Qbh (sqS c o i+sqR c o (i+1) k);obtain⟨q1,q2,q3,q4,eq⟩:=Qbh (sqS c o i+sqR c o (i+1) (k+1));rw [ey]at f2;rw [ez]at f3;rw [ex,ey,ez,ev]at f4;rw [ep,ev,eq]at f5;rw [ep];repeat (first|simp -implicitDefEqProofs only [go_sem,seval,hB',n0,n1,hwk2,hg,hg2,w1,w2,w3,Int.toNat_natCast,List.length_map]|(with_reducible refine Qaa f1 ?_ ?_ ?_);rfl;rfl|(with_reducible refine Qaa f2 ?_ ?_ ?_);rfl;rfl|(with_reducible refine Qaa f3 ?_ ?_ ?_);rfl;rfl|(with_reducible refine Qaa f4 ?_ ?_ ?_);rfl;rfl|(with_reducible refine Qaa f5 ?_ ?_ ?_);rfl;rfl|(with_reducible refine And.intro (Qac _ _ (by kernel_rfl)) ?_))
     refine⟨⟨k+1,by omega⟩,by simp only;omega,Qak (θ:=[(0,0),(101,101)]) rfl ?_ ?_⟩
     ·simp [Qae,lkp,ren1,ren0,Qan]
     ·simp only;rw [eq];exact⟨⟨rfl,rfl,rfl,rfl,rfl,.inr ⟨rfl,_,_,rfl,rfl,rfl,rfl⟩⟩,⟨rfl,rfl,rfl,rfl,rfl,.inr ⟨rfl,_,_,rfl,rfl,rfl,rfl⟩⟩,trivial⟩
    ·have hB':=ltF hB;obtain rfl:k=c.length-1:=by omega
     have e2:sqS c o i+sqR c o (i+1) (c.length-1)=sqS c o (i+1):=rfl;obtain⟨p1,p2,p3,p4,ep⟩:=Qbh (sqS c o (i+1));rw [e2,ep];repeat simp -implicitDefEqProofs only [go_sem,seval,hB',hwk,List.length_map]
     refine⟨⟨i+1,by omega⟩,by simp only;omega,Qak (θ:=[(0,0),(101,101)]) rfl ?_ ?_⟩
     ·simp [Qae,lkp,ren1,ren0,Qan]
     ·simp only [raB];rw [ep];exact⟨⟨rfl,rfl,rfl,rfl,rfl,.inr ⟨rfl,_,_,rfl,rfl,rfl,rfl⟩⟩,⟨rfl,rfl,rfl,rfl,rfl,.inr ⟨rfl,_,_,rfl,rfl,rfl,rfl⟩⟩,trivial⟩
  ·have hA':=ltF hA;obtain rfl:i=c.length-1:=by omega
   have e2:sqQ c o=sqS c o (c.length-1):=rfl;obtain⟨p1,p2,p3,p4,ep⟩:=Qbh (sqS c o (c.length-1));rw [e2];simp only [raB];rw [ep];repeat simp -implicitDefEqProofs only [go_sem,seval,hA',List.length_map]
theorem Zz5:fr (-1) 1= -1:=by decide+kernel
theorem up_v {k:Nat} {x:Rat} (hx:fitQ k x) (hk:k≤60000) (h1:0≤upQ x) (h2:upQ x≤9000000000000000000):Qaf Tryz.prog 84 [ratQ x] (.tup [.int .i64 (upQ x),.bool (decide (upQ x≤1125899906842624))]):=by
 have f1:=Qi5 (-1) 1 (by unfold i64;omega) (by unfold i64;omega) (by decide);rw [Zz5]at f1;have hm1:fitQ 1 (-1:Rat):=by unfold fitQ;decide+kernel
 have f2:=Qh1 hx hm1 (by omega);have e:x*(-1:Rat)= -x:=by rw [Rat.mul_neg,Rat.mul_one]
 rw [e]at f2;have hnx:fitQ (k+1) (-x):=by rw [←e];exact Qdi hx hm1
 have f3:=Zfg hnx (by omega);have eu:(-x).num/((-x).den:Int)= -upQ x:=by unfold upQ;omega
 rw [eu]at f3;have f4:=Qll (x:= -upQ x) (by
   have:(-upQ x).natAbs<2^64:=by omega
   exact Qav this (by decide))
 unfold Qdy at f4;rw [if_pos (by omega)]at f4;have w1:IntKind.i64.wrap (0- -upQ x)=upQ x:=by rw [Qah (by omega) (by omega)];omega
 obtain⟨a1,a2,a3,a4,ea⟩:=Qbh (-1);obtain⟨b1,b2,b3,b4,eb⟩:=Qbh x;obtain⟨c1,c2,c3,c4,ec⟩:=Qbh (-x);obtain⟨d1,d2,ed⟩: ∃d1 d2,wPV (-upQ x)= .agg [.bool d1,.str d2]:=⟨_,_,rfl⟩;rw [ea]at f1;rw [ea,eb,ec]at f2;rw [ec,ed]at f3;rw [ed]at f4;rw [eb];generalize upQ x=U at*;refine Qab (tb:=[]) 32 [.tmp 2,.tmp 3] [0,1,2,3,4,5,7,8] mixed Tryz.func84 rfl (by kernel_rfl) ?_;repeat (first|simp -implicitDefEqProofs only [go_sem,seval,w1]|(with_reducible refine Qaa f1 ?_ ?_ ?_);rfl;rfl|(with_reducible refine Qaa f2 ?_ ?_ ?_);rfl;rfl|(with_reducible refine Qaa f3 ?_ ?_ ?_);rfl;rfl|(with_reducible refine Qaa f4 ?_ ?_ ?_);rfl;rfl|(with_reducible refine And.intro (Qac _ _ (by kernel_rfl)) ?_))
def baPV (B:Bat):PV:= .agg [.int .i64 B.base,.int .i64 B.climb,.int .i64 B.drag,.int .i64 B.cap,.int .i64 B.res]
attribute [go_sem] baPV
structure okBat (B:Bat):Prop where
 base:i64 B.base
 climb:i64 B.climb
 drag:i64 B.drag
 cap:i64 B.cap
 res:i64 B.res
theorem Qwh {c:List Int} (h: ∀x∈c,i64 x):ok64 c:=fun i=>by
 by_cases hi:i<c.length
 ·exact Qa2 (Qwg h hi)
 ·rw [List.getD_eq_getElem?_getD,List.getElem?_eq_none (by omega)];decide
theorem Qh2 {c:List Int} {o t b:Int} {k:Nat} {D:Rat} (hD:fitQ k D) (hk:k≤20000) (hc: ∀x∈c,i64 x) (h1:1≤c.length) (h6:c.length≤6) (ho:i64 o) (h0:o≠0) (ht:0<t) (ht2:t≤3600000) (hb: -40000≤b∧b≤40000):
  ∃q1 q2 q3 q4 q5 q6 q7 q8 q9 q10 q11:Rat,
   Qaf Tryz.prog 83 [.slc (c.map (PV.int .i64)),.int .i64 o] (ratQ q1)∧Qaf Tryz.prog 79 [.int .i64 1000,.int .i64 t] (ratQ q2)∧Qaf Tryz.prog 82 [ratQ q1,.slc [ratQ q2]] (ratQ q3)∧Qaf Tryz.prog 81 [ratQ D,ratQ q3] (ratQ q4)∧
   Qaf Tryz.prog 80 [.slc (c.map (PV.int .i64)),.int .i64 o] (ratQ q5)∧Qaf Tryz.prog 79 [.int .i64 (-2*b),.int .i64 1] (ratQ q6)∧Qaf Tryz.prog 82 [ratQ q5,.slc [ratQ q6]] (ratQ q7)∧Qaf Tryz.prog 81 [ratQ q4,ratQ q7] (ratQ q8)∧
   Qaf Tryz.prog 79 [.int .i64 (b*b),.int .i64 1] (ratQ q9)∧Qaf Tryz.prog 79 [.int .i64 t,.int .i64 1000] (ratQ q10)∧Qaf Tryz.prog 82 [ratQ q9,.slc [ratQ q10]] (ratQ q11)∧Qaf Tryz.prog 81 [ratQ q8,ratQ q11] (ratQ (axQ D c o t b))∧fitQ (k+5421) (axQ D c o t b):=by
 have ok:=Qwh hc;have oa:=Qa2 ho;have hbb:0≤b*b∧b*b≤1600000000:=by
  have h1:=Int.mul_le_mul (a:=(b.natAbs:Int)) (b:=(b.natAbs:Int)) (c:=40000) (d:=40000) (by omega) (by omega) (by omega) (by omega);have h2:(b.natAbs:Int)*(b.natAbs:Int)=b*b:=Int.natAbs_mul_self' b;rw [h2]at h1;have h3:0≤b*b:=by rw [←h2];exact Int.mul_nonneg (by omega) (by omega)
  omega
 have t1:fitQ 4836 (sqQ c o):=Q4s ok oa h0 h6 (by omega);have t2:fitQ 64 (fr 1000 t):=Qld (by decide) (by omega) (by omega);have t5:fitQ 326 (wayQ c o):=Qvo ok oa h0 (by omega);have t6:fitQ 64 (fr (-2*b) 1):=Qld (by omega) (by decide) (by decide);have t9:fitQ 64 (fr (b*b) 1):=Qld (by omega) (by decide) (by decide);have t10:fitQ 64 (fr t 1000):=Qld (by omega) (by decide) (by decide);have s1:=Qhc hD (Qdi t1 t2);have s2:=Qhc s1 (Qdi t5 t6);have s3:=Qhc s2 (Qdi t9 t10);exact⟨sqQ c o,fr 1000 t,_,_,wayQ c o,fr (-2*b) 1,_,_,fr (b*b) 1,fr t 1000,_,
  Zz4 c o hc h1 h6 ho h0 ok,Qi5 1000 t (by unfold i64;omega) (by unfold i64;omega) (by omega),Qh1 t1 t2 (by omega),Qi6 hD (Qdi t1 t2) (by omega),
  Zn9 c o hc h1 h6 ho h0 ok,Qi5 (-2*b) 1 (by unfold i64;omega) (by unfold i64;omega) (by decide),Qh1 t5 t6 (by omega),Qi6 s1 (Qdi t5 t6) (by omega),
  Qi5 (b*b) 1 (by unfold i64;omega) (by unfold i64;omega) (by decide),Qi5 t 1000 (by unfold i64;omega) (by unfold i64;omega) (by decide),Qh1 t9 t10 (by omega),Qi6 s2 (Qdi t9 t10) (by omega),s3.mono (by omega)⟩
def drN (s:Sg) (x y z:Int):Nat→Rat
 |0=>fr 0 1
 |1=>axQ (fr 0 1) s.x s.o (s.t-s.f) x
 |2=>axQ (axQ (fr 0 1) s.x s.o (s.t-s.f) x) s.y s.o (s.t-s.f) y
 |_=>drQ s x y z
theorem Zz6:((0:Nat):Int)=0:=rfl
theorem Zz7:((1:Nat):Int)=1:=rfl
theorem Zz8:((2:Nat):Int)=2:=rfl
theorem Qew:((3:Nat):Int)=3:=rfl
theorem Qhf:IntKind.i64.wrap 1=1:=rfl
theorem Qky:IntKind.i64.wrap 2=2:=rfl
theorem Qrv:IntKind.i64.wrap 3=3:=rfl
theorem Zqw {b:Int} (hb: -40000≤b∧b≤40000):0≤b*b∧b*b≤1600000000:=by
 have h1:=Int.mul_le_mul (a:=(b.natAbs:Int)) (b:=(b.natAbs:Int)) (c:=40000) (d:=40000) (by omega) (by omega) (by omega) (by omega);have h2:(b.natAbs:Int)*(b.natAbs:Int)=b*b:=Int.natAbs_mul_self' b;rw [h2]at h1;have h3:0≤b*b:=by rw [←h2];exact Int.mul_nonneg (by omega) (by omega)
 omega
set_option maxHeartbeats 16000000 in
set_option maxRecDepth 100000 in
theorem Q6l (s:Sg) (B:Bat) (x y z:Int) (hs:okSg s) (hv:Qau s=true) (hB:Qax B=true) (hx: -40000≤x∧x≤40000) (hy: -40000≤y∧y≤40000) (hz: -40000≤z∧z≤40000):
  Qaf Tryz.prog 45 [sgPV s,baPV B,.agg [.int .i64 x,.int .i64 y,.int .i64 z]] (.tup [.int .i64 (Qf6 s B x y z),.bool (decide (Qf6 s B x y z≤1125899906842624))]):=by
 obtain⟨⟨v1,v2,v3,v4,v5⟩,hax, -⟩:=Qaq hv;have hvx:=hax s.x (by simp [Sg.ax]);have hvy:=hax s.y (by simp [Sg.ax]);have hvz:=hax s.z (by simp [Sg.ax]);have hcx:=hs.c s.x (by simp [Sg.ax]);have hcy:=hs.c s.y (by simp [Sg.ax]);have hcz:=hs.c s.z (by simp [Sg.ax]);have hbx:=Zqw hx;have hby:=Zqw hy;have hbz:=Zqw hz;obtain⟨B1,B2,B3, -⟩:=Qck hB;have hwt:IntKind.i64.wrap (s.t-s.f)=s.t-s.f:=Qah (by omega) (by omega);have hbt:0≤B.base*(s.t-s.f)∧B.base*(s.t-s.f)≤1000000*3600000:=⟨Int.mul_nonneg B1.1 (by omega),Int.mul_le_mul B1.2 (by omega) (by omega) (by decide)⟩;have hwbt:IntKind.i64.wrap (B.base*(s.t-s.f))=B.base*(s.t-s.f):=Qah (by omega) (by omega);have g1:=Qi5 (B.base*(s.t-s.f)) 1000 (by unfold i64;omega) (by unfold i64;omega) (by decide);have g2:=Zn9 s.z s.o hcz (Qa9 hvz).1 (Qa9 hvz).2.1 hs.o (by omega) (Qwh hcz);have g3:=Qi5 B.climb 100 (by unfold i64;omega) (by unfold i64;omega) (by decide);have ft1:fitQ 64 (fr (B.base*(s.t-s.f)) 1000):=Qld (by omega) (by decide) (by decide);have ft2:fitQ 326 (wayQ s.z s.o):=Qvo (Qwh hcz) (Qa2 hs.o) (by omega) (by have:=(Qa9 hvz).2.1;omega);have ft3:fitQ 64 (fr B.climb 100):=Qld (by omega) (by decide) (by decide);have g4:=Qh1 ft2 ft3 (by decide);have g5:=Qi6 ft1 (Qdi ft2 ft3) (by decide);have g6:=Qi5 0 1 (by unfold i64;omega) (by unfold i64;omega) (by decide);have ft6:fitQ 64 (fr 0 1):=Qld (by decide) (by decide) (by decide);have ftb:fitQ 455 (baQ s B):=by
  unfold baQ;split
  ·exact ft1.mono (by decide)
  ·exact Qhc ft1 (Qdi ft2 ft3)
 have hD1:fitQ 5485 (drN s x y z 1):=(Qh2 ft6 (by decide) hcx (Qa9 hvx).1 (Qa9 hvx).2.1 hs.o (by omega) (show 0<s.t-s.f by omega) (by omega) hx).elim fun _ h=>by obtain⟨_,_,_,_,_,_,_,_,_,_,_,_,_,_,_,_,_,_,_,_,_,_,h⟩:=h;exact h
 have hD2:fitQ 10906 (drN s x y z 2):=(Qh2 hD1 (by decide) hcy (Qa9 hvy).1 (Qa9 hvy).2.1 hs.o (by omega) (show 0<s.t-s.f by omega) (by omega) hy).elim fun _ h=>by obtain⟨_,_,_,_,_,_,_,_,_,_,_,_,_,_,_,_,_,_,_,_,_,_,h⟩:=h;exact h
 have hD3:fitQ 16327 (drQ s x y z):=(Qh2 hD2 (by decide) hcz (Qa9 hvz).1 (Qa9 hvz).2.1 hs.o (by omega) (show 0<s.t-s.f by omega) (by omega) hz).elim fun _ h=>by obtain⟨_,_,_,_,_,_,_,_,_,_,_,_,_,_,_,_,_,_,_,_,_,_,h⟩:=h;exact h
 have g7:=Qi5 B.drag 1000000 (by unfold i64;omega) (by unfold i64;omega) (by decide);have ft7:fitQ 64 (fr B.drag 1000000):=Qld (by omega) (by decide) (by decide);have g8:=Qh1 hD3 ft7 (by decide);have g9:=Qi6 ftb (Qdi hD3 ft7) (by decide);obtain⟨c1,c2⟩:=Qyq (by unfold rngS;simp only [Bool.and_eq_true,decide_eq_true_eq];omega) hvx hvy hvz hB hx hy hz;have eC:baQ s B+drQ s x y z*fr B.drag 1000000=Qvl s B x y z:=rfl;have ftC:=Qhc ftb (Qdi hD3 ft7);rw [eC]at g9 ftC;have g10:=up_v ftC (by decide) c1 (by unfold Qf6 at c2;omega);have eI:upQ (Qvl s B x y z)=Qf6 s B x y z:=rfl;rw [eI]at g10;have d3:drN s x y z 3=drQ s x y z:=rfl;have d0:drN s x y z 0=fr 0 1:=rfl;have hsg:sgPV s= .agg [.int .i64 s.f,.int .i64 s.t,.int .i64 s.o,.slc (s.x.map (PV.int .i64)),.slc (s.y.map (PV.int .i64)),.slc (s.z.map (PV.int .i64))]:=rfl;refine Zo4 109 [.tmp 6,.tmp 7] Tryz.func45 rfl (by kernel_rfl) (by kernel_rfl) (by kernel_rfl) (by kernel_rfl) ?_;refine Qo1 mixed [] [0,1,2,3,4,5,6,7,8,9,10,11,13,32,57,58,59] 4 rfl (St.of [(3,.bp 0 6 0 0),(4,.bp 1 5 0 0),(5,.bp 2 3 0 0),(8,.int .i64 (s.t-s.f)),(9,.bp 205 4 0 0)] [(0,{els:=[sgPV s],esz:=6,ety:=47,fro:=0,live:=true,arr:=false}),(1,{els:=[baPV B],esz:=5,ety:=25,fro:=0,live:=true,arr:=false}),(2,{els:=[.agg [.int .i64 x,.int .i64 y,.int .i64 z]],esz:=3,ety:=56,fro:=0,live:=true,arr:=false}),(205,raB (baQ s B))]) ?_ ?_
 ·simp only [codes,Qij,List.take_succ_cons,List.take_zero,List.drop_succ_cons,List.drop_zero,List.foldr_cons,List.foldr_nil];clear hD1 hD2 hD3 g6 g7 g8 g9 g10 ftC eC;unfold baQ;by_cases hn:(wayQ s.z s.o).num<0
  ·rw [if_pos hn];have hn':=decide_eq_true hn;generalize wayQ s.z s.o=W at*;generalize fr (B.base*(s.t-s.f)) 1000=E1 at*;unfold ratQ Qd8 at g1 g2;simp only [hn']at g2;repeat (first|simp -implicitDefEqProofs only [go_sem,seval,hwt,hwbt]|(with_reducible refine Qaa g1 ?_ ?_ ?_);rfl;rfl|(with_reducible refine Qaa g2 ?_ ?_ ?_);rfl;rfl)
   refine Qak (θ:=[(0,0),(1,1),(2,2),(205,205)]) rfl ?_ ?_
   ·simp [Qae,lkp,ren1,ren0,Qan]
   ·simp only [raB,ratQ,Qd8];exact⟨⟨rfl,rfl,rfl,rfl,rfl,.inr ⟨rfl,_,_,rfl,rfl,rfl,rfl⟩⟩,⟨rfl,rfl,rfl,rfl,rfl,.inr ⟨rfl,_,_,rfl,rfl,rfl,rfl⟩⟩,⟨rfl,rfl,rfl,rfl,rfl,.inr ⟨rfl,_,_,rfl,rfl,rfl,rfl⟩⟩,⟨rfl,rfl,rfl,rfl,rfl,.inr ⟨rfl,_,_,rfl,rfl,rfl,rfl⟩⟩,trivial⟩
  ·rw [if_neg hn];have hn':=decide_eq_false hn;generalize fr (B.base*(s.t-s.f)) 1000+wayQ s.z s.o*fr B.climb 100=E3 at*;generalize wayQ s.z s.o*fr B.climb 100=E2 at*;generalize wayQ s.z s.o=W at*;generalize fr (B.base*(s.t-s.f)) 1000=E1 at*;generalize fr B.climb 100=E4 at*;unfold ratQ Qd8 at g1 g2 g3 g4 g5;simp only [hn']at g2 g4;repeat (first|simp -implicitDefEqProofs only [go_sem,seval,hwt,hwbt]|(with_reducible refine Qaa g1 ?_ ?_ ?_);rfl;rfl|(with_reducible refine Qaa g2 ?_ ?_ ?_);rfl;rfl|(with_reducible refine Qaa g3 ?_ ?_ ?_);rfl;rfl|(with_reducible refine Qaa g4 ?_ ?_ ?_);rfl;rfl|(with_reducible refine Qaa g5 ?_ ?_ ?_);rfl;rfl|(with_reducible refine And.intro (Qac _ _ (by kernel_rfl)) ?_))
   refine Qak (θ:=[(0,0),(1,1),(2,2),(205,205)]) rfl ?_ ?_
   ·simp [Qae,lkp,ren1,ren0,Qan]
   ·simp only [raB,ratQ,Qd8];exact⟨⟨rfl,rfl,rfl,rfl,rfl,.inr ⟨rfl,_,_,rfl,rfl,rfl,rfl⟩⟩,⟨rfl,rfl,rfl,rfl,rfl,.inr ⟨rfl,_,_,rfl,rfl,rfl,rfl⟩⟩,⟨rfl,rfl,rfl,rfl,rfl,.inr ⟨rfl,_,_,rfl,rfl,rfl,rfl⟩⟩,⟨rfl,rfl,rfl,rfl,rfl,.inr ⟨rfl,_,_,rfl,rfl,rfl,rfl⟩⟩,trivial⟩
 ·refine v_go (tb:=[]) (ks:=[0,1,2,3,4,5,6,7,8,9,10,11,13,32,57,58,59]) mixed ?_;simp only [codes,Qij,List.take_succ_cons,List.take_zero,List.drop_succ_cons,List.drop_zero,List.foldr_cons,List.foldr_nil];clear g1 g2 g3 g4 g5 ft1 ft2 ft3 hwbt;rw [←d0]at g6 ft6;generalize hE:baQ s B=E at*;generalize hG:drN s x y z 0=G at*;unfold ratQ Qd8 at g6;simp only [raB];unfold ratQ Qd8;repeat (first|simp -implicitDefEqProofs only [go_sem,seval]|(with_reducible refine Qaa g6 ?_ ?_ ?_);rfl;rfl)
  refine Qat mixed (fun k:{k:Nat // k≤3}=>St.of [(3,.bp 0 6 0 0),(4,.bp 1 5 0 0),(8,.int .i64 (s.t-s.f)),(9,.bp 205 4 0 0),(11,.bp 601 4 0 0),(57,.agg [.slc (s.x.map (PV.int .i64)),.int .i64 x,.slc (s.y.map (PV.int .i64)),.int .i64 y,.slc (s.z.map (PV.int .i64)),.int .i64 z]),(58,.int .i64 (k.1:Int))] [(0,{els:=[sgPV s],esz:=6,ety:=47,fro:=0,live:=true,arr:=false}),(1,{els:=[baPV B],esz:=5,ety:=25,fro:=0,live:=true,arr:=false}),(205,raB E),(601,raB (drN s x y z k.1))]) (fun k=>3-k.1) ⟨0,Nat.zero_le _⟩ ?_ ?_
  ·refine Qak (θ:=[(0,0),(1,1),(205,205),(601,601)]) rfl ?_ ?_
   ·simp [Qae,lkp,ren1,ren0,Qan]
   ·simp only [hG,raB,ratQ,Qd8];exact⟨⟨rfl,rfl,rfl,rfl,rfl,.inr ⟨rfl,_,_,rfl,rfl,rfl,rfl⟩⟩,⟨rfl,rfl,rfl,rfl,rfl,.inr ⟨rfl,_,_,rfl,rfl,rfl,rfl⟩⟩,⟨rfl,rfl,rfl,rfl,rfl,.inr ⟨rfl,_,_,rfl,rfl,rfl,rfl⟩⟩,⟨rfl,rfl,rfl,rfl,rfl,.inr ⟨rfl,_,_,rfl,rfl,rfl,rfl⟩⟩,trivial⟩
  ·subst hG;rintro⟨k,hk⟩;rcases(show k=0∨k=1∨k=2∨k=3 by omega)with rfl|rfl|rfl|rfl
   ·skip
    have hA':((0:Int)<3)=True:=eq_true (by decide);obtain⟨q1,q2,q3,q4,q5,q6,q7,q8,q9,q10,q11,f1,f2,f3,f4,f5,f6,f7,f8,f9,f10,f11,f12,fD⟩:=Qh2 (c:=s.x) (o:=s.o) (t:=s.t-s.f) (b:=x) (D:=drN s x y z 0) ft6 (by decide) hcx (Qa9 hvx).1 (Qa9 hvx).2.1 hs.o (by omega) (by omega) (by omega) (by omega);have eD:axQ (drN s x y z 0) s.x s.o (s.t-s.f) x=drN s x y z (0+1):=rfl;rw [eD]at f12;have hwb:IntKind.i64.wrap (-2*x)= -2*x:=Qah (by omega) (by omega);have hwc:IntKind.i64.wrap (x*x)=x*x:=by have:=hbx;exact Qah (by omega) (by omega)
    generalize hq0:drN s x y z 0=D0 at*;generalize hq1:drN s x y z (0+1)=D1 at*;simp only [raB];unfold ratQ Qd8 at f1 f2 f3 f4 f5 f6 f7 f8 f9 f10 f11 f12 ⊢;repeat (first|simp -implicitDefEqProofs only [go_sem,seval,hA',Zz6,Qew]|(with_reducible refine Qaa f1 ?_ ?_ ?_);rfl;rfl|(with_reducible refine Qaa f2 ?_ ?_ ?_);rfl;rfl|(with_reducible refine Qaa f3 ?_ ?_ ?_);rfl;rfl|(with_reducible refine Qaa f4 ?_ ?_ ?_);rfl;rfl|(with_reducible refine And.intro (Qac _ _ (by kernel_rfl)) ?_))
    repeat (first|simp -implicitDefEqProofs only [go_sem,seval,hwb,hwc]|(with_reducible refine Qaa f5 ?_ ?_ ?_);rfl;rfl|(with_reducible refine Qaa f6 ?_ ?_ ?_);rfl;rfl|(with_reducible refine Qaa f7 ?_ ?_ ?_);rfl;rfl|(with_reducible refine Qaa f8 ?_ ?_ ?_);rfl;rfl|(with_reducible refine And.intro (Qac _ _ (by kernel_rfl)) ?_))
    repeat (first|simp -implicitDefEqProofs only [go_sem,seval,Qhf]|(with_reducible refine Qaa f9 ?_ ?_ ?_);rfl;rfl|(with_reducible refine Qaa f10 ?_ ?_ ?_);rfl;rfl|(with_reducible refine Qaa f11 ?_ ?_ ?_);rfl;rfl|(with_reducible refine Qaa f12 ?_ ?_ ?_);rfl;rfl|(with_reducible refine And.intro (Qac _ _ (by kernel_rfl)) ?_))
    refine⟨⟨0+1,by omega⟩,by simp only;omega,Qak (θ:=[(0,0),(1,1),(205,205),(601,601)]) rfl ?_ ?_⟩
    ·simp [Qae,lkp,ren1,ren0,Qan]
    ·have hq2:drN s x y z 1=D1:=hq1;simp only [Nat.reduceAdd,hq2,raB,ratQ,Qd8];exact⟨⟨rfl,rfl,rfl,rfl,rfl,.inr ⟨rfl,_,_,rfl,rfl,rfl,rfl⟩⟩,⟨rfl,rfl,rfl,rfl,rfl,.inr ⟨rfl,_,_,rfl,rfl,rfl,rfl⟩⟩,⟨rfl,rfl,rfl,rfl,rfl,.inr ⟨rfl,_,_,rfl,rfl,rfl,rfl⟩⟩,⟨rfl,rfl,rfl,rfl,rfl,.inr ⟨rfl,_,_,rfl,rfl,rfl,rfl⟩⟩,trivial⟩
   ·skip
    have hA':((1:Int)<3)=True:=eq_true (by decide);obtain⟨q1,q2,q3,q4,q5,q6,q7,q8,q9,q10,q11,f1,f2,f3,f4,f5,f6,f7,f8,f9,f10,f11,f12,fD⟩:=Qh2 (c:=s.y) (o:=s.o) (t:=s.t-s.f) (b:=y) (D:=drN s x y z 1) hD1 (by decide) hcy (Qa9 hvy).1 (Qa9 hvy).2.1 hs.o (by omega) (by omega) (by omega) (by omega);have eD:axQ (drN s x y z 1) s.y s.o (s.t-s.f) y=drN s x y z (1+1):=rfl;rw [eD]at f12;have hwb:IntKind.i64.wrap (-2*y)= -2*y:=Qah (by omega) (by omega);have hwc:IntKind.i64.wrap (y*y)=y*y:=by have:=hby;exact Qah (by omega) (by omega)
    generalize hq0:drN s x y z 1=D0 at*;generalize hq1:drN s x y z (1+1)=D1 at*;simp only [raB];unfold ratQ Qd8 at f1 f2 f3 f4 f5 f6 f7 f8 f9 f10 f11 f12 ⊢;repeat (first|simp -implicitDefEqProofs only [go_sem,seval,hA',Zz7,Qew]|(with_reducible refine Qaa f1 ?_ ?_ ?_);rfl;rfl|(with_reducible refine Qaa f2 ?_ ?_ ?_);rfl;rfl|(with_reducible refine Qaa f3 ?_ ?_ ?_);rfl;rfl|(with_reducible refine Qaa f4 ?_ ?_ ?_);rfl;rfl|(with_reducible refine And.intro (Qac _ _ (by kernel_rfl)) ?_))
    repeat (first|simp -implicitDefEqProofs only [go_sem,seval,hwb,hwc]|(with_reducible refine Qaa f5 ?_ ?_ ?_);rfl;rfl|(with_reducible refine Qaa f6 ?_ ?_ ?_);rfl;rfl|(with_reducible refine Qaa f7 ?_ ?_ ?_);rfl;rfl|(with_reducible refine Qaa f8 ?_ ?_ ?_);rfl;rfl|(with_reducible refine And.intro (Qac _ _ (by kernel_rfl)) ?_))
    repeat (first|simp -implicitDefEqProofs only [go_sem,seval,Qky]|(with_reducible refine Qaa f9 ?_ ?_ ?_);rfl;rfl|(with_reducible refine Qaa f10 ?_ ?_ ?_);rfl;rfl|(with_reducible refine Qaa f11 ?_ ?_ ?_);rfl;rfl|(with_reducible refine Qaa f12 ?_ ?_ ?_);rfl;rfl|(with_reducible refine And.intro (Qac _ _ (by kernel_rfl)) ?_))
    refine⟨⟨1+1,by omega⟩,by simp only;omega,Qak (θ:=[(0,0),(1,1),(205,205),(601,601)]) rfl ?_ ?_⟩
    ·simp [Qae,lkp,ren1,ren0,Qan]
    ·have hq2:drN s x y z 2=D1:=hq1;simp only [Nat.reduceAdd,hq2,raB,ratQ,Qd8];exact⟨⟨rfl,rfl,rfl,rfl,rfl,.inr ⟨rfl,_,_,rfl,rfl,rfl,rfl⟩⟩,⟨rfl,rfl,rfl,rfl,rfl,.inr ⟨rfl,_,_,rfl,rfl,rfl,rfl⟩⟩,⟨rfl,rfl,rfl,rfl,rfl,.inr ⟨rfl,_,_,rfl,rfl,rfl,rfl⟩⟩,⟨rfl,rfl,rfl,rfl,rfl,.inr ⟨rfl,_,_,rfl,rfl,rfl,rfl⟩⟩,trivial⟩
   ·skip
    have hA':((2:Int)<3)=True:=eq_true (by decide);obtain⟨q1,q2,q3,q4,q5,q6,q7,q8,q9,q10,q11,f1,f2,f3,f4,f5,f6,f7,f8,f9,f10,f11,f12,fD⟩:=Qh2 (c:=s.z) (o:=s.o) (t:=s.t-s.f) (b:=z) (D:=drN s x y z 2) hD2 (by decide) hcz (Qa9 hvz).1 (Qa9 hvz).2.1 hs.o (by omega) (by omega) (by omega) (by omega);have eD:axQ (drN s x y z 2) s.z s.o (s.t-s.f) z=drN s x y z (2+1):=rfl;rw [eD]at f12;have hwb:IntKind.i64.wrap (-2*z)= -2*z:=Qah (by omega) (by omega);have hwc:IntKind.i64.wrap (z*z)=z*z:=by have:=hbz;exact Qah (by omega) (by omega)
    generalize hq0:drN s x y z 2=D0 at*;generalize hq1:drN s x y z (2+1)=D1 at*;simp only [raB];unfold ratQ Qd8 at f1 f2 f3 f4 f5 f6 f7 f8 f9 f10 f11 f12 ⊢;repeat (first|simp -implicitDefEqProofs only [go_sem,seval,hA',Zz8,Qew]|(with_reducible refine Qaa f1 ?_ ?_ ?_);rfl;rfl|(with_reducible refine Qaa f2 ?_ ?_ ?_);rfl;rfl|(with_reducible refine Qaa f3 ?_ ?_ ?_);rfl;rfl|(with_reducible refine Qaa f4 ?_ ?_ ?_);rfl;rfl|(with_reducible refine And.intro (Qac _ _ (by kernel_rfl)) ?_))
    repeat (first|simp -implicitDefEqProofs only [go_sem,seval,hwb,hwc]|(with_reducible refine Qaa f5 ?_ ?_ ?_);rfl;rfl|(with_reducible refine Qaa f6 ?_ ?_ ?_);rfl;rfl|(with_reducible refine Qaa f7 ?_ ?_ ?_);rfl;rfl|(with_reducible refine Qaa f8 ?_ ?_ ?_);rfl;rfl|(with_reducible refine And.intro (Qac _ _ (by kernel_rfl)) ?_))
    repeat (first|simp -implicitDefEqProofs only [go_sem,seval,Qrv]|(with_reducible refine Qaa f9 ?_ ?_ ?_);rfl;rfl|(with_reducible refine Qaa f10 ?_ ?_ ?_);rfl;rfl|(with_reducible refine Qaa f11 ?_ ?_ ?_);rfl;rfl|(with_reducible refine Qaa f12 ?_ ?_ ?_);rfl;rfl|(with_reducible refine And.intro (Qac _ _ (by kernel_rfl)) ?_))
    refine⟨⟨2+1,by omega⟩,by simp only;omega,Qak (θ:=[(0,0),(1,1),(205,205),(601,601)]) rfl ?_ ?_⟩
    ·simp [Qae,lkp,ren1,ren0,Qan]
    ·have hq2:drN s x y z 3=D1:=hq1;simp only [Nat.reduceAdd,hq2,raB,ratQ,Qd8];exact⟨⟨rfl,rfl,rfl,rfl,rfl,.inr ⟨rfl,_,_,rfl,rfl,rfl,rfl⟩⟩,⟨rfl,rfl,rfl,rfl,rfl,.inr ⟨rfl,_,_,rfl,rfl,rfl,rfl⟩⟩,⟨rfl,rfl,rfl,rfl,rfl,.inr ⟨rfl,_,_,rfl,rfl,rfl,rfl⟩⟩,⟨rfl,rfl,rfl,rfl,rfl,.inr ⟨rfl,_,_,rfl,rfl,rfl,rfl⟩⟩,trivial⟩
   ·have hA':((3:Int)<3)=False:=eq_false (by decide);simp only [d3];generalize baQ s B+drQ s x y z*fr B.drag 1000000=T at*;generalize Qvl s B x y z=T3 at*;generalize drQ s x y z*fr B.drag 1000000=T2 at*;generalize drQ s x y z=T1 at*;generalize fr B.drag 1000000=T4 at*;generalize Qf6 s B x y z=I at*;simp only [raB];unfold ratQ Qd8 at g7 g8 g9 g10 ⊢;repeat (first|simp -implicitDefEqProofs only [go_sem,seval,hA',Qew]|(with_reducible refine Qaa g7 ?_ ?_ ?_);rfl;rfl|(with_reducible refine Qaa g8 ?_ ?_ ?_);rfl;rfl|(with_reducible refine Qaa g9 ?_ ?_ ?_);rfl;rfl|(with_reducible refine Qaa g10 ?_ ?_ ?_);rfl;rfl|(with_reducible exact Qac _ _ (by kernel_rfl)))
theorem Qt5 (n k:Nat) (hk:k≤n) (hn:n≤50):Qaf Tryz.prog 105 [.int .i64 (n:Int),.int .i64 (k:Int)] (.int .i64 (bin n k:Int)):=by
 refine Qab (tb:=[]) 21 [.tmp 4] [0,1,4,5,6,9] mixed Tryz.func105 rfl (by kernel_rfl) ?_;simp -implicitDefEqProofs only [go_sem,seval];refine Qat mixed (fun i:{i:Nat // i≤k}=>St.of [(0,.int .i64 (n:Int)),(1,.int .i64 (k:Int)),(5,.int .i64 (bin n i.1:Int)),(6,.int .i64 (i.1:Int))] []) (fun i=>k-i.1) ⟨0,Nat.zero_le _⟩ ?_ ?_
 ·exact Qa5 (by simp [Qae,lkp,ren1,ren0,Qgn])
 ·rintro⟨i,hi⟩;by_cases hA:i<k
  ·have hA':=ltT hA;have hwk:=Qai (a:=i) (by omega);have w1:=Zfz (a:=n) (b:=i) (by omega) (by omega);have hb:=Quc (n:=n) (i:=i) (m:=n-i) hn (by omega);have w2:IntKind.i64.wrap ((bin n i:Int)*((n-i:Nat):Int))=((bin n i*(n-i):Nat):Int):=by rw [←Int.natCast_mul];exact wrapn hb
   have e:bin n i*(n-i)/(i+1)=bin n (i+1):=by rw [Q5n (by omega),Nat.mul_div_cancel _ (Nat.succ_pos i)]
   have t:=Qr7 (bin n i*(n-i)) (i+1);rw [e]at t;have hz:=ne0 i;have w3:IntKind.i64.wrap (bin n (i+1):Int)=(bin n (i+1):Int):=wrapn (by have:=Quc (n:=n) (i:=i+1) (m:=1) hn (by decide);omega);simp -implicitDefEqProofs only [go_sem,seval,hA',hwk,w1,w2,hz,t,w3];exact⟨⟨i+1,hA⟩,by simp only;omega,Qa5 (by simp [Qae,lkp,ren1,ren0])⟩
  ·have hA':=ltF hA;obtain rfl:i=k:=by omega
   simp -implicitDefEqProofs only [go_sem,seval,hA']
def ctls (c:List Int) (j:Nat):List Int:=(List.range j).map (ctl c)
theorem Q7a (c:List Int) (j:Nat):ctls c (j+1)=ctls c j++[ctl c j]:=by simp [ctls,List.range_succ]
theorem Qr3 (c:List Int) (j:Nat):(ctls c j).length=j:=by simp [ctls]
theorem Qzr (c:List Int) (j i:Nat) (h:i<(ctls c j).length):(ctls c j)[i]=ctl c i:=by simp [ctls]
theorem Qwo (c:List Int) (h1:1≤c.length) (h6:c.length≤6) (hc: ∀x∈c,i64 x):Qaf Tryz.prog 68 [Qas c] (rL (ctls c c.length)):=by
 have hcb:bd 64 c:=fun x hx=>Qa2 (hc x hx);have wl:=Qgt (n:=c.length) (by omega) (by omega);refine Qab (tb:=[]) 44 [.tmp 2] [0,2,3,4,5,6,7,13,19] mixed Tryz.func68 rfl (by kernel_rfl) ?_;repeat simp -implicitDefEqProofs only [go_sem,seval,List.length_map,wl]
 refine Qat mixed (fun j:{j:Nat // j≤c.length}=>St.of [(0,Qas c),(3,.int .i64 ((c.length-1:Nat):Int)),(4,.bs 7 2 0 j.1),(5,.int .i64 (j.1:Int))]
  [(7,{els:=(ctls c j.1).map rI,esz:=2,ety:=42,fro:=0,live:=true,arr:=true})]) (fun j=>c.length-j.1) ⟨0,Nat.zero_le _⟩ ?_ ?_
 ·refine Qhu 4 7 2 42 rfl rfl rfl (by decide) [(7,7)] rfl ?_ ?_
  ·simp [Qae,lkp,ren1,ren0,Qan,Qas]
  ·simp [Qal,lkp,Box.renames,ctls]
 ·rintro⟨j,hj⟩;have hlen:((ctls c j).map rI).length=j:=by rw [List.length_map,Qr3]
  by_cases hA:j<c.length
  ·have hA':=leT (show j≤c.length-1 by omega);have hwk:=Qai (a:=j) (by omega);repeat simp -implicitDefEqProofs only [go_sem,seval,hA']
   refine Qat mixed (fun k:{k:Nat // k≤j+1}=>St.of [(0,Qas c),(3,.int .i64 ((c.length-1:Nat):Int)),(4,.bs 7 2 0 j),(5,.int .i64 (j:Int)),(6,.bp 601 2 0 0),(7,.int .i64 (k.1:Int))]
    [(7,{els:=(ctls c j).map rI,esz:=2,ety:=42,fro:=0,live:=true,arr:=true}),(601,{els:=[rI (sm (fun k=>c.getD k 0*(cw (c.length-1) j k:Int)) k.1)],esz:=2,ety:=42,fro:=0,live:=true,arr:=false})]) (fun k=>j+1-k.1) ⟨0,Nat.zero_le _⟩ ?_ ?_
   ·refine Le.trans (Qyh 601 rfl) (Qak (θ:=[(7,7),(601,601)]) rfl ?_ ?_)
    ·simp [Qae,lkp,ren1,ren0,Qan,Qas]
    ·refine⟨⟨rfl,rfl,rfl,rfl,rfl,.inl ⟨rfl,rfl⟩⟩,⟨rfl,rfl,rfl,rfl,rfl,.inr ⟨rfl,_,_,rfl,rfl,?_,rfl⟩⟩,trivial⟩;simp only [sm,rI_z];rfl
   ·rintro⟨k,hk⟩;by_cases hB:k<j+1
    ·have hB':=leT (show k≤j by omega);have hkc:k<c.length:=by omega
     have h0:=nnT k;have hg:=Qcv c k hkc;have hwk2:=Qai (a:=k) (by omega);have g1:=Qt5 (c.length-1) k (by omega) (by omega);have g2:=Qt5 j k (by omega) (by omega);have hb0:((bin (c.length-1) k:Int)=0)=False:=eq_false (by have:=Qrg (n:=c.length-1) (k:=k) (by omega);omega);have t1:Int.tdiv 60 (bin (c.length-1) k:Int)=((60/bin (c.length-1) k:Nat):Int):=Qr7 60 _;have d60:60/bin (c.length-1) k≤60:=Nat.div_le_self _ _;have wk1:IntKind.i64.wrap ((60/bin (c.length-1) k:Nat):Int)=((60/bin (c.length-1) k:Nat):Int):=wrapn (by omega);have hcw:=Zp0 (c.length-1) j k (by omega);have ecw:((60/bin (c.length-1) k:Nat):Int)*(bin j k:Int)=(cw (c.length-1) j k:Int):=by rw [cw,Int.natCast_mul]
     have wk2:IntKind.i64.wrap (cw (c.length-1) j k:Int)=(cw (c.length-1) j k:Int):=wrapn (by omega);obtain⟨k1,k2⟩:=hc _ (List.getElem_mem hkc);have o1:=Qfu c[k] k1 k2;have o2:=Qfu (cw (c.length-1) j k:Int) (by omega) (by omega);have x1:(c[k]).natAbs<2^64:=hcb _ (List.getElem_mem hkc);have x2:(cw (c.length-1) j k:Int).natAbs<2^11:=by rw [Int.natAbs_natCast];omega
     have m2:=Qiq (Qb7 x1 (by decide)) (Qb7 x2 (by decide));have y1:=Qhy (n:=c.length-1) (j:=j) hcb (by omega) k (by omega);have es:sm (fun k=>c.getD k 0*(cw (c.length-1) j k:Int)) (k+1)=sm (fun k=>c.getD k 0*(cw (c.length-1) j k:Int)) k+c[k]*(cw (c.length-1) j k:Int):=by simp only [sm];rw [Qc5 hkc]
     have a1:=Qzu (Qb7 y1 (by decide)) (Qb7 (Qip x1 x2) (by decide));rw [←es]at a1;generalize hX:sm (fun k=>c.getD k 0*(cw (c.length-1) j k:Int)) (k+1)=X at*;generalize sm (fun k=>c.getD k 0*(cw (c.length-1) j k:Int)) k=Y at*;generalize c[k]*(cw (c.length-1) j k:Int)=Z at*;generalize (cw (c.length-1) j k:Int)=V at*;repeat (first|simp -implicitDefEqProofs only [go_sem,seval,rI,di,hB',h0,hg,hwk2,hb0,t1,wk1,ecw,wk2,Int.toNat_natCast]|(with_reducible refine Qaa o1 ?_ ?_ ?_);rfl;rfl|(with_reducible refine Qaa g1 ?_ ?_ ?_);rfl;rfl|(with_reducible refine Qaa g2 ?_ ?_ ?_);rfl;rfl|(with_reducible refine Qaa o2 ?_ ?_ ?_);rfl;rfl|(with_reducible refine Qaa m2 ?_ ?_ ?_);rfl;rfl|(with_reducible refine Qaa a1 ?_ ?_ ?_);rfl;rfl|(with_reducible refine And.intro (Qac _ _ (by kernel_rfl)) ?_))
     refine⟨⟨k+1,hB⟩,by simp only;omega,Qak (θ:=[(7,7),(601,601)]) rfl ?_ ?_⟩
     ·simp [Qae,lkp,ren1,ren0,Qan,Qas]
     ·simp only [hX];exact⟨⟨rfl,rfl,rfl,rfl,rfl,.inl ⟨rfl,rfl⟩⟩,⟨rfl,rfl,rfl,rfl,rfl,.inr ⟨rfl,_,_,rfl,rfl,rfl,rfl⟩⟩,trivial⟩
    ·have hB':=leF (show¬k≤j by omega);obtain rfl:k=j+1:=by omega
     have ec:sm (fun k=>c.getD k 0*(cw (c.length-1) j k:Int)) (j+1)=ctl c j:=rfl;simp only [ec];have q1:(j==j)=true:=beq_self_eq_true j;have q2:((j+1)*32≤140737488355328)=True:=eq_true (by omega);have q3:(j+1≤maxLen)=True:=eq_true (by unfold maxLen;omega);have htk:(ctls c (j+1)).map rI=(ctls c j).map rI++[rI (ctl c j)]:=by rw [Q7a,List.map_append];rfl
     generalize ctl c j=X at*;repeat simp -implicitDefEqProofs only [go_sem,seval,rI,di,hB',hlen,q1,q2,q3,Zxp,hwk]
     refine⟨⟨j+1,hA⟩,by simp only;omega,Qak (θ:=[(7,1103)]) rfl ?_ ?_⟩
     ·simp [Qae,lkp,ren1,ren0,Qan,Qas]
     ·simp only [htk];simp [Qal,lkp,Box.renames,rI,di]
  ·have hA':=leF (show¬j≤c.length-1 by omega);obtain rfl:j=c.length:=by omega
   have e1:((ctls c c.length).map rI).take c.length=(ctls c c.length).map rI:=List.take_of_length_le (by omega);repeat simp -implicitDefEqProofs only [go_sem,seval,hA',hlen,e1,rL]
theorem Qt6 {v M:Int}:(((v.natAbs:Nat):Int)≤M)↔ ¬(M<v)∧ ¬(v< -M):=by omega
set_option maxHeartbeats 1000000 in
theorem Q7b (s:Sg) (hs:okSg s):Qaf Tryz.prog 35 [sgPV s] (.bool (Qau s)):=by
 obtain⟨⟨a1,a2⟩,⟨a3,a4⟩,⟨a5,a6⟩,hc,hl⟩:=hs;by_cases g1:s.f<0
 ·have g1':=eq_true g1;have e:Qau s=false:=by unfold Qau rngS;rw [decide_eq_false (by omega)];rfl
  unfold sgPV;refine Qab (tb:=[]) 111 [.tmp 2] [0,1,2,3,4,5,6,7,8,9,34,46,74,80,106] mixed Tryz.func35 rfl (by kernel_rfl) ?_;repeat simp -implicitDefEqProofs only [go_sem,seval,g1',e]
 have g1':=eq_false g1;by_cases g2:s.t≤s.f
 ·have g2':=eq_true g2;have e:Qau s=false:=by unfold Qau rngS;rw [decide_eq_true (show 0≤s.f by omega),decide_eq_false (show¬s.f<s.t by omega)];rfl
  unfold sgPV;refine Qab (tb:=[]) 111 [.tmp 2] [0,1,2,3,4,5,6,7,8,9,34,46,74,80,106] mixed Tryz.func35 rfl (by kernel_rfl) ?_;repeat simp -implicitDefEqProofs only [go_sem,seval,g1',g2',e]
 have g2':=eq_false g2;by_cases g3:3600000<s.t
 ·have g3':=eq_true g3;have e:Qau s=false:=by unfold Qau rngS;rw [decide_eq_true (show 0≤s.f by omega),decide_eq_true (show s.f<s.t by omega),decide_eq_false (show¬s.t≤3600000 by omega)];rfl
  unfold sgPV;refine Qab (tb:=[]) 111 [.tmp 2] [0,1,2,3,4,5,6,7,8,9,34,46,74,80,106] mixed Tryz.func35 rfl (by kernel_rfl) ?_;repeat simp -implicitDefEqProofs only [go_sem,seval,g1',g2',g3',e]
 have g3':=eq_false g3;by_cases g4:s.o<1
 ·have g4':=eq_true g4;have e:Qau s=false:=by unfold Qau rngS;rw [decide_eq_true (show 0≤s.f by omega),decide_eq_true (show s.f<s.t by omega),decide_eq_true (show s.t≤3600000 by omega),decide_eq_false (show¬1≤s.o by omega)];rfl
  unfold sgPV;refine Qab (tb:=[]) 111 [.tmp 2] [0,1,2,3,4,5,6,7,8,9,34,46,74,80,106] mixed Tryz.func35 rfl (by kernel_rfl) ?_;repeat simp -implicitDefEqProofs only [go_sem,seval,g1',g2',g3',g4',e]
 have g4':=eq_false g4;by_cases g5:4294967296<s.o
 ·have g5':=eq_true g5;have e:Qau s=false:=by unfold Qau rngS;rw [decide_eq_true (show 0≤s.f by omega),decide_eq_true (show s.f<s.t by omega),decide_eq_true (show s.t≤3600000 by omega),decide_eq_true (show 1≤s.o by omega),decide_eq_false (show¬s.o≤4294967296 by omega)];rfl
  unfold sgPV;refine Qab (tb:=[]) 111 [.tmp 2] [0,1,2,3,4,5,6,7,8,9,34,46,74,80,106] mixed Tryz.func35 rfl (by kernel_rfl) ?_;repeat simp -implicitDefEqProofs only [go_sem,seval,g1',g2',g3',g4',g5',e]
 have g5':=eq_false g5;have er:rngS s=true:=by unfold rngS;rw [decide_eq_true (show 0≤s.f by omega),decide_eq_true (show s.f<s.t by omega),decide_eq_true (show s.t≤3600000 by omega),decide_eq_true (show 1≤s.o by omega),decide_eq_true (show s.o≤4294967296 by omega)];rfl
 have w1:=Qfu s.o a5 a6;have w2:=Qfu 62914560 (by decide) (by decide);have hax:=Q68 s;have hsg:sgPV s= .agg [.int .i64 s.f,.int .i64 s.t,.int .i64 s.o,.slc (s.x.map (PV.int .i64)),.slc (s.y.map (PV.int .i64)),.slc (s.z.map (PV.int .i64))]:=rfl;rw [hsg]at hax ⊢;have wone:=Qfu 1 (by decide) (by decide);have hG: ∀i,((s.ax.take i).foldl gcdL s.o.natAbs)<2^64:=by
  intro i;have: ∀(L:List (List Int)) (g:Nat),g<2^64→(∀c∈L,∀x∈c,x.natAbs<2^64)→L.foldl gcdL g<2^64:=by
   intro L
   induction L with
   |nil=>intro g hg _;exact hg
   |cons c L ih=>intro g hg h;exact ih _ (Qf0 c hg (h c (by simp))) fun c' hc'=>h c' (by simp [hc'])
  exact this _ _ (Qa2 ⟨a5,a6⟩) fun c hc' x hx=>Qa2 (hc c (List.mem_of_mem_take hc') x hx)
 have bm:(62914560*s.o).natAbs<2^(64+64):=Qip (show(62914560:Int).natAbs<2^64 by decide) (Qa2 ⟨a5,a6⟩);have m1:=Qiq (Qb7 (show(62914560:Int).natAbs<2^64 by decide) (by decide)) (Qb7 (Qa2 ⟨a5,a6⟩) (by decide));have ng:=Zn3 (62914560*s.o);have hbt: ∀c j,Qdd c s.o (j+1)=(Qdd c s.o j&&decide (((ctl c j).natAbs:Int)≤62914560*s.o)):=fun c j=>Qga c s.o j;generalize hM:62914560*s.o=M at*;refine Qab (tb:=[]) 111 [.tmp 2] [0,1,2,3,4,5,6,7,8,9,34,46,74,80,106] mixed Tryz.func35 rfl (by kernel_rfl) ?_;repeat (first|simp -implicitDefEqProofs only [go_sem,seval,rI,di,g1',g2',g3',g4',g5']|(with_reducible refine Qaa w1 ?_ ?_ ?_);rfl;rfl|(with_reducible refine Qaa w2 ?_ ?_ ?_);rfl;rfl|(with_reducible refine Qaa m1 ?_ ?_ ?_);rfl;rfl|(with_reducible refine Qaa hax ?_ ?_ ?_);rfl;rfl|(with_reducible refine And.intro (Qac _ _ (by kernel_rfl)) ?_))
 have z0:0≤3∧((s.ax.take 0).all fun c=>axOK c s.o)=true:=⟨Nat.zero_le _,rfl⟩;refine Qat mixed (fun i:{i:Nat // i≤3∧((s.ax.take i).all fun c=>axOK c s.o)=true}=>St.of [(1,.bp 0 6 0 0),(2,.bool false),(3,.bp 303 2 0 0),(4,.bp 405 2 0 0),(5,.slc [Qas s.x,Qas s.y,Qas s.z]),(6,.int .i64 (i.1:Int))]
  [(0,{els:=[sgPV s],esz:=6,ety:=47,fro:=0,live:=true,arr:=false}),(303,{els:=[rI (((s.ax.take i.1).foldl gcdL s.o.natAbs:Nat):Int)],esz:=2,ety:=42,fro:=0,live:=true,arr:=false}),(405,{els:=[rI M],esz:=2,ety:=42,fro:=0,live:=true,arr:=false})]) (fun i=>3-i.1) ⟨0,z0⟩ ?_ ?_
 ·refine Qak (θ:=[(0,0),(303,303),(405,405)]) rfl ?_ ?_
  ·simp [Qae,lkp,ren1,ren0,Qan,Qas]
  ·refine⟨⟨rfl,rfl,rfl,rfl,rfl,.inr ⟨rfl,_,_,rfl,rfl,rfl,rfl⟩⟩,⟨rfl,rfl,rfl,rfl,rfl,.inr ⟨rfl,_,_,rfl,rfl,?_,rfl⟩⟩,⟨rfl,rfl,rfl,rfl,rfl,.inr ⟨rfl,_,_,rfl,rfl,rfl,rfl⟩⟩,trivial⟩;have:((((s.ax.take 0).foldl gcdL s.o.natAbs:Nat):Nat):Int)=s.o:=by simp;omega
   rw [this];rfl
 ·rintro⟨i,hi,hall⟩;have hGi:=hG i;by_cases hA:i<3
  ·have hA':((i:Int)<3)=True:=eq_true (by omega);have h0:=nnT i;have hx:=Q69 s i hA;have hwk:=Qai (a:=i) (by omega);have hcx:=hc (s.ax[i]) (List.getElem_mem hA);have hlx:=hl (s.ax[i]) (List.getElem_mem hA);have htk:(s.ax.take (i+1)).all (fun c=>axOK c s.o)=axOK s.ax[i] s.o:=by rw [Qbq s.ax i hA,List.all_append,hall];simp
   have hbad:axOK s.ax[i] s.o=false→Qau s=false:=fun h=>by
    unfold Qau;rw [Qwu (p:=fun c=>axOK c s.o) (l:=s.ax) (i:=i) hA h];simp
   have hfd:(s.ax.take (i+1)).foldl gcdL s.o.natAbs=gcdL ((s.ax.take i).foldl gcdL s.o.natAbs) s.ax[i]:=by rw [Qbq s.ax i hA,List.foldl_append];rfl
   generalize hC:s.ax[i]=c at*;generalize (s.ax.take i).foldl gcdL s.o.natAbs=G at*;have hcb:bd 64 c:=fun x hx=>Qa2 (hcx x hx);by_cases q1:c.length<1
   ·have q1':((c.length:Int)<1)=True:=eq_true (by omega);have e:=hbad (by unfold axOK Qi3;rw [decide_eq_false (show¬1≤c.length by omega)];rfl);repeat simp -implicitDefEqProofs only [go_sem,seval,hA',h0,hx,Int.toNat_natCast,List.length_map,q1',e]
   have q1':((c.length:Int)<1)=False:=eq_false (by omega);by_cases q2:6<c.length
   ·have q2':((6:Int)<(c.length:Int))=True:=eq_true (by omega);have e:=hbad (by unfold axOK Qi3;rw [decide_eq_false (show¬c.length≤6 by omega)];simp);repeat simp -implicitDefEqProofs only [go_sem,seval,hA',h0,hx,Int.toNat_natCast,List.length_map,q1',q2',e]
   have q2':((6:Int)<(c.length:Int))=False:=eq_false (by omega);have hct:=Qwo c (by omega) (by omega) hcx;unfold rL at hct;have hlt:c.length-1<c.length:=by omega
   have wl:=Qgt (n:=c.length) (by omega) (by omega);have hgl:=Qcv c (c.length-1) hlt;have n1:=nnT (c.length-1);have hl0:=Qc5 hlt;by_cases q3:1<c.length
   ·have q3':((1:Int)<(c.length:Int))=True:=eq_true (by omega);by_cases q4:c[c.length-1]=0
    ·have q4':(c[c.length-1]==0)=true:=by rw [q4];rfl
     have e:=hbad (by unfold axOK Qi3;rw [hl0,q4',decide_eq_false (show¬c.length≤1 by omega)];simp);repeat simp -implicitDefEqProofs only [go_sem,seval,hA',h0,hx,Int.toNat_natCast,List.length_map,q1',q2',q3',q4',wl,n1,hgl,e]
    have q4':(c[c.length-1]==0)=false:=by simp only [beq_eq_false_iff_ne,ne_eq];exact q4
    have e1:axOK c s.o=Qdd c s.o c.length:=by unfold axOK Qi3;rw [hl0,q4',decide_eq_true (show 1≤c.length by omega),decide_eq_true (show c.length≤6 by omega)];simp
    repeat (first|simp -implicitDefEqProofs only [go_sem,seval,hA',h0,hx,Int.toNat_natCast,List.length_map,q1',q2',q3',q4',wl,n1,hgl]|(with_reducible refine Qaa hct ?_ ?_ ?_);rfl;rfl)
    have z1:0≤c.length∧Qdd c s.o 0=true:=⟨Nat.zero_le _,rfl⟩;refine Qat mixed (fun k:{k:Nat // k≤c.length∧Qdd c s.o k=true}=>St.of [(1,.bp 0 6 0 0),(2,.bool false),(3,.bp 303 2 0 0),(4,.bp 405 2 0 0),(5,.slc [Qas s.x,Qas s.y,Qas s.z]),(6,.int .i64 (i:Int)),(7,Qas c),(8,.slc ((ctls c c.length).map rI)),(9,.int .i64 (k.1:Int))]
     [(0,{els:=[sgPV s],esz:=6,ety:=47,fro:=0,live:=true,arr:=false}),(303,{els:=[rI ((gcdL G (c.take k.1):Nat):Int)],esz:=2,ety:=42,fro:=0,live:=true,arr:=false}),(405,{els:=[rI M],esz:=2,ety:=42,fro:=0,live:=true,arr:=false})]) (fun k=>c.length-k.1) ⟨0,z1⟩ ?_ ?_
    ·refine Qak (θ:=[(0,0),(303,303),(405,405)]) rfl ?_ ?_
     ·simp [Qae,lkp,ren1,ren0,Qan,Qas]
     ·exact⟨⟨rfl,rfl,rfl,rfl,rfl,.inr ⟨rfl,_,_,rfl,rfl,rfl,rfl⟩⟩,⟨rfl,rfl,rfl,rfl,rfl,.inr ⟨rfl,_,_,rfl,rfl,rfl,rfl⟩⟩,⟨rfl,rfl,rfl,rfl,rfl,.inr ⟨rfl,_,_,rfl,rfl,rfl,rfl⟩⟩,trivial⟩
    ·rintro⟨k,hk,hbk⟩;by_cases hB:k<c.length
     ·have hB':=ltT hB;have n0:=nnT k;have hgk:=Qcv c k hB;have hwk2:=Qai (a:=k) (by omega);obtain⟨k1,k2⟩:=hcx _ (List.getElem_mem hB);have o1:=Qfu c[k] k1 k2;have x1:=Qa2 (hcx _ (List.getElem_mem hB));have x2:((gcdL G (c.take k):Nat):Int).natAbs<2^64:=by rw [Int.natAbs_natCast];exact Qf0 _ hGi fun x hx=>Qa2 (hcx x (List.mem_of_mem_take hx))
      have m:=Q7h (Qb7 x2 (by decide)) (Qb7 x1 (by decide));rw [Int.natAbs_natCast,←Qfb,←Qbq c k hB]at m;have hgv:=Zoq (ctls c c.length) k (by rw [Qr3];exact hB);rw [Qzr]at hgv;have y3:(ctl c k).natAbs<2^(64+11+7):=Qhy (n:=c.length-1) (j:=k) hcb (by omega) (k+1) (by omega);have cm1:=Qgc (Qb7 y3 (by decide)) (Qb7 bm (by decide));have cm2:=Qgc (Qb7 y3 (by decide)) (Qb7 (Zok bm) (by decide));have hbk1:=hbt c k;rw [hbk,Bool.true_and]at hbk1;have hsp:=Qt6 (v:=ctl c k) (M:=M);have eb:Qdd c s.o (k+1)=false→Qau s=false:=fun h=>hbad (e1.trans (Qri h hB));generalize hX:gcdL G (c.take (k+1))=X at*;generalize gcdL G (c.take k)=Y at*;generalize ctl c k=V at*;by_cases p1:M<V
      ·have p1':((0:Int)<(V-M).sign)=True:=eq_true (Int.sign_pos_iff.2 (by omega));have e:=eb (by rw [hbk1];exact decide_eq_false fun h=>(hsp.1 h).1 p1);repeat (first|simp -implicitDefEqProofs only [go_sem,seval,List.length_map,hB',n0,hgk,hgv,rI,di,Int.toNat_natCast,p1',e]|(with_reducible refine Qaa o1 ?_ ?_ ?_);rfl;rfl|(with_reducible refine Qaa m ?_ ?_ ?_);rfl;rfl|(with_reducible refine Qaa cm1 ?_ ?_ ?_);rfl;rfl|(with_reducible exact Qac _ _ (by kernel_rfl))|(with_reducible refine And.intro (Qac _ _ (by kernel_rfl)) ?_))
      ·have p1':((0:Int)<(V-M).sign)=False:=eq_false (by have:=Int.sign_nonpos_iff.2 (show V-M≤0 by omega);omega);by_cases p2:V< -M
       ·have p2':((V- -M).sign<0)=True:=eq_true (Int.sign_neg_iff.2 (by omega));have e:=eb (by rw [hbk1];exact decide_eq_false fun h=>(hsp.1 h).2 p2);repeat (first|simp -implicitDefEqProofs only [go_sem,seval,List.length_map,hB',n0,hgk,hgv,rI,di,Int.toNat_natCast,p1',p2',e]|(with_reducible refine Qaa o1 ?_ ?_ ?_);rfl;rfl|(with_reducible refine Qaa m ?_ ?_ ?_);rfl;rfl|(with_reducible refine Qaa cm1 ?_ ?_ ?_);rfl;rfl|(with_reducible refine Qaa ng ?_ ?_ ?_);rfl;rfl|(with_reducible refine Qaa cm2 ?_ ?_ ?_);rfl;rfl|(with_reducible exact Qac _ _ (by kernel_rfl))|(with_reducible refine And.intro (Qac _ _ (by kernel_rfl)) ?_))
       ·have p2':((V- -M).sign<0)=False:=eq_false (by have:=Int.sign_nonneg_iff.2 (show 0≤V- -M by omega);omega);have hbn:Qdd c s.o (k+1)=true:=by rw [hbk1];exact decide_eq_true (hsp.2 ⟨p1,p2⟩)
        repeat (first|simp -implicitDefEqProofs only [go_sem,seval,List.length_map,hB',n0,hgk,hgv,hwk2,rI,di,Int.toNat_natCast,p1',p2']|(with_reducible refine Qaa o1 ?_ ?_ ?_);rfl;rfl|(with_reducible refine Qaa m ?_ ?_ ?_);rfl;rfl|(with_reducible refine Qaa cm1 ?_ ?_ ?_);rfl;rfl|(with_reducible refine Qaa ng ?_ ?_ ?_);rfl;rfl|(with_reducible refine Qaa cm2 ?_ ?_ ?_);rfl;rfl|(with_reducible refine And.intro (Qac _ _ (by kernel_rfl)) ?_))
        refine⟨⟨k+1,hB,hbn⟩,by simp only;omega,Qak (θ:=[(0,0),(303,303),(405,405)]) rfl ?_ ?_⟩
        ·simp [Qae,lkp,ren1,ren0,Qan,Qas]
        ·simp only [hX];exact⟨⟨rfl,rfl,rfl,rfl,rfl,.inr ⟨rfl,_,_,rfl,rfl,rfl,rfl⟩⟩,⟨rfl,rfl,rfl,rfl,rfl,.inr ⟨rfl,_,_,rfl,rfl,rfl,rfl⟩⟩,⟨rfl,rfl,rfl,rfl,rfl,.inr ⟨rfl,_,_,rfl,rfl,rfl,rfl⟩⟩,trivial⟩
     ·have hB':=ltF hB;obtain rfl:k=c.length:=by omega
      repeat simp -implicitDefEqProofs only [go_sem,seval,List.length_map,hB',hwk]
      refine⟨⟨i+1,hA,by rw [htk];exact e1.trans hbk⟩,by simp only;omega,Qak (θ:=[(0,0),(303,303),(405,405)]) rfl ?_ ?_⟩
      ·simp [Qae,lkp,ren1,ren0,Qan,Qas]
      ·simp only [hfd];rw [List.take_length];exact⟨⟨rfl,rfl,rfl,rfl,rfl,.inr ⟨rfl,_,_,rfl,rfl,rfl,rfl⟩⟩,⟨rfl,rfl,rfl,rfl,rfl,.inr ⟨rfl,_,_,rfl,rfl,rfl,rfl⟩⟩,⟨rfl,rfl,rfl,rfl,rfl,.inr ⟨rfl,_,_,rfl,rfl,rfl,rfl⟩⟩,trivial⟩
   ·have q3':((1:Int)<(c.length:Int))=False:=eq_false (by omega);have e1:axOK c s.o=Qdd c s.o c.length:=by unfold axOK Qi3;rw [decide_eq_true (show 1≤c.length by omega),decide_eq_true (show c.length≤6 by omega),decide_eq_true (show c.length≤1 by omega)];simp
    repeat (first|simp -implicitDefEqProofs only [go_sem,seval,hA',h0,hx,Int.toNat_natCast,List.length_map,q1',q2',q3']|(with_reducible refine Qaa hct ?_ ?_ ?_);rfl;rfl)
    have z1:0≤c.length∧Qdd c s.o 0=true:=⟨Nat.zero_le _,rfl⟩;refine Qat mixed (fun k:{k:Nat // k≤c.length∧Qdd c s.o k=true}=>St.of [(1,.bp 0 6 0 0),(2,.bool false),(3,.bp 303 2 0 0),(4,.bp 405 2 0 0),(5,.slc [Qas s.x,Qas s.y,Qas s.z]),(6,.int .i64 (i:Int)),(7,Qas c),(8,.slc ((ctls c c.length).map rI)),(9,.int .i64 (k.1:Int))]
     [(0,{els:=[sgPV s],esz:=6,ety:=47,fro:=0,live:=true,arr:=false}),(303,{els:=[rI ((gcdL G (c.take k.1):Nat):Int)],esz:=2,ety:=42,fro:=0,live:=true,arr:=false}),(405,{els:=[rI M],esz:=2,ety:=42,fro:=0,live:=true,arr:=false})]) (fun k=>c.length-k.1) ⟨0,z1⟩ ?_ ?_
    ·refine Qak (θ:=[(0,0),(303,303),(405,405)]) rfl ?_ ?_
     ·simp [Qae,lkp,ren1,ren0,Qan,Qas]
     ·exact⟨⟨rfl,rfl,rfl,rfl,rfl,.inr ⟨rfl,_,_,rfl,rfl,rfl,rfl⟩⟩,⟨rfl,rfl,rfl,rfl,rfl,.inr ⟨rfl,_,_,rfl,rfl,rfl,rfl⟩⟩,⟨rfl,rfl,rfl,rfl,rfl,.inr ⟨rfl,_,_,rfl,rfl,rfl,rfl⟩⟩,trivial⟩
    ·rintro⟨k,hk,hbk⟩;by_cases hB:k<c.length
     ·have hB':=ltT hB;have n0:=nnT k;have hgk:=Qcv c k hB;have hwk2:=Qai (a:=k) (by omega);obtain⟨k1,k2⟩:=hcx _ (List.getElem_mem hB);have o1:=Qfu c[k] k1 k2;have x1:=Qa2 (hcx _ (List.getElem_mem hB));have x2:((gcdL G (c.take k):Nat):Int).natAbs<2^64:=by rw [Int.natAbs_natCast];exact Qf0 _ hGi fun x hx=>Qa2 (hcx x (List.mem_of_mem_take hx))
      have m:=Q7h (Qb7 x2 (by decide)) (Qb7 x1 (by decide));rw [Int.natAbs_natCast,←Qfb,←Qbq c k hB]at m;have hgv:=Zoq (ctls c c.length) k (by rw [Qr3];exact hB);rw [Qzr]at hgv;have y3:(ctl c k).natAbs<2^(64+11+7):=Qhy (n:=c.length-1) (j:=k) hcb (by omega) (k+1) (by omega);have cm1:=Qgc (Qb7 y3 (by decide)) (Qb7 bm (by decide));have cm2:=Qgc (Qb7 y3 (by decide)) (Qb7 (Zok bm) (by decide));have hbk1:=hbt c k;rw [hbk,Bool.true_and]at hbk1;have hsp:=Qt6 (v:=ctl c k) (M:=M);have eb:Qdd c s.o (k+1)=false→Qau s=false:=fun h=>hbad (e1.trans (Qri h hB));generalize hX:gcdL G (c.take (k+1))=X at*;generalize gcdL G (c.take k)=Y at*;generalize ctl c k=V at*;by_cases p1:M<V
      ·have p1':((0:Int)<(V-M).sign)=True:=eq_true (Int.sign_pos_iff.2 (by omega));have e:=eb (by rw [hbk1];exact decide_eq_false fun h=>(hsp.1 h).1 p1);repeat (first|simp -implicitDefEqProofs only [go_sem,seval,List.length_map,hB',n0,hgk,hgv,rI,di,Int.toNat_natCast,p1',e]|(with_reducible refine Qaa o1 ?_ ?_ ?_);rfl;rfl|(with_reducible refine Qaa m ?_ ?_ ?_);rfl;rfl|(with_reducible refine Qaa cm1 ?_ ?_ ?_);rfl;rfl|(with_reducible exact Qac _ _ (by kernel_rfl))|(with_reducible refine And.intro (Qac _ _ (by kernel_rfl)) ?_))
      ·have p1':((0:Int)<(V-M).sign)=False:=eq_false (by have:=Int.sign_nonpos_iff.2 (show V-M≤0 by omega);omega);by_cases p2:V< -M
       ·have p2':((V- -M).sign<0)=True:=eq_true (Int.sign_neg_iff.2 (by omega));have e:=eb (by rw [hbk1];exact decide_eq_false fun h=>(hsp.1 h).2 p2);repeat (first|simp -implicitDefEqProofs only [go_sem,seval,List.length_map,hB',n0,hgk,hgv,rI,di,Int.toNat_natCast,p1',p2',e]|(with_reducible refine Qaa o1 ?_ ?_ ?_);rfl;rfl|(with_reducible refine Qaa m ?_ ?_ ?_);rfl;rfl|(with_reducible refine Qaa cm1 ?_ ?_ ?_);rfl;rfl|(with_reducible refine Qaa ng ?_ ?_ ?_);rfl;rfl|(with_reducible refine Qaa cm2 ?_ ?_ ?_);rfl;rfl|(with_reducible exact Qac _ _ (by kernel_rfl))|(with_reducible refine And.intro (Qac _ _ (by kernel_rfl)) ?_))
       ·have p2':((V- -M).sign<0)=False:=eq_false (by have:=Int.sign_nonneg_iff.2 (show 0≤V- -M by omega);omega);have hbn:Qdd c s.o (k+1)=true:=by rw [hbk1];exact decide_eq_true (hsp.2 ⟨p1,p2⟩)
        repeat (first|simp -implicitDefEqProofs only [go_sem,seval,List.length_map,hB',n0,hgk,hgv,hwk2,rI,di,Int.toNat_natCast,p1',p2']|(with_reducible refine Qaa o1 ?_ ?_ ?_);rfl;rfl|(with_reducible refine Qaa m ?_ ?_ ?_);rfl;rfl|(with_reducible refine Qaa cm1 ?_ ?_ ?_);rfl;rfl|(with_reducible refine Qaa ng ?_ ?_ ?_);rfl;rfl|(with_reducible refine Qaa cm2 ?_ ?_ ?_);rfl;rfl|(with_reducible refine And.intro (Qac _ _ (by kernel_rfl)) ?_))
        refine⟨⟨k+1,hB,hbn⟩,by simp only;omega,Qak (θ:=[(0,0),(303,303),(405,405)]) rfl ?_ ?_⟩
        ·simp [Qae,lkp,ren1,ren0,Qan,Qas]
        ·simp only [hX];exact⟨⟨rfl,rfl,rfl,rfl,rfl,.inr ⟨rfl,_,_,rfl,rfl,rfl,rfl⟩⟩,⟨rfl,rfl,rfl,rfl,rfl,.inr ⟨rfl,_,_,rfl,rfl,rfl,rfl⟩⟩,⟨rfl,rfl,rfl,rfl,rfl,.inr ⟨rfl,_,_,rfl,rfl,rfl,rfl⟩⟩,trivial⟩
     ·have hB':=ltF hB;obtain rfl:k=c.length:=by omega
      repeat simp -implicitDefEqProofs only [go_sem,seval,List.length_map,hB',hwk]
      refine⟨⟨i+1,hA,by rw [htk];exact e1.trans hbk⟩,by simp only;omega,Qak (θ:=[(0,0),(303,303),(405,405)]) rfl ?_ ?_⟩
      ·simp [Qae,lkp,ren1,ren0,Qan,Qas]
      ·simp only [hfd];rw [List.take_length];exact⟨⟨rfl,rfl,rfl,rfl,rfl,.inr ⟨rfl,_,_,rfl,rfl,rfl,rfl⟩⟩,⟨rfl,rfl,rfl,rfl,rfl,.inr ⟨rfl,_,_,rfl,rfl,rfl,rfl⟩⟩,⟨rfl,rfl,rfl,rfl,rfl,.inr ⟨rfl,_,_,rfl,rfl,rfl,rfl⟩⟩,trivial⟩
  ·have hA':((i:Int)<3)=False:=eq_false (by omega);obtain rfl:i=3:=by omega
   have et:s.ax.take 3=s.ax:=rfl;have e:Qau s=((s.ax.take 3).foldl gcdL s.o.natAbs==1):=by rw [et]at hall ⊢;unfold Qau;rw [er,hall];simp
   rw [e];simp only;generalize (s.ax.take 3).foldl gcdL s.o.natAbs=G at*;have x2:((G:Nat):Int).natAbs<2^64:=by rw [Int.natAbs_natCast];exact hGi
   have hcm:=Qgc (Qb7 x2 (by decide)) (Qb7 (show(1:Int).natAbs<2^64 by decide) (by decide));have hsn:(((G:Int)-1).sign==0)=(G==1):=by
    rw [Bool.eq_iff_iff,beq_iff_eq,beq_iff_eq,Int.sign_eq_zero_iff_zero];omega
   repeat (first|simp -implicitDefEqProofs only [go_sem,seval,hA',rI,di,hsn]|(with_reducible refine Qaa wone ?_ ?_ ?_);rfl;rfl|(with_reducible refine Qaa hcm ?_ ?_ ?_);rfl;rfl|(with_reducible exact Qac _ _ (by kernel_rfl)))
end Go.Proofs.YtcaffiaempefjaaGreatDoor

namespace Go.Vl
open Go.RowKit
end Go.Vl

namespace Go.Proofs.YtcaffiaempefjaaGreatDoor
open Go.Vl Go.RowKit Go.Dg
end Go.Proofs.YtcaffiaempefjaaGreatDoor

namespace Go.Dg
def mxE:Int:=1125899906842624
def preI (cs:List Int) (k:Nat):Int:=sm (fun i=>cs.getD i 0) k
theorem Qe5 (cs:List Int) (k:Nat):preI cs (k+1)=preI cs k+cs.getD k 0:=rfl
def okCs (cs:List Int):Prop:= ∀c∈cs,0≤c∧c≤400000000000000000
theorem Q4k {cs:List Int} (h:okCs cs) (k:Nat):0≤cs.getD k 0∧cs.getD k 0≤400000000000000000:=by
 by_cases hk:k<cs.length
 ·rw [List.getD_eq_getElem?_getD,List.getElem?_eq_getElem hk];exact h _ (List.getElem_mem hk)
 ·rw [List.getD_eq_getElem?_getD,List.getElem?_eq_none (by omega)];decide
theorem Qje {cs:List Int} (h:okCs cs) {j k:Nat} (hjk:j≤k):preI cs j≤preI cs k:=by
 induction k with
 |zero=>
    obtain rfl:j=0:=by omega
    exact Int.le_refl _
 |succ k ih=>
  have:=(Q4k h k).1;rw [Qe5];by_cases e:j=k+1
  ·subst e;rw [Qe5];exact Int.le_refl _
  ·have:=ih (by omega);omega
theorem Qm3 {cs:List Int} (h:okCs cs) (k:Nat):0≤preI cs k:=by
 have:=Qje h (Nat.zero_le k);exact this
def smL (cs:List Int) (k:Nat):List Int:=(List.range k).map fun j=>preI cs (j+1)
theorem Zd6 (cs:List Int) (k:Nat):smL cs (k+1)=smL cs k++[preI cs (k+1)]:=by
 unfold smL;rw [List.range_succ,List.map_append];rfl
theorem Qe6 (cs:List Int) (k:Nat):(smL cs k).length=k:=by simp [smL]
theorem Zo7 {cs:List Int} {k i:Nat} (h:i<k):(smL cs k).getD i 0=preI cs (i+1):=by simp [smL,h]
def cutE (cs:List Int):Nat:=(List.range cs.length).findIdx fun j=>decide (mxE<preI cs (j+1))
theorem Qyj {n i:Nat} {p:Nat→Bool} (h:i<n) (h1:p i=true) (h2: ∀j,j<i→p j=false):(List.range n).findIdx p=i:=by
 rw [List.findIdx_eq (by simpa using h)];exact⟨by simpa using h1,fun j hj=>by simpa using h2 j hj⟩
theorem Qs8 {n:Nat} {p:Nat→Bool} (h2: ∀j,j<n→p j=false):(List.range n).findIdx p=n:=by
 have:=List.findIdx_eq_length_of_false (xs:=List.range n) (p:=p) (fun x hx=>h2 x (List.mem_range.1 hx))
 rwa [List.length_range]at this
theorem Qs9 {cs:List Int} {i:Nat} (hi:i<cs.length) (h: ∀j,j<i→preI cs (j+1)≤mxE) (hs:mxE<preI cs (i+1)):cutE cs=i:=
 Qyj hi (decide_eq_true hs) fun j hj=>decide_eq_false (by have:=h j hj;omega)
theorem Qyk {cs:List Int} (h: ∀j,j<cs.length→preI cs (j+1)≤mxE):cutE cs=cs.length:=
 Qs8 fun j hj=>decide_eq_false (by have:=h j hj;omega)
theorem Q4l {cs:List Int} (hc:okCs cs) (hl:0<cs.length):(preI cs cs.length≤mxE→cutE cs=cs.length)∧(mxE<preI cs cs.length→cutE cs<cs.length):=by
 refine⟨fun h=>Qyk fun j hj=>Int.le_trans (Qje hc hj) h,fun h=> ?_⟩;have hlt:=List.findIdx_lt_length_of_exists (xs:=List.range cs.length) (p:=fun j=>decide (mxE<preI cs (j+1))) ⟨cs.length-1,List.mem_range.2 (by omega),decide_eq_true (by rw [Nat.sub_add_cancel hl];exact h)⟩
 rwa [List.length_range]at hlt
theorem Q4m (cs:List Int):cutE cs≤cs.length:=by
 have:=List.findIdx_le_length (xs:=List.range cs.length) (p:=fun j=>decide (mxE<preI cs (j+1)))
 rwa [List.length_range]at this
theorem Zo8 {cs:List Int} {j:Nat} (h:j<cutE cs):preI cs (j+1)≤mxE:=by
 have hl:=Q4m cs;have:=List.not_of_lt_findIdx h;simp at this;exact this
theorem Zo9 {cs:List Int} (h:cutE cs<cs.length):mxE<preI cs (cutE cs+1):=by
 have:=List.findIdx_getElem (xs:=List.range cs.length) (p:=fun j=>decide (mxE<preI cs (j+1))) (w:=by rw [List.length_range];exact h);simp only [List.getElem_range,decide_eq_true_eq]at this;exact this
def okE (cs:List Int) (B:Bat) (j:Nat):Bool:=decide (preI cs j≤mxE)&&decide (B.res≤B.cap-preI cs j)
def rcN (cs:List Int) (B:Bat):Nat:=(List.range cs.length).findIdx fun j=> !okE cs B (j+1)
theorem Qyl {cs:List Int} {B:Bat} {i:Nat} (hi:i<cs.length) (h: ∀j,j<i→okE cs B (j+1)=true) (hs:okE cs B (i+1)=false):rcN cs B=i:=
 Qyj hi (by rw [hs];rfl) fun j hj=>by rw [h j hj];rfl
theorem Q4n {cs:List Int} {B:Bat} (h: ∀j,j<cs.length→okE cs B (j+1)=true):rcN cs B=cs.length:=Qs8 fun j hj=>by rw [h j hj];rfl
theorem Znu (cs:List Int) (B:Bat):rcN cs B≤cs.length:=by
 have:=List.findIdx_le_length (xs:=List.range cs.length) (p:=fun j=> !okE cs B (j+1))
 rwa [List.length_range]at this
theorem Qym {cs:List Int} {B:Bat} {j:Nat} (h1:preI cs j≤mxE) (h2:B.res≤B.cap-preI cs j):okE cs B j=true:=by
 unfold okE;rw [decide_eq_true h1,decide_eq_true h2];rfl
theorem Zpa {cs:List Int} {B:Bat} {j:Nat} (h1:mxE<preI cs j):okE cs B j=false:=by
 unfold okE;rw [decide_eq_false (by omega)];rfl
theorem Zpb {cs:List Int} {B:Bat} {j:Nat} (h2:B.cap-preI cs j<B.res):okE cs B j=false:=by
 unfold okE;rw [decide_eq_false (show¬B.res≤B.cap-preI cs j by omega),Bool.and_false]
theorem Qta (cs:List Int) {j k:Nat} (h:j≤k):preI (cs.take k) j=preI cs j:=by
 unfold preI;refine Qbd _ fun i hi=> ?_;rw [List.getD_eq_getElem?_getD,List.getD_eq_getElem?_getD,List.getElem?_take_of_lt (by omega)]
end Go.Dg
