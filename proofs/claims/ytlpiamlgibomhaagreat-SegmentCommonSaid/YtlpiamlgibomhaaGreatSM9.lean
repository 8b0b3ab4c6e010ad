/-
  SM7, Dsi, SM8, Dsj, SM9 (merged for the claim).
-/
import Derived.Test.YtlpiamlgibomhaaGreatDsh
set_option linter.unusedSimpArgs false
set_option linter.unusedVariables false
namespace Go.Proofs.YtlpiamlgibomhaaGreat
open Go.Vl Go.RowKit Go.Dg
theorem Zgs (s:Sg) (a d:Int):plV s a d=Qae (plQ s a d 0) (plQ s a d 1) (plQ s a d 2) (plO s a d):=rfl
theorem Q93 (s:Sg) (a d:Int):(Qk1 fun i=>plP s a d i/(plG s a d 3:Int))=[plQ s a d 0,plQ s a d 1,plQ s a d 2]:=rfl
theorem Qwm {x y:Int} {B:Nat} (hx:x.natAbs<2^B) (hy:0<y):(x/y).natAbs<2^(B+1):=by
 rw [Nat.pow_succ]
 have h2:0<2^B:=Nat.two_pow_pos B
 rcases Qwe hx hy with h|h<;>omega
theorem Zok {m B:Nat} (h:m<2^B) (hk:B≤2000):m<2^2000:=Qdp (C:=2000) h hk
theorem Q2t {s:Sg} {a d:Int} (hs:okSg s) (h6: ∀c∈s.ax,c.length≤6) (ho:1≤s.o) (ha:i64 a) (hd:i64 d) (hd1:1≤d):(∀i,i<3→(plQ s a d i).natAbs<2^2000)∧(plO s a d).natAbs<2^2000:=by
 have hcB: ∀c∈s.ax,bd 64 c:=fun c hx x hx2=>Qav (hs.c c hx x hx2)
 have bP:=Qv1 hcB h6 (Qav ha) (Qav hd)
 have bo:=Q86 (s:=s) (Qav hs.o) (Qav hd)
 have hg:=Qtg ho hd1 3 (s:=s) (a:=a)
 exact⟨fun i hi=>Zok (Qwm (bP i hi) (by omega)) (by decide),Zok (Qwm bo (by omega)) (by decide)⟩
theorem Q2u (x y z o:Int) (B:Nat) (hB:B≤6000000) (hx:x.natAbs<2^B) (hy:y.natAbs<2^B) (hz:z.natAbs<2^B) (ho:o.natAbs<2^B):
  Qaf Tryz.prog 20 [Qec [x,y,z] o] (Qae x y z o):=by
 have t1:=Q98 (Q82 hx (by omega))
 have t2:=Q98 (Q82 hy (by omega))
 have t3:=Q98 (Q82 hz (by omega))
 have t4:=Q98 (Q82 ho (by omega))
 have hp:Qec [x,y,z] o= .agg [.slc [rI x,rI y,rI z],.bool (decide (o<0)),.slc ((digs E9 o.natAbs).map fun d:Nat=>PV.int .i64 (d:Int))]:=rfl
 rw [hp]
 refine Qac (tb:=[]) 22 [.cell 2 33] [0,1,2] mixed Tryz.func20 rfl (by kernel_rfl) (by kernel_rfl) (by kernel_rfl) (by kernel_rfl) ?_
 repeat (first|(simp -implicitDefEqProofs only [go_sem,Nat.reduceAdd,Nat.reduceMul,Nat.reduceEqDiff,Nat.reduceLT,Nat.reduceLeDiff,reduceCtorEq,Int.reduceLE,Int.reduceToNat,rI,di,wPV])|((with_reducible refine Qab (t1) ?_ ?_ ?_);(with_reducible rfl);rfl)|((with_reducible refine Qab (t2) ?_ ?_ ?_);(with_reducible rfl);rfl)|((with_reducible refine Qab (t3) ?_ ?_ ?_);(with_reducible rfl);rfl)|((with_reducible refine Qab (t4) ?_ ?_ ?_);(with_reducible rfl);rfl)|(with_reducible exact Qaa _ _ (by kernel_rfl))|(with_reducible refine And.intro (Qaa _ _ (by kernel_rfl)) ?_))
theorem Qru (x y z o x' y' z' o':Int):(decide (x<0)==decide (x'<0)&&(mB x==mB x'&&(decide (y<0)==decide (y'<0)&&(mB y==mB y'&&(decide (z<0)==decide (z'<0)&&(mB z==mB z'&&(decide (o<0)==decide (o'<0)&&mB o==mB o')))))))=
  (decide (x=x')&&(decide (y=y')&&(decide (z=z')&&decide (o=o')))):=by
 rw [←Qmc x x',←Qmc y y',←Qmc z z',←Qmc o o']
 simp only [Bool.and_assoc]
theorem Zi3 (x y z o x' y' z' o':Int) (B:Nat) (hB:B≤6000000) (hx:x.natAbs<2^B) (hy:y.natAbs<2^B) (hz:z.natAbs<2^B) (ho:o.natAbs<2^B)
  (hx':x'.natAbs<2^B) (hy':y'.natAbs<2^B) (hz':z'.natAbs<2^B) (ho':o'.natAbs<2^B):
  Qaf Tryz.prog 64 [Qec [x,y,z] o,Qec [x',y',z'] o'] (.bool (decide (x=x')&&(decide (y=y')&&(decide (z=z')&&decide (o=o'))))):=by
 have t1:=Q2u x y z o B hB hx hy hz ho
 have t2:=Q2u x' y' z' o' B hB hx' hy' hz' ho'
 refine Qac (tb:=[]) 10 [.tmp 4] [0,1,2,3,4] mixed Tryz.func64 rfl (by kernel_rfl) (by kernel_rfl) (by kernel_rfl) (by kernel_rfl) ?_
 repeat (first|(simp -implicitDefEqProofs only [go_sem,Nat.reduceAdd,Nat.reduceMul,Nat.reduceEqDiff,Nat.reduceLT,Nat.reduceLeDiff,reduceCtorEq,Qec,rI,di,Qru])|((with_reducible refine Qab (t1) ?_ ?_ ?_);(with_reducible rfl);rfl)|((with_reducible refine Qab (t2) ?_ ?_ ?_);(with_reducible rfl);rfl)|(with_reducible exact Qaa _ _ (by kernel_rfl))|(with_reducible refine And.intro (Qaa _ _ (by kernel_rfl)) ?_))
theorem Qwn (a b:Sg) (ha:okSg a) (hb:okSg b) (va:Qa2 a=true) (vb:Qa2 b=true):Qaf Tryz.prog 71 [sgPV a,sgPV b] (.bool (Qeh a b)):=by
 have o1:i64 1:=by unfold i64;omega
 have o0:i64 0:=by unfold i64;omega
 have t1:=Qp0 a 1 1 ha (Qdc va) (Qdy va) o1 o1 (by decide)
 have t2:=Qp0 b 0 1 hb (Qdc vb) (Qdy vb) o0 o1 (by decide)
 rw [Zgs]at t1 t2
 unfold Qeh Qra
 generalize plQ a 1 1 0=x0 at*
 generalize plQ a 1 1 1=x1 at*
 generalize plQ a 1 1 2=x2 at*
 generalize plO a 1 1=x3 at*
 generalize plQ b 0 1 0=y0 at*
 generalize plQ b 0 1 1=y1 at*
 generalize plQ b 0 1 2=y2 at*
 generalize plO b 0 1=y3 at*
 by_cases h:a.t=b.f
 ·have h':(a.t==b.f)=true:=by rw [h];exact beq_self_eq_true _
  rw [decide_eq_true h,Bool.true_and]
  refine Qac (tb:=[]) 17 [.tmp 4] [0,1,2,3,4] mixed Tryz.func71 rfl (by kernel_rfl) (by kernel_rfl) (by kernel_rfl) (by kernel_rfl) ?_
  repeat (first|(simp -implicitDefEqProofs only [go_sem,Nat.reduceAdd,Nat.reduceMul,Nat.reduceEqDiff,Nat.reduceLT,Nat.reduceLeDiff,reduceCtorEq,h',Qru])|((with_reducible refine Qab (t1) ?_ ?_ ?_);(with_reducible rfl);rfl)|((with_reducible refine Qab (t2) ?_ ?_ ?_);(with_reducible rfl);rfl)|(with_reducible exact Qaa _ _ (by kernel_rfl))|(with_reducible refine And.intro (Qaa _ _ (by kernel_rfl)) ?_))
 ·have h':(a.t==b.f)=false:=beq_eq_false_iff_ne.2 h
  rw [decide_eq_false h,Bool.false_and]
  refine Qac (tb:=[]) 17 [.tmp 4] [0,1,2,3,4] mixed Tryz.func71 rfl (by kernel_rfl) (by kernel_rfl) (by kernel_rfl) (by kernel_rfl) ?_
  repeat (first|(simp -implicitDefEqProofs only [go_sem,Nat.reduceAdd,Nat.reduceMul,Nat.reduceEqDiff,Nat.reduceLT,Nat.reduceLeDiff,reduceCtorEq,h'])|(with_reducible exact Qaa _ _ (by kernel_rfl))|(with_reducible refine And.intro (Qaa _ _ (by kernel_rfl)) ?_))
def Qap (p:List Sg):PV:= .slc (p.map sgPV)
attribute [go_sem] Qap
theorem Qcb (p:List Sg) (i:Nat) (h:i<p.length):(p.map sgPV)[i]? =some (.agg [.int .i64 p[i].f,.int .i64 p[i].t,.int .i64 p[i].o,.slc (p[i].x.map (PV.int .i64)),.slc (p[i].y.map (PV.int .i64)),.slc (p[i].z.map (PV.int .i64))]):=by
 rw [List.getElem?_map,List.getElem?_eq_getElem h];rfl
set_option maxHeartbeats 1000000 in
theorem Qd4 (p:List Sg) (hp: ∀s∈p,okSg s) (hl:p.length≤1000000):Qaf Tryz.prog 30 [Qap p] (.bool (Qa5 p)):=by
 refine Qac (tb:=[]) 38 [.tmp 2] [0,2,3,4,5,6,7,8,28] mixed Tryz.func30 rfl (by kernel_rfl) (by kernel_rfl) (by kernel_rfl) (by kernel_rfl) ?_
 repeat (first|(simp -implicitDefEqProofs only [go_sem,Nat.reduceAdd,Nat.reduceMul,Nat.reduceEqDiff,Nat.reduceLT,Nat.reduceLeDiff,reduceCtorEq,List.length_map])|(with_reducible exact Qaa _ _ (by kernel_rfl))|(with_reducible refine And.intro (Qaa _ _ (by kernel_rfl)) ?_))
 have z0:0≤p.length∧vpTo p 0=true:=⟨Nat.zero_le _,rfl⟩
 refine Qao mixed (fun i:{i:Nat // i≤p.length∧vpTo p i=true}=>St.of [(0,Qap p),(2,.bool false),(5,Qap p),(6,.int .i64 (p.length:Int)),(7,.int .i64 (i.1:Int))] []) (fun i=>p.length-i.1) ⟨0,z0⟩ ?_ ?_
 ·exact Qaz (by simp [Qad,lkp,ren1,ren0,Qap])
 ·rintro⟨i,hi,hall⟩
  by_cases hA:i<p.length
  ·have hA':=ltT hA
   have n0:=nnT i
   have hg:=Qcb p i hA
   have hwk:=Qah (a:=i) (by omega)
   have ok1:=hp _ (List.getElem_mem hA)
   have hv:=Qwi p[i] ok1
   have hgD:=sgD hA
   cases hV:Qa2 p[i]with
   |false=>
    have e:Qa5 p=false:=Qfj (j:=i) (by unfold vpAt;rw [hgD,hV];rfl) hA
    rw [hV]at hv
    unfold sgPV Qan at hv
    repeat (first|(simp -implicitDefEqProofs only [go_sem,Nat.reduceAdd,Nat.reduceMul,Nat.reduceEqDiff,Nat.reduceLT,Nat.reduceLeDiff,reduceCtorEq,hA',n0,hg,Int.toNat_natCast,List.length_map,e])|((with_reducible refine Qab (hv) ?_ ?_ ?_);(with_reducible rfl);rfl)|(with_reducible exact Qaa _ _ (by kernel_rfl))|(with_reducible refine And.intro (Qaa _ _ (by kernel_rfl)) ?_))
   |true=>
    rw [hV]at hv
    unfold sgPV Qan at hv
    by_cases hz:i=0
    ·have hz':((0:Int)<(i:Int))=False:=eq_false (by omega)
     have hn:vpTo p (i+1)=true:=by rw [Qih,hall];unfold vpAt;rw [hgD,hV,decide_eq_true hz];rfl
     repeat (first|(simp -implicitDefEqProofs only [go_sem,Nat.reduceAdd,Nat.reduceMul,Nat.reduceEqDiff,Nat.reduceLT,Nat.reduceLeDiff,reduceCtorEq,hA',n0,hg,hwk,hz',Int.toNat_natCast,List.length_map])|((with_reducible refine Qab (hv) ?_ ?_ ?_);(with_reducible rfl);rfl)|(with_reducible exact Qaa _ _ (by kernel_rfl))|(with_reducible refine And.intro (Qaa _ _ (by kernel_rfl)) ?_))
     refine⟨⟨i+1,hA,hn⟩,by simp only;omega,Qaz (by simp [Qad,lkp,ren1,ren0,Qap])⟩
    ·have hz':((0:Int)<(i:Int))=True:=eq_true (by omega)
     have hA1:i-1<p.length:=by omega
     have n1:=nnT (i-1)
     have hg1:=Qcb p (i-1) hA1
     have w1:IntKind.i64.wrap ((i:Int)-1)=((i-1:Nat):Int):=by rw [Qai (by omega) (by omega)];omega
     have hV1:Qa2 p[i-1]=true:=by have:=Qjp hall (j:=i-1) (by omega);rwa [sgD hA1]at this
     have hm:=Qwn p[i-1] p[i] (hp _ (List.getElem_mem hA1)) ok1 hV1 hV
     have ev:vpAt p i=Qeh p[i-1] p[i]:=by unfold vpAt;rw [hgD,sgD hA1,hV,decide_eq_false hz];simp
     cases hM:Qeh p[i-1] p[i]with
     |false=>
      have e:Qa5 p=false:=Qfj (j:=i) (ev.trans hM) hA
      rw [hM]at hm
      unfold sgPV Qan at hm
      repeat (first|(simp -implicitDefEqProofs only [go_sem,Nat.reduceAdd,Nat.reduceMul,Nat.reduceEqDiff,Nat.reduceLT,Nat.reduceLeDiff,reduceCtorEq,hA',n0,hg,hz',w1,n1,hg1,Int.toNat_natCast,List.length_map,e])|((with_reducible refine Qab (hv) ?_ ?_ ?_);(with_reducible rfl);rfl)|((with_reducible refine Qab (hm) ?_ ?_ ?_);(with_reducible rfl);rfl)|(with_reducible exact Qaa _ _ (by kernel_rfl))|(with_reducible refine And.intro (Qaa _ _ (by kernel_rfl)) ?_))
     |true=>
      have hn:vpTo p (i+1)=true:=by rw [Qih,hall,ev,hM];rfl
      rw [hM]at hm
      unfold sgPV Qan at hm
      repeat (first|(simp -implicitDefEqProofs only [go_sem,Nat.reduceAdd,Nat.reduceMul,Nat.reduceEqDiff,Nat.reduceLT,Nat.reduceLeDiff,reduceCtorEq,hA',n0,hg,hwk,hz',w1,n1,hg1,Int.toNat_natCast,List.length_map])|((with_reducible refine Qab (hv) ?_ ?_ ?_);(with_reducible rfl);rfl)|((with_reducible refine Qab (hm) ?_ ?_ ?_);(with_reducible rfl);rfl)|(with_reducible exact Qaa _ _ (by kernel_rfl))|(with_reducible refine And.intro (Qaa _ _ (by kernel_rfl)) ?_))
      refine⟨⟨i+1,hA,hn⟩,by simp only;omega,Qaz (by simp [Qad,lkp,ren1,ren0,Qap])⟩
  ·have hA':=ltF hA
   obtain rfl:i=p.length:=by omega
   have e0:Qa5 p=(decide (1≤p.length)&&decide (p.length≤256)):=by unfold Qa5;rw [hall,Bool.true_and]
   rw [e0]
   by_cases c1:1≤p.length
   ·have c1':((1:Int)≤(p.length:Int))=True:=eq_true (by omega)
    have c2':decide ((p.length:Int)≤256)=decide (p.length≤256):=by rw [decide_eq_decide];omega
    rw [decide_eq_true c1,Bool.true_and]
    repeat (first|(simp -implicitDefEqProofs only [go_sem,Nat.reduceAdd,Nat.reduceMul,Nat.reduceEqDiff,Nat.reduceLT,Nat.reduceLeDiff,reduceCtorEq,hA',c1',c2',List.length_map])|(with_reducible exact Qaa _ _ (by kernel_rfl))|(with_reducible refine And.intro (Qaa _ _ (by kernel_rfl)) ?_))
   ·have c1':((1:Int)≤(p.length:Int))=False:=eq_false (by omega)
    rw [decide_eq_false c1,Bool.false_and]
    repeat (first|(simp -implicitDefEqProofs only [go_sem,Nat.reduceAdd,Nat.reduceMul,Nat.reduceEqDiff,Nat.reduceLT,Nat.reduceLeDiff,reduceCtorEq,hA',c1',List.length_map])|(with_reducible exact Qaa _ _ (by kernel_rfl))|(with_reducible refine And.intro (Qaa _ _ (by kernel_rfl)) ?_))
set_option maxHeartbeats 1000000 in
theorem Qki (p:List Sg) (hp: ∀s∈p,okSg s) (hl:p.length≤1000000):Qaf Tryz.prog 17 [Qap p] (.bool (Qa5 p)):=by
 have o1:i64 1:=by unfold i64;omega
 have o0:i64 0:=by unfold i64;omega
 refine Qac (tb:=[]) 57 [.tmp 2] [0,2,3,7,48] mixed Tryz.func17 rfl (by kernel_rfl) (by kernel_rfl) (by kernel_rfl) (by kernel_rfl) ?_
 repeat (first|(simp -implicitDefEqProofs only [go_sem,Nat.reduceAdd,Nat.reduceMul,Nat.reduceEqDiff,Nat.reduceLT,Nat.reduceLeDiff,reduceCtorEq,List.length_map])|(with_reducible exact Qaa _ _ (by kernel_rfl))|(with_reducible refine And.intro (Qaa _ _ (by kernel_rfl)) ?_))
 have z0:0≤p.length∧vpTo p 0=true:=⟨Nat.zero_le _,rfl⟩
 refine Qao mixed (fun i:{i:Nat // i≤p.length∧vpTo p i=true}=>St.of [(0,Qap p),(2,.bool false),(3,.int .i64 (i.1:Int))] []) (fun i=>p.length-i.1) ⟨0,z0⟩ ?_ ?_
 ·exact Qaz (by simp [Qad,lkp,ren1,ren0,Qap])
 ·rintro⟨i,hi,hall⟩
  by_cases hA:i<p.length
  ·have hA':=ltT hA
   have n0:=nnT i
   have hg:=Qcb p i hA
   have hwk:=Qah (a:=i) (by omega)
   have ok1:=hp _ (List.getElem_mem hA)
   have hv:=Q2r p[i] ok1
   have hgD:=sgD hA
   cases hV:Qa2 p[i]with
   |false=>
    have e:Qa5 p=false:=Qfj (j:=i) (by unfold vpAt;rw [hgD,hV];rfl) hA
    rw [hV]at hv
    unfold sgPV Qan at hv
    repeat (first|(simp -implicitDefEqProofs only [go_sem,Nat.reduceAdd,Nat.reduceMul,Nat.reduceEqDiff,Nat.reduceLT,Nat.reduceLeDiff,reduceCtorEq,hA',n0,hg,Int.toNat_natCast,List.length_map,e])|((with_reducible refine Qab (hv) ?_ ?_ ?_);(with_reducible rfl);rfl)|(with_reducible exact Qaa _ _ (by kernel_rfl))|(with_reducible refine And.intro (Qaa _ _ (by kernel_rfl)) ?_))
   |true=>
    rw [hV]at hv
    unfold sgPV Qan at hv
    by_cases hz:i=0
    ·have hz':((0:Int)<(i:Int))=False:=eq_false (by omega)
     have hn:vpTo p (i+1)=true:=by rw [Qih,hall];unfold vpAt;rw [hgD,hV,decide_eq_true hz];rfl
     repeat (first|(simp -implicitDefEqProofs only [go_sem,Nat.reduceAdd,Nat.reduceMul,Nat.reduceEqDiff,Nat.reduceLT,Nat.reduceLeDiff,reduceCtorEq,hA',n0,hg,hwk,hz',Int.toNat_natCast,List.length_map])|((with_reducible refine Qab (hv) ?_ ?_ ?_);(with_reducible rfl);rfl)|(with_reducible exact Qaa _ _ (by kernel_rfl))|(with_reducible refine And.intro (Qaa _ _ (by kernel_rfl)) ?_))
     refine⟨⟨i+1,hA,hn⟩,by simp only;omega,Qaz (by simp [Qad,lkp,ren1,ren0,Qap])⟩
    ·have hz':((0:Int)<(i:Int))=True:=eq_true (by omega)
     have hA1:i-1<p.length:=by omega
     have n1:=nnT (i-1)
     have hg1:=Qcb p (i-1) hA1
     have w1:IntKind.i64.wrap ((i:Int)-1)=((i-1:Nat):Int):=by rw [Qai (by omega) (by omega)];omega
     have hV1:Qa2 p[i-1]=true:=by have:=Qjp hall (j:=i-1) (by omega);rwa [sgD hA1]at this
     have ev:vpAt p i=Qeh p[i-1] p[i]:=by unfold vpAt;rw [hgD,sgD hA1,hV,decide_eq_false hz];simp
     have ok2:=hp _ (List.getElem_mem hA1)
     by_cases hT:p[i-1].t=p[i].f
     ·have hT':(p[i].f != p[i-1].t)=false:=by rw [hT];simp
      have r1:=Qp1 p[i] 0 1 ok1 (Qdc hV) (Qdy hV) o0 o1 (by decide)
      have r2:=Qp1 p[i-1] 1 1 ok2 (Qdc hV1) (Qdy hV1) o1 o1 (by decide)
      rw [Q93]at r1 r2
      have b1:=Q2t ok1 (Qdc hV) (Qdy hV) o0 o1 (by decide)
      have b2:=Q2t ok2 (Qdc hV1) (Qdy hV1) o1 o1 (by decide)
      have bb:=Zi3 (plQ p[i] 0 1 0) (plQ p[i] 0 1 1) (plQ p[i] 0 1 2) (plO p[i] 0 1) (plQ p[i-1] 1 1 0) (plQ p[i-1] 1 1 1) (plQ p[i-1] 1 1 2) (plO p[i-1] 1 1) 2000 (by decide) (b1.1 0 (by decide)) (b1.1 1 (by decide)) (b1.1 2 (by decide)) b1.2 (b2.1 0 (by decide)) (b2.1 1 (by decide)) (b2.1 2 (by decide)) b2.2
      have es:(decide (plQ p[i] 0 1 0=plQ p[i-1] 1 1 0)&&(decide (plQ p[i] 0 1 1=plQ p[i-1] 1 1 1)&&(decide (plQ p[i] 0 1 2=plQ p[i-1] 1 1 2)&&decide (plO p[i] 0 1=plO p[i-1] 1 1))))=Qeh p[i-1] p[i]:=by
       unfold Qeh;rw [decide_eq_true hT,Bool.true_and,Qth];rfl
      rw [es]at bb
      have e4:(p[i].o*1^5/(plG p[i] 0 1 3:Int))=plO p[i] 0 1:=rfl
      have e5:(p[i-1].o*1^5/(plG p[i-1] 1 1 3:Int))=plO p[i-1] 1 1:=rfl
      rw [e4]at r1
      rw [e5]at r2
      clear e4 e5 es
      unfold Qec at r1 r2 bb
      generalize [plQ p[i] 0 1 0,plQ p[i] 0 1 1,plQ p[i] 0 1 2]=L1 at*
      generalize [plQ p[i-1] 1 1 0,plQ p[i-1] 1 1 1,plQ p[i-1] 1 1 2]=L2 at*
      generalize plO p[i] 0 1=z1 at*
      generalize plO p[i-1] 1 1=z2 at*
      unfold sgPV Qan at r1 r2
      cases hM:Qeh p[i-1] p[i]with
      |false=>
       have e:Qa5 p=false:=Qfj (j:=i) (ev.trans hM) hA
       rw [hM]at bb
       repeat (first|(simp -implicitDefEqProofs only [go_sem,Nat.reduceAdd,Nat.reduceMul,Nat.reduceEqDiff,Nat.reduceLT,Nat.reduceLeDiff,reduceCtorEq,di,hA',n0,hg,hz',hT',w1,n1,hg1,Int.toNat_natCast,List.length_map,e])|((with_reducible refine Qab (hv) ?_ ?_ ?_);(with_reducible rfl);rfl)|((with_reducible refine Qab (r1) ?_ ?_ ?_);(with_reducible rfl);rfl)|((with_reducible refine Qab (r2) ?_ ?_ ?_);(with_reducible rfl);rfl)|((with_reducible refine Qab (bb) ?_ ?_ ?_);(with_reducible rfl);rfl)|(with_reducible exact Qaa _ _ (by kernel_rfl))|(with_reducible refine And.intro (Qaa _ _ (by kernel_rfl)) ?_))
      |true=>
       have hn:vpTo p (i+1)=true:=by rw [Qih,hall,ev,hM];rfl
       rw [hM]at bb
       repeat (first|(simp -implicitDefEqProofs only [go_sem,Nat.reduceAdd,Nat.reduceMul,Nat.reduceEqDiff,Nat.reduceLT,Nat.reduceLeDiff,reduceCtorEq,di,hA',n0,hg,hwk,hz',hT',w1,n1,hg1,Int.toNat_natCast,List.length_map])|((with_reducible refine Qab (hv) ?_ ?_ ?_);(with_reducible rfl);rfl)|((with_reducible refine Qab (r1) ?_ ?_ ?_);(with_reducible rfl);rfl)|((with_reducible refine Qab (r2) ?_ ?_ ?_);(with_reducible rfl);rfl)|((with_reducible refine Qab (bb) ?_ ?_ ?_);(with_reducible rfl);rfl)|(with_reducible exact Qaa _ _ (by kernel_rfl))|(with_reducible refine And.intro (Qaa _ _ (by kernel_rfl)) ?_))
       refine⟨⟨i+1,hA,hn⟩,by simp only;omega,Qaz (by simp [Qad,lkp,ren1,ren0,Qap])⟩
     ·have hT':(p[i].f != p[i-1].t)=true:=by simp only [bne_iff_ne,ne_eq];exact fun e=>hT e.symm
      have e:Qa5 p=false:=Qfj (j:=i) (by rw [ev];unfold Qeh;rw [decide_eq_false hT];rfl) hA
      repeat (first|(simp -implicitDefEqProofs only [go_sem,Nat.reduceAdd,Nat.reduceMul,Nat.reduceEqDiff,Nat.reduceLT,Nat.reduceLeDiff,reduceCtorEq,hA',n0,hg,hz',hT',w1,n1,hg1,Int.toNat_natCast,List.length_map,e])|((with_reducible refine Qab (hv) ?_ ?_ ?_);(with_reducible rfl);rfl)|(with_reducible exact Qaa _ _ (by kernel_rfl))|(with_reducible refine And.intro (Qaa _ _ (by kernel_rfl)) ?_))
  ·have hA':=ltF hA
   obtain rfl:i=p.length:=by omega
   have e0:Qa5 p=(decide (1≤p.length)&&decide (p.length≤256)):=by unfold Qa5;rw [hall,Bool.true_and]
   rw [e0]
   by_cases c1:1≤p.length
   ·have c1':((1:Int)≤(p.length:Int))=True:=eq_true (by omega)
    have c2':decide ((p.length:Int)≤256)=decide (p.length≤256):=by rw [decide_eq_decide];omega
    rw [decide_eq_true c1,Bool.true_and]
    repeat (first|(simp -implicitDefEqProofs only [go_sem,Nat.reduceAdd,Nat.reduceMul,Nat.reduceEqDiff,Nat.reduceLT,Nat.reduceLeDiff,reduceCtorEq,hA',c1',c2',List.length_map])|(with_reducible exact Qaa _ _ (by kernel_rfl))|(with_reducible refine And.intro (Qaa _ _ (by kernel_rfl)) ?_))
   ·have c1':((1:Int)≤(p.length:Int))=False:=eq_false (by omega)
    rw [decide_eq_false c1,Bool.false_and]
    repeat (first|(simp -implicitDefEqProofs only [go_sem,Nat.reduceAdd,Nat.reduceMul,Nat.reduceEqDiff,Nat.reduceLT,Nat.reduceLeDiff,reduceCtorEq,hA',c1',List.length_map])|(with_reducible exact Qaa _ _ (by kernel_rfl))|(with_reducible refine And.intro (Qaa _ _ (by kernel_rfl)) ?_))
end Go.Proofs.YtlpiamlgibomhaaGreat

namespace Go.Dg
theorem Znz {a b:Sg} (h1:a.f=b.f) (h2:a.t=b.t) (h3:a.o=b.o) (h4:a.x=b.x) (h5:a.y=b.y) (h6:a.z=b.z):a=b:=by
 cases a;cases b;simp_all
def Qjq (a b:Sg):Bool:=decide (a.f=b.f)&&(decide (a.t=b.t)&&(decide (a.o=b.o)&&(decide (a.x=b.x)&&(decide (a.y=b.y)&&decide (a.z=b.z)))))
theorem Q1d {a b:Sg}:Qjq a b=true↔a=b:=by
 unfold Qjq
 simp only [Bool.and_eq_true,decide_eq_true_eq]
 constructor
 ·rintro⟨h1,h2,h3,h4,h5,h6⟩;exact Znz h1 h2 h3 h4 h5 h6
 ·rintro rfl;exact⟨rfl,rfl,rfl,rfl,rfl,rfl⟩
def Qgl (a b:List Sg) (i:Nat):Bool:=(List.range i).all fun j=>Qjq (a.getD j sg0) (b.getD j sg0)
def Qti (a b:List Sg):Bool:=decide (a.length=b.length)&&Qgl a b a.length
theorem Qtj (a b:List Sg) (i:Nat):Qgl a b (i+1)=(Qgl a b i&&Qjq (a.getD i sg0) (b.getD i sg0)):=by simp [Qgl,List.range_succ]
theorem Qx2 {a b:List Sg} {j m:Nat} (h:Qjq (a.getD j sg0) (b.getD j sg0)=false) (hm:j<m):Qgl a b m=false:=by
 unfold Qgl
 rw [List.all_eq_false]
 exact⟨j,List.mem_range.2 hm,by simp only [h];simp⟩
theorem Qx3 (a:List Sg):Qti a a=true:=by
 unfold Qti Qgl
 simp only [decide_true,Bool.true_and,List.all_eq_true]
 intro j _
 exact Q1d.2 rfl
def Qkd (a b:List Int) (i:Nat):Bool:=(List.range i).all fun j=>decide (a.getD j 0=b.getD j 0)
theorem Qtk (a b:List Int) (i:Nat):Qkd a b (i+1)=(Qkd a b i&&decide (a.getD i 0=b.getD i 0)):=by simp [Qkd,List.range_succ]
theorem Qx4 {a b:List Int} {j:Nat} (h:a.getD j 0≠b.getD j 0):a≠b:=by rintro rfl;exact h rfl
theorem Qx5 {a b:List Int} (hl:a.length=b.length) (h:Qkd a b a.length=true):a=b:=by
 unfold Qkd at h
 simp only [List.all_eq_true,List.mem_range,decide_eq_true_eq]at h
 apply List.ext_getElem hl
 intro i p q
 have:=h i p
 rw [List.getD_eq_getElem?_getD,List.getD_eq_getElem?_getD,List.getElem?_eq_getElem p,List.getElem?_eq_getElem q]at this
 exact this
def few1 (s:Sg):Bool:=decide (s.x.length≤8)&&(decide (s.y.length≤8)&&decide (s.z.length≤8))
def fewB (p:List Sg) (m:Nat):Bool:=((p.take (m+1)).all few1)&&decide (p.length≤m)
theorem Qn4 {p:List Sg} {m:Nat} (h:fewB p m=true):p.length≤m∧ ∀s∈p,∀c∈s.ax,c.length≤8:=by
 unfold fewB at h
 simp only [Bool.and_eq_true,decide_eq_true_eq]at h
 obtain⟨h1,h2⟩:=h
 rw [List.take_of_length_le (by omega)]at h1
 refine⟨h2,fun s hs c hc=> ?_⟩
 have:=List.all_eq_true.1 h1 s hs
 unfold few1 at this
 simp only [Bool.and_eq_true,decide_eq_true_eq]at this
 obtain⟨a1,a2,a3⟩:=this
 unfold Sg.ax at hc
 simp only [List.mem_cons,List.not_mem_nil,or_false]at hc
 rcases hc with rfl|rfl|rfl<;>assumption
theorem Qpn {p:List Sg} {m i:Nat} (hi:i<p.length) (hm:i≤m) (h:few1 p[i]=false):fewB p m=false:=by
 unfold fewB
 have:(p.take (m+1)).all few1=false:=by
  rw [List.all_eq_false]
  refine⟨p[i],?_,by simp [h]⟩
  rw [List.mem_take_iff_getElem]
  exact⟨i,by omega,rfl⟩
 rw [this];rfl
end Go.Dg

namespace Go.Proofs.YtlpiamlgibomhaaGreat
open Go.Vl Go.RowKit Go.Dg
theorem Qjt (a b:List Int) (ha:a.length≤1000000000) (hb:b.length≤1000000000):Qaf Tryz.prog 109 [Qan a,Qan b] (.bool (decide (a=b))):=by
 by_cases hl:a.length=b.length
 case neg=>
  have n1:((a.length:Int) != (b.length:Int))=true:=by simp only [bne_iff_ne,ne_eq];omega
  rw [decide_eq_false (fun e=>hl (by rw [e]))]
  refine Qac (tb:=[]) 26 [.tmp 4] [0,1,4,5,10,14,25] mixed Tryz.func109 rfl (by kernel_rfl) (by kernel_rfl) (by kernel_rfl) (by kernel_rfl) ?_
  repeat (first|(simp -implicitDefEqProofs only [go_sem,Nat.reduceAdd,Nat.reduceMul,Nat.reduceEqDiff,Nat.reduceLT,Nat.reduceLeDiff,reduceCtorEq,List.length_map,n1])|(with_reducible exact Qaa _ _ (by kernel_rfl))|(with_reducible refine And.intro (Qaa _ _ (by kernel_rfl)) ?_))
 have n1:((a.length:Int) != (b.length:Int))=false:=by rw [hl];simp
 refine Qac (tb:=[]) 26 [.tmp 4] [0,1,4,5,10,14,25] mixed Tryz.func109 rfl (by kernel_rfl) (by kernel_rfl) (by kernel_rfl) (by kernel_rfl) ?_
 repeat (first|(simp -implicitDefEqProofs only [go_sem,Nat.reduceAdd,Nat.reduceMul,Nat.reduceEqDiff,Nat.reduceLT,Nat.reduceLeDiff,reduceCtorEq,List.length_map,n1])|(with_reducible exact Qaa _ _ (by kernel_rfl))|(with_reducible refine And.intro (Qaa _ _ (by kernel_rfl)) ?_))
 have z0:0≤a.length∧Qkd a b 0=true:=⟨Nat.zero_le _,rfl⟩
 refine Qao mixed (fun i:{i:Nat // i≤a.length∧Qkd a b i=true}=>St.of [(0,Qan a),(1,Qan b),(4,.bool false),(5,.int .i64 (i.1:Int))] []) (fun i=>a.length-i.1) ⟨0,z0⟩ ?_ ?_
 ·exact Qaz (by simp [Qad,lkp,ren1,ren0,Qan])
 ·rintro⟨i,hi,hall⟩
  by_cases hA:i<a.length
  ·have hA':=ltT hA
   have n0:=nnT i
   have hB:i<b.length:=by omega
   have g1:=Qbx a i hA
   have g2:=Qbx b i hB
   have hwk:=Qah (a:=i) (by omega)
   by_cases hx:a[i]=b[i]
   ·have hx':(a[i] != b[i])=false:=by rw [hx];simp
    have hn:Qkd a b (i+1)=true:=by rw [Qtk,hall,Qb1 hA,Qb1 hB];simp [hx]
    repeat (first|(simp -implicitDefEqProofs only [go_sem,Nat.reduceAdd,Nat.reduceMul,Nat.reduceEqDiff,Nat.reduceLT,Nat.reduceLeDiff,reduceCtorEq,hA',n0,g1,g2,hwk,hx',Int.toNat_natCast,List.length_map])|(with_reducible exact Qaa _ _ (by kernel_rfl))|(with_reducible refine And.intro (Qaa _ _ (by kernel_rfl)) ?_))
    refine⟨⟨i+1,hA,hn⟩,by simp only;omega,Qaz (by simp [Qad,lkp,ren1,ren0,Qan])⟩
   ·have hx':(a[i] != b[i])=true:=by simp only [bne_iff_ne,ne_eq];exact hx
    rw [decide_eq_false (Qx4 (j:=i) (by rw [Qb1 hA,Qb1 hB];exact hx))]
    repeat (first|(simp -implicitDefEqProofs only [go_sem,Nat.reduceAdd,Nat.reduceMul,Nat.reduceEqDiff,Nat.reduceLT,Nat.reduceLeDiff,reduceCtorEq,hA',n0,g1,g2,hx',Int.toNat_natCast,List.length_map])|(with_reducible exact Qaa _ _ (by kernel_rfl))|(with_reducible refine And.intro (Qaa _ _ (by kernel_rfl)) ?_))
  ·have hA':=ltF hA
   obtain rfl:i=a.length:=by omega
   rw [decide_eq_true (Qx5 hl hall)]
   repeat (first|(simp -implicitDefEqProofs only [go_sem,Nat.reduceAdd,Nat.reduceMul,Nat.reduceEqDiff,Nat.reduceLT,Nat.reduceLeDiff,reduceCtorEq,hA',List.length_map])|(with_reducible exact Qaa _ _ (by kernel_rfl))|(with_reducible refine And.intro (Qaa _ _ (by kernel_rfl)) ?_))
def lenP (p:List Sg):Prop:=p.length≤1000000000∧ ∀s∈p,∀c∈s.ax,c.length≤1000000000
theorem Qin (a b:Sg) (ha: ∀c∈a.ax,c.length≤1000000000) (hb: ∀c∈b.ax,c.length≤1000000000):Qaf Tryz.prog 69 [sgPV a,sgPV b] (.bool (Qjq a b)):=by
 have t1:=Qjt a.x b.x (ha _ (by simp [Sg.ax])) (hb _ (by simp [Sg.ax]))
 have t2:=Qjt a.y b.y (ha _ (by simp [Sg.ax])) (hb _ (by simp [Sg.ax]))
 have t3:=Qjt a.z b.z (ha _ (by simp [Sg.ax])) (hb _ (by simp [Sg.ax]))
 unfold Qan at t1 t2 t3
 unfold Qjq
 by_cases h1:a.f=b.f
 case neg=>
  have h1':(a.f==b.f)=false:=beq_eq_false_iff_ne.2 h1
  rw [decide_eq_false h1,Bool.false_and]
  refine Qac (tb:=[]) 45 [.tmp 4] [0,1,2,3,4] mixed Tryz.func69 rfl (by kernel_rfl) (by kernel_rfl) (by kernel_rfl) (by kernel_rfl) ?_
  repeat (first|(simp -implicitDefEqProofs only [go_sem,Nat.reduceAdd,Nat.reduceMul,Nat.reduceEqDiff,Nat.reduceLT,Nat.reduceLeDiff,reduceCtorEq,h1']))
 have h1':(a.f==b.f)=true:=beq_iff_eq.2 h1
 rw [decide_eq_true h1,Bool.true_and]
 by_cases h2:a.t=b.t
 case neg=>
  have h2':(a.t==b.t)=false:=beq_eq_false_iff_ne.2 h2
  rw [decide_eq_false h2,Bool.false_and]
  refine Qac (tb:=[]) 45 [.tmp 4] [0,1,2,3,4] mixed Tryz.func69 rfl (by kernel_rfl) (by kernel_rfl) (by kernel_rfl) (by kernel_rfl) ?_
  repeat (first|(simp -implicitDefEqProofs only [go_sem,Nat.reduceAdd,Nat.reduceMul,Nat.reduceEqDiff,Nat.reduceLT,Nat.reduceLeDiff,reduceCtorEq,h1',h2']))
 have h2':(a.t==b.t)=true:=beq_iff_eq.2 h2
 rw [decide_eq_true h2,Bool.true_and]
 by_cases h3:a.o=b.o
 case neg=>
  have h3':(a.o==b.o)=false:=beq_eq_false_iff_ne.2 h3
  rw [decide_eq_false h3,Bool.false_and]
  refine Qac (tb:=[]) 45 [.tmp 4] [0,1,2,3,4] mixed Tryz.func69 rfl (by kernel_rfl) (by kernel_rfl) (by kernel_rfl) (by kernel_rfl) ?_
  repeat (first|(simp -implicitDefEqProofs only [go_sem,Nat.reduceAdd,Nat.reduceMul,Nat.reduceEqDiff,Nat.reduceLT,Nat.reduceLeDiff,reduceCtorEq,h1',h2',h3']))
 have h3':(a.o==b.o)=true:=beq_iff_eq.2 h3
 rw [decide_eq_true h3,Bool.true_and]
 cases e1:decide (a.x=b.x)with
 |false=>
  rw [e1]at t1
  refine Qac (tb:=[]) 45 [.tmp 4] [0,1,2,3,4] mixed Tryz.func69 rfl (by kernel_rfl) (by kernel_rfl) (by kernel_rfl) (by kernel_rfl) ?_
  repeat (first|(simp -implicitDefEqProofs only [go_sem,Nat.reduceAdd,Nat.reduceMul,Nat.reduceEqDiff,Nat.reduceLT,Nat.reduceLeDiff,reduceCtorEq,h1',h2',h3'])|((with_reducible refine Qab (t1) ?_ ?_ ?_);(with_reducible rfl);rfl))
 |true=>
  rw [e1]at t1
  cases e2:decide (a.y=b.y)with
  |false=>
   rw [e2]at t2
   refine Qac (tb:=[]) 45 [.tmp 4] [0,1,2,3,4] mixed Tryz.func69 rfl (by kernel_rfl) (by kernel_rfl) (by kernel_rfl) (by kernel_rfl) ?_
   repeat (first|(simp -implicitDefEqProofs only [go_sem,Nat.reduceAdd,Nat.reduceMul,Nat.reduceEqDiff,Nat.reduceLT,Nat.reduceLeDiff,reduceCtorEq,h1',h2',h3'])|((with_reducible refine Qab (t1) ?_ ?_ ?_);(with_reducible rfl);rfl)|((with_reducible refine Qab (t2) ?_ ?_ ?_);(with_reducible rfl);rfl))
  |true=>
   rw [e2]at t2
   refine Qac (tb:=[]) 45 [.tmp 4] [0,1,2,3,4] mixed Tryz.func69 rfl (by kernel_rfl) (by kernel_rfl) (by kernel_rfl) (by kernel_rfl) ?_
   repeat (first|(simp -implicitDefEqProofs only [go_sem,Nat.reduceAdd,Nat.reduceMul,Nat.reduceEqDiff,Nat.reduceLT,Nat.reduceLeDiff,reduceCtorEq,h1',h2',h3'])|((with_reducible refine Qab (t1) ?_ ?_ ?_);(with_reducible rfl);rfl)|((with_reducible refine Qab (t2) ?_ ?_ ?_);(with_reducible rfl);rfl)|((with_reducible refine Qab (t3) ?_ ?_ ?_);(with_reducible rfl);rfl))
theorem Zgt (p:List Sg) (m:Nat) (hm:m≤1000) (hl:p.length≤maxLen):Qaf Tryz.prog 11 [Qap p,.int .i64 (m:Int)] (.bool (fewB p m)):=by
 unfold maxLen at hl
 refine Qac (tb:=[]) 46 [.tmp 4] [0,1,4,5,14,41] mixed Tryz.func11 rfl (by kernel_rfl) (by kernel_rfl) (by kernel_rfl) (by kernel_rfl) ?_
 repeat (first|(simp -implicitDefEqProofs only [go_sem,Nat.reduceAdd,Nat.reduceMul,Nat.reduceEqDiff,Nat.reduceLT,Nat.reduceLeDiff,reduceCtorEq,List.length_map]))
 have z0:0≤p.length∧0≤m+1∧(p.take 0).all few1=true:=⟨Nat.zero_le _,Nat.zero_le _,rfl⟩
 refine Qao mixed (fun i:{i:Nat // i≤p.length∧i≤m+1∧(p.take i).all few1=true}=>St.of [(0,Qap p),(1,.int .i64 (m:Int)),(4,.bool false),(5,.int .i64 (i.1:Int))] []) (fun i=>p.length-i.1) ⟨0,z0⟩ ?_ ?_
 ·exact Qaz (by simp [Qad,lkp,ren1,ren0,Qap])
 ·rintro⟨i,hi,hi2,hall⟩
  by_cases hA:i<p.length
  ·have hA':=ltT hA
   by_cases hM:i≤m
   ·have hM':=leT hM
    have n0:=nnT i
    have g1:=Qcb p i hA
    have hwk:=Qah (a:=i) (by omega)
    by_cases x1:p[i].x.length≤8
    case neg=>
     have x1':((8:Int)<(p[i].x.length:Int))=True:=eq_true (by omega)
     have e:fewB p m=false:=Qpn hA hM (by unfold few1;rw [decide_eq_false x1];rfl)
     repeat (first|(simp -implicitDefEqProofs only [go_sem,Nat.reduceAdd,Nat.reduceMul,Nat.reduceEqDiff,Nat.reduceLT,Nat.reduceLeDiff,reduceCtorEq,hA',hM',n0,g1,x1',e,Int.toNat_natCast,List.length_map]))
    have x1':((8:Int)<(p[i].x.length:Int))=False:=eq_false (by omega)
    by_cases x2:p[i].y.length≤8
    case neg=>
     have x2':((8:Int)<(p[i].y.length:Int))=True:=eq_true (by omega)
     have e:fewB p m=false:=Qpn hA hM (by unfold few1;rw [decide_eq_false x2];simp)
     repeat (first|(simp -implicitDefEqProofs only [go_sem,Nat.reduceAdd,Nat.reduceMul,Nat.reduceEqDiff,Nat.reduceLT,Nat.reduceLeDiff,reduceCtorEq,hA',hM',n0,g1,x1',x2',e,Int.toNat_natCast,List.length_map]))
    have x2':((8:Int)<(p[i].y.length:Int))=False:=eq_false (by omega)
    by_cases x3:p[i].z.length≤8
    case neg=>
     have x3':((8:Int)<(p[i].z.length:Int))=True:=eq_true (by omega)
     have e:fewB p m=false:=Qpn hA hM (by unfold few1;rw [decide_eq_false x3];simp)
     repeat (first|(simp -implicitDefEqProofs only [go_sem,Nat.reduceAdd,Nat.reduceMul,Nat.reduceEqDiff,Nat.reduceLT,Nat.reduceLeDiff,reduceCtorEq,hA',hM',n0,g1,x1',x2',x3',e,Int.toNat_natCast,List.length_map]))
    have x3':((8:Int)<(p[i].z.length:Int))=False:=eq_false (by omega)
    repeat (first|(simp -implicitDefEqProofs only [go_sem,Nat.reduceAdd,Nat.reduceMul,Nat.reduceEqDiff,Nat.reduceLT,Nat.reduceLeDiff,reduceCtorEq,hA',hM',n0,g1,hwk,x1',x2',x3',Int.toNat_natCast,List.length_map]))
    refine⟨⟨i+1,hA,by omega,Qwr hA hall (by unfold few1;rw [decide_eq_true x1,decide_eq_true x2,decide_eq_true x3];rfl)⟩,by simp only;omega,Qaz (by simp [Qad,lkp,ren1,ren0,Qap])⟩
   ·have hM':=leF hM
    have hle:((p.length:Int)≤(m:Int))=False:=eq_false (by omega)
    have e:fewB p m=false:=by unfold fewB;rw [decide_eq_false (show¬p.length≤m by omega),Bool.and_false]
    repeat (first|(simp -implicitDefEqProofs only [go_sem,Nat.reduceAdd,Nat.reduceMul,Nat.reduceEqDiff,Nat.reduceLT,Nat.reduceLeDiff,reduceCtorEq,hA',hM',hle,e,List.length_map]))
  ·have hA':=ltF hA
   obtain rfl:i=p.length:=by omega
   rw [List.take_length]at hall
   have e:fewB p m=decide (p.length≤m):=by
    unfold fewB
    by_cases c:p.length≤m
    ·rw [List.take_of_length_le (by omega),hall,Bool.true_and]
    ·rw [decide_eq_false c,Bool.and_false]
   have hle:decide ((p.length:Int)≤(m:Int))=decide (p.length≤m):=by rw [decide_eq_decide];omega
   repeat (first|(simp -implicitDefEqProofs only [go_sem,Nat.reduceAdd,Nat.reduceMul,Nat.reduceEqDiff,Nat.reduceLT,Nat.reduceLeDiff,reduceCtorEq,hA',hle,e,List.length_map]))
end Go.Proofs.YtlpiamlgibomhaaGreat

namespace Go.Dg

def cwB:Bool:=(List.range 6).all fun n=>(List.range (n+1)).all fun j=>(List.range (j+1)).all fun k=>Nat.beq (bin n j*cw n j k) (60*bin (n-k) (j-k))
theorem Q87:cwB=true:=by decide
theorem Zqy {n j k:Nat} (hn:n≤5) (hj:j≤n) (hk:k≤j):bin n j*cw n j k=60*bin (n-k) (j-k):=by
  have h:=Q87
  unfold cwB at h
  simp only [List.all_eq_true,List.mem_range]at h
  exact Nat.eq_of_beq_eq_true (h n (by omega) j (by omega) k (by omega))
theorem Qx6 (f:List Int) (n j:Nat) (h:j<n+1):(trans f 1 n).getD j 0=sm (fun i=>f.getD i 0*(bin (n-i) (j-i):Int)) (j+1):=by
  unfold trans
  rw [Qly,if_pos h]
  refine Qbp _ fun i _=> ?_
  rw [Int.one_pow,Int.one_mul]
theorem Q1e {c:List Int} {n j:Nat} (hc:c.length=n+1) (hn:n≤5) (hj:j≤n):(bin n j:Int)*ctl c j=60*(trans c 1 n).getD j 0:=by
  rw [Qx6 c n j (by omega),ctl,←Qeg,←Qeg]
  refine Qbp _ fun k hk=> ?_
  have h:=Zqy hn hj (show k≤j by omega)
  have hn':c.length-1=n:=by omega
  rw [hn']
  have h2:((bin n j:Nat):Int)*(cw n j k:Int)=60*(bin (n-k) (j-k):Int):=by
    rw [←Int.natCast_mul,h,Int.natCast_mul];rfl
  calc (bin n j:Int)*(c.getD k 0*(cw n j k:Int))=c.getD k 0*((bin n j:Int)*(cw n j k:Int)):=by
        rw [←Int.mul_assoc,Int.mul_comm (bin n j:Int),Int.mul_assoc]
    _=c.getD k 0*(60*(bin (n-k) (j-k):Int)):=by rw [h2]
    _=60*(c.getD k 0*(bin (n-k) (j-k):Int)):=by rw [←Int.mul_assoc,Int.mul_comm (c.getD k 0),Int.mul_assoc]
theorem Zhs {c:List Int} {n:Nat} (hc:c.length=n+1) (hn:n≤5) (a b:Int):60*hev c a (a+b)=sm (fun j=>ctl c j*((bin n j:Int)*(a^j*b^(n-j)))) (n+1):=by
  have h:=Qx0 hc 1 a b
  rw [Int.one_mul]at h
  rw [←h,Qkb,Qq7,←Qeg]
  refine Qbp _ fun j hj=> ?_
  have h2:=Q1e hc hn (show j≤n by omega)
  have e:n+1-1-j=n-j:=by omega
  rw [e,←Int.mul_assoc 60,←h2,Int.mul_comm (bin n j:Int),Int.mul_assoc]
theorem Q1f {c:List Int} {n:Nat} {M a b:Int} (hc:c.length=n+1) (hn:n≤5) (ha:0≤a) (hb:0≤b) (hM: ∀j,j≤n→ -M≤ctl c j∧ctl c j≤M):
    -(M*(a+b)^n)≤60*hev c a (a+b)∧60*hev c a (a+b)≤M*(a+b)^n:=by
  have hw: ∀j,0≤(bin n j:Int)*(a^j*b^(n-j)):=fun j=>Int.mul_nonneg (Int.natCast_nonneg _) (Int.mul_nonneg (Int.pow_nonneg ha) (Int.pow_nonneg hb))
  rw [Zhs hc hn,←Qtb a b n,←Qeg]
  constructor
  · have e: -(sm (fun i=>M*((bin n i:Int)*(a^i*b^(n-i)))) (n+1))=sm (fun i=> -M*((bin n i:Int)*(a^i*b^(n-i)))) (n+1):=by
      rw [Qeg,Qeg,Int.neg_mul]
    rw [e]
    exact Zhm _ fun j hj=>Int.mul_le_mul_of_nonneg_right (hM j (by omega)).1 (hw j)
  · exact Zhm _ fun j hj=>Int.mul_le_mul_of_nonneg_right (hM j (by omega)).2 (hw j)
theorem Zht {c:List Int} {n:Nat} (hc:c.length=n+1) (hn:n≤5) (a d:Int):plc c a d=d^(5-n)*hev c a d:=by
  rw [Qkb,←Qeg,plc]
  refine Qbp _ fun k hk=> ?_
  have e:5-k=(5-n)+(c.length-1-k):=by omega
  unfold plcT
  rw [e,Int.pow_add]
  generalize d^(5-n)=D
  generalize d^(c.length-1-k)=E
  generalize a^k=A
  generalize c.getD k 0=X
  rw [←Int.mul_assoc,←Int.mul_assoc,←Int.mul_assoc,←Int.mul_assoc,Int.mul_comm D X,Int.mul_assoc X A D,Int.mul_comm A D,←Int.mul_assoc]
theorem Q1g {c:List Int} {o a d:Int} (h:axOK c o=true) (ha:0≤a) (hd:a≤d): -(1048576*(o*d^5))≤plc c a d∧plc c a d≤1048576*(o*d^5):=by
  obtain⟨h1,h2,_,h3⟩:=Qb7 h
  obtain⟨n,hn⟩: ∃n,c.length=n+1:=⟨c.length-1,by omega⟩
  have hM: ∀j,j≤n→ -(62914560*o)≤ctl c j∧ctl c j≤62914560*o:=by
    intro j hj
    unfold Qc6 at h3
    have:=List.all_eq_true.1 h3 j (List.mem_range.2 (by omega))
    simp only [decide_eq_true_eq]at this
    omega
  obtain⟨k1,k2⟩:=Q1f hn (by omega) ha (show 0≤d-a by omega) hM
  have e:a+(d-a)=d:=by omega
  rw [e]at k1 k2
  rw [Zht hn (by omega)]
  have hd0:0≤d^(5-n):=Int.pow_nonneg (by omega)
  have e5:d^5=d^(5-n)*d^n:=by rw [←Int.pow_add];congr 1;omega
  have k3: -(1048576*(o*d^n))≤hev c a d:=by
    have:62914560*o*d^n=60*(1048576*(o*d^n)):=by
      generalize d^n=D
      rw [Int.mul_assoc,show(62914560:Int)=60*1048576 from rfl,Int.mul_assoc]
    omega
  have k4:hev c a d≤1048576*(o*d^n):=by
    have:62914560*o*d^n=60*(1048576*(o*d^n)):=by
      generalize d^n=D
      rw [Int.mul_assoc,show(62914560:Int)=60*1048576 from rfl,Int.mul_assoc]
    omega
  have e6:1048576*(o*d^5)=d^(5-n)*(1048576*(o*d^n)):=by
    rw [e5]
    generalize d^(5-n)=D
    generalize d^n=E
    rw [←Int.mul_assoc o,Int.mul_comm o D,Int.mul_assoc D,←Int.mul_assoc 1048576,Int.mul_comm 1048576 D,Int.mul_assoc]
  rw [e6]
  constructor
  · rw [←Int.mul_neg];exact Int.mul_le_mul_of_nonneg_left k3 hd0
  · exact Int.mul_le_mul_of_nonneg_left k4 hd0
theorem Zhu (s:Sg) (a d:Int):(plG s a d 3:Int)∣s.o*d^5∧ ∀i,i<3→(plG s a d 3:Int)∣plP s a d i:=by
  have h3:=Qfy s a d 2
  have h2:=Qfy s a d 1
  have h1:=Qfy s a d 0
  have d32:plG s a d 3∣plG s a d 2:=by rw [h3];exact Nat.gcd_dvd_left _ _
  have d21:plG s a d 2∣plG s a d 1:=by rw [h2];exact Nat.gcd_dvd_left _ _
  have d10:plG s a d 1∣plG s a d 0:=by rw [h1];exact Nat.gcd_dvd_left _ _
  have p2:plG s a d 3∣(plP s a d 2).natAbs:=by rw [h3];exact Nat.gcd_dvd_right _ _
  have p1:plG s a d 2∣(plP s a d 1).natAbs:=by rw [h2];exact Nat.gcd_dvd_right _ _
  have p0:plG s a d 1∣(plP s a d 0).natAbs:=by rw [h1];exact Nat.gcd_dvd_right _ _
  refine⟨?_,fun i hi=> ?_⟩
  · have:plG s a d 3∣(s.o*d^5).natAbs:=Nat.dvd_trans d32 (Nat.dvd_trans d21 d10)
    exact Int.dvd_natAbs.1 (Int.natCast_dvd_natCast.2 this)
  · rcases(show i=0∨i=1∨i=2 by omega)with rfl|rfl|rfl
    · exact Int.dvd_natAbs.1 (Int.natCast_dvd_natCast.2 (Nat.dvd_trans (Nat.dvd_trans d32 d21) p0))
    · exact Int.dvd_natAbs.1 (Int.natCast_dvd_natCast.2 (Nat.dvd_trans d32 p1))
    · exact Int.dvd_natAbs.1 (Int.natCast_dvd_natCast.2 p2)
/-- A coordinate of a place is within the bounds. -/
theorem Q1h {s:Sg} {a d:Int} (hv:Qa2 s=true) (ha:0≤a) (hd:a≤d) (h1:1≤d) (i:Nat) (hi:i<3):0<plO s a d∧ -(1048576*plO s a d)≤plQ s a d i∧plQ s a d i≤1048576*plO s a d:=by
  have ho:=Qdy hv
  have hg:=Qtg ho h1 3 (s:=s) (a:=a)
  obtain⟨⟨x,hx⟩,hP⟩:=Zhu s a d
  obtain⟨y,hy⟩:=hP i hi
  have hi':i<s.ax.length:=hi
  have hm:s.ax.getD i []=s.ax[i]:=by rw [List.getD_eq_getElem?_getD,List.getElem?_eq_getElem hi'];rfl
  have hb:=Q1g ((Qa3 hv).2.1 _ (List.getElem_mem hi')) ha hd
  have hP2:plP s a d i=plc s.ax[i] a d:=by unfold plP;rw [hm]
  rw [←hP2]at hb
  unfold plO plQ
  have hpos:0<s.o*d^5:=Int.mul_pos (by omega) (Int.pow_pos (by omega))
  rw [hx]at hb hpos ⊢
  rw [hy]at hb ⊢
  have hG:(0:Int)<(plG s a d 3:Int):=by omega
  generalize ((plG s a d 3:Nat):Int)=G at*
  rw [Int.mul_ediv_cancel_left _ (by omega),Int.mul_ediv_cancel_left _ (by omega)]
  have e:1048576*(G*x)=G*(1048576*x):=by rw [←Int.mul_assoc,Int.mul_comm 1048576 G,Int.mul_assoc]
  rw [e,←Int.mul_neg]at hb
  exact⟨Int.lt_of_mul_lt_mul_left (a:=G) (by rw [Int.mul_zero];exact hpos) (Int.le_of_lt hG),Int.le_of_mul_le_mul_left hb.1 hG,Int.le_of_mul_le_mul_left hb.2 hG⟩
/-- Rounding. -/
def rnd (x o:Int):Int:=(x+x+o)/(o+o)
theorem Q1i {x o:Int} (ho:0<o) (h1: -(1048576*o)≤x) (h2:x≤1048576*o): -1048576≤rnd x o∧rnd x o≤1048576:=by
  unfold rnd
  constructor
  · exact(Int.le_ediv_iff_mul_le (by omega)).2 (by omega)
  · have:=(Int.ediv_lt_iff_lt_mul (a:=x+x+o) (b:=1048577) (show 0<o+o by omega)).2 (by omega)
    omega
/-! ### times -/
theorem Qbr {p:List Sg} (h:Qa5 p=true):vpTo p p.length=true∧1≤p.length∧p.length≤256:=by
  unfold Qa5 at h
  simp only [Bool.and_eq_true,decide_eq_true_eq]at h
  exact h
theorem Qe0 {p:List Sg} (h:Qa5 p=true) (i:Nat) (hi:i<p.length):Qa2 p[i]=true:=by
  have:=Qjp (Qbr h).1 hi
  rwa [sgD hi]at this
theorem Qke {p:List Sg} (h:Qa5 p=true) (i:Nat) (hi:i+1<p.length):Qeh p[i] p[i+1]=true:=by
  have h1:=(Qbr h).1
  unfold vpTo at h1
  have:=List.all_eq_true.1 h1 (i+1) (List.mem_range.2 hi)
  unfold vpAt at this
  simp only [Bool.and_eq_true,Bool.or_eq_true,decide_eq_true_eq]at this
  have h2:=this.2.resolve_left (by omega)
  rwa [Nat.add_sub_cancel,sgD (show i<p.length by omega),sgD hi]at h2
theorem Ql2 {a b:Sg} (h:Qeh a b=true):a.t=b.f:=by
  unfold Qeh at h
  simp only [Bool.and_eq_true,decide_eq_true_eq]at h
  exact h.1
theorem Qtl {p:List Sg} (h:Qa5 p=true) (i:Nat) (hi:i+1<p.length):p[i].t<p[i+1].t:=by
  have h1:=Ql2 (Qke h i hi)
  have h2:=(Qa3 (Qe0 h (i+1) hi)).1
  omega
theorem Ql3 {p:List Sg} (h:Qa5 p=true): ∀(j i:Nat) (hj:j<p.length) (_:i≤j),(p[i]'(by omega)).t≤p[j].t
  |0,i,hj,hij=>by obtain rfl:i=0:=by omega
                  exact Int.le_refl _
  |j+1,i,hj,hij=>by
    by_cases e:i=j+1
    · subst e;exact Int.le_refl _
    · have h1:=Ql3 h j i (by omega) (by omega)
      have h2:=Qtl h j hj
      omega
/-- The segment of a time. -/
def atIx (p:List Sg) (t:Int):Nat:=p.findIdx fun s=>decide (t≤s.t)
def pEnd (p:List Sg):Int:=(p.getD (p.length-1) sg0).t
def pBeg (p:List Sg):Int:=(p.getD 0 sg0).f
theorem Zhv {p:List Sg} {t:Int} (h:Qa5 p=true) (ht:t≤pEnd p):atIx p t<p.length:=by
  have hl:=(Qbr h).2.1
  unfold atIx
  rw [List.findIdx_lt_length]
  have hi:p.length-1<p.length:=by omega
  refine⟨p[p.length-1],List.getElem_mem hi,?_⟩
  unfold pEnd at ht
  rw [sgD hi]at ht
  exact decide_eq_true ht
theorem Qtm {p:List Sg} {t:Int} (hi:atIx p t<p.length):t≤(p[atIx p t]).t:=by
  have:=List.findIdx_getElem (w:=hi)
  exact of_decide_eq_true this
theorem Qh2 {p:List Sg} {t:Int} {i:Nat} (hi:i<atIx p t) (hl:i<p.length):p[i].t<t:=by
  have:=List.not_of_lt_findIdx hi
  exact Int.not_le.1 (of_decide_eq_false this)
theorem Q1j {p:List Sg} {t:Int} (h:Qa5 p=true) (hb:pBeg p≤t) (hi:atIx p t<p.length):(p[atIx p t]).f≤t:=by
  rcases Nat.eq_zero_or_pos (atIx p t)with e|e
  · unfold pBeg at hb
    have h0:0<p.length:=by omega
    rw [sgD h0]at hb
    simp only [e]
    exact hb
  · have h1:=Qh2 (p:=p) (t:=t) (i:=atIx p t-1) (by omega) (by omega)
    have h2:=Ql2 (Qke h (atIx p t-1) (by omega))
    have e2:atIx p t-1+1=atIx p t:=by omega
    simp only [e2]at h2
    omega
end Go.Dg

namespace Go.Proofs.YtlpiamlgibomhaaGreat
open Go.Vl Go.RowKit Go.Dg
theorem Qju:((0:Int) != 0)=false:=rfl
theorem Qng:((0:Int)==0)=true:=rfl
theorem Zrd:((1:Int) != 0)=true:=rfl
theorem Zre:((1:Int)==0)=false:=rfl
theorem Zi4:((2:Int) != 0)=true:=rfl
theorem Zrf:((2:Int)==0)=false:=rfl
theorem Zrg:((3:Int) != 0)=true:=rfl
theorem Zrh:((3:Int)==0)=false:=rfl
theorem Zi5:((7:Int) != 0)=true:=rfl
theorem Zri:((7:Int)==0)=false:=rfl
theorem Zrj:((9:Int) != 0)=true:=rfl
theorem Zrk:((9:Int)==0)=false:=rfl
theorem Zol:((10:Int) != 0)=true:=rfl
theorem Zom:((10:Int)==0)=false:=rfl
attribute [go_sem] Qju Qng Zrd Zre Zi4 Zrf Zrg Zrh Zi5 Zri Zrj Zrk Zol Zom
theorem Qwo (p:List Sg) (h:0<p.length):Qaf Tryz.prog 32 [Qap p] (.int .i64 (pBeg p)):=by
 have hg:=Qcb p 0 h
 have e:pBeg p=p[0].f:=by unfold pBeg;rw [sgD h]
 rw [e]
 refine Qac (tb:=[]) 7 [.tmp 2] [0,2] mixed Tryz.func32 rfl (by kernel_rfl) (by kernel_rfl) (by kernel_rfl) (by kernel_rfl) ?_
 repeat (first|(simp -implicitDefEqProofs only [go_sem,Nat.reduceAdd,Nat.reduceMul,Nat.reduceEqDiff,Nat.reduceLT,Nat.reduceLeDiff,reduceCtorEq,hg,List.length_map]))
theorem Zgu (p:List Sg) (h:0<p.length) (hl:p.length≤1000000000):Qaf Tryz.prog 33 [Qap p] (.int .i64 (pEnd p)):=by
 have hi:p.length-1<p.length:=by omega
 have hg:=Qcb p (p.length-1) hi
 have wl:=Qdh (n:=p.length) h (by omega)
 have n1:=nnT (p.length-1)
 have e:pEnd p=p[p.length-1].t:=by unfold pEnd;rw [sgD hi]
 rw [e]
 refine Qac (tb:=[]) 10 [.tmp 2] [0,2] mixed Tryz.func33 rfl (by kernel_rfl) (by kernel_rfl) (by kernel_rfl) (by kernel_rfl) ?_
 repeat (first|(simp -implicitDefEqProofs only [go_sem,Nat.reduceAdd,Nat.reduceMul,Nat.reduceEqDiff,Nat.reduceLT,Nat.reduceLeDiff,reduceCtorEq,hg,wl,n1,Int.toNat_natCast,List.length_map]))
def lasts (p:List Sg) (t:Int):Bool:=decide (pBeg p≤t)&&decide (t≤pEnd p)
theorem Qtx (p:List Sg) (hp: ∀s∈p,okSg s) (hl:p.length≤1000000):Qaf Tryz.prog 29 [Qap p] (if Qa5 p=true then .tup [.int .i64 (pBeg p),.int .i64 (pEnd p),.int .i64 0]else .tup [.int .i64 0,.int .i64 0,.int .i64 2]):=by
 have hv:=Qd4 p hp hl
 unfold Qap at hv
 cases hV:Qa5 p with
 |false=>
  rw [hV]at hv
  refine Qac (tb:=[]) 19 [.tmp 2,.tmp 3,.tmp 4] [0,2,3,4,7] mixed Tryz.func29 rfl (by kernel_rfl) (by kernel_rfl) (by kernel_rfl) (by kernel_rfl) ?_
  repeat (first|(simp -implicitDefEqProofs only [go_sem,Nat.reduceAdd,Nat.reduceMul,Nat.reduceEqDiff,Nat.reduceLT,Nat.reduceLeDiff,reduceCtorEq,Bool.false_eq_true])|((with_reducible refine Qab (hv) ?_ ?_ ?_);(with_reducible rfl);rfl)|(with_reducible exact Qaa _ _ (by kernel_rfl))|(with_reducible refine And.intro (Qaa _ _ (by kernel_rfl)) ?_))
 |true=>
  have h:=(Qbr hV).2.1
  have hi:p.length-1<p.length:=by omega
  have hg0:=Qcb p 0 (by omega)
  have hg:=Qcb p (p.length-1) hi
  have wl:=Qdh (n:=p.length) (by omega) (by omega)
  have n1:=nnT (p.length-1)
  have e1:pEnd p=p[p.length-1].t:=by unfold pEnd;rw [sgD hi]
  have e2:pBeg p=p[0].f:=by unfold pBeg;rw [sgD (by omega)]
  rw [e1,e2]
  rw [hV]at hv
  refine Qac (tb:=[]) 19 [.tmp 2,.tmp 3,.tmp 4] [0,2,3,4,7] mixed Tryz.func29 rfl (by kernel_rfl) (by kernel_rfl) (by kernel_rfl) (by kernel_rfl) ?_
  repeat (first|(simp -implicitDefEqProofs only [go_sem,Nat.reduceAdd,Nat.reduceMul,Nat.reduceEqDiff,Nat.reduceLT,Nat.reduceLeDiff,reduceCtorEq,hg,hg0,wl,n1,Int.toNat_natCast,List.length_map])|((with_reducible refine Qab (hv) ?_ ?_ ?_);(with_reducible rfl);rfl)|(with_reducible exact Qaa _ _ (by kernel_rfl))|(with_reducible refine And.intro (Qaa _ _ (by kernel_rfl)) ?_))
theorem Q94 (n m:Nat) (f:FuncId) (cap:List PV) (Pr:Nat→Bool) (hn:n≤1000000000) (hm:m≤n) (h1: ∀i,i<m→Pr i=false) (h2: ∀i,m≤i→i<n→Pr i=true)
  (hc:Qfl cap (fun _=>none)=some ((cap,[]),[])) (hcr:ren1 [] (.fn f [] cap)=some (.fn f [] cap)) (hf: ∀i:Nat,i<n→Qaf Tryz.prog f (.int .i64 (i:Int)::cap) (.bool (Pr i))):Qaf Tryz.prog 58 [.int .i64 (n:Int),.fn f [] cap] (.int .i64 (m:Int)):=by
 refine Qac (tb:=[]) 26 [.tmp 4] [0,1,4,5,6,7,11,21] mixed Tryz.func58 rfl (by kernel_rfl) (by kernel_rfl) (by kernel_rfl) (by kernel_rfl) ?_
 repeat (first|(simp -implicitDefEqProofs only [go_sem,Nat.reduceAdd,Nat.reduceMul,Nat.reduceEqDiff,Nat.reduceLT,Nat.reduceLeDiff,reduceCtorEq,if_true]))
 have z0:0≤m∧m≤n∧n≤n:=⟨Nat.zero_le _,hm,Nat.le_refl _⟩
 refine Qao mixed (fun x:{x:Nat×Nat // x.1≤m∧m≤x.2∧x.2≤n}=>St.of [(0,.int .i64 (n:Int)),(1,.fn f [] cap),(5,.int .i64 (x.1.1:Int)),(6,.int .i64 (x.1.2:Int))] []) (fun x=>x.1.2-x.1.1) ⟨(0,n),z0⟩ ?_ ?_
 ·exact Qaz ⟨by simp [lkp,ren1,ren0],by simp only [lkp];exact hcr,by simp [lkp,ren1,ren0],by simp [lkp,ren1,ren0],trivial⟩
 ·rintro⟨⟨i,j⟩,hi,hj,hjn⟩
  simp only at hi hj hjn
  by_cases hA:i<j
  ·have hA':=ltT hA
   have w1:IntKind.i64.wrap ((i:Int)+(j:Int))=((i+j:Nat):Int):=by rw [Qai (by omega) (by omega)];omega
   have w2:IntKind.u64.wrap ((i+j:Nat):Int)=((i+j:Nat):Int):=Qiu (by omega)
   have w3:(((i+j:Nat):Int)).fdiv (2^min 1 64)=(((i+j)/2:Nat):Int):=by
    rw [Int.fdiv_eq_ediv_of_nonneg _ (by decide)];rfl
   have w4:IntKind.i64.wrap (((i+j)/2:Nat):Int)=(((i+j)/2:Nat):Int):=wrapn (by omega)
   have hh:(i+j)/2<n:=by omega
   have hfh:=hf ((i+j)/2) hh
   have w5:=Qah (a:=(i+j)/2) (by omega)
   generalize hH:(i+j)/2=h at*
   by_cases hmh:h<m
   ·rw [h1 h hmh]at hfh
    repeat (first|(simp -implicitDefEqProofs only [go_sem,Nat.reduceAdd,Nat.reduceMul,Nat.reduceEqDiff,Nat.reduceLT,Nat.reduceLeDiff,reduceCtorEq,Int.reduceLT,Int.reduceToNat,hA',w1,w2,w3,w4,w5,hc])|((with_reducible refine Qab (hfh) ?_ ?_ ?_);(with_reducible rfl);rfl))
    refine⟨⟨(h+1,j),by simp only;omega,hj,hjn⟩,by simp only;omega,Qaz ⟨by simp [lkp,ren1,ren0],by simp only [lkp];exact hcr,by simp [lkp,ren1,ren0],by simp [lkp,ren1,ren0],trivial⟩⟩
   ·rw [h2 h (by omega) hh]at hfh
    repeat (first|(simp -implicitDefEqProofs only [go_sem,Nat.reduceAdd,Nat.reduceMul,Nat.reduceEqDiff,Nat.reduceLT,Nat.reduceLeDiff,reduceCtorEq,Int.reduceLT,Int.reduceToNat,hA',w1,w2,w3,w4,hc])|((with_reducible refine Qab (hfh) ?_ ?_ ?_);(with_reducible rfl);rfl))
    refine⟨⟨(i,h),hi,by simp only;omega,by simp only;omega⟩,by simp only;omega,Qaz ⟨by simp [lkp,ren1,ren0],by simp only [lkp];exact hcr,by simp [lkp,ren1,ren0],by simp [lkp,ren1,ren0],trivial⟩⟩
  ·have hA':=ltF hA
   obtain rfl:i=m:=by omega
   repeat (first|(simp -implicitDefEqProofs only [go_sem,Nat.reduceAdd,Nat.reduceMul,Nat.reduceEqDiff,Nat.reduceLT,Nat.reduceLeDiff,reduceCtorEq,hA']))
theorem Q95 (p:List Sg) (t:Int) (i:Nat) (h:i<p.length):Qaf Tryz.prog 59 [.int .i64 (i:Int),.rp [.int .i64 t],.rp [.slc (p.map sgPV)]] (.bool (decide (t≤p[i].t))):=by
 have hg:=Qcb p i h
 have n0:=nnT i
 refine Qac (tb:=[]) 12 [.tmp 4] [0,1,2,4] mixed Tryz.func59 rfl (by kernel_rfl) (by kernel_rfl) (by kernel_rfl) (by kernel_rfl) ?_
 repeat (first|(simp -implicitDefEqProofs only [go_sem,Nat.reduceAdd,Nat.reduceMul,Nat.reduceEqDiff,Nat.reduceLT,Nat.reduceLeDiff,reduceCtorEq,hg,n0,Int.toNat_natCast])|(with_reducible exact Qaa _ _ (by kernel_rfl))|(with_reducible refine And.intro (Qaa _ _ (by kernel_rfl)) ?_))
def Qme:PV:= .agg [.bool false,.str ⟨#[]⟩,.bool false,.str ⟨#[]⟩,.bool false,.str ⟨#[]⟩,.bool false,.str ⟨#[]⟩]
attribute [go_sem] Qme
def exA (p:List Sg) (t:Int):Int:=t-(p.getD (atIx p t) sg0).f
def exD (p:List Sg) (t:Int):Int:=(p.getD (atIx p t) sg0).t-(p.getD (atIx p t) sg0).f
def exQ (p:List Sg) (t:Int) (i:Nat):Int:=plQ (p.getD (atIx p t) sg0) (exA p t) (exD p t) i
def exO (p:List Sg) (t:Int):Int:=plO (p.getD (atIx p t) sg0) (exA p t) (exD p t)
def Qp2 (p:List Sg) (t:Int):PV:=if Qa5 p=true then(if lasts p t=true then .tup [Qae (exQ p t 0) (exQ p t 1) (exQ p t 2) (exO p t),.int .i64 0]else .tup [Qme,.int .i64 3])else .tup [Qme,.int .i64 2]
theorem Qp3 {p:List Sg} {t:Int} (hV:Qa5 p=true) (hL:lasts p t=true): ∃h:atIx p t<p.length,exA p t=t-p[atIx p t].f∧exD p t=p[atIx p t].t-p[atIx p t].f∧0≤exA p t∧exA p t≤exD p t∧1≤exD p t∧exD p t≤3600000∧Qa2 p[atIx p t]=true∧p.getD (atIx p t) sg0=p[atIx p t]:=by
 unfold lasts at hL
 simp only [Bool.and_eq_true,decide_eq_true_eq]at hL
 have hi:=Zhv hV hL.2
 have h1:=Qtm hi
 have h2:=Q1j hV hL.1 hi
 have hv:=Qe0 hV _ hi
 have h3:=(Qa3 hv).1
 have e1:exA p t=t-p[atIx p t].f:=by unfold exA;rw [sgD hi]
 have e2:exD p t=p[atIx p t].t-p[atIx p t].f:=by unfold exD;rw [sgD hi]
 exact⟨hi,e1,e2,by omega,by omega,by omega,by omega,hv,sgD hi⟩
set_option maxHeartbeats 1000000 in
theorem Qwp (p:List Sg) (t:Int) (hp: ∀s∈p,okSg s) (hl:p.length≤1000000) (ht:i64 t):Qaf Tryz.prog 15 [Qap p,.int .i64 t] (Qp2 p t):=by
 have hs:=Qtx p hp hl
 unfold Qap at hs
 unfold Qp2
 cases hV:Qa5 p with
 |false=>
  rw [hV]at hs
  simp only [Bool.false_eq_true,if_false]at hs ⊢
  refine Qac (tb:=[]) 49 [.cell 4 33,.tmp 5] [0,1,2,3,4,5,6,7,8,9,16,21] mixed Tryz.func15 rfl (by kernel_rfl) (by kernel_rfl) (by kernel_rfl) (by kernel_rfl) ?_
  repeat (first|(simp -implicitDefEqProofs only [go_sem,Nat.reduceAdd,Nat.reduceMul,Nat.reduceEqDiff,Nat.reduceLT,Nat.reduceLeDiff,reduceCtorEq,List.length_map])|((with_reducible refine Qab (hs) ?_ ?_ ?_);(with_reducible rfl);rfl)|(with_reducible exact Qaa _ _ (by kernel_rfl))|(with_reducible refine And.intro (Qaa _ _ (by kernel_rfl)) ?_))
 |true=>
  rw [hV]at hs
  simp only [if_true]at hs ⊢
  by_cases c1:pBeg p≤t
  case neg=>
   have c1':(t<pBeg p)=True:=eq_true (by omega)
   have e:lasts p t=false:=by unfold lasts;rw [decide_eq_false c1];rfl
   rw [e]
   simp only [Bool.false_eq_true,if_false]
   refine Qac (tb:=[]) 49 [.cell 4 33,.tmp 5] [0,1,2,3,4,5,6,7,8,9,16,21] mixed Tryz.func15 rfl (by kernel_rfl) (by kernel_rfl) (by kernel_rfl) (by kernel_rfl) ?_
   repeat (first|(simp -implicitDefEqProofs only [go_sem,Nat.reduceAdd,Nat.reduceMul,Nat.reduceEqDiff,Nat.reduceLT,Nat.reduceLeDiff,reduceCtorEq,List.length_map,c1'])|((with_reducible refine Qab (hs) ?_ ?_ ?_);(with_reducible rfl);rfl)|(with_reducible exact Qaa _ _ (by kernel_rfl))|(with_reducible refine And.intro (Qaa _ _ (by kernel_rfl)) ?_))
  have c1':(t<pBeg p)=False:=eq_false (by omega)
  by_cases c2:t≤pEnd p
  case neg=>
   have c2':(pEnd p<t)=True:=eq_true (by omega)
   have e:lasts p t=false:=by unfold lasts;rw [decide_eq_false c2,Bool.and_false]
   rw [e]
   simp only [Bool.false_eq_true,if_false]
   refine Qac (tb:=[]) 49 [.cell 4 33,.tmp 5] [0,1,2,3,4,5,6,7,8,9,16,21] mixed Tryz.func15 rfl (by kernel_rfl) (by kernel_rfl) (by kernel_rfl) (by kernel_rfl) ?_
   repeat (first|(simp -implicitDefEqProofs only [go_sem,Nat.reduceAdd,Nat.reduceMul,Nat.reduceEqDiff,Nat.reduceLT,Nat.reduceLeDiff,reduceCtorEq,List.length_map,c1',c2'])|((with_reducible refine Qab (hs) ?_ ?_ ?_);(with_reducible rfl);rfl)|(with_reducible exact Qaa _ _ (by kernel_rfl))|(with_reducible refine And.intro (Qaa _ _ (by kernel_rfl)) ?_))
  have c2':(pEnd p<t)=False:=eq_false (by omega)
  have hL:lasts p t=true:=by unfold lasts;rw [decide_eq_true c1,decide_eq_true c2];rfl
  rw [hL]
  simp only [if_true]
  obtain⟨hi,eA,eD,k1,k2,k3,k4,hv,hD⟩:=Qp3 hV hL
  have hsr:=Q94 p.length (atIx p t) 59 [.rp [.int .i64 t],.rp [.slc (p.map sgPV)]] (fun i=>decide (t≤(p.getD i sg0).t)) (by omega) (Nat.le_of_lt hi)
   (fun i h=>by rw [sgD (by omega)];exact decide_eq_false (Int.not_le.2 (Qh2 h (by omega))))
   (fun i h h'=>by rw [sgD h'];exact decide_eq_true (Int.le_trans (Qtm hi) (Ql3 hV i _ h' h))) rfl rfl
   (fun i h=>by rw [sgD h];exact Q95 p t i h)
  have hpl:=Qp0 p[atIx p t] (exA p t) (exD p t) (hp _ (List.getElem_mem hi)) (Qdc hv) (Qdy hv) (by unfold i64;omega) (by unfold i64;omega) (by omega)
  rw [Zgs]at hpl
  unfold exQ exO
  rw [hD]
  have hg:=Qcb p (atIx p t) hi
  have n0:=nnT (atIx p t)
  have wa:IntKind.i64.wrap (t-p[atIx p t].f)=exA p t:=by rw [eA];exact Qai (by omega) (by omega)
  have wd:IntKind.i64.wrap (p[atIx p t].t-p[atIx p t].f)=exD p t:=by rw [eD];exact Qai (by omega) (by omega)
  generalize plQ p[atIx p t] (exA p t) (exD p t) 0=q0 at*
  generalize plQ p[atIx p t] (exA p t) (exD p t) 1=q1 at*
  generalize plQ p[atIx p t] (exA p t) (exD p t) 2=q2 at*
  generalize plO p[atIx p t] (exA p t) (exD p t)=q3 at*
  unfold sgPV Qan at hpl
  refine Qac (tb:=[]) 49 [.cell 4 33,.tmp 5] [0,1,2,3,4,5,6,7,8,9,16,21] mixed Tryz.func15 rfl (by kernel_rfl) (by kernel_rfl) (by kernel_rfl) (by kernel_rfl) ?_
  repeat (first|(simp -implicitDefEqProofs only [go_sem,Nat.reduceAdd,Nat.reduceMul,Nat.reduceEqDiff,Nat.reduceLT,Nat.reduceLeDiff,reduceCtorEq,List.length_map,c1',c2',hg,n0,wa,wd,Int.toNat_natCast])|((with_reducible refine Qab (hs) ?_ ?_ ?_);(with_reducible rfl);rfl)|((with_reducible refine Qab (hsr) ?_ ?_ ?_);(with_reducible rfl);rfl)|((with_reducible refine Qab (hpl) ?_ ?_ ?_);(with_reducible rfl);rfl)|(with_reducible exact Qaa _ _ (by kernel_rfl))|(with_reducible refine And.intro (Qaa _ _ (by kernel_rfl)) ?_))
theorem Q96 (p:List Sg) (t:Int): [exQ p t 0,exQ p t 1,exQ p t 2]=(Qk1 fun i=>plP (p.getD (atIx p t) sg0) (exA p t) (exD p t) i/(plG (p.getD (atIx p t) sg0) (exA p t) (exD p t) 3:Int)):=rfl
theorem Q97 (p:List Sg) (t:Int) (hp: ∀s∈p,okSg s) (hl:p.length≤1000000) (ht:i64 t) (hV:Qa5 p=true) (hL:lasts p t=true):Qaf Tryz.prog 19 [Qap p,.int .i64 t] (Qec [exQ p t 0,exQ p t 1,exQ p t 2] (exO p t)):=by
 obtain⟨hi,eA,eD,k1,k2,k3,k4,hv,hD⟩:=Qp3 hV hL
 have hw:=Qp1 p[atIx p t] (exA p t) (exD p t) (hp _ (List.getElem_mem hi)) (Qdc hv) (Qdy hv) (by unfold i64;omega) (by unfold i64;omega) (by omega)
 have eO:(p[atIx p t].o*exD p t^5/(plG p[atIx p t] (exA p t) (exD p t) 3:Int))=exO p t:=by unfold exO plO;rw [hD]
 rw [eO,←hD,←Q96,hD]at hw
 have hg:=Qcb p (atIx p t) hi
 have n0:=nnT (atIx p t)
 have wa:IntKind.i64.wrap (t-p[atIx p t].f)=exA p t:=by rw [eA];exact Qai (by omega) (by omega)
 have wd:IntKind.i64.wrap (p[atIx p t].t-p[atIx p t].f)=exD p t:=by rw [eD];exact Qai (by omega) (by omega)
 have hat:=eq_true (Qtm hi)
 have hbf: ∀i (h:i<atIx p t) (h2:i<p.length),(t≤p[i].t)=False:=fun i h h2=>eq_false (Int.not_le.2 (Qh2 h h2))
 generalize [exQ p t 0,exQ p t 1,exQ p t 2]=QL at*
 generalize exO p t=QO at*
 unfold Qec at hw ⊢
 unfold sgPV Qan at hw
 clear eO
 refine Qac (tb:=[]) 43 [.cell 4 46] [0,1,4,5,9,18] mixed Tryz.func19 rfl (by kernel_rfl) (by kernel_rfl) (by kernel_rfl) (by kernel_rfl) ?_
 repeat (first|(simp -implicitDefEqProofs only [go_sem,Nat.reduceAdd,Nat.reduceMul,Nat.reduceEqDiff,Nat.reduceLT,Nat.reduceLeDiff,reduceCtorEq,List.length_map])|(with_reducible exact Qaa _ _ (by kernel_rfl))|(with_reducible refine And.intro (Qaa _ _ (by kernel_rfl)) ?_))
 refine Qao mixed (fun i:{i:Nat // i≤atIx p t}=>St.of [(0,Qap p),(1,.int .i64 t),(4,.bp 0 3 0 0),(5,.int .i64 (i.1:Int))] [(0,{els:=[.agg [.nilS,.bool false,.nilS]],esz:=3,ety:=46,fro:=0,live:=true,arr:=false})]) (fun i=>p.length-i.1) ⟨0,Nat.zero_le _⟩ ?_ ?_
 ·refine Qaj (θ:=[(0,0)]) rfl ?_ ?_
  ·simp [Qad,lkp,ren1,ren0,Qam,Qap]
  ·exact⟨⟨rfl,rfl,rfl,rfl,rfl,.inr ⟨rfl,_,_,rfl,rfl,rfl,rfl⟩⟩,trivial⟩
 ·rintro⟨i,hix⟩
  have hA:i<p.length:=by omega
  have hA':=ltT hA
  have n1:=nnT i
  have hwk:=Qah (a:=i) (by omega)
  by_cases hE:i=atIx p t
  ·subst hE
   repeat (first|(simp -implicitDefEqProofs only [go_sem,Nat.reduceAdd,Nat.reduceMul,Nat.reduceEqDiff,Nat.reduceLT,Nat.reduceLeDiff,reduceCtorEq,di,hA',n0,hg,hat,wa,wd,Int.toNat_natCast,List.length_map])|((with_reducible refine Qab (hw) ?_ ?_ ?_);(with_reducible rfl);rfl)|(with_reducible exact Qaa _ _ (by kernel_rfl))|(with_reducible refine And.intro (Qaa _ _ (by kernel_rfl)) ?_))
  ·have hg1:=Qcb p i hA
   have hb:=hbf i (by omega) hA
   repeat (first|(simp -implicitDefEqProofs only [go_sem,Nat.reduceAdd,Nat.reduceMul,Nat.reduceEqDiff,Nat.reduceLT,Nat.reduceLeDiff,reduceCtorEq,hA',n1,hg1,hb,hwk,Int.toNat_natCast,List.length_map])|(with_reducible exact Qaa _ _ (by kernel_rfl))|(with_reducible refine And.intro (Qaa _ _ (by kernel_rfl)) ?_))
   refine⟨⟨i+1,by omega⟩,by simp only;omega,Qaj (θ:=[(0,0)]) rfl ?_ ?_⟩
   ·simp [Qad,lkp,ren1,ren0,Qam,Qap]
   ·exact⟨⟨rfl,rfl,rfl,rfl,rfl,.inr ⟨rfl,_,_,rfl,rfl,rfl,rfl⟩⟩,trivial⟩
end Go.Proofs.YtlpiamlgibomhaaGreat
