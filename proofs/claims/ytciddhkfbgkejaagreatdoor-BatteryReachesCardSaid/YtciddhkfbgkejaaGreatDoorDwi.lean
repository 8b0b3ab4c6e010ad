/-
  HM10, HB7, Dwi (merged for the claim).
-/
import Derived.Test.YtciddhkfbgkejaaGreatDoorHM9
import Derived.Test.YtciddhkfbgkejaaGreatDoorHM5
set_option linter.unusedSimpArgs false
set_option linter.unusedVariables false
namespace Go.Proofs.YtciddhkfbgkejaaGreatDoor
open Go.Vl Go.RowKit Go.Dg
def vPV (x y z:Int):PV:= .agg [.int .i64 x,.int .i64 y,.int .i64 z]
attribute [go_sem] vPV
theorem dv9 (m i:Nat):m/E9^(i+1)*E9+m/E9^i%E9=m/E9^i:=by
 rw [Nat.pow_succ,←Nat.div_div_eq_div_mul,Nat.mul_comm]
 exact Nat.div_add_mod _ _
theorem Zjw (n k:Nat) (h:k<(digs E9 n).length):((digs E9 n).map fun d:Nat=>PV.int .i64 (d:Int))[k]? =some (.int .i64 ((n/E9^k%E9:Nat):Int)):=by
 rw [List.getElem?_map,Qao (by decide) h];rfl
theorem Zhq (x:Int) (h:x.natAbs≤4611686018427387904):Qad Tryz.prog 79 [rI x] (.int .i64 x):=by
 have hlen:(digs E9 x.natAbs).length≤3:=(Qal (by decide) _ _).2 (by have:E9^3=1000000000000000000000000000:=rfl;omega)
 have wl:IntKind.i64.wrap (((digs E9 x.natAbs).length:Int)-1)=((digs E9 x.natAbs).length:Int)-1:=Qah (by omega) (by omega)
 refine Qac (tb:=[]) 26 [.tmp 2] [0,1,2,3,4,10,22] mixed Tryz.func79 rfl (by kernel_rfl) (by kernel_rfl) (by kernel_rfl) (by kernel_rfl) ?_
 repeat (first|(simp -implicitDefEqProofs only [go_sem,Nat.reduceAdd,Nat.reduceMul,Nat.reduceEqDiff,Nat.reduceLT,Nat.reduceLeDiff,reduceCtorEq,rI,di,List.length_map,wl]))
 have z0:0≤(digs E9 x.natAbs).length:=Nat.zero_le _
 refine Qar mixed (fun i:{i:Nat // i≤(digs E9 x.natAbs).length}=>St.of [(1,.bp 0 2 0 0),(2,.int .i64 0),(3,.int .i64 ((x.natAbs/E9^i.1:Nat):Int)),(4,.int .i64 ((i.1:Int)-1))]
  [(0,{els:=[rI x],esz:=2,ety:=76,fro:=0,live:=true,arr:=false})]) (fun i=>i.1) ⟨(digs E9 x.natAbs).length,Nat.le_refl _⟩ ?_ ?_
 ·refine Qak (θ:=[(0,0)]) rfl ?_ ?_
  ·have:=Qav (B:=E9) (by decide) x.natAbs
   simp [Qaf,lkp,ren1,ren0,Qap,Nat.div_eq_of_lt this]
  ·exact⟨⟨rfl,rfl,rfl,rfl,rfl,.inr ⟨rfl,_,_,rfl,rfl,rfl,rfl⟩⟩,trivial⟩
 ·rintro⟨i,hi⟩
  cases i with
  |succ i=>
   have hA':((0:Int)≤((i+1:Nat):Int)-1)=True:=eq_true (by omega)
   have e1:((i+1:Nat):Int)-1=(i:Int):=by omega
   have n0:=nnT i
   have hg:=Zjw x.natAbs i hi
   have hv:=dv9 x.natAbs i
   have hle:x.natAbs/E9^i≤x.natAbs:=Nat.div_le_self _ _
   have e9:E9=1000000000:=rfl
   generalize hV:x.natAbs/E9^i=V at*
   have hg2:=Nat.mod_lt V (show 0<E9 by decide)
   generalize x.natAbs/E9^(i+1)=U at*
   rw [e9]at hv hg2
   have w1:IntKind.i64.wrap ((U:Int)*1000000000)=(U:Int)*1000000000:=Qah (by omega) (by omega)
   have w2:IntKind.i64.wrap ((U:Int)*1000000000+((V%E9:Nat):Int))=(V:Int):=by
    have e:V%E9=V%1000000000:=by rw [e9]
    rw [e,Qah (by omega) (by omega)];omega
   have w3:IntKind.i64.wrap ((i:Int)-1)=(i:Int)-1:=Qah (by omega) (by omega)
   simp only [e1]
   repeat (first|(simp -implicitDefEqProofs only [go_sem,Nat.reduceAdd,Nat.reduceMul,Nat.reduceEqDiff,Nat.reduceLT,Nat.reduceLeDiff,reduceCtorEq,rI,di,n0,hg,w1,w2,w3,Int.toNat_natCast,List.length_map]))
   refine⟨⟨i,by omega⟩,by simp only;omega,Qak (θ:=[(0,0)]) rfl ?_ ?_⟩
   ·simp [Qaf,lkp,ren1,ren0,Qap,hV]
   ·exact⟨⟨rfl,rfl,rfl,rfl,rfl,.inr ⟨rfl,_,_,rfl,rfl,rfl,rfl⟩⟩,trivial⟩
  |zero=>
   have hA':((0:Int)≤((0:Nat):Int)-1)=False:=eq_false (by omega)
   have e0:x.natAbs/E9^0=x.natAbs:=by rw [Nat.pow_zero,Nat.div_one]
   simp only [e0]
   by_cases hx:x<0
   ·have hd:decide (x<0)=true:=decide_eq_true hx
    have w1:IntKind.i64.wrap (0-((x.natAbs:Nat):Int))=x:=by rw [Qah (by omega) (by omega)];omega
    repeat (first|(simp -implicitDefEqProofs only [go_sem,Nat.reduceAdd,Nat.reduceMul,Nat.reduceEqDiff,Nat.reduceLT,Nat.reduceLeDiff,reduceCtorEq,Int.reduceLE,Int.reduceSub,Int.reduceNeg,rI,di,hd,w1]))
   ·have hd:decide (x<0)=false:=decide_eq_false hx
    have w1:((x.natAbs:Nat):Int)=x:=by omega
    repeat (first|(simp -implicitDefEqProofs only [go_sem,Nat.reduceAdd,Nat.reduceMul,Nat.reduceEqDiff,Nat.reduceLT,Nat.reduceLeDiff,reduceCtorEq,Int.reduceLE,Int.reduceSub,Int.reduceNeg,rI,di,hd,w1]))
theorem Qt1 {x o:Int} {B:Nat} (hx:x.natAbs<2^B) (ho:o.natAbs<2^B):(x+x+o).natAbs<2^(B+1+1):=
 Qis (Qis hx hx) (Nat.lt_of_lt_of_le ho (Nat.pow_le_pow_right (by decide) (by omega)))
theorem Qp5 (x o:Int) (B:Nat) (hB:B≤6000000) (hx:x.natAbs<2^B) (ho:o.natAbs<2^B) (h0:0<o) (hr:(rnd x o).natAbs≤1048576):Qad Tryz.prog 106 [rI x,rI o] (.int .i64 (rnd x o)):=by
 have a1:=Qkj (Qbe hx (by omega)) (Qbe hx (by omega))
 have b1:=Qis hx hx
 have a2:=Qkj (Qbe b1 (by omega)) (Qbe ho (by omega))
 have b2:(x+x+o).natAbs<2^(B+1+1):=Qis b1 (Nat.lt_of_lt_of_le ho (Nat.pow_le_pow_right (by decide) (by omega)))
 have a3:=Qkj (Qbe ho (by omega)) (Qbe ho (by omega))
 have b3:=Qis ho ho
 have q:=Qwr (Qbe b2 (by omega)) (Qbe b3 (by omega)) (show o+o≠0 by omega)
 have hi:=Zhq (rnd x o) (by omega)
 unfold rnd at*
 generalize (x+x+o)/(o+o)=R at*
 generalize (x+x+o)%(o+o)=R2 at*
 generalize x+x+o=S at*
 generalize x+x=S1 at*
 generalize o+o=S2 at*
 refine Qac (tb:=[]) 21 [.tmp 4] [0,1,2,3,4,5] mixed Tryz.func106 rfl (by kernel_rfl) (by kernel_rfl) (by kernel_rfl) (by kernel_rfl) ?_
 repeat (first|(simp -implicitDefEqProofs only [go_sem,Nat.reduceAdd,Nat.reduceMul,Nat.reduceEqDiff,Nat.reduceLT,Nat.reduceLeDiff,reduceCtorEq,rI,di])|((with_reducible refine Qab (a1) ?_ ?_ ?_);(with_reducible rfl);rfl)|((with_reducible refine Qab (a2) ?_ ?_ ?_);(with_reducible rfl);rfl)|((with_reducible refine Qab (a3) ?_ ?_ ?_);(with_reducible rfl);rfl)|((with_reducible refine Qab (q) ?_ ?_ ?_);(with_reducible rfl);rfl)|((with_reducible refine Qab (hi) ?_ ?_ ?_);(with_reducible rfl);rfl)|(with_reducible exact Qaa _ _ (by kernel_rfl))|(with_reducible refine And.intro (Qaa _ _ (by kernel_rfl)) ?_))
theorem Zpm {p:List Sg} {t:Int} (hp: ∀s∈p,okSg s) (hV:Qbk p=true) (hL:lasts p t=true):(∀i,i<3→(exQ p t i).natAbs<2^2000∧ -1048576≤rnd (exQ p t i) (exO p t)∧rnd (exQ p t i) (exO p t)≤1048576)∧(exO p t).natAbs<2^2000∧0<exO p t:=by
 obtain⟨hi,eA,eD,k1,k2,k3,k4,hv,hD⟩:=Qqa hV hL
 have b:=Q25 (a:=exA p t) (d:=exD p t) (hp _ (List.getElem_mem hi)) (Qdg hv) (Qdv hv) (by unfold i64;omega) (by unfold i64;omega) (by omega)
 have b2:=fun i h=>Q1w hv k1 k2 k3 i h
 unfold exQ exO
 rw [hD]
 refine⟨fun i h=>⟨b.1 i h,?_⟩,b.2,(b2 0 (by decide)).1⟩
 obtain⟨h1,h2,h3⟩:=b2 i h
 exact Q1x h1 h2 h3
theorem Zjx (p:List Sg) (t:Int) (hp: ∀s∈p,okSg s) (hl:p.length≤1000000) (ht:i64 t) (hV:Qbk p=true) (hL:lasts p t=true):
  Qad Tryz.prog 64 [Qbs p,.int .i64 t] (vPV (rnd (exQ p t 0) (exO p t)) (rnd (exQ p t 1) (exO p t)) (rnd (exQ p t 2) (exO p t))):=by
 have he:=Zaq p t hp hl ht hV hL
 obtain⟨hb,ho,h0⟩:=Zpm hp hV hL
 have r0:=Qp5 _ _ 2000 (by decide) (hb 0 (by decide)).1 ho h0 (by have:=(hb 0 (by decide)).2;omega)
 have r1:=Qp5 _ _ 2000 (by decide) (hb 1 (by decide)).1 ho h0 (by have:=(hb 1 (by decide)).2;omega)
 have r2:=Qp5 _ _ 2000 (by decide) (hb 2 (by decide)).1 ho h0 (by have:=(hb 2 (by decide)).2;omega)
 generalize exQ p t 0=x0 at*
 generalize exQ p t 1=x1 at*
 generalize exQ p t 2=x2 at*
 generalize exO p t=o at*
 have hr:Qeq [x0,x1,x2] o= .agg [.slc [rI x0,rI x1,rI x2],.bool (decide (o<0)),.slc ((digs E9 o.natAbs).map fun d:Nat=>PV.int .i64 (d:Int))]:=rfl
 rw [hr]at he
 unfold Qbs at he
 refine Qac (tb:=[]) 31 [.cell 4 26] [0,1,4,5] mixed Tryz.func64 rfl (by kernel_rfl) (by kernel_rfl) (by kernel_rfl) (by kernel_rfl) ?_
 repeat (first|(simp -implicitDefEqProofs only [go_sem,Nat.reduceAdd,Nat.reduceMul,Nat.reduceEqDiff,Nat.reduceLT,Nat.reduceLeDiff,reduceCtorEq,Int.reduceLE,Int.reduceToNat,rI,di])|((with_reducible refine Qab (he) ?_ ?_ ?_);(with_reducible rfl);rfl)|((with_reducible refine Qab (r0) ?_ ?_ ?_);(with_reducible rfl);rfl)|((with_reducible refine Qab (r1) ?_ ?_ ?_);(with_reducible rfl);rfl)|((with_reducible refine Qab (r2) ?_ ?_ ?_);(with_reducible rfl);rfl)|(with_reducible exact Qaa _ _ (by kernel_rfl))|(with_reducible refine And.intro (Qaa _ _ (by kernel_rfl)) ?_))
def atPV (p:List Sg) (t:Int):PV:=if Qbk p=true then(if lasts p t=true then .tup [vPV (rnd (exQ p t 0) (exO p t)) (rnd (exQ p t 1) (exO p t)) (rnd (exQ p t 2) (exO p t)),.int .i64 0]else .tup [vPV 0 0 0,.int .i64 3])else .tup [vPV 0 0 0,.int .i64 2]
def sel3 (R:Nat→Int) (i m:Nat):Int:=if m<i then R m else 0
set_option maxHeartbeats 1000000 in
theorem Zsm (p:List Sg) (t:Int) (hp: ∀s∈p,okSg s) (hl:p.length≤1000000) (ht:i64 t):Qad Tryz.prog 29 [Qbs p,.int .i64 t] (atPV p t):=by
 have he:=Zao p t hp hl ht
 unfold Qt4 at he
 unfold atPV
 unfold Qbs at he
 cases hV:Qbk p with
 |false=>
  rw [hV]at he
  simp only [Bool.false_eq_true,if_false]at he ⊢
  refine Qac (tb:=[]) 58 [.cell 4 26,.tmp 5] [0,1,4,5,6,7,8,9,10,18,27,28,29] mixed Tryz.func29 rfl (by kernel_rfl) (by kernel_rfl) (by kernel_rfl) (by kernel_rfl) ?_
  repeat (first|(simp -implicitDefEqProofs only [go_sem,Nat.reduceAdd,Nat.reduceMul,Nat.reduceEqDiff,Nat.reduceLT,Nat.reduceLeDiff,reduceCtorEq,List.length_map])|((with_reducible refine Qab (he) ?_ ?_ ?_);(with_reducible rfl);rfl)|(with_reducible exact Qaa _ _ (by kernel_rfl))|(with_reducible refine And.intro (Qaa _ _ (by kernel_rfl)) ?_))
 |true=>
  cases hL:lasts p t with
  |false=>
   rw [hV,hL]at he
   simp only [Bool.false_eq_true,if_false,if_true]at he ⊢
   refine Qac (tb:=[]) 58 [.cell 4 26,.tmp 5] [0,1,4,5,6,7,8,9,10,18,27,28,29] mixed Tryz.func29 rfl (by kernel_rfl) (by kernel_rfl) (by kernel_rfl) (by kernel_rfl) ?_
   repeat (first|(simp -implicitDefEqProofs only [go_sem,Nat.reduceAdd,Nat.reduceMul,Nat.reduceEqDiff,Nat.reduceLT,Nat.reduceLeDiff,reduceCtorEq,List.length_map])|((with_reducible refine Qab (he) ?_ ?_ ?_);(with_reducible rfl);rfl)|(with_reducible exact Qaa _ _ (by kernel_rfl))|(with_reducible refine And.intro (Qaa _ _ (by kernel_rfl)) ?_))
  |true=>
   rw [hV,hL]at he
   simp only [if_true]at he ⊢
   obtain⟨hb,ho,h0⟩:=Zpm hp hV hL
   have hb0:=hb 0 (by decide)
   have hbb1:=hb 1 (by decide)
   have hb2:=hb 2 (by decide)
   clear hb
   generalize exQ p t 0=x0 at*
   generalize exQ p t 1=x1 at*
   generalize exQ p t 2=x2 at*
   generalize exO p t=o at*
   have b3:=Qis ho ho
   have a3:=Qgs (Qa4 ho (by decide)) (Qa4 ho (by decide)) (Qa4 b3 (by decide))
   refine Qac (tb:=[]) 58 [.cell 4 26,.tmp 5] [0,1,4,5,6,7,8,9,10,18,27,28,29] mixed Tryz.func29 rfl (by kernel_rfl) (by kernel_rfl) (by kernel_rfl) (by kernel_rfl) ?_
   repeat (first|(simp -implicitDefEqProofs only [go_sem,Nat.reduceAdd,Nat.reduceMul,Nat.reduceEqDiff,Nat.reduceLT,Nat.reduceLeDiff,reduceCtorEq,List.length_map])|((with_reducible refine Qab (he) ?_ ?_ ?_);(with_reducible rfl);rfl)|(with_reducible exact Qaa _ _ (by kernel_rfl))|(with_reducible refine And.intro (Qaa _ _ (by kernel_rfl)) ?_))
   refine Qar mixed (fun i:{i:Nat // i≤3}=>St.of [(4,.bp 0 3 0 0),(5,.int .i64 0),(6,.bp 106 8 0 0),(8,.bp 400 3 0 0),(27,w3PV x0 x1 x2),(28,.int .i64 (i.1:Int))]
    [(0,{els:=[vPV 0 0 0],esz:=3,ety:=26,fro:=0,live:=true,arr:=false}),(106,{els:=[Qae x0 x1 x2 o],esz:=8,ety:=73,fro:=0,live:=true,arr:=false}),(400,{els:=[vPV (sel3 (fun m=>rnd ([x0,x1,x2].getD m 0) o) i.1 0) (sel3 (fun m=>rnd ([x0,x1,x2].getD m 0) o) i.1 1) (sel3 (fun m=>rnd ([x0,x1,x2].getD m 0) o) i.1 2)],esz:=3,ety:=87,fro:=0,live:=true,arr:=false})]) (fun i=>3-i.1) ⟨0,Nat.zero_le _⟩ ?_ ?_
   ·refine Qak (θ:=[(0,0),(106,106),(400,400)]) rfl ?_ ?_
    ·simp [Qaf,lkp,ren1,ren0,Qap,w3PV]
    ·exact⟨⟨rfl,rfl,rfl,rfl,rfl,.inr ⟨rfl,_,_,rfl,rfl,rfl,rfl⟩⟩,⟨rfl,rfl,rfl,rfl,rfl,.inr ⟨rfl,_,_,rfl,rfl,rfl,rfl⟩⟩,⟨rfl,rfl,rfl,rfl,rfl,.inr ⟨rfl,_,_,rfl,rfl,rfl,rfl⟩⟩,trivial⟩
   ·rintro⟨i,hi⟩
    by_cases hA:i<3
    ·have hA':((i:Int)<3)=True:=eq_true (by omega)
     rcases(show i=0∨i=1∨i=2 by omega)with hi0|hi0|hi0
     ·obtain⟨hb1,hr1,hr2⟩:=hb0
      obtain rfl:i=0:=hi0
      have ii:Qfm (rnd x0 o)= .tup [.int .i64 (rnd x0 o),.int .i64 0]:=by unfold Qfm;rw [if_pos (by omega)]
      have wi:=Qwq (x:=rnd x0 o) (Qa4 (B:=64) (by have:(2:Nat)^64=18446744073709551616:=rfl;omega) (by decide))
      rw [ii]at wi
      have b1:=Qis hb1 hb1
      have b2:=Qt1 hb1 ho
      have a1:=Qgs (Qa4 hb1 (by decide)) (Qa4 hb1 (by decide)) (Qa4 b1 (by decide))
      have a2:=Qgs (Qa4 b1 (by decide)) (Qa4 ho (by decide)) (Qa4 b2 (by decide))
      have q:=Qmk b2 (by decide) (Qwp b3 (by decide)) (show 0<o+o by omega)
      have er:(x0+x0+o)/(o+o)=rnd x0 o:=rfl
      rw [er]at q
      clear er b1 b2 ii
      generalize hR:rnd x0 o=R at*
      generalize x0+x0+o=S at*
      generalize x0+x0=S1 at*
      generalize o+o=S2 at*
      repeat (first|(simp -implicitDefEqProofs only [go_sem,Nat.reduceAdd,Nat.reduceMul,Nat.reduceEqDiff,Nat.reduceLT,Nat.reduceLeDiff,Nat.reduceSub,reduceCtorEq,Int.reduceLT,Int.reduceAdd,hA',wPV,sel3,Nat.reduceLT])|((with_reducible refine Qab (a1) ?_ ?_ ?_);(with_reducible rfl);rfl)|((with_reducible refine Qab (a2) ?_ ?_ ?_);(with_reducible rfl);rfl)|((with_reducible refine Qab (a3) ?_ ?_ ?_);(with_reducible rfl);rfl)|((with_reducible refine Qab (q) ?_ ?_ ?_);(with_reducible rfl);rfl)|((with_reducible refine Qab (wi) ?_ ?_ ?_);(with_reducible rfl);rfl)|(with_reducible exact Qaa _ _ (by kernel_rfl))|(with_reducible refine And.intro (Qaa _ _ (by kernel_rfl)) ?_))
      refine⟨⟨0+1,hA⟩,by simp only;omega,Qak (θ:=[(0,0),(106,106),(400,400)]) rfl ?_ ?_⟩
      ·simp [Qaf,lkp,ren1,ren0,Qap]
      ·subst hR
       exact⟨⟨rfl,rfl,rfl,rfl,rfl,.inr ⟨rfl,_,_,rfl,rfl,rfl,rfl⟩⟩,⟨rfl,rfl,rfl,rfl,rfl,.inr ⟨rfl,_,_,rfl,rfl,rfl,rfl⟩⟩,⟨rfl,rfl,rfl,rfl,rfl,.inr ⟨rfl,_,_,rfl,rfl,rfl,rfl⟩⟩,trivial⟩
     ·obtain⟨hb1,hr1,hr2⟩:=hbb1
      obtain rfl:i=1:=hi0
      have ii:Qfm (rnd x1 o)= .tup [.int .i64 (rnd x1 o),.int .i64 0]:=by unfold Qfm;rw [if_pos (by omega)]
      have wi:=Qwq (x:=rnd x1 o) (Qa4 (B:=64) (by have:(2:Nat)^64=18446744073709551616:=rfl;omega) (by decide))
      rw [ii]at wi
      have b1:=Qis hb1 hb1
      have b2:=Qt1 hb1 ho
      have a1:=Qgs (Qa4 hb1 (by decide)) (Qa4 hb1 (by decide)) (Qa4 b1 (by decide))
      have a2:=Qgs (Qa4 b1 (by decide)) (Qa4 ho (by decide)) (Qa4 b2 (by decide))
      have q:=Qmk b2 (by decide) (Qwp b3 (by decide)) (show 0<o+o by omega)
      have er:(x1+x1+o)/(o+o)=rnd x1 o:=rfl
      rw [er]at q
      clear er b1 b2 ii
      generalize hR:rnd x1 o=R at*
      generalize x1+x1+o=S at*
      generalize x1+x1=S1 at*
      generalize o+o=S2 at*
      repeat (first|(simp -implicitDefEqProofs only [go_sem,Nat.reduceAdd,Nat.reduceMul,Nat.reduceEqDiff,Nat.reduceLT,Nat.reduceLeDiff,Nat.reduceSub,reduceCtorEq,Int.reduceLE,Int.reduceLT,Int.reduceToNat,Int.reduceAdd,hA',wPV,sel3,Nat.reduceLT])|((with_reducible refine Qab (a1) ?_ ?_ ?_);(with_reducible rfl);rfl)|((with_reducible refine Qab (a2) ?_ ?_ ?_);(with_reducible rfl);rfl)|((with_reducible refine Qab (a3) ?_ ?_ ?_);(with_reducible rfl);rfl)|((with_reducible refine Qab (q) ?_ ?_ ?_);(with_reducible rfl);rfl)|((with_reducible refine Qab (wi) ?_ ?_ ?_);(with_reducible rfl);rfl)|(with_reducible exact Qaa _ _ (by kernel_rfl))|(with_reducible refine And.intro (Qaa _ _ (by kernel_rfl)) ?_))
      refine⟨⟨1+1,hA⟩,by simp only;omega,Qak (θ:=[(0,0),(106,106),(400,400)]) rfl ?_ ?_⟩
      ·simp [Qaf,lkp,ren1,ren0,Qap]
      ·subst hR
       exact⟨⟨rfl,rfl,rfl,rfl,rfl,.inr ⟨rfl,_,_,rfl,rfl,rfl,rfl⟩⟩,⟨rfl,rfl,rfl,rfl,rfl,.inr ⟨rfl,_,_,rfl,rfl,rfl,rfl⟩⟩,⟨rfl,rfl,rfl,rfl,rfl,.inr ⟨rfl,_,_,rfl,rfl,rfl,rfl⟩⟩,trivial⟩
     ·obtain⟨hb1,hr1,hr2⟩:=hb2
      obtain rfl:i=2:=hi0
      have ii:Qfm (rnd x2 o)= .tup [.int .i64 (rnd x2 o),.int .i64 0]:=by unfold Qfm;rw [if_pos (by omega)]
      have wi:=Qwq (x:=rnd x2 o) (Qa4 (B:=64) (by have:(2:Nat)^64=18446744073709551616:=rfl;omega) (by decide))
      rw [ii]at wi
      have b1:=Qis hb1 hb1
      have b2:=Qt1 hb1 ho
      have a1:=Qgs (Qa4 hb1 (by decide)) (Qa4 hb1 (by decide)) (Qa4 b1 (by decide))
      have a2:=Qgs (Qa4 b1 (by decide)) (Qa4 ho (by decide)) (Qa4 b2 (by decide))
      have q:=Qmk b2 (by decide) (Qwp b3 (by decide)) (show 0<o+o by omega)
      have er:(x2+x2+o)/(o+o)=rnd x2 o:=rfl
      rw [er]at q
      clear er b1 b2 ii
      generalize hR:rnd x2 o=R at*
      generalize x2+x2+o=S at*
      generalize x2+x2=S1 at*
      generalize o+o=S2 at*
      repeat (first|(simp -implicitDefEqProofs only [go_sem,Nat.reduceAdd,Nat.reduceMul,Nat.reduceEqDiff,Nat.reduceLT,Nat.reduceLeDiff,Nat.reduceSub,reduceCtorEq,Int.reduceLE,Int.reduceLT,Int.reduceToNat,Int.reduceAdd,hA',wPV,sel3,Nat.reduceLT])|((with_reducible refine Qab (a1) ?_ ?_ ?_);(with_reducible rfl);rfl)|((with_reducible refine Qab (a2) ?_ ?_ ?_);(with_reducible rfl);rfl)|((with_reducible refine Qab (a3) ?_ ?_ ?_);(with_reducible rfl);rfl)|((with_reducible refine Qab (q) ?_ ?_ ?_);(with_reducible rfl);rfl)|((with_reducible refine Qab (wi) ?_ ?_ ?_);(with_reducible rfl);rfl)|(with_reducible exact Qaa _ _ (by kernel_rfl))|(with_reducible refine And.intro (Qaa _ _ (by kernel_rfl)) ?_))
      refine⟨⟨2+1,hA⟩,by simp only;omega,Qak (θ:=[(0,0),(106,106),(400,400)]) rfl ?_ ?_⟩
      ·simp [Qaf,lkp,ren1,ren0,Qap]
      ·subst hR
       exact⟨⟨rfl,rfl,rfl,rfl,rfl,.inr ⟨rfl,_,_,rfl,rfl,rfl,rfl⟩⟩,⟨rfl,rfl,rfl,rfl,rfl,.inr ⟨rfl,_,_,rfl,rfl,rfl,rfl⟩⟩,⟨rfl,rfl,rfl,rfl,rfl,.inr ⟨rfl,_,_,rfl,rfl,rfl,rfl⟩⟩,trivial⟩
    ·have hA':((i:Int)<3)=False:=eq_false (by omega)
     obtain rfl:i=3:=by omega
     have z0:sel3 (fun m=>rnd ([x0,x1,x2].getD m 0) o) 3 0=rnd x0 o:=rfl
     have z1:sel3 (fun m=>rnd ([x0,x1,x2].getD m 0) o) 3 1=rnd x1 o:=rfl
     have z2:sel3 (fun m=>rnd ([x0,x1,x2].getD m 0) o) 3 2=rnd x2 o:=rfl
     simp only [z0,z1,z2]
     repeat (first|(simp -implicitDefEqProofs only [go_sem,Nat.reduceAdd,Nat.reduceMul,Nat.reduceEqDiff,Nat.reduceLT,Nat.reduceLeDiff,Nat.reduceSub,reduceCtorEq,Int.reduceLE,Int.reduceLT,Int.reduceToNat,hA'])|(with_reducible exact Qaa _ _ (by kernel_rfl))|(with_reducible refine And.intro (Qaa _ _ (by kernel_rfl)) ?_))
end Go.Proofs.YtciddhkfbgkejaaGreatDoor

namespace Go.Proofs.YtciddhkfbgkejaaGreatDoor
open Go.Vl Go.RowKit Go.Dg
abbrev BaOk (B:Bat):Prop:=(0≤B.base∧B.base≤1000000)∧(0≤B.climb∧B.climb≤1000000)∧(0≤B.drag∧B.drag≤1000000)∧0≤B.res∧B.res≤B.cap∧B.cap≤1125899906842624
theorem Zpd {B:Bat} (h:BaOk B):Qat B=true:=by
 unfold BaOk at h
 simp only [Qat,Qjm,Bool.and_eq_true,decide_eq_true_eq]
 omega
theorem Qk0 {B:Bat} (h: ¬BaOk B):Qat B=false:=by
 cases e:Qat B with
 |false=>rfl
 |true=>exact(h (Qb9 e)).elim
set_option maxHeartbeats 4000000 in
set_option maxRecDepth 100000 in
theorem Qpx (B:Bat):Qad Tryz.prog 33 [baPV B] (.bool (Qat B)):=by
 unfold baPV
 by_cases c0:B.base<0
 ·have c0':=eq_true c0
  have e:Qat B=false:=Qk0 (by unfold BaOk;omega)
  refine Qac (tb:=[]) 37 [.tmp 2] [0,1,2,4,11,12,13,20] mixed Tryz.func33 rfl (by kernel_rfl) (by kernel_rfl) (by kernel_rfl) (by kernel_rfl) ?_
  repeat (first|(simp -implicitDefEqProofs only [go_sem,Nat.reduceAdd,Nat.reduceMul,Nat.reduceEqDiff,Nat.reduceLT,Nat.reduceLeDiff,reduceCtorEq]))
  refine Qbn mixed [0,1,2,3] ?_
  repeat (first|(simp -implicitDefEqProofs only [go_sem,Nat.reduceAdd,Nat.reduceMul,Nat.reduceEqDiff,Nat.reduceLT,Nat.reduceLeDiff,reduceCtorEq,Int.reduceLT,e,Qco,Qcp,Qcq,Qci,decide_true,decide_false,c0']))
 have c0':=eq_false c0
 by_cases c1:1000000<B.base
 ·have c1':=eq_true c1
  have e:Qat B=false:=Qk0 (by unfold BaOk;omega)
  refine Qac (tb:=[]) 37 [.tmp 2] [0,1,2,4,11,12,13,20] mixed Tryz.func33 rfl (by kernel_rfl) (by kernel_rfl) (by kernel_rfl) (by kernel_rfl) ?_
  repeat (first|(simp -implicitDefEqProofs only [go_sem,Nat.reduceAdd,Nat.reduceMul,Nat.reduceEqDiff,Nat.reduceLT,Nat.reduceLeDiff,reduceCtorEq]))
  refine Qbn mixed [0,1,2,3] ?_
  repeat (first|(simp -implicitDefEqProofs only [go_sem,Nat.reduceAdd,Nat.reduceMul,Nat.reduceEqDiff,Nat.reduceLT,Nat.reduceLeDiff,reduceCtorEq,Int.reduceLT,e,Qco,Qcp,Qcq,Qci,decide_true,decide_false,c0',c1']))
 have c1':=eq_false c1
 by_cases c2:B.climb<0
 ·have c2':=eq_true c2
  have e:Qat B=false:=Qk0 (by unfold BaOk;omega)
  refine Qac (tb:=[]) 37 [.tmp 2] [0,1,2,4,11,12,13,20] mixed Tryz.func33 rfl (by kernel_rfl) (by kernel_rfl) (by kernel_rfl) (by kernel_rfl) ?_
  repeat (first|(simp -implicitDefEqProofs only [go_sem,Nat.reduceAdd,Nat.reduceMul,Nat.reduceEqDiff,Nat.reduceLT,Nat.reduceLeDiff,reduceCtorEq]))
  refine Qbn mixed [0,1,2,3] ?_
  repeat (first|(simp -implicitDefEqProofs only [go_sem,Nat.reduceAdd,Nat.reduceMul,Nat.reduceEqDiff,Nat.reduceLT,Nat.reduceLeDiff,reduceCtorEq,Int.reduceLE,Int.reduceLT,Int.reduceToNat,Int.reduceAdd,e,Qco,Qcp,Qcq,Qci,decide_true,decide_false,c0',c1',c2']))
 have c2':=eq_false c2
 by_cases c3:1000000<B.climb
 ·have c3':=eq_true c3
  have e:Qat B=false:=Qk0 (by unfold BaOk;omega)
  refine Qac (tb:=[]) 37 [.tmp 2] [0,1,2,4,11,12,13,20] mixed Tryz.func33 rfl (by kernel_rfl) (by kernel_rfl) (by kernel_rfl) (by kernel_rfl) ?_
  repeat (first|(simp -implicitDefEqProofs only [go_sem,Nat.reduceAdd,Nat.reduceMul,Nat.reduceEqDiff,Nat.reduceLT,Nat.reduceLeDiff,reduceCtorEq]))
  refine Qbn mixed [0,1,2,3] ?_
  repeat (first|(simp -implicitDefEqProofs only [go_sem,Nat.reduceAdd,Nat.reduceMul,Nat.reduceEqDiff,Nat.reduceLT,Nat.reduceLeDiff,reduceCtorEq,Int.reduceLE,Int.reduceLT,Int.reduceToNat,Int.reduceAdd,e,Qco,Qcp,Qcq,Qci,decide_true,decide_false,c0',c1',c2',c3']))
 have c3':=eq_false c3
 by_cases c4:B.drag<0
 ·have c4':=eq_true c4
  have e:Qat B=false:=Qk0 (by unfold BaOk;omega)
  refine Qac (tb:=[]) 37 [.tmp 2] [0,1,2,4,11,12,13,20] mixed Tryz.func33 rfl (by kernel_rfl) (by kernel_rfl) (by kernel_rfl) (by kernel_rfl) ?_
  repeat (first|(simp -implicitDefEqProofs only [go_sem,Nat.reduceAdd,Nat.reduceMul,Nat.reduceEqDiff,Nat.reduceLT,Nat.reduceLeDiff,reduceCtorEq]))
  refine Qbn mixed [0,1,2,3] ?_
  repeat (first|(simp -implicitDefEqProofs only [go_sem,Nat.reduceAdd,Nat.reduceMul,Nat.reduceEqDiff,Nat.reduceLT,Nat.reduceLeDiff,reduceCtorEq,Int.reduceLE,Int.reduceLT,Int.reduceToNat,Int.reduceAdd,e,Qco,Qcp,Qcq,Qci,decide_true,decide_false,c0',c1',c2',c3',c4']))
 have c4':=eq_false c4
 by_cases c5:1000000<B.drag
 ·have c5':=eq_true c5
  have e:Qat B=false:=Qk0 (by unfold BaOk;omega)
  refine Qac (tb:=[]) 37 [.tmp 2] [0,1,2,4,11,12,13,20] mixed Tryz.func33 rfl (by kernel_rfl) (by kernel_rfl) (by kernel_rfl) (by kernel_rfl) ?_
  repeat (first|(simp -implicitDefEqProofs only [go_sem,Nat.reduceAdd,Nat.reduceMul,Nat.reduceEqDiff,Nat.reduceLT,Nat.reduceLeDiff,reduceCtorEq]))
  refine Qbn mixed [0,1,2,3] ?_
  repeat (first|(simp -implicitDefEqProofs only [go_sem,Nat.reduceAdd,Nat.reduceMul,Nat.reduceEqDiff,Nat.reduceLT,Nat.reduceLeDiff,reduceCtorEq,Int.reduceLE,Int.reduceLT,Int.reduceToNat,Int.reduceAdd,e,Qco,Qcp,Qcq,Qci,decide_true,decide_false,c0',c1',c2',c3',c4',c5']))
 have c5':=eq_false c5
 by_cases c6:0≤B.res
 case neg=>
  have c6':=eq_false c6
  have e:Qat B=false:=Qk0 (by unfold BaOk;omega)
  refine Qac (tb:=[]) 37 [.tmp 2] [0,1,2,4,11,12,13,20] mixed Tryz.func33 rfl (by kernel_rfl) (by kernel_rfl) (by kernel_rfl) (by kernel_rfl) ?_
  repeat (first|(simp -implicitDefEqProofs only [go_sem,Nat.reduceAdd,Nat.reduceMul,Nat.reduceEqDiff,Nat.reduceLT,Nat.reduceLeDiff,reduceCtorEq]))
  refine Qbn mixed [0,1,2,3] ?_
  repeat (first|(simp -implicitDefEqProofs only [go_sem,Nat.reduceAdd,Nat.reduceMul,Nat.reduceEqDiff,Nat.reduceLT,Nat.reduceLeDiff,reduceCtorEq,Int.reduceLE,Int.reduceLT,Int.reduceToNat,Int.reduceAdd,e,Qco,Qcp,Qcq,Qci,decide_true,decide_false,c0',c1',c2',c3',c4',c5',c6']))
 have c6':=eq_true c6
 by_cases c7:B.res≤B.cap
 case neg=>
  have c7':=eq_false c7
  have e:Qat B=false:=Qk0 (by unfold BaOk;omega)
  refine Qac (tb:=[]) 37 [.tmp 2] [0,1,2,4,11,12,13,20] mixed Tryz.func33 rfl (by kernel_rfl) (by kernel_rfl) (by kernel_rfl) (by kernel_rfl) ?_
  repeat (first|(simp -implicitDefEqProofs only [go_sem,Nat.reduceAdd,Nat.reduceMul,Nat.reduceEqDiff,Nat.reduceLT,Nat.reduceLeDiff,reduceCtorEq]))
  refine Qbn mixed [0,1,2,3] ?_
  repeat (first|(simp -implicitDefEqProofs only [go_sem,Nat.reduceAdd,Nat.reduceMul,Nat.reduceEqDiff,Nat.reduceLT,Nat.reduceLeDiff,reduceCtorEq,Int.reduceLE,Int.reduceLT,Int.reduceToNat,Int.reduceAdd,e,Qco,Qcp,Qcq,Qci,decide_true,decide_false,c0',c1',c2',c3',c4',c5',c6',c7']))
 have c7':=eq_true c7
 by_cases c8:B.cap≤1125899906842624
 case neg=>
  have c8':=eq_false c8
  have e:Qat B=false:=Qk0 (by unfold BaOk;omega)
  refine Qac (tb:=[]) 37 [.tmp 2] [0,1,2,4,11,12,13,20] mixed Tryz.func33 rfl (by kernel_rfl) (by kernel_rfl) (by kernel_rfl) (by kernel_rfl) ?_
  repeat (first|(simp -implicitDefEqProofs only [go_sem,Nat.reduceAdd,Nat.reduceMul,Nat.reduceEqDiff,Nat.reduceLT,Nat.reduceLeDiff,reduceCtorEq]))
  refine Qbn mixed [0,1,2,3] ?_
  repeat (first|(simp -implicitDefEqProofs only [go_sem,Nat.reduceAdd,Nat.reduceMul,Nat.reduceEqDiff,Nat.reduceLT,Nat.reduceLeDiff,reduceCtorEq,Int.reduceLE,Int.reduceLT,Int.reduceToNat,Int.reduceAdd,e,Qco,Qcp,Qcq,Qci,decide_true,decide_false,c0',c1',c2',c3',c4',c5',c6',c7',c8']))
 have c8':=eq_true c8
 have e:Qat B=true:=Zpd (by unfold BaOk;omega)
 refine Qac (tb:=[]) 37 [.tmp 2] [0,1,2,4,11,12,13,20] mixed Tryz.func33 rfl (by kernel_rfl) (by kernel_rfl) (by kernel_rfl) (by kernel_rfl) ?_
 repeat (first|(simp -implicitDefEqProofs only [go_sem,Nat.reduceAdd,Nat.reduceMul,Nat.reduceEqDiff,Nat.reduceLT,Nat.reduceLeDiff,reduceCtorEq]))
 refine Qbn mixed [0,1,2,3] ?_
 repeat (first|(simp -implicitDefEqProofs only [go_sem,Nat.reduceAdd,Nat.reduceMul,Nat.reduceEqDiff,Nat.reduceLT,Nat.reduceLeDiff,reduceCtorEq,Int.reduceLE,Int.reduceLT,Int.reduceToNat,Int.reduceAdd,e,Qco,Qcp,Qcq,Qci,decide_true,decide_false,c0',c1',c2',c3',c4',c5',c6',c7',c8']))
theorem Qmg (n:Int):Qad Tryz.prog 80 [.int .i64 n] (.bool (Qjm n)):=by
 by_cases c:0≤n
 ·have c':=eq_true c
  have e:Qjm n=decide (n≤1000000):=by rw [Qjm,decide_eq_true c,Bool.true_and]
  rw [e]
  refine Qac (tb:=[]) 9 [.tmp 2] [0,2] mixed Tryz.func80 rfl (by kernel_rfl) (by kernel_rfl) (by kernel_rfl) (by kernel_rfl) ?_
  repeat (first|(simp -implicitDefEqProofs only [go_sem,Nat.reduceAdd,Nat.reduceMul,Nat.reduceEqDiff,Nat.reduceLT,Nat.reduceLeDiff,reduceCtorEq,c']))
 ·have c':=eq_false c
  have e:Qjm n=false:=by rw [Qjm,decide_eq_false c,Bool.false_and]
  rw [e]
  refine Qac (tb:=[]) 9 [.tmp 2] [0,2] mixed Tryz.func80 rfl (by kernel_rfl) (by kernel_rfl) (by kernel_rfl) (by kernel_rfl) ?_
  repeat (first|(simp -implicitDefEqProofs only [go_sem,Nat.reduceAdd,Nat.reduceMul,Nat.reduceEqDiff,Nat.reduceLT,Nat.reduceLeDiff,reduceCtorEq,c']))
set_option maxHeartbeats 4000000 in
theorem Qmh (B:Bat):Qad Tryz.prog 34 [baPV B] (.bool (Qat B)):=by
 have h0:=Qmg B.base
 have h1:=Qmg B.climb
 have h2:=Qmg B.drag
 unfold baPV
 cases c0:Qjm B.base with
 |false=>
  rw [c0]at h0
  have e:Qat B=false:=by unfold Qat;simp [c0]
  refine Qac (tb:=[]) 33 [.tmp 2] [0,1,2] mixed Tryz.func34 rfl (by kernel_rfl) (by kernel_rfl) (by kernel_rfl) (by kernel_rfl) ?_
  repeat (first|(simp -implicitDefEqProofs only [go_sem,Nat.reduceAdd,Nat.reduceMul,Nat.reduceEqDiff,Nat.reduceLT,Nat.reduceLeDiff,reduceCtorEq,e,decide_true,decide_false])|((with_reducible refine Qab (h0) ?_ ?_ ?_);(with_reducible rfl);rfl)|((with_reducible refine Qab (h1) ?_ ?_ ?_);(with_reducible rfl);rfl)|((with_reducible refine Qab (h2) ?_ ?_ ?_);(with_reducible rfl);rfl))
 |true=>
 rw [c0]at h0
 cases c1:Qjm B.climb with
 |false=>
  rw [c1]at h1
  have e:Qat B=false:=by unfold Qat;simp [c0,c1]
  refine Qac (tb:=[]) 33 [.tmp 2] [0,1,2] mixed Tryz.func34 rfl (by kernel_rfl) (by kernel_rfl) (by kernel_rfl) (by kernel_rfl) ?_
  repeat (first|(simp -implicitDefEqProofs only [go_sem,Nat.reduceAdd,Nat.reduceMul,Nat.reduceEqDiff,Nat.reduceLT,Nat.reduceLeDiff,reduceCtorEq,e,decide_true,decide_false])|((with_reducible refine Qab (h0) ?_ ?_ ?_);(with_reducible rfl);rfl)|((with_reducible refine Qab (h1) ?_ ?_ ?_);(with_reducible rfl);rfl)|((with_reducible refine Qab (h2) ?_ ?_ ?_);(with_reducible rfl);rfl))
 |true=>
 rw [c1]at h1
 cases c2:Qjm B.drag with
 |false=>
  rw [c2]at h2
  have e:Qat B=false:=by unfold Qat;simp [c0,c1,c2]
  refine Qac (tb:=[]) 33 [.tmp 2] [0,1,2] mixed Tryz.func34 rfl (by kernel_rfl) (by kernel_rfl) (by kernel_rfl) (by kernel_rfl) ?_
  repeat (first|(simp -implicitDefEqProofs only [go_sem,Nat.reduceAdd,Nat.reduceMul,Nat.reduceEqDiff,Nat.reduceLT,Nat.reduceLeDiff,reduceCtorEq,e,decide_true,decide_false])|((with_reducible refine Qab (h0) ?_ ?_ ?_);(with_reducible rfl);rfl)|((with_reducible refine Qab (h1) ?_ ?_ ?_);(with_reducible rfl);rfl)|((with_reducible refine Qab (h2) ?_ ?_ ?_);(with_reducible rfl);rfl))
 |true=>
 rw [c2]at h2
 by_cases c3:0≤B.res
 case neg=>
  have c3':=eq_false c3
  have e:Qat B=false:=Qk0 (by unfold BaOk;omega)
  refine Qac (tb:=[]) 33 [.tmp 2] [0,1,2] mixed Tryz.func34 rfl (by kernel_rfl) (by kernel_rfl) (by kernel_rfl) (by kernel_rfl) ?_
  repeat (first|(simp -implicitDefEqProofs only [go_sem,Nat.reduceAdd,Nat.reduceMul,Nat.reduceEqDiff,Nat.reduceLT,Nat.reduceLeDiff,reduceCtorEq,e,decide_true,decide_false,c3'])|((with_reducible refine Qab (h0) ?_ ?_ ?_);(with_reducible rfl);rfl)|((with_reducible refine Qab (h1) ?_ ?_ ?_);(with_reducible rfl);rfl)|((with_reducible refine Qab (h2) ?_ ?_ ?_);(with_reducible rfl);rfl))
 have c3':=eq_true c3
 by_cases c4:B.res≤B.cap
 case neg=>
  have c4':=eq_false c4
  have e:Qat B=false:=Qk0 (by unfold BaOk;omega)
  refine Qac (tb:=[]) 33 [.tmp 2] [0,1,2] mixed Tryz.func34 rfl (by kernel_rfl) (by kernel_rfl) (by kernel_rfl) (by kernel_rfl) ?_
  repeat (first|(simp -implicitDefEqProofs only [go_sem,Nat.reduceAdd,Nat.reduceMul,Nat.reduceEqDiff,Nat.reduceLT,Nat.reduceLeDiff,reduceCtorEq,e,decide_true,decide_false,c3',c4'])|((with_reducible refine Qab (h0) ?_ ?_ ?_);(with_reducible rfl);rfl)|((with_reducible refine Qab (h1) ?_ ?_ ?_);(with_reducible rfl);rfl)|((with_reducible refine Qab (h2) ?_ ?_ ?_);(with_reducible rfl);rfl))
 have c4':=eq_true c4
 by_cases c5:B.cap≤1125899906842624
 case neg=>
  have c5':=eq_false c5
  have e:Qat B=false:=Qk0 (by unfold BaOk;omega)
  refine Qac (tb:=[]) 33 [.tmp 2] [0,1,2] mixed Tryz.func34 rfl (by kernel_rfl) (by kernel_rfl) (by kernel_rfl) (by kernel_rfl) ?_
  repeat (first|(simp -implicitDefEqProofs only [go_sem,Nat.reduceAdd,Nat.reduceMul,Nat.reduceEqDiff,Nat.reduceLT,Nat.reduceLeDiff,reduceCtorEq,e,decide_true,decide_false,c3',c4',c5'])|((with_reducible refine Qab (h0) ?_ ?_ ?_);(with_reducible rfl);rfl)|((with_reducible refine Qab (h1) ?_ ?_ ?_);(with_reducible rfl);rfl)|((with_reducible refine Qab (h2) ?_ ?_ ?_);(with_reducible rfl);rfl))
 have c5':=eq_true c5
 have e:Qat B=true:=by
  unfold Qat
  rw [c0,c1,c2,decide_eq_true c3,decide_eq_true c4,decide_eq_true c5];rfl
 refine Qac (tb:=[]) 33 [.tmp 2] [0,1,2] mixed Tryz.func34 rfl (by kernel_rfl) (by kernel_rfl) (by kernel_rfl) (by kernel_rfl) ?_
 repeat (first|(simp -implicitDefEqProofs only [go_sem,Nat.reduceAdd,Nat.reduceMul,Nat.reduceEqDiff,Nat.reduceLT,Nat.reduceLeDiff,reduceCtorEq,e,decide_true,decide_false,c3',c4',c5'])|((with_reducible refine Qab (h0) ?_ ?_ ?_);(with_reducible rfl);rfl)|((with_reducible refine Qab (h1) ?_ ?_ ?_);(with_reducible rfl);rfl)|((with_reducible refine Qab (h2) ?_ ?_ ?_);(with_reducible rfl);rfl))
def blB (x:Int):Bool:=decide (-40000≤x∧x≤40000)
theorem Qpy {x:Int} (h:blB x=true): -40000≤x∧x≤40000:=of_decide_eq_true h
theorem Qpz (x:Int):Qad Tryz.prog 74 [.int .i64 x] (.bool (blB x)):=by
 by_cases c: -40000≤x
 ·have c':=eq_true c
  have e:blB x=decide (x≤40000):=by rw [blB,Bool.eq_iff_iff];simp [c]
  rw [e]
  refine Qac (tb:=[]) 9 [.tmp 2] [0,2] mixed Tryz.func74 rfl (by kernel_rfl) (by kernel_rfl) (by kernel_rfl) (by kernel_rfl) ?_
  repeat (first|(simp -implicitDefEqProofs only [go_sem,Nat.reduceAdd,Nat.reduceMul,Nat.reduceEqDiff,Nat.reduceLT,Nat.reduceLeDiff,reduceCtorEq,Int.reduceNeg,c']))
 ·have c':=eq_false c
  have e:blB x=false:=by rw [blB];exact decide_eq_false (by omega)
  rw [e]
  refine Qac (tb:=[]) 9 [.tmp 2] [0,2] mixed Tryz.func74 rfl (by kernel_rfl) (by kernel_rfl) (by kernel_rfl) (by kernel_rfl) ?_
  repeat (first|(simp -implicitDefEqProofs only [go_sem,Nat.reduceAdd,Nat.reduceMul,Nat.reduceEqDiff,Nat.reduceLT,Nat.reduceLeDiff,reduceCtorEq,Int.reduceNeg,c']))
def Qrv (s:Sg) (B:Bat) (x y z:Int):PV:=if(blB x&&(blB y&&(blB z&&(Qa2 s&&Qat B))))=true then(if Qey s B x y z≤mxE then .tup [.int .i64 (Qey s B x y z),.int .i64 0]else .tup [.int .i64 0,.int .i64 7])else .tup [.int .i64 0,.int .i64 2]
theorem Qfl {s:Sg} {B:Bat} {x y z:Int} (h:(blB x&&(blB y&&(blB z&&(Qa2 s&&Qat B))))=false):Qrv s B x y z= .tup [.int .i64 0,.int .i64 2]:=by
 unfold Qrv;rw [if_neg (by rw [h];simp)]
theorem Qp0 {s:Sg} {B:Bat} {x y z:Int} (h1:blB x=true) (h2:blB y=true) (h3:blB z=true) (h4:Qa2 s=true) (h5:Qat B=true):Qrv s B x y z=(if Qey s B x y z≤mxE then .tup [.int .i64 (Qey s B x y z),.int .i64 0]else .tup [.int .i64 0,.int .i64 7]):=by
 unfold Qrv;rw [if_pos (by rw [h1,h2,h3,h4,h5];rfl)]
set_option maxHeartbeats 4000000 in
set_option maxRecDepth 100000 in
theorem Q2i (s:Sg) (B:Bat) (x y z:Int) (hs:okSg s):Qad Tryz.prog 31 [sgPV s,baPV B,.agg [.int .i64 x,.int .i64 y,.int .i64 z]] (Qrv s B x y z):=by
 have h1:=Qwn s hs
 have h2:=Qpx B
 have hsg:sgPV s= .agg [.int .i64 s.f,.int .i64 s.t,.int .i64 s.o,.slc (s.x.map (PV.int .i64)),.slc (s.y.map (PV.int .i64)),.slc (s.z.map (PV.int .i64))]:=rfl
 have h3:=fun(a:Qa2 s=true) (b:Qat B=true) (c:blB x=true) (d:blB y=true) (e:blB z=true)=>Q2h s B x y z hs a b (Qpy c) (Qpy d) (Qpy e)
 rw [hsg]at h1 h3 ⊢
 unfold baPV at h2 h3 ⊢
 by_cases c0:x< -40000
 ·have c0':=eq_true c0
  rw [Qfl (by
    have e:blB x=false:=decide_eq_false (by omega)
    rw [e];simp)]
  refine Qac (tb:=[]) 47 [.tmp 6,.tmp 7] [0,1,2,3,4,5,6,7,9,10,11,18,19,20,27,36,45] mixed Tryz.func31 rfl (by kernel_rfl) (by kernel_rfl) (by kernel_rfl) (by kernel_rfl) ?_
  repeat (first|(simp -implicitDefEqProofs only [go_sem,Nat.reduceAdd,Nat.reduceMul,Nat.reduceEqDiff,Nat.reduceLT,Nat.reduceLeDiff,reduceCtorEq,Int.reduceNeg]))
  refine Qbn mixed [0,1,2,3] ?_
  repeat (first|(simp -implicitDefEqProofs only [go_sem,Nat.reduceAdd,Nat.reduceMul,Nat.reduceEqDiff,Nat.reduceLT,Nat.reduceLeDiff,reduceCtorEq,Int.reduceLT,Int.reduceNeg,Qco,Qcp,Qcq,Qci,decide_true,decide_false,Bool.not_true,Bool.not_false,c0']))
 have c0':=eq_false c0
 by_cases c1:40000<x
 ·have c1':=eq_true c1
  rw [Qfl (by
    have e:blB x=false:=decide_eq_false (by omega)
    rw [e];simp)]
  refine Qac (tb:=[]) 47 [.tmp 6,.tmp 7] [0,1,2,3,4,5,6,7,9,10,11,18,19,20,27,36,45] mixed Tryz.func31 rfl (by kernel_rfl) (by kernel_rfl) (by kernel_rfl) (by kernel_rfl) ?_
  repeat (first|(simp -implicitDefEqProofs only [go_sem,Nat.reduceAdd,Nat.reduceMul,Nat.reduceEqDiff,Nat.reduceLT,Nat.reduceLeDiff,reduceCtorEq,Int.reduceNeg]))
  refine Qbn mixed [0,1,2,3] ?_
  repeat (first|(simp -implicitDefEqProofs only [go_sem,Nat.reduceAdd,Nat.reduceMul,Nat.reduceEqDiff,Nat.reduceLT,Nat.reduceLeDiff,reduceCtorEq,Int.reduceLT,Int.reduceNeg,Qco,Qcp,Qcq,Qci,decide_true,decide_false,Bool.not_true,Bool.not_false,c0',c1']))
 have c1':=eq_false c1
 by_cases c2:y< -40000
 ·have c2':=eq_true c2
  rw [Qfl (by
    have e:blB y=false:=decide_eq_false (by omega)
    rw [e];simp)]
  refine Qac (tb:=[]) 47 [.tmp 6,.tmp 7] [0,1,2,3,4,5,6,7,9,10,11,18,19,20,27,36,45] mixed Tryz.func31 rfl (by kernel_rfl) (by kernel_rfl) (by kernel_rfl) (by kernel_rfl) ?_
  repeat (first|(simp -implicitDefEqProofs only [go_sem,Nat.reduceAdd,Nat.reduceMul,Nat.reduceEqDiff,Nat.reduceLT,Nat.reduceLeDiff,reduceCtorEq,Int.reduceNeg]))
  refine Qbn mixed [0,1,2,3] ?_
  repeat (first|(simp -implicitDefEqProofs only [go_sem,Nat.reduceAdd,Nat.reduceMul,Nat.reduceEqDiff,Nat.reduceLT,Nat.reduceLeDiff,reduceCtorEq,Int.reduceLE,Int.reduceLT,Int.reduceToNat,Int.reduceAdd,Int.reduceNeg,Qco,Qcp,Qcq,Qci,decide_true,decide_false,Bool.not_true,Bool.not_false,c0',c1',c2']))
 have c2':=eq_false c2
 by_cases c3:40000<y
 ·have c3':=eq_true c3
  rw [Qfl (by
    have e:blB y=false:=decide_eq_false (by omega)
    rw [e];simp)]
  refine Qac (tb:=[]) 47 [.tmp 6,.tmp 7] [0,1,2,3,4,5,6,7,9,10,11,18,19,20,27,36,45] mixed Tryz.func31 rfl (by kernel_rfl) (by kernel_rfl) (by kernel_rfl) (by kernel_rfl) ?_
  repeat (first|(simp -implicitDefEqProofs only [go_sem,Nat.reduceAdd,Nat.reduceMul,Nat.reduceEqDiff,Nat.reduceLT,Nat.reduceLeDiff,reduceCtorEq,Int.reduceNeg]))
  refine Qbn mixed [0,1,2,3] ?_
  repeat (first|(simp -implicitDefEqProofs only [go_sem,Nat.reduceAdd,Nat.reduceMul,Nat.reduceEqDiff,Nat.reduceLT,Nat.reduceLeDiff,reduceCtorEq,Int.reduceLE,Int.reduceLT,Int.reduceToNat,Int.reduceAdd,Int.reduceNeg,Qco,Qcp,Qcq,Qci,decide_true,decide_false,Bool.not_true,Bool.not_false,c0',c1',c2',c3']))
 have c3':=eq_false c3
 by_cases c4:z< -40000
 ·have c4':=eq_true c4
  rw [Qfl (by
    have e:blB z=false:=decide_eq_false (by omega)
    rw [e];simp)]
  refine Qac (tb:=[]) 47 [.tmp 6,.tmp 7] [0,1,2,3,4,5,6,7,9,10,11,18,19,20,27,36,45] mixed Tryz.func31 rfl (by kernel_rfl) (by kernel_rfl) (by kernel_rfl) (by kernel_rfl) ?_
  repeat (first|(simp -implicitDefEqProofs only [go_sem,Nat.reduceAdd,Nat.reduceMul,Nat.reduceEqDiff,Nat.reduceLT,Nat.reduceLeDiff,reduceCtorEq,Int.reduceNeg]))
  refine Qbn mixed [0,1,2,3] ?_
  repeat (first|(simp -implicitDefEqProofs only [go_sem,Nat.reduceAdd,Nat.reduceMul,Nat.reduceEqDiff,Nat.reduceLT,Nat.reduceLeDiff,reduceCtorEq,Int.reduceLE,Int.reduceLT,Int.reduceToNat,Int.reduceAdd,Int.reduceNeg,Qco,Qcp,Qcq,Qci,decide_true,decide_false,Bool.not_true,Bool.not_false,c0',c1',c2',c3',c4']))
 have c4':=eq_false c4
 by_cases c5:40000<z
 ·have c5':=eq_true c5
  rw [Qfl (by
    have e:blB z=false:=decide_eq_false (by omega)
    rw [e];simp)]
  refine Qac (tb:=[]) 47 [.tmp 6,.tmp 7] [0,1,2,3,4,5,6,7,9,10,11,18,19,20,27,36,45] mixed Tryz.func31 rfl (by kernel_rfl) (by kernel_rfl) (by kernel_rfl) (by kernel_rfl) ?_
  repeat (first|(simp -implicitDefEqProofs only [go_sem,Nat.reduceAdd,Nat.reduceMul,Nat.reduceEqDiff,Nat.reduceLT,Nat.reduceLeDiff,reduceCtorEq,Int.reduceNeg]))
  refine Qbn mixed [0,1,2,3] ?_
  repeat (first|(simp -implicitDefEqProofs only [go_sem,Nat.reduceAdd,Nat.reduceMul,Nat.reduceEqDiff,Nat.reduceLT,Nat.reduceLeDiff,reduceCtorEq,Int.reduceLE,Int.reduceLT,Int.reduceToNat,Int.reduceAdd,Int.reduceNeg,Qco,Qcp,Qcq,Qci,decide_true,decide_false,Bool.not_true,Bool.not_false,c0',c1',c2',c3',c4',c5']))
 have c5':=eq_false c5
 have bx:blB x=true:=decide_eq_true (by omega)
 have by':blB y=true:=decide_eq_true (by omega)
 have bz:blB z=true:=decide_eq_true (by omega)
 cases hv:Qa2 s with
 |false=>
  rw [hv]at h1
  rw [Qfl (by rw [hv];simp)]
  refine Qac (tb:=[]) 47 [.tmp 6,.tmp 7] [0,1,2,3,4,5,6,7,9,10,11,18,19,20,27,36,45] mixed Tryz.func31 rfl (by kernel_rfl) (by kernel_rfl) (by kernel_rfl) (by kernel_rfl) ?_
  repeat (first|(simp -implicitDefEqProofs only [go_sem,Nat.reduceAdd,Nat.reduceMul,Nat.reduceEqDiff,Nat.reduceLT,Nat.reduceLeDiff,reduceCtorEq,Int.reduceNeg]))
  refine Qbn mixed [0,1,2,3] ?_
  repeat (first|(simp -implicitDefEqProofs only [go_sem,Nat.reduceAdd,Nat.reduceMul,Nat.reduceEqDiff,Nat.reduceLT,Nat.reduceLeDiff,reduceCtorEq,Int.reduceLE,Int.reduceLT,Int.reduceToNat,Int.reduceAdd,Int.reduceNeg,Qco,Qcp,Qcq,Qci,decide_true,decide_false,Bool.not_true,Bool.not_false,c0',c1',c2',c3',c4',c5'])|((with_reducible refine Qab (h1) ?_ ?_ ?_);(with_reducible rfl);rfl))
 |true=>
 rw [hv]at h1
 cases hB:Qat B with
 |false=>
  rw [hB]at h2
  rw [Qfl (by rw [hB];simp)]
  refine Qac (tb:=[]) 47 [.tmp 6,.tmp 7] [0,1,2,3,4,5,6,7,9,10,11,18,19,20,27,36,45] mixed Tryz.func31 rfl (by kernel_rfl) (by kernel_rfl) (by kernel_rfl) (by kernel_rfl) ?_
  repeat (first|(simp -implicitDefEqProofs only [go_sem,Nat.reduceAdd,Nat.reduceMul,Nat.reduceEqDiff,Nat.reduceLT,Nat.reduceLeDiff,reduceCtorEq,Int.reduceNeg]))
  refine Qbn mixed [0,1,2,3] ?_
  repeat (first|(simp -implicitDefEqProofs only [go_sem,Nat.reduceAdd,Nat.reduceMul,Nat.reduceEqDiff,Nat.reduceLT,Nat.reduceLeDiff,reduceCtorEq,Int.reduceLE,Int.reduceLT,Int.reduceToNat,Int.reduceAdd,Int.reduceNeg,Qco,Qcp,Qcq,Qci,decide_true,decide_false,Bool.not_true,Bool.not_false,c0',c1',c2',c3',c4',c5'])|((with_reducible refine Qab (h1) ?_ ?_ ?_);(with_reducible rfl);rfl)|((with_reducible refine Qab (h2) ?_ ?_ ?_);(with_reducible rfl);rfl))
 |true=>
 rw [hB]at h2
 have h3:=h3 hv hB bx by' bz
 rw [Qp0 bx by' bz hv hB]
 unfold mxE
 generalize Qey s B x y z=C at*
 by_cases hC:C≤1125899906842624
 ·rw [decide_eq_true hC]at h3
  rw [if_pos hC]
  refine Qac (tb:=[]) 47 [.tmp 6,.tmp 7] [0,1,2,3,4,5,6,7,9,10,11,18,19,20,27,36,45] mixed Tryz.func31 rfl (by kernel_rfl) (by kernel_rfl) (by kernel_rfl) (by kernel_rfl) ?_
  repeat (first|(simp -implicitDefEqProofs only [go_sem,Nat.reduceAdd,Nat.reduceMul,Nat.reduceEqDiff,Nat.reduceLT,Nat.reduceLeDiff,reduceCtorEq,Int.reduceNeg]))
  refine Qbn mixed [0,1,2,3] ?_
  repeat (first|(simp -implicitDefEqProofs only [go_sem,Nat.reduceAdd,Nat.reduceMul,Nat.reduceEqDiff,Nat.reduceLT,Nat.reduceLeDiff,reduceCtorEq,Int.reduceLE,Int.reduceLT,Int.reduceToNat,Int.reduceAdd,Int.reduceNeg,Qco,Qcp,Qcq,Qci,decide_true,decide_false,Bool.not_true,Bool.not_false,c0',c1',c2',c3',c4',c5'])|((with_reducible refine Qab (h1) ?_ ?_ ?_);(with_reducible rfl);rfl)|((with_reducible refine Qab (h2) ?_ ?_ ?_);(with_reducible rfl);rfl)|((with_reducible refine Qab (h3) ?_ ?_ ?_);(with_reducible rfl);rfl))
 ·rw [decide_eq_false hC]at h3
  rw [if_neg hC]
  refine Qac (tb:=[]) 47 [.tmp 6,.tmp 7] [0,1,2,3,4,5,6,7,9,10,11,18,19,20,27,36,45] mixed Tryz.func31 rfl (by kernel_rfl) (by kernel_rfl) (by kernel_rfl) (by kernel_rfl) ?_
  repeat (first|(simp -implicitDefEqProofs only [go_sem,Nat.reduceAdd,Nat.reduceMul,Nat.reduceEqDiff,Nat.reduceLT,Nat.reduceLeDiff,reduceCtorEq,Int.reduceNeg]))
  refine Qbn mixed [0,1,2,3] ?_
  repeat (first|(simp -implicitDefEqProofs only [go_sem,Nat.reduceAdd,Nat.reduceMul,Nat.reduceEqDiff,Nat.reduceLT,Nat.reduceLeDiff,reduceCtorEq,Int.reduceLE,Int.reduceLT,Int.reduceToNat,Int.reduceAdd,Int.reduceNeg,Qco,Qcp,Qcq,Qci,decide_true,decide_false,Bool.not_true,Bool.not_false,c0',c1',c2',c3',c4',c5'])|((with_reducible refine Qab (h1) ?_ ?_ ?_);(with_reducible rfl);rfl)|((with_reducible refine Qab (h2) ?_ ?_ ?_);(with_reducible rfl);rfl)|((with_reducible refine Qab (h3) ?_ ?_ ?_);(with_reducible rfl);rfl))
set_option maxHeartbeats 4000000 in
theorem Q2j (s:Sg) (B:Bat) (x y z:Int) (hs:okSg s):Qad Tryz.prog 32 [sgPV s,baPV B,.agg [.int .i64 x,.int .i64 y,.int .i64 z]] (Qrv s B x y z):=by
 have h1:=Qr4 s hs
 have h2:=Qmh B
 have k1:=Qpz x
 have k2:=Qpz y
 have k3:=Qpz z
 have hsg:sgPV s= .agg [.int .i64 s.f,.int .i64 s.t,.int .i64 s.o,.slc (s.x.map (PV.int .i64)),.slc (s.y.map (PV.int .i64)),.slc (s.z.map (PV.int .i64))]:=rfl
 have h3:=fun(a:Qa2 s=true) (b:Qat B=true) (c:blB x=true) (d:blB y=true) (e:blB z=true)=>Q98 s B x y z hs a b (Qpy c) (Qpy d) (Qpy e)
 rw [hsg]at h1 h3 ⊢
 unfold baPV at h2 h3 ⊢
 cases hv:Qa2 s with
 |false=>
  rw [hv]at h1
  rw [Qfl (by rw [hv];simp)]
  refine Qac (tb:=[]) 46 [.tmp 6,.tmp 7] [0,1,2,3,4,5,6,7,8,34,43] mixed Tryz.func32 rfl (by kernel_rfl) (by kernel_rfl) (by kernel_rfl) (by kernel_rfl) ?_
  repeat (first|(simp -implicitDefEqProofs only [go_sem,Nat.reduceAdd,Nat.reduceMul,Nat.reduceEqDiff,Nat.reduceLT,Nat.reduceLeDiff,reduceCtorEq,Bool.not_true,Bool.not_false])|((with_reducible refine Qab (h1) ?_ ?_ ?_);(with_reducible rfl);rfl)|((with_reducible refine Qab (h2) ?_ ?_ ?_);(with_reducible rfl);rfl)|((with_reducible refine Qab (k1) ?_ ?_ ?_);(with_reducible rfl);rfl)|((with_reducible refine Qab (k2) ?_ ?_ ?_);(with_reducible rfl);rfl)|((with_reducible refine Qab (k3) ?_ ?_ ?_);(with_reducible rfl);rfl)|(with_reducible exact Qaa _ _ (by kernel_rfl))|(with_reducible refine And.intro (Qaa _ _ (by kernel_rfl)) ?_))
 |true=>
 rw [hv]at h1
 cases hB:Qat B with
 |false=>
  rw [hB]at h2
  rw [Qfl (by rw [hB];simp)]
  refine Qac (tb:=[]) 46 [.tmp 6,.tmp 7] [0,1,2,3,4,5,6,7,8,34,43] mixed Tryz.func32 rfl (by kernel_rfl) (by kernel_rfl) (by kernel_rfl) (by kernel_rfl) ?_
  repeat (first|(simp -implicitDefEqProofs only [go_sem,Nat.reduceAdd,Nat.reduceMul,Nat.reduceEqDiff,Nat.reduceLT,Nat.reduceLeDiff,reduceCtorEq,Bool.not_true,Bool.not_false])|((with_reducible refine Qab (h1) ?_ ?_ ?_);(with_reducible rfl);rfl)|((with_reducible refine Qab (h2) ?_ ?_ ?_);(with_reducible rfl);rfl)|((with_reducible refine Qab (k1) ?_ ?_ ?_);(with_reducible rfl);rfl)|((with_reducible refine Qab (k2) ?_ ?_ ?_);(with_reducible rfl);rfl)|((with_reducible refine Qab (k3) ?_ ?_ ?_);(with_reducible rfl);rfl)|(with_reducible exact Qaa _ _ (by kernel_rfl))|(with_reducible refine And.intro (Qaa _ _ (by kernel_rfl)) ?_))
 |true=>
 rw [hB]at h2
 cases bx:blB x with
 |false=>
  rw [bx]at k1
  rw [Qfl (by rw [bx];simp)]
  refine Qac (tb:=[]) 46 [.tmp 6,.tmp 7] [0,1,2,3,4,5,6,7,8,34,43] mixed Tryz.func32 rfl (by kernel_rfl) (by kernel_rfl) (by kernel_rfl) (by kernel_rfl) ?_
  repeat (first|(simp -implicitDefEqProofs only [go_sem,Nat.reduceAdd,Nat.reduceMul,Nat.reduceEqDiff,Nat.reduceLT,Nat.reduceLeDiff,reduceCtorEq,Bool.not_true,Bool.not_false])|((with_reducible refine Qab (h1) ?_ ?_ ?_);(with_reducible rfl);rfl)|((with_reducible refine Qab (h2) ?_ ?_ ?_);(with_reducible rfl);rfl)|((with_reducible refine Qab (k1) ?_ ?_ ?_);(with_reducible rfl);rfl)|((with_reducible refine Qab (k2) ?_ ?_ ?_);(with_reducible rfl);rfl)|((with_reducible refine Qab (k3) ?_ ?_ ?_);(with_reducible rfl);rfl)|(with_reducible exact Qaa _ _ (by kernel_rfl))|(with_reducible refine And.intro (Qaa _ _ (by kernel_rfl)) ?_))
 |true=>
 rw [bx]at k1
 cases by':blB y with
 |false=>
  rw [by']at k2
  rw [Qfl (by rw [by'];simp)]
  refine Qac (tb:=[]) 46 [.tmp 6,.tmp 7] [0,1,2,3,4,5,6,7,8,34,43] mixed Tryz.func32 rfl (by kernel_rfl) (by kernel_rfl) (by kernel_rfl) (by kernel_rfl) ?_
  repeat (first|(simp -implicitDefEqProofs only [go_sem,Nat.reduceAdd,Nat.reduceMul,Nat.reduceEqDiff,Nat.reduceLT,Nat.reduceLeDiff,reduceCtorEq,Bool.not_true,Bool.not_false])|((with_reducible refine Qab (h1) ?_ ?_ ?_);(with_reducible rfl);rfl)|((with_reducible refine Qab (h2) ?_ ?_ ?_);(with_reducible rfl);rfl)|((with_reducible refine Qab (k1) ?_ ?_ ?_);(with_reducible rfl);rfl)|((with_reducible refine Qab (k2) ?_ ?_ ?_);(with_reducible rfl);rfl)|((with_reducible refine Qab (k3) ?_ ?_ ?_);(with_reducible rfl);rfl)|(with_reducible exact Qaa _ _ (by kernel_rfl))|(with_reducible refine And.intro (Qaa _ _ (by kernel_rfl)) ?_))
 |true=>
 rw [by']at k2
 cases bz:blB z with
 |false=>
  rw [bz]at k3
  rw [Qfl (by rw [bz];simp)]
  refine Qac (tb:=[]) 46 [.tmp 6,.tmp 7] [0,1,2,3,4,5,6,7,8,34,43] mixed Tryz.func32 rfl (by kernel_rfl) (by kernel_rfl) (by kernel_rfl) (by kernel_rfl) ?_
  repeat (first|(simp -implicitDefEqProofs only [go_sem,Nat.reduceAdd,Nat.reduceMul,Nat.reduceEqDiff,Nat.reduceLT,Nat.reduceLeDiff,reduceCtorEq,Bool.not_true,Bool.not_false])|((with_reducible refine Qab (h1) ?_ ?_ ?_);(with_reducible rfl);rfl)|((with_reducible refine Qab (h2) ?_ ?_ ?_);(with_reducible rfl);rfl)|((with_reducible refine Qab (k1) ?_ ?_ ?_);(with_reducible rfl);rfl)|((with_reducible refine Qab (k2) ?_ ?_ ?_);(with_reducible rfl);rfl)|((with_reducible refine Qab (k3) ?_ ?_ ?_);(with_reducible rfl);rfl)|(with_reducible exact Qaa _ _ (by kernel_rfl))|(with_reducible refine And.intro (Qaa _ _ (by kernel_rfl)) ?_))
 |true=>
 rw [bz]at k3
 obtain⟨h3,hf⟩:=h3 hv hB bx by' bz
 have hc:=Zip s B (by have:=(Qbu hv).1;omega) x y z
 rw [hc]at h3 hf
 obtain⟨⟨v1,v2,v3,v4,v5⟩,hax, -⟩:=Qbu hv
 obtain⟨c1,c2⟩:=Qpa (by unfold rngS;simp only [Bool.and_eq_true,decide_eq_true_eq];omega) (hax s.x (by simp [Sg.ax])) (hax s.y (by simp [Sg.ax])) (hax s.z (by simp [Sg.ax])) hB (Qpy bx) (Qpy by') (Qpy bz)
 have h4:=Zsi hf (by decide)
 have eI:upQ (Qnm s B x y z)=Qey s B x y z:=rfl
 rw [eI]at h4
 have h5:=Qcj 1125899906842624 (by decide) (by decide)
 have h6:=Qeh (x:=Qey s B x y z) (y:=1125899906842624) (Qbe (show(Qey s B x y z).natAbs<2^60 by omega) (by decide)) (Qbe (show(1125899906842624:Int).natAbs<2^60 by decide) (by decide))
 have h7:=Zhq (Qey s B x y z) (by omega)
 rw [Qp0 bx by' bz hv hB]
 unfold mxE
 clear hc hf eI
 generalize Qey s B x y z=C at*
 generalize Qnm s B x y z=Q at*
 unfold rQq rQ di at h3
 unfold rQq rQ rI di at h4
 unfold rI di at h5 h6 h7
 by_cases hC:C≤1125899906842624
 ·have hs':(0<(C-1125899906842624).sign)=False:=eq_false (by
   rcases Int.lt_trichotomy (C-1125899906842624) 0 with h|h|h
   ·rw [Int.sign_eq_neg_one_of_neg h];decide
   ·rw [h];decide
   ·omega)
  rw [if_pos hC]
  refine Qac (tb:=[]) 46 [.tmp 6,.tmp 7] [0,1,2,3,4,5,6,7,8,34,43] mixed Tryz.func32 rfl (by kernel_rfl) (by kernel_rfl) (by kernel_rfl) (by kernel_rfl) ?_
  repeat (first|(simp -implicitDefEqProofs only [go_sem,Nat.reduceAdd,Nat.reduceMul,Nat.reduceEqDiff,Nat.reduceLT,Nat.reduceLeDiff,reduceCtorEq,Int.reduceLT,Bool.not_true,hs'])|((with_reducible refine Qab (h1) ?_ ?_ ?_);(with_reducible rfl);rfl)|((with_reducible refine Qab (h2) ?_ ?_ ?_);(with_reducible rfl);rfl)|((with_reducible refine Qab (k1) ?_ ?_ ?_);(with_reducible rfl);rfl)|((with_reducible refine Qab (k2) ?_ ?_ ?_);(with_reducible rfl);rfl)|((with_reducible refine Qab (k3) ?_ ?_ ?_);(with_reducible rfl);rfl)|((with_reducible refine Qab (h3) ?_ ?_ ?_);(with_reducible rfl);rfl)|((with_reducible refine Qab (h4) ?_ ?_ ?_);(with_reducible rfl);rfl)|((with_reducible refine Qab (h5) ?_ ?_ ?_);(with_reducible rfl);rfl)|((with_reducible refine Qab (h6) ?_ ?_ ?_);(with_reducible rfl);rfl)|((with_reducible refine Qab (h7) ?_ ?_ ?_);(with_reducible rfl);rfl)|(with_reducible exact Qaa _ _ (by kernel_rfl))|(with_reducible refine And.intro (Qaa _ _ (by kernel_rfl)) ?_))
 ·have hs':(0<(C-1125899906842624).sign)=True:=eq_true (by rw [Int.sign_eq_one_of_pos (by omega)];decide)
  rw [if_neg hC]
  refine Qac (tb:=[]) 46 [.tmp 6,.tmp 7] [0,1,2,3,4,5,6,7,8,34,43] mixed Tryz.func32 rfl (by kernel_rfl) (by kernel_rfl) (by kernel_rfl) (by kernel_rfl) ?_
  repeat (first|(simp -implicitDefEqProofs only [go_sem,Nat.reduceAdd,Nat.reduceMul,Nat.reduceEqDiff,Nat.reduceLT,Nat.reduceLeDiff,reduceCtorEq,Int.reduceLT,Bool.not_true,hs'])|((with_reducible refine Qab (h1) ?_ ?_ ?_);(with_reducible rfl);rfl)|((with_reducible refine Qab (h2) ?_ ?_ ?_);(with_reducible rfl);rfl)|((with_reducible refine Qab (k1) ?_ ?_ ?_);(with_reducible rfl);rfl)|((with_reducible refine Qab (k2) ?_ ?_ ?_);(with_reducible rfl);rfl)|((with_reducible refine Qab (k3) ?_ ?_ ?_);(with_reducible rfl);rfl)|((with_reducible refine Qab (h3) ?_ ?_ ?_);(with_reducible rfl);rfl)|((with_reducible refine Qab (h4) ?_ ?_ ?_);(with_reducible rfl);rfl)|((with_reducible refine Qab (h5) ?_ ?_ ?_);(with_reducible rfl);rfl)|((with_reducible refine Qab (h6) ?_ ?_ ?_);(with_reducible rfl);rfl)|((with_reducible refine Qab (h7) ?_ ?_ ?_);(with_reducible rfl);rfl)|(with_reducible exact Qaa _ _ (by kernel_rfl))|(with_reducible refine And.intro (Qaa _ _ (by kernel_rfl)) ?_))
end Go.Proofs.YtciddhkfbgkejaaGreatDoor

namespace Go.Dg
structure Wd where
 lx:Int
 ly:Int
 lz:Int
 hx:Int
 hy:Int
 hz:Int
 f:Int
 t:Int
 ux:Int
 uy:Int
 uz:Int
deriving DecidableEq
def wd0:Wd:=⟨0,0,0,0,0,0,0,0,0,0,0⟩
def ptB (x y z:Int):Bool:=decide ((-1048576≤x∧x≤1048576)∧(-1048576≤y∧y≤1048576)∧(-1048576≤z∧z≤1048576))
def uB (x:Int):Bool:=decide (-5000≤x∧x≤5000)
def vWd (w:Wd):Bool:=ptB w.lx w.ly w.lz&&(ptB w.hx w.hy w.hz&&(decide (0≤w.f∧w.f<w.t∧w.t≤3600000)&&(decide (w.lx≤w.hx∧w.ly≤w.hy∧w.lz≤w.hz)&&(uB w.ux&&(uB w.uy&&uB w.uz)))))
def Qa8 (l:List Wd):Bool:=l.all vWd&&decide (l.length≤8)
def blW (x y z t:Int) (w:Wd):Bool:=decide ((w.lx≤x∧x≤w.hx)∧(w.ly≤y∧y≤w.hy)∧(w.lz≤z∧z≤w.hz)∧w.f≤t∧t<w.t)
theorem Ql9 {w:Wd} (h:vWd w=true):(-1048576≤w.lx∧w.lx≤1048576)∧(-1048576≤w.ly∧w.ly≤1048576)∧(-1048576≤w.lz∧w.lz≤1048576)∧(-1048576≤w.hx∧w.hx≤1048576)∧(-1048576≤w.hy∧w.hy≤1048576)∧(-1048576≤w.hz∧w.hz≤1048576)∧
  0≤w.f∧w.f<w.t∧w.t≤3600000∧w.lx≤w.hx∧w.ly≤w.hy∧w.lz≤w.hz∧(-5000≤w.ux∧w.ux≤5000)∧(-5000≤w.uy∧w.uy≤5000)∧(-5000≤w.uz∧w.uz≤5000):=by
 simp only [vWd,ptB,uB,Bool.and_eq_true,decide_eq_true_eq]at h
 omega
theorem Qcy {l:List Wd} (h:Qa8 l=true):(∀w∈l,vWd w=true)∧l.length≤8:=by
 simp only [Qa8,Bool.and_eq_true,decide_eq_true_eq,List.all_eq_true]at h
 exact h
def Qrn (p:Wd→Bool):List Wd→Nat→Nat→Nat
 | [],_,m=>m
 |w::l,i,m=>Qrn p l (i+1) (if p w then m+2^i else m)
def mask (p:Wd→Bool) (l:List Wd):Nat:=Qrn p l 0 0
theorem Qkh (p:Wd→Bool): ∀(a b:List Wd) (i m:Nat),Qrn p (a++b) i m=Qrn p b (i+a.length) (Qrn p a i m)
 | [],_,_,_=>rfl
 |w::a,b,i,m=>by
  simp only [List.cons_append,Qrn,List.length_cons]
  rw [Qkh p a b,Nat.add_assoc,Nat.add_comm 1]
theorem Qro (p:Wd→Bool) (a:List Wd) (w:Wd):mask p (a++[w])=if p w then mask p a+2^a.length else mask p a:=by
 unfold mask
 rw [Qkh,Nat.zero_add];rfl
theorem Qv6 (p:Wd→Bool): ∀(a:List Wd) (i m:Nat),m<2^i→Qrn p a i m<2^(i+a.length)
 | [],_,_,h=>h
 |w::a,i,m,h=>by
  have h1:2^(i+1)=2^i+2^i:=by rw [Nat.pow_succ];omega
  have:=Qv6 p a (i+1) (if p w then m+2^i else m) (by split<;>omega)
  simp only [Qrn,List.length_cons]
  rw [show i+(a.length+1)=i+1+a.length from by omega]
  exact this
theorem Qtw (p:Wd→Bool) (a:List Wd):mask p a<2^a.length:=by
 have:=Qv6 p a 0 0 (by decide)
 rwa [Nat.zero_add]at this
theorem Zo5 {m k:Nat} (h:m<2^k):m ||| 2^k=m+2^k:=by
 have:=Nat.two_pow_add_eq_or_of_lt h 1
 rw [Nat.mul_one,Nat.add_comm,Nat.or_comm]at this
 exact this.symm
def Qbr (m:Nat):List Nat:=(List.range 8).filter fun i=>m.testBit i
def lowB (m:Nat):Nat:=(Qbr m).headD 0
theorem Qx5: ∀m,m<256→m≠0→Qbr m=lowB m::Qbr (m &&& (m-1))∧(m &&& (m-1))<256∧lowB m<8:=by decide+kernel
theorem Qjs:Qbr 0=[]:=by decide+kernel
theorem Q9u: ∀m,m<256→Qbr m=[]→m=0:=by decide+kernel
def Qhq:Nat→Nat→Nat
 |0,m=>m
 |k+1,m=>Qhq k (m &&& (m-1))
theorem Qjt: ∀(k m:Nat),m<256→k≤(Qbr m).length→Qbr (Qhq k m)=(Qbr m).drop k∧Qhq k m<256
 |0,m,h,_=>⟨rfl,h⟩
 |k+1,m,h,hk=>by
  have h0:m≠0:=by rintro rfl;rw [Qjs]at hk;simp at hk
  obtain⟨e,h1, -⟩:=Qx5 m h h0
  rw [e]at hk ⊢
  simp only [List.length_cons]at hk
  obtain⟨i1,i2⟩:=Qjt k (m &&& (m-1)) h1 (by omega)
  exact⟨by simp only [Qhq,List.drop_succ_cons];exact i1,i2⟩
theorem Qod: ∀(k m:Nat),Qhq (k+1) m=Qhq k m &&& (Qhq k m-1)
 |0,_=>rfl
 |k+1,m=>by
  show Qhq (k+1) (m &&& (m-1))=_
  rw [Qod k];rfl
theorem Q10 {k m:Nat} (h:m<256) (hk:k<(Qbr m).length):Qhq k m≠0∧lowB (Qhq k m)=(Qbr m).getD k 0∧Qhq k m<256:=by
 obtain⟨e1,e2⟩:=Qjt k m h (by omega)
 refine⟨?_,?_,e2⟩
 ·intro e0
  rw [e0,Qjs]at e1
  have:=congrArg List.length e1
  simp at this;omega
 ·unfold lowB
  rw [e1,List.headD_eq_head?_getD,List.head?_drop,List.getD_eq_getElem?_getD]
theorem Q11 {m:Nat} (h:m<256):Qhq (Qbr m).length m=0:=by
 obtain⟨e1,e2⟩:=Qjt _ m h (Nat.le_refl _)
 exact Q9u _ e2 (by rw [e1,List.drop_length])
def onI (p:Wd→Bool):List Wd→Nat→List Nat
 | [],_=>[]
 |w::l,i=>if p w then i::onI p l (i+1)else onI p l (i+1)
theorem Qoe (p:Wd→Bool): ∀(a b:List Wd) (i:Nat),onI p (a++b) i=onI p a i++onI p b (i+a.length)
 | [],_,_=>rfl
 |w::a,b,i=>by
  simp only [List.cons_append,onI,List.length_cons]
  rw [Qoe p a b,show i+1+a.length=i+(a.length+1)from by omega]
  split<;>simp
theorem Qv7 (p:Wd→Bool) (a:List Wd) (w:Wd):onI p (a++[w]) 0=if p w then onI p a 0++[a.length]else onI p a 0:=by
 rw [Qoe,Nat.zero_add]
 simp only [onI]
 split<;>simp
theorem Q12 (p:Wd→Bool): ∀(a:List Wd) (i k:Nat),k∈onI p a i→i≤k∧k<i+a.length
 | [],_,_,h=>nomatch h
 |w::a,i,k,h=>by
  simp only [onI]at h
  simp only [List.length_cons]
  split at h
  ·simp only [List.mem_cons]at h
   rcases h with rfl|h
   ·omega
   ·have:=Q12 p a (i+1) k h;omega
  ·have:=Q12 p a (i+1) k h;omega
theorem Q9v: ∀m,m<256→ ∀k,k<8→m<2^k→Qbr (m+2^k)=Qbr m++[k]:=by decide+kernel
theorem bits_mask (p:Wd→Bool) (l:List Wd) (h:l.length≤8):Qbr (mask p l)=onI p l 0:=by
 have key: ∀k,k≤l.length→Qbr (mask p (l.take k))=onI p (l.take k) 0:=by
  intro k
  induction k with
  |zero=>intro _;rw [List.take_zero];exact Qjs
  |succ k ih=>
   intro hk
   have ih:=ih (by omega)
   have hk':k<l.length:=by omega
   have e:l.take (k+1)=l.take k++[l[k]]:=by rw [List.take_add_one,List.getElem?_eq_getElem hk'];rfl
   have hlt:=Qtw p (l.take k)
   have hl:(l.take k).length=k:=by simp;omega
   rw [hl]at hlt
   rw [e,Qro,Qv7,hl]
   have h256:(2:Nat)^k≤2^7:=Nat.pow_le_pow_right (by decide) (by omega)
   split
   ·rw [Q9v _ (by omega) k (by omega) hlt,ih]
   ·exact ih
 have:=key l.length (Nat.le_refl _)
 rwa [List.take_length]at this
theorem Q9w (p:Wd→Bool) {l:List Wd} (h:l.length≤8):mask p l<256:=by
 have h1:=Qtw p l
 have h256:(2:Nat)^l.length≤2^8:=Nat.pow_le_pow_right (by decide) h
 omega
def smW (g:Wd→Int):List Wd→Int
 | []=>0
 |w::l=>g w+smW g l
theorem Qof (g:Wd→Int): ∀a b:List Wd,smW g (a++b)=smW g a+smW g b
 | [],b=>by simp [smW]
 |w::a,b=>by simp only [List.cons_append,smW];rw [Qof g a b,Int.add_assoc]
def pick (l:List Wd) (ix:List Nat):List Wd:=ix.map fun i=>l.getD i wd0
theorem Q13 (p:Wd→Bool) (l:List Wd):pick l (onI p l 0)=l.filter p:=by
 have key: ∀(b a:List Wd),l=a++b→pick l (onI p b a.length)=b.filter p:=by
  intro b
  induction b with
  |nil=>intro a _;rfl
  |cons w b ih=>
   intro a e
   have:=ih (a++[w]) (by rw [e,List.append_assoc];rfl)
   rw [List.length_append]at this
   simp only [onI,List.filter_cons]
   have hw:l.getD a.length wd0=w:=by rw [e,List.getD_eq_getElem?_getD,List.getElem?_append_right (Nat.le_refl _)];simp
   split
   ·unfold pick at this ⊢
    rw [List.map_cons,hw];exact congrArg _ this
   ·exact this
 exact key l [] rfl
theorem Q14 (g:Wd→Int) (K:Int): ∀l:List Wd,(∀w∈l, -K≤g w∧g w≤K)→ -(K*l.length)≤smW g l∧smW g l≤K*l.length
 | [],_=>by simp [smW]
 |w::l,h=>by
  have h1:=h w (by simp)
  have h2:=Q14 g K l fun x hx=>h x (by simp [hx])
  simp only [smW,List.length_cons,Int.natCast_add,Int.mul_add]
  generalize K*(l.length:Int)=q at*
  omega
theorem Q9x {l:List Wd} {ix:List Nat} (h: ∀i∈ix,i<l.length) {w:Wd} (hw:w∈pick l ix):w∈l:=by
 obtain⟨i,hi,rfl⟩:=List.mem_map.1 hw
 rw [List.getD_eq_getElem?_getD,List.getElem?_eq_getElem (h i hi)]
 exact List.getElem_mem _
def atW (g:Wd→Int) (l:List Wd) (x y z t:Int):Int:=smW g (l.filter (blW x y z t))
theorem Qio {g:Wd→Int} (hg:g=Wd.ux∨g=Wd.uy∨g=Wd.uz) {l:List Wd} (hv:Qa8 l=true) (x y z t:Int): -40000≤atW g l x y z t∧atW g l x y z t≤40000:=by
 obtain⟨h1,h2⟩:=Qcy hv
 have h3:=Q14 g 5000 (l.filter (blW x y z t)) fun w hw=>by
  have:=Ql9 (h1 w (List.mem_filter.1 hw).1)
  rcases hg with rfl|rfl|rfl<;>omega
 have h4:=List.length_filter_le (blW x y z t) l
 unfold atW;omega
end Go.Dg
