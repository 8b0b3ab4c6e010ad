/-
  SM3 (merged for the claim).
-/
import Derived.Test.YtlpiamlgibomhaaGreatSM2
set_option linter.unusedSimpArgs false
set_option linter.unusedVariables false
namespace Go.Proofs.YtlpiamlgibomhaaGreat
open Go.Vl Go.RowKit Go.Dg
def i64 (x:Int):Prop:= -9223372036854775808≤x∧x≤9223372036854775807
def sgPV (s:Sg):PV:= .agg [.int .i64 s.f,.int .i64 s.t,.int .i64 s.o,Qan s.x,Qan s.y,Qan s.z]
attribute [go_sem] Qan sgPV
structure okSg (s:Sg):Prop where
 f:i64 s.f
 t:i64 s.t
 o:i64 s.o
 c: ∀c∈s.ax,∀x∈c,i64 x
 l: ∀c∈s.ax,c.length≤1000
theorem Qau {x:Int} (h:i64 x):x.natAbs<2^64:=by unfold i64 at h;have p64:(2:Nat)^64=18446744073709551616:=rfl;omega
theorem Q3z (s:Sg):Qag Tryz.prog 48 [sgPV s] (.agg [Qan s.x,Qan s.y,Qan s.z]):=by
 unfold sgPV
 refine Qac (tb:=[]) 10 [.cell 2 79] [0,1,2] mixed Tryz.func48 rfl (by kernel_rfl) (by kernel_rfl) (by kernel_rfl) (by kernel_rfl) ?_
 repeat (first|(simp -implicitDefEqProofs only [go_sem,Nat.reduceAdd,Nat.reduceMul,Nat.reduceEqDiff,Nat.reduceLT,Nat.reduceLeDiff,reduceCtorEq,Qan,List.map_cons,List.map_nil]))
theorem Q30 (s:Sg):Qag Tryz.prog 53 [sgPV s] (.slc [Qan s.x,Qan s.y,Qan s.z]):=by
 unfold sgPV
 refine Qac (tb:=[]) 10 [.tmp 2] [0,1,2] mixed Tryz.func53 rfl (by kernel_rfl) (by kernel_rfl) (by kernel_rfl) (by kernel_rfl) ?_
 repeat (first|(simp -implicitDefEqProofs only [go_sem,Nat.reduceAdd,Nat.reduceMul,Nat.reduceEqDiff,Nat.reduceLT,Nat.reduceLeDiff,reduceCtorEq,Qan,List.map_cons,List.map_nil]))
theorem Q31 (s:Sg) (i:Nat) (h:i<s.ax.length):([.slc (s.x.map (PV.int .i64)),.slc (s.y.map (PV.int .i64)),.slc (s.z.map (PV.int .i64))]:List PV)[i]? =some (.slc ((s.ax[i]).map (PV.int .i64))):=by
 show(s.ax.map Qan)[i]? =_
 rw [List.getElem?_map,List.getElem?_eq_getElem h];rfl
theorem Qs0 (s:Sg) (i:Nat) (h:i<s.ax.length):([.slc (s.x.map (PV.int .i64)),.slc (s.y.map (PV.int .i64)),.slc (s.z.map (PV.int .i64))]:List PV)[i*1]? =some (.slc ((s.ax[i]).map (PV.int .i64))):=by rw [Nat.mul_one,Q31 s i h]
theorem Zmi (x y:Int):(mB x==mB y)=decide (x.natAbs=y.natAbs):=by
 rw [Zed,Bool.eq_iff_iff,beq_iff_eq,decide_eq_true_eq]
 constructor
 ·intro h
  rw [←Qlb x,←Qlb y,h]
 ·intro h;unfold mB;rw [h]
theorem Qk9 (x y:Int):((decide (x<0)==decide (y<0))&&(mB x==mB y))=decide (x=y):=by
 rw [Zmi,Bool.eq_iff_iff,Bool.and_eq_true,beq_iff_eq,decide_eq_decide,decide_eq_true_eq,decide_eq_true_eq]
 omega
set_option maxHeartbeats 1000000 in
theorem Qon (s:Sg) (hs:okSg s):Qag Tryz.prog 13 [sgPV s] (.bool (Qa2 s)):=by
 obtain⟨⟨a1,a2⟩,⟨a3,a4⟩,⟨a5,a6⟩,hc,hl⟩:=hs
 by_cases g1:s.f<0
 ·have g1':=eq_true g1
  have e:Qa2 s=false:=by unfold Qa2 rngS;rw [decide_eq_false (by omega)];rfl
  unfold sgPV
  refine Qac (tb:=[]) 85 [.tmp 2] [0,1,2,3,5,7,32,37,38,39,69,70,71,72,73] mixed Tryz.func13 rfl (by kernel_rfl) (by kernel_rfl) (by kernel_rfl) (by kernel_rfl) ?_
  repeat (first|(simp -implicitDefEqProofs only [go_sem,Nat.reduceAdd,Nat.reduceMul,Nat.reduceEqDiff,Nat.reduceLT,Nat.reduceLeDiff,reduceCtorEq,g1',e])|(with_reducible exact Qaa _ _ (by kernel_rfl))|(with_reducible refine And.intro (Qaa _ _ (by kernel_rfl)) ?_))
 have g1':=eq_false g1
 by_cases g2:s.t≤s.f
 ·have g2':=eq_true g2
  have e:Qa2 s=false:=by unfold Qa2 rngS;rw [decide_eq_true (show 0≤s.f by omega),decide_eq_false (show¬s.f<s.t by omega)];rfl
  unfold sgPV
  refine Qac (tb:=[]) 85 [.tmp 2] [0,1,2,3,5,7,32,37,38,39,69,70,71,72,73] mixed Tryz.func13 rfl (by kernel_rfl) (by kernel_rfl) (by kernel_rfl) (by kernel_rfl) ?_
  repeat (first|(simp -implicitDefEqProofs only [go_sem,Nat.reduceAdd,Nat.reduceMul,Nat.reduceEqDiff,Nat.reduceLT,Nat.reduceLeDiff,reduceCtorEq,g1',g2',e])|(with_reducible exact Qaa _ _ (by kernel_rfl))|(with_reducible refine And.intro (Qaa _ _ (by kernel_rfl)) ?_))
 have g2':=eq_false g2
 by_cases g3:3600000<s.t
 ·have g3':=eq_true g3
  have e:Qa2 s=false:=by unfold Qa2 rngS;rw [decide_eq_true (show 0≤s.f by omega),decide_eq_true (show s.f<s.t by omega),decide_eq_false (show¬s.t≤3600000 by omega)];rfl
  unfold sgPV
  refine Qac (tb:=[]) 85 [.tmp 2] [0,1,2,3,5,7,32,37,38,39,69,70,71,72,73] mixed Tryz.func13 rfl (by kernel_rfl) (by kernel_rfl) (by kernel_rfl) (by kernel_rfl) ?_
  repeat (first|(simp -implicitDefEqProofs only [go_sem,Nat.reduceAdd,Nat.reduceMul,Nat.reduceEqDiff,Nat.reduceLT,Nat.reduceLeDiff,reduceCtorEq,g1',g2',g3',e])|(with_reducible exact Qaa _ _ (by kernel_rfl))|(with_reducible refine And.intro (Qaa _ _ (by kernel_rfl)) ?_))
 have g3':=eq_false g3
 by_cases g4:s.o<1
 ·have g4':=eq_true g4
  have e:Qa2 s=false:=by unfold Qa2 rngS;rw [decide_eq_true (show 0≤s.f by omega),decide_eq_true (show s.f<s.t by omega),decide_eq_true (show s.t≤3600000 by omega),decide_eq_false (show¬1≤s.o by omega)];rfl
  unfold sgPV
  refine Qac (tb:=[]) 85 [.tmp 2] [0,1,2,3,5,7,32,37,38,39,69,70,71,72,73] mixed Tryz.func13 rfl (by kernel_rfl) (by kernel_rfl) (by kernel_rfl) (by kernel_rfl) ?_
  repeat (first|(simp -implicitDefEqProofs only [go_sem,Nat.reduceAdd,Nat.reduceMul,Nat.reduceEqDiff,Nat.reduceLT,Nat.reduceLeDiff,reduceCtorEq,g1',g2',g3',g4',e])|(with_reducible exact Qaa _ _ (by kernel_rfl))|(with_reducible refine And.intro (Qaa _ _ (by kernel_rfl)) ?_))
 have g4':=eq_false g4
 by_cases g5:4294967296<s.o
 ·have g5':=eq_true g5
  have e:Qa2 s=false:=by unfold Qa2 rngS;rw [decide_eq_true (show 0≤s.f by omega),decide_eq_true (show s.f<s.t by omega),decide_eq_true (show s.t≤3600000 by omega),decide_eq_true (show 1≤s.o by omega),decide_eq_false (show¬s.o≤4294967296 by omega)];rfl
  unfold sgPV
  refine Qac (tb:=[]) 85 [.tmp 2] [0,1,2,3,5,7,32,37,38,39,69,70,71,72,73] mixed Tryz.func13 rfl (by kernel_rfl) (by kernel_rfl) (by kernel_rfl) (by kernel_rfl) ?_
  repeat (first|(simp -implicitDefEqProofs only [go_sem,Nat.reduceAdd,Nat.reduceMul,Nat.reduceEqDiff,Nat.reduceLT,Nat.reduceLeDiff,reduceCtorEq,g1',g2',g3',g4',g5',e])|(with_reducible exact Qaa _ _ (by kernel_rfl))|(with_reducible refine And.intro (Qaa _ _ (by kernel_rfl)) ?_))
 have g5':=eq_false g5
 have er:rngS s=true:=by unfold rngS;rw [decide_eq_true (show 0≤s.f by omega),decide_eq_true (show s.f<s.t by omega),decide_eq_true (show s.t≤3600000 by omega),decide_eq_true (show 1≤s.o by omega),decide_eq_true (show s.o≤4294967296 by omega)];rfl
 have w1:=Qen s.o a5 a6
 have hax:=Q3z s
 have hsg:sgPV s= .agg [.int .i64 s.f,.int .i64 s.t,.int .i64 s.o,.slc (s.x.map (PV.int .i64)),.slc (s.y.map (PV.int .i64)),.slc (s.z.map (PV.int .i64))]:=rfl
 rw [hsg]at hax ⊢
 have wone:=Qen 1 (by decide) (by decide)
 have hG: ∀i,((s.ax.take i).foldl gcdL s.o.natAbs)<2^64:=by
  intro i
  have: ∀(L:List (List Int)) (g:Nat),g<2^64→(∀c∈L,∀x∈c,x.natAbs<2^64)→L.foldl gcdL g<2^64:=by
   intro L
   induction L with
   |nil=>intro g hg _;exact hg
   |cons c L ih=>intro g hg h;exact ih _ (Qex c hg (h c (by simp))) fun c' hc'=>h c' (by simp [hc'])
  exact this _ _ (Qau ⟨a5,a6⟩) fun c hc' x hx=>Qau (hc c (List.mem_of_mem_take hc') x hx)
 refine Qac (tb:=[]) 85 [.tmp 2] [0,1,2,3,5,7,32,37,38,39,69,70,71,72,73] mixed Tryz.func13 rfl (by kernel_rfl) (by kernel_rfl) (by kernel_rfl) (by kernel_rfl) ?_
 repeat (first|(simp -implicitDefEqProofs only [go_sem,Nat.reduceAdd,Nat.reduceMul,Nat.reduceEqDiff,Nat.reduceLT,Nat.reduceLeDiff,reduceCtorEq,wPV,g1',g2',g3',g4',g5'])|((with_reducible refine Qab (w1) ?_ ?_ ?_);(with_reducible rfl);rfl)|((with_reducible refine Qab (hax) ?_ ?_ ?_);(with_reducible rfl);rfl)|(with_reducible exact Qaa _ _ (by kernel_rfl))|(with_reducible refine And.intro (Qaa _ _ (by kernel_rfl)) ?_))
 have z0:0≤3∧((s.ax.take 0).all fun c=>axOK c s.o)=true:=⟨Nat.zero_le _,rfl⟩
 refine Qas mixed (fun i:{i:Nat // i≤3∧((s.ax.take i).all fun c=>axOK c s.o)=true}=>St.of [(1,.bp 0 6 0 0),(2,.bool false),(3,.bp 303 2 0 0),(37,.agg [Qan s.x,Qan s.y,Qan s.z]),(38,.int .i64 (i.1:Int))]
  [(0,{els:=[sgPV s],esz:=6,ety:=24,fro:=0,live:=true,arr:=false}),(303,{els:=[wPV (((s.ax.take i.1).foldl gcdL s.o.natAbs:Nat):Int)],esz:=2,ety:=31,fro:=0,live:=true,arr:=false})]) (fun i=>3-i.1) ⟨0,z0⟩ ?_ ?_
 ·refine Qal (θ:=[(0,0),(303,303)]) rfl ?_ ?_
  ·simp [Qad,lkp,ren1,ren0,Qap,Qan]
  ·refine⟨⟨rfl,rfl,rfl,rfl,rfl,.inr ⟨rfl,_,_,rfl,rfl,rfl,rfl⟩⟩,⟨rfl,rfl,rfl,rfl,rfl,.inr ⟨rfl,_,_,rfl,rfl,?_,rfl⟩⟩,trivial⟩
   have:((((s.ax.take 0).foldl gcdL s.o.natAbs:Nat):Nat):Int)=s.o:=by simp;omega
   rw [this];rfl
 ·rintro⟨i,hi,hall⟩
  have hGi:=hG i
  by_cases hA:i<3
  ·have hA':((i:Int)<3)=True:=eq_true (by omega)
   have hA2:=ltT hA
   have h0:=nnT i
   have hx:=Qs0 s i hA
   have hwk:=Qaj (a:=i) (by omega)
   have hcx:=hc (s.ax[i]) (List.getElem_mem hA)
   have hlx:=hl (s.ax[i]) (List.getElem_mem hA)
   have htk:(s.ax.take (i+1)).all (fun c=>axOK c s.o)=axOK s.ax[i] s.o:=by rw [Qbl s.ax i hA,List.all_append,hall];simp
   have hbad:axOK s.ax[i] s.o=false→Qa2 s=false:=fun h=>by
    unfold Qa2;rw [Qs5 (p:=fun c=>axOK c s.o) (l:=s.ax) (i:=i) hA h];simp
   have hfd:(s.ax.take (i+1)).foldl gcdL s.o.natAbs=gcdL ((s.ax.take i).foldl gcdL s.o.natAbs) s.ax[i]:=by rw [Qbl s.ax i hA,List.foldl_append];rfl
   generalize hC:s.ax[i]=c at*
   generalize (s.ax.take i).foldl gcdL s.o.natAbs=G at*
   by_cases q1:c.length<1
   ·have q1':((c.length:Int)<1)=True:=eq_true (by omega)
    have e:=hbad (by unfold axOK Qj8;rw [decide_eq_false (show¬1≤c.length by omega)];rfl)
    repeat (first|(simp -implicitDefEqProofs only [go_sem,Nat.reduceAdd,Nat.reduceMul,Nat.reduceEqDiff,Nat.reduceLT,Nat.reduceLeDiff,reduceCtorEq,hA',hA2,h0,hx,hwk,Int.toNat_natCast,List.length_map,q1',e])|(with_reducible exact Qaa _ _ (by kernel_rfl))|(with_reducible refine And.intro (Qaa _ _ (by kernel_rfl)) ?_))
   have q1':((c.length:Int)<1)=False:=eq_false (by omega)
   by_cases q2:6<c.length
   ·have q2':((6:Int)<(c.length:Int))=True:=eq_true (by omega)
    have e:=hbad (by unfold axOK Qj8;rw [decide_eq_false (show¬c.length≤6 by omega)];simp)
    repeat (first|(simp -implicitDefEqProofs only [go_sem,Nat.reduceAdd,Nat.reduceMul,Nat.reduceEqDiff,Nat.reduceLT,Nat.reduceLeDiff,reduceCtorEq,hA',hA2,h0,hx,hwk,Int.toNat_natCast,List.length_map,q1',q2',e])|(with_reducible exact Qaa _ _ (by kernel_rfl))|(with_reducible refine And.intro (Qaa _ _ (by kernel_rfl)) ?_))
   have q2':((6:Int)<(c.length:Int))=False:=eq_false (by omega)
   have hbv:=Q3o c s.o (by omega) (by omega) hcx (by omega) (by omega)
   have hlt:c.length-1<c.length:=by omega
   have wl:=Qfd (n:=c.length) (by omega) (by omega)
   have hgl:=Qb2 c (c.length-1) hlt
   have n1:=nnT (c.length-1)
   have hl0:=Qb6 hlt
   -- the rest, behind the test of the last coefficient
   have rest:axOK c s.o=Qcw c s.o c.length→ ∀(t:Bool),Qcw c s.o c.length=t→True:=fun _ _ _=>trivial
   by_cases q3:1<c.length
   ·have q3':((1:Int)<(c.length:Int))=True:=eq_true (by omega)
    by_cases q4:c[c.length-1]=0
    ·have q4':(c[c.length-1]==0)=true:=by rw [q4];rfl
     have e:=hbad (by unfold axOK Qj8;rw [hl0,q4',decide_eq_false (show¬c.length≤1 by omega)];simp)
     repeat (first|(simp -implicitDefEqProofs only [go_sem,Nat.reduceAdd,Nat.reduceMul,Nat.reduceEqDiff,Nat.reduceLT,Nat.reduceLeDiff,reduceCtorEq,hA',hA2,h0,hx,hwk,Int.toNat_natCast,List.length_map,q1',q2',q3',q4',wl,n1,hgl,e])|(with_reducible exact Qaa _ _ (by kernel_rfl))|(with_reducible refine And.intro (Qaa _ _ (by kernel_rfl)) ?_))
    have q4':(c[c.length-1]==0)=false:=by simp only [beq_eq_false_iff_ne,ne_eq];exact q4
    have e1:axOK c s.o=Qcw c s.o c.length:=by unfold axOK Qj8;rw [hl0,q4',decide_eq_true (show 1≤c.length by omega),decide_eq_true (show c.length≤6 by omega)];simp
    cases hb:Qcw c s.o c.length with
    |false=>
     rw [hb]at hbv e1
     have e:=hbad e1
     repeat (first|(simp -implicitDefEqProofs only [go_sem,Nat.reduceAdd,Nat.reduceMul,Nat.reduceEqDiff,Nat.reduceLT,Nat.reduceLeDiff,reduceCtorEq,hA',hA2,h0,hx,hwk,Int.toNat_natCast,List.length_map,q1',q2',q3',q4',wl,n1,hgl,e])|((with_reducible refine Qab (hbv) ?_ ?_ ?_);(with_reducible rfl);rfl)|(with_reducible exact Qaa _ _ (by kernel_rfl))|(with_reducible refine And.intro (Qaa _ _ (by kernel_rfl)) ?_))
    |true=>
     rw [hb]at hbv e1
     repeat (first|(simp -implicitDefEqProofs only [go_sem,Nat.reduceAdd,Nat.reduceMul,Nat.reduceEqDiff,Nat.reduceLT,Nat.reduceLeDiff,reduceCtorEq,hA',hA2,h0,hx,hwk,Int.toNat_natCast,List.length_map,q1',q2',q3',q4',wl,n1,hgl])|((with_reducible refine Qab (hbv) ?_ ?_ ?_);(with_reducible rfl);rfl)|(with_reducible exact Qaa _ _ (by kernel_rfl))|(with_reducible refine And.intro (Qaa _ _ (by kernel_rfl)) ?_))
     refine Qas mixed (fun k:{k:Nat // k≤c.length}=>St.of [(1,.bp 0 6 0 0),(2,.bool false),(3,.bp 303 2 0 0),(37,.agg [Qan s.x,Qan s.y,Qan s.z]),(38,.int .i64 (i:Int)),(70,Qan c),(71,.int .i64 (c.length:Int)),(72,.int .i64 (k.1:Int))]
      [(0,{els:=[sgPV s],esz:=6,ety:=24,fro:=0,live:=true,arr:=false}),(303,{els:=[wPV ((gcdL G (c.take k.1):Nat):Int)],esz:=2,ety:=31,fro:=0,live:=true,arr:=false})]) (fun k=>c.length-k.1) ⟨0,Nat.zero_le _⟩ ?_ ?_
     ·refine Qal (θ:=[(0,0),(303,303)]) rfl ?_ ?_
      ·simp [Qad,lkp,ren1,ren0,Qap,Qan]
      ·exact⟨⟨rfl,rfl,rfl,rfl,rfl,.inr ⟨rfl,_,_,rfl,rfl,rfl,rfl⟩⟩,⟨rfl,rfl,rfl,rfl,rfl,.inr ⟨rfl,_,_,rfl,rfl,rfl,rfl⟩⟩,trivial⟩
     ·rintro⟨k,hk⟩
      by_cases hB:k<c.length
      ·have hB':=ltT hB
       have n0:=nnT k
       have hgk:=Qb2 c k hB
       have hwk2:=Qaj (a:=k) (by omega)
       obtain⟨k1,k2⟩:=hcx _ (List.getElem_mem hB)
       have o1:=Qen c[k] k1 k2
       have x1:=Qau (hcx _ (List.getElem_mem hB))
       have x2:((gcdL G (c.take k):Nat):Int).natAbs<2^64:=by rw [Int.natAbs_natCast];exact Qex _ hGi fun x hx=>Qau (hcx x (List.mem_of_mem_take hx))
       have m:=Qm9 (Qar x2 (by decide)) (Qar x1 (by decide))
       rw [Int.natAbs_natCast,←Qeg,←Qbl c k hB]at m
       generalize hX:gcdL G (c.take (k+1))=X at*
       generalize gcdL G (c.take k)=Y at*
       repeat (first|(simp -implicitDefEqProofs only [go_sem,Nat.reduceAdd,Nat.reduceMul,Nat.reduceEqDiff,Nat.reduceLT,Nat.reduceLeDiff,reduceCtorEq,hB',n0,hgk,hwk2,wPV,Int.toNat_natCast])|((with_reducible refine Qab (o1) ?_ ?_ ?_);(with_reducible rfl);rfl)|((with_reducible refine Qab (m) ?_ ?_ ?_);(with_reducible rfl);rfl)|(with_reducible exact Qaa _ _ (by kernel_rfl))|(with_reducible refine And.intro (Qaa _ _ (by kernel_rfl)) ?_))
       refine⟨⟨k+1,hB⟩,by simp only;omega,Qal (θ:=[(0,0),(303,303)]) rfl ?_ ?_⟩
       ·simp [Qad,lkp,ren1,ren0,Qap,Qan]
       ·simp only [hX]
        exact⟨⟨rfl,rfl,rfl,rfl,rfl,.inr ⟨rfl,_,_,rfl,rfl,rfl,rfl⟩⟩,⟨rfl,rfl,rfl,rfl,rfl,.inr ⟨rfl,_,_,rfl,rfl,rfl,rfl⟩⟩,trivial⟩
      ·have hB':=ltF hB
       obtain rfl:k=c.length:=by omega
       repeat (first|(simp -implicitDefEqProofs only [go_sem,Nat.reduceAdd,Nat.reduceMul,Nat.reduceEqDiff,Nat.reduceLT,Nat.reduceLeDiff,reduceCtorEq,hB',hwk])|(with_reducible exact Qaa _ _ (by kernel_rfl))|(with_reducible refine And.intro (Qaa _ _ (by kernel_rfl)) ?_))
       refine⟨⟨i+1,hA,by rw [htk];exact e1⟩,by simp only;omega,Qal (θ:=[(0,0),(303,303)]) rfl ?_ ?_⟩
       ·simp [Qad,lkp,ren1,ren0,Qap,Qan]
       ·simp only [hfd]
        rw [List.take_length]
        exact⟨⟨rfl,rfl,rfl,rfl,rfl,.inr ⟨rfl,_,_,rfl,rfl,rfl,rfl⟩⟩,⟨rfl,rfl,rfl,rfl,rfl,.inr ⟨rfl,_,_,rfl,rfl,rfl,rfl⟩⟩,trivial⟩
   ·have q3':((1:Int)<(c.length:Int))=False:=eq_false (by omega)
    have e1:axOK c s.o=Qcw c s.o c.length:=by unfold axOK Qj8;rw [decide_eq_true (show 1≤c.length by omega),decide_eq_true (show c.length≤6 by omega),decide_eq_true (show c.length≤1 by omega)];simp
    cases hb:Qcw c s.o c.length with
    |false=>
     rw [hb]at hbv e1
     have e:=hbad e1
     repeat (first|(simp -implicitDefEqProofs only [go_sem,Nat.reduceAdd,Nat.reduceMul,Nat.reduceEqDiff,Nat.reduceLT,Nat.reduceLeDiff,reduceCtorEq,hA',hA2,h0,hx,hwk,Int.toNat_natCast,List.length_map,q1',q2',q3',wl,n1,hgl,e])|((with_reducible refine Qab (hbv) ?_ ?_ ?_);(with_reducible rfl);rfl)|(with_reducible exact Qaa _ _ (by kernel_rfl))|(with_reducible refine And.intro (Qaa _ _ (by kernel_rfl)) ?_))
    |true=>
     rw [hb]at hbv e1
     repeat (first|(simp -implicitDefEqProofs only [go_sem,Nat.reduceAdd,Nat.reduceMul,Nat.reduceEqDiff,Nat.reduceLT,Nat.reduceLeDiff,reduceCtorEq,hA',hA2,h0,hx,hwk,Int.toNat_natCast,List.length_map,q1',q2',q3',wl,n1,hgl])|((with_reducible refine Qab (hbv) ?_ ?_ ?_);(with_reducible rfl);rfl)|(with_reducible exact Qaa _ _ (by kernel_rfl))|(with_reducible refine And.intro (Qaa _ _ (by kernel_rfl)) ?_))
     refine Qas mixed (fun k:{k:Nat // k≤c.length}=>St.of [(1,.bp 0 6 0 0),(2,.bool false),(3,.bp 303 2 0 0),(37,.agg [Qan s.x,Qan s.y,Qan s.z]),(38,.int .i64 (i:Int)),(70,Qan c),(71,.int .i64 (c.length:Int)),(72,.int .i64 (k.1:Int))]
      [(0,{els:=[sgPV s],esz:=6,ety:=24,fro:=0,live:=true,arr:=false}),(303,{els:=[wPV ((gcdL G (c.take k.1):Nat):Int)],esz:=2,ety:=31,fro:=0,live:=true,arr:=false})]) (fun k=>c.length-k.1) ⟨0,Nat.zero_le _⟩ ?_ ?_
     ·refine Qal (θ:=[(0,0),(303,303)]) rfl ?_ ?_
      ·simp [Qad,lkp,ren1,ren0,Qap,Qan]
      ·exact⟨⟨rfl,rfl,rfl,rfl,rfl,.inr ⟨rfl,_,_,rfl,rfl,rfl,rfl⟩⟩,⟨rfl,rfl,rfl,rfl,rfl,.inr ⟨rfl,_,_,rfl,rfl,rfl,rfl⟩⟩,trivial⟩
     ·rintro⟨k,hk⟩
      by_cases hB:k<c.length
      ·have hB':=ltT hB
       have n0:=nnT k
       have hgk:=Qb2 c k hB
       have hwk2:=Qaj (a:=k) (by omega)
       obtain⟨k1,k2⟩:=hcx _ (List.getElem_mem hB)
       have o1:=Qen c[k] k1 k2
       have x1:=Qau (hcx _ (List.getElem_mem hB))
       have x2:((gcdL G (c.take k):Nat):Int).natAbs<2^64:=by rw [Int.natAbs_natCast];exact Qex _ hGi fun x hx=>Qau (hcx x (List.mem_of_mem_take hx))
       have m:=Qm9 (Qar x2 (by decide)) (Qar x1 (by decide))
       rw [Int.natAbs_natCast,←Qeg,←Qbl c k hB]at m
       generalize hX:gcdL G (c.take (k+1))=X at*
       generalize gcdL G (c.take k)=Y at*
       repeat (first|(simp -implicitDefEqProofs only [go_sem,Nat.reduceAdd,Nat.reduceMul,Nat.reduceEqDiff,Nat.reduceLT,Nat.reduceLeDiff,reduceCtorEq,hB',n0,hgk,hwk2,wPV,Int.toNat_natCast])|((with_reducible refine Qab (o1) ?_ ?_ ?_);(with_reducible rfl);rfl)|((with_reducible refine Qab (m) ?_ ?_ ?_);(with_reducible rfl);rfl)|(with_reducible exact Qaa _ _ (by kernel_rfl))|(with_reducible refine And.intro (Qaa _ _ (by kernel_rfl)) ?_))
       refine⟨⟨k+1,hB⟩,by simp only;omega,Qal (θ:=[(0,0),(303,303)]) rfl ?_ ?_⟩
       ·simp [Qad,lkp,ren1,ren0,Qap,Qan]
       ·simp only [hX]
        exact⟨⟨rfl,rfl,rfl,rfl,rfl,.inr ⟨rfl,_,_,rfl,rfl,rfl,rfl⟩⟩,⟨rfl,rfl,rfl,rfl,rfl,.inr ⟨rfl,_,_,rfl,rfl,rfl,rfl⟩⟩,trivial⟩
      ·have hB':=ltF hB
       obtain rfl:k=c.length:=by omega
       repeat (first|(simp -implicitDefEqProofs only [go_sem,Nat.reduceAdd,Nat.reduceMul,Nat.reduceEqDiff,Nat.reduceLT,Nat.reduceLeDiff,reduceCtorEq,hB',hwk])|(with_reducible exact Qaa _ _ (by kernel_rfl))|(with_reducible refine And.intro (Qaa _ _ (by kernel_rfl)) ?_))
       refine⟨⟨i+1,hA,by rw [htk];exact e1⟩,by simp only;omega,Qal (θ:=[(0,0),(303,303)]) rfl ?_ ?_⟩
       ·simp [Qad,lkp,ren1,ren0,Qap,Qan]
       ·simp only [hfd]
        rw [List.take_length]
        exact⟨⟨rfl,rfl,rfl,rfl,rfl,.inr ⟨rfl,_,_,rfl,rfl,rfl,rfl⟩⟩,⟨rfl,rfl,rfl,rfl,rfl,.inr ⟨rfl,_,_,rfl,rfl,rfl,rfl⟩⟩,trivial⟩
  ·have hA':((i:Int)<3)=False:=eq_false (by omega)
   obtain rfl:i=3:=by omega
   have et:s.ax.take 3=s.ax:=rfl
   have e:Qa2 s=((s.ax.take 3).foldl gcdL s.o.natAbs==1):=by rw [et]at hall ⊢;unfold Qa2;rw [er,hall];simp
   rw [e]
   simp only
   generalize (s.ax.take 3).foldl gcdL s.o.natAbs=G at*
   repeat (first|(simp -implicitDefEqProofs only [go_sem,Nat.reduceAdd,Nat.reduceMul,Nat.reduceEqDiff,Nat.reduceLT,Nat.reduceLeDiff,Nat.reduceSub,reduceCtorEq,Int.reduceLT,hA',wPV])|((with_reducible refine Qab (wone) ?_ ?_ ?_);(with_reducible rfl);rfl)|(with_reducible exact Qaa _ _ (by kernel_rfl))|(with_reducible refine And.intro (Qaa _ _ (by kernel_rfl)) ?_))
   have h1:=Qk9 (G:Int) 1
   have h2:decide ((1:Int)<0)=false:=rfl
   rw [h2]at h1
   have h3:(decide ((G:Int)<0)==false)= !decide ((G:Int)<0):=by cases decide ((G:Int)<0)<;>rfl
   rw [h3]at h1
   rw [h1]
   congr 1
   rw [Bool.eq_iff_iff,decide_eq_true_eq,beq_iff_eq]
   omega
end Go.Proofs.YtlpiamlgibomhaaGreat
