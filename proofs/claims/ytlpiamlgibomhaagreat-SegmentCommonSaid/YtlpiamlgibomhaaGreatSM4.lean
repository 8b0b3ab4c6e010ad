/-
  SM3, SM4 (merged for the claim).
-/
import Derived.Test.YtlpiamlgibomhaaGreatSM2
set_option linter.unusedSimpArgs false
set_option linter.unusedVariables false
namespace Go.Proofs.YtlpiamlgibomhaaGreat
open Go.Vl Go.RowKit Go.Dg
def i64 (x:Int):Prop:= -9223372036854775808≤x∧x≤9223372036854775807
def sgPV (s:Sg):PV:= .agg [.int .i64 s.f,.int .i64 s.t,.int .i64 s.o,Qan s.x,Qan s.y,Qan s.z]
attribute [go_sem] Qan sgPV
structure okSg (s:Sg):Prop where
 f:i64 s.f
 t:i64 s.t
 o:i64 s.o
 c: ∀c∈s.ax,∀x∈c,i64 x
 l: ∀c∈s.ax,c.length≤1000
theorem Qav {x:Int} (h:i64 x):x.natAbs<2^64:=by unfold i64 at h;have p64:(2:Nat)^64=18446744073709551616:=rfl;omega
theorem Q2m (s:Sg):Qaf Tryz.prog 48 [sgPV s] (.agg [Qan s.x,Qan s.y,Qan s.z]):=by
 unfold sgPV
 refine Qac (tb:=[]) 10 [.cell 2 79] [0,1,2] mixed Tryz.func48 rfl (by kernel_rfl) (by kernel_rfl) (by kernel_rfl) (by kernel_rfl) ?_
 repeat (first|(simp -implicitDefEqProofs only [go_sem,Nat.reduceAdd,Nat.reduceMul,Nat.reduceEqDiff,Nat.reduceLT,Nat.reduceLeDiff,reduceCtorEq,Qan,List.map_cons,List.map_nil]))
theorem Qtu (s:Sg):Qaf Tryz.prog 53 [sgPV s] (.slc [Qan s.x,Qan s.y,Qan s.z]):=by
 unfold sgPV
 refine Qac (tb:=[]) 10 [.tmp 2] [0,1,2] mixed Tryz.func53 rfl (by kernel_rfl) (by kernel_rfl) (by kernel_rfl) (by kernel_rfl) ?_
 repeat (first|(simp -implicitDefEqProofs only [go_sem,Nat.reduceAdd,Nat.reduceMul,Nat.reduceEqDiff,Nat.reduceLT,Nat.reduceLeDiff,reduceCtorEq,Qan,List.map_cons,List.map_nil]))
theorem Q2n (s:Sg) (i:Nat) (h:i<s.ax.length):([.slc (s.x.map (PV.int .i64)),.slc (s.y.map (PV.int .i64)),.slc (s.z.map (PV.int .i64))]:List PV)[i]? =some (.slc ((s.ax[i]).map (PV.int .i64))):=by
 show(s.ax.map Qan)[i]? =_
 rw [List.getElem?_map,List.getElem?_eq_getElem h];rfl
theorem Qtv (s:Sg) (i:Nat) (h:i<s.ax.length):([.slc (s.x.map (PV.int .i64)),.slc (s.y.map (PV.int .i64)),.slc (s.z.map (PV.int .i64))]:List PV)[i*1]? =some (.slc ((s.ax[i]).map (PV.int .i64))):=by rw [Nat.mul_one,Q2n s i h]
theorem Zoj (x y:Int):(mB x==mB y)=decide (x.natAbs=y.natAbs):=by
 rw [Zg0,Bool.eq_iff_iff,beq_iff_eq,decide_eq_true_eq]
 constructor
 ·intro h
  rw [←Qmf x,←Qmf y,h]
 ·intro h;unfold mB;rw [h]
theorem Qmc (x y:Int):((decide (x<0)==decide (y<0))&&(mB x==mB y))=decide (x=y):=by
 rw [Zoj,Bool.eq_iff_iff,Bool.and_eq_true,beq_iff_eq,decide_eq_decide,decide_eq_true_eq,decide_eq_true_eq]
 omega
set_option maxHeartbeats 1000000 in
theorem Qwi (s:Sg) (hs:okSg s):Qaf Tryz.prog 13 [sgPV s] (.bool (Qa2 s)):=by
 obtain⟨⟨a1,a2⟩,⟨a3,a4⟩,⟨a5,a6⟩,hc,hl⟩:=hs
 by_cases g1:s.f<0
 ·have g1':=eq_true g1
  have e:Qa2 s=false:=by unfold Qa2 rngS;rw [decide_eq_false (by omega)];rfl
  unfold sgPV
  refine Qac (tb:=[]) 85 [.tmp 2] [0,1,2,3,5,7,32,37,38,39,69,70,71,72,73] mixed Tryz.func13 rfl (by kernel_rfl) (by kernel_rfl) (by kernel_rfl) (by kernel_rfl) ?_
  repeat (first|(simp -implicitDefEqProofs only [go_sem,Nat.reduceAdd,Nat.reduceMul,Nat.reduceEqDiff,Nat.reduceLT,Nat.reduceLeDiff,reduceCtorEq,g1',e])|(with_reducible exact Qaa _ _ (by kernel_rfl))|(with_reducible refine And.intro (Qaa _ _ (by kernel_rfl)) ?_))
 have g1':=eq_false g1
 by_cases g2:s.t≤s.f
 ·have g2':=eq_true g2
  have e:Qa2 s=false:=by unfold Qa2 rngS;rw [decide_eq_true (show 0≤s.f by omega),decide_eq_false (show¬s.f<s.t by omega)];rfl
  unfold sgPV
  refine Qac (tb:=[]) 85 [.tmp 2] [0,1,2,3,5,7,32,37,38,39,69,70,71,72,73] mixed Tryz.func13 rfl (by kernel_rfl) (by kernel_rfl) (by kernel_rfl) (by kernel_rfl) ?_
  repeat (first|(simp -implicitDefEqProofs only [go_sem,Nat.reduceAdd,Nat.reduceMul,Nat.reduceEqDiff,Nat.reduceLT,Nat.reduceLeDiff,reduceCtorEq,g1',g2',e])|(with_reducible exact Qaa _ _ (by kernel_rfl))|(with_reducible refine And.intro (Qaa _ _ (by kernel_rfl)) ?_))
 have g2':=eq_false g2
 by_cases g3:3600000<s.t
 ·have g3':=eq_true g3
  have e:Qa2 s=false:=by unfold Qa2 rngS;rw [decide_eq_true (show 0≤s.f by omega),decide_eq_true (show s.f<s.t by omega),decide_eq_false (show¬s.t≤3600000 by omega)];rfl
  unfold sgPV
  refine Qac (tb:=[]) 85 [.tmp 2] [0,1,2,3,5,7,32,37,38,39,69,70,71,72,73] mixed Tryz.func13 rfl (by kernel_rfl) (by kernel_rfl) (by kernel_rfl) (by kernel_rfl) ?_
  repeat (first|(simp -implicitDefEqProofs only [go_sem,Nat.reduceAdd,Nat.reduceMul,Nat.reduceEqDiff,Nat.reduceLT,Nat.reduceLeDiff,reduceCtorEq,g1',g2',g3',e])|(with_reducible exact Qaa _ _ (by kernel_rfl))|(with_reducible refine And.intro (Qaa _ _ (by kernel_rfl)) ?_))
 have g3':=eq_false g3
 by_cases g4:s.o<1
 ·have g4':=eq_true g4
  have e:Qa2 s=false:=by unfold Qa2 rngS;rw [decide_eq_true (show 0≤s.f by omega),decide_eq_true (show s.f<s.t by omega),decide_eq_true (show s.t≤3600000 by omega),decide_eq_false (show¬1≤s.o by omega)];rfl
  unfold sgPV
  refine Qac (tb:=[]) 85 [.tmp 2] [0,1,2,3,5,7,32,37,38,39,69,70,71,72,73] mixed Tryz.func13 rfl (by kernel_rfl) (by kernel_rfl) (by kernel_rfl) (by kernel_rfl) ?_
  repeat (first|(simp -implicitDefEqProofs only [go_sem,Nat.reduceAdd,Nat.reduceMul,Nat.reduceEqDiff,Nat.reduceLT,Nat.reduceLeDiff,reduceCtorEq,g1',g2',g3',g4',e])|(with_reducible exact Qaa _ _ (by kernel_rfl))|(with_reducible refine And.intro (Qaa _ _ (by kernel_rfl)) ?_))
 have g4':=eq_false g4
 by_cases g5:4294967296<s.o
 ·have g5':=eq_true g5
  have e:Qa2 s=false:=by unfold Qa2 rngS;rw [decide_eq_true (show 0≤s.f by omega),decide_eq_true (show s.f<s.t by omega),decide_eq_true (show s.t≤3600000 by omega),decide_eq_true (show 1≤s.o by omega),decide_eq_false (show¬s.o≤4294967296 by omega)];rfl
  unfold sgPV
  refine Qac (tb:=[]) 85 [.tmp 2] [0,1,2,3,5,7,32,37,38,39,69,70,71,72,73] mixed Tryz.func13 rfl (by kernel_rfl) (by kernel_rfl) (by kernel_rfl) (by kernel_rfl) ?_
  repeat (first|(simp -implicitDefEqProofs only [go_sem,Nat.reduceAdd,Nat.reduceMul,Nat.reduceEqDiff,Nat.reduceLT,Nat.reduceLeDiff,reduceCtorEq,g1',g2',g3',g4',g5',e])|(with_reducible exact Qaa _ _ (by kernel_rfl))|(with_reducible refine And.intro (Qaa _ _ (by kernel_rfl)) ?_))
 have g5':=eq_false g5
 have er:rngS s=true:=by unfold rngS;rw [decide_eq_true (show 0≤s.f by omega),decide_eq_true (show s.f<s.t by omega),decide_eq_true (show s.t≤3600000 by omega),decide_eq_true (show 1≤s.o by omega),decide_eq_true (show s.o≤4294967296 by omega)];rfl
 have w1:=Qe7 s.o a5 a6
 have hax:=Q2m s
 have hsg:sgPV s= .agg [.int .i64 s.f,.int .i64 s.t,.int .i64 s.o,.slc (s.x.map (PV.int .i64)),.slc (s.y.map (PV.int .i64)),.slc (s.z.map (PV.int .i64))]:=rfl
 rw [hsg]at hax ⊢
 have wone:=Qe7 1 (by decide) (by decide)
 have hG: ∀i,((s.ax.take i).foldl gcdL s.o.natAbs)<2^64:=by
  intro i
  have: ∀(L:List (List Int)) (g:Nat),g<2^64→(∀c∈L,∀x∈c,x.natAbs<2^64)→L.foldl gcdL g<2^64:=by
   intro L
   induction L with
   |nil=>intro g hg _;exact hg
   |cons c L ih=>intro g hg h;exact ih _ (Qea c hg (h c (by simp))) fun c' hc'=>h c' (by simp [hc'])
  exact this _ _ (Qav ⟨a5,a6⟩) fun c hc' x hx=>Qav (hc c (List.mem_of_mem_take hc') x hx)
 refine Qac (tb:=[]) 85 [.tmp 2] [0,1,2,3,5,7,32,37,38,39,69,70,71,72,73] mixed Tryz.func13 rfl (by kernel_rfl) (by kernel_rfl) (by kernel_rfl) (by kernel_rfl) ?_
 repeat (first|(simp -implicitDefEqProofs only [go_sem,Nat.reduceAdd,Nat.reduceMul,Nat.reduceEqDiff,Nat.reduceLT,Nat.reduceLeDiff,reduceCtorEq,wPV,g1',g2',g3',g4',g5'])|((with_reducible refine Qab (w1) ?_ ?_ ?_);(with_reducible rfl);rfl)|((with_reducible refine Qab (hax) ?_ ?_ ?_);(with_reducible rfl);rfl)|(with_reducible exact Qaa _ _ (by kernel_rfl))|(with_reducible refine And.intro (Qaa _ _ (by kernel_rfl)) ?_))
 have z0:0≤3∧((s.ax.take 0).all fun c=>axOK c s.o)=true:=⟨Nat.zero_le _,rfl⟩
 refine Qao mixed (fun i:{i:Nat // i≤3∧((s.ax.take i).all fun c=>axOK c s.o)=true}=>St.of [(1,.bp 0 6 0 0),(2,.bool false),(3,.bp 303 2 0 0),(37,.agg [Qan s.x,Qan s.y,Qan s.z]),(38,.int .i64 (i.1:Int))]
  [(0,{els:=[sgPV s],esz:=6,ety:=24,fro:=0,live:=true,arr:=false}),(303,{els:=[wPV (((s.ax.take i.1).foldl gcdL s.o.natAbs:Nat):Int)],esz:=2,ety:=31,fro:=0,live:=true,arr:=false})]) (fun i=>3-i.1) ⟨0,z0⟩ ?_ ?_
 ·refine Qaj (θ:=[(0,0),(303,303)]) rfl ?_ ?_
  ·simp [Qad,lkp,ren1,ren0,Qam,Qan]
  ·refine⟨⟨rfl,rfl,rfl,rfl,rfl,.inr ⟨rfl,_,_,rfl,rfl,rfl,rfl⟩⟩,⟨rfl,rfl,rfl,rfl,rfl,.inr ⟨rfl,_,_,rfl,rfl,?_,rfl⟩⟩,trivial⟩
   have:((((s.ax.take 0).foldl gcdL s.o.natAbs:Nat):Nat):Int)=s.o:=by simp;omega
   rw [this];rfl
 ·rintro⟨i,hi,hall⟩
  have hGi:=hG i
  by_cases hA:i<3
  ·have hA':((i:Int)<3)=True:=eq_true (by omega)
   have hA2:=ltT hA
   have h0:=nnT i
   have hx:=Qtv s i hA
   have hwk:=Qah (a:=i) (by omega)
   have hcx:=hc (s.ax[i]) (List.getElem_mem hA)
   have hlx:=hl (s.ax[i]) (List.getElem_mem hA)
   have htk:(s.ax.take (i+1)).all (fun c=>axOK c s.o)=axOK s.ax[i] s.o:=by rw [Qbb s.ax i hA,List.all_append,hall];simp
   have hbad:axOK s.ax[i] s.o=false→Qa2 s=false:=fun h=>by
    unfold Qa2;rw [Qtz (p:=fun c=>axOK c s.o) (l:=s.ax) (i:=i) hA h];simp
   have hfd:(s.ax.take (i+1)).foldl gcdL s.o.natAbs=gcdL ((s.ax.take i).foldl gcdL s.o.natAbs) s.ax[i]:=by rw [Qbb s.ax i hA,List.foldl_append];rfl
   generalize hC:s.ax[i]=c at*
   generalize (s.ax.take i).foldl gcdL s.o.natAbs=G at*
   by_cases q1:c.length<1
   ·have q1':((c.length:Int)<1)=True:=eq_true (by omega)
    have e:=hbad (by unfold axOK Qk0;rw [decide_eq_false (show¬1≤c.length by omega)];rfl)
    repeat (first|(simp -implicitDefEqProofs only [go_sem,Nat.reduceAdd,Nat.reduceMul,Nat.reduceEqDiff,Nat.reduceLT,Nat.reduceLeDiff,reduceCtorEq,hA',hA2,h0,hx,hwk,Int.toNat_natCast,List.length_map,q1',e])|(with_reducible exact Qaa _ _ (by kernel_rfl))|(with_reducible refine And.intro (Qaa _ _ (by kernel_rfl)) ?_))
   have q1':((c.length:Int)<1)=False:=eq_false (by omega)
   by_cases q2:6<c.length
   ·have q2':((6:Int)<(c.length:Int))=True:=eq_true (by omega)
    have e:=hbad (by unfold axOK Qk0;rw [decide_eq_false (show¬c.length≤6 by omega)];simp)
    repeat (first|(simp -implicitDefEqProofs only [go_sem,Nat.reduceAdd,Nat.reduceMul,Nat.reduceEqDiff,Nat.reduceLT,Nat.reduceLeDiff,reduceCtorEq,hA',hA2,h0,hx,hwk,Int.toNat_natCast,List.length_map,q1',q2',e])|(with_reducible exact Qaa _ _ (by kernel_rfl))|(with_reducible refine And.intro (Qaa _ _ (by kernel_rfl)) ?_))
   have q2':((6:Int)<(c.length:Int))=False:=eq_false (by omega)
   have hbv:=Q2c c s.o (by omega) (by omega) hcx (by omega) (by omega)
   have hlt:c.length-1<c.length:=by omega
   have wl:=Qdh (n:=c.length) (by omega) (by omega)
   have hgl:=Qbx c (c.length-1) hlt
   have n1:=nnT (c.length-1)
   have hl0:=Qb1 hlt
   -- the rest, behind the test of the last coefficient
   have rest:axOK c s.o=Qc6 c s.o c.length→ ∀(t:Bool),Qc6 c s.o c.length=t→True:=fun _ _ _=>trivial
   by_cases q3:1<c.length
   ·have q3':((1:Int)<(c.length:Int))=True:=eq_true (by omega)
    by_cases q4:c[c.length-1]=0
    ·have q4':(c[c.length-1]==0)=true:=by rw [q4];rfl
     have e:=hbad (by unfold axOK Qk0;rw [hl0,q4',decide_eq_false (show¬c.length≤1 by omega)];simp)
     repeat (first|(simp -implicitDefEqProofs only [go_sem,Nat.reduceAdd,Nat.reduceMul,Nat.reduceEqDiff,Nat.reduceLT,Nat.reduceLeDiff,reduceCtorEq,hA',hA2,h0,hx,hwk,Int.toNat_natCast,List.length_map,q1',q2',q3',q4',wl,n1,hgl,e])|(with_reducible exact Qaa _ _ (by kernel_rfl))|(with_reducible refine And.intro (Qaa _ _ (by kernel_rfl)) ?_))
    have q4':(c[c.length-1]==0)=false:=by simp only [beq_eq_false_iff_ne,ne_eq];exact q4
    have e1:axOK c s.o=Qc6 c s.o c.length:=by unfold axOK Qk0;rw [hl0,q4',decide_eq_true (show 1≤c.length by omega),decide_eq_true (show c.length≤6 by omega)];simp
    cases hb:Qc6 c s.o c.length with
    |false=>
     rw [hb]at hbv e1
     have e:=hbad e1
     repeat (first|(simp -implicitDefEqProofs only [go_sem,Nat.reduceAdd,Nat.reduceMul,Nat.reduceEqDiff,Nat.reduceLT,Nat.reduceLeDiff,reduceCtorEq,hA',hA2,h0,hx,hwk,Int.toNat_natCast,List.length_map,q1',q2',q3',q4',wl,n1,hgl,e])|((with_reducible refine Qab (hbv) ?_ ?_ ?_);(with_reducible rfl);rfl)|(with_reducible exact Qaa _ _ (by kernel_rfl))|(with_reducible refine And.intro (Qaa _ _ (by kernel_rfl)) ?_))
    |true=>
     rw [hb]at hbv e1
     repeat (first|(simp -implicitDefEqProofs only [go_sem,Nat.reduceAdd,Nat.reduceMul,Nat.reduceEqDiff,Nat.reduceLT,Nat.reduceLeDiff,reduceCtorEq,hA',hA2,h0,hx,hwk,Int.toNat_natCast,List.length_map,q1',q2',q3',q4',wl,n1,hgl])|((with_reducible refine Qab (hbv) ?_ ?_ ?_);(with_reducible rfl);rfl)|(with_reducible exact Qaa _ _ (by kernel_rfl))|(with_reducible refine And.intro (Qaa _ _ (by kernel_rfl)) ?_))
     refine Qao mixed (fun k:{k:Nat // k≤c.length}=>St.of [(1,.bp 0 6 0 0),(2,.bool false),(3,.bp 303 2 0 0),(37,.agg [Qan s.x,Qan s.y,Qan s.z]),(38,.int .i64 (i:Int)),(70,Qan c),(71,.int .i64 (c.length:Int)),(72,.int .i64 (k.1:Int))]
      [(0,{els:=[sgPV s],esz:=6,ety:=24,fro:=0,live:=true,arr:=false}),(303,{els:=[wPV ((gcdL G (c.take k.1):Nat):Int)],esz:=2,ety:=31,fro:=0,live:=true,arr:=false})]) (fun k=>c.length-k.1) ⟨0,Nat.zero_le _⟩ ?_ ?_
     ·refine Qaj (θ:=[(0,0),(303,303)]) rfl ?_ ?_
      ·simp [Qad,lkp,ren1,ren0,Qam,Qan]
      ·exact⟨⟨rfl,rfl,rfl,rfl,rfl,.inr ⟨rfl,_,_,rfl,rfl,rfl,rfl⟩⟩,⟨rfl,rfl,rfl,rfl,rfl,.inr ⟨rfl,_,_,rfl,rfl,rfl,rfl⟩⟩,trivial⟩
     ·rintro⟨k,hk⟩
      by_cases hB:k<c.length
      ·have hB':=ltT hB
       have n0:=nnT k
       have hgk:=Qbx c k hB
       have hwk2:=Qah (a:=k) (by omega)
       obtain⟨k1,k2⟩:=hcx _ (List.getElem_mem hB)
       have o1:=Qe7 c[k] k1 k2
       have x1:=Qav (hcx _ (List.getElem_mem hB))
       have x2:((gcdL G (c.take k):Nat):Int).natAbs<2^64:=by rw [Int.natAbs_natCast];exact Qea _ hGi fun x hx=>Qav (hcx x (List.mem_of_mem_take hx))
       have m:=Qod (Qau x2 (by decide)) (Qau x1 (by decide))
       rw [Int.natAbs_natCast,←Qd2,←Qbb c k hB]at m
       generalize hX:gcdL G (c.take (k+1))=X at*
       generalize gcdL G (c.take k)=Y at*
       repeat (first|(simp -implicitDefEqProofs only [go_sem,Nat.reduceAdd,Nat.reduceMul,Nat.reduceEqDiff,Nat.reduceLT,Nat.reduceLeDiff,reduceCtorEq,hB',n0,hgk,hwk2,wPV,Int.toNat_natCast])|((with_reducible refine Qab (o1) ?_ ?_ ?_);(with_reducible rfl);rfl)|((with_reducible refine Qab (m) ?_ ?_ ?_);(with_reducible rfl);rfl)|(with_reducible exact Qaa _ _ (by kernel_rfl))|(with_reducible refine And.intro (Qaa _ _ (by kernel_rfl)) ?_))
       refine⟨⟨k+1,hB⟩,by simp only;omega,Qaj (θ:=[(0,0),(303,303)]) rfl ?_ ?_⟩
       ·simp [Qad,lkp,ren1,ren0,Qam,Qan]
       ·simp only [hX]
        exact⟨⟨rfl,rfl,rfl,rfl,rfl,.inr ⟨rfl,_,_,rfl,rfl,rfl,rfl⟩⟩,⟨rfl,rfl,rfl,rfl,rfl,.inr ⟨rfl,_,_,rfl,rfl,rfl,rfl⟩⟩,trivial⟩
      ·have hB':=ltF hB
       obtain rfl:k=c.length:=by omega
       repeat (first|(simp -implicitDefEqProofs only [go_sem,Nat.reduceAdd,Nat.reduceMul,Nat.reduceEqDiff,Nat.reduceLT,Nat.reduceLeDiff,reduceCtorEq,hB',hwk])|(with_reducible exact Qaa _ _ (by kernel_rfl))|(with_reducible refine And.intro (Qaa _ _ (by kernel_rfl)) ?_))
       refine⟨⟨i+1,hA,by rw [htk];exact e1⟩,by simp only;omega,Qaj (θ:=[(0,0),(303,303)]) rfl ?_ ?_⟩
       ·simp [Qad,lkp,ren1,ren0,Qam,Qan]
       ·simp only [hfd]
        rw [List.take_length]
        exact⟨⟨rfl,rfl,rfl,rfl,rfl,.inr ⟨rfl,_,_,rfl,rfl,rfl,rfl⟩⟩,⟨rfl,rfl,rfl,rfl,rfl,.inr ⟨rfl,_,_,rfl,rfl,rfl,rfl⟩⟩,trivial⟩
   ·have q3':((1:Int)<(c.length:Int))=False:=eq_false (by omega)
    have e1:axOK c s.o=Qc6 c s.o c.length:=by unfold axOK Qk0;rw [decide_eq_true (show 1≤c.length by omega),decide_eq_true (show c.length≤6 by omega),decide_eq_true (show c.length≤1 by omega)];simp
    cases hb:Qc6 c s.o c.length with
    |false=>
     rw [hb]at hbv e1
     have e:=hbad e1
     repeat (first|(simp -implicitDefEqProofs only [go_sem,Nat.reduceAdd,Nat.reduceMul,Nat.reduceEqDiff,Nat.reduceLT,Nat.reduceLeDiff,reduceCtorEq,hA',hA2,h0,hx,hwk,Int.toNat_natCast,List.length_map,q1',q2',q3',wl,n1,hgl,e])|((with_reducible refine Qab (hbv) ?_ ?_ ?_);(with_reducible rfl);rfl)|(with_reducible exact Qaa _ _ (by kernel_rfl))|(with_reducible refine And.intro (Qaa _ _ (by kernel_rfl)) ?_))
    |true=>
     rw [hb]at hbv e1
     repeat (first|(simp -implicitDefEqProofs only [go_sem,Nat.reduceAdd,Nat.reduceMul,Nat.reduceEqDiff,Nat.reduceLT,Nat.reduceLeDiff,reduceCtorEq,hA',hA2,h0,hx,hwk,Int.toNat_natCast,List.length_map,q1',q2',q3',wl,n1,hgl])|((with_reducible refine Qab (hbv) ?_ ?_ ?_);(with_reducible rfl);rfl)|(with_reducible exact Qaa _ _ (by kernel_rfl))|(with_reducible refine And.intro (Qaa _ _ (by kernel_rfl)) ?_))
     refine Qao mixed (fun k:{k:Nat // k≤c.length}=>St.of [(1,.bp 0 6 0 0),(2,.bool false),(3,.bp 303 2 0 0),(37,.agg [Qan s.x,Qan s.y,Qan s.z]),(38,.int .i64 (i:Int)),(70,Qan c),(71,.int .i64 (c.length:Int)),(72,.int .i64 (k.1:Int))]
      [(0,{els:=[sgPV s],esz:=6,ety:=24,fro:=0,live:=true,arr:=false}),(303,{els:=[wPV ((gcdL G (c.take k.1):Nat):Int)],esz:=2,ety:=31,fro:=0,live:=true,arr:=false})]) (fun k=>c.length-k.1) ⟨0,Nat.zero_le _⟩ ?_ ?_
     ·refine Qaj (θ:=[(0,0),(303,303)]) rfl ?_ ?_
      ·simp [Qad,lkp,ren1,ren0,Qam,Qan]
      ·exact⟨⟨rfl,rfl,rfl,rfl,rfl,.inr ⟨rfl,_,_,rfl,rfl,rfl,rfl⟩⟩,⟨rfl,rfl,rfl,rfl,rfl,.inr ⟨rfl,_,_,rfl,rfl,rfl,rfl⟩⟩,trivial⟩
     ·rintro⟨k,hk⟩
      by_cases hB:k<c.length
      ·have hB':=ltT hB
       have n0:=nnT k
       have hgk:=Qbx c k hB
       have hwk2:=Qah (a:=k) (by omega)
       obtain⟨k1,k2⟩:=hcx _ (List.getElem_mem hB)
       have o1:=Qe7 c[k] k1 k2
       have x1:=Qav (hcx _ (List.getElem_mem hB))
       have x2:((gcdL G (c.take k):Nat):Int).natAbs<2^64:=by rw [Int.natAbs_natCast];exact Qea _ hGi fun x hx=>Qav (hcx x (List.mem_of_mem_take hx))
       have m:=Qod (Qau x2 (by decide)) (Qau x1 (by decide))
       rw [Int.natAbs_natCast,←Qd2,←Qbb c k hB]at m
       generalize hX:gcdL G (c.take (k+1))=X at*
       generalize gcdL G (c.take k)=Y at*
       repeat (first|(simp -implicitDefEqProofs only [go_sem,Nat.reduceAdd,Nat.reduceMul,Nat.reduceEqDiff,Nat.reduceLT,Nat.reduceLeDiff,reduceCtorEq,hB',n0,hgk,hwk2,wPV,Int.toNat_natCast])|((with_reducible refine Qab (o1) ?_ ?_ ?_);(with_reducible rfl);rfl)|((with_reducible refine Qab (m) ?_ ?_ ?_);(with_reducible rfl);rfl)|(with_reducible exact Qaa _ _ (by kernel_rfl))|(with_reducible refine And.intro (Qaa _ _ (by kernel_rfl)) ?_))
       refine⟨⟨k+1,hB⟩,by simp only;omega,Qaj (θ:=[(0,0),(303,303)]) rfl ?_ ?_⟩
       ·simp [Qad,lkp,ren1,ren0,Qam,Qan]
       ·simp only [hX]
        exact⟨⟨rfl,rfl,rfl,rfl,rfl,.inr ⟨rfl,_,_,rfl,rfl,rfl,rfl⟩⟩,⟨rfl,rfl,rfl,rfl,rfl,.inr ⟨rfl,_,_,rfl,rfl,rfl,rfl⟩⟩,trivial⟩
      ·have hB':=ltF hB
       obtain rfl:k=c.length:=by omega
       repeat (first|(simp -implicitDefEqProofs only [go_sem,Nat.reduceAdd,Nat.reduceMul,Nat.reduceEqDiff,Nat.reduceLT,Nat.reduceLeDiff,reduceCtorEq,hB',hwk])|(with_reducible exact Qaa _ _ (by kernel_rfl))|(with_reducible refine And.intro (Qaa _ _ (by kernel_rfl)) ?_))
       refine⟨⟨i+1,hA,by rw [htk];exact e1⟩,by simp only;omega,Qaj (θ:=[(0,0),(303,303)]) rfl ?_ ?_⟩
       ·simp [Qad,lkp,ren1,ren0,Qam,Qan]
       ·simp only [hfd]
        rw [List.take_length]
        exact⟨⟨rfl,rfl,rfl,rfl,rfl,.inr ⟨rfl,_,_,rfl,rfl,rfl,rfl⟩⟩,⟨rfl,rfl,rfl,rfl,rfl,.inr ⟨rfl,_,_,rfl,rfl,rfl,rfl⟩⟩,trivial⟩
  ·have hA':((i:Int)<3)=False:=eq_false (by omega)
   obtain rfl:i=3:=by omega
   have et:s.ax.take 3=s.ax:=rfl
   have e:Qa2 s=((s.ax.take 3).foldl gcdL s.o.natAbs==1):=by rw [et]at hall ⊢;unfold Qa2;rw [er,hall];simp
   rw [e]
   simp only
   generalize (s.ax.take 3).foldl gcdL s.o.natAbs=G at*
   repeat (first|(simp -implicitDefEqProofs only [go_sem,Nat.reduceAdd,Nat.reduceMul,Nat.reduceEqDiff,Nat.reduceLT,Nat.reduceLeDiff,Nat.reduceSub,reduceCtorEq,Int.reduceLT,hA',wPV])|((with_reducible refine Qab (wone) ?_ ?_ ?_);(with_reducible rfl);rfl)|(with_reducible exact Qaa _ _ (by kernel_rfl))|(with_reducible refine And.intro (Qaa _ _ (by kernel_rfl)) ?_))
   have h1:=Qmc (G:Int) 1
   have h2:decide ((1:Int)<0)=false:=rfl
   rw [h2]at h1
   have h3:(decide ((G:Int)<0)==false)= !decide ((G:Int)<0):=by cases decide ((G:Int)<0)<;>rfl
   rw [h3]at h1
   rw [h1]
   congr 1
   rw [Bool.eq_iff_iff,decide_eq_true_eq,beq_iff_eq]
   omega
end Go.Proofs.YtlpiamlgibomhaaGreat

namespace Go.Proofs.YtlpiamlgibomhaaGreat
open Go.Vl Go.RowKit Go.Dg
theorem Qrq (n k:Nat) (hk:k≤n) (hn:n≤50):Qaf Tryz.prog 96 [.int .i64 (n:Int),.int .i64 (k:Int)] (.int .i64 (bin n k:Int)):=by
 refine Qac (tb:=[]) 21 [.tmp 4] [0,1,4,5,6,9] mixed Tryz.func96 rfl (by kernel_rfl) (by kernel_rfl) (by kernel_rfl) (by kernel_rfl) ?_
 simp -implicitDefEqProofs only [go_sem,Nat.reduceAdd,Nat.reduceMul,Nat.reduceEqDiff,Nat.reduceLT,Nat.reduceLeDiff,reduceCtorEq]
 refine Qao mixed (fun i:{i:Nat // i≤k}=>St.of [(0,.int .i64 (n:Int)),(1,.int .i64 (k:Int)),(5,.int .i64 (bin n i.1:Int)),(6,.int .i64 (i.1:Int))] []) (fun i=>k-i.1) ⟨0,Nat.zero_le _⟩ ?_ ?_
 ·exact Qaz (by simp [Qad,lkp,ren1,ren0,Qfs])
 ·rintro⟨i,hi⟩
  by_cases hA:i<k
  ·have hA':=ltT hA
   have hwk:=Qah (a:=i) (by omega)
   have w1:=Qp4 (a:=n) (b:=i) (by omega) (by omega)
   have hb:=Qrv (n:=n) (i:=i) (m:=n-i) hn (by omega)
   have w2:IntKind.i64.wrap ((bin n i:Int)*((n-i:Nat):Int))=((bin n i*(n-i):Nat):Int):=by rw [←Int.natCast_mul];exact wrapn hb
   have e:bin n i*(n-i)/(i+1)=bin n (i+1):=by rw [Q05 (by omega),Nat.mul_div_cancel _ (Nat.succ_pos i)]
   have t:=Qp6 (bin n i*(n-i)) (i+1)
   rw [e]at t
   have hz:=ne0 i
   have w3:IntKind.i64.wrap (bin n (i+1):Int)=(bin n (i+1):Int):=wrapn (by have:=Qrv (n:=n) (i:=i+1) (m:=1) hn (by decide);omega)
   simp -implicitDefEqProofs only [go_sem,Nat.reduceAdd,Nat.reduceMul,Nat.reduceEqDiff,Nat.reduceLT,Nat.reduceLeDiff,reduceCtorEq,hA',hwk,w1,w2,hz,t,w3]
   exact⟨⟨i+1,hA⟩,by simp only;omega,Qaz (by simp [Qad,lkp,ren1,ren0])⟩
  ·have hA':=ltF hA
   obtain rfl:i=k:=by omega
   simp -implicitDefEqProofs only [go_sem,Nat.reduceAdd,Nat.reduceMul,Nat.reduceEqDiff,Nat.reduceLT,Nat.reduceLeDiff,reduceCtorEq,hA']
def ctls (c:List Int) (j:Nat):List Int:=(List.range j).map (ctl c)
theorem Q2q (c:List Int) (j:Nat):ctls c (j+1)=ctls c j++[ctl c j]:=by simp [ctls,List.range_succ]
theorem Qpz (c:List Int) (j:Nat):(ctls c j).length=j:=by simp [ctls]
theorem Qwl (c:List Int) (j i:Nat) (h:i<(ctls c j).length):(ctls c j)[i]=ctl c i:=by simp [ctls]
theorem Qtw (c:List Int) (h1:1≤c.length) (h6:c.length≤6) (hc: ∀x∈c,i64 x):Qaf Tryz.prog 54 [Qan c] (rL (ctls c c.length)):=by
 have hcb:bd 64 c:=fun x hx=>Qav (hc x hx)
 have wl:=Qdh (n:=c.length) (by omega) (by omega)
 refine Qac (tb:=[]) 44 [.tmp 2] [0,2,3,4,5,6,7,13,19] mixed Tryz.func54 rfl (by kernel_rfl) (by kernel_rfl) (by kernel_rfl) (by kernel_rfl) ?_
 repeat (first|(simp -implicitDefEqProofs only [go_sem,Nat.reduceAdd,Nat.reduceMul,Nat.reduceEqDiff,Nat.reduceLT,Nat.reduceLeDiff,reduceCtorEq,List.length_map,wl])|(with_reducible exact Qaa _ _ (by kernel_rfl))|(with_reducible refine And.intro (Qaa _ _ (by kernel_rfl)) ?_))
 refine Qao mixed (fun j:{j:Nat // j≤c.length}=>St.of [(0,Qan c),(3,.int .i64 ((c.length-1:Nat):Int)),(4,.bs 7 2 0 j.1),(5,.int .i64 (j.1:Int))]
  [(7,{els:=(ctls c j.1).map rI,esz:=2,ety:=44,fro:=0,live:=true,arr:=true})]) (fun j=>c.length-j.1) ⟨0,Nat.zero_le _⟩ ?_ ?_
 ·refine Qco 4 7 2 44 rfl rfl rfl (by decide) [(7,7)] rfl ?_ ?_
  ·simp [Qad,lkp,ren1,ren0,Qam,Qan]
  ·simp [Qal,lkp,Box.renames,ctls]
 ·rintro⟨j,hj⟩
  have hlen:((ctls c j).map rI).length=j:=by rw [List.length_map,Qpz]
  by_cases hA:j<c.length
  ·have hA':=leT (show j≤c.length-1 by omega)
   have hwk:=Qah (a:=j) (by omega)
   repeat (first|(simp -implicitDefEqProofs only [go_sem,Nat.reduceAdd,Nat.reduceMul,Nat.reduceEqDiff,Nat.reduceLT,Nat.reduceLeDiff,reduceCtorEq,hA',hwk])|(with_reducible exact Qaa _ _ (by kernel_rfl))|(with_reducible refine And.intro (Qaa _ _ (by kernel_rfl)) ?_))
   refine Qao mixed (fun k:{k:Nat // k≤j+1}=>St.of [(0,Qan c),(3,.int .i64 ((c.length-1:Nat):Int)),(4,.bs 7 2 0 j),(5,.int .i64 (j:Int)),(6,.bp 601 2 0 0),(7,.int .i64 (k.1:Int))]
    [(7,{els:=(ctls c j).map rI,esz:=2,ety:=44,fro:=0,live:=true,arr:=true}),(601,{els:=[rI (sm (fun k=>c.getD k 0*(cw (c.length-1) j k:Int)) k.1)],esz:=2,ety:=44,fro:=0,live:=true,arr:=false})]) (fun k=>j+1-k.1) ⟨0,Nat.zero_le _⟩ ?_ ?_
   ·refine Le.trans (Qnw 601 rfl) (Qaj (θ:=[(7,7),(601,601)]) rfl ?_ ?_)
    ·simp [Qad,lkp,ren1,ren0,Qam,Qan]
    ·refine⟨⟨rfl,rfl,rfl,rfl,rfl,.inl ⟨rfl,rfl⟩⟩,⟨rfl,rfl,rfl,rfl,rfl,.inr ⟨rfl,_,_,rfl,rfl,?_,rfl⟩⟩,trivial⟩
     simp only [sm,rI_z];rfl
   ·rintro⟨k,hk⟩
    by_cases hB:k<j+1
    ·have hB':=leT (show k≤j by omega)
     have hkc:k<c.length:=by omega
     have h0:=nnT k
     have hg:=Qbx c k hkc
     have hwk2:=Qah (a:=k) (by omega)
     have g1:=Qrq (c.length-1) k (by omega) (by omega)
     have g2:=Qrq j k (by omega) (by omega)
     have hb0:((bin (c.length-1) k:Int)=0)=False:=eq_false (by have:=Qta (n:=c.length-1) (k:=k) (by omega);omega)
     have t1:Int.tdiv 60 (bin (c.length-1) k:Int)=((60/bin (c.length-1) k:Nat):Int):=Qp6 60 _
     have d60:60/bin (c.length-1) k≤60:=Nat.div_le_self _ _
     have wk1:IntKind.i64.wrap ((60/bin (c.length-1) k:Nat):Int)=((60/bin (c.length-1) k:Nat):Int):=wrapn (by omega)
     have hcw:=Zhq (c.length-1) j k (by omega)
     have ecw:((60/bin (c.length-1) k:Nat):Int)*(bin j k:Int)=(cw (c.length-1) j k:Int):=by rw [cw,Int.natCast_mul]
     have wk2:IntKind.i64.wrap (cw (c.length-1) j k:Int)=(cw (c.length-1) j k:Int):=wrapn (by omega)
     obtain⟨k1,k2⟩:=hc _ (List.getElem_mem hkc)
     have o1:=Qc1 c[k] k1 k2
     have o2:=Qc1 (cw (c.length-1) j k:Int) (by omega) (by omega)
     have x1:(c[k]).natAbs<2^64:=hcb _ (List.getElem_mem hkc)
     have x2:(cw (c.length-1) j k:Int).natAbs<2^11:=by rw [Int.natAbs_natCast];omega
     have m2:=Qe3 (Qbc x1 (by decide)) (Qbc x2 (by decide))
     have y1:=Qg8 (n:=c.length-1) (j:=j) hcb (by omega) k (by omega)
     have es:sm (fun k=>c.getD k 0*(cw (c.length-1) j k:Int)) (k+1)=sm (fun k=>c.getD k 0*(cw (c.length-1) j k:Int)) k+c[k]*(cw (c.length-1) j k:Int):=by simp only [sm];rw [Qb1 hkc]
     have a1:=Qol (Qbc y1 (by decide)) (Qbc (Qgq x1 x2) (by decide))
     rw [←es]at a1
     generalize hX:sm (fun k=>c.getD k 0*(cw (c.length-1) j k:Int)) (k+1)=X at*
     generalize sm (fun k=>c.getD k 0*(cw (c.length-1) j k:Int)) k=Y at*
     generalize c[k]*(cw (c.length-1) j k:Int)=Z at*
     generalize (cw (c.length-1) j k:Int)=V at*
     repeat (first|(simp -implicitDefEqProofs only [go_sem,Nat.reduceAdd,Nat.reduceMul,Nat.reduceEqDiff,Nat.reduceLT,Nat.reduceLeDiff,reduceCtorEq,rI,di,hB',h0,hg,hwk2,hb0,t1,wk1,ecw,wk2,Int.toNat_natCast,List.length_map])|((with_reducible refine Qab (o1) ?_ ?_ ?_);(with_reducible rfl);rfl)|((with_reducible refine Qab (g1) ?_ ?_ ?_);(with_reducible rfl);rfl)|((with_reducible refine Qab (g2) ?_ ?_ ?_);(with_reducible rfl);rfl)|((with_reducible refine Qab (o2) ?_ ?_ ?_);(with_reducible rfl);rfl)|((with_reducible refine Qab (m2) ?_ ?_ ?_);(with_reducible rfl);rfl)|((with_reducible refine Qab (a1) ?_ ?_ ?_);(with_reducible rfl);rfl)|(with_reducible exact Qaa _ _ (by kernel_rfl))|(with_reducible refine And.intro (Qaa _ _ (by kernel_rfl)) ?_))
     refine⟨⟨k+1,hB⟩,by simp only;omega,Qaj (θ:=[(7,7),(601,601)]) rfl ?_ ?_⟩
     ·simp [Qad,lkp,ren1,ren0,Qam,Qan]
     ·simp only [hX]
      exact⟨⟨rfl,rfl,rfl,rfl,rfl,.inl ⟨rfl,rfl⟩⟩,⟨rfl,rfl,rfl,rfl,rfl,.inr ⟨rfl,_,_,rfl,rfl,rfl,rfl⟩⟩,trivial⟩
    ·have hB':=leF (show¬k≤j by omega)
     obtain rfl:k=j+1:=by omega
     have ec:sm (fun k=>c.getD k 0*(cw (c.length-1) j k:Int)) (j+1)=ctl c j:=rfl
     simp only [ec]
     have q1:(j==j)=true:=beq_self_eq_true j
     have q2:((j+1)*32≤140737488355328)=True:=eq_true (by omega)
     have q3:(j+1≤maxLen)=True:=eq_true (by unfold maxLen;omega)
     have htk:(ctls c (j+1)).map rI=(ctls c j).map rI++[rI (ctl c j)]:=by rw [Q2q,List.map_append];rfl
     generalize ctl c j=X at*
     repeat (first|(simp -implicitDefEqProofs only [go_sem,Nat.reduceAdd,Nat.reduceMul,Nat.reduceEqDiff,Nat.reduceLT,Nat.reduceLeDiff,reduceCtorEq,Nat.reduceBneDiff,rI,di,hB',hlen,q1,q2,q3,Qmh,hwk])|(with_reducible exact Qaa _ _ (by kernel_rfl))|(with_reducible refine And.intro (Qaa _ _ (by kernel_rfl)) ?_))
     refine⟨⟨j+1,hA⟩,by simp only;omega,Qaj (θ:=[(7,1103)]) rfl ?_ ?_⟩
     ·simp [Qad,lkp,ren1,ren0,Qam,Qan]
     ·simp only [htk]
      simp [Qal,lkp,Box.renames,rI,di]
  ·have hA':=leF (show¬j≤c.length-1 by omega)
   obtain rfl:j=c.length:=by omega
   have e1:((ctls c c.length).map rI).take c.length=(ctls c c.length).map rI:=List.take_of_length_le (by omega)
   repeat (first|(simp -implicitDefEqProofs only [go_sem,Nat.reduceAdd,Nat.reduceMul,Nat.reduceEqDiff,Nat.reduceLT,Nat.reduceLeDiff,reduceCtorEq,hA',hlen,e1,rL])|(with_reducible exact Qaa _ _ (by kernel_rfl))|(with_reducible refine And.intro (Qaa _ _ (by kernel_rfl)) ?_))
theorem Qrr {v M:Int}:(((v.natAbs:Nat):Int)≤M)↔ ¬(M<v)∧ ¬(v< -M):=by omega
set_option maxHeartbeats 1000000 in
theorem Q2r (s:Sg) (hs:okSg s):Qaf Tryz.prog 14 [sgPV s] (.bool (Qa2 s)):=by
 obtain⟨⟨a1,a2⟩,⟨a3,a4⟩,⟨a5,a6⟩,hc,hl⟩:=hs
 by_cases g1:s.f<0
 ·have g1':=eq_true g1
  have e:Qa2 s=false:=by unfold Qa2 rngS;rw [decide_eq_false (by omega)];rfl
  unfold sgPV
  refine Qac (tb:=[]) 111 [.tmp 2] [0,1,2,3,4,5,6,7,8,9,34,46,74,80,106] mixed Tryz.func14 rfl (by kernel_rfl) (by kernel_rfl) (by kernel_rfl) (by kernel_rfl) ?_
  repeat (first|(simp -implicitDefEqProofs only [go_sem,Nat.reduceAdd,Nat.reduceMul,Nat.reduceEqDiff,Nat.reduceLT,Nat.reduceLeDiff,reduceCtorEq,g1',e])|(with_reducible exact Qaa _ _ (by kernel_rfl))|(with_reducible refine And.intro (Qaa _ _ (by kernel_rfl)) ?_))
 have g1':=eq_false g1
 by_cases g2:s.t≤s.f
 ·have g2':=eq_true g2
  have e:Qa2 s=false:=by unfold Qa2 rngS;rw [decide_eq_true (show 0≤s.f by omega),decide_eq_false (show¬s.f<s.t by omega)];rfl
  unfold sgPV
  refine Qac (tb:=[]) 111 [.tmp 2] [0,1,2,3,4,5,6,7,8,9,34,46,74,80,106] mixed Tryz.func14 rfl (by kernel_rfl) (by kernel_rfl) (by kernel_rfl) (by kernel_rfl) ?_
  repeat (first|(simp -implicitDefEqProofs only [go_sem,Nat.reduceAdd,Nat.reduceMul,Nat.reduceEqDiff,Nat.reduceLT,Nat.reduceLeDiff,reduceCtorEq,g1',g2',e])|(with_reducible exact Qaa _ _ (by kernel_rfl))|(with_reducible refine And.intro (Qaa _ _ (by kernel_rfl)) ?_))
 have g2':=eq_false g2
 by_cases g3:3600000<s.t
 ·have g3':=eq_true g3
  have e:Qa2 s=false:=by unfold Qa2 rngS;rw [decide_eq_true (show 0≤s.f by omega),decide_eq_true (show s.f<s.t by omega),decide_eq_false (show¬s.t≤3600000 by omega)];rfl
  unfold sgPV
  refine Qac (tb:=[]) 111 [.tmp 2] [0,1,2,3,4,5,6,7,8,9,34,46,74,80,106] mixed Tryz.func14 rfl (by kernel_rfl) (by kernel_rfl) (by kernel_rfl) (by kernel_rfl) ?_
  repeat (first|(simp -implicitDefEqProofs only [go_sem,Nat.reduceAdd,Nat.reduceMul,Nat.reduceEqDiff,Nat.reduceLT,Nat.reduceLeDiff,reduceCtorEq,g1',g2',g3',e])|(with_reducible exact Qaa _ _ (by kernel_rfl))|(with_reducible refine And.intro (Qaa _ _ (by kernel_rfl)) ?_))
 have g3':=eq_false g3
 by_cases g4:s.o<1
 ·have g4':=eq_true g4
  have e:Qa2 s=false:=by unfold Qa2 rngS;rw [decide_eq_true (show 0≤s.f by omega),decide_eq_true (show s.f<s.t by omega),decide_eq_true (show s.t≤3600000 by omega),decide_eq_false (show¬1≤s.o by omega)];rfl
  unfold sgPV
  refine Qac (tb:=[]) 111 [.tmp 2] [0,1,2,3,4,5,6,7,8,9,34,46,74,80,106] mixed Tryz.func14 rfl (by kernel_rfl) (by kernel_rfl) (by kernel_rfl) (by kernel_rfl) ?_
  repeat (first|(simp -implicitDefEqProofs only [go_sem,Nat.reduceAdd,Nat.reduceMul,Nat.reduceEqDiff,Nat.reduceLT,Nat.reduceLeDiff,reduceCtorEq,g1',g2',g3',g4',e])|(with_reducible exact Qaa _ _ (by kernel_rfl))|(with_reducible refine And.intro (Qaa _ _ (by kernel_rfl)) ?_))
 have g4':=eq_false g4
 by_cases g5:4294967296<s.o
 ·have g5':=eq_true g5
  have e:Qa2 s=false:=by unfold Qa2 rngS;rw [decide_eq_true (show 0≤s.f by omega),decide_eq_true (show s.f<s.t by omega),decide_eq_true (show s.t≤3600000 by omega),decide_eq_true (show 1≤s.o by omega),decide_eq_false (show¬s.o≤4294967296 by omega)];rfl
  unfold sgPV
  refine Qac (tb:=[]) 111 [.tmp 2] [0,1,2,3,4,5,6,7,8,9,34,46,74,80,106] mixed Tryz.func14 rfl (by kernel_rfl) (by kernel_rfl) (by kernel_rfl) (by kernel_rfl) ?_
  repeat (first|(simp -implicitDefEqProofs only [go_sem,Nat.reduceAdd,Nat.reduceMul,Nat.reduceEqDiff,Nat.reduceLT,Nat.reduceLeDiff,reduceCtorEq,g1',g2',g3',g4',g5',e])|(with_reducible exact Qaa _ _ (by kernel_rfl))|(with_reducible refine And.intro (Qaa _ _ (by kernel_rfl)) ?_))
 have g5':=eq_false g5
 have er:rngS s=true:=by unfold rngS;rw [decide_eq_true (show 0≤s.f by omega),decide_eq_true (show s.f<s.t by omega),decide_eq_true (show s.t≤3600000 by omega),decide_eq_true (show 1≤s.o by omega),decide_eq_true (show s.o≤4294967296 by omega)];rfl
 have w1:=Qc1 s.o a5 a6
 have w2:=Qc1 62914560 (by decide) (by decide)
 have hax:=Qtu s
 have hsg:sgPV s= .agg [.int .i64 s.f,.int .i64 s.t,.int .i64 s.o,.slc (s.x.map (PV.int .i64)),.slc (s.y.map (PV.int .i64)),.slc (s.z.map (PV.int .i64))]:=rfl
 rw [hsg]at hax ⊢
 have wone:=Qc1 1 (by decide) (by decide)
 have hG: ∀i,((s.ax.take i).foldl gcdL s.o.natAbs)<2^64:=by
  intro i
  have: ∀(L:List (List Int)) (g:Nat),g<2^64→(∀c∈L,∀x∈c,x.natAbs<2^64)→L.foldl gcdL g<2^64:=by
   intro L
   induction L with
   |nil=>intro g hg _;exact hg
   |cons c L ih=>intro g hg h;exact ih _ (Qea c hg (h c (by simp))) fun c' hc'=>h c' (by simp [hc'])
  exact this _ _ (Qav ⟨a5,a6⟩) fun c hc' x hx=>Qav (hc c (List.mem_of_mem_take hc') x hx)
 have bm:(62914560*s.o).natAbs<2^(64+64):=Qgq (show(62914560:Int).natAbs<2^64 by decide) (Qav ⟨a5,a6⟩)
 have m1:=Qe3 (Qbc (show(62914560:Int).natAbs<2^64 by decide) (by decide)) (Qbc (Qav ⟨a5,a6⟩) (by decide))
 have ng:=Zgh (62914560*s.o)
 have hbt: ∀c j,Qc6 c s.o (j+1)=(Qc6 c s.o j&&decide (((ctl c j).natAbs:Int)≤62914560*s.o)):=fun c j=>Qfi c s.o j
 generalize hM:62914560*s.o=M at*
 refine Qac (tb:=[]) 111 [.tmp 2] [0,1,2,3,4,5,6,7,8,9,34,46,74,80,106] mixed Tryz.func14 rfl (by kernel_rfl) (by kernel_rfl) (by kernel_rfl) (by kernel_rfl) ?_
 repeat (first|(simp -implicitDefEqProofs only [go_sem,Nat.reduceAdd,Nat.reduceMul,Nat.reduceEqDiff,Nat.reduceLT,Nat.reduceLeDiff,reduceCtorEq,Int.reduceLT,rI,di,g1',g2',g3',g4',g5'])|((with_reducible refine Qab (w1) ?_ ?_ ?_);(with_reducible rfl);rfl)|((with_reducible refine Qab (w2) ?_ ?_ ?_);(with_reducible rfl);rfl)|((with_reducible refine Qab (m1) ?_ ?_ ?_);(with_reducible rfl);rfl)|((with_reducible refine Qab (hax) ?_ ?_ ?_);(with_reducible rfl);rfl)|(with_reducible exact Qaa _ _ (by kernel_rfl))|(with_reducible refine And.intro (Qaa _ _ (by kernel_rfl)) ?_))
 have z0:0≤3∧((s.ax.take 0).all fun c=>axOK c s.o)=true:=⟨Nat.zero_le _,rfl⟩
 refine Qao mixed (fun i:{i:Nat // i≤3∧((s.ax.take i).all fun c=>axOK c s.o)=true}=>St.of [(1,.bp 0 6 0 0),(2,.bool false),(3,.bp 303 2 0 0),(4,.bp 405 2 0 0),(5,.slc [Qan s.x,Qan s.y,Qan s.z]),(6,.int .i64 (i.1:Int))]
  [(0,{els:=[sgPV s],esz:=6,ety:=24,fro:=0,live:=true,arr:=false}),(303,{els:=[rI (((s.ax.take i.1).foldl gcdL s.o.natAbs:Nat):Int)],esz:=2,ety:=44,fro:=0,live:=true,arr:=false}),(405,{els:=[rI M],esz:=2,ety:=44,fro:=0,live:=true,arr:=false})]) (fun i=>3-i.1) ⟨0,z0⟩ ?_ ?_
 ·refine Qaj (θ:=[(0,0),(303,303),(405,405)]) rfl ?_ ?_
  ·simp [Qad,lkp,ren1,ren0,Qam,Qan]
  ·refine⟨⟨rfl,rfl,rfl,rfl,rfl,.inr ⟨rfl,_,_,rfl,rfl,rfl,rfl⟩⟩,⟨rfl,rfl,rfl,rfl,rfl,.inr ⟨rfl,_,_,rfl,rfl,?_,rfl⟩⟩,⟨rfl,rfl,rfl,rfl,rfl,.inr ⟨rfl,_,_,rfl,rfl,rfl,rfl⟩⟩,trivial⟩
   have:((((s.ax.take 0).foldl gcdL s.o.natAbs:Nat):Nat):Int)=s.o:=by simp;omega
   rw [this];rfl
 ·rintro⟨i,hi,hall⟩
  have hGi:=hG i
  by_cases hA:i<3
  ·have hA':((i:Int)<3)=True:=eq_true (by omega)
   have h0:=nnT i
   have hx:=Q2n s i hA
   have hwk:=Qah (a:=i) (by omega)
   have hcx:=hc (s.ax[i]) (List.getElem_mem hA)
   have hlx:=hl (s.ax[i]) (List.getElem_mem hA)
   have htk:(s.ax.take (i+1)).all (fun c=>axOK c s.o)=axOK s.ax[i] s.o:=by rw [Qbb s.ax i hA,List.all_append,hall];simp
   have hbad:axOK s.ax[i] s.o=false→Qa2 s=false:=fun h=>by
    unfold Qa2;rw [Qtz (p:=fun c=>axOK c s.o) (l:=s.ax) (i:=i) hA h];simp
   have hfd:(s.ax.take (i+1)).foldl gcdL s.o.natAbs=gcdL ((s.ax.take i).foldl gcdL s.o.natAbs) s.ax[i]:=by rw [Qbb s.ax i hA,List.foldl_append];rfl
   generalize hC:s.ax[i]=c at*
   generalize (s.ax.take i).foldl gcdL s.o.natAbs=G at*
   have hcb:bd 64 c:=fun x hx=>Qav (hcx x hx)
   by_cases q1:c.length<1
   ·have q1':((c.length:Int)<1)=True:=eq_true (by omega)
    have e:=hbad (by unfold axOK Qk0;rw [decide_eq_false (show¬1≤c.length by omega)];rfl)
    repeat (first|(simp -implicitDefEqProofs only [go_sem,Nat.reduceAdd,Nat.reduceMul,Nat.reduceEqDiff,Nat.reduceLT,Nat.reduceLeDiff,reduceCtorEq,hA',h0,hx,hwk,Int.toNat_natCast,List.length_map,q1',e])|(with_reducible exact Qaa _ _ (by kernel_rfl))|(with_reducible refine And.intro (Qaa _ _ (by kernel_rfl)) ?_))
   have q1':((c.length:Int)<1)=False:=eq_false (by omega)
   by_cases q2:6<c.length
   ·have q2':((6:Int)<(c.length:Int))=True:=eq_true (by omega)
    have e:=hbad (by unfold axOK Qk0;rw [decide_eq_false (show¬c.length≤6 by omega)];simp)
    repeat (first|(simp -implicitDefEqProofs only [go_sem,Nat.reduceAdd,Nat.reduceMul,Nat.reduceEqDiff,Nat.reduceLT,Nat.reduceLeDiff,reduceCtorEq,hA',h0,hx,hwk,Int.toNat_natCast,List.length_map,q1',q2',e])|(with_reducible exact Qaa _ _ (by kernel_rfl))|(with_reducible refine And.intro (Qaa _ _ (by kernel_rfl)) ?_))
   have q2':((6:Int)<(c.length:Int))=False:=eq_false (by omega)
   have hct:=Qtw c (by omega) (by omega) hcx
   unfold rL at hct
   have hlt:c.length-1<c.length:=by omega
   have wl:=Qdh (n:=c.length) (by omega) (by omega)
   have hgl:=Qbx c (c.length-1) hlt
   have n1:=nnT (c.length-1)
   have hl0:=Qb1 hlt
   by_cases q3:1<c.length
   ·have q3':((1:Int)<(c.length:Int))=True:=eq_true (by omega)
    by_cases q4:c[c.length-1]=0
    ·have q4':(c[c.length-1]==0)=true:=by rw [q4];rfl
     have e:=hbad (by unfold axOK Qk0;rw [hl0,q4',decide_eq_false (show¬c.length≤1 by omega)];simp)
     repeat (first|(simp -implicitDefEqProofs only [go_sem,Nat.reduceAdd,Nat.reduceMul,Nat.reduceEqDiff,Nat.reduceLT,Nat.reduceLeDiff,reduceCtorEq,hA',h0,hx,hwk,Int.toNat_natCast,List.length_map,q1',q2',q3',q4',wl,n1,hgl,e])|(with_reducible exact Qaa _ _ (by kernel_rfl))|(with_reducible refine And.intro (Qaa _ _ (by kernel_rfl)) ?_))
    have q4':(c[c.length-1]==0)=false:=by simp only [beq_eq_false_iff_ne,ne_eq];exact q4
    have e1:axOK c s.o=Qc6 c s.o c.length:=by unfold axOK Qk0;rw [hl0,q4',decide_eq_true (show 1≤c.length by omega),decide_eq_true (show c.length≤6 by omega)];simp
    repeat (first|(simp -implicitDefEqProofs only [go_sem,Nat.reduceAdd,Nat.reduceMul,Nat.reduceEqDiff,Nat.reduceLT,Nat.reduceLeDiff,reduceCtorEq,hA',h0,hx,hwk,Int.toNat_natCast,List.length_map,q1',q2',q3',q4',wl,n1,hgl])|((with_reducible refine Qab (hct) ?_ ?_ ?_);(with_reducible rfl);rfl)|(with_reducible exact Qaa _ _ (by kernel_rfl))|(with_reducible refine And.intro (Qaa _ _ (by kernel_rfl)) ?_))
    have z1:0≤c.length∧Qc6 c s.o 0=true:=⟨Nat.zero_le _,rfl⟩
    refine Qao mixed (fun k:{k:Nat // k≤c.length∧Qc6 c s.o k=true}=>St.of [(1,.bp 0 6 0 0),(2,.bool false),(3,.bp 303 2 0 0),(4,.bp 405 2 0 0),(5,.slc [Qan s.x,Qan s.y,Qan s.z]),(6,.int .i64 (i:Int)),(7,Qan c),(8,.slc ((ctls c c.length).map rI)),(9,.int .i64 (k.1:Int))]
     [(0,{els:=[sgPV s],esz:=6,ety:=24,fro:=0,live:=true,arr:=false}),(303,{els:=[rI ((gcdL G (c.take k.1):Nat):Int)],esz:=2,ety:=44,fro:=0,live:=true,arr:=false}),(405,{els:=[rI M],esz:=2,ety:=44,fro:=0,live:=true,arr:=false})]) (fun k=>c.length-k.1) ⟨0,z1⟩ ?_ ?_
    ·refine Qaj (θ:=[(0,0),(303,303),(405,405)]) rfl ?_ ?_
     ·simp [Qad,lkp,ren1,ren0,Qam,Qan]
     ·exact⟨⟨rfl,rfl,rfl,rfl,rfl,.inr ⟨rfl,_,_,rfl,rfl,rfl,rfl⟩⟩,⟨rfl,rfl,rfl,rfl,rfl,.inr ⟨rfl,_,_,rfl,rfl,rfl,rfl⟩⟩,⟨rfl,rfl,rfl,rfl,rfl,.inr ⟨rfl,_,_,rfl,rfl,rfl,rfl⟩⟩,trivial⟩
    ·rintro⟨k,hk,hbk⟩
     by_cases hB:k<c.length
     ·have hB':=ltT hB
      have n0:=nnT k
      have hgk:=Qbx c k hB
      have hwk2:=Qah (a:=k) (by omega)
      obtain⟨k1,k2⟩:=hcx _ (List.getElem_mem hB)
      have o1:=Qc1 c[k] k1 k2
      have x1:=Qav (hcx _ (List.getElem_mem hB))
      have x2:((gcdL G (c.take k):Nat):Int).natAbs<2^64:=by rw [Int.natAbs_natCast];exact Qea _ hGi fun x hx=>Qav (hcx x (List.mem_of_mem_take hx))
      have m:=Qrw (Qbc x2 (by decide)) (Qbc x1 (by decide))
      rw [Int.natAbs_natCast,←Qd2,←Qbb c k hB]at m
      have hgv:=Qkj (ctls c c.length) k (by rw [Qpz];exact hB)
      rw [Qwl]at hgv
      have y3:(ctl c k).natAbs<2^(64+11+7):=Qg8 (n:=c.length-1) (j:=k) hcb (by omega) (k+1) (by omega)
      have cm1:=Qeu (Qbc y3 (by decide)) (Qbc bm (by decide))
      have cm2:=Qeu (Qbc y3 (by decide)) (Qbc (Zgv bm) (by decide))
      have hbk1:=hbt c k
      rw [hbk,Bool.true_and]at hbk1
      have hsp:=Qrr (v:=ctl c k) (M:=M)
      have eb:Qc6 c s.o (k+1)=false→Qa2 s=false:=fun h=>hbad (e1.trans (Qpm h hB))
      generalize hX:gcdL G (c.take (k+1))=X at*
      generalize gcdL G (c.take k)=Y at*
      generalize ctl c k=V at*
      by_cases p1:M<V
      ·have p1':((0:Int)<(V-M).sign)=True:=eq_true (Int.sign_pos_iff.2 (by omega))
       have e:=eb (by rw [hbk1];exact decide_eq_false fun h=>(hsp.1 h).1 p1)
       repeat (first|(simp -implicitDefEqProofs only [go_sem,Nat.reduceAdd,Nat.reduceMul,Nat.reduceEqDiff,Nat.reduceLT,Nat.reduceLeDiff,reduceCtorEq,List.length_map,hB',n0,hgk,hgv,rI,di,Int.toNat_natCast,p1',e])|((with_reducible refine Qab (o1) ?_ ?_ ?_);(with_reducible rfl);rfl)|((with_reducible refine Qab (m) ?_ ?_ ?_);(with_reducible rfl);rfl)|((with_reducible refine Qab (cm1) ?_ ?_ ?_);(with_reducible rfl);rfl)|(with_reducible exact Qaa _ _ (by kernel_rfl))|(with_reducible refine And.intro (Qaa _ _ (by kernel_rfl)) ?_))
      ·have p1':((0:Int)<(V-M).sign)=False:=eq_false (by have:=Int.sign_nonpos_iff.2 (show V-M≤0 by omega);omega)
       by_cases p2:V< -M
       ·have p2':((V- -M).sign<0)=True:=eq_true (Int.sign_neg_iff.2 (by omega))
        have e:=eb (by rw [hbk1];exact decide_eq_false fun h=>(hsp.1 h).2 p2)
        repeat (first|(simp -implicitDefEqProofs only [go_sem,Nat.reduceAdd,Nat.reduceMul,Nat.reduceEqDiff,Nat.reduceLT,Nat.reduceLeDiff,reduceCtorEq,List.length_map,hB',n0,hgk,hgv,rI,di,Int.toNat_natCast,p1',p2',e])|((with_reducible refine Qab (o1) ?_ ?_ ?_);(with_reducible rfl);rfl)|((with_reducible refine Qab (m) ?_ ?_ ?_);(with_reducible rfl);rfl)|((with_reducible refine Qab (cm1) ?_ ?_ ?_);(with_reducible rfl);rfl)|((with_reducible refine Qab (ng) ?_ ?_ ?_);(with_reducible rfl);rfl)|((with_reducible refine Qab (cm2) ?_ ?_ ?_);(with_reducible rfl);rfl)|(with_reducible exact Qaa _ _ (by kernel_rfl))|(with_reducible refine And.intro (Qaa _ _ (by kernel_rfl)) ?_))
       ·have p2':((V- -M).sign<0)=False:=eq_false (by have:=Int.sign_nonneg_iff.2 (show 0≤V- -M by omega);omega)
        have hbn:Qc6 c s.o (k+1)=true:=by rw [hbk1];exact decide_eq_true (hsp.2 ⟨p1,p2⟩)
        repeat (first|(simp -implicitDefEqProofs only [go_sem,Nat.reduceAdd,Nat.reduceMul,Nat.reduceEqDiff,Nat.reduceLT,Nat.reduceLeDiff,reduceCtorEq,List.length_map,hB',n0,hgk,hgv,hwk2,rI,di,Int.toNat_natCast,p1',p2'])|((with_reducible refine Qab (o1) ?_ ?_ ?_);(with_reducible rfl);rfl)|((with_reducible refine Qab (m) ?_ ?_ ?_);(with_reducible rfl);rfl)|((with_reducible refine Qab (cm1) ?_ ?_ ?_);(with_reducible rfl);rfl)|((with_reducible refine Qab (ng) ?_ ?_ ?_);(with_reducible rfl);rfl)|((with_reducible refine Qab (cm2) ?_ ?_ ?_);(with_reducible rfl);rfl)|(with_reducible exact Qaa _ _ (by kernel_rfl))|(with_reducible refine And.intro (Qaa _ _ (by kernel_rfl)) ?_))
        refine⟨⟨k+1,hB,hbn⟩,by simp only;omega,Qaj (θ:=[(0,0),(303,303),(405,405)]) rfl ?_ ?_⟩
        ·simp [Qad,lkp,ren1,ren0,Qam,Qan]
        ·simp only [hX]
         exact⟨⟨rfl,rfl,rfl,rfl,rfl,.inr ⟨rfl,_,_,rfl,rfl,rfl,rfl⟩⟩,⟨rfl,rfl,rfl,rfl,rfl,.inr ⟨rfl,_,_,rfl,rfl,rfl,rfl⟩⟩,⟨rfl,rfl,rfl,rfl,rfl,.inr ⟨rfl,_,_,rfl,rfl,rfl,rfl⟩⟩,trivial⟩
     ·have hB':=ltF hB
      obtain rfl:k=c.length:=by omega
      repeat (first|(simp -implicitDefEqProofs only [go_sem,Nat.reduceAdd,Nat.reduceMul,Nat.reduceEqDiff,Nat.reduceLT,Nat.reduceLeDiff,reduceCtorEq,List.length_map,hB',hwk])|(with_reducible exact Qaa _ _ (by kernel_rfl))|(with_reducible refine And.intro (Qaa _ _ (by kernel_rfl)) ?_))
      refine⟨⟨i+1,hA,by rw [htk];exact e1.trans hbk⟩,by simp only;omega,Qaj (θ:=[(0,0),(303,303),(405,405)]) rfl ?_ ?_⟩
      ·simp [Qad,lkp,ren1,ren0,Qam,Qan]
      ·simp only [hfd]
       rw [List.take_length]
       exact⟨⟨rfl,rfl,rfl,rfl,rfl,.inr ⟨rfl,_,_,rfl,rfl,rfl,rfl⟩⟩,⟨rfl,rfl,rfl,rfl,rfl,.inr ⟨rfl,_,_,rfl,rfl,rfl,rfl⟩⟩,⟨rfl,rfl,rfl,rfl,rfl,.inr ⟨rfl,_,_,rfl,rfl,rfl,rfl⟩⟩,trivial⟩
   ·have q3':((1:Int)<(c.length:Int))=False:=eq_false (by omega)
    have e1:axOK c s.o=Qc6 c s.o c.length:=by unfold axOK Qk0;rw [decide_eq_true (show 1≤c.length by omega),decide_eq_true (show c.length≤6 by omega),decide_eq_true (show c.length≤1 by omega)];simp
    repeat (first|(simp -implicitDefEqProofs only [go_sem,Nat.reduceAdd,Nat.reduceMul,Nat.reduceEqDiff,Nat.reduceLT,Nat.reduceLeDiff,reduceCtorEq,hA',h0,hx,hwk,Int.toNat_natCast,List.length_map,q1',q2',q3',wl,n1,hgl])|((with_reducible refine Qab (hct) ?_ ?_ ?_);(with_reducible rfl);rfl)|(with_reducible exact Qaa _ _ (by kernel_rfl))|(with_reducible refine And.intro (Qaa _ _ (by kernel_rfl)) ?_))
    have z1:0≤c.length∧Qc6 c s.o 0=true:=⟨Nat.zero_le _,rfl⟩
    refine Qao mixed (fun k:{k:Nat // k≤c.length∧Qc6 c s.o k=true}=>St.of [(1,.bp 0 6 0 0),(2,.bool false),(3,.bp 303 2 0 0),(4,.bp 405 2 0 0),(5,.slc [Qan s.x,Qan s.y,Qan s.z]),(6,.int .i64 (i:Int)),(7,Qan c),(8,.slc ((ctls c c.length).map rI)),(9,.int .i64 (k.1:Int))]
     [(0,{els:=[sgPV s],esz:=6,ety:=24,fro:=0,live:=true,arr:=false}),(303,{els:=[rI ((gcdL G (c.take k.1):Nat):Int)],esz:=2,ety:=44,fro:=0,live:=true,arr:=false}),(405,{els:=[rI M],esz:=2,ety:=44,fro:=0,live:=true,arr:=false})]) (fun k=>c.length-k.1) ⟨0,z1⟩ ?_ ?_
    ·refine Qaj (θ:=[(0,0),(303,303),(405,405)]) rfl ?_ ?_
     ·simp [Qad,lkp,ren1,ren0,Qam,Qan]
     ·exact⟨⟨rfl,rfl,rfl,rfl,rfl,.inr ⟨rfl,_,_,rfl,rfl,rfl,rfl⟩⟩,⟨rfl,rfl,rfl,rfl,rfl,.inr ⟨rfl,_,_,rfl,rfl,rfl,rfl⟩⟩,⟨rfl,rfl,rfl,rfl,rfl,.inr ⟨rfl,_,_,rfl,rfl,rfl,rfl⟩⟩,trivial⟩
    ·rintro⟨k,hk,hbk⟩
     by_cases hB:k<c.length
     ·have hB':=ltT hB
      have n0:=nnT k
      have hgk:=Qbx c k hB
      have hwk2:=Qah (a:=k) (by omega)
      obtain⟨k1,k2⟩:=hcx _ (List.getElem_mem hB)
      have o1:=Qc1 c[k] k1 k2
      have x1:=Qav (hcx _ (List.getElem_mem hB))
      have x2:((gcdL G (c.take k):Nat):Int).natAbs<2^64:=by rw [Int.natAbs_natCast];exact Qea _ hGi fun x hx=>Qav (hcx x (List.mem_of_mem_take hx))
      have m:=Qrw (Qbc x2 (by decide)) (Qbc x1 (by decide))
      rw [Int.natAbs_natCast,←Qd2,←Qbb c k hB]at m
      have hgv:=Qkj (ctls c c.length) k (by rw [Qpz];exact hB)
      rw [Qwl]at hgv
      have y3:(ctl c k).natAbs<2^(64+11+7):=Qg8 (n:=c.length-1) (j:=k) hcb (by omega) (k+1) (by omega)
      have cm1:=Qeu (Qbc y3 (by decide)) (Qbc bm (by decide))
      have cm2:=Qeu (Qbc y3 (by decide)) (Qbc (Zgv bm) (by decide))
      have hbk1:=hbt c k
      rw [hbk,Bool.true_and]at hbk1
      have hsp:=Qrr (v:=ctl c k) (M:=M)
      have eb:Qc6 c s.o (k+1)=false→Qa2 s=false:=fun h=>hbad (e1.trans (Qpm h hB))
      generalize hX:gcdL G (c.take (k+1))=X at*
      generalize gcdL G (c.take k)=Y at*
      generalize ctl c k=V at*
      by_cases p1:M<V
      ·have p1':((0:Int)<(V-M).sign)=True:=eq_true (Int.sign_pos_iff.2 (by omega))
       have e:=eb (by rw [hbk1];exact decide_eq_false fun h=>(hsp.1 h).1 p1)
       repeat (first|(simp -implicitDefEqProofs only [go_sem,Nat.reduceAdd,Nat.reduceMul,Nat.reduceEqDiff,Nat.reduceLT,Nat.reduceLeDiff,reduceCtorEq,List.length_map,hB',n0,hgk,hgv,rI,di,Int.toNat_natCast,p1',e])|((with_reducible refine Qab (o1) ?_ ?_ ?_);(with_reducible rfl);rfl)|((with_reducible refine Qab (m) ?_ ?_ ?_);(with_reducible rfl);rfl)|((with_reducible refine Qab (cm1) ?_ ?_ ?_);(with_reducible rfl);rfl)|(with_reducible exact Qaa _ _ (by kernel_rfl))|(with_reducible refine And.intro (Qaa _ _ (by kernel_rfl)) ?_))
      ·have p1':((0:Int)<(V-M).sign)=False:=eq_false (by have:=Int.sign_nonpos_iff.2 (show V-M≤0 by omega);omega)
       by_cases p2:V< -M
       ·have p2':((V- -M).sign<0)=True:=eq_true (Int.sign_neg_iff.2 (by omega))
        have e:=eb (by rw [hbk1];exact decide_eq_false fun h=>(hsp.1 h).2 p2)
        repeat (first|(simp -implicitDefEqProofs only [go_sem,Nat.reduceAdd,Nat.reduceMul,Nat.reduceEqDiff,Nat.reduceLT,Nat.reduceLeDiff,reduceCtorEq,List.length_map,hB',n0,hgk,hgv,rI,di,Int.toNat_natCast,p1',p2',e])|((with_reducible refine Qab (o1) ?_ ?_ ?_);(with_reducible rfl);rfl)|((with_reducible refine Qab (m) ?_ ?_ ?_);(with_reducible rfl);rfl)|((with_reducible refine Qab (cm1) ?_ ?_ ?_);(with_reducible rfl);rfl)|((with_reducible refine Qab (ng) ?_ ?_ ?_);(with_reducible rfl);rfl)|((with_reducible refine Qab (cm2) ?_ ?_ ?_);(with_reducible rfl);rfl)|(with_reducible exact Qaa _ _ (by kernel_rfl))|(with_reducible refine And.intro (Qaa _ _ (by kernel_rfl)) ?_))
       ·have p2':((V- -M).sign<0)=False:=eq_false (by have:=Int.sign_nonneg_iff.2 (show 0≤V- -M by omega);omega)
        have hbn:Qc6 c s.o (k+1)=true:=by rw [hbk1];exact decide_eq_true (hsp.2 ⟨p1,p2⟩)
        repeat (first|(simp -implicitDefEqProofs only [go_sem,Nat.reduceAdd,Nat.reduceMul,Nat.reduceEqDiff,Nat.reduceLT,Nat.reduceLeDiff,reduceCtorEq,List.length_map,hB',n0,hgk,hgv,hwk2,rI,di,Int.toNat_natCast,p1',p2'])|((with_reducible refine Qab (o1) ?_ ?_ ?_);(with_reducible rfl);rfl)|((with_reducible refine Qab (m) ?_ ?_ ?_);(with_reducible rfl);rfl)|((with_reducible refine Qab (cm1) ?_ ?_ ?_);(with_reducible rfl);rfl)|((with_reducible refine Qab (ng) ?_ ?_ ?_);(with_reducible rfl);rfl)|((with_reducible refine Qab (cm2) ?_ ?_ ?_);(with_reducible rfl);rfl)|(with_reducible exact Qaa _ _ (by kernel_rfl))|(with_reducible refine And.intro (Qaa _ _ (by kernel_rfl)) ?_))
        refine⟨⟨k+1,hB,hbn⟩,by simp only;omega,Qaj (θ:=[(0,0),(303,303),(405,405)]) rfl ?_ ?_⟩
        ·simp [Qad,lkp,ren1,ren0,Qam,Qan]
        ·simp only [hX]
         exact⟨⟨rfl,rfl,rfl,rfl,rfl,.inr ⟨rfl,_,_,rfl,rfl,rfl,rfl⟩⟩,⟨rfl,rfl,rfl,rfl,rfl,.inr ⟨rfl,_,_,rfl,rfl,rfl,rfl⟩⟩,⟨rfl,rfl,rfl,rfl,rfl,.inr ⟨rfl,_,_,rfl,rfl,rfl,rfl⟩⟩,trivial⟩
     ·have hB':=ltF hB
      obtain rfl:k=c.length:=by omega
      repeat (first|(simp -implicitDefEqProofs only [go_sem,Nat.reduceAdd,Nat.reduceMul,Nat.reduceEqDiff,Nat.reduceLT,Nat.reduceLeDiff,reduceCtorEq,List.length_map,hB',hwk])|(with_reducible exact Qaa _ _ (by kernel_rfl))|(with_reducible refine And.intro (Qaa _ _ (by kernel_rfl)) ?_))
      refine⟨⟨i+1,hA,by rw [htk];exact e1.trans hbk⟩,by simp only;omega,Qaj (θ:=[(0,0),(303,303),(405,405)]) rfl ?_ ?_⟩
      ·simp [Qad,lkp,ren1,ren0,Qam,Qan]
      ·simp only [hfd]
       rw [List.take_length]
       exact⟨⟨rfl,rfl,rfl,rfl,rfl,.inr ⟨rfl,_,_,rfl,rfl,rfl,rfl⟩⟩,⟨rfl,rfl,rfl,rfl,rfl,.inr ⟨rfl,_,_,rfl,rfl,rfl,rfl⟩⟩,⟨rfl,rfl,rfl,rfl,rfl,.inr ⟨rfl,_,_,rfl,rfl,rfl,rfl⟩⟩,trivial⟩
  ·have hA':((i:Int)<3)=False:=eq_false (by omega)
   obtain rfl:i=3:=by omega
   have et:s.ax.take 3=s.ax:=rfl
   have e:Qa2 s=((s.ax.take 3).foldl gcdL s.o.natAbs==1):=by rw [et]at hall ⊢;unfold Qa2;rw [er,hall];simp
   rw [e]
   simp only
   generalize (s.ax.take 3).foldl gcdL s.o.natAbs=G at*
   have x2:((G:Nat):Int).natAbs<2^64:=by rw [Int.natAbs_natCast];exact hGi
   have hcm:=Qeu (Qbc x2 (by decide)) (Qbc (show(1:Int).natAbs<2^64 by decide) (by decide))
   have hsn:(((G:Int)-1).sign==0)=(G==1):=by
    rw [Bool.eq_iff_iff,beq_iff_eq,beq_iff_eq,Int.sign_eq_zero_iff_zero];omega
   repeat (first|(simp -implicitDefEqProofs only [go_sem,Nat.reduceAdd,Nat.reduceMul,Nat.reduceEqDiff,Nat.reduceLT,Nat.reduceLeDiff,Nat.reduceSub,reduceCtorEq,Int.reduceLT,hA',rI,di,hsn])|((with_reducible refine Qab (wone) ?_ ?_ ?_);(with_reducible rfl);rfl)|((with_reducible refine Qab (hcm) ?_ ?_ ?_);(with_reducible rfl);rfl)|(with_reducible exact Qaa _ _ (by kernel_rfl))|(with_reducible refine And.intro (Qaa _ _ (by kernel_rfl)) ?_))
end Go.Proofs.YtlpiamlgibomhaaGreat
