/-
  HM3, UXS, Dsh, Dsi, Dsj, Dsk, Dsl, Dsm, Dsn, Dbu, Dbv (merged for the claim).
-/
import Derived.Test.YtciddhkfbgkejaaGreatDoorHM2
set_option linter.unusedSimpArgs false
set_option linter.unusedVariables false
namespace Go.Proofs.YtciddhkfbgkejaaGreatDoor
open Go.Vl Go.RowKit Go.Dg
def i64 (x:Int):Prop:= -9223372036854775808≤x∧x≤9223372036854775807
def sgPV (s:Sg):PV:= .agg [.int .i64 s.f,.int .i64 s.t,.int .i64 s.o,Qas s.x,Qas s.y,Qas s.z]
attribute [go_sem] Qas sgPV
structure okSg (s:Sg):Prop where
 f:i64 s.f
 t:i64 s.t
 o:i64 s.o
 c: ∀c∈s.ax,∀x∈c,i64 x
 l: ∀c∈s.ax,c.length≤1000
theorem Qa1 {x:Int} (h:i64 x):x.natAbs<2^64:=by unfold i64 at h;have p64:(2:Nat)^64=18446744073709551616:=rfl;omega
theorem Zhr (s:Sg):Qad Tryz.prog 116 [sgPV s] (.agg [Qas s.x,Qas s.y,Qas s.z]):=by
 unfold sgPV
 refine Qac (tb:=[]) 10 [.cell 2 169] [0,1,2] mixed Tryz.func116 rfl (by kernel_rfl) (by kernel_rfl) (by kernel_rfl) (by kernel_rfl) ?_
 repeat (first|(simp -implicitDefEqProofs only [go_sem,Nat.reduceAdd,Nat.reduceMul,Nat.reduceEqDiff,Nat.reduceLT,Nat.reduceLeDiff,reduceCtorEq,Qas,List.map_cons,List.map_nil]))
theorem Qt2 (s:Sg):Qad Tryz.prog 82 [sgPV s] (.slc [Qas s.x,Qas s.y,Qas s.z]):=by
 unfold sgPV
 refine Qac (tb:=[]) 10 [.tmp 2] [0,1,2] mixed Tryz.func82 rfl (by kernel_rfl) (by kernel_rfl) (by kernel_rfl) (by kernel_rfl) ?_
 repeat (first|(simp -implicitDefEqProofs only [go_sem,Nat.reduceAdd,Nat.reduceMul,Nat.reduceEqDiff,Nat.reduceLT,Nat.reduceLeDiff,reduceIte,reduceCtorEq,Qas,List.map_cons,List.map_nil]))
theorem Q21 (s:Sg) (i:Nat) (h:i<s.ax.length):([.slc (s.x.map (PV.int .i64)),.slc (s.y.map (PV.int .i64)),.slc (s.z.map (PV.int .i64))]:List PV)[i]? =some (.slc ((s.ax[i]).map (PV.int .i64))):=by
 show(s.ax.map Qas)[i]? =_
 rw [List.getElem?_map,List.getElem?_eq_getElem h];rfl
theorem Q22 (s:Sg) (i:Nat) (h:i<s.ax.length):([.slc (s.x.map (PV.int .i64)),.slc (s.y.map (PV.int .i64)),.slc (s.z.map (PV.int .i64))]:List PV)[i*1]? =some (.slc ((s.ax[i]).map (PV.int .i64))):=by rw [Nat.mul_one,Q21 s i h]
theorem Zpn (x y:Int):(mB x==mB y)=decide (x.natAbs=y.natAbs):=by
 rw [Zpy,Bool.eq_iff_iff,beq_iff_eq,decide_eq_true_eq]
 constructor
 ·intro h
  rw [←Qqb x,←Qqb y,h]
 ·intro h;unfold mB;rw [h]
theorem Qml (x y:Int):((decide (x<0)==decide (y<0))&&(mB x==mB y))=decide (x=y):=by
 rw [Zpn,Bool.eq_iff_iff,Bool.and_eq_true,beq_iff_eq,decide_eq_decide,decide_eq_true_eq,decide_eq_true_eq]
 omega
set_option maxHeartbeats 1000000 in
theorem Qwn (s:Sg) (hs:okSg s):Qad Tryz.prog 72 [sgPV s] (.bool (Qa2 s)):=by
 obtain⟨⟨a1,a2⟩,⟨a3,a4⟩,⟨a5,a6⟩,hc,hl⟩:=hs
 by_cases g1:s.f<0
 ·have g1':=eq_true g1
  have e:Qa2 s=false:=by unfold Qa2 rngS;rw [decide_eq_false (by omega)];rfl
  unfold sgPV
  refine Qac (tb:=[]) 85 [.tmp 2] [0,1,2,3,5,7,32,37,38,39,69,70,71,72,73] mixed Tryz.func72 rfl (by kernel_rfl) (by kernel_rfl) (by kernel_rfl) (by kernel_rfl) ?_
  repeat (first|(simp -implicitDefEqProofs only [go_sem,Nat.reduceAdd,Nat.reduceMul,Nat.reduceEqDiff,Nat.reduceLT,Nat.reduceLeDiff,reduceCtorEq,g1',e])|(with_reducible exact Qaa _ _ (by kernel_rfl))|(with_reducible refine And.intro (Qaa _ _ (by kernel_rfl)) ?_))
 have g1':=eq_false g1
 by_cases g2:s.t≤s.f
 ·have g2':=eq_true g2
  have e:Qa2 s=false:=by unfold Qa2 rngS;rw [decide_eq_true (show 0≤s.f by omega),decide_eq_false (show¬s.f<s.t by omega)];rfl
  unfold sgPV
  refine Qac (tb:=[]) 85 [.tmp 2] [0,1,2,3,5,7,32,37,38,39,69,70,71,72,73] mixed Tryz.func72 rfl (by kernel_rfl) (by kernel_rfl) (by kernel_rfl) (by kernel_rfl) ?_
  repeat (first|(simp -implicitDefEqProofs only [go_sem,Nat.reduceAdd,Nat.reduceMul,Nat.reduceEqDiff,Nat.reduceLT,Nat.reduceLeDiff,reduceCtorEq,g1',g2',e])|(with_reducible exact Qaa _ _ (by kernel_rfl))|(with_reducible refine And.intro (Qaa _ _ (by kernel_rfl)) ?_))
 have g2':=eq_false g2
 by_cases g3:3600000<s.t
 ·have g3':=eq_true g3
  have e:Qa2 s=false:=by unfold Qa2 rngS;rw [decide_eq_true (show 0≤s.f by omega),decide_eq_true (show s.f<s.t by omega),decide_eq_false (show¬s.t≤3600000 by omega)];rfl
  unfold sgPV
  refine Qac (tb:=[]) 85 [.tmp 2] [0,1,2,3,5,7,32,37,38,39,69,70,71,72,73] mixed Tryz.func72 rfl (by kernel_rfl) (by kernel_rfl) (by kernel_rfl) (by kernel_rfl) ?_
  repeat (first|(simp -implicitDefEqProofs only [go_sem,Nat.reduceAdd,Nat.reduceMul,Nat.reduceEqDiff,Nat.reduceLT,Nat.reduceLeDiff,reduceCtorEq,g1',g2',g3',e])|(with_reducible exact Qaa _ _ (by kernel_rfl))|(with_reducible refine And.intro (Qaa _ _ (by kernel_rfl)) ?_))
 have g3':=eq_false g3
 by_cases g4:s.o<1
 ·have g4':=eq_true g4
  have e:Qa2 s=false:=by unfold Qa2 rngS;rw [decide_eq_true (show 0≤s.f by omega),decide_eq_true (show s.f<s.t by omega),decide_eq_true (show s.t≤3600000 by omega),decide_eq_false (show¬1≤s.o by omega)];rfl
  unfold sgPV
  refine Qac (tb:=[]) 85 [.tmp 2] [0,1,2,3,5,7,32,37,38,39,69,70,71,72,73] mixed Tryz.func72 rfl (by kernel_rfl) (by kernel_rfl) (by kernel_rfl) (by kernel_rfl) ?_
  repeat (first|(simp -implicitDefEqProofs only [go_sem,Nat.reduceAdd,Nat.reduceMul,Nat.reduceEqDiff,Nat.reduceLT,Nat.reduceLeDiff,reduceCtorEq,g1',g2',g3',g4',e])|(with_reducible exact Qaa _ _ (by kernel_rfl))|(with_reducible refine And.intro (Qaa _ _ (by kernel_rfl)) ?_))
 have g4':=eq_false g4
 by_cases g5:4294967296<s.o
 ·have g5':=eq_true g5
  have e:Qa2 s=false:=by unfold Qa2 rngS;rw [decide_eq_true (show 0≤s.f by omega),decide_eq_true (show s.f<s.t by omega),decide_eq_true (show s.t≤3600000 by omega),decide_eq_true (show 1≤s.o by omega),decide_eq_false (show¬s.o≤4294967296 by omega)];rfl
  unfold sgPV
  refine Qac (tb:=[]) 85 [.tmp 2] [0,1,2,3,5,7,32,37,38,39,69,70,71,72,73] mixed Tryz.func72 rfl (by kernel_rfl) (by kernel_rfl) (by kernel_rfl) (by kernel_rfl) ?_
  repeat (first|(simp -implicitDefEqProofs only [go_sem,Nat.reduceAdd,Nat.reduceMul,Nat.reduceEqDiff,Nat.reduceLT,Nat.reduceLeDiff,reduceCtorEq,g1',g2',g3',g4',g5',e])|(with_reducible exact Qaa _ _ (by kernel_rfl))|(with_reducible refine And.intro (Qaa _ _ (by kernel_rfl)) ?_))
 have g5':=eq_false g5
 have er:rngS s=true:=by unfold rngS;rw [decide_eq_true (show 0≤s.f by omega),decide_eq_true (show s.f<s.t by omega),decide_eq_true (show s.t≤3600000 by omega),decide_eq_true (show 1≤s.o by omega),decide_eq_true (show s.o≤4294967296 by omega)];rfl
 have w1:=Qhs s.o a5 a6
 have hax:=Zhr s
 have hsg:sgPV s= .agg [.int .i64 s.f,.int .i64 s.t,.int .i64 s.o,.slc (s.x.map (PV.int .i64)),.slc (s.y.map (PV.int .i64)),.slc (s.z.map (PV.int .i64))]:=rfl
 rw [hsg]at hax ⊢
 have wone:=Qhs 1 (by decide) (by decide)
 have hG: ∀i,((s.ax.take i).foldl gcdL s.o.natAbs)<2^64:=by
  intro i
  have: ∀(L:List (List Int)) (g:Nat),g<2^64→(∀c∈L,∀x∈c,x.natAbs<2^64)→L.foldl gcdL g<2^64:=by
   intro L
   induction L with
   |nil=>intro g hg _;exact hg
   |cons c L ih=>intro g hg h;exact ih _ (Qgq c hg (h c (by simp))) fun c' hc'=>h c' (by simp [hc'])
  exact this _ _ (Qa1 ⟨a5,a6⟩) fun c hc' x hx=>Qa1 (hc c (List.mem_of_mem_take hc') x hx)
 refine Qac (tb:=[]) 85 [.tmp 2] [0,1,2,3,5,7,32,37,38,39,69,70,71,72,73] mixed Tryz.func72 rfl (by kernel_rfl) (by kernel_rfl) (by kernel_rfl) (by kernel_rfl) ?_
 repeat (first|(simp -implicitDefEqProofs only [go_sem,Nat.reduceAdd,Nat.reduceMul,Nat.reduceEqDiff,Nat.reduceLT,Nat.reduceLeDiff,reduceCtorEq,wPV,g1',g2',g3',g4',g5'])|((with_reducible refine Qab (w1) ?_ ?_ ?_);(with_reducible rfl);rfl)|((with_reducible refine Qab (hax) ?_ ?_ ?_);(with_reducible rfl);rfl)|(with_reducible exact Qaa _ _ (by kernel_rfl))|(with_reducible refine And.intro (Qaa _ _ (by kernel_rfl)) ?_))
 have z0:0≤3∧((s.ax.take 0).all fun c=>axOK c s.o)=true:=⟨Nat.zero_le _,rfl⟩
 refine Qar mixed (fun i:{i:Nat // i≤3∧((s.ax.take i).all fun c=>axOK c s.o)=true}=>St.of [(1,.bp 0 6 0 0),(2,.bool false),(3,.bp 303 2 0 0),(37,.agg [Qas s.x,Qas s.y,Qas s.z]),(38,.int .i64 (i.1:Int))]
  [(0,{els:=[sgPV s],esz:=6,ety:=56,fro:=0,live:=true,arr:=false}),(303,{els:=[wPV (((s.ax.take i.1).foldl gcdL s.o.natAbs:Nat):Int)],esz:=2,ety:=71,fro:=0,live:=true,arr:=false})]) (fun i=>3-i.1) ⟨0,z0⟩ ?_ ?_
 ·refine Qak (θ:=[(0,0),(303,303)]) rfl ?_ ?_
  ·simp [Qaf,lkp,ren1,ren0,Qap,Qas]
  ·refine⟨⟨rfl,rfl,rfl,rfl,rfl,.inr ⟨rfl,_,_,rfl,rfl,rfl,rfl⟩⟩,⟨rfl,rfl,rfl,rfl,rfl,.inr ⟨rfl,_,_,rfl,rfl,?_,rfl⟩⟩,trivial⟩
   have:((((s.ax.take 0).foldl gcdL s.o.natAbs:Nat):Nat):Int)=s.o:=by simp;omega
   rw [this];rfl
 ·rintro⟨i,hi,hall⟩
  have hGi:=hG i
  by_cases hA:i<3
  ·have hA':((i:Int)<3)=True:=eq_true (by omega)
   have hA2:=ltT hA
   have h0:=nnT i
   have hx:=Q22 s i hA
   have hwk:=Qaj (a:=i) (by omega)
   have hcx:=hc (s.ax[i]) (List.getElem_mem hA)
   have hlx:=hl (s.ax[i]) (List.getElem_mem hA)
   have htk:(s.ax.take (i+1)).all (fun c=>axOK c s.o)=axOK s.ax[i] s.o:=by rw [Qb0 s.ax i hA,List.all_append,hall];simp
   have hbad:axOK s.ax[i] s.o=false→Qa2 s=false:=fun h=>by
    unfold Qa2;rw [Q28 (p:=fun c=>axOK c s.o) (l:=s.ax) (i:=i) hA h];simp
   have hfd:(s.ax.take (i+1)).foldl gcdL s.o.natAbs=gcdL ((s.ax.take i).foldl gcdL s.o.natAbs) s.ax[i]:=by rw [Qb0 s.ax i hA,List.foldl_append];rfl
   generalize hC:s.ax[i]=c at*
   generalize (s.ax.take i).foldl gcdL s.o.natAbs=G at*
   by_cases q1:c.length<1
   ·have q1':((c.length:Int)<1)=True:=eq_true (by omega)
    have e:=hbad (by unfold axOK Qjq;rw [decide_eq_false (show¬1≤c.length by omega)];rfl)
    repeat (first|(simp -implicitDefEqProofs only [go_sem,Nat.reduceAdd,Nat.reduceMul,Nat.reduceEqDiff,Nat.reduceLT,Nat.reduceLeDiff,reduceCtorEq,hA',hA2,h0,hx,hwk,Int.toNat_natCast,List.length_map,q1',e])|(with_reducible exact Qaa _ _ (by kernel_rfl))|(with_reducible refine And.intro (Qaa _ _ (by kernel_rfl)) ?_))
   have q1':((c.length:Int)<1)=False:=eq_false (by omega)
   by_cases q2:6<c.length
   ·have q2':((6:Int)<(c.length:Int))=True:=eq_true (by omega)
    have e:=hbad (by unfold axOK Qjq;rw [decide_eq_false (show¬c.length≤6 by omega)];simp)
    repeat (first|(simp -implicitDefEqProofs only [go_sem,Nat.reduceAdd,Nat.reduceMul,Nat.reduceEqDiff,Nat.reduceLT,Nat.reduceLeDiff,reduceCtorEq,hA',hA2,h0,hx,hwk,Int.toNat_natCast,List.length_map,q1',q2',e])|(with_reducible exact Qaa _ _ (by kernel_rfl))|(with_reducible refine And.intro (Qaa _ _ (by kernel_rfl)) ?_))
   have q2':((6:Int)<(c.length:Int))=False:=eq_false (by omega)
   have hbv:=Q20 c s.o (by omega) (by omega) hcx (by omega) (by omega)
   have hlt:c.length-1<c.length:=by omega
   have wl:=Qhe (n:=c.length) (by omega) (by omega)
   have hgl:=Qct c (c.length-1) hlt
   have n1:=nnT (c.length-1)
   have hl0:=Qfa hlt
   -- the rest, behind the test of the last coefficient
   have rest:axOK c s.o=Qc8 c s.o c.length→ ∀(t:Bool),Qc8 c s.o c.length=t→True:=fun _ _ _=>trivial
   by_cases q3:1<c.length
   ·have q3':((1:Int)<(c.length:Int))=True:=eq_true (by omega)
    by_cases q4:c[c.length-1]=0
    ·have q4':(c[c.length-1]==0)=true:=by rw [q4];rfl
     have e:=hbad (by unfold axOK Qjq;rw [hl0,q4',decide_eq_false (show¬c.length≤1 by omega)];simp)
     repeat (first|(simp -implicitDefEqProofs only [go_sem,Nat.reduceAdd,Nat.reduceMul,Nat.reduceEqDiff,Nat.reduceLT,Nat.reduceLeDiff,reduceCtorEq,hA',hA2,h0,hx,hwk,Int.toNat_natCast,List.length_map,q1',q2',q3',q4',wl,n1,hgl,e])|(with_reducible exact Qaa _ _ (by kernel_rfl))|(with_reducible refine And.intro (Qaa _ _ (by kernel_rfl)) ?_))
    have q4':(c[c.length-1]==0)=false:=by simp only [beq_eq_false_iff_ne,ne_eq];exact q4
    have e1:axOK c s.o=Qc8 c s.o c.length:=by unfold axOK Qjq;rw [hl0,q4',decide_eq_true (show 1≤c.length by omega),decide_eq_true (show c.length≤6 by omega)];simp
    cases hb:Qc8 c s.o c.length with
    |false=>
     rw [hb]at hbv e1
     have e:=hbad e1
     repeat (first|(simp -implicitDefEqProofs only [go_sem,Nat.reduceAdd,Nat.reduceMul,Nat.reduceEqDiff,Nat.reduceLT,Nat.reduceLeDiff,reduceCtorEq,hA',hA2,h0,hx,hwk,Int.toNat_natCast,List.length_map,q1',q2',q3',q4',wl,n1,hgl,e])|((with_reducible refine Qab (hbv) ?_ ?_ ?_);(with_reducible rfl);rfl)|(with_reducible exact Qaa _ _ (by kernel_rfl))|(with_reducible refine And.intro (Qaa _ _ (by kernel_rfl)) ?_))
    |true=>
     rw [hb]at hbv e1
     repeat (first|(simp -implicitDefEqProofs only [go_sem,Nat.reduceAdd,Nat.reduceMul,Nat.reduceEqDiff,Nat.reduceLT,Nat.reduceLeDiff,reduceCtorEq,hA',hA2,h0,hx,hwk,Int.toNat_natCast,List.length_map,q1',q2',q3',q4',wl,n1,hgl])|((with_reducible refine Qab (hbv) ?_ ?_ ?_);(with_reducible rfl);rfl)|(with_reducible exact Qaa _ _ (by kernel_rfl))|(with_reducible refine And.intro (Qaa _ _ (by kernel_rfl)) ?_))
     refine Qar mixed (fun k:{k:Nat // k≤c.length}=>St.of [(1,.bp 0 6 0 0),(2,.bool false),(3,.bp 303 2 0 0),(37,.agg [Qas s.x,Qas s.y,Qas s.z]),(38,.int .i64 (i:Int)),(70,Qas c),(71,.int .i64 (c.length:Int)),(72,.int .i64 (k.1:Int))]
      [(0,{els:=[sgPV s],esz:=6,ety:=56,fro:=0,live:=true,arr:=false}),(303,{els:=[wPV ((gcdL G (c.take k.1):Nat):Int)],esz:=2,ety:=71,fro:=0,live:=true,arr:=false})]) (fun k=>c.length-k.1) ⟨0,Nat.zero_le _⟩ ?_ ?_
     ·refine Qak (θ:=[(0,0),(303,303)]) rfl ?_ ?_
      ·simp [Qaf,lkp,ren1,ren0,Qap,Qas]
      ·exact⟨⟨rfl,rfl,rfl,rfl,rfl,.inr ⟨rfl,_,_,rfl,rfl,rfl,rfl⟩⟩,⟨rfl,rfl,rfl,rfl,rfl,.inr ⟨rfl,_,_,rfl,rfl,rfl,rfl⟩⟩,trivial⟩
     ·rintro⟨k,hk⟩
      by_cases hB:k<c.length
      ·have hB':=ltT hB
       have n0:=nnT k
       have hgk:=Qct c k hB
       have hwk2:=Qaj (a:=k) (by omega)
       obtain⟨k1,k2⟩:=hcx _ (List.getElem_mem hB)
       have o1:=Qhs c[k] k1 k2
       have x1:=Qa1 (hcx _ (List.getElem_mem hB))
       have x2:((gcdL G (c.take k):Nat):Int).natAbs<2^64:=by rw [Int.natAbs_natCast];exact Qgq _ hGi fun x hx=>Qa1 (hcx x (List.mem_of_mem_take hx))
       have m:=Qrz (Qa4 x2 (by decide)) (Qa4 x1 (by decide))
       rw [Int.natAbs_natCast,←Qfg,←Qb0 c k hB]at m
       generalize hX:gcdL G (c.take (k+1))=X at*
       generalize gcdL G (c.take k)=Y at*
       repeat (first|(simp -implicitDefEqProofs only [go_sem,Nat.reduceAdd,Nat.reduceMul,Nat.reduceEqDiff,Nat.reduceLT,Nat.reduceLeDiff,reduceCtorEq,hB',n0,hgk,hwk2,wPV,Int.toNat_natCast])|((with_reducible refine Qab (o1) ?_ ?_ ?_);(with_reducible rfl);rfl)|((with_reducible refine Qab (m) ?_ ?_ ?_);(with_reducible rfl);rfl)|(with_reducible exact Qaa _ _ (by kernel_rfl))|(with_reducible refine And.intro (Qaa _ _ (by kernel_rfl)) ?_))
       refine⟨⟨k+1,hB⟩,by simp only;omega,Qak (θ:=[(0,0),(303,303)]) rfl ?_ ?_⟩
       ·simp [Qaf,lkp,ren1,ren0,Qap,Qas]
       ·simp only [hX]
        exact⟨⟨rfl,rfl,rfl,rfl,rfl,.inr ⟨rfl,_,_,rfl,rfl,rfl,rfl⟩⟩,⟨rfl,rfl,rfl,rfl,rfl,.inr ⟨rfl,_,_,rfl,rfl,rfl,rfl⟩⟩,trivial⟩
      ·have hB':=ltF hB
       obtain rfl:k=c.length:=by omega
       repeat (first|(simp -implicitDefEqProofs only [go_sem,Nat.reduceAdd,Nat.reduceMul,Nat.reduceEqDiff,Nat.reduceLT,Nat.reduceLeDiff,reduceCtorEq,hB',hwk])|(with_reducible exact Qaa _ _ (by kernel_rfl))|(with_reducible refine And.intro (Qaa _ _ (by kernel_rfl)) ?_))
       refine⟨⟨i+1,hA,by rw [htk];exact e1⟩,by simp only;omega,Qak (θ:=[(0,0),(303,303)]) rfl ?_ ?_⟩
       ·simp [Qaf,lkp,ren1,ren0,Qap,Qas]
       ·simp only [hfd]
        rw [List.take_length]
        exact⟨⟨rfl,rfl,rfl,rfl,rfl,.inr ⟨rfl,_,_,rfl,rfl,rfl,rfl⟩⟩,⟨rfl,rfl,rfl,rfl,rfl,.inr ⟨rfl,_,_,rfl,rfl,rfl,rfl⟩⟩,trivial⟩
   ·have q3':((1:Int)<(c.length:Int))=False:=eq_false (by omega)
    have e1:axOK c s.o=Qc8 c s.o c.length:=by unfold axOK Qjq;rw [decide_eq_true (show 1≤c.length by omega),decide_eq_true (show c.length≤6 by omega),decide_eq_true (show c.length≤1 by omega)];simp
    cases hb:Qc8 c s.o c.length with
    |false=>
     rw [hb]at hbv e1
     have e:=hbad e1
     repeat (first|(simp -implicitDefEqProofs only [go_sem,Nat.reduceAdd,Nat.reduceMul,Nat.reduceEqDiff,Nat.reduceLT,Nat.reduceLeDiff,reduceCtorEq,hA',hA2,h0,hx,hwk,Int.toNat_natCast,List.length_map,q1',q2',q3',wl,n1,hgl,e])|((with_reducible refine Qab (hbv) ?_ ?_ ?_);(with_reducible rfl);rfl)|(with_reducible exact Qaa _ _ (by kernel_rfl))|(with_reducible refine And.intro (Qaa _ _ (by kernel_rfl)) ?_))
    |true=>
     rw [hb]at hbv e1
     repeat (first|(simp -implicitDefEqProofs only [go_sem,Nat.reduceAdd,Nat.reduceMul,Nat.reduceEqDiff,Nat.reduceLT,Nat.reduceLeDiff,reduceCtorEq,hA',hA2,h0,hx,hwk,Int.toNat_natCast,List.length_map,q1',q2',q3',wl,n1,hgl])|((with_reducible refine Qab (hbv) ?_ ?_ ?_);(with_reducible rfl);rfl)|(with_reducible exact Qaa _ _ (by kernel_rfl))|(with_reducible refine And.intro (Qaa _ _ (by kernel_rfl)) ?_))
     refine Qar mixed (fun k:{k:Nat // k≤c.length}=>St.of [(1,.bp 0 6 0 0),(2,.bool false),(3,.bp 303 2 0 0),(37,.agg [Qas s.x,Qas s.y,Qas s.z]),(38,.int .i64 (i:Int)),(70,Qas c),(71,.int .i64 (c.length:Int)),(72,.int .i64 (k.1:Int))]
      [(0,{els:=[sgPV s],esz:=6,ety:=56,fro:=0,live:=true,arr:=false}),(303,{els:=[wPV ((gcdL G (c.take k.1):Nat):Int)],esz:=2,ety:=71,fro:=0,live:=true,arr:=false})]) (fun k=>c.length-k.1) ⟨0,Nat.zero_le _⟩ ?_ ?_
     ·refine Qak (θ:=[(0,0),(303,303)]) rfl ?_ ?_
      ·simp [Qaf,lkp,ren1,ren0,Qap,Qas]
      ·exact⟨⟨rfl,rfl,rfl,rfl,rfl,.inr ⟨rfl,_,_,rfl,rfl,rfl,rfl⟩⟩,⟨rfl,rfl,rfl,rfl,rfl,.inr ⟨rfl,_,_,rfl,rfl,rfl,rfl⟩⟩,trivial⟩
     ·rintro⟨k,hk⟩
      by_cases hB:k<c.length
      ·have hB':=ltT hB
       have n0:=nnT k
       have hgk:=Qct c k hB
       have hwk2:=Qaj (a:=k) (by omega)
       obtain⟨k1,k2⟩:=hcx _ (List.getElem_mem hB)
       have o1:=Qhs c[k] k1 k2
       have x1:=Qa1 (hcx _ (List.getElem_mem hB))
       have x2:((gcdL G (c.take k):Nat):Int).natAbs<2^64:=by rw [Int.natAbs_natCast];exact Qgq _ hGi fun x hx=>Qa1 (hcx x (List.mem_of_mem_take hx))
       have m:=Qrz (Qa4 x2 (by decide)) (Qa4 x1 (by decide))
       rw [Int.natAbs_natCast,←Qfg,←Qb0 c k hB]at m
       generalize hX:gcdL G (c.take (k+1))=X at*
       generalize gcdL G (c.take k)=Y at*
       repeat (first|(simp -implicitDefEqProofs only [go_sem,Nat.reduceAdd,Nat.reduceMul,Nat.reduceEqDiff,Nat.reduceLT,Nat.reduceLeDiff,reduceCtorEq,hB',n0,hgk,hwk2,wPV,Int.toNat_natCast])|((with_reducible refine Qab (o1) ?_ ?_ ?_);(with_reducible rfl);rfl)|((with_reducible refine Qab (m) ?_ ?_ ?_);(with_reducible rfl);rfl)|(with_reducible exact Qaa _ _ (by kernel_rfl))|(with_reducible refine And.intro (Qaa _ _ (by kernel_rfl)) ?_))
       refine⟨⟨k+1,hB⟩,by simp only;omega,Qak (θ:=[(0,0),(303,303)]) rfl ?_ ?_⟩
       ·simp [Qaf,lkp,ren1,ren0,Qap,Qas]
       ·simp only [hX]
        exact⟨⟨rfl,rfl,rfl,rfl,rfl,.inr ⟨rfl,_,_,rfl,rfl,rfl,rfl⟩⟩,⟨rfl,rfl,rfl,rfl,rfl,.inr ⟨rfl,_,_,rfl,rfl,rfl,rfl⟩⟩,trivial⟩
      ·have hB':=ltF hB
       obtain rfl:k=c.length:=by omega
       repeat (first|(simp -implicitDefEqProofs only [go_sem,Nat.reduceAdd,Nat.reduceMul,Nat.reduceEqDiff,Nat.reduceLT,Nat.reduceLeDiff,reduceCtorEq,hB',hwk])|(with_reducible exact Qaa _ _ (by kernel_rfl))|(with_reducible refine And.intro (Qaa _ _ (by kernel_rfl)) ?_))
       refine⟨⟨i+1,hA,by rw [htk];exact e1⟩,by simp only;omega,Qak (θ:=[(0,0),(303,303)]) rfl ?_ ?_⟩
       ·simp [Qaf,lkp,ren1,ren0,Qap,Qas]
       ·simp only [hfd]
        rw [List.take_length]
        exact⟨⟨rfl,rfl,rfl,rfl,rfl,.inr ⟨rfl,_,_,rfl,rfl,rfl,rfl⟩⟩,⟨rfl,rfl,rfl,rfl,rfl,.inr ⟨rfl,_,_,rfl,rfl,rfl,rfl⟩⟩,trivial⟩
  ·have hA':((i:Int)<3)=False:=eq_false (by omega)
   obtain rfl:i=3:=by omega
   have et:s.ax.take 3=s.ax:=rfl
   have e:Qa2 s=((s.ax.take 3).foldl gcdL s.o.natAbs==1):=by rw [et]at hall ⊢;unfold Qa2;rw [er,hall];simp
   rw [e]
   simp only
   generalize (s.ax.take 3).foldl gcdL s.o.natAbs=G at*
   repeat (first|(simp -implicitDefEqProofs only [go_sem,Nat.reduceAdd,Nat.reduceMul,Nat.reduceEqDiff,Nat.reduceLT,Nat.reduceLeDiff,Nat.reduceSub,reduceCtorEq,Int.reduceLT,hA',wPV])|((with_reducible refine Qab (wone) ?_ ?_ ?_);(with_reducible rfl);rfl)|(with_reducible exact Qaa _ _ (by kernel_rfl))|(with_reducible refine And.intro (Qaa _ _ (by kernel_rfl)) ?_))
   have h1:=Qml (G:Int) 1
   have h2:decide ((1:Int)<0)=false:=rfl
   rw [h2]at h1
   have h3:(decide ((G:Int)<0)==false)= !decide ((G:Int)<0):=by cases decide ((G:Int)<0)<;>rfl
   rw [h3]at h1
   rw [h1]
   congr 1
   rw [Bool.eq_iff_iff,decide_eq_true_eq,beq_iff_eq]
   omega
end Go.Proofs.YtciddhkfbgkejaaGreatDoor

namespace Go.Vl
open Go.RowKit
section
variable {P:Program} {b:Frame} {a:Act} {k:List Item} {cs:List Frame} {w:World}
theorem Qex {c:Code}:step P (lone (b.atR a (.code (.scope c)::k)) cs w)= .next (lone (b.atR a (.code c:: .inScope c::k)) cs w):=
 step_lone_go (by simp [stepG,stepG.exec,Frame.atR])
theorem Qq7 {c:Code}:step P (lone (b.atR a (.inScope c::k)) cs w)= .next (lone (b.atR a k) cs w):=
 step_lone_go (by simp [stepG,stepG.exec,Frame.atR])
end
theorem Q86 {P:Program} {nt:Nat} {Q:Exit→St→Prop} {st:St} {c:Code} (h:Vwp P nt c (fun e s=>(∀l,e≠ .goto l)∧Q e s) st):Vwp P nt (.scope c) Q st:=fun C h1 h2 rd a w hr=>by
 subst h1;subst h2
 intro b k cs hro hb hroom
 obtain⟨e,a₁,w₁,⟨s,hq,hr1⟩,harr⟩:=h C rfl rfl rd a w hr b (.inScope c::k) cs hro hb hroom
 cases e with
 |normal=>exact⟨_,a₁,w₁,⟨s,hq.2,hr1⟩,.of_steps (.one (fenced_calm hb hroom rfl) Qex) (StepsIn.trans harr (.one (fenced_calm hb hroom rfl) Qq7))⟩
 |exit id=>exact⟨_,a₁,w₁,⟨s,hq.2,hr1⟩,.of_steps (.one (fenced_calm hb hroom rfl) Qex) ⟨fun k' hk=>harr.1 k' (by simp [exitTo,hk]),fun hr hk=>harr.2 hr (by simp [exitTo,hk])⟩⟩
 |goto l=>exact(hq.1 l rfl).elim
 |ret=>exact⟨_,a₁,w₁,⟨s,hq.2,hr1⟩,.of_steps (.one (fenced_calm hb hroom rfl) Qex) harr⟩
 |panic ch=>exact⟨_,a₁,w₁,⟨s,hq.2,hr1⟩,.of_steps (.one (fenced_calm hb hroom rfl) Qex) harr⟩
 |outgrown=>exact⟨_,a₁,w₁,⟨s,hq.2,hr1⟩,.of_steps (.one (fenced_calm hb hroom rfl) Qex) harr⟩
def Qky (P:Program) (tb:Tab) (nt:Nat) (ks:List Nat) (k:List It) (Q:Exit→St→Prop) (e:Exit) (s:St):Prop:=(∀l,e≠ .goto l)∧gleave P tb nt ks k Q e s
section
variable (P:Program) (tb:Tab) (nt:Nat) (ks:List Nat) (k:List It) (Q:Exit→St→Prop) (s:St)
theorem Qq8:Qky P tb nt ks k Q .normal s=go P tb nt ks k Q s:=by
 unfold Qky;rw [Qc6];exact propext ⟨fun h=>h.2,fun h=>⟨fun l=>by simp,h⟩⟩
theorem Qvq (i:Nat):Qky P tb nt ks k Q (.exit i) s=gleave P tb nt ks k Q (.exit i) s:=by
 unfold Qky;exact propext ⟨fun h=>h.2,fun h=>⟨fun l=>by simp,h⟩⟩
theorem Q0t:Qky P tb nt ks k Q .ret s=gleave P tb nt ks k Q .ret s:=by
 unfold Qky;exact propext ⟨fun h=>h.2,fun h=>⟨fun l=>by simp,h⟩⟩
end
attribute [go_sem] Qq8 Qvq Q0t List.append_eq
theorem Zoh {P:Program} {tb:Tab} {nt:Nat} {ks:List Nat} {k:List It} {Q:Exit→St→Prop} {st:St} (hm:P.follows .mixedOrders=true) {c:Code} (h:go P tb nt ks [.code c] (Qky P tb nt ks k Q) st):go P tb nt ks (.code (.scope c)::k) Q st:=by
 simp only [go,vx]at h ⊢
 refine Q86 (Qee (Qcv (tb:=tb) (ks:=ks) hm c _ _ h) ?_)
 intro e s q
 have q:gleave P tb nt ks [] (Qky P tb nt ks k Q) e s:=q
 simp only [gleave]at q
 exact q
end Go.Vl

namespace Go.Dg
def plQ (s:Sg) (a d:Int) (i:Nat):Int:=plP s a d i/(plG s a d 3:Int)
def plO (s:Sg) (a d:Int):Int:=s.o*d^5/(plG s a d 3:Int)
def Qrl (s:Sg) (a d:Int) (s':Sg) (a' d':Int):Bool:=decide (plQ s a d 0=plQ s' a' d' 0)&&(decide (plQ s a d 1=plQ s' a' d' 1)&&(decide (plQ s a d 2=plQ s' a' d' 2)&&decide (plO s a d=plO s' a' d')))
theorem Qtt (s:Sg) (a d:Int) (s':Sg) (a' d':Int):Qrl s a d s' a' d'=Qrl s' a' d' s a d:=by
 unfold Qrl
 rw [Bool.eq_iff_iff]
 simp only [Bool.and_eq_true,decide_eq_true_eq]
 constructor<;>(rintro⟨h1,h2,h3,h4⟩;exact⟨h1.symm,h2.symm,h3.symm,h4.symm⟩)
def Qfi (a b:Sg):Bool:=decide (a.t=b.f)&&Qrl a 1 1 b 0 1
def sg0:Sg:=⟨0,0,0,[],[],[]⟩
def vpAt (p:List Sg) (j:Nat):Bool:=Qa2 (p.getD j sg0)&&(decide (j=0)||Qfi (p.getD (j-1) sg0) (p.getD j sg0))
def vpTo (p:List Sg) (i:Nat):Bool:=(List.range i).all (vpAt p)
def Qbk (p:List Sg):Bool:=vpTo p p.length&&(decide (1≤p.length)&&decide (p.length≤256))
theorem Qim (p:List Sg) (i:Nat):vpTo p (i+1)=(vpTo p i&&vpAt p i):=by simp [vpTo,List.range_succ]
theorem Ziz {p:List Sg} {j m:Nat} (h:vpAt p j=false) (hm:j<m):vpTo p m=false:=by
 unfold vpTo
 rw [List.all_eq_false]
 exact⟨j,List.mem_range.2 hm,by simp [h]⟩
theorem Qfj {p:List Sg} {j:Nat} (h:vpAt p j=false) (hm:j<p.length):Qbk p=false:=by unfold Qbk;rw [Ziz h hm];rfl
theorem sgD {p:List Sg} {i:Nat} (h:i<p.length):p.getD i sg0=p[i]:=by rw [List.getD_eq_getElem?_getD,List.getElem?_eq_getElem h];rfl
theorem Qjr {p:List Sg} {i j:Nat} (h:vpTo p i=true) (hj:j<i):Qa2 (p.getD j sg0)=true:=by
 have:=List.all_eq_true.1 h j (List.mem_range.2 hj)
 unfold vpAt at this
 simp only [Bool.and_eq_true]at this
 exact this.1
theorem Qbu {s:Sg} (h:Qa2 s=true):(0≤s.f∧s.f<s.t∧s.t≤3600000∧1≤s.o∧s.o≤4294967296)∧(∀c∈s.ax,axOK c s.o=true)∧s.ax.foldl gcdL s.o.natAbs=1:=by
 unfold Qa2 rngS at h
 simp only [Bool.and_eq_true,decide_eq_true_eq,List.all_eq_true,beq_iff_eq]at h
 obtain⟨⟨h1,h2,h3,h4,h5⟩,h6,h7⟩:=h
 exact⟨⟨h1,h2,h3,h4,h5⟩,h6,h7⟩
theorem Qaw {c:List Int} {o:Int} (h:axOK c o=true):1≤c.length∧c.length≤6∧(1<c.length→c.getD (c.length-1) 0≠0)∧Qc8 c o c.length=true:=by
 unfold axOK Qjq at h
 simp only [Bool.and_eq_true,decide_eq_true_eq,Bool.or_eq_true,Bool.not_eq_true',beq_eq_false_iff_ne]at h
 obtain⟨⟨h1,h2,h3⟩,h4⟩:=h
 exact⟨h1,h2,fun h5=>h3.elim (fun h6=>by omega) id,h4⟩
theorem Qdg {s:Sg} (h:Qa2 s=true): ∀c∈s.ax,c.length≤6:=fun c hc=>(Qaw ((Qbu h).2.1 c hc)).2.1
theorem Qdv {s:Sg} (h:Qa2 s=true):1≤s.o:=(Qbu h).1.2.2.2.1
end Go.Dg

namespace Go.Dg
def few1 (s:Sg):Bool:=decide (s.x.length≤8)&&(decide (s.y.length≤8)&&decide (s.z.length≤8))
def fewB (p:List Sg) (m:Nat):Bool:=((p.take (m+1)).all few1)&&decide (p.length≤m)
theorem Qoc {p:List Sg} {m:Nat} (h:fewB p m=true):p.length≤m∧ ∀s∈p,∀c∈s.ax,c.length≤8:=by
 unfold fewB at h
 simp only [Bool.and_eq_true,decide_eq_true_eq]at h
 obtain⟨h1,h2⟩:=h
 rw [List.take_of_length_le (by omega)]at h1
 refine⟨h2,fun s hs c hc=> ?_⟩
 have:=List.all_eq_true.1 h1 s hs
 unfold few1 at this
 simp only [Bool.and_eq_true,decide_eq_true_eq]at this
 obtain⟨a1,a2,a3⟩:=this
 unfold Sg.ax at hc
 simp only [List.mem_cons,List.not_mem_nil,or_false]at hc
 rcases hc with rfl|rfl|rfl<;>assumption
theorem Qpq {p:List Sg} {m i:Nat} (hi:i<p.length) (hm:i≤m) (h:few1 p[i]=false):fewB p m=false:=by
 unfold fewB
 have:(p.take (m+1)).all few1=false:=by
  rw [List.all_eq_false]
  refine⟨p[i],?_,by simp [h]⟩
  rw [List.mem_take_iff_getElem]
  exact⟨i,by omega,rfl⟩
 rw [this];rfl
end Go.Dg

namespace Go.Dg

def cwB:Bool:=(List.range 6).all fun n=>(List.range (n+1)).all fun j=>(List.range (j+1)).all fun k=>Nat.beq (bin n j*cw n j k) (60*bin (n-k) (j-k))
theorem Q9t:cwB=true:=by decide
theorem Zsa {n j k:Nat} (hn:n≤5) (hj:j≤n) (hk:k≤j):bin n j*cw n j k=60*bin (n-k) (j-k):=by
  have h:=Q9t
  unfold cwB at h
  simp only [List.all_eq_true,List.mem_range]at h
  exact Nat.eq_of_beq_eq_true (h n (by omega) j (by omega) k (by omega))
theorem Qx4 (f:List Int) (n j:Nat) (h:j<n+1):(trans f 1 n).getD j 0=sm (fun i=>f.getD i 0*(bin (n-i) (j-i):Int)) (j+1):=by
  unfold trans
  rw [Q1r,if_pos h]
  refine Qcf _ fun i _=> ?_
  rw [Int.one_pow,Int.one_mul]
theorem Q1t {c:List Int} {n j:Nat} (hc:c.length=n+1) (hn:n≤5) (hj:j≤n):(bin n j:Int)*ctl c j=60*(trans c 1 n).getD j 0:=by
  rw [Qx4 c n j (by omega),ctl,←Qen,←Qen]
  refine Qcf _ fun k hk=> ?_
  have h:=Zsa hn hj (show k≤j by omega)
  have hn':c.length-1=n:=by omega
  rw [hn']
  have h2:((bin n j:Nat):Int)*(cw n j k:Int)=60*(bin (n-k) (j-k):Int):=by
    rw [←Int.natCast_mul,h,Int.natCast_mul];rfl
  calc (bin n j:Int)*(c.getD k 0*(cw n j k:Int))=c.getD k 0*((bin n j:Int)*(cw n j k:Int)):=by
        rw [←Int.mul_assoc,Int.mul_comm (bin n j:Int),Int.mul_assoc]
    _=c.getD k 0*(60*(bin (n-k) (j-k):Int)):=by rw [h2]
    _=60*(c.getD k 0*(bin (n-k) (j-k):Int)):=by rw [←Int.mul_assoc,Int.mul_comm (c.getD k 0),Int.mul_assoc]
theorem Zi0 {c:List Int} {n:Nat} (hc:c.length=n+1) (hn:n≤5) (a b:Int):60*hev c a (a+b)=sm (fun j=>ctl c j*((bin n j:Int)*(a^j*b^(n-j)))) (n+1):=by
  have h:=Qx3 hc 1 a b
  rw [Int.one_mul]at h
  rw [←h,Qrj,Qrk,←Qen]
  refine Qcf _ fun j hj=> ?_
  have h2:=Q1t hc hn (show j≤n by omega)
  have e:n+1-1-j=n-j:=by omega
  rw [e,←Int.mul_assoc 60,←h2,Int.mul_comm (bin n j:Int),Int.mul_assoc]
theorem Q1u {c:List Int} {n:Nat} {M a b:Int} (hc:c.length=n+1) (hn:n≤5) (ha:0≤a) (hb:0≤b) (hM: ∀j,j≤n→ -M≤ctl c j∧ctl c j≤M):
    -(M*(a+b)^n)≤60*hev c a (a+b)∧60*hev c a (a+b)≤M*(a+b)^n:=by
  have hw: ∀j,0≤(bin n j:Int)*(a^j*b^(n-j)):=fun j=>Int.mul_nonneg (Int.natCast_nonneg _) (Int.mul_nonneg (Int.pow_nonneg ha) (Int.pow_nonneg hb))
  rw [Zi0 hc hn,←Qtr a b n,←Qen]
  constructor
  · have e: -(sm (fun i=>M*((bin n i:Int)*(a^i*b^(n-i)))) (n+1))=sm (fun i=> -M*((bin n i:Int)*(a^i*b^(n-i)))) (n+1):=by
      rw [Qen,Qen,Int.neg_mul]
    rw [e]
    exact Ziv _ fun j hj=>Int.mul_le_mul_of_nonneg_right (hM j (by omega)).1 (hw j)
  · exact Ziv _ fun j hj=>Int.mul_le_mul_of_nonneg_right (hM j (by omega)).2 (hw j)
theorem Zi1 {c:List Int} {n:Nat} (hc:c.length=n+1) (hn:n≤5) (a d:Int):plc c a d=d^(5-n)*hev c a d:=by
  rw [Qrj,←Qen,plc]
  refine Qcf _ fun k hk=> ?_
  have e:5-k=(5-n)+(c.length-1-k):=by omega
  unfold plcT
  rw [e,Int.pow_add]
  generalize d^(5-n)=D
  generalize d^(c.length-1-k)=E
  generalize a^k=A
  generalize c.getD k 0=X
  rw [←Int.mul_assoc,←Int.mul_assoc,←Int.mul_assoc,←Int.mul_assoc,Int.mul_comm D X,Int.mul_assoc X A D,Int.mul_comm A D,←Int.mul_assoc]
theorem Q1v {c:List Int} {o a d:Int} (h:axOK c o=true) (ha:0≤a) (hd:a≤d): -(1048576*(o*d^5))≤plc c a d∧plc c a d≤1048576*(o*d^5):=by
  obtain⟨h1,h2,_,h3⟩:=Qaw h
  obtain⟨n,hn⟩: ∃n,c.length=n+1:=⟨c.length-1,by omega⟩
  have hM: ∀j,j≤n→ -(62914560*o)≤ctl c j∧ctl c j≤62914560*o:=by
    intro j hj
    unfold Qc8 at h3
    have:=List.all_eq_true.1 h3 j (List.mem_range.2 (by omega))
    simp only [decide_eq_true_eq]at this
    omega
  obtain⟨k1,k2⟩:=Q1u hn (by omega) ha (show 0≤d-a by omega) hM
  have e:a+(d-a)=d:=by omega
  rw [e]at k1 k2
  rw [Zi1 hn (by omega)]
  have hd0:0≤d^(5-n):=Int.pow_nonneg (by omega)
  have e5:d^5=d^(5-n)*d^n:=by rw [←Int.pow_add];congr 1;omega
  have k3: -(1048576*(o*d^n))≤hev c a d:=by
    have:62914560*o*d^n=60*(1048576*(o*d^n)):=by
      generalize d^n=D
      rw [Int.mul_assoc,show(62914560:Int)=60*1048576 from rfl,Int.mul_assoc]
    omega
  have k4:hev c a d≤1048576*(o*d^n):=by
    have:62914560*o*d^n=60*(1048576*(o*d^n)):=by
      generalize d^n=D
      rw [Int.mul_assoc,show(62914560:Int)=60*1048576 from rfl,Int.mul_assoc]
    omega
  have e6:1048576*(o*d^5)=d^(5-n)*(1048576*(o*d^n)):=by
    rw [e5]
    generalize d^(5-n)=D
    generalize d^n=E
    rw [←Int.mul_assoc o,Int.mul_comm o D,Int.mul_assoc D,←Int.mul_assoc 1048576,Int.mul_comm 1048576 D,Int.mul_assoc]
  rw [e6]
  constructor
  · rw [←Int.mul_neg];exact Int.mul_le_mul_of_nonneg_left k3 hd0
  · exact Int.mul_le_mul_of_nonneg_left k4 hd0
theorem Zi2 (s:Sg) (a d:Int):(plG s a d 3:Int)∣s.o*d^5∧ ∀i,i<3→(plG s a d 3:Int)∣plP s a d i:=by
  have h3:=Qfv s a d 2
  have h2:=Qfv s a d 1
  have h1:=Qfv s a d 0
  have d32:plG s a d 3∣plG s a d 2:=by rw [h3];exact Nat.gcd_dvd_left _ _
  have d21:plG s a d 2∣plG s a d 1:=by rw [h2];exact Nat.gcd_dvd_left _ _
  have d10:plG s a d 1∣plG s a d 0:=by rw [h1];exact Nat.gcd_dvd_left _ _
  have p2:plG s a d 3∣(plP s a d 2).natAbs:=by rw [h3];exact Nat.gcd_dvd_right _ _
  have p1:plG s a d 2∣(plP s a d 1).natAbs:=by rw [h2];exact Nat.gcd_dvd_right _ _
  have p0:plG s a d 1∣(plP s a d 0).natAbs:=by rw [h1];exact Nat.gcd_dvd_right _ _
  refine⟨?_,fun i hi=> ?_⟩
  · have:plG s a d 3∣(s.o*d^5).natAbs:=Nat.dvd_trans d32 (Nat.dvd_trans d21 d10)
    exact Int.dvd_natAbs.1 (Int.natCast_dvd_natCast.2 this)
  · rcases(show i=0∨i=1∨i=2 by omega)with rfl|rfl|rfl
    · exact Int.dvd_natAbs.1 (Int.natCast_dvd_natCast.2 (Nat.dvd_trans (Nat.dvd_trans d32 d21) p0))
    · exact Int.dvd_natAbs.1 (Int.natCast_dvd_natCast.2 (Nat.dvd_trans d32 p1))
    · exact Int.dvd_natAbs.1 (Int.natCast_dvd_natCast.2 p2)
/-- A coordinate of a place is within the bounds. -/
theorem Q1w {s:Sg} {a d:Int} (hv:Qa2 s=true) (ha:0≤a) (hd:a≤d) (h1:1≤d) (i:Nat) (hi:i<3):0<plO s a d∧ -(1048576*plO s a d)≤plQ s a d i∧plQ s a d i≤1048576*plO s a d:=by
  have ho:=Qdv hv
  have hg:=Qts ho h1 3 (s:=s) (a:=a)
  obtain⟨⟨x,hx⟩,hP⟩:=Zi2 s a d
  obtain⟨y,hy⟩:=hP i hi
  have hi':i<s.ax.length:=hi
  have hm:s.ax.getD i []=s.ax[i]:=by rw [List.getD_eq_getElem?_getD,List.getElem?_eq_getElem hi'];rfl
  have hb:=Q1v ((Qbu hv).2.1 _ (List.getElem_mem hi')) ha hd
  have hP2:plP s a d i=plc s.ax[i] a d:=by unfold plP;rw [hm]
  rw [←hP2]at hb
  unfold plO plQ
  have hpos:0<s.o*d^5:=Int.mul_pos (by omega) (Int.pow_pos (by omega))
  rw [hx]at hb hpos ⊢
  rw [hy]at hb ⊢
  have hG:(0:Int)<(plG s a d 3:Int):=by omega
  generalize ((plG s a d 3:Nat):Int)=G at*
  rw [Int.mul_ediv_cancel_left _ (by omega),Int.mul_ediv_cancel_left _ (by omega)]
  have e:1048576*(G*x)=G*(1048576*x):=by rw [←Int.mul_assoc,Int.mul_comm 1048576 G,Int.mul_assoc]
  rw [e,←Int.mul_neg]at hb
  exact⟨Int.lt_of_mul_lt_mul_left (a:=G) (by rw [Int.mul_zero];exact hpos) (Int.le_of_lt hG),Int.le_of_mul_le_mul_left hb.1 hG,Int.le_of_mul_le_mul_left hb.2 hG⟩
/-- Rounding. -/
def rnd (x o:Int):Int:=(x+x+o)/(o+o)
theorem Q1x {x o:Int} (ho:0<o) (h1: -(1048576*o)≤x) (h2:x≤1048576*o): -1048576≤rnd x o∧rnd x o≤1048576:=by
  unfold rnd
  constructor
  · exact(Int.le_ediv_iff_mul_le (by omega)).2 (by omega)
  · have:=(Int.ediv_lt_iff_lt_mul (a:=x+x+o) (b:=1048577) (show 0<o+o by omega)).2 (by omega)
    omega
/-! ### times -/
theorem Qbx {p:List Sg} (h:Qbk p=true):vpTo p p.length=true∧1≤p.length∧p.length≤256:=by
  unfold Qbk at h
  simp only [Bool.and_eq_true,decide_eq_true_eq]at h
  exact h
theorem Qeo {p:List Sg} (h:Qbk p=true) (i:Nat) (hi:i<p.length):Qa2 p[i]=true:=by
  have:=Qjr (Qbx h).1 hi
  rwa [sgD hi]at this
theorem Qkg {p:List Sg} (h:Qbk p=true) (i:Nat) (hi:i+1<p.length):Qfi p[i] p[i+1]=true:=by
  have h1:=(Qbx h).1
  unfold vpTo at h1
  have:=List.all_eq_true.1 h1 (i+1) (List.mem_range.2 hi)
  unfold vpAt at this
  simp only [Bool.and_eq_true,Bool.or_eq_true,decide_eq_true_eq]at this
  have h2:=this.2.resolve_left (by omega)
  rwa [Nat.add_sub_cancel,sgD (show i<p.length by omega),sgD hi]at h2
theorem Ql7 {a b:Sg} (h:Qfi a b=true):a.t=b.f:=by
  unfold Qfi at h
  simp only [Bool.and_eq_true,decide_eq_true_eq]at h
  exact h.1
theorem Qtu {p:List Sg} (h:Qbk p=true) (i:Nat) (hi:i+1<p.length):p[i].t<p[i+1].t:=by
  have h1:=Ql7 (Qkg h i hi)
  have h2:=(Qbu (Qeo h (i+1) hi)).1
  omega
theorem Ql8 {p:List Sg} (h:Qbk p=true): ∀(j i:Nat) (hj:j<p.length) (_:i≤j),(p[i]'(by omega)).t≤p[j].t
  |0,i,hj,hij=>by
        obtain rfl:i=0:=by omega
        exact Int.le_refl _
  |j+1,i,hj,hij=>by
    by_cases e:i=j+1
    · subst e;exact Int.le_refl _
    · have h1:=Ql8 h j i (by omega) (by omega)
      have h2:=Qtu h j hj
      omega
/-- The segment of a time. -/
def atIx (p:List Sg) (t:Int):Nat:=p.findIdx fun s=>decide (t≤s.t)
def pEnd (p:List Sg):Int:=(p.getD (p.length-1) sg0).t
def pBeg (p:List Sg):Int:=(p.getD 0 sg0).f
theorem Zi3 {p:List Sg} {t:Int} (h:Qbk p=true) (ht:t≤pEnd p):atIx p t<p.length:=by
  have hl:=(Qbx h).2.1
  unfold atIx
  rw [List.findIdx_lt_length]
  have hi:p.length-1<p.length:=by omega
  refine⟨p[p.length-1],List.getElem_mem hi,?_⟩
  unfold pEnd at ht
  rw [sgD hi]at ht
  exact decide_eq_true ht
theorem Qtv {p:List Sg} {t:Int} (hi:atIx p t<p.length):t≤(p[atIx p t]).t:=by
  have:=List.findIdx_getElem (w:=hi)
  exact of_decide_eq_true this
theorem Qh8 {p:List Sg} {t:Int} {i:Nat} (hi:i<atIx p t) (hl:i<p.length):p[i].t<t:=by
  have:=List.not_of_lt_findIdx hi
  exact Int.not_le.1 (of_decide_eq_false this)
theorem Q1y {p:List Sg} {t:Int} (h:Qbk p=true) (hb:pBeg p≤t) (hi:atIx p t<p.length):(p[atIx p t]).f≤t:=by
  rcases Nat.eq_zero_or_pos (atIx p t)with e|e
  · unfold pBeg at hb
    have h0:0<p.length:=by omega
    rw [sgD h0]at hb
    simp only [e]
    exact hb
  · have h1:=Qh8 (p:=p) (t:=t) (i:=atIx p t-1) (by omega) (by omega)
    have h2:=Ql7 (Qkg h (atIx p t-1) (by omega))
    have e2:atIx p t-1+1=atIx p t:=by omega
    simp only [e2]at h2
    omega
end Go.Dg

namespace Go.Dg
def nxE (out:List Int) (a b:Int) (k j:Nat):Int:=(if j<k then out.getD j 0*a else 0)+(if 0<j∧j≤k then out.getD (j-1) 0*b else 0)
def nxL (out:List Int) (a b:Int) (k:Nat):List Int:=(List.range (out.length+1)).map (nxE out a b k)
def hstep (out:List Int) (a b c:Int):List Int:=(nxL out a b out.length).set 0 ((nxL out a b out.length).getD 0 0+c)
end Go.Dg

namespace Go.Dg
end Go.Dg

namespace Go.Dg
end Go.Dg

namespace Go.Dg
theorem Qdb {x K:Int} (h:(x.natAbs:Int)≤K): -K≤x∧x≤K:=by omega
theorem Zi4 {c:List Int} {o:Int} (h:Qc8 c o c.length=true) (j:Nat) (hj:j<c.length):((ctl c j).natAbs:Int)≤62914560*o:=by
 unfold Qc8 at h
 rw [List.all_eq_true]at h
 exact of_decide_eq_true (h j (List.mem_range.2 hj))
end Go.Dg

namespace Go.Dg
def coQ (c:List Int) (o:Int) (i:Nat):Rat:=((c.getD i 0:Int):Rat)/(o:Rat)
def ikQ (i k:Nat):Rat:=(((i:Int)*(k:Int):Int):Rat)/(((i:Int)+(k:Int)-1:Int):Rat)
def sqT (c:List Int) (o:Int) (i k:Nat):Rat:=coQ c o i*coQ c o k*ikQ i k
def sqR (c:List Int) (o:Int) (i k:Nat):Rat:=qs (fun j=>sqT c o i (j+1)) k
def sqS (c:List Int) (o:Int) (i:Nat):Rat:=qs (fun j=>sqR c o (j+1) (c.length-1)) i
def sqQ (c:List Int) (o:Int):Rat:=sqS c o (c.length-1)
def wyS (c:List Int) (o:Int) (n:Nat):Rat:=qs (fun j=>coQ c o (j+1)) n
def wayQ (c:List Int) (o:Int):Rat:=wyS c o (c.length-1)
theorem Q04:ikQ 1 1=1:=by decide+kernel
theorem Q9c:ikQ 1 2=1:=by decide+kernel
theorem Zij:ikQ 1 3=1:=by decide+kernel
theorem Zoq:ikQ 1 4=1:=by decide+kernel
theorem Zr0:ikQ 1 5=1:=by decide+kernel
theorem Q9d:ikQ 2 1=1:=by decide+kernel
theorem Q9e:ikQ 2 2=(4/3):=by decide+kernel
theorem Zik:ikQ 2 3=(3/2):=by decide+kernel
theorem Zor:ikQ 2 4=(8/5):=by decide+kernel
theorem Zr1:ikQ 2 5=(5/3):=by decide+kernel
theorem Zil:ikQ 3 1=1:=by decide+kernel
theorem Zim:ikQ 3 2=(3/2):=by decide+kernel
theorem Zin:ikQ 3 3=(9/5):=by decide+kernel
theorem Zos:ikQ 3 4=2:=by decide+kernel
theorem Zr2:ikQ 3 5=(15/7):=by decide+kernel
theorem Zot:ikQ 4 1=1:=by decide+kernel
theorem Zou:ikQ 4 2=(8/5):=by decide+kernel
theorem Zov:ikQ 4 3=2:=by decide+kernel
theorem Zow:ikQ 4 4=(16/7):=by decide+kernel
theorem Zr3:ikQ 4 5=(5/2):=by decide+kernel
theorem Zr4:ikQ 5 1=1:=by decide+kernel
theorem Zr5:ikQ 5 2=(5/3):=by decide+kernel
theorem Zr6:ikQ 5 3=(15/7):=by decide+kernel
theorem Zr7:ikQ 5 4=(5/2):=by decide+kernel
theorem Zr8:ikQ 5 5=(25/9):=by decide+kernel
theorem Qh6 (c:List Int) (o:Int) (i:Nat) (x:Int) (h:c.getD i 0=x):coQ c o i=(x:Rat)/(o:Rat):=by rw [coQ,h]
theorem Qfd {x o:Int} (ho:0<o) (h1: -(125829120*o)≤x) (h2:x≤125829120*o): -2097152≤(x:Rat)/(60*(o:Rat))∧(x:Rat)/(60*(o:Rat))≤2097152:=by
 have o0:(0:Rat)<(o:Rat):=by exact_mod_cast ho
 have h1':=Rat.intCast_le_intCast.2 h1
 simp only [Rat.intCast_neg,Rat.intCast_mul,Rat.intCast_ofNat]at h1'
 have h2':=Rat.intCast_le_intCast.2 h2
 simp only [Rat.intCast_mul,Rat.intCast_ofNat]at h2'
 have e:(x:Rat)/(60*(o:Rat))*(60*(o:Rat))=(x:Rat):=Rat.div_mul_cancel (by grind)
 have p:(0:Rat)<60*(o:Rat):=by grind
 generalize (x:Rat)/(60*(o:Rat))=q at*
 refine⟨Rat.le_of_mul_le_mul_right (c:=60*(o:Rat)) ?_ p,Rat.le_of_mul_le_mul_right (c:=60*(o:Rat)) ?_ p⟩<;>grind
theorem axB1 {a0 a1 o:Int} (ho:0<o) (h: ∀j,j<2→((ctl [a0,a1] j).natAbs:Int)≤62914560*o):
  wayQ [a0,a1] o*wayQ [a0,a1] o≤sqQ [a0,a1] o∧sqQ [a0,a1] o≤1*(2097152*2097152)∧ -2097152≤wayQ [a0,a1] o∧wayQ [a0,a1] o≤2097152:=by
 have o0:(0:Rat)<(o:Rat):=by exact_mod_cast ho
 have c0:ctl [a0,a1] 0=a0*60:=by simp [ctl,sm,cw,bin]
 have g0:=Qdb (h 0 (by decide))
 rw [c0]at g0
 have c1:ctl [a0,a1] 1=a0*60+a1*60:=by simp [ctl,sm,cw,bin]
 have g1:=Qdb (h 1 (by decide))
 rw [c1]at g1
 have x1:coQ [a0,a1] o 1=(a1:Rat)/(o:Rat):=Qh6 _ _ _ _ rfl
 have d0:=Qfd (x:=(a0*60+a1*60)-(a0*60)) ho (by omega) (by omega)
 have e0:((((a0*60+a1*60)-(a0*60):Int)):Rat)/(60*(o:Rat))=(a1:Rat)/(o:Rat)*1:=by simp only [Rat.intCast_add,Rat.intCast_sub,Rat.intCast_mul,Rat.intCast_ofNat];grind
 have dw:=Qfd (x:=(a0*60+a1*60)-(a0*60)) ho (by omega) (by omega)
 have ew:((((a0*60+a1*60)-(a0*60):Int)):Rat)/(60*(o:Rat))=(a1:Rat)/(o:Rat):=by simp only [Rat.intCast_add,Rat.intCast_sub,Rat.intCast_mul,Rat.intCast_ofNat];grind
 have hw:wayQ [a0,a1] o=(a1:Rat)/(o:Rat):=by
  show wyS [a0,a1] o 1=_
  simp only [wyS,qs,Nat.zero_add,Nat.reduceAdd,x1,Rat.zero_add]
 have hs:sqQ [a0,a1] o=(a1:Rat)/(o:Rat)*((a1:Rat)/(o:Rat))*1:=by
  show qs (fun j=>qs (fun m=>sqT [a0,a1] o (j+1) (m+1)) 1) 1=_
  simp only [qs,sqT,Nat.zero_add,Nat.reduceAdd,x1,Q04,Rat.zero_add]
 rw [e0]at d0
 rw [ew]at dw
 rw [hw,hs]
 clear hw hs e0 x1 ew h c0 c1 g0 g1
 generalize (a1:Rat)/(o:Rat)=r1 at*
 have hu:=Zol (K:=2097152) (d0:=r1*1) rfl d0
 have hl:=Qrd r1 0 0 0 0
 refine⟨by grind,by grind,by grind,by grind⟩
theorem axB2 {a0 a1 a2 o:Int} (ho:0<o) (h: ∀j,j<3→((ctl [a0,a1,a2] j).natAbs:Int)≤62914560*o):
  wayQ [a0,a1,a2] o*wayQ [a0,a1,a2] o≤sqQ [a0,a1,a2] o∧sqQ [a0,a1,a2] o≤4*(2097152*2097152)∧ -2097152≤wayQ [a0,a1,a2] o∧wayQ [a0,a1,a2] o≤2097152:=by
 have o0:(0:Rat)<(o:Rat):=by exact_mod_cast ho
 have c0:ctl [a0,a1,a2] 0=a0*60:=by simp [ctl,sm,cw,bin]
 have g0:=Qdb (h 0 (by decide))
 rw [c0]at g0
 have c1:ctl [a0,a1,a2] 1=a0*60+a1*30:=by simp [ctl,sm,cw,bin]
 have g1:=Qdb (h 1 (by decide))
 rw [c1]at g1
 have c2:ctl [a0,a1,a2] 2=a0*60+a1*60+a2*60:=by simp [ctl,sm,cw,bin]
 have g2:=Qdb (h 2 (by decide))
 rw [c2]at g2
 have x1:coQ [a0,a1,a2] o 1=(a1:Rat)/(o:Rat):=Qh6 _ _ _ _ rfl
 have x2:coQ [a0,a1,a2] o 2=(a2:Rat)/(o:Rat):=Qh6 _ _ _ _ rfl
 have d0:=Qfd (x:=(a0*60+a1*30)-(a0*60)) ho (by omega) (by omega)
 have e0:((((a0*60+a1*30)-(a0*60):Int)):Rat)/(60*(o:Rat))=(a1:Rat)/(o:Rat)*(1/2):=by simp only [Rat.intCast_add,Rat.intCast_sub,Rat.intCast_mul,Rat.intCast_ofNat];grind
 have d1:=Qfd (x:=(a0*60+a1*60+a2*60)-(a0*60+a1*30)) ho (by omega) (by omega)
 have e1:((((a0*60+a1*60+a2*60)-(a0*60+a1*30):Int)):Rat)/(60*(o:Rat))=(a1:Rat)/(o:Rat)*(1/2)+(a2:Rat)/(o:Rat)*1:=by simp only [Rat.intCast_add,Rat.intCast_sub,Rat.intCast_mul,Rat.intCast_ofNat];grind
 have dw:=Qfd (x:=(a0*60+a1*60+a2*60)-(a0*60)) ho (by omega) (by omega)
 have ew:((((a0*60+a1*60+a2*60)-(a0*60):Int)):Rat)/(60*(o:Rat))=(a1:Rat)/(o:Rat)+(a2:Rat)/(o:Rat):=by simp only [Rat.intCast_add,Rat.intCast_sub,Rat.intCast_mul,Rat.intCast_ofNat];grind
 have hw:wayQ [a0,a1,a2] o=(a1:Rat)/(o:Rat)+(a2:Rat)/(o:Rat):=by
  show wyS [a0,a1,a2] o 2=_
  simp only [wyS,qs,Nat.zero_add,Nat.reduceAdd,x1,x2,Rat.zero_add]
 have hs:sqQ [a0,a1,a2] o=(a1:Rat)/(o:Rat)*((a1:Rat)/(o:Rat))*1+(a1:Rat)/(o:Rat)*((a2:Rat)/(o:Rat))*1+(a2:Rat)/(o:Rat)*((a1:Rat)/(o:Rat))*1+(a2:Rat)/(o:Rat)*((a2:Rat)/(o:Rat))*(4/3):=by
  show qs (fun j=>qs (fun m=>sqT [a0,a1,a2] o (j+1) (m+1)) 2) 2=_
  simp only [qs,sqT,Nat.zero_add,Nat.reduceAdd,x1,x2,Q04,Q9c,Q9d,Q9e,Rat.zero_add]
  grind
 rw [e0]at d0
 rw [e1]at d1
 rw [ew]at dw
 rw [hw,hs]
 clear hw hs e0 e1 x1 x2 ew h c0 c1 c2 g0 g1 g2
 generalize (a1:Rat)/(o:Rat)=r1 at*
 generalize (a2:Rat)/(o:Rat)=r2 at*
 have hu:=Zom (K:=2097152) (d0:=r1*(1/2)) (d1:=r1*(1/2)+r2*1) rfl rfl d0 d1
 have hl:=Qrd r1 r2 0 0 0
 refine⟨by grind,by grind,by grind,by grind⟩
theorem axB3 {a0 a1 a2 a3 o:Int} (ho:0<o) (h: ∀j,j<4→((ctl [a0,a1,a2,a3] j).natAbs:Int)≤62914560*o):
  wayQ [a0,a1,a2,a3] o*wayQ [a0,a1,a2,a3] o≤sqQ [a0,a1,a2,a3] o∧sqQ [a0,a1,a2,a3] o≤9*(2097152*2097152)∧ -2097152≤wayQ [a0,a1,a2,a3] o∧wayQ [a0,a1,a2,a3] o≤2097152:=by
 have o0:(0:Rat)<(o:Rat):=by exact_mod_cast ho
 have c0:ctl [a0,a1,a2,a3] 0=a0*60:=by simp [ctl,sm,cw,bin]
 have g0:=Qdb (h 0 (by decide))
 rw [c0]at g0
 have c1:ctl [a0,a1,a2,a3] 1=a0*60+a1*20:=by simp [ctl,sm,cw,bin]
 have g1:=Qdb (h 1 (by decide))
 rw [c1]at g1
 have c2:ctl [a0,a1,a2,a3] 2=a0*60+a1*40+a2*20:=by simp [ctl,sm,cw,bin]
 have g2:=Qdb (h 2 (by decide))
 rw [c2]at g2
 have c3:ctl [a0,a1,a2,a3] 3=a0*60+a1*60+a2*60+a3*60:=by simp [ctl,sm,cw,bin]
 have g3:=Qdb (h 3 (by decide))
 rw [c3]at g3
 have x1:coQ [a0,a1,a2,a3] o 1=(a1:Rat)/(o:Rat):=Qh6 _ _ _ _ rfl
 have x2:coQ [a0,a1,a2,a3] o 2=(a2:Rat)/(o:Rat):=Qh6 _ _ _ _ rfl
 have x3:coQ [a0,a1,a2,a3] o 3=(a3:Rat)/(o:Rat):=Qh6 _ _ _ _ rfl
 have d0:=Qfd (x:=(a0*60+a1*20)-(a0*60)) ho (by omega) (by omega)
 have e0:((((a0*60+a1*20)-(a0*60):Int)):Rat)/(60*(o:Rat))=(a1:Rat)/(o:Rat)*(1/3):=by simp only [Rat.intCast_add,Rat.intCast_sub,Rat.intCast_mul,Rat.intCast_ofNat];grind
 have d1:=Qfd (x:=(a0*60+a1*40+a2*20)-(a0*60+a1*20)) ho (by omega) (by omega)
 have e1:((((a0*60+a1*40+a2*20)-(a0*60+a1*20):Int)):Rat)/(60*(o:Rat))=(a1:Rat)/(o:Rat)*(1/3)+(a2:Rat)/(o:Rat)*(1/3):=by simp only [Rat.intCast_add,Rat.intCast_sub,Rat.intCast_mul,Rat.intCast_ofNat];grind
 have d2:=Qfd (x:=(a0*60+a1*60+a2*60+a3*60)-(a0*60+a1*40+a2*20)) ho (by omega) (by omega)
 have e2:((((a0*60+a1*60+a2*60+a3*60)-(a0*60+a1*40+a2*20):Int)):Rat)/(60*(o:Rat))=(a1:Rat)/(o:Rat)*(1/3)+(a2:Rat)/(o:Rat)*(2/3)+(a3:Rat)/(o:Rat)*1:=by simp only [Rat.intCast_add,Rat.intCast_sub,Rat.intCast_mul,Rat.intCast_ofNat];grind
 have dw:=Qfd (x:=(a0*60+a1*60+a2*60+a3*60)-(a0*60)) ho (by omega) (by omega)
 have ew:((((a0*60+a1*60+a2*60+a3*60)-(a0*60):Int)):Rat)/(60*(o:Rat))=(a1:Rat)/(o:Rat)+(a2:Rat)/(o:Rat)+(a3:Rat)/(o:Rat):=by simp only [Rat.intCast_add,Rat.intCast_sub,Rat.intCast_mul,Rat.intCast_ofNat];grind
 have hw:wayQ [a0,a1,a2,a3] o=(a1:Rat)/(o:Rat)+(a2:Rat)/(o:Rat)+(a3:Rat)/(o:Rat):=by
  show wyS [a0,a1,a2,a3] o 3=_
  simp only [wyS,qs,Nat.zero_add,Nat.reduceAdd,x1,x2,x3,Rat.zero_add]
 have hs:sqQ [a0,a1,a2,a3] o=(a1:Rat)/(o:Rat)*((a1:Rat)/(o:Rat))*1+(a1:Rat)/(o:Rat)*((a2:Rat)/(o:Rat))*1+(a1:Rat)/(o:Rat)*((a3:Rat)/(o:Rat))*1+(a2:Rat)/(o:Rat)*((a1:Rat)/(o:Rat))*1+(a2:Rat)/(o:Rat)*((a2:Rat)/(o:Rat))*(4/3)+(a2:Rat)/(o:Rat)*((a3:Rat)/(o:Rat))*(3/2)+(a3:Rat)/(o:Rat)*((a1:Rat)/(o:Rat))*1+(a3:Rat)/(o:Rat)*((a2:Rat)/(o:Rat))*(3/2)+(a3:Rat)/(o:Rat)*((a3:Rat)/(o:Rat))*(9/5):=by
  show qs (fun j=>qs (fun m=>sqT [a0,a1,a2,a3] o (j+1) (m+1)) 3) 3=_
  simp only [qs,sqT,Nat.zero_add,Nat.reduceAdd,x1,x2,x3,Q04,Q9c,Zij,Q9d,Q9e,Zik,Zil,Zim,Zin,Rat.zero_add]
  grind
 rw [e0]at d0
 rw [e1]at d1
 rw [e2]at d2
 rw [ew]at dw
 rw [hw,hs]
 clear hw hs e0 e1 e2 x1 x2 x3 ew h c0 c1 c2 c3 g0 g1 g2 g3
 generalize (a1:Rat)/(o:Rat)=r1 at*
 generalize (a2:Rat)/(o:Rat)=r2 at*
 generalize (a3:Rat)/(o:Rat)=r3 at*
 have hu:=Zon (K:=2097152) (d0:=r1*(1/3)) (d1:=r1*(1/3)+r2*(1/3)) (d2:=r1*(1/3)+r2*(2/3)+r3*1) rfl rfl rfl d0 d1 d2
 have hl:=Qrd r1 r2 r3 0 0
 refine⟨by grind,by grind,by grind,by grind⟩
theorem axB4 {a0 a1 a2 a3 a4 o:Int} (ho:0<o) (h: ∀j,j<5→((ctl [a0,a1,a2,a3,a4] j).natAbs:Int)≤62914560*o):
  wayQ [a0,a1,a2,a3,a4] o*wayQ [a0,a1,a2,a3,a4] o≤sqQ [a0,a1,a2,a3,a4] o∧sqQ [a0,a1,a2,a3,a4] o≤16*(2097152*2097152)∧ -2097152≤wayQ [a0,a1,a2,a3,a4] o∧wayQ [a0,a1,a2,a3,a4] o≤2097152:=by
 have o0:(0:Rat)<(o:Rat):=by exact_mod_cast ho
 have c0:ctl [a0,a1,a2,a3,a4] 0=a0*60:=by simp [ctl,sm,cw,bin]
 have g0:=Qdb (h 0 (by decide))
 rw [c0]at g0
 have c1:ctl [a0,a1,a2,a3,a4] 1=a0*60+a1*15:=by simp [ctl,sm,cw,bin]
 have g1:=Qdb (h 1 (by decide))
 rw [c1]at g1
 have c2:ctl [a0,a1,a2,a3,a4] 2=a0*60+a1*30+a2*10:=by simp [ctl,sm,cw,bin]
 have g2:=Qdb (h 2 (by decide))
 rw [c2]at g2
 have c3:ctl [a0,a1,a2,a3,a4] 3=a0*60+a1*45+a2*30+a3*15:=by simp [ctl,sm,cw,bin]
 have g3:=Qdb (h 3 (by decide))
 rw [c3]at g3
 have c4:ctl [a0,a1,a2,a3,a4] 4=a0*60+a1*60+a2*60+a3*60+a4*60:=by simp [ctl,sm,cw,bin]
 have g4:=Qdb (h 4 (by decide))
 rw [c4]at g4
 have x1:coQ [a0,a1,a2,a3,a4] o 1=(a1:Rat)/(o:Rat):=Qh6 _ _ _ _ rfl
 have x2:coQ [a0,a1,a2,a3,a4] o 2=(a2:Rat)/(o:Rat):=Qh6 _ _ _ _ rfl
 have x3:coQ [a0,a1,a2,a3,a4] o 3=(a3:Rat)/(o:Rat):=Qh6 _ _ _ _ rfl
 have x4:coQ [a0,a1,a2,a3,a4] o 4=(a4:Rat)/(o:Rat):=Qh6 _ _ _ _ rfl
 have d0:=Qfd (x:=(a0*60+a1*15)-(a0*60)) ho (by omega) (by omega)
 have e0:((((a0*60+a1*15)-(a0*60):Int)):Rat)/(60*(o:Rat))=(a1:Rat)/(o:Rat)*(1/4):=by simp only [Rat.intCast_add,Rat.intCast_sub,Rat.intCast_mul,Rat.intCast_ofNat];grind
 have d1:=Qfd (x:=(a0*60+a1*30+a2*10)-(a0*60+a1*15)) ho (by omega) (by omega)
 have e1:((((a0*60+a1*30+a2*10)-(a0*60+a1*15):Int)):Rat)/(60*(o:Rat))=(a1:Rat)/(o:Rat)*(1/4)+(a2:Rat)/(o:Rat)*(1/6):=by simp only [Rat.intCast_add,Rat.intCast_sub,Rat.intCast_mul,Rat.intCast_ofNat];grind
 have d2:=Qfd (x:=(a0*60+a1*45+a2*30+a3*15)-(a0*60+a1*30+a2*10)) ho (by omega) (by omega)
 have e2:((((a0*60+a1*45+a2*30+a3*15)-(a0*60+a1*30+a2*10):Int)):Rat)/(60*(o:Rat))=(a1:Rat)/(o:Rat)*(1/4)+(a2:Rat)/(o:Rat)*(1/3)+(a3:Rat)/(o:Rat)*(1/4):=by simp only [Rat.intCast_add,Rat.intCast_sub,Rat.intCast_mul,Rat.intCast_ofNat];grind
 have d3:=Qfd (x:=(a0*60+a1*60+a2*60+a3*60+a4*60)-(a0*60+a1*45+a2*30+a3*15)) ho (by omega) (by omega)
 have e3:((((a0*60+a1*60+a2*60+a3*60+a4*60)-(a0*60+a1*45+a2*30+a3*15):Int)):Rat)/(60*(o:Rat))=(a1:Rat)/(o:Rat)*(1/4)+(a2:Rat)/(o:Rat)*(1/2)+(a3:Rat)/(o:Rat)*(3/4)+(a4:Rat)/(o:Rat)*1:=by simp only [Rat.intCast_add,Rat.intCast_sub,Rat.intCast_mul,Rat.intCast_ofNat];grind
 have dw:=Qfd (x:=(a0*60+a1*60+a2*60+a3*60+a4*60)-(a0*60)) ho (by omega) (by omega)
 have ew:((((a0*60+a1*60+a2*60+a3*60+a4*60)-(a0*60):Int)):Rat)/(60*(o:Rat))=(a1:Rat)/(o:Rat)+(a2:Rat)/(o:Rat)+(a3:Rat)/(o:Rat)+(a4:Rat)/(o:Rat):=by simp only [Rat.intCast_add,Rat.intCast_sub,Rat.intCast_mul,Rat.intCast_ofNat];grind
 have hw:wayQ [a0,a1,a2,a3,a4] o=(a1:Rat)/(o:Rat)+(a2:Rat)/(o:Rat)+(a3:Rat)/(o:Rat)+(a4:Rat)/(o:Rat):=by
  show wyS [a0,a1,a2,a3,a4] o 4=_
  simp only [wyS,qs,Nat.zero_add,Nat.reduceAdd,x1,x2,x3,x4,Rat.zero_add]
 have hs:sqQ [a0,a1,a2,a3,a4] o=(a1:Rat)/(o:Rat)*((a1:Rat)/(o:Rat))*1+(a1:Rat)/(o:Rat)*((a2:Rat)/(o:Rat))*1+(a1:Rat)/(o:Rat)*((a3:Rat)/(o:Rat))*1+(a1:Rat)/(o:Rat)*((a4:Rat)/(o:Rat))*1+(a2:Rat)/(o:Rat)*((a1:Rat)/(o:Rat))*1+(a2:Rat)/(o:Rat)*((a2:Rat)/(o:Rat))*(4/3)+(a2:Rat)/(o:Rat)*((a3:Rat)/(o:Rat))*(3/2)+(a2:Rat)/(o:Rat)*((a4:Rat)/(o:Rat))*(8/5)+(a3:Rat)/(o:Rat)*((a1:Rat)/(o:Rat))*1+(a3:Rat)/(o:Rat)*((a2:Rat)/(o:Rat))*(3/2)+(a3:Rat)/(o:Rat)*((a3:Rat)/(o:Rat))*(9/5)+(a3:Rat)/(o:Rat)*((a4:Rat)/(o:Rat))*2+(a4:Rat)/(o:Rat)*((a1:Rat)/(o:Rat))*1+(a4:Rat)/(o:Rat)*((a2:Rat)/(o:Rat))*(8/5)+(a4:Rat)/(o:Rat)*((a3:Rat)/(o:Rat))*2+(a4:Rat)/(o:Rat)*((a4:Rat)/(o:Rat))*(16/7):=by
  show qs (fun j=>qs (fun m=>sqT [a0,a1,a2,a3,a4] o (j+1) (m+1)) 4) 4=_
  simp only [qs,sqT,Nat.zero_add,Nat.reduceAdd,x1,x2,x3,x4,Q04,Q9c,Zij,Zoq,Q9d,Q9e,Zik,Zor,Zil,Zim,Zin,Zos,Zot,Zou,Zov,Zow,Rat.zero_add]
  grind
 rw [e0]at d0
 rw [e1]at d1
 rw [e2]at d2
 rw [e3]at d3
 rw [ew]at dw
 rw [hw,hs]
 clear hw hs e0 e1 e2 e3 x1 x2 x3 x4 ew h c0 c1 c2 c3 c4 g0 g1 g2 g3 g4
 generalize (a1:Rat)/(o:Rat)=r1 at*
 generalize (a2:Rat)/(o:Rat)=r2 at*
 generalize (a3:Rat)/(o:Rat)=r3 at*
 generalize (a4:Rat)/(o:Rat)=r4 at*
 have hu:=Zoo (K:=2097152) (d0:=r1*(1/4)) (d1:=r1*(1/4)+r2*(1/6)) (d2:=r1*(1/4)+r2*(1/3)+r3*(1/4)) (d3:=r1*(1/4)+r2*(1/2)+r3*(3/4)+r4*1) rfl rfl rfl rfl d0 d1 d2 d3
 have hl:=Qrd r1 r2 r3 r4 0
 refine⟨by grind,by grind,by grind,by grind⟩
theorem axB5 {a0 a1 a2 a3 a4 a5 o:Int} (ho:0<o) (h: ∀j,j<6→((ctl [a0,a1,a2,a3,a4,a5] j).natAbs:Int)≤62914560*o):
  wayQ [a0,a1,a2,a3,a4,a5] o*wayQ [a0,a1,a2,a3,a4,a5] o≤sqQ [a0,a1,a2,a3,a4,a5] o∧sqQ [a0,a1,a2,a3,a4,a5] o≤25*(2097152*2097152)∧ -2097152≤wayQ [a0,a1,a2,a3,a4,a5] o∧wayQ [a0,a1,a2,a3,a4,a5] o≤2097152:=by
 have o0:(0:Rat)<(o:Rat):=by exact_mod_cast ho
 have c0:ctl [a0,a1,a2,a3,a4,a5] 0=a0*60:=by simp [ctl,sm,cw,bin]
 have g0:=Qdb (h 0 (by decide))
 rw [c0]at g0
 have c1:ctl [a0,a1,a2,a3,a4,a5] 1=a0*60+a1*12:=by simp [ctl,sm,cw,bin]
 have g1:=Qdb (h 1 (by decide))
 rw [c1]at g1
 have c2:ctl [a0,a1,a2,a3,a4,a5] 2=a0*60+a1*24+a2*6:=by simp [ctl,sm,cw,bin]
 have g2:=Qdb (h 2 (by decide))
 rw [c2]at g2
 have c3:ctl [a0,a1,a2,a3,a4,a5] 3=a0*60+a1*36+a2*18+a3*6:=by simp [ctl,sm,cw,bin]
 have g3:=Qdb (h 3 (by decide))
 rw [c3]at g3
 have c4:ctl [a0,a1,a2,a3,a4,a5] 4=a0*60+a1*48+a2*36+a3*24+a4*12:=by simp [ctl,sm,cw,bin]
 have g4:=Qdb (h 4 (by decide))
 rw [c4]at g4
 have c5:ctl [a0,a1,a2,a3,a4,a5] 5=a0*60+a1*60+a2*60+a3*60+a4*60+a5*60:=by simp [ctl,sm,cw,bin]
 have g5:=Qdb (h 5 (by decide))
 rw [c5]at g5
 have x1:coQ [a0,a1,a2,a3,a4,a5] o 1=(a1:Rat)/(o:Rat):=Qh6 _ _ _ _ rfl
 have x2:coQ [a0,a1,a2,a3,a4,a5] o 2=(a2:Rat)/(o:Rat):=Qh6 _ _ _ _ rfl
 have x3:coQ [a0,a1,a2,a3,a4,a5] o 3=(a3:Rat)/(o:Rat):=Qh6 _ _ _ _ rfl
 have x4:coQ [a0,a1,a2,a3,a4,a5] o 4=(a4:Rat)/(o:Rat):=Qh6 _ _ _ _ rfl
 have x5:coQ [a0,a1,a2,a3,a4,a5] o 5=(a5:Rat)/(o:Rat):=Qh6 _ _ _ _ rfl
 have d0:=Qfd (x:=(a0*60+a1*12)-(a0*60)) ho (by omega) (by omega)
 have e0:((((a0*60+a1*12)-(a0*60):Int)):Rat)/(60*(o:Rat))=(a1:Rat)/(o:Rat)*(1/5):=by simp only [Rat.intCast_add,Rat.intCast_sub,Rat.intCast_mul,Rat.intCast_ofNat];grind
 have d1:=Qfd (x:=(a0*60+a1*24+a2*6)-(a0*60+a1*12)) ho (by omega) (by omega)
 have e1:((((a0*60+a1*24+a2*6)-(a0*60+a1*12):Int)):Rat)/(60*(o:Rat))=(a1:Rat)/(o:Rat)*(1/5)+(a2:Rat)/(o:Rat)*(1/10):=by simp only [Rat.intCast_add,Rat.intCast_sub,Rat.intCast_mul,Rat.intCast_ofNat];grind
 have d2:=Qfd (x:=(a0*60+a1*36+a2*18+a3*6)-(a0*60+a1*24+a2*6)) ho (by omega) (by omega)
 have e2:((((a0*60+a1*36+a2*18+a3*6)-(a0*60+a1*24+a2*6):Int)):Rat)/(60*(o:Rat))=(a1:Rat)/(o:Rat)*(1/5)+(a2:Rat)/(o:Rat)*(1/5)+(a3:Rat)/(o:Rat)*(1/10):=by simp only [Rat.intCast_add,Rat.intCast_sub,Rat.intCast_mul,Rat.intCast_ofNat];grind
 have d3:=Qfd (x:=(a0*60+a1*48+a2*36+a3*24+a4*12)-(a0*60+a1*36+a2*18+a3*6)) ho (by omega) (by omega)
 have e3:((((a0*60+a1*48+a2*36+a3*24+a4*12)-(a0*60+a1*36+a2*18+a3*6):Int)):Rat)/(60*(o:Rat))=(a1:Rat)/(o:Rat)*(1/5)+(a2:Rat)/(o:Rat)*(3/10)+(a3:Rat)/(o:Rat)*(3/10)+(a4:Rat)/(o:Rat)*(1/5):=by simp only [Rat.intCast_add,Rat.intCast_sub,Rat.intCast_mul,Rat.intCast_ofNat];grind
 have d4:=Qfd (x:=(a0*60+a1*60+a2*60+a3*60+a4*60+a5*60)-(a0*60+a1*48+a2*36+a3*24+a4*12)) ho (by omega) (by omega)
 have e4:((((a0*60+a1*60+a2*60+a3*60+a4*60+a5*60)-(a0*60+a1*48+a2*36+a3*24+a4*12):Int)):Rat)/(60*(o:Rat))=(a1:Rat)/(o:Rat)*(1/5)+(a2:Rat)/(o:Rat)*(2/5)+(a3:Rat)/(o:Rat)*(3/5)+(a4:Rat)/(o:Rat)*(4/5)+(a5:Rat)/(o:Rat)*1:=by simp only [Rat.intCast_add,Rat.intCast_sub,Rat.intCast_mul,Rat.intCast_ofNat];grind
 have dw:=Qfd (x:=(a0*60+a1*60+a2*60+a3*60+a4*60+a5*60)-(a0*60)) ho (by omega) (by omega)
 have ew:((((a0*60+a1*60+a2*60+a3*60+a4*60+a5*60)-(a0*60):Int)):Rat)/(60*(o:Rat))=(a1:Rat)/(o:Rat)+(a2:Rat)/(o:Rat)+(a3:Rat)/(o:Rat)+(a4:Rat)/(o:Rat)+(a5:Rat)/(o:Rat):=by simp only [Rat.intCast_add,Rat.intCast_sub,Rat.intCast_mul,Rat.intCast_ofNat];grind
 have hw:wayQ [a0,a1,a2,a3,a4,a5] o=(a1:Rat)/(o:Rat)+(a2:Rat)/(o:Rat)+(a3:Rat)/(o:Rat)+(a4:Rat)/(o:Rat)+(a5:Rat)/(o:Rat):=by
  show wyS [a0,a1,a2,a3,a4,a5] o 5=_
  simp only [wyS,qs,Nat.zero_add,Nat.reduceAdd,x1,x2,x3,x4,x5,Rat.zero_add]
 have hs:sqQ [a0,a1,a2,a3,a4,a5] o=(a1:Rat)/(o:Rat)*((a1:Rat)/(o:Rat))*1+(a1:Rat)/(o:Rat)*((a2:Rat)/(o:Rat))*1+(a1:Rat)/(o:Rat)*((a3:Rat)/(o:Rat))*1+(a1:Rat)/(o:Rat)*((a4:Rat)/(o:Rat))*1+(a1:Rat)/(o:Rat)*((a5:Rat)/(o:Rat))*1+(a2:Rat)/(o:Rat)*((a1:Rat)/(o:Rat))*1+(a2:Rat)/(o:Rat)*((a2:Rat)/(o:Rat))*(4/3)+(a2:Rat)/(o:Rat)*((a3:Rat)/(o:Rat))*(3/2)+(a2:Rat)/(o:Rat)*((a4:Rat)/(o:Rat))*(8/5)+(a2:Rat)/(o:Rat)*((a5:Rat)/(o:Rat))*(5/3)+(a3:Rat)/(o:Rat)*((a1:Rat)/(o:Rat))*1+(a3:Rat)/(o:Rat)*((a2:Rat)/(o:Rat))*(3/2)+(a3:Rat)/(o:Rat)*((a3:Rat)/(o:Rat))*(9/5)+(a3:Rat)/(o:Rat)*((a4:Rat)/(o:Rat))*2+(a3:Rat)/(o:Rat)*((a5:Rat)/(o:Rat))*(15/7)+(a4:Rat)/(o:Rat)*((a1:Rat)/(o:Rat))*1+(a4:Rat)/(o:Rat)*((a2:Rat)/(o:Rat))*(8/5)+(a4:Rat)/(o:Rat)*((a3:Rat)/(o:Rat))*2+(a4:Rat)/(o:Rat)*((a4:Rat)/(o:Rat))*(16/7)+(a4:Rat)/(o:Rat)*((a5:Rat)/(o:Rat))*(5/2)+(a5:Rat)/(o:Rat)*((a1:Rat)/(o:Rat))*1+(a5:Rat)/(o:Rat)*((a2:Rat)/(o:Rat))*(5/3)+(a5:Rat)/(o:Rat)*((a3:Rat)/(o:Rat))*(15/7)+(a5:Rat)/(o:Rat)*((a4:Rat)/(o:Rat))*(5/2)+(a5:Rat)/(o:Rat)*((a5:Rat)/(o:Rat))*(25/9):=by
  show qs (fun j=>qs (fun m=>sqT [a0,a1,a2,a3,a4,a5] o (j+1) (m+1)) 5) 5=_
  simp only [qs,sqT,Nat.zero_add,Nat.reduceAdd,x1,x2,x3,x4,x5,Q04,Q9c,Zij,Zoq,Zr0,Q9d,Q9e,Zik,Zor,Zr1,Zil,Zim,Zin,Zos,Zr2,Zot,Zou,Zov,Zow,Zr3,Zr4,Zr5,Zr6,Zr7,Zr8,Rat.zero_add]
  grind
 rw [e0]at d0
 rw [e1]at d1
 rw [e2]at d2
 rw [e3]at d3
 rw [e4]at d4
 rw [ew]at dw
 rw [hw,hs]
 clear hw hs e0 e1 e2 e3 e4 x1 x2 x3 x4 x5 ew h c0 c1 c2 c3 c4 c5 g0 g1 g2 g3 g4 g5
 generalize (a1:Rat)/(o:Rat)=r1 at*
 generalize (a2:Rat)/(o:Rat)=r2 at*
 generalize (a3:Rat)/(o:Rat)=r3 at*
 generalize (a4:Rat)/(o:Rat)=r4 at*
 generalize (a5:Rat)/(o:Rat)=r5 at*
 have hu:=Zop (K:=2097152) (d0:=r1*(1/5)) (d1:=r1*(1/5)+r2*(1/10)) (d2:=r1*(1/5)+r2*(1/5)+r3*(1/10)) (d3:=r1*(1/5)+r2*(3/10)+r3*(3/10)+r4*(1/5)) (d4:=r1*(1/5)+r2*(2/5)+r3*(3/5)+r4*(4/5)+r5*1) rfl rfl rfl rfl rfl d0 d1 d2 d3 d4
 have hl:=Qrd r1 r2 r3 r4 r5
 refine⟨by grind,by grind,by grind,by grind⟩
theorem axB0 {a0 o:Int}:wayQ [a0] o=0∧sqQ [a0] o=0:=⟨rfl,rfl⟩
theorem Q05 {c:List Int} {o:Int} (ho:0<o) (h:axOK c o=true):wayQ c o*wayQ c o≤sqQ c o∧sqQ c o≤25*(2097152*2097152)∧ -2097152≤wayQ c o∧wayQ c o≤2097152:=by
 simp only [axOK,Qjq,Bool.and_eq_true,decide_eq_true_eq]at h
 obtain⟨⟨h1,h2, -⟩,hb⟩:=h
 have hc:=fun j hj=>Zi4 hb j hj
 match c,h1,h2,hc with
 | [a0],_,_,_=>rw [axB0.1,axB0.2];refine⟨by grind,by grind,by grind,by grind⟩
 | [a0,a1],_,_,hc=>obtain⟨a,b,c,d⟩:=axB1 ho hc;exact⟨a,by grind,c,d⟩
 | [a0,a1,a2],_,_,hc=>obtain⟨a,b,c,d⟩:=axB2 ho hc;exact⟨a,by grind,c,d⟩
 | [a0,a1,a2,a3],_,_,hc=>obtain⟨a,b,c,d⟩:=axB3 ho hc;exact⟨a,by grind,c,d⟩
 | [a0,a1,a2,a3,a4],_,_,hc=>obtain⟨a,b,c,d⟩:=axB4 ho hc;exact⟨a,by grind,c,d⟩
 | [a0,a1,a2,a3,a4,a5],_,_,hc=>obtain⟨a,b,c,d⟩:=axB5 ho hc;exact⟨a,by grind,c,d⟩
end Go.Dg

namespace Go.Dg
structure Bat where
 base:Int
 climb:Int
 drag:Int
 cap:Int
 res:Int
def Qjm (n:Int):Bool:=decide (0≤n)&&decide (n≤1000000)
def Qat (B:Bat):Bool:=Qjm B.base&&(Qjm B.climb&&(Qjm B.drag&&(decide (0≤B.res)&&(decide (B.res≤B.cap)&&decide (B.cap≤1125899906842624)))))
def fr (n d:Int):Rat:=(n:Rat)/(d:Rat)
def axQ (q:Rat) (c:List Int) (o t b:Int):Rat:=q+sqQ c o*fr 1000 t+wayQ c o*fr (-2*b) 1+fr (b*b) 1*fr t 1000
def drQ (s:Sg) (x y z:Int):Rat:=axQ (axQ (axQ (fr 0 1) s.x s.o (s.t-s.f) x) s.y s.o (s.t-s.f) y) s.z s.o (s.t-s.f) z
def baQ (s:Sg) (B:Bat):Rat:=if(wayQ s.z s.o).num<0 then fr (B.base*(s.t-s.f)) 1000 else fr (B.base*(s.t-s.f)) 1000+wayQ s.z s.o*fr B.climb 100
def Qnm (s:Sg) (B:Bat) (x y z:Int):Rat:=baQ s B+drQ s x y z*fr B.drag 1000000
def Qey (s:Sg) (B:Bat) (x y z:Int):Int:=upQ (Qnm s B x y z)
theorem Qn3 (n:Int):fr n 1=(n:Rat):=by
 unfold fr
 have:((1:Int):Rat)=1:=rfl
 rw [this];grind
theorem Qvw {n d:Int} (h:d≠0):fr n d*(d:Rat)=(n:Rat):=Rat.div_mul_cancel (by exact_mod_cast h)
theorem Qti {n:Int} (h:0<n):(0:Rat)<(n:Rat):=by exact_mod_cast h
theorem Qvx {a b:Int} (h:a≤b):(a:Rat)≤(b:Rat):=Rat.intCast_le_intCast.2 h
theorem Qgo {n d:Int} (h:0≤n) (hd:0<d):0≤fr n d:=by
 have h1:=Qvw (n:=n) (show d≠0 by omega)
 have h2:=Qti hd
 have h3:=Qvx h
 simp only [Rat.intCast_zero]at h3
 refine Rat.le_of_mul_le_mul_right (c:=(d:Rat)) ?_ h2
 grind
theorem Q06 {n d k:Int} (hd:0<d) (h:n≤k*d):fr n d≤(k:Rat):=by
 have h1:=Qvw (n:=n) (show d≠0 by omega)
 have h2:=Qti hd
 have h3:=Qvx h
 rw [Rat.intCast_mul]at h3
 refine Rat.le_of_mul_le_mul_right (c:=(d:Rat)) ?_ h2
 grind
theorem Qtj {c:List Int} {o t b:Int} (ho:0<o) (h:axOK c o=true) (ht:0<t) (ht2:t≤3600000) (hb: -40000≤b) (hb2:b≤40000) (q:Rat):q≤axQ q c o t b∧axQ q c o t b≤q+120000000000000000:=by
 obtain⟨h1,h2,h3,h4⟩:=Q05 ho h
 unfold axQ
 rw [Qn3,Qn3]
 have u1:=Qvw (n:=1000) (show t≠0 by omega)
 have u2:=Qvw (n:=t) (d:=1000) (by decide)
 have u0:0≤fr 1000 t:=Qgo (by decide) ht
 have u5:0≤fr t 1000:=Qgo (by omega) (by decide)
 have u3:fr 1000 t≤(1000:Int):=Q06 ht (by omega)
 have u4:fr t 1000≤(3600:Int):=Q06 (by decide) (by omega)
 have b1:=Qvx hb
 have b2:=Qvx hb2
 have e1:((-2*b:Int):Rat)= -2*(b:Rat):=by rw [Rat.intCast_mul];rfl
 have e2:((b*b:Int):Rat)=(b:Rat)*(b:Rat):=Rat.intCast_mul _ _
 have e3:((1000:Int):Rat)=1000:=rfl
 have e4:((3600:Int):Rat)=3600:=rfl
 have e5:((-40000:Int):Rat)= -40000:=rfl
 have e6:((40000:Int):Rat)=40000:=rfl
 rw [e3]at u1 u2 u3
 rw [e4]at u4
 rw [e5]at b1
 rw [e6]at b2
 rw [e1,e2]
 have tp:=Qti ht
 have uv:fr 1000 t*fr t 1000=1:=by
  have k:fr 1000 t*fr t 1000*(t:Rat)=1*(t:Rat):=by
   have q1:fr 1000 t*fr t 1000*(t:Rat)=fr 1000 t*(t:Rat)*fr t 1000:=by rw [Rat.mul_assoc,Rat.mul_assoc,Rat.mul_comm (fr t 1000)]
   rw [q1,u1,Rat.mul_comm,u2,Rat.one_mul]
  refine Rat.le_antisymm ?_ ?_<;>refine Rat.le_of_mul_le_mul_right (c:=(t:Rat)) ?_ tp<;>rw [k]<;>exact Rat.le_refl
 generalize fr 1000 t=u at*
 generalize fr t 1000=v at*
 generalize (b:Rat)=w at*
 generalize sqQ c o=S at*
 generalize wayQ c o=y at*
 clear e1 e2 tp u1 u2
 have s0:0≤S:=Rat.le_trans (Qdl y) h1
 have p1:=Rat.mul_le_mul_of_nonneg_right h1 u0
 have p2:=Rat.mul_nonneg u0 (Qdl (y-w*v))
 have p3:=Rat.mul_le_mul_of_nonneg_left u3 s0
 have p4:=Rat.mul_le_mul_of_nonneg_right h2 (show(0:Rat)≤1000 by decide)
 have w2:=Qhp b1 b2
 have p5:=Rat.mul_le_mul_of_nonneg_left u4 (Qdl w)
 have p6:=Rat.mul_le_mul_of_nonneg_right w2 (show(0:Rat)≤3600 by decide)
 have p7:2*w*y≤2*40000*2097152∧ -(2*w*y)≤2*40000*2097152:=by
  have key: ∀w:Rat, -40000≤w→w≤40000→2*w*y≤2*40000*2097152:=fun w b1 b2=>by
   have a1:=Rat.mul_nonneg (show 0≤40000-w by grind) (show 0≤2097152+y by grind)
   have a2:=Rat.mul_nonneg (show 0≤40000+w by grind) (show 0≤2097152-y by grind)
   have a3:(40000-w)*(2097152+y)+(40000+w)*(2097152-y)=2*40000*2097152-2*w*y:=by grind
   have a4:=Rat.add_nonneg a1 a2
   rw [a3]at a4
   exact(Rat.le_iff_sub_nonneg _ _).2 a4
  refine⟨key w b1 b2,?_⟩
  have:=key (-w) (by grind) (by grind)
  have e:2* -w*y= -(2*w*y):=by grind
  rwa [e]at this
 have p8:u*((y-w*v)*(y-w*v))=y*y*u-2*w*y+w*w*v:=by
  have:u*((y-w*v)*(y-w*v))=y*y*u-2*w*y*(u*v)+w*w*v*(u*v):=by grind
  rw [this,uv,Rat.mul_one,Rat.mul_one]
 rw [p8]at p2
 have e9:y*(-2*w)= -(2*w*y):=by grind
 rw [e9]
 clear p8 e9 uv h1 w2 b1 b2 hb hb2 ht2 ht h ho u3 u4 u0 u5 h3 h4
 generalize 2*w*y=Z at*
 generalize y*y*u=Y at*
 generalize S*u=T at*
 generalize w*w*v=V at*
 generalize w*w=W at*
 obtain⟨p7,p9⟩:=p7
 constructor<;>grind
theorem Zox {x:Rat} {n:Int} (h:x≤(n:Rat)):upQ x≤n:=by
 unfold upQ
 have:=(Rat.le_iff _ _).1 h
 simp only [Rat.num_intCast,Rat.den_intCast]at this
 rw [Rat.neg_num,Rat.neg_den]
 have hd:(0:Int)<(x.den:Int):=by have:=x.den_pos;omega
 have: -n≤ -x.num/(x.den:Int):=by
  rw [Int.le_ediv_iff_mul_le hd]
  rw [Int.neg_mul];omega
 omega
theorem Zoy {x:Rat} (h:0≤x):0≤upQ x:=by
 unfold upQ
 rw [Rat.neg_num,Rat.neg_den]
 have hd:(0:Int)<(x.den:Int):=by have:=x.den_pos;omega
 have hn:=Rat.num_nonneg.2 h
 have: -x.num/(x.den:Int)≤0:=Int.ediv_nonpos_of_nonpos_of_neg (by omega) (by omega)
 omega
theorem Qb9 {B:Bat} (h:Qat B=true):(0≤B.base∧B.base≤1000000)∧(0≤B.climb∧B.climb≤1000000)∧(0≤B.drag∧B.drag≤1000000)∧0≤B.res∧B.res≤B.cap∧B.cap≤1125899906842624:=by
 simp only [Qat,Qjm,Bool.and_eq_true,decide_eq_true_eq]at h
 omega
theorem Qpa {s:Sg} {B:Bat} {x y z:Int} (hs:rngS s=true) (hx:axOK s.x s.o=true) (hy:axOK s.y s.o=true) (hz:axOK s.z s.o=true) (hB:Qat B=true)
  (h1: -40000≤x∧x≤40000) (h2: -40000≤y∧y≤40000) (h3: -40000≤z∧z≤40000):0≤Qey s B x y z∧Qey s B x y z≤400000000000000000:=by
 obtain⟨B1,B2,B3, -⟩:=Qb9 hB
 simp only [rngS,Bool.and_eq_true,decide_eq_true_eq]at hs
 obtain⟨r1,r2,r3,r4,r5⟩:=hs
 have o0:0<s.o:=by omega
 have t0:0<s.t-s.f:=by omega
 have t1:s.t-s.f≤3600000:=by omega
 obtain⟨a1,a2⟩:=Qtj o0 hx t0 t1 h1.1 h1.2 (fr 0 1)
 obtain⟨a3,a4⟩:=Qtj o0 hy t0 t1 h2.1 h2.2 (axQ (fr 0 1) s.x s.o (s.t-s.f) x)
 obtain⟨a5,a6⟩:=Qtj o0 hz t0 t1 h3.1 h3.2 (axQ (axQ (fr 0 1) s.x s.o (s.t-s.f) x) s.y s.o (s.t-s.f) y)
 have e0:fr 0 1=0:=by rw [Qn3];rfl
 have z0:0≤fr 0 1:=by rw [e0];exact Rat.le_refl
 have dd:0≤drQ s x y z∧drQ s x y z≤360000000000000000:=by
  unfold drQ
  generalize axQ (axQ (axQ (fr 0 1) s.x s.o (s.t-s.f) x) s.y s.o (s.t-s.f) y) s.z s.o (s.t-s.f) z=X3 at*
  generalize axQ (axQ (fr 0 1) s.x s.o (s.t-s.f) x) s.y s.o (s.t-s.f) y=X2 at*
  generalize axQ (fr 0 1) s.x s.o (s.t-s.f) x=X1 at*
  refine⟨Rat.le_trans z0 (Rat.le_trans a1 (Rat.le_trans a3 a5)),?_⟩
  rw [e0]at a2
  clear h1 h2 h3 hB B1 B2 B3 r1 r2 r3 r4 r5 o0 t0 t1 e0 z0
  grind
 obtain⟨dn,dm⟩:=dd
 clear a1 a2 a3 a4 a5 a6 z0 e0
 have f0:0≤fr B.drag 1000000:=Qgo B3.1 (by decide)
 have f1:fr B.drag 1000000≤(1:Int):=Q06 (by decide) (by omega)
 have g0:0≤fr B.climb 100:=Qgo B2.1 (by decide)
 have g1:fr B.climb 100≤(10000:Int):=Q06 (by decide) (by omega)
 have k0:0≤fr (B.base*(s.t-s.f)) 1000:=Qgo (Int.mul_nonneg B1.1 (by omega)) (by decide)
 have k1:fr (B.base*(s.t-s.f)) 1000≤(3600000000:Int):=Q06 (by decide) (by
  have:=Int.mul_le_mul B1.2 t1 (by omega) (by decide);omega)
 obtain⟨-, -,w3,w4⟩:=Q05 o0 hz
 have e1:((1:Int):Rat)=1:=rfl
 have e2:((10000:Int):Rat)=10000:=rfl
 have e3:((3600000000:Int):Rat)=3600000000:=rfl
 rw [e1]at f1
 rw [e2]at g1
 rw [e3]at k1
 have bn:0≤baQ s B∧baQ s B≤30000000000:=by
  unfold baQ
  by_cases hw:(wayQ s.z s.o).num<0
  ·rw [if_pos hw];exact⟨k0,by grind⟩
  ·rw [if_neg hw]
   have w0:0≤wayQ s.z s.o:=Rat.num_nonneg.1 (by omega)
   have m0:=Rat.mul_nonneg w0 g0
   have m1:=Rat.mul_le_mul_of_nonneg_left g1 w0
   have m2:=Rat.mul_le_mul_of_nonneg_right w4 (show(0:Rat)≤10000 by decide)
   exact⟨by grind,by grind⟩
 have d0:=Rat.mul_nonneg dn f0
 have d1:=Rat.mul_le_mul_of_nonneg_left f1 dn
 unfold Qey
 refine⟨Zoy (by unfold Qnm;grind),Zox ?_⟩
 have:((400000000000000000:Int):Rat)=400000000000000000:=rfl
 rw [this]
 unfold Qnm
 grind
end Go.Dg
