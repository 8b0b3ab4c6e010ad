/-
  HM4, HB5, By (merged for the claim).
-/
import Derived.Test.YtciddhkfbgkejaaGreatDoorDbv
import Derived.Test.YtciddhkfbgkejaaGreatDoorHB4
import Derived.Test.YtciddhkfbgkejaaGreatDoorHM2
set_option linter.unusedSimpArgs false
set_option linter.unusedVariables false
namespace Go.Proofs.YtciddhkfbgkejaaGreatDoor
open Go.Vl Go.RowKit Go.Dg
theorem Qr2 (n k:Nat) (hk:k≤n) (hn:n≤50):Qad Tryz.prog 153 [.int .i64 (n:Int),.int .i64 (k:Int)] (.int .i64 (bin n k:Int)):=by
 refine Qac (tb:=[]) 21 [.tmp 4] [0,1,4,5,6,9] mixed Tryz.func153 rfl (by kernel_rfl) (by kernel_rfl) (by kernel_rfl) (by kernel_rfl) ?_
 simp -implicitDefEqProofs only [go_sem,Nat.reduceAdd,Nat.reduceMul,Nat.reduceEqDiff,Nat.reduceLT,Nat.reduceLeDiff,reduceCtorEq]
 refine Qar mixed (fun i:{i:Nat // i≤k}=>St.of [(0,.int .i64 (n:Int)),(1,.int .i64 (k:Int)),(5,.int .i64 (bin n i.1:Int)),(6,.int .i64 (i.1:Int))] []) (fun i=>k-i.1) ⟨0,Nat.zero_le _⟩ ?_ ?_
 ·exact Qa9 (by simp [Qaf,lkp,ren1,ren0,Qfu])
 ·rintro⟨i,hi⟩
  by_cases hA:i<k
  ·have hA':=ltT hA
   have hwk:=Qaj (a:=i) (by omega)
   have w1:=Zar (a:=n) (b:=i) (by omega) (by omega)
   have hb:=Qsa (n:=n) (i:=i) (m:=n-i) hn (by omega)
   have w2:IntKind.i64.wrap ((bin n i:Int)*((n-i:Nat):Int))=((bin n i*(n-i):Nat):Int):=by rw [←Int.natCast_mul];exact wrapn hb
   have e:bin n i*(n-i)/(i+1)=bin n (i+1):=by rw [Q1q (by omega),Nat.mul_div_cancel _ (Nat.succ_pos i)]
   have t:=Qqd (bin n i*(n-i)) (i+1)
   rw [e]at t
   have hz:=ne0 i
   have w3:IntKind.i64.wrap (bin n (i+1):Int)=(bin n (i+1):Int):=wrapn (by have:=Qsa (n:=n) (i:=i+1) (m:=1) hn (by decide);omega)
   simp -implicitDefEqProofs only [go_sem,Nat.reduceAdd,Nat.reduceMul,Nat.reduceEqDiff,Nat.reduceLT,Nat.reduceLeDiff,reduceCtorEq,hA',hwk,w1,w2,hz,t,w3]
   exact⟨⟨i+1,hA⟩,by simp only;omega,Qa9 (by simp [Qaf,lkp,ren1,ren0])⟩
  ·have hA':=ltF hA
   obtain rfl:i=k:=by omega
   simp -implicitDefEqProofs only [go_sem,Nat.reduceAdd,Nat.reduceMul,Nat.reduceEqDiff,Nat.reduceLT,Nat.reduceLeDiff,reduceCtorEq,hA']
def ctls (c:List Int) (j:Nat):List Int:=(List.range j).map (ctl c)
theorem Q23 (c:List Int) (j:Nat):ctls c (j+1)=ctls c j++[ctl c j]:=by simp [ctls,List.range_succ]
theorem Qp7 (c:List Int) (j:Nat):(ctls c j).length=j:=by simp [ctls]
theorem Qwo (c:List Int) (j i:Nat) (h:i<(ctls c j).length):(ctls c j)[i]=ctl c i:=by simp [ctls]
theorem Qt3 (c:List Int) (h1:1≤c.length) (h6:c.length≤6) (hc: ∀x∈c,i64 x):Qad Tryz.prog 102 [Qas c] (rL (ctls c c.length)):=by
 have hcb:bd 64 c:=fun x hx=>Qa1 (hc x hx)
 have wl:=Qhe (n:=c.length) (by omega) (by omega)
 refine Qac (tb:=[]) 44 [.tmp 2] [0,2,3,4,5,6,7,13,19] mixed Tryz.func102 rfl (by kernel_rfl) (by kernel_rfl) (by kernel_rfl) (by kernel_rfl) ?_
 repeat (first|(simp -implicitDefEqProofs only [go_sem,Nat.reduceAdd,Nat.reduceMul,Nat.reduceEqDiff,Nat.reduceLT,Nat.reduceLeDiff,reduceCtorEq,List.length_map,wl])|(with_reducible exact Qaa _ _ (by kernel_rfl))|(with_reducible refine And.intro (Qaa _ _ (by kernel_rfl)) ?_))
 refine Qar mixed (fun j:{j:Nat // j≤c.length}=>St.of [(0,Qas c),(3,.int .i64 ((c.length-1:Nat):Int)),(4,.bs 7 2 0 j.1),(5,.int .i64 (j.1:Int))]
  [(7,{els:=(ctls c j.1).map rI,esz:=2,ety:=76,fro:=0,live:=true,arr:=true})]) (fun j=>c.length-j.1) ⟨0,Nat.zero_le _⟩ ?_ ?_
 ·refine Qgc 4 7 2 76 rfl rfl rfl (by decide) [(7,7)] rfl ?_ ?_
  ·simp [Qaf,lkp,ren1,ren0,Qap,Qas]
  ·simp [Qam,lkp,Box.renames,ctls]
 ·rintro⟨j,hj⟩
  have hlen:((ctls c j).map rI).length=j:=by rw [List.length_map,Qp7]
  by_cases hA:j<c.length
  ·have hA':=leT (show j≤c.length-1 by omega)
   have hwk:=Qaj (a:=j) (by omega)
   repeat (first|(simp -implicitDefEqProofs only [go_sem,Nat.reduceAdd,Nat.reduceMul,Nat.reduceEqDiff,Nat.reduceLT,Nat.reduceLeDiff,reduceCtorEq,hA',hwk])|(with_reducible exact Qaa _ _ (by kernel_rfl))|(with_reducible refine And.intro (Qaa _ _ (by kernel_rfl)) ?_))
   refine Qar mixed (fun k:{k:Nat // k≤j+1}=>St.of [(0,Qas c),(3,.int .i64 ((c.length-1:Nat):Int)),(4,.bs 7 2 0 j),(5,.int .i64 (j:Int)),(6,.bp 601 2 0 0),(7,.int .i64 (k.1:Int))]
    [(7,{els:=(ctls c j).map rI,esz:=2,ety:=76,fro:=0,live:=true,arr:=true}),(601,{els:=[rI (sm (fun k=>c.getD k 0*(cw (c.length-1) j k:Int)) k.1)],esz:=2,ety:=76,fro:=0,live:=true,arr:=false})]) (fun k=>j+1-k.1) ⟨0,Nat.zero_le _⟩ ?_ ?_
   ·refine Le.trans (Qq9 601 rfl) (Qak (θ:=[(7,7),(601,601)]) rfl ?_ ?_)
    ·simp [Qaf,lkp,ren1,ren0,Qap,Qas]
    ·refine⟨⟨rfl,rfl,rfl,rfl,rfl,.inl ⟨rfl,rfl⟩⟩,⟨rfl,rfl,rfl,rfl,rfl,.inr ⟨rfl,_,_,rfl,rfl,?_,rfl⟩⟩,trivial⟩
     simp only [sm,rI_z];rfl
   ·rintro⟨k,hk⟩
    by_cases hB:k<j+1
    ·have hB':=leT (show k≤j by omega)
     have hkc:k<c.length:=by omega
     have h0:=nnT k
     have hg:=Qct c k hkc
     have hwk2:=Qaj (a:=k) (by omega)
     have g1:=Qr2 (c.length-1) k (by omega) (by omega)
     have g2:=Qr2 j k (by omega) (by omega)
     have hb0:((bin (c.length-1) k:Int)=0)=False:=eq_false (by have:=Qtq (n:=c.length-1) (k:=k) (by omega);omega)
     have t1:Int.tdiv 60 (bin (c.length-1) k:Int)=((60/bin (c.length-1) k:Nat):Int):=Qqd 60 _
     have d60:60/bin (c.length-1) k≤60:=Nat.div_le_self _ _
     have wk1:IntKind.i64.wrap ((60/bin (c.length-1) k:Nat):Int)=((60/bin (c.length-1) k:Nat):Int):=wrapn (by omega)
     have hcw:=Ziy (c.length-1) j k (by omega)
     have ecw:((60/bin (c.length-1) k:Nat):Int)*(bin j k:Int)=(cw (c.length-1) j k:Int):=by rw [cw,Int.natCast_mul]
     have wk2:IntKind.i64.wrap (cw (c.length-1) j k:Int)=(cw (c.length-1) j k:Int):=wrapn (by omega)
     obtain⟨k1,k2⟩:=hc _ (List.getElem_mem hkc)
     have o1:=Qcj c[k] k1 k2
     have o2:=Qcj (cw (c.length-1) j k:Int) (by omega) (by omega)
     have x1:(c[k]).natAbs<2^64:=hcb _ (List.getElem_mem hkc)
     have x2:(cw (c.length-1) j k:Int).natAbs<2^11:=by rw [Int.natAbs_natCast];omega
     have m2:=Qe1 (Qbe x1 (by decide)) (Qbe x2 (by decide))
     have y1:=Qha (n:=c.length-1) (j:=j) hcb (by omega) k (by omega)
     have es:sm (fun k=>c.getD k 0*(cw (c.length-1) j k:Int)) (k+1)=sm (fun k=>c.getD k 0*(cw (c.length-1) j k:Int)) k+c[k]*(cw (c.length-1) j k:Int):=by simp only [sm];rw [Qfa hkc]
     have a1:=Qkj (Qbe y1 (by decide)) (Qbe (Qhw x1 x2) (by decide))
     rw [←es]at a1
     generalize hX:sm (fun k=>c.getD k 0*(cw (c.length-1) j k:Int)) (k+1)=X at*
     generalize sm (fun k=>c.getD k 0*(cw (c.length-1) j k:Int)) k=Y at*
     generalize c[k]*(cw (c.length-1) j k:Int)=Z at*
     generalize (cw (c.length-1) j k:Int)=V at*
     repeat (first|(simp -implicitDefEqProofs only [go_sem,Nat.reduceAdd,Nat.reduceMul,Nat.reduceEqDiff,Nat.reduceLT,Nat.reduceLeDiff,reduceCtorEq,rI,di,hB',h0,hg,hwk2,hb0,t1,wk1,ecw,wk2,Int.toNat_natCast,List.length_map])|((with_reducible refine Qab (o1) ?_ ?_ ?_);(with_reducible rfl);rfl)|((with_reducible refine Qab (g1) ?_ ?_ ?_);(with_reducible rfl);rfl)|((with_reducible refine Qab (g2) ?_ ?_ ?_);(with_reducible rfl);rfl)|((with_reducible refine Qab (o2) ?_ ?_ ?_);(with_reducible rfl);rfl)|((with_reducible refine Qab (m2) ?_ ?_ ?_);(with_reducible rfl);rfl)|((with_reducible refine Qab (a1) ?_ ?_ ?_);(with_reducible rfl);rfl)|(with_reducible exact Qaa _ _ (by kernel_rfl))|(with_reducible refine And.intro (Qaa _ _ (by kernel_rfl)) ?_))
     refine⟨⟨k+1,hB⟩,by simp only;omega,Qak (θ:=[(7,7),(601,601)]) rfl ?_ ?_⟩
     ·simp [Qaf,lkp,ren1,ren0,Qap,Qas]
     ·simp only [hX]
      exact⟨⟨rfl,rfl,rfl,rfl,rfl,.inl ⟨rfl,rfl⟩⟩,⟨rfl,rfl,rfl,rfl,rfl,.inr ⟨rfl,_,_,rfl,rfl,rfl,rfl⟩⟩,trivial⟩
    ·have hB':=leF (show¬k≤j by omega)
     obtain rfl:k=j+1:=by omega
     have ec:sm (fun k=>c.getD k 0*(cw (c.length-1) j k:Int)) (j+1)=ctl c j:=rfl
     simp only [ec]
     have q1:(j==j)=true:=beq_self_eq_true j
     have q2:((j+1)*32≤140737488355328)=True:=eq_true (by omega)
     have q3:(j+1≤maxLen)=True:=eq_true (by unfold maxLen;omega)
     have htk:(ctls c (j+1)).map rI=(ctls c j).map rI++[rI (ctl c j)]:=by rw [Q23,List.map_append];rfl
     generalize ctl c j=X at*
     repeat (first|(simp -implicitDefEqProofs only [go_sem,Nat.reduceAdd,Nat.reduceMul,Nat.reduceEqDiff,Nat.reduceLT,Nat.reduceLeDiff,reduceIte,reduceCtorEq,Nat.reduceBneDiff,rI,di,hB',hlen,q1,q2,q3,Zpz,hwk])|(with_reducible exact Qaa _ _ (by kernel_rfl))|(with_reducible refine And.intro (Qaa _ _ (by kernel_rfl)) ?_))
     refine⟨⟨j+1,hA⟩,by simp only;omega,Qak (θ:=[(7,1103)]) rfl ?_ ?_⟩
     ·simp [Qaf,lkp,ren1,ren0,Qap,Qas]
     ·simp only [htk]
      simp [Qam,lkp,Box.renames,rI,di]
  ·have hA':=leF (show¬j≤c.length-1 by omega)
   obtain rfl:j=c.length:=by omega
   have e1:((ctls c c.length).map rI).take c.length=(ctls c c.length).map rI:=List.take_of_length_le (by omega)
   repeat (first|(simp -implicitDefEqProofs only [go_sem,Nat.reduceAdd,Nat.reduceMul,Nat.reduceEqDiff,Nat.reduceLT,Nat.reduceLeDiff,reduceIte,reduceCtorEq,hA',hlen,e1,rL])|(with_reducible exact Qaa _ _ (by kernel_rfl))|(with_reducible refine And.intro (Qaa _ _ (by kernel_rfl)) ?_))
theorem Qr3 {v M:Int}:(((v.natAbs:Nat):Int)≤M)↔ ¬(M<v)∧ ¬(v< -M):=by omega
set_option maxHeartbeats 1000000 in
theorem Qr4 (s:Sg) (hs:okSg s):Qad Tryz.prog 62 [sgPV s] (.bool (Qa2 s)):=by
 obtain⟨⟨a1,a2⟩,⟨a3,a4⟩,⟨a5,a6⟩,hc,hl⟩:=hs
 by_cases g1:s.f<0
 ·have g1':=eq_true g1
  have e:Qa2 s=false:=by unfold Qa2 rngS;rw [decide_eq_false (by omega)];rfl
  unfold sgPV
  refine Qac (tb:=[]) 111 [.tmp 2] [0,1,2,3,4,5,6,7,8,9,34,46,74,80,106] mixed Tryz.func62 rfl (by kernel_rfl) (by kernel_rfl) (by kernel_rfl) (by kernel_rfl) ?_
  repeat (first|(simp -implicitDefEqProofs only [go_sem,Nat.reduceAdd,Nat.reduceMul,Nat.reduceEqDiff,Nat.reduceLT,Nat.reduceLeDiff,reduceCtorEq,g1',e])|(with_reducible exact Qaa _ _ (by kernel_rfl))|(with_reducible refine And.intro (Qaa _ _ (by kernel_rfl)) ?_))
 have g1':=eq_false g1
 by_cases g2:s.t≤s.f
 ·have g2':=eq_true g2
  have e:Qa2 s=false:=by unfold Qa2 rngS;rw [decide_eq_true (show 0≤s.f by omega),decide_eq_false (show¬s.f<s.t by omega)];rfl
  unfold sgPV
  refine Qac (tb:=[]) 111 [.tmp 2] [0,1,2,3,4,5,6,7,8,9,34,46,74,80,106] mixed Tryz.func62 rfl (by kernel_rfl) (by kernel_rfl) (by kernel_rfl) (by kernel_rfl) ?_
  repeat (first|(simp -implicitDefEqProofs only [go_sem,Nat.reduceAdd,Nat.reduceMul,Nat.reduceEqDiff,Nat.reduceLT,Nat.reduceLeDiff,reduceCtorEq,g1',g2',e])|(with_reducible exact Qaa _ _ (by kernel_rfl))|(with_reducible refine And.intro (Qaa _ _ (by kernel_rfl)) ?_))
 have g2':=eq_false g2
 by_cases g3:3600000<s.t
 ·have g3':=eq_true g3
  have e:Qa2 s=false:=by unfold Qa2 rngS;rw [decide_eq_true (show 0≤s.f by omega),decide_eq_true (show s.f<s.t by omega),decide_eq_false (show¬s.t≤3600000 by omega)];rfl
  unfold sgPV
  refine Qac (tb:=[]) 111 [.tmp 2] [0,1,2,3,4,5,6,7,8,9,34,46,74,80,106] mixed Tryz.func62 rfl (by kernel_rfl) (by kernel_rfl) (by kernel_rfl) (by kernel_rfl) ?_
  repeat (first|(simp -implicitDefEqProofs only [go_sem,Nat.reduceAdd,Nat.reduceMul,Nat.reduceEqDiff,Nat.reduceLT,Nat.reduceLeDiff,reduceCtorEq,g1',g2',g3',e])|(with_reducible exact Qaa _ _ (by kernel_rfl))|(with_reducible refine And.intro (Qaa _ _ (by kernel_rfl)) ?_))
 have g3':=eq_false g3
 by_cases g4:s.o<1
 ·have g4':=eq_true g4
  have e:Qa2 s=false:=by unfold Qa2 rngS;rw [decide_eq_true (show 0≤s.f by omega),decide_eq_true (show s.f<s.t by omega),decide_eq_true (show s.t≤3600000 by omega),decide_eq_false (show¬1≤s.o by omega)];rfl
  unfold sgPV
  refine Qac (tb:=[]) 111 [.tmp 2] [0,1,2,3,4,5,6,7,8,9,34,46,74,80,106] mixed Tryz.func62 rfl (by kernel_rfl) (by kernel_rfl) (by kernel_rfl) (by kernel_rfl) ?_
  repeat (first|(simp -implicitDefEqProofs only [go_sem,Nat.reduceAdd,Nat.reduceMul,Nat.reduceEqDiff,Nat.reduceLT,Nat.reduceLeDiff,reduceCtorEq,g1',g2',g3',g4',e])|(with_reducible exact Qaa _ _ (by kernel_rfl))|(with_reducible refine And.intro (Qaa _ _ (by kernel_rfl)) ?_))
 have g4':=eq_false g4
 by_cases g5:4294967296<s.o
 ·have g5':=eq_true g5
  have e:Qa2 s=false:=by unfold Qa2 rngS;rw [decide_eq_true (show 0≤s.f by omega),decide_eq_true (show s.f<s.t by omega),decide_eq_true (show s.t≤3600000 by omega),decide_eq_true (show 1≤s.o by omega),decide_eq_false (show¬s.o≤4294967296 by omega)];rfl
  unfold sgPV
  refine Qac (tb:=[]) 111 [.tmp 2] [0,1,2,3,4,5,6,7,8,9,34,46,74,80,106] mixed Tryz.func62 rfl (by kernel_rfl) (by kernel_rfl) (by kernel_rfl) (by kernel_rfl) ?_
  repeat (first|(simp -implicitDefEqProofs only [go_sem,Nat.reduceAdd,Nat.reduceMul,Nat.reduceEqDiff,Nat.reduceLT,Nat.reduceLeDiff,reduceCtorEq,g1',g2',g3',g4',g5',e])|(with_reducible exact Qaa _ _ (by kernel_rfl))|(with_reducible refine And.intro (Qaa _ _ (by kernel_rfl)) ?_))
 have g5':=eq_false g5
 have er:rngS s=true:=by unfold rngS;rw [decide_eq_true (show 0≤s.f by omega),decide_eq_true (show s.f<s.t by omega),decide_eq_true (show s.t≤3600000 by omega),decide_eq_true (show 1≤s.o by omega),decide_eq_true (show s.o≤4294967296 by omega)];rfl
 have w1:=Qcj s.o a5 a6
 have w2:=Qcj 62914560 (by decide) (by decide)
 have hax:=Qt2 s
 have hsg:sgPV s= .agg [.int .i64 s.f,.int .i64 s.t,.int .i64 s.o,.slc (s.x.map (PV.int .i64)),.slc (s.y.map (PV.int .i64)),.slc (s.z.map (PV.int .i64))]:=rfl
 rw [hsg]at hax ⊢
 have wone:=Qcj 1 (by decide) (by decide)
 have hG: ∀i,((s.ax.take i).foldl gcdL s.o.natAbs)<2^64:=by
  intro i
  have: ∀(L:List (List Int)) (g:Nat),g<2^64→(∀c∈L,∀x∈c,x.natAbs<2^64)→L.foldl gcdL g<2^64:=by
   intro L
   induction L with
   |nil=>intro g hg _;exact hg
   |cons c L ih=>intro g hg h;exact ih _ (Qgq c hg (h c (by simp))) fun c' hc'=>h c' (by simp [hc'])
  exact this _ _ (Qa1 ⟨a5,a6⟩) fun c hc' x hx=>Qa1 (hc c (List.mem_of_mem_take hc') x hx)
 have bm:(62914560*s.o).natAbs<2^(64+64):=Qhw (show(62914560:Int).natAbs<2^64 by decide) (Qa1 ⟨a5,a6⟩)
 have m1:=Qe1 (Qbe (show(62914560:Int).natAbs<2^64 by decide) (by decide)) (Qbe (Qa1 ⟨a5,a6⟩) (by decide))
 have ng:=Qrq (62914560*s.o)
 have hbt: ∀c j,Qc8 c s.o (j+1)=(Qc8 c s.o j&&decide (((ctl c j).natAbs:Int)≤62914560*s.o)):=fun c j=>Qfh c s.o j
 generalize hM:62914560*s.o=M at*
 refine Qac (tb:=[]) 111 [.tmp 2] [0,1,2,3,4,5,6,7,8,9,34,46,74,80,106] mixed Tryz.func62 rfl (by kernel_rfl) (by kernel_rfl) (by kernel_rfl) (by kernel_rfl) ?_
 repeat (first|(simp -implicitDefEqProofs only [go_sem,Nat.reduceAdd,Nat.reduceMul,Nat.reduceEqDiff,Nat.reduceLT,Nat.reduceLeDiff,reduceCtorEq,Int.reduceLT,rI,di,g1',g2',g3',g4',g5'])|((with_reducible refine Qab (w1) ?_ ?_ ?_);(with_reducible rfl);rfl)|((with_reducible refine Qab (w2) ?_ ?_ ?_);(with_reducible rfl);rfl)|((with_reducible refine Qab (m1) ?_ ?_ ?_);(with_reducible rfl);rfl)|((with_reducible refine Qab (hax) ?_ ?_ ?_);(with_reducible rfl);rfl)|(with_reducible exact Qaa _ _ (by kernel_rfl))|(with_reducible refine And.intro (Qaa _ _ (by kernel_rfl)) ?_))
 have z0:0≤3∧((s.ax.take 0).all fun c=>axOK c s.o)=true:=⟨Nat.zero_le _,rfl⟩
 refine Qar mixed (fun i:{i:Nat // i≤3∧((s.ax.take i).all fun c=>axOK c s.o)=true}=>St.of [(1,.bp 0 6 0 0),(2,.bool false),(3,.bp 303 2 0 0),(4,.bp 405 2 0 0),(5,.slc [Qas s.x,Qas s.y,Qas s.z]),(6,.int .i64 (i.1:Int))]
  [(0,{els:=[sgPV s],esz:=6,ety:=56,fro:=0,live:=true,arr:=false}),(303,{els:=[rI (((s.ax.take i.1).foldl gcdL s.o.natAbs:Nat):Int)],esz:=2,ety:=76,fro:=0,live:=true,arr:=false}),(405,{els:=[rI M],esz:=2,ety:=76,fro:=0,live:=true,arr:=false})]) (fun i=>3-i.1) ⟨0,z0⟩ ?_ ?_
 ·refine Qak (θ:=[(0,0),(303,303),(405,405)]) rfl ?_ ?_
  ·simp [Qaf,lkp,ren1,ren0,Qap,Qas]
  ·refine⟨⟨rfl,rfl,rfl,rfl,rfl,.inr ⟨rfl,_,_,rfl,rfl,rfl,rfl⟩⟩,⟨rfl,rfl,rfl,rfl,rfl,.inr ⟨rfl,_,_,rfl,rfl,?_,rfl⟩⟩,⟨rfl,rfl,rfl,rfl,rfl,.inr ⟨rfl,_,_,rfl,rfl,rfl,rfl⟩⟩,trivial⟩
   have:((((s.ax.take 0).foldl gcdL s.o.natAbs:Nat):Nat):Int)=s.o:=by simp;omega
   rw [this];rfl
 ·rintro⟨i,hi,hall⟩
  have hGi:=hG i
  by_cases hA:i<3
  ·have hA':((i:Int)<3)=True:=eq_true (by omega)
   have h0:=nnT i
   have hx:=Q21 s i hA
   have hwk:=Qaj (a:=i) (by omega)
   have hcx:=hc (s.ax[i]) (List.getElem_mem hA)
   have hlx:=hl (s.ax[i]) (List.getElem_mem hA)
   have htk:(s.ax.take (i+1)).all (fun c=>axOK c s.o)=axOK s.ax[i] s.o:=by rw [Qb0 s.ax i hA,List.all_append,hall];simp
   have hbad:axOK s.ax[i] s.o=false→Qa2 s=false:=fun h=>by
    unfold Qa2;rw [Q28 (p:=fun c=>axOK c s.o) (l:=s.ax) (i:=i) hA h];simp
   have hfd:(s.ax.take (i+1)).foldl gcdL s.o.natAbs=gcdL ((s.ax.take i).foldl gcdL s.o.natAbs) s.ax[i]:=by rw [Qb0 s.ax i hA,List.foldl_append];rfl
   generalize hC:s.ax[i]=c at*
   generalize (s.ax.take i).foldl gcdL s.o.natAbs=G at*
   have hcb:bd 64 c:=fun x hx=>Qa1 (hcx x hx)
   by_cases q1:c.length<1
   ·have q1':((c.length:Int)<1)=True:=eq_true (by omega)
    have e:=hbad (by unfold axOK Qjq;rw [decide_eq_false (show¬1≤c.length by omega)];rfl)
    repeat (first|(simp -implicitDefEqProofs only [go_sem,Nat.reduceAdd,Nat.reduceMul,Nat.reduceEqDiff,Nat.reduceLT,Nat.reduceLeDiff,reduceCtorEq,hA',h0,hx,hwk,Int.toNat_natCast,List.length_map,q1',e])|(with_reducible exact Qaa _ _ (by kernel_rfl))|(with_reducible refine And.intro (Qaa _ _ (by kernel_rfl)) ?_))
   have q1':((c.length:Int)<1)=False:=eq_false (by omega)
   by_cases q2:6<c.length
   ·have q2':((6:Int)<(c.length:Int))=True:=eq_true (by omega)
    have e:=hbad (by unfold axOK Qjq;rw [decide_eq_false (show¬c.length≤6 by omega)];simp)
    repeat (first|(simp -implicitDefEqProofs only [go_sem,Nat.reduceAdd,Nat.reduceMul,Nat.reduceEqDiff,Nat.reduceLT,Nat.reduceLeDiff,reduceCtorEq,hA',h0,hx,hwk,Int.toNat_natCast,List.length_map,q1',q2',e])|(with_reducible exact Qaa _ _ (by kernel_rfl))|(with_reducible refine And.intro (Qaa _ _ (by kernel_rfl)) ?_))
   have q2':((6:Int)<(c.length:Int))=False:=eq_false (by omega)
   have hct:=Qt3 c (by omega) (by omega) hcx
   unfold rL at hct
   have hlt:c.length-1<c.length:=by omega
   have wl:=Qhe (n:=c.length) (by omega) (by omega)
   have hgl:=Qct c (c.length-1) hlt
   have n1:=nnT (c.length-1)
   have hl0:=Qfa hlt
   by_cases q3:1<c.length
   ·have q3':((1:Int)<(c.length:Int))=True:=eq_true (by omega)
    by_cases q4:c[c.length-1]=0
    ·have q4':(c[c.length-1]==0)=true:=by rw [q4];rfl
     have e:=hbad (by unfold axOK Qjq;rw [hl0,q4',decide_eq_false (show¬c.length≤1 by omega)];simp)
     repeat (first|(simp -implicitDefEqProofs only [go_sem,Nat.reduceAdd,Nat.reduceMul,Nat.reduceEqDiff,Nat.reduceLT,Nat.reduceLeDiff,reduceCtorEq,hA',h0,hx,hwk,Int.toNat_natCast,List.length_map,q1',q2',q3',q4',wl,n1,hgl,e])|(with_reducible exact Qaa _ _ (by kernel_rfl))|(with_reducible refine And.intro (Qaa _ _ (by kernel_rfl)) ?_))
    have q4':(c[c.length-1]==0)=false:=by simp only [beq_eq_false_iff_ne,ne_eq];exact q4
    have e1:axOK c s.o=Qc8 c s.o c.length:=by unfold axOK Qjq;rw [hl0,q4',decide_eq_true (show 1≤c.length by omega),decide_eq_true (show c.length≤6 by omega)];simp
    repeat (first|(simp -implicitDefEqProofs only [go_sem,Nat.reduceAdd,Nat.reduceMul,Nat.reduceEqDiff,Nat.reduceLT,Nat.reduceLeDiff,reduceCtorEq,hA',h0,hx,hwk,Int.toNat_natCast,List.length_map,q1',q2',q3',q4',wl,n1,hgl])|((with_reducible refine Qab (hct) ?_ ?_ ?_);(with_reducible rfl);rfl)|(with_reducible exact Qaa _ _ (by kernel_rfl))|(with_reducible refine And.intro (Qaa _ _ (by kernel_rfl)) ?_))
    have z1:0≤c.length∧Qc8 c s.o 0=true:=⟨Nat.zero_le _,rfl⟩
    refine Qar mixed (fun k:{k:Nat // k≤c.length∧Qc8 c s.o k=true}=>St.of [(1,.bp 0 6 0 0),(2,.bool false),(3,.bp 303 2 0 0),(4,.bp 405 2 0 0),(5,.slc [Qas s.x,Qas s.y,Qas s.z]),(6,.int .i64 (i:Int)),(7,Qas c),(8,.slc ((ctls c c.length).map rI)),(9,.int .i64 (k.1:Int))]
     [(0,{els:=[sgPV s],esz:=6,ety:=56,fro:=0,live:=true,arr:=false}),(303,{els:=[rI ((gcdL G (c.take k.1):Nat):Int)],esz:=2,ety:=76,fro:=0,live:=true,arr:=false}),(405,{els:=[rI M],esz:=2,ety:=76,fro:=0,live:=true,arr:=false})]) (fun k=>c.length-k.1) ⟨0,z1⟩ ?_ ?_
    ·refine Qak (θ:=[(0,0),(303,303),(405,405)]) rfl ?_ ?_
     ·simp [Qaf,lkp,ren1,ren0,Qap,Qas]
     ·exact⟨⟨rfl,rfl,rfl,rfl,rfl,.inr ⟨rfl,_,_,rfl,rfl,rfl,rfl⟩⟩,⟨rfl,rfl,rfl,rfl,rfl,.inr ⟨rfl,_,_,rfl,rfl,rfl,rfl⟩⟩,⟨rfl,rfl,rfl,rfl,rfl,.inr ⟨rfl,_,_,rfl,rfl,rfl,rfl⟩⟩,trivial⟩
    ·rintro⟨k,hk,hbk⟩
     by_cases hB:k<c.length
     ·have hB':=ltT hB
      have n0:=nnT k
      have hgk:=Qct c k hB
      have hwk2:=Qaj (a:=k) (by omega)
      obtain⟨k1,k2⟩:=hcx _ (List.getElem_mem hB)
      have o1:=Qcj c[k] k1 k2
      have x1:=Qa1 (hcx _ (List.getElem_mem hB))
      have x2:((gcdL G (c.take k):Nat):Int).natAbs<2^64:=by rw [Int.natAbs_natCast];exact Qgq _ hGi fun x hx=>Qa1 (hcx x (List.mem_of_mem_take hx))
      have m:=Q27 (Qbe x2 (by decide)) (Qbe x1 (by decide))
      rw [Int.natAbs_natCast,←Qfg,←Qb0 c k hB]at m
      have hgv:=Zhx (ctls c c.length) k (by rw [Qp7];exact hB)
      rw [Qwo]at hgv
      have y3:(ctl c k).natAbs<2^(64+11+7):=Qha (n:=c.length-1) (j:=k) hcb (by omega) (k+1) (by omega)
      have cm1:=Qeh (Qbe y3 (by decide)) (Qbe bm (by decide))
      have cm2:=Qeh (Qbe y3 (by decide)) (Qbe (Q26 bm) (by decide))
      have hbk1:=hbt c k
      rw [hbk,Bool.true_and]at hbk1
      have hsp:=Qr3 (v:=ctl c k) (M:=M)
      have eb:Qc8 c s.o (k+1)=false→Qa2 s=false:=fun h=>hbad (e1.trans (Qpp h hB))
      generalize hX:gcdL G (c.take (k+1))=X at*
      generalize gcdL G (c.take k)=Y at*
      generalize ctl c k=V at*
      by_cases p1:M<V
      ·have p1':((0:Int)<(V-M).sign)=True:=eq_true (Int.sign_pos_iff.2 (by omega))
       have e:=eb (by rw [hbk1];exact decide_eq_false fun h=>(hsp.1 h).1 p1)
       repeat (first|(simp -implicitDefEqProofs only [go_sem,Nat.reduceAdd,Nat.reduceMul,Nat.reduceEqDiff,Nat.reduceLT,Nat.reduceLeDiff,reduceCtorEq,List.length_map,hB',n0,hgk,hgv,rI,di,Int.toNat_natCast,p1',e])|((with_reducible refine Qab (o1) ?_ ?_ ?_);(with_reducible rfl);rfl)|((with_reducible refine Qab (m) ?_ ?_ ?_);(with_reducible rfl);rfl)|((with_reducible refine Qab (cm1) ?_ ?_ ?_);(with_reducible rfl);rfl)|(with_reducible exact Qaa _ _ (by kernel_rfl))|(with_reducible refine And.intro (Qaa _ _ (by kernel_rfl)) ?_))
      ·have p1':((0:Int)<(V-M).sign)=False:=eq_false (by have:=Int.sign_nonpos_iff.2 (show V-M≤0 by omega);omega)
       by_cases p2:V< -M
       ·have p2':((V- -M).sign<0)=True:=eq_true (Int.sign_neg_iff.2 (by omega))
        have e:=eb (by rw [hbk1];exact decide_eq_false fun h=>(hsp.1 h).2 p2)
        repeat (first|(simp -implicitDefEqProofs only [go_sem,Nat.reduceAdd,Nat.reduceMul,Nat.reduceEqDiff,Nat.reduceLT,Nat.reduceLeDiff,reduceCtorEq,List.length_map,hB',n0,hgk,hgv,rI,di,Int.toNat_natCast,p1',p2',e])|((with_reducible refine Qab (o1) ?_ ?_ ?_);(with_reducible rfl);rfl)|((with_reducible refine Qab (m) ?_ ?_ ?_);(with_reducible rfl);rfl)|((with_reducible refine Qab (cm1) ?_ ?_ ?_);(with_reducible rfl);rfl)|((with_reducible refine Qab (ng) ?_ ?_ ?_);(with_reducible rfl);rfl)|((with_reducible refine Qab (cm2) ?_ ?_ ?_);(with_reducible rfl);rfl)|(with_reducible exact Qaa _ _ (by kernel_rfl))|(with_reducible refine And.intro (Qaa _ _ (by kernel_rfl)) ?_))
       ·have p2':((V- -M).sign<0)=False:=eq_false (by have:=Int.sign_nonneg_iff.2 (show 0≤V- -M by omega);omega)
        have hbn:Qc8 c s.o (k+1)=true:=by rw [hbk1];exact decide_eq_true (hsp.2 ⟨p1,p2⟩)
        repeat (first|(simp -implicitDefEqProofs only [go_sem,Nat.reduceAdd,Nat.reduceMul,Nat.reduceEqDiff,Nat.reduceLT,Nat.reduceLeDiff,reduceCtorEq,List.length_map,hB',n0,hgk,hgv,hwk2,rI,di,Int.toNat_natCast,p1',p2'])|((with_reducible refine Qab (o1) ?_ ?_ ?_);(with_reducible rfl);rfl)|((with_reducible refine Qab (m) ?_ ?_ ?_);(with_reducible rfl);rfl)|((with_reducible refine Qab (cm1) ?_ ?_ ?_);(with_reducible rfl);rfl)|((with_reducible refine Qab (ng) ?_ ?_ ?_);(with_reducible rfl);rfl)|((with_reducible refine Qab (cm2) ?_ ?_ ?_);(with_reducible rfl);rfl)|(with_reducible exact Qaa _ _ (by kernel_rfl))|(with_reducible refine And.intro (Qaa _ _ (by kernel_rfl)) ?_))
        refine⟨⟨k+1,hB,hbn⟩,by simp only;omega,Qak (θ:=[(0,0),(303,303),(405,405)]) rfl ?_ ?_⟩
        ·simp [Qaf,lkp,ren1,ren0,Qap,Qas]
        ·simp only [hX]
         exact⟨⟨rfl,rfl,rfl,rfl,rfl,.inr ⟨rfl,_,_,rfl,rfl,rfl,rfl⟩⟩,⟨rfl,rfl,rfl,rfl,rfl,.inr ⟨rfl,_,_,rfl,rfl,rfl,rfl⟩⟩,⟨rfl,rfl,rfl,rfl,rfl,.inr ⟨rfl,_,_,rfl,rfl,rfl,rfl⟩⟩,trivial⟩
     ·have hB':=ltF hB
      obtain rfl:k=c.length:=by omega
      repeat (first|(simp -implicitDefEqProofs only [go_sem,Nat.reduceAdd,Nat.reduceMul,Nat.reduceEqDiff,Nat.reduceLT,Nat.reduceLeDiff,reduceCtorEq,List.length_map,hB',hwk])|(with_reducible exact Qaa _ _ (by kernel_rfl))|(with_reducible refine And.intro (Qaa _ _ (by kernel_rfl)) ?_))
      refine⟨⟨i+1,hA,by rw [htk];exact e1.trans hbk⟩,by simp only;omega,Qak (θ:=[(0,0),(303,303),(405,405)]) rfl ?_ ?_⟩
      ·simp [Qaf,lkp,ren1,ren0,Qap,Qas]
      ·simp only [hfd]
       rw [List.take_length]
       exact⟨⟨rfl,rfl,rfl,rfl,rfl,.inr ⟨rfl,_,_,rfl,rfl,rfl,rfl⟩⟩,⟨rfl,rfl,rfl,rfl,rfl,.inr ⟨rfl,_,_,rfl,rfl,rfl,rfl⟩⟩,⟨rfl,rfl,rfl,rfl,rfl,.inr ⟨rfl,_,_,rfl,rfl,rfl,rfl⟩⟩,trivial⟩
   ·have q3':((1:Int)<(c.length:Int))=False:=eq_false (by omega)
    have e1:axOK c s.o=Qc8 c s.o c.length:=by unfold axOK Qjq;rw [decide_eq_true (show 1≤c.length by omega),decide_eq_true (show c.length≤6 by omega),decide_eq_true (show c.length≤1 by omega)];simp
    repeat (first|(simp -implicitDefEqProofs only [go_sem,Nat.reduceAdd,Nat.reduceMul,Nat.reduceEqDiff,Nat.reduceLT,Nat.reduceLeDiff,reduceCtorEq,hA',h0,hx,hwk,Int.toNat_natCast,List.length_map,q1',q2',q3',wl,n1,hgl])|((with_reducible refine Qab (hct) ?_ ?_ ?_);(with_reducible rfl);rfl)|(with_reducible exact Qaa _ _ (by kernel_rfl))|(with_reducible refine And.intro (Qaa _ _ (by kernel_rfl)) ?_))
    have z1:0≤c.length∧Qc8 c s.o 0=true:=⟨Nat.zero_le _,rfl⟩
    refine Qar mixed (fun k:{k:Nat // k≤c.length∧Qc8 c s.o k=true}=>St.of [(1,.bp 0 6 0 0),(2,.bool false),(3,.bp 303 2 0 0),(4,.bp 405 2 0 0),(5,.slc [Qas s.x,Qas s.y,Qas s.z]),(6,.int .i64 (i:Int)),(7,Qas c),(8,.slc ((ctls c c.length).map rI)),(9,.int .i64 (k.1:Int))]
     [(0,{els:=[sgPV s],esz:=6,ety:=56,fro:=0,live:=true,arr:=false}),(303,{els:=[rI ((gcdL G (c.take k.1):Nat):Int)],esz:=2,ety:=76,fro:=0,live:=true,arr:=false}),(405,{els:=[rI M],esz:=2,ety:=76,fro:=0,live:=true,arr:=false})]) (fun k=>c.length-k.1) ⟨0,z1⟩ ?_ ?_
    ·refine Qak (θ:=[(0,0),(303,303),(405,405)]) rfl ?_ ?_
     ·simp [Qaf,lkp,ren1,ren0,Qap,Qas]
     ·exact⟨⟨rfl,rfl,rfl,rfl,rfl,.inr ⟨rfl,_,_,rfl,rfl,rfl,rfl⟩⟩,⟨rfl,rfl,rfl,rfl,rfl,.inr ⟨rfl,_,_,rfl,rfl,rfl,rfl⟩⟩,⟨rfl,rfl,rfl,rfl,rfl,.inr ⟨rfl,_,_,rfl,rfl,rfl,rfl⟩⟩,trivial⟩
    ·rintro⟨k,hk,hbk⟩
     by_cases hB:k<c.length
     ·have hB':=ltT hB
      have n0:=nnT k
      have hgk:=Qct c k hB
      have hwk2:=Qaj (a:=k) (by omega)
      obtain⟨k1,k2⟩:=hcx _ (List.getElem_mem hB)
      have o1:=Qcj c[k] k1 k2
      have x1:=Qa1 (hcx _ (List.getElem_mem hB))
      have x2:((gcdL G (c.take k):Nat):Int).natAbs<2^64:=by rw [Int.natAbs_natCast];exact Qgq _ hGi fun x hx=>Qa1 (hcx x (List.mem_of_mem_take hx))
      have m:=Q27 (Qbe x2 (by decide)) (Qbe x1 (by decide))
      rw [Int.natAbs_natCast,←Qfg,←Qb0 c k hB]at m
      have hgv:=Zhx (ctls c c.length) k (by rw [Qp7];exact hB)
      rw [Qwo]at hgv
      have y3:(ctl c k).natAbs<2^(64+11+7):=Qha (n:=c.length-1) (j:=k) hcb (by omega) (k+1) (by omega)
      have cm1:=Qeh (Qbe y3 (by decide)) (Qbe bm (by decide))
      have cm2:=Qeh (Qbe y3 (by decide)) (Qbe (Q26 bm) (by decide))
      have hbk1:=hbt c k
      rw [hbk,Bool.true_and]at hbk1
      have hsp:=Qr3 (v:=ctl c k) (M:=M)
      have eb:Qc8 c s.o (k+1)=false→Qa2 s=false:=fun h=>hbad (e1.trans (Qpp h hB))
      generalize hX:gcdL G (c.take (k+1))=X at*
      generalize gcdL G (c.take k)=Y at*
      generalize ctl c k=V at*
      by_cases p1:M<V
      ·have p1':((0:Int)<(V-M).sign)=True:=eq_true (Int.sign_pos_iff.2 (by omega))
       have e:=eb (by rw [hbk1];exact decide_eq_false fun h=>(hsp.1 h).1 p1)
       repeat (first|(simp -implicitDefEqProofs only [go_sem,Nat.reduceAdd,Nat.reduceMul,Nat.reduceEqDiff,Nat.reduceLT,Nat.reduceLeDiff,reduceCtorEq,List.length_map,hB',n0,hgk,hgv,rI,di,Int.toNat_natCast,p1',e])|((with_reducible refine Qab (o1) ?_ ?_ ?_);(with_reducible rfl);rfl)|((with_reducible refine Qab (m) ?_ ?_ ?_);(with_reducible rfl);rfl)|((with_reducible refine Qab (cm1) ?_ ?_ ?_);(with_reducible rfl);rfl)|(with_reducible exact Qaa _ _ (by kernel_rfl))|(with_reducible refine And.intro (Qaa _ _ (by kernel_rfl)) ?_))
      ·have p1':((0:Int)<(V-M).sign)=False:=eq_false (by have:=Int.sign_nonpos_iff.2 (show V-M≤0 by omega);omega)
       by_cases p2:V< -M
       ·have p2':((V- -M).sign<0)=True:=eq_true (Int.sign_neg_iff.2 (by omega))
        have e:=eb (by rw [hbk1];exact decide_eq_false fun h=>(hsp.1 h).2 p2)
        repeat (first|(simp -implicitDefEqProofs only [go_sem,Nat.reduceAdd,Nat.reduceMul,Nat.reduceEqDiff,Nat.reduceLT,Nat.reduceLeDiff,reduceCtorEq,List.length_map,hB',n0,hgk,hgv,rI,di,Int.toNat_natCast,p1',p2',e])|((with_reducible refine Qab (o1) ?_ ?_ ?_);(with_reducible rfl);rfl)|((with_reducible refine Qab (m) ?_ ?_ ?_);(with_reducible rfl);rfl)|((with_reducible refine Qab (cm1) ?_ ?_ ?_);(with_reducible rfl);rfl)|((with_reducible refine Qab (ng) ?_ ?_ ?_);(with_reducible rfl);rfl)|((with_reducible refine Qab (cm2) ?_ ?_ ?_);(with_reducible rfl);rfl)|(with_reducible exact Qaa _ _ (by kernel_rfl))|(with_reducible refine And.intro (Qaa _ _ (by kernel_rfl)) ?_))
       ·have p2':((V- -M).sign<0)=False:=eq_false (by have:=Int.sign_nonneg_iff.2 (show 0≤V- -M by omega);omega)
        have hbn:Qc8 c s.o (k+1)=true:=by rw [hbk1];exact decide_eq_true (hsp.2 ⟨p1,p2⟩)
        repeat (first|(simp -implicitDefEqProofs only [go_sem,Nat.reduceAdd,Nat.reduceMul,Nat.reduceEqDiff,Nat.reduceLT,Nat.reduceLeDiff,reduceCtorEq,List.length_map,hB',n0,hgk,hgv,hwk2,rI,di,Int.toNat_natCast,p1',p2'])|((with_reducible refine Qab (o1) ?_ ?_ ?_);(with_reducible rfl);rfl)|((with_reducible refine Qab (m) ?_ ?_ ?_);(with_reducible rfl);rfl)|((with_reducible refine Qab (cm1) ?_ ?_ ?_);(with_reducible rfl);rfl)|((with_reducible refine Qab (ng) ?_ ?_ ?_);(with_reducible rfl);rfl)|((with_reducible refine Qab (cm2) ?_ ?_ ?_);(with_reducible rfl);rfl)|(with_reducible exact Qaa _ _ (by kernel_rfl))|(with_reducible refine And.intro (Qaa _ _ (by kernel_rfl)) ?_))
        refine⟨⟨k+1,hB,hbn⟩,by simp only;omega,Qak (θ:=[(0,0),(303,303),(405,405)]) rfl ?_ ?_⟩
        ·simp [Qaf,lkp,ren1,ren0,Qap,Qas]
        ·simp only [hX]
         exact⟨⟨rfl,rfl,rfl,rfl,rfl,.inr ⟨rfl,_,_,rfl,rfl,rfl,rfl⟩⟩,⟨rfl,rfl,rfl,rfl,rfl,.inr ⟨rfl,_,_,rfl,rfl,rfl,rfl⟩⟩,⟨rfl,rfl,rfl,rfl,rfl,.inr ⟨rfl,_,_,rfl,rfl,rfl,rfl⟩⟩,trivial⟩
     ·have hB':=ltF hB
      obtain rfl:k=c.length:=by omega
      repeat (first|(simp -implicitDefEqProofs only [go_sem,Nat.reduceAdd,Nat.reduceMul,Nat.reduceEqDiff,Nat.reduceLT,Nat.reduceLeDiff,reduceCtorEq,List.length_map,hB',hwk])|(with_reducible exact Qaa _ _ (by kernel_rfl))|(with_reducible refine And.intro (Qaa _ _ (by kernel_rfl)) ?_))
      refine⟨⟨i+1,hA,by rw [htk];exact e1.trans hbk⟩,by simp only;omega,Qak (θ:=[(0,0),(303,303),(405,405)]) rfl ?_ ?_⟩
      ·simp [Qaf,lkp,ren1,ren0,Qap,Qas]
      ·simp only [hfd]
       rw [List.take_length]
       exact⟨⟨rfl,rfl,rfl,rfl,rfl,.inr ⟨rfl,_,_,rfl,rfl,rfl,rfl⟩⟩,⟨rfl,rfl,rfl,rfl,rfl,.inr ⟨rfl,_,_,rfl,rfl,rfl,rfl⟩⟩,⟨rfl,rfl,rfl,rfl,rfl,.inr ⟨rfl,_,_,rfl,rfl,rfl,rfl⟩⟩,trivial⟩
  ·have hA':((i:Int)<3)=False:=eq_false (by omega)
   obtain rfl:i=3:=by omega
   have et:s.ax.take 3=s.ax:=rfl
   have e:Qa2 s=((s.ax.take 3).foldl gcdL s.o.natAbs==1):=by rw [et]at hall ⊢;unfold Qa2;rw [er,hall];simp
   rw [e]
   simp only
   generalize (s.ax.take 3).foldl gcdL s.o.natAbs=G at*
   have x2:((G:Nat):Int).natAbs<2^64:=by rw [Int.natAbs_natCast];exact hGi
   have hcm:=Qeh (Qbe x2 (by decide)) (Qbe (show(1:Int).natAbs<2^64 by decide) (by decide))
   have hsn:(((G:Int)-1).sign==0)=(G==1):=by
    rw [Bool.eq_iff_iff,beq_iff_eq,beq_iff_eq,Int.sign_eq_zero_iff_zero];omega
   repeat (first|(simp -implicitDefEqProofs only [go_sem,Nat.reduceAdd,Nat.reduceMul,Nat.reduceEqDiff,Nat.reduceLT,Nat.reduceLeDiff,Nat.reduceSub,reduceCtorEq,Int.reduceLT,hA',rI,di,hsn])|((with_reducible refine Qab (wone) ?_ ?_ ?_);(with_reducible rfl);rfl)|((with_reducible refine Qab (hcm) ?_ ?_ ?_);(with_reducible rfl);rfl)|(with_reducible exact Qaa _ _ (by kernel_rfl))|(with_reducible refine And.intro (Qaa _ _ (by kernel_rfl)) ?_))
end Go.Proofs.YtciddhkfbgkejaaGreatDoor

namespace Go.Proofs.YtciddhkfbgkejaaGreatDoor
open Go.Vl Go.RowKit Go.Dg
theorem Zjk {x:Int} {k K:Nat} (h:x.natAbs<2^k) (hk:k≤K):x.natAbs<2^K:=Nat.lt_of_lt_of_le h (Nat.pow_le_pow_right (by decide) hk)
theorem p2_k {x:Int} {k m:Nat} (h:x.natAbs<2^k) (hk:k≤8*m):x.natAbs<256^m:=Qhu h hk
theorem Qeb (n d:Int) (h1:i64 n) (h2:i64 d) (h0:d≠0):Qad Tryz.prog 126 [.int .i64 n,.int .i64 d] (rQq (fr n d)):=by
 have f1:=Qcj n h1.1 h1.2
 have f2:=Qcj d h2.1 h2.2
 have f3:=Q94 n d 8 (by decide) (p2_k (Qa1 h1) (by decide)) (p2_k (Qa1 h2) (by decide)) h0
 have e0:(n:Rat)/(d:Rat)=fr n d:=rfl
 rw [e0]at f3
 generalize fr n d=q at*
 unfold rI di at f1 f2 f3
 unfold rQq rQ di at f3 ⊢
 refine Qac (tb:=[]) 10 [.cell 4 118] [0,1,4] mixed Tryz.func126 rfl (by kernel_rfl) (by kernel_rfl) (by kernel_rfl) (by kernel_rfl) ?_
 repeat (first|(simp -implicitDefEqProofs only [go_sem,Nat.reduceAdd,Nat.reduceMul,Nat.reduceEqDiff,Nat.reduceLT,Nat.reduceLeDiff,reduceCtorEq])|((with_reducible refine Qab (f1) ?_ ?_ ?_);(with_reducible rfl);rfl)|((with_reducible refine Qab (f2) ?_ ?_ ?_);(with_reducible rfl);rfl)|((with_reducible refine Qab (f3) ?_ ?_ ?_);(with_reducible rfl);rfl))
def rqB (x:Rat):Box:={els:=[rQq x],esz:=4,ety:=118,fro:=0,live:=true,arr:=false}
def zRQ:PV:= .agg [.bool false,.nilS,.bool false,.nilS]
attribute [go_sem] zRQ
set_option maxHeartbeats 1000000 in
theorem Zhm (c:List Int) (o:Int) (hc: ∀x∈c,i64 x) (h1:1≤c.length) (h6:c.length≤6) (ho:i64 o) (h0:o≠0) (hk:ok64 c):Qad Tryz.prog 127 [.slc (c.map (PV.int .i64)),.int .i64 o] (rQq (wayR c o)):=by
 have g1:=Qcj o ho.1 ho.2
 have hwl:=Qpb hk (c.length-1) (by omega)
 have hwl2:(wyI c (c.length-1)).natAbs<2^69:=Zjk hwl (by omega)
 have g2:=Q94 (wyI c (c.length-1)) o 9 (by decide) (p2_k hwl2 (by decide)) (p2_k (Qa1 ho) (by decide)) h0
 have e0:((wyI c (c.length-1):Int):Rat)/(o:Rat)=wayR c o:=rfl
 rw [e0]at g2
 generalize hW:wayR c o=W at*
 refine Qac (tb:=[]) 25 [.cell 4 118] [0,1,4,5,6,11] mixed Tryz.func127 rfl (by kernel_rfl) (by kernel_rfl) (by kernel_rfl) (by kernel_rfl) ?_
 repeat (first|(simp -implicitDefEqProofs only [go_sem,Nat.reduceAdd,Nat.reduceMul,Nat.reduceEqDiff,Nat.reduceLT,Nat.reduceLeDiff,reduceCtorEq])|(with_reducible exact Qaa _ _ (by kernel_rfl))|(with_reducible refine And.intro (Qaa _ _ (by kernel_rfl)) ?_))
 refine Qar mixed (fun k:{k:Nat // k≤c.length-1}=>St.of [(0,.slc (c.map (PV.int .i64))),(1,.int .i64 o),(4,.bp 0 4 0 0),(5,.bp 101 2 0 0),(6,.int .i64 ((k.1+1:Nat):Int))] [(0,{els:=[zRQ],esz:=4,ety:=118,fro:=0,live:=true,arr:=false}),(101,{els:=[rI (wyI c k.1)],esz:=2,ety:=76,fro:=0,live:=true,arr:=false})]) (fun k=>c.length-1-k.1) ⟨0,Nat.zero_le _⟩ ?_ ?_
 ·refine Le.trans (Qq9 101 rfl) (Qak (θ:=[(0,0),(101,101)]) rfl ?_ ?_)
  ·simp [Qaf,lkp,ren1,ren0,Qap]
  ·have e1:rI (wyI c 0)= .agg [.bool false,.slc []]:=by
    show rI 0=_
    unfold rI di
    simp [Qay]
   simp only [e1]
   exact⟨⟨rfl,rfl,rfl,rfl,rfl,.inr ⟨rfl,_,_,rfl,rfl,rfl,rfl⟩⟩,⟨rfl,rfl,rfl,rfl,rfl,.inr ⟨rfl,_,_,rfl,rfl,rfl,rfl⟩⟩,trivial⟩
 ·rintro⟨k,hk2⟩
  simp only
  by_cases hA:k+1<c.length
  ·have hA':=ltT hA
   have n0:=nnT (k+1)
   have hwk:=Qaj (a:=k+1) (by omega)
   have hg:=Qgr hA
   have hci:=Qjx hc hA
   have f1:=Qcj _ hci.1 hci.2
   have a1:(wyI c k).natAbs<2^69:=Zjk (Qpb hk k (by omega)) (by omega)
   have f2:=Qkj (Qbe a1 (by decide)) (Qbe (Qa1 hci) (by decide))
   have e6:wyI c k+c.getD (k+1) 0=wyI c (k+1):=rfl
   rw [e6]at f2
   generalize hS:wyI c (k+1)=S at*
   generalize wyI c k=S0 at*
   generalize c.getD (k+1) 0=X at*
   unfold rI di at f1 f2 ⊢
   repeat (first|(simp -implicitDefEqProofs only [go_sem,Nat.reduceAdd,Nat.reduceMul,Nat.reduceEqDiff,Nat.reduceLT,Nat.reduceLeDiff,reduceCtorEq,hA',n0,hwk,hg,Int.toNat_natCast,List.length_map])|((with_reducible refine Qab (f1) ?_ ?_ ?_);(with_reducible rfl);rfl)|((with_reducible refine Qab (f2) ?_ ?_ ?_);(with_reducible rfl);rfl)|(with_reducible exact Qaa _ _ (by kernel_rfl))|(with_reducible refine And.intro (Qaa _ _ (by kernel_rfl)) ?_))
   refine⟨⟨k+1,by omega⟩,by simp only;omega,Qak (θ:=[(0,0),(101,101)]) rfl ?_ ?_⟩
   ·simp [Qaf,lkp,ren1,ren0,Qap]
   ·simp only [hS]
    exact⟨⟨rfl,rfl,rfl,rfl,rfl,.inr ⟨rfl,_,_,rfl,rfl,rfl,rfl⟩⟩,⟨rfl,rfl,rfl,rfl,rfl,.inr ⟨rfl,_,_,rfl,rfl,rfl,rfl⟩⟩,trivial⟩
  ·have hA':=ltF hA
   obtain rfl:k=c.length-1:=by omega
   generalize wyI c (c.length-1)=S at*
   unfold rQq rQ rI di at g2
   unfold rI di at g1
   unfold rQq rQ rI di
   repeat (first|(simp -implicitDefEqProofs only [go_sem,Nat.reduceAdd,Nat.reduceMul,Nat.reduceEqDiff,Nat.reduceLT,Nat.reduceLeDiff,reduceCtorEq,hA',List.length_map])|((with_reducible refine Qab (g1) ?_ ?_ ?_);(with_reducible rfl);rfl)|((with_reducible refine Qab (g2) ?_ ?_ ?_);(with_reducible rfl);rfl)|(with_reducible exact Qaa _ _ (by kernel_rfl))|(with_reducible refine And.intro (Qaa _ _ (by kernel_rfl)) ?_))
theorem Zsg (a b:Int) (i k:Nat):fr (a*((i+1:Nat):Int)*(b*((k+1:Nat):Int))) (((i+1+(k+1)-1:Nat)):Int)=fr (a*((i+1:Nat):Int)*(b*((k+1:Nat):Int))) (((i+1:Nat):Int)+((k+1:Nat):Int)-1):=by
 have:(((i+1+(k+1)-1:Nat)):Int)=((i+1:Nat):Int)+((k+1:Nat):Int)-1:=by omega
 rw [this]
set_option maxHeartbeats 4000000 in
theorem Zsh (c:List Int) (hc: ∀x∈c,i64 x) (h1:1≤c.length) (h6:c.length≤6) (hk:ok64 c):Qad Tryz.prog 131 [.slc (c.map (PV.int .i64))] (rQq (rsQ c)):=by
 have hz:=Qeb 0 1 (by unfold i64;omega) (by unfold i64;omega) (by decide)
 have e0:fr 0 1=rsS c 0:=(by decide+kernel:fr 0 1=0)
 rw [e0]at hz
 generalize hZ:rsS c 0=Z at*
 unfold rQq rQ di at hz
 refine Qac (tb:=[]) 47 [.cell 2 118] [0,2,3,4,5,6,11,17] mixed Tryz.func131 rfl (by kernel_rfl) (by kernel_rfl) (by kernel_rfl) (by kernel_rfl) ?_
 repeat (first|(simp -implicitDefEqProofs only [go_sem,Nat.reduceAdd,Nat.reduceMul,Nat.reduceEqDiff,Nat.reduceLT,Nat.reduceLeDiff,reduceCtorEq])|((with_reducible refine Qab (hz) ?_ ?_ ?_);(with_reducible rfl);rfl)|(with_reducible exact Qaa _ _ (by kernel_rfl))|(with_reducible refine And.intro (Qaa _ _ (by kernel_rfl)) ?_))
 subst hZ
 refine Qar mixed (fun i:{i:Nat // i≤c.length-1}=>St.of [(0,.slc (c.map (PV.int .i64))),(2,.bp 0 4 0 0),(3,.bp 101 4 0 0),(4,.int .i64 ((i.1+1:Nat):Int))] [(0,{els:=[zRQ],esz:=4,ety:=118,fro:=0,live:=true,arr:=false}),(101,rqB (rsS c i.1))]) (fun i=>c.length-1-i.1) ⟨0,Nat.zero_le _⟩ ?_ ?_
 ·refine Qak (θ:=[(0,0),(101,101)]) rfl ?_ ?_
  ·simp [Qaf,lkp,ren1,ren0,Qap]
  ·simp only [rqB,rQq,rQ,di]
   exact⟨⟨rfl,rfl,rfl,rfl,rfl,.inr ⟨rfl,_,_,rfl,rfl,rfl,rfl⟩⟩,⟨rfl,rfl,rfl,rfl,rfl,.inr ⟨rfl,_,_,rfl,rfl,rfl,rfl⟩⟩,trivial⟩
 ·rintro⟨i,hi⟩
  simp only
  by_cases hA:i+1<c.length
  ·have hA':=ltT hA
   have n0:=nnT (i+1)
   have hwk:=Qaj (a:=i+1) (by omega)
   have hg:=Qgr hA
   have hci:=Qjx hc hA
   have f1:=Qcj _ hci.1 hci.2
   have f2:=Qcj ((i+1:Nat):Int) (by omega) (by omega)
   have a1:=Qa1 hci
   have a2:(((i+1:Nat):Int)).natAbs<2^3:=by omega
   have f3:=Qe1 (Qbe a1 (by decide)) (Qbe a2 (by decide))
   have a3:=Qhw a1 a2
   repeat (first|(simp -implicitDefEqProofs only [go_sem,Nat.reduceAdd,Nat.reduceMul,Nat.reduceEqDiff,Nat.reduceLT,Nat.reduceLeDiff,reduceCtorEq,hA',List.length_map])|(with_reducible exact Qaa _ _ (by kernel_rfl))|(with_reducible refine And.intro (Qaa _ _ (by kernel_rfl)) ?_))
   refine Qar mixed (fun k:{k:Nat // k≤c.length-1}=>St.of [(0,.slc (c.map (PV.int .i64))),(2,.bp 0 4 0 0),(3,.bp 101 4 0 0),(4,.int .i64 ((i+1:Nat):Int)),(5,.int .i64 ((k.1+1:Nat):Int))] [(0,{els:=[zRQ],esz:=4,ety:=118,fro:=0,live:=true,arr:=false}),(101,rqB (rsS c i+rsR c (i+1) k.1))]) (fun k=>c.length-1-k.1) ⟨0,Nat.zero_le _⟩ ?_ ?_
   ·refine Qak (θ:=[(0,0),(101,101)]) rfl ?_ ?_
    ·simp [Qaf,lkp,ren1,ren0,Qap]
    ·have e2:rsS c i+rsR c (i+1) 0=rsS c i:=Rat.add_zero _
     simp only [rqB,e2]
     exact⟨⟨rfl,rfl,rfl,rfl,rfl,.inr ⟨rfl,_,_,rfl,rfl,rfl,rfl⟩⟩,⟨rfl,rfl,rfl,rfl,rfl,.inr ⟨rfl,_,_,rfl,rfl,rfl,rfl⟩⟩,trivial⟩
   ·rintro⟨k,hk2⟩
    simp only [rqB]
    by_cases hB:k+1<c.length
    ·have hB':=ltT hB
     have n1:=nnT (k+1)
     have hwk2:=Qaj (a:=k+1) (by omega)
     have hg2:=Qgr hB
     have hck:=Qjx hc hB
     have f4:=Qcj _ hck.1 hck.2
     have f5:=Qcj ((k+1:Nat):Int) (by omega) (by omega)
     have b1:=Qa1 hck
     have b2:(((k+1:Nat):Int)).natAbs<2^3:=by omega
     have f6:=Qe1 (Qbe b1 (by decide)) (Qbe b2 (by decide))
     have b3:=Qhw b1 b2
     have f7:=Qe1 (Qbe a3 (by decide)) (Qbe b3 (by decide))
     have w2:IntKind.i64.wrap (((i+1:Nat):Int)+((k+1:Nat):Int))=((i+1+(k+1):Nat):Int):=by rw [Qah (by omega) (by omega)];omega
     have w3:IntKind.i64.wrap (((i+1+(k+1):Nat):Int)-1)=((i+1+(k+1)-1:Nat):Int):=by rw [Qah (by omega) (by omega)];omega
     have f8:=Qcj ((i+1+(k+1)-1:Nat):Int) (by omega) (by omega)
     have b4:(((i+1+(k+1)-1:Nat):Int)).natAbs<2^4:=by omega
     have f9:=Q94 (c.getD (i+1) 0*((i+1:Nat):Int)*(c.getD (k+1) 0*((k+1:Nat):Int))) ((i+1+(k+1)-1:Nat):Int) 17 (by decide) (p2_k (Qhw a3 b3) (by decide)) (p2_k b4 (by decide)) (by omega)
     have e4:(((c.getD (i+1) 0*((i+1:Nat):Int)*(c.getD (k+1) 0*((k+1:Nat):Int)):Int)):Rat)/((((i+1+(k+1)-1:Nat):Int)):Rat)=rT c (i+1) (k+1):=Zsg _ _ i k
     rw [e4]at f9
     have t4:=Zhc hk (i:=i+1) (k:=k+1) (by omega) (by omega) (by omega) (by omega)
     have t5:=Qdk (Q1b hk h6 (i:=i) (by omega)) (Q1a hk (i:=i+1) (k:=k) (by omega) (by omega) (by omega))
     have f10:=Qmf (k:=5000) (t5.mono (by decide)) (t4.mono (by decide)) (by decide)
     have e5:rsS c i+rsR c (i+1) k+rT c (i+1) (k+1)=rsS c i+rsR c (i+1) (k+1):=by rw [Rat.add_assoc];rfl
     rw [e5]at f10
     clear e4 e5
     generalize c.getD (i+1) 0*((i+1:Nat):Int)*(c.getD (k+1) 0*((k+1:Nat):Int))=X3 at*
     generalize c.getD (i+1) 0*((i+1:Nat):Int)=X1 at*
     generalize c.getD (k+1) 0*((k+1:Nat):Int)=X2 at*
     generalize hT2:rsS c i+rsR c (i+1) (k+1)=T2 at*
     generalize rsS c i+rsR c (i+1) k=T1 at*
     generalize rT c (i+1) (k+1)=T3 at*
     unfold rI di at f1 f2 f3 f4 f5 f6 f7 f8
     unfold rQq rQ rI di at f9
     unfold rQq rQ di at f10 ⊢
     repeat (first|(simp -implicitDefEqProofs only [go_sem,Nat.reduceAdd,Nat.reduceMul,Nat.reduceEqDiff,Nat.reduceLT,Nat.reduceLeDiff,reduceCtorEq,hB',n0,n1,hwk2,hg,hg2,w2,w3,Int.toNat_natCast,List.length_map])|((with_reducible refine Qab (f1) ?_ ?_ ?_);(with_reducible rfl);rfl)|((with_reducible refine Qab (f2) ?_ ?_ ?_);(with_reducible rfl);rfl)|((with_reducible refine Qab (f3) ?_ ?_ ?_);(with_reducible rfl);rfl)|((with_reducible refine Qab (f4) ?_ ?_ ?_);(with_reducible rfl);rfl)|((with_reducible refine Qab (f5) ?_ ?_ ?_);(with_reducible rfl);rfl)|((with_reducible refine Qab (f6) ?_ ?_ ?_);(with_reducible rfl);rfl)|((with_reducible refine Qab (f7) ?_ ?_ ?_);(with_reducible rfl);rfl)|(with_reducible exact Qaa _ _ (by kernel_rfl))|(with_reducible refine And.intro (Qaa _ _ (by kernel_rfl)) ?_))
     repeat (first|(simp -implicitDefEqProofs only [go_sem,Nat.reduceAdd,Nat.reduceMul,Nat.reduceEqDiff,Nat.reduceLT,Nat.reduceLeDiff,reduceCtorEq,hB',n0,n1,hwk2,hg,hg2,w2,w3,Int.toNat_natCast,List.length_map])|((with_reducible refine Qab (f8) ?_ ?_ ?_);(with_reducible rfl);rfl)|((with_reducible refine Qab (f9) ?_ ?_ ?_);(with_reducible rfl);rfl)|((with_reducible refine Qab (f10) ?_ ?_ ?_);(with_reducible rfl);rfl)|(with_reducible exact Qaa _ _ (by kernel_rfl))|(with_reducible refine And.intro (Qaa _ _ (by kernel_rfl)) ?_))
     refine⟨⟨k+1,by omega⟩,by simp only;omega,Qak (θ:=[(0,0),(101,101)]) rfl ?_ ?_⟩
     ·simp [Qaf,lkp,ren1,ren0,Qap]
     ·simp only [hT2,rQq,rQ,di]
      exact⟨⟨rfl,rfl,rfl,rfl,rfl,.inr ⟨rfl,_,_,rfl,rfl,rfl,rfl⟩⟩,⟨rfl,rfl,rfl,rfl,rfl,.inr ⟨rfl,_,_,rfl,rfl,rfl,rfl⟩⟩,trivial⟩
    ·have hB':=ltF hB
     obtain rfl:k=c.length-1:=by omega
     have e2:rsS c i+rsR c (i+1) (c.length-1)=rsS c (i+1):=rfl
     rw [e2]
     generalize hT2:rsS c (i+1)=T2 at*
     repeat (first|(simp -implicitDefEqProofs only [go_sem,Nat.reduceAdd,Nat.reduceMul,Nat.reduceEqDiff,Nat.reduceLT,Nat.reduceLeDiff,reduceCtorEq,hB',hwk,List.length_map])|(with_reducible exact Qaa _ _ (by kernel_rfl))|(with_reducible refine And.intro (Qaa _ _ (by kernel_rfl)) ?_))
     refine⟨⟨i+1,by omega⟩,by simp only;omega,Qak (θ:=[(0,0),(101,101)]) rfl ?_ ?_⟩
     ·simp [Qaf,lkp,ren1,ren0,Qap]
     ·simp only [hT2,rqB]
      exact⟨⟨rfl,rfl,rfl,rfl,rfl,.inr ⟨rfl,_,_,rfl,rfl,rfl,rfl⟩⟩,⟨rfl,rfl,rfl,rfl,rfl,.inr ⟨rfl,_,_,rfl,rfl,rfl,rfl⟩⟩,trivial⟩
  ·have hA':=ltF hA
   obtain rfl:i=c.length-1:=by omega
   have e2:rsQ c=rsS c (c.length-1):=rfl
   rw [e2]
   generalize rsS c (c.length-1)=T2 at*
   unfold rqB rQq rQ di
   repeat (first|(simp -implicitDefEqProofs only [go_sem,Nat.reduceAdd,Nat.reduceMul,Nat.reduceEqDiff,Nat.reduceLT,Nat.reduceLeDiff,reduceCtorEq,hA',List.length_map])|(with_reducible exact Qaa _ _ (by kernel_rfl))|(with_reducible refine And.intro (Qaa _ _ (by kernel_rfl)) ?_))
theorem Zsi {k:Nat} {x:Rat} (hx:fitQ k x) (hk:k≤60000):Qad Tryz.prog 75 [rQq x] (rI (upQ x)):=by
 have a1:=hx.1
 have a2:((x.den:Int)).natAbs<2^k:=by rw [Int.natAbs_natCast];exact hx.2
 have f1:=Qrq x.num
 have f2:=Qwr (x:= -x.num) (y:=(x.den:Int)) (Qbe (Q26 a1) (by omega)) (Qbe a2 (by omega)) (Int.ne_of_gt (den0 x))
 have f3:=Qrq (-x.num/(x.den:Int))
 have e: -(-x.num/(x.den:Int))=upQ x:=by unfold upQ;rw [Rat.neg_num,Rat.neg_den]
 rw [e]at f3
 generalize upQ x=U at*
 generalize -x.num/(x.den:Int)=V at*
 generalize -x.num%(x.den:Int)=V2 at*
 generalize -x.num=M at*
 unfold rQq rQ rI di at*
 refine Qac (tb:=[]) 16 [.cell 2 76] [0,1,2,3] mixed Tryz.func75 rfl (by kernel_rfl) (by kernel_rfl) (by kernel_rfl) (by kernel_rfl) ?_
 repeat (first|(simp -implicitDefEqProofs only [go_sem,Nat.reduceAdd,Nat.reduceMul,Nat.reduceEqDiff,Nat.reduceLT,Nat.reduceLeDiff,reduceCtorEq])|((with_reducible refine Qab (f1) ?_ ?_ ?_);(with_reducible rfl);rfl)|((with_reducible refine Qab (f2) ?_ ?_ ?_);(with_reducible rfl);rfl)|((with_reducible refine Qab (f3) ?_ ?_ ?_);(with_reducible rfl);rfl)|(with_reducible exact Qaa _ _ (by kernel_rfl))|(with_reducible refine And.intro (Qaa _ _ (by kernel_rfl)) ?_))
end Go.Proofs.YtciddhkfbgkejaaGreatDoor

namespace Go.Vl
open Go.RowKit
theorem Zok {st:St} {t b esz off len:Nat} {B:Box} (ht:st.var t=some (.bs b esz off len)) (hB:st.box b=some B) (ha:B.arr=true) (he:B.esz=esz) (hn:off+len≤B.els.length):
  Le st ((st.setBox b {B with fro:=max B.fro (off+len),live:=B.live&&true}).setVar t (.slc ((B.els.drop off).take len))):=by
 rintro C a w ⟨ρ,im,h⟩
 obtain⟨x,hx,hr⟩:=Qsn h (h.var t _ ht) hB ha he hn
 have h1:=h.hold hx hB hn true (.inl rfl)
 refine⟨ρ,_,h1.root,h1.nt,h1.dfr,h1.imc,?_,h1.rho,h1.box,h1.inj⟩
 intro t' v' hv'
 simp only [St.setVar,upd]at hv'
 split at hv'
 ·rename_i e
  cases hv'
  subst e
  exact .ext _ _ hr
 ·exact h1.var t' v' hv'
theorem Zie {vs:List (Nat×PV)} {bs:List (Nat×Box)} {o:List (List PV)} {y:Yl} (t:Nat) {b esz off len:Nat} {B:Box} (ht:lkp vs t=some (.bs b esz off len)) (hB:lkp bs b=some B)
  (ha:B.arr=true) (he:B.esz=esz) (hn:off+len≤B.els.length):
  Le (St.ofG vs bs o y) (St.ofG ((t,.slc ((B.els.drop off).take len))::vs) ((b,{B with fro:=max B.fro (off+len),live:=B.live&&true})::bs) o y):=Zok (st:=St.ofG vs bs o y) ht hB ha he hn
end Go.Vl
