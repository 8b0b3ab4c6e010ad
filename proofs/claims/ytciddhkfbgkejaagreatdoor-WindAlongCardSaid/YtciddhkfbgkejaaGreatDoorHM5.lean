/-
  HM4, HM5 (merged for the claim).
-/
import Derived.Test.YtciddhkfbgkejaaGreatDoorHM3
set_option linter.unusedSimpArgs false
set_option linter.unusedVariables false
namespace Go.Proofs.YtciddhkfbgkejaaGreatDoor
open Go.Vl Go.RowKit Go.Dg
theorem Qr0 (n k:Nat) (hk:k≤n) (hn:n≤50):Qag Tryz.prog 153 [.int .i64 (n:Int),.int .i64 (k:Int)] (.int .i64 (bin n k:Int)):=by
 refine Qac (tb:=[]) 21 [.tmp 4] [0,1,4,5,6,9] mixed Tryz.func153 rfl (by kernel_rfl) (by kernel_rfl) (by kernel_rfl) (by kernel_rfl) ?_
 simp -implicitDefEqProofs only [go_sem,Nat.reduceAdd,Nat.reduceMul,Nat.reduceEqDiff,Nat.reduceLT,Nat.reduceLeDiff,reduceCtorEq]
 refine Qar mixed (fun i:{i:Nat // i≤k}=>St.of [(0,.int .i64 (n:Int)),(1,.int .i64 (k:Int)),(5,.int .i64 (bin n i.1:Int)),(6,.int .i64 (i.1:Int))] []) (fun i=>k-i.1) ⟨0,Nat.zero_le _⟩ ?_ ?_
 ·exact Qay (by simp [Qad,lkp,ren1,ren0,Qfr])
 ·rintro⟨i,hi⟩
  by_cases hA:i<k
  ·have hA':=ltT hA
   have hwk:=Qai (a:=i) (by omega)
   have w1:=Q92 (a:=n) (b:=i) (by omega) (by omega)
   have hb:=Qr6 (n:=n) (i:=i) (m:=n-i) hn (by omega)
   have w2:IntKind.i64.wrap ((bin n i:Int)*((n-i:Nat):Int))=((bin n i*(n-i):Nat):Int):=by rw [←Int.natCast_mul];exact wrapn hb
   have e:bin n i*(n-i)/(i+1)=bin n (i+1):=by rw [Q01 (by omega),Nat.mul_div_cancel _ (Nat.succ_pos i)]
   have t:=Qp2 (bin n i*(n-i)) (i+1)
   rw [e]at t
   have hz:=ne0 i
   have w3:IntKind.i64.wrap (bin n (i+1):Int)=(bin n (i+1):Int):=wrapn (by have:=Qr6 (n:=n) (i:=i+1) (m:=1) hn (by decide);omega)
   simp -implicitDefEqProofs only [go_sem,Nat.reduceAdd,Nat.reduceMul,Nat.reduceEqDiff,Nat.reduceLT,Nat.reduceLeDiff,reduceCtorEq,hA',hwk,w1,w2,hz,t,w3]
   exact⟨⟨i+1,hA⟩,by simp only;omega,Qay (by simp [Qad,lkp,ren1,ren0])⟩
  ·have hA':=ltF hA
   obtain rfl:i=k:=by omega
   simp -implicitDefEqProofs only [go_sem,Nat.reduceAdd,Nat.reduceMul,Nat.reduceEqDiff,Nat.reduceLT,Nat.reduceLeDiff,reduceCtorEq,hA']
def ctls (c:List Int) (j:Nat):List Int:=(List.range j).map (ctl c)
theorem Q2o (c:List Int) (j:Nat):ctls c (j+1)=ctls c j++[ctl c j]:=by simp [ctls,List.range_succ]
theorem Qpp (c:List Int) (j:Nat):(ctls c j).length=j:=by simp [ctls]
theorem Qwu (c:List Int) (j i:Nat) (h:i<(ctls c j).length):(ctls c j)[i]=ctl c i:=by simp [ctls]
theorem Qua (c:List Int) (h1:1≤c.length) (h6:c.length≤6) (hc: ∀x∈c,i64 x):Qag Tryz.prog 102 [Qat c] (rL (ctls c c.length)):=by
 have hcb:bd 64 c:=fun x hx=>Qbc (hc x hx)
 have wl:=Qil (n:=c.length) (by omega) (by omega)
 refine Qac (tb:=[]) 44 [.tmp 2] [0,2,3,4,5,6,7,13,19] mixed Tryz.func102 rfl (by kernel_rfl) (by kernel_rfl) (by kernel_rfl) (by kernel_rfl) ?_
 repeat (first|(simp -implicitDefEqProofs only [go_sem,Nat.reduceAdd,Nat.reduceMul,Nat.reduceEqDiff,Nat.reduceLT,Nat.reduceLeDiff,reduceCtorEq,List.length_map,wl])|(with_reducible exact Qaa _ _ (by kernel_rfl))|(with_reducible refine And.intro (Qaa _ _ (by kernel_rfl)) ?_))
 refine Qar mixed (fun j:{j:Nat // j≤c.length}=>St.of [(0,Qat c),(3,.int .i64 ((c.length-1:Nat):Int)),(4,.bs 7 2 0 j.1),(5,.int .i64 (j.1:Int))]
  [(7,{els:=(ctls c j.1).map rI,esz:=2,ety:=76,fro:=0,live:=true,arr:=true})]) (fun j=>c.length-j.1) ⟨0,Nat.zero_le _⟩ ?_ ?_
 ·refine Qf8 4 7 2 76 rfl rfl rfl (by decide) [(7,7)] rfl ?_ ?_
  ·simp [Qad,lkp,ren1,ren0,Qal,Qat]
  ·simp [Qam,lkp,Box.renames,ctls]
 ·rintro⟨j,hj⟩
  have hlen:((ctls c j).map rI).length=j:=by rw [List.length_map,Qpp]
  by_cases hA:j<c.length
  ·have hA':=leT (show j≤c.length-1 by omega)
   have hwk:=Qai (a:=j) (by omega)
   repeat (first|(simp -implicitDefEqProofs only [go_sem,Nat.reduceAdd,Nat.reduceMul,Nat.reduceEqDiff,Nat.reduceLT,Nat.reduceLeDiff,reduceCtorEq,hA',hwk])|(with_reducible exact Qaa _ _ (by kernel_rfl))|(with_reducible refine And.intro (Qaa _ _ (by kernel_rfl)) ?_))
   refine Qar mixed (fun k:{k:Nat // k≤j+1}=>St.of [(0,Qat c),(3,.int .i64 ((c.length-1:Nat):Int)),(4,.bs 7 2 0 j),(5,.int .i64 (j:Int)),(6,.bp 601 2 0 0),(7,.int .i64 (k.1:Int))]
    [(7,{els:=(ctls c j).map rI,esz:=2,ety:=76,fro:=0,live:=true,arr:=true}),(601,{els:=[rI (sm (fun k=>c.getD k 0*(cw (c.length-1) j k:Int)) k.1)],esz:=2,ety:=76,fro:=0,live:=true,arr:=false})]) (fun k=>j+1-k.1) ⟨0,Nat.zero_le _⟩ ?_ ?_
   ·refine Le.trans (Qvu 601 rfl) (Qaj (θ:=[(7,7),(601,601)]) rfl ?_ ?_)
    ·simp [Qad,lkp,ren1,ren0,Qal,Qat]
    ·refine⟨⟨rfl,rfl,rfl,rfl,rfl,.inl ⟨rfl,rfl⟩⟩,⟨rfl,rfl,rfl,rfl,rfl,.inr ⟨rfl,_,_,rfl,rfl,?_,rfl⟩⟩,trivial⟩
     simp only [sm,rI_z];rfl
   ·rintro⟨k,hk⟩
    by_cases hB:k<j+1
    ·have hB':=leT (show k≤j by omega)
     have hkc:k<c.length:=by omega
     have h0:=nnT k
     have hg:=Qcn c k hkc
     have hwk2:=Qai (a:=k) (by omega)
     have g1:=Qr0 (c.length-1) k (by omega) (by omega)
     have g2:=Qr0 j k (by omega) (by omega)
     have hb0:((bin (c.length-1) k:Int)=0)=False:=eq_false (by have:=Qtq (n:=c.length-1) (k:=k) (by omega);omega)
     have t1:Int.tdiv 60 (bin (c.length-1) k:Int)=((60/bin (c.length-1) k:Nat):Int):=Qp2 60 _
     have d60:60/bin (c.length-1) k≤60:=Nat.div_le_self _ _
     have wk1:IntKind.i64.wrap ((60/bin (c.length-1) k:Nat):Int)=((60/bin (c.length-1) k:Nat):Int):=wrapn (by omega)
     have hcw:=Zgx (c.length-1) j k (by omega)
     have ecw:((60/bin (c.length-1) k:Nat):Int)*(bin j k:Int)=(cw (c.length-1) j k:Int):=by rw [cw,Int.natCast_mul]
     have wk2:IntKind.i64.wrap (cw (c.length-1) j k:Int)=(cw (c.length-1) j k:Int):=wrapn (by omega)
     obtain⟨k1,k2⟩:=hc _ (List.getElem_mem hkc)
     have o1:=Qe2 c[k] k1 k2
     have o2:=Qe2 (cw (c.length-1) j k:Int) (by omega) (by omega)
     have x1:(c[k]).natAbs<2^64:=hcb _ (List.getElem_mem hkc)
     have x2:(cw (c.length-1) j k:Int).natAbs<2^11:=by rw [Int.natAbs_natCast];omega
     have m2:=Qhp (Qbo x1 (by decide)) (Qbo x2 (by decide))
     have y1:=Qg4 (n:=c.length-1) (j:=j) hcb (by omega) k (by omega)
     have es:sm (fun k=>c.getD k 0*(cw (c.length-1) j k:Int)) (k+1)=sm (fun k=>c.getD k 0*(cw (c.length-1) j k:Int)) k+c[k]*(cw (c.length-1) j k:Int):=by simp only [sm];rw [Qe6 hkc]
     have a1:=Qmj (Qbo y1 (by decide)) (Qbo (Qr7 x1 x2) (by decide))
     rw [←es]at a1
     generalize hX:sm (fun k=>c.getD k 0*(cw (c.length-1) j k:Int)) (k+1)=X at*
     generalize sm (fun k=>c.getD k 0*(cw (c.length-1) j k:Int)) k=Y at*
     generalize c[k]*(cw (c.length-1) j k:Int)=Z at*
     generalize (cw (c.length-1) j k:Int)=V at*
     repeat (first|(simp -implicitDefEqProofs only [go_sem,Nat.reduceAdd,Nat.reduceMul,Nat.reduceEqDiff,Nat.reduceLT,Nat.reduceLeDiff,reduceCtorEq,rI,di,hB',h0,hg,hwk2,hb0,t1,wk1,ecw,wk2,Int.toNat_natCast,List.length_map])|((with_reducible refine Qab (o1) ?_ ?_ ?_);(with_reducible rfl);rfl)|((with_reducible refine Qab (g1) ?_ ?_ ?_);(with_reducible rfl);rfl)|((with_reducible refine Qab (g2) ?_ ?_ ?_);(with_reducible rfl);rfl)|((with_reducible refine Qab (o2) ?_ ?_ ?_);(with_reducible rfl);rfl)|((with_reducible refine Qab (m2) ?_ ?_ ?_);(with_reducible rfl);rfl)|((with_reducible refine Qab (a1) ?_ ?_ ?_);(with_reducible rfl);rfl)|(with_reducible exact Qaa _ _ (by kernel_rfl))|(with_reducible refine And.intro (Qaa _ _ (by kernel_rfl)) ?_))
     refine⟨⟨k+1,hB⟩,by simp only;omega,Qaj (θ:=[(7,7),(601,601)]) rfl ?_ ?_⟩
     ·simp [Qad,lkp,ren1,ren0,Qal,Qat]
     ·simp only [hX]
      exact⟨⟨rfl,rfl,rfl,rfl,rfl,.inl ⟨rfl,rfl⟩⟩,⟨rfl,rfl,rfl,rfl,rfl,.inr ⟨rfl,_,_,rfl,rfl,rfl,rfl⟩⟩,trivial⟩
    ·have hB':=leF (show¬k≤j by omega)
     obtain rfl:k=j+1:=by omega
     have ec:sm (fun k=>c.getD k 0*(cw (c.length-1) j k:Int)) (j+1)=ctl c j:=rfl
     simp only [ec]
     have q1:(j==j)=true:=beq_self_eq_true j
     have q2:((j+1)*32≤140737488355328)=True:=eq_true (by omega)
     have q3:(j+1≤maxLen)=True:=eq_true (by unfold maxLen;omega)
     have htk:(ctls c (j+1)).map rI=(ctls c j).map rI++[rI (ctl c j)]:=by rw [Q2o,List.map_append];rfl
     generalize ctl c j=X at*
     repeat (first|(simp -implicitDefEqProofs only [go_sem,Nat.reduceAdd,Nat.reduceMul,Nat.reduceEqDiff,Nat.reduceLT,Nat.reduceLeDiff,reduceIte,reduceCtorEq,Nat.reduceBneDiff,rI,di,hB',hlen,q1,q2,q3,Zm9,hwk])|(with_reducible exact Qaa _ _ (by kernel_rfl))|(with_reducible refine And.intro (Qaa _ _ (by kernel_rfl)) ?_))
     refine⟨⟨j+1,hA⟩,by simp only;omega,Qaj (θ:=[(7,1103)]) rfl ?_ ?_⟩
     ·simp [Qad,lkp,ren1,ren0,Qal,Qat]
     ·simp only [htk]
      simp [Qam,lkp,Box.renames,rI,di]
  ·have hA':=leF (show¬j≤c.length-1 by omega)
   obtain rfl:j=c.length:=by omega
   have e1:((ctls c c.length).map rI).take c.length=(ctls c c.length).map rI:=List.take_of_length_le (by omega)
   repeat (first|(simp -implicitDefEqProofs only [go_sem,Nat.reduceAdd,Nat.reduceMul,Nat.reduceEqDiff,Nat.reduceLT,Nat.reduceLeDiff,reduceIte,reduceCtorEq,hA',hlen,e1,rL])|(with_reducible exact Qaa _ _ (by kernel_rfl))|(with_reducible refine And.intro (Qaa _ _ (by kernel_rfl)) ?_))
theorem Qr1 {v M:Int}:(((v.natAbs:Nat):Int)≤M)↔ ¬(M<v)∧ ¬(v< -M):=by omega
set_option maxHeartbeats 1000000 in
theorem Q2p (s:Sg) (hs:okSg s):Qag Tryz.prog 62 [sgPV s] (.bool (Qa4 s)):=by
 obtain⟨⟨a1,a2⟩,⟨a3,a4⟩,⟨a5,a6⟩,hc,hl⟩:=hs
 by_cases g1:s.f<0
 ·have g1':=eq_true g1
  have e:Qa4 s=false:=by unfold Qa4 rngS;rw [decide_eq_false (by omega)];rfl
  unfold sgPV
  refine Qac (tb:=[]) 111 [.tmp 2] [0,1,2,3,4,5,6,7,8,9,34,46,74,80,106] mixed Tryz.func62 rfl (by kernel_rfl) (by kernel_rfl) (by kernel_rfl) (by kernel_rfl) ?_
  repeat (first|(simp -implicitDefEqProofs only [go_sem,Nat.reduceAdd,Nat.reduceMul,Nat.reduceEqDiff,Nat.reduceLT,Nat.reduceLeDiff,reduceCtorEq,g1',e])|(with_reducible exact Qaa _ _ (by kernel_rfl))|(with_reducible refine And.intro (Qaa _ _ (by kernel_rfl)) ?_))
 have g1':=eq_false g1
 by_cases g2:s.t≤s.f
 ·have g2':=eq_true g2
  have e:Qa4 s=false:=by unfold Qa4 rngS;rw [decide_eq_true (show 0≤s.f by omega),decide_eq_false (show¬s.f<s.t by omega)];rfl
  unfold sgPV
  refine Qac (tb:=[]) 111 [.tmp 2] [0,1,2,3,4,5,6,7,8,9,34,46,74,80,106] mixed Tryz.func62 rfl (by kernel_rfl) (by kernel_rfl) (by kernel_rfl) (by kernel_rfl) ?_
  repeat (first|(simp -implicitDefEqProofs only [go_sem,Nat.reduceAdd,Nat.reduceMul,Nat.reduceEqDiff,Nat.reduceLT,Nat.reduceLeDiff,reduceCtorEq,g1',g2',e])|(with_reducible exact Qaa _ _ (by kernel_rfl))|(with_reducible refine And.intro (Qaa _ _ (by kernel_rfl)) ?_))
 have g2':=eq_false g2
 by_cases g3:3600000<s.t
 ·have g3':=eq_true g3
  have e:Qa4 s=false:=by unfold Qa4 rngS;rw [decide_eq_true (show 0≤s.f by omega),decide_eq_true (show s.f<s.t by omega),decide_eq_false (show¬s.t≤3600000 by omega)];rfl
  unfold sgPV
  refine Qac (tb:=[]) 111 [.tmp 2] [0,1,2,3,4,5,6,7,8,9,34,46,74,80,106] mixed Tryz.func62 rfl (by kernel_rfl) (by kernel_rfl) (by kernel_rfl) (by kernel_rfl) ?_
  repeat (first|(simp -implicitDefEqProofs only [go_sem,Nat.reduceAdd,Nat.reduceMul,Nat.reduceEqDiff,Nat.reduceLT,Nat.reduceLeDiff,reduceCtorEq,g1',g2',g3',e])|(with_reducible exact Qaa _ _ (by kernel_rfl))|(with_reducible refine And.intro (Qaa _ _ (by kernel_rfl)) ?_))
 have g3':=eq_false g3
 by_cases g4:s.o<1
 ·have g4':=eq_true g4
  have e:Qa4 s=false:=by unfold Qa4 rngS;rw [decide_eq_true (show 0≤s.f by omega),decide_eq_true (show s.f<s.t by omega),decide_eq_true (show s.t≤3600000 by omega),decide_eq_false (show¬1≤s.o by omega)];rfl
  unfold sgPV
  refine Qac (tb:=[]) 111 [.tmp 2] [0,1,2,3,4,5,6,7,8,9,34,46,74,80,106] mixed Tryz.func62 rfl (by kernel_rfl) (by kernel_rfl) (by kernel_rfl) (by kernel_rfl) ?_
  repeat (first|(simp -implicitDefEqProofs only [go_sem,Nat.reduceAdd,Nat.reduceMul,Nat.reduceEqDiff,Nat.reduceLT,Nat.reduceLeDiff,reduceCtorEq,g1',g2',g3',g4',e])|(with_reducible exact Qaa _ _ (by kernel_rfl))|(with_reducible refine And.intro (Qaa _ _ (by kernel_rfl)) ?_))
 have g4':=eq_false g4
 by_cases g5:4294967296<s.o
 ·have g5':=eq_true g5
  have e:Qa4 s=false:=by unfold Qa4 rngS;rw [decide_eq_true (show 0≤s.f by omega),decide_eq_true (show s.f<s.t by omega),decide_eq_true (show s.t≤3600000 by omega),decide_eq_true (show 1≤s.o by omega),decide_eq_false (show¬s.o≤4294967296 by omega)];rfl
  unfold sgPV
  refine Qac (tb:=[]) 111 [.tmp 2] [0,1,2,3,4,5,6,7,8,9,34,46,74,80,106] mixed Tryz.func62 rfl (by kernel_rfl) (by kernel_rfl) (by kernel_rfl) (by kernel_rfl) ?_
  repeat (first|(simp -implicitDefEqProofs only [go_sem,Nat.reduceAdd,Nat.reduceMul,Nat.reduceEqDiff,Nat.reduceLT,Nat.reduceLeDiff,reduceCtorEq,g1',g2',g3',g4',g5',e])|(with_reducible exact Qaa _ _ (by kernel_rfl))|(with_reducible refine And.intro (Qaa _ _ (by kernel_rfl)) ?_))
 have g5':=eq_false g5
 have er:rngS s=true:=by unfold rngS;rw [decide_eq_true (show 0≤s.f by omega),decide_eq_true (show s.f<s.t by omega),decide_eq_true (show s.t≤3600000 by omega),decide_eq_true (show 1≤s.o by omega),decide_eq_true (show s.o≤4294967296 by omega)];rfl
 have w1:=Qe2 s.o a5 a6
 have w2:=Qe2 62914560 (by decide) (by decide)
 have hax:=Q2l s
 have hsg:sgPV s= .agg [.int .i64 s.f,.int .i64 s.t,.int .i64 s.o,.slc (s.x.map (PV.int .i64)),.slc (s.y.map (PV.int .i64)),.slc (s.z.map (PV.int .i64))]:=rfl
 rw [hsg]at hax ⊢
 have wone:=Qe2 1 (by decide) (by decide)
 have hG: ∀i,((s.ax.take i).foldl gcdL s.o.natAbs)<2^64:=by
  intro i
  have: ∀(L:List (List Int)) (g:Nat),g<2^64→(∀c∈L,∀x∈c,x.natAbs<2^64)→L.foldl gcdL g<2^64:=by
   intro L
   induction L with
   |nil=>intro g hg _;exact hg
   |cons c L ih=>intro g hg h;exact ih _ (Qgi c hg (h c (by simp))) fun c' hc'=>h c' (by simp [hc'])
  exact this _ _ (Qbc ⟨a5,a6⟩) fun c hc' x hx=>Qbc (hc c (List.mem_of_mem_take hc') x hx)
 have bm:(62914560*s.o).natAbs<2^(64+64):=Qr7 (show(62914560:Int).natAbs<2^64 by decide) (Qbc ⟨a5,a6⟩)
 have m1:=Qhp (Qbo (show(62914560:Int).natAbs<2^64 by decide) (by decide)) (Qbo (Qbc ⟨a5,a6⟩) (by decide))
 have ng:=Zfz (62914560*s.o)
 have hbt: ∀c j,Qc2 c s.o (j+1)=(Qc2 c s.o j&&decide (((ctl c j).natAbs:Int)≤62914560*s.o)):=fun c j=>Qfd c s.o j
 generalize hM:62914560*s.o=M at*
 refine Qac (tb:=[]) 111 [.tmp 2] [0,1,2,3,4,5,6,7,8,9,34,46,74,80,106] mixed Tryz.func62 rfl (by kernel_rfl) (by kernel_rfl) (by kernel_rfl) (by kernel_rfl) ?_
 repeat (first|(simp -implicitDefEqProofs only [go_sem,Nat.reduceAdd,Nat.reduceMul,Nat.reduceEqDiff,Nat.reduceLT,Nat.reduceLeDiff,reduceCtorEq,Int.reduceLT,rI,di,g1',g2',g3',g4',g5'])|((with_reducible refine Qab (w1) ?_ ?_ ?_);(with_reducible rfl);rfl)|((with_reducible refine Qab (w2) ?_ ?_ ?_);(with_reducible rfl);rfl)|((with_reducible refine Qab (m1) ?_ ?_ ?_);(with_reducible rfl);rfl)|((with_reducible refine Qab (hax) ?_ ?_ ?_);(with_reducible rfl);rfl)|(with_reducible exact Qaa _ _ (by kernel_rfl))|(with_reducible refine And.intro (Qaa _ _ (by kernel_rfl)) ?_))
 have z0:0≤3∧((s.ax.take 0).all fun c=>axOK c s.o)=true:=⟨Nat.zero_le _,rfl⟩
 refine Qar mixed (fun i:{i:Nat // i≤3∧((s.ax.take i).all fun c=>axOK c s.o)=true}=>St.of [(1,.bp 0 6 0 0),(2,.bool false),(3,.bp 303 2 0 0),(4,.bp 405 2 0 0),(5,.slc [Qat s.x,Qat s.y,Qat s.z]),(6,.int .i64 (i.1:Int))]
  [(0,{els:=[sgPV s],esz:=6,ety:=56,fro:=0,live:=true,arr:=false}),(303,{els:=[rI (((s.ax.take i.1).foldl gcdL s.o.natAbs:Nat):Int)],esz:=2,ety:=76,fro:=0,live:=true,arr:=false}),(405,{els:=[rI M],esz:=2,ety:=76,fro:=0,live:=true,arr:=false})]) (fun i=>3-i.1) ⟨0,z0⟩ ?_ ?_
 ·refine Qaj (θ:=[(0,0),(303,303),(405,405)]) rfl ?_ ?_
  ·simp [Qad,lkp,ren1,ren0,Qal,Qat]
  ·refine⟨⟨rfl,rfl,rfl,rfl,rfl,.inr ⟨rfl,_,_,rfl,rfl,rfl,rfl⟩⟩,⟨rfl,rfl,rfl,rfl,rfl,.inr ⟨rfl,_,_,rfl,rfl,?_,rfl⟩⟩,⟨rfl,rfl,rfl,rfl,rfl,.inr ⟨rfl,_,_,rfl,rfl,rfl,rfl⟩⟩,trivial⟩
   have:((((s.ax.take 0).foldl gcdL s.o.natAbs:Nat):Nat):Int)=s.o:=by simp;omega
   rw [this];rfl
 ·rintro⟨i,hi,hall⟩
  have hGi:=hG i
  by_cases hA:i<3
  ·have hA':((i:Int)<3)=True:=eq_true (by omega)
   have h0:=nnT i
   have hx:=Q2m s i hA
   have hwk:=Qai (a:=i) (by omega)
   have hcx:=hc (s.ax[i]) (List.getElem_mem hA)
   have hlx:=hl (s.ax[i]) (List.getElem_mem hA)
   have htk:(s.ax.take (i+1)).all (fun c=>axOK c s.o)=axOK s.ax[i] s.o:=by rw [Qa1 s.ax i hA,List.all_append,hall];simp
   have hbad:axOK s.ax[i] s.o=false→Qa4 s=false:=fun h=>by
    unfold Qa4;rw [Q2x (p:=fun c=>axOK c s.o) (l:=s.ax) (i:=i) hA h];simp
   have hfd:(s.ax.take (i+1)).foldl gcdL s.o.natAbs=gcdL ((s.ax.take i).foldl gcdL s.o.natAbs) s.ax[i]:=by rw [Qa1 s.ax i hA,List.foldl_append];rfl
   generalize hC:s.ax[i]=c at*
   generalize (s.ax.take i).foldl gcdL s.o.natAbs=G at*
   have hcb:bd 64 c:=fun x hx=>Qbc (hcx x hx)
   by_cases q1:c.length<1
   ·have q1':((c.length:Int)<1)=True:=eq_true (by omega)
    have e:=hbad (by unfold axOK Qku;rw [decide_eq_false (show¬1≤c.length by omega)];rfl)
    repeat (first|(simp -implicitDefEqProofs only [go_sem,Nat.reduceAdd,Nat.reduceMul,Nat.reduceEqDiff,Nat.reduceLT,Nat.reduceLeDiff,reduceCtorEq,hA',h0,hx,hwk,Int.toNat_natCast,List.length_map,q1',e])|(with_reducible exact Qaa _ _ (by kernel_rfl))|(with_reducible refine And.intro (Qaa _ _ (by kernel_rfl)) ?_))
   have q1':((c.length:Int)<1)=False:=eq_false (by omega)
   by_cases q2:6<c.length
   ·have q2':((6:Int)<(c.length:Int))=True:=eq_true (by omega)
    have e:=hbad (by unfold axOK Qku;rw [decide_eq_false (show¬c.length≤6 by omega)];simp)
    repeat (first|(simp -implicitDefEqProofs only [go_sem,Nat.reduceAdd,Nat.reduceMul,Nat.reduceEqDiff,Nat.reduceLT,Nat.reduceLeDiff,reduceCtorEq,hA',h0,hx,hwk,Int.toNat_natCast,List.length_map,q1',q2',e])|(with_reducible exact Qaa _ _ (by kernel_rfl))|(with_reducible refine And.intro (Qaa _ _ (by kernel_rfl)) ?_))
   have q2':((6:Int)<(c.length:Int))=False:=eq_false (by omega)
   have hct:=Qua c (by omega) (by omega) hcx
   unfold rL at hct
   have hlt:c.length-1<c.length:=by omega
   have wl:=Qil (n:=c.length) (by omega) (by omega)
   have hgl:=Qcn c (c.length-1) hlt
   have n1:=nnT (c.length-1)
   have hl0:=Qe6 hlt
   by_cases q3:1<c.length
   ·have q3':((1:Int)<(c.length:Int))=True:=eq_true (by omega)
    by_cases q4:c[c.length-1]=0
    ·have q4':(c[c.length-1]==0)=true:=by rw [q4];rfl
     have e:=hbad (by unfold axOK Qku;rw [hl0,q4',decide_eq_false (show¬c.length≤1 by omega)];simp)
     repeat (first|(simp -implicitDefEqProofs only [go_sem,Nat.reduceAdd,Nat.reduceMul,Nat.reduceEqDiff,Nat.reduceLT,Nat.reduceLeDiff,reduceCtorEq,hA',h0,hx,hwk,Int.toNat_natCast,List.length_map,q1',q2',q3',q4',wl,n1,hgl,e])|(with_reducible exact Qaa _ _ (by kernel_rfl))|(with_reducible refine And.intro (Qaa _ _ (by kernel_rfl)) ?_))
    have q4':(c[c.length-1]==0)=false:=by simp only [beq_eq_false_iff_ne,ne_eq];exact q4
    have e1:axOK c s.o=Qc2 c s.o c.length:=by unfold axOK Qku;rw [hl0,q4',decide_eq_true (show 1≤c.length by omega),decide_eq_true (show c.length≤6 by omega)];simp
    repeat (first|(simp -implicitDefEqProofs only [go_sem,Nat.reduceAdd,Nat.reduceMul,Nat.reduceEqDiff,Nat.reduceLT,Nat.reduceLeDiff,reduceCtorEq,hA',h0,hx,hwk,Int.toNat_natCast,List.length_map,q1',q2',q3',q4',wl,n1,hgl])|((with_reducible refine Qab (hct) ?_ ?_ ?_);(with_reducible rfl);rfl)|(with_reducible exact Qaa _ _ (by kernel_rfl))|(with_reducible refine And.intro (Qaa _ _ (by kernel_rfl)) ?_))
    have z1:0≤c.length∧Qc2 c s.o 0=true:=⟨Nat.zero_le _,rfl⟩
    refine Qar mixed (fun k:{k:Nat // k≤c.length∧Qc2 c s.o k=true}=>St.of [(1,.bp 0 6 0 0),(2,.bool false),(3,.bp 303 2 0 0),(4,.bp 405 2 0 0),(5,.slc [Qat s.x,Qat s.y,Qat s.z]),(6,.int .i64 (i:Int)),(7,Qat c),(8,.slc ((ctls c c.length).map rI)),(9,.int .i64 (k.1:Int))]
     [(0,{els:=[sgPV s],esz:=6,ety:=56,fro:=0,live:=true,arr:=false}),(303,{els:=[rI ((gcdL G (c.take k.1):Nat):Int)],esz:=2,ety:=76,fro:=0,live:=true,arr:=false}),(405,{els:=[rI M],esz:=2,ety:=76,fro:=0,live:=true,arr:=false})]) (fun k=>c.length-k.1) ⟨0,z1⟩ ?_ ?_
    ·refine Qaj (θ:=[(0,0),(303,303),(405,405)]) rfl ?_ ?_
     ·simp [Qad,lkp,ren1,ren0,Qal,Qat]
     ·exact⟨⟨rfl,rfl,rfl,rfl,rfl,.inr ⟨rfl,_,_,rfl,rfl,rfl,rfl⟩⟩,⟨rfl,rfl,rfl,rfl,rfl,.inr ⟨rfl,_,_,rfl,rfl,rfl,rfl⟩⟩,⟨rfl,rfl,rfl,rfl,rfl,.inr ⟨rfl,_,_,rfl,rfl,rfl,rfl⟩⟩,trivial⟩
    ·rintro⟨k,hk,hbk⟩
     by_cases hB:k<c.length
     ·have hB':=ltT hB
      have n0:=nnT k
      have hgk:=Qcn c k hB
      have hwk2:=Qai (a:=k) (by omega)
      obtain⟨k1,k2⟩:=hcx _ (List.getElem_mem hB)
      have o1:=Qe2 c[k] k1 k2
      have x1:=Qbc (hcx _ (List.getElem_mem hB))
      have x2:((gcdL G (c.take k):Nat):Int).natAbs<2^64:=by rw [Int.natAbs_natCast];exact Qgi _ hGi fun x hx=>Qbc (hcx x (List.mem_of_mem_take hx))
      have m:=Q2w (Qbo x2 (by decide)) (Qbo x1 (by decide))
      rw [Int.natAbs_natCast,←Qfc,←Qa1 c k hB]at m
      have hgv:=Zf8 (ctls c c.length) k (by rw [Qpp];exact hB)
      rw [Qwu]at hgv
      have y3:(ctl c k).natAbs<2^(64+11+7):=Qg4 (n:=c.length-1) (j:=k) hcb (by omega) (k+1) (by omega)
      have cm1:=Qfg (Qbo y3 (by decide)) (Qbo bm (by decide))
      have cm2:=Qfg (Qbo y3 (by decide)) (Qbo (Zf6 bm) (by decide))
      have hbk1:=hbt c k
      rw [hbk,Bool.true_and]at hbk1
      have hsp:=Qr1 (v:=ctl c k) (M:=M)
      have eb:Qc2 c s.o (k+1)=false→Qa4 s=false:=fun h=>hbad (e1.trans (Qo8 h hB))
      generalize hX:gcdL G (c.take (k+1))=X at*
      generalize gcdL G (c.take k)=Y at*
      generalize ctl c k=V at*
      by_cases p1:M<V
      ·have p1':((0:Int)<(V-M).sign)=True:=eq_true (Int.sign_pos_iff.2 (by omega))
       have e:=eb (by rw [hbk1];exact decide_eq_false fun h=>(hsp.1 h).1 p1)
       repeat (first|(simp -implicitDefEqProofs only [go_sem,Nat.reduceAdd,Nat.reduceMul,Nat.reduceEqDiff,Nat.reduceLT,Nat.reduceLeDiff,reduceCtorEq,List.length_map,hB',n0,hgk,hgv,rI,di,Int.toNat_natCast,p1',e])|((with_reducible refine Qab (o1) ?_ ?_ ?_);(with_reducible rfl);rfl)|((with_reducible refine Qab (m) ?_ ?_ ?_);(with_reducible rfl);rfl)|((with_reducible refine Qab (cm1) ?_ ?_ ?_);(with_reducible rfl);rfl)|(with_reducible exact Qaa _ _ (by kernel_rfl))|(with_reducible refine And.intro (Qaa _ _ (by kernel_rfl)) ?_))
      ·have p1':((0:Int)<(V-M).sign)=False:=eq_false (by have:=Int.sign_nonpos_iff.2 (show V-M≤0 by omega);omega)
       by_cases p2:V< -M
       ·have p2':((V- -M).sign<0)=True:=eq_true (Int.sign_neg_iff.2 (by omega))
        have e:=eb (by rw [hbk1];exact decide_eq_false fun h=>(hsp.1 h).2 p2)
        repeat (first|(simp -implicitDefEqProofs only [go_sem,Nat.reduceAdd,Nat.reduceMul,Nat.reduceEqDiff,Nat.reduceLT,Nat.reduceLeDiff,reduceCtorEq,List.length_map,hB',n0,hgk,hgv,rI,di,Int.toNat_natCast,p1',p2',e])|((with_reducible refine Qab (o1) ?_ ?_ ?_);(with_reducible rfl);rfl)|((with_reducible refine Qab (m) ?_ ?_ ?_);(with_reducible rfl);rfl)|((with_reducible refine Qab (cm1) ?_ ?_ ?_);(with_reducible rfl);rfl)|((with_reducible refine Qab (ng) ?_ ?_ ?_);(with_reducible rfl);rfl)|((with_reducible refine Qab (cm2) ?_ ?_ ?_);(with_reducible rfl);rfl)|(with_reducible exact Qaa _ _ (by kernel_rfl))|(with_reducible refine And.intro (Qaa _ _ (by kernel_rfl)) ?_))
       ·have p2':((V- -M).sign<0)=False:=eq_false (by have:=Int.sign_nonneg_iff.2 (show 0≤V- -M by omega);omega)
        have hbn:Qc2 c s.o (k+1)=true:=by rw [hbk1];exact decide_eq_true (hsp.2 ⟨p1,p2⟩)
        repeat (first|(simp -implicitDefEqProofs only [go_sem,Nat.reduceAdd,Nat.reduceMul,Nat.reduceEqDiff,Nat.reduceLT,Nat.reduceLeDiff,reduceCtorEq,List.length_map,hB',n0,hgk,hgv,hwk2,rI,di,Int.toNat_natCast,p1',p2'])|((with_reducible refine Qab (o1) ?_ ?_ ?_);(with_reducible rfl);rfl)|((with_reducible refine Qab (m) ?_ ?_ ?_);(with_reducible rfl);rfl)|((with_reducible refine Qab (cm1) ?_ ?_ ?_);(with_reducible rfl);rfl)|((with_reducible refine Qab (ng) ?_ ?_ ?_);(with_reducible rfl);rfl)|((with_reducible refine Qab (cm2) ?_ ?_ ?_);(with_reducible rfl);rfl)|(with_reducible exact Qaa _ _ (by kernel_rfl))|(with_reducible refine And.intro (Qaa _ _ (by kernel_rfl)) ?_))
        refine⟨⟨k+1,hB,hbn⟩,by simp only;omega,Qaj (θ:=[(0,0),(303,303),(405,405)]) rfl ?_ ?_⟩
        ·simp [Qad,lkp,ren1,ren0,Qal,Qat]
        ·simp only [hX]
         exact⟨⟨rfl,rfl,rfl,rfl,rfl,.inr ⟨rfl,_,_,rfl,rfl,rfl,rfl⟩⟩,⟨rfl,rfl,rfl,rfl,rfl,.inr ⟨rfl,_,_,rfl,rfl,rfl,rfl⟩⟩,⟨rfl,rfl,rfl,rfl,rfl,.inr ⟨rfl,_,_,rfl,rfl,rfl,rfl⟩⟩,trivial⟩
     ·have hB':=ltF hB
      obtain rfl:k=c.length:=by omega
      repeat (first|(simp -implicitDefEqProofs only [go_sem,Nat.reduceAdd,Nat.reduceMul,Nat.reduceEqDiff,Nat.reduceLT,Nat.reduceLeDiff,reduceCtorEq,List.length_map,hB',hwk])|(with_reducible exact Qaa _ _ (by kernel_rfl))|(with_reducible refine And.intro (Qaa _ _ (by kernel_rfl)) ?_))
      refine⟨⟨i+1,hA,by rw [htk];exact e1.trans hbk⟩,by simp only;omega,Qaj (θ:=[(0,0),(303,303),(405,405)]) rfl ?_ ?_⟩
      ·simp [Qad,lkp,ren1,ren0,Qal,Qat]
      ·simp only [hfd]
       rw [List.take_length]
       exact⟨⟨rfl,rfl,rfl,rfl,rfl,.inr ⟨rfl,_,_,rfl,rfl,rfl,rfl⟩⟩,⟨rfl,rfl,rfl,rfl,rfl,.inr ⟨rfl,_,_,rfl,rfl,rfl,rfl⟩⟩,⟨rfl,rfl,rfl,rfl,rfl,.inr ⟨rfl,_,_,rfl,rfl,rfl,rfl⟩⟩,trivial⟩
   ·have q3':((1:Int)<(c.length:Int))=False:=eq_false (by omega)
    have e1:axOK c s.o=Qc2 c s.o c.length:=by unfold axOK Qku;rw [decide_eq_true (show 1≤c.length by omega),decide_eq_true (show c.length≤6 by omega),decide_eq_true (show c.length≤1 by omega)];simp
    repeat (first|(simp -implicitDefEqProofs only [go_sem,Nat.reduceAdd,Nat.reduceMul,Nat.reduceEqDiff,Nat.reduceLT,Nat.reduceLeDiff,reduceCtorEq,hA',h0,hx,hwk,Int.toNat_natCast,List.length_map,q1',q2',q3',wl,n1,hgl])|((with_reducible refine Qab (hct) ?_ ?_ ?_);(with_reducible rfl);rfl)|(with_reducible exact Qaa _ _ (by kernel_rfl))|(with_reducible refine And.intro (Qaa _ _ (by kernel_rfl)) ?_))
    have z1:0≤c.length∧Qc2 c s.o 0=true:=⟨Nat.zero_le _,rfl⟩
    refine Qar mixed (fun k:{k:Nat // k≤c.length∧Qc2 c s.o k=true}=>St.of [(1,.bp 0 6 0 0),(2,.bool false),(3,.bp 303 2 0 0),(4,.bp 405 2 0 0),(5,.slc [Qat s.x,Qat s.y,Qat s.z]),(6,.int .i64 (i:Int)),(7,Qat c),(8,.slc ((ctls c c.length).map rI)),(9,.int .i64 (k.1:Int))]
     [(0,{els:=[sgPV s],esz:=6,ety:=56,fro:=0,live:=true,arr:=false}),(303,{els:=[rI ((gcdL G (c.take k.1):Nat):Int)],esz:=2,ety:=76,fro:=0,live:=true,arr:=false}),(405,{els:=[rI M],esz:=2,ety:=76,fro:=0,live:=true,arr:=false})]) (fun k=>c.length-k.1) ⟨0,z1⟩ ?_ ?_
    ·refine Qaj (θ:=[(0,0),(303,303),(405,405)]) rfl ?_ ?_
     ·simp [Qad,lkp,ren1,ren0,Qal,Qat]
     ·exact⟨⟨rfl,rfl,rfl,rfl,rfl,.inr ⟨rfl,_,_,rfl,rfl,rfl,rfl⟩⟩,⟨rfl,rfl,rfl,rfl,rfl,.inr ⟨rfl,_,_,rfl,rfl,rfl,rfl⟩⟩,⟨rfl,rfl,rfl,rfl,rfl,.inr ⟨rfl,_,_,rfl,rfl,rfl,rfl⟩⟩,trivial⟩
    ·rintro⟨k,hk,hbk⟩
     by_cases hB:k<c.length
     ·have hB':=ltT hB
      have n0:=nnT k
      have hgk:=Qcn c k hB
      have hwk2:=Qai (a:=k) (by omega)
      obtain⟨k1,k2⟩:=hcx _ (List.getElem_mem hB)
      have o1:=Qe2 c[k] k1 k2
      have x1:=Qbc (hcx _ (List.getElem_mem hB))
      have x2:((gcdL G (c.take k):Nat):Int).natAbs<2^64:=by rw [Int.natAbs_natCast];exact Qgi _ hGi fun x hx=>Qbc (hcx x (List.mem_of_mem_take hx))
      have m:=Q2w (Qbo x2 (by decide)) (Qbo x1 (by decide))
      rw [Int.natAbs_natCast,←Qfc,←Qa1 c k hB]at m
      have hgv:=Zf8 (ctls c c.length) k (by rw [Qpp];exact hB)
      rw [Qwu]at hgv
      have y3:(ctl c k).natAbs<2^(64+11+7):=Qg4 (n:=c.length-1) (j:=k) hcb (by omega) (k+1) (by omega)
      have cm1:=Qfg (Qbo y3 (by decide)) (Qbo bm (by decide))
      have cm2:=Qfg (Qbo y3 (by decide)) (Qbo (Zf6 bm) (by decide))
      have hbk1:=hbt c k
      rw [hbk,Bool.true_and]at hbk1
      have hsp:=Qr1 (v:=ctl c k) (M:=M)
      have eb:Qc2 c s.o (k+1)=false→Qa4 s=false:=fun h=>hbad (e1.trans (Qo8 h hB))
      generalize hX:gcdL G (c.take (k+1))=X at*
      generalize gcdL G (c.take k)=Y at*
      generalize ctl c k=V at*
      by_cases p1:M<V
      ·have p1':((0:Int)<(V-M).sign)=True:=eq_true (Int.sign_pos_iff.2 (by omega))
       have e:=eb (by rw [hbk1];exact decide_eq_false fun h=>(hsp.1 h).1 p1)
       repeat (first|(simp -implicitDefEqProofs only [go_sem,Nat.reduceAdd,Nat.reduceMul,Nat.reduceEqDiff,Nat.reduceLT,Nat.reduceLeDiff,reduceCtorEq,List.length_map,hB',n0,hgk,hgv,rI,di,Int.toNat_natCast,p1',e])|((with_reducible refine Qab (o1) ?_ ?_ ?_);(with_reducible rfl);rfl)|((with_reducible refine Qab (m) ?_ ?_ ?_);(with_reducible rfl);rfl)|((with_reducible refine Qab (cm1) ?_ ?_ ?_);(with_reducible rfl);rfl)|(with_reducible exact Qaa _ _ (by kernel_rfl))|(with_reducible refine And.intro (Qaa _ _ (by kernel_rfl)) ?_))
      ·have p1':((0:Int)<(V-M).sign)=False:=eq_false (by have:=Int.sign_nonpos_iff.2 (show V-M≤0 by omega);omega)
       by_cases p2:V< -M
       ·have p2':((V- -M).sign<0)=True:=eq_true (Int.sign_neg_iff.2 (by omega))
        have e:=eb (by rw [hbk1];exact decide_eq_false fun h=>(hsp.1 h).2 p2)
        repeat (first|(simp -implicitDefEqProofs only [go_sem,Nat.reduceAdd,Nat.reduceMul,Nat.reduceEqDiff,Nat.reduceLT,Nat.reduceLeDiff,reduceCtorEq,List.length_map,hB',n0,hgk,hgv,rI,di,Int.toNat_natCast,p1',p2',e])|((with_reducible refine Qab (o1) ?_ ?_ ?_);(with_reducible rfl);rfl)|((with_reducible refine Qab (m) ?_ ?_ ?_);(with_reducible rfl);rfl)|((with_reducible refine Qab (cm1) ?_ ?_ ?_);(with_reducible rfl);rfl)|((with_reducible refine Qab (ng) ?_ ?_ ?_);(with_reducible rfl);rfl)|((with_reducible refine Qab (cm2) ?_ ?_ ?_);(with_reducible rfl);rfl)|(with_reducible exact Qaa _ _ (by kernel_rfl))|(with_reducible refine And.intro (Qaa _ _ (by kernel_rfl)) ?_))
       ·have p2':((V- -M).sign<0)=False:=eq_false (by have:=Int.sign_nonneg_iff.2 (show 0≤V- -M by omega);omega)
        have hbn:Qc2 c s.o (k+1)=true:=by rw [hbk1];exact decide_eq_true (hsp.2 ⟨p1,p2⟩)
        repeat (first|(simp -implicitDefEqProofs only [go_sem,Nat.reduceAdd,Nat.reduceMul,Nat.reduceEqDiff,Nat.reduceLT,Nat.reduceLeDiff,reduceCtorEq,List.length_map,hB',n0,hgk,hgv,hwk2,rI,di,Int.toNat_natCast,p1',p2'])|((with_reducible refine Qab (o1) ?_ ?_ ?_);(with_reducible rfl);rfl)|((with_reducible refine Qab (m) ?_ ?_ ?_);(with_reducible rfl);rfl)|((with_reducible refine Qab (cm1) ?_ ?_ ?_);(with_reducible rfl);rfl)|((with_reducible refine Qab (ng) ?_ ?_ ?_);(with_reducible rfl);rfl)|((with_reducible refine Qab (cm2) ?_ ?_ ?_);(with_reducible rfl);rfl)|(with_reducible exact Qaa _ _ (by kernel_rfl))|(with_reducible refine And.intro (Qaa _ _ (by kernel_rfl)) ?_))
        refine⟨⟨k+1,hB,hbn⟩,by simp only;omega,Qaj (θ:=[(0,0),(303,303),(405,405)]) rfl ?_ ?_⟩
        ·simp [Qad,lkp,ren1,ren0,Qal,Qat]
        ·simp only [hX]
         exact⟨⟨rfl,rfl,rfl,rfl,rfl,.inr ⟨rfl,_,_,rfl,rfl,rfl,rfl⟩⟩,⟨rfl,rfl,rfl,rfl,rfl,.inr ⟨rfl,_,_,rfl,rfl,rfl,rfl⟩⟩,⟨rfl,rfl,rfl,rfl,rfl,.inr ⟨rfl,_,_,rfl,rfl,rfl,rfl⟩⟩,trivial⟩
     ·have hB':=ltF hB
      obtain rfl:k=c.length:=by omega
      repeat (first|(simp -implicitDefEqProofs only [go_sem,Nat.reduceAdd,Nat.reduceMul,Nat.reduceEqDiff,Nat.reduceLT,Nat.reduceLeDiff,reduceCtorEq,List.length_map,hB',hwk])|(with_reducible exact Qaa _ _ (by kernel_rfl))|(with_reducible refine And.intro (Qaa _ _ (by kernel_rfl)) ?_))
      refine⟨⟨i+1,hA,by rw [htk];exact e1.trans hbk⟩,by simp only;omega,Qaj (θ:=[(0,0),(303,303),(405,405)]) rfl ?_ ?_⟩
      ·simp [Qad,lkp,ren1,ren0,Qal,Qat]
      ·simp only [hfd]
       rw [List.take_length]
       exact⟨⟨rfl,rfl,rfl,rfl,rfl,.inr ⟨rfl,_,_,rfl,rfl,rfl,rfl⟩⟩,⟨rfl,rfl,rfl,rfl,rfl,.inr ⟨rfl,_,_,rfl,rfl,rfl,rfl⟩⟩,⟨rfl,rfl,rfl,rfl,rfl,.inr ⟨rfl,_,_,rfl,rfl,rfl,rfl⟩⟩,trivial⟩
  ·have hA':((i:Int)<3)=False:=eq_false (by omega)
   obtain rfl:i=3:=by omega
   have et:s.ax.take 3=s.ax:=rfl
   have e:Qa4 s=((s.ax.take 3).foldl gcdL s.o.natAbs==1):=by rw [et]at hall ⊢;unfold Qa4;rw [er,hall];simp
   rw [e]
   simp only
   generalize (s.ax.take 3).foldl gcdL s.o.natAbs=G at*
   have x2:((G:Nat):Int).natAbs<2^64:=by rw [Int.natAbs_natCast];exact hGi
   have hcm:=Qfg (Qbo x2 (by decide)) (Qbo (show(1:Int).natAbs<2^64 by decide) (by decide))
   have hsn:(((G:Int)-1).sign==0)=(G==1):=by
    rw [Bool.eq_iff_iff,beq_iff_eq,beq_iff_eq,Int.sign_eq_zero_iff_zero];omega
   repeat (first|(simp -implicitDefEqProofs only [go_sem,Nat.reduceAdd,Nat.reduceMul,Nat.reduceEqDiff,Nat.reduceLT,Nat.reduceLeDiff,Nat.reduceSub,reduceCtorEq,Int.reduceLT,hA',rI,di,hsn])|((with_reducible refine Qab (wone) ?_ ?_ ?_);(with_reducible rfl);rfl)|((with_reducible refine Qab (hcm) ?_ ?_ ?_);(with_reducible rfl);rfl)|(with_reducible exact Qaa _ _ (by kernel_rfl))|(with_reducible refine And.intro (Qaa _ _ (by kernel_rfl)) ?_))
end Go.Proofs.YtciddhkfbgkejaaGreatDoor

namespace Go.Proofs.YtciddhkfbgkejaaGreatDoor
open Go.Vl Go.RowKit Go.Dg
theorem Qwv {m B:Nat} (h:m<2^B) (hk:B≤65000):m<2^65000:=Qjl (C:=65000) h hk
def w3PV (x y z:Int):PV:= .agg [.bool (decide (x<0)),.str (mB x),.bool (decide (y<0)),.str (mB y),.bool (decide (z<0)),.str (mB z)]
def Qae (x y z o:Int):PV:= .agg [.bool (decide (x<0)),.str (mB x),.bool (decide (y<0)),.str (mB y),.bool (decide (z<0)),.str (mB z),.bool (decide (o<0)),.str (mB o)]
theorem nc0:((0:Nat):Int)=0:=rfl
theorem nc1:((1:Nat):Int)=1:=rfl
theorem nc2:((2:Nat):Int)=2:=rfl
theorem nc3:((3:Nat):Int)=3:=rfl
theorem wr1:IntKind.i64.wrap 1=1:=rfl
theorem wr2:IntKind.i64.wrap 2=2:=rfl
theorem wr3:IntKind.i64.wrap 3=3:=rfl
attribute [go_sem] w3PV Qae nc0 nc1 nc2 nc3 wr1 wr2 wr3
theorem mB_0:mB 0=⟨#[]⟩:=by unfold mB;rw [(Qp6 0).2 rfl]
def sel (P:Nat→Int) (i m:Nat) (X:Int):Int:=if m=i then X else at3 P i m
def plV (s:Sg) (a d:Int):PV:=Qae (plP s a d 0/(plG s a d 3:Int)) (plP s a d 1/(plG s a d 3:Int)) (plP s a d 2/(plG s a d 3:Int)) (s.o*d^5/(plG s a d 3:Int))
set_option maxHeartbeats 2000000 in
theorem Qpq (s:Sg) (a d:Int) (hs:okSg s) (h6: ∀c∈s.ax,c.length≤6) (ho:1≤s.o) (ha:i64 a) (hd:i64 d) (hd1:1≤d):
  Qag Tryz.prog 109 [sgPV s,.int .i64 a,.int .i64 d] (plV s a d):=by
 obtain⟨⟨a1,a2⟩,⟨a3,a4⟩,⟨a5,a6⟩,hc,hl⟩:=hs
 have ba:=Qbc ha
 have bd':=Qbc hd
 have bo:=Qbc ⟨a5,a6⟩
 have w1:=Qiv s.o a5 a6
 have p5:=Qfu d 5 64 hd.1 hd.2 (by decide) (by decide) bd'
 have bd5:=Qrx bd' 5
 have bod:=Q83 (s:=s) bo bd'
 have m1:=Qho (Qa5 bo (by decide)) (Qa5 bd5 (by decide)) (Qa5 bod (by decide))
 have hax:=Zf2 s
 have hG0:(plG s a d 0:Int)=s.o*d^5:=by
  have h:0<s.o*d^5:=Int.mul_pos (by omega) (Int.pow_pos (by omega))
  show(((s.o*d^5).natAbs:Nat):Int)=_
  omega
 have hcB: ∀c∈s.ax,bd 64 c:=fun c hx x hx2=>Qbc (hc c hx x hx2)
 have bP:=Qv1 hcB h6 ba bd'
 have bG:=Zl7 hcB h6 bo ba bd'
 generalize hO:s.o*d^5=O at*
 have hsg:sgPV s= .agg [.int .i64 s.f,.int .i64 s.t,.int .i64 s.o,.slc (s.x.map (PV.int .i64)),.slc (s.y.map (PV.int .i64)),.slc (s.z.map (PV.int .i64))]:=rfl
 rw [hsg]at hax ⊢
 refine Qac (tb:=[]) 74 [.cell 6 73] [0,1,2,3,6,7,8,9,10,11,12,13,22,23,24,27,28,29,30] mixed Tryz.func109 rfl (by kernel_rfl) (by kernel_rfl) (by kernel_rfl) (by kernel_rfl) ?_
 repeat (first|(simp -implicitDefEqProofs only [go_sem,Nat.reduceAdd,Nat.reduceMul,Nat.reduceEqDiff,Nat.reduceLT,Nat.reduceLeDiff,reduceCtorEq,wPV])|((with_reducible refine Qab (w1) ?_ ?_ ?_);(with_reducible rfl);rfl)|((with_reducible refine Qab (p5) ?_ ?_ ?_);(with_reducible rfl);rfl)|((with_reducible refine Qab (m1) ?_ ?_ ?_);(with_reducible rfl);rfl)|((with_reducible refine Qab (hax) ?_ ?_ ?_);(with_reducible rfl);rfl)|(with_reducible exact Qaa _ _ (by kernel_rfl))|(with_reducible refine And.intro (Qaa _ _ (by kernel_rfl)) ?_))
 refine Qar mixed (fun i:{i:Nat // i≤3}=>St.of [(1,.int .i64 a),(2,.int .i64 d),(6,.bp 1 8 0 0),(7,.bp 100 6 0 0),(8,.bp 206 2 0 0),(9,.bp 301 2 0 0),(22,.agg [Qat s.x,Qat s.y,Qat s.z]),(23,.int .i64 (i.1:Int))]
  [(1,{els:=[.agg [.bool false,.str ⟨#[]⟩,.bool false,.str ⟨#[]⟩,.bool false,.str ⟨#[]⟩,.bool false,.str ⟨#[]⟩]],esz:=8,ety:=73,fro:=0,live:=true,arr:=false}),(100,{els:=[w3PV (at3 (plP s a d) i.1 0) (at3 (plP s a d) i.1 1) (at3 (plP s a d) i.1 2)],esz:=6,ety:=109,fro:=0,live:=true,arr:=false}),(206,{els:=[wPV O],esz:=2,ety:=71,fro:=0,live:=true,arr:=false}),(301,{els:=[wPV ((plG s a d i.1:Nat):Int)],esz:=2,ety:=71,fro:=0,live:=true,arr:=false})]) (fun i=>3-i.1) ⟨0,Nat.zero_le _⟩ ?_ ?_
 ·refine Qaj (θ:=[(1,1),(100,100),(206,206),(301,301)]) rfl ?_ ?_
  ·simp [Qad,lkp,ren1,ren0,Qal,Qat]
  ·refine⟨⟨rfl,rfl,rfl,rfl,rfl,.inr ⟨rfl,_,_,rfl,rfl,rfl,rfl⟩⟩,⟨rfl,rfl,rfl,rfl,rfl,.inr ⟨rfl,_,_,rfl,rfl,?_,rfl⟩⟩,⟨rfl,rfl,rfl,rfl,rfl,.inr ⟨rfl,_,_,rfl,rfl,rfl,rfl⟩⟩,⟨rfl,rfl,rfl,rfl,rfl,.inr ⟨rfl,_,_,rfl,rfl,?_,rfl⟩⟩,trivial⟩
   ·simp only [at3,Nat.not_lt_zero,if_false,w3PV,mB_0];rfl
   ·simp only [hG0];rfl
 ·rintro⟨i,hi⟩
  by_cases hA:i<3
  ·have hA':((i:Int)<3)=True:=eq_true (by omega)
   have hA2:=ltT hA
   have h0:=nnT i
   have hx:=Q2n s i hA
   have hwk:=Qai (a:=i) (by omega)
   rcases(show i=0∨i=1∨i=2 by omega)with hi0|hi0|hi0
   ·skip
    obtain rfl:i=0:=hi0
    have hm:s.ax.getD 0 []=s.ax[0]'hA:=rfl
    have hP:plP s a d 0=sm (plcT (s.ax[0]'hA) a d) (s.ax[0]'hA).length:=rfl
    have hcx:=hc (s.ax[0]) (List.getElem_mem hA)
    have hlx:=h6 (s.ax[0]) (List.getElem_mem hA)
    have bPi:=bP 0 (by omega)
    have bGi:=bG 0 (by omega)
    have hGs:=Qd5 s a d 0
    generalize s.ax[0]'hA=c at*
    repeat (first|(simp -implicitDefEqProofs only [go_sem,Nat.reduceAdd,Nat.reduceMul,Nat.reduceEqDiff,Nat.reduceLT,Nat.reduceLeDiff,Nat.reduceSub,reduceCtorEq,Int.reduceLT,hA',hx,Int.toNat_natCast,List.length_map,at3,Nat.reduceLT])|(with_reducible exact Qaa _ _ (by kernel_rfl))|(with_reducible refine And.intro (Qaa _ _ (by kernel_rfl)) ?_))
    refine Qar mixed (fun k:{k:Nat // k≤c.length}=>St.of [(1,.int .i64 a),(2,.int .i64 d),(6,.bp 1 8 0 0),(7,.bp 100 6 0 0),(8,.bp 206 2 0 0),(9,.bp 301 2 0 0),(22,.agg [Qat s.x,Qat s.y,Qat s.z]),(23,.int .i64 0),(10,.int .i64 0),(27,Qat c),(28,.int .i64 (c.length:Int)),(29,.int .i64 (k.1:Int))]
     [(1,{els:=[.agg [.bool false,.str ⟨#[]⟩,.bool false,.str ⟨#[]⟩,.bool false,.str ⟨#[]⟩,.bool false,.str ⟨#[]⟩]],esz:=8,ety:=73,fro:=0,live:=true,arr:=false}),(100,{els:=[w3PV (sel (plP s a d) 0 0 (sm (plcT c a d) k.1)) (sel (plP s a d) 0 1 (sm (plcT c a d) k.1)) (sel (plP s a d) 0 2 (sm (plcT c a d) k.1))],esz:=6,ety:=109,fro:=0,live:=true,arr:=false}),(206,{els:=[wPV O],esz:=2,ety:=71,fro:=0,live:=true,arr:=false}),(301,{els:=[wPV ((plG s a d 0:Nat):Int)],esz:=2,ety:=71,fro:=0,live:=true,arr:=false})]) (fun k=>c.length-k.1) ⟨0,Nat.zero_le _⟩ ?_ ?_
    ·refine Qaj (θ:=[(1,1),(100,100),(206,206),(301,301)]) rfl ?_ ?_
     ·simp [Qad,lkp,ren1,ren0,Qal,Qat]
     ·refine⟨⟨rfl,rfl,rfl,rfl,rfl,.inr ⟨rfl,_,_,rfl,rfl,rfl,rfl⟩⟩,⟨rfl,rfl,rfl,rfl,rfl,.inr ⟨rfl,_,_,rfl,rfl,?_,rfl⟩⟩,⟨rfl,rfl,rfl,rfl,rfl,.inr ⟨rfl,_,_,rfl,rfl,rfl,rfl⟩⟩,⟨rfl,rfl,rfl,rfl,rfl,.inr ⟨rfl,_,_,rfl,rfl,rfl,rfl⟩⟩,trivial⟩
      simp only [sel,at3,sm]
      rfl
    ·rintro⟨k,hk⟩
     by_cases hB:k<c.length
     ·have hB':=ltT hB
      have n0:=nnT k
      have hgk:=Qcn c k hB
      have hwk2:=Qai (a:=k) (by omega)
      have w5:IntKind.i64.wrap (5-(k:Int))=((5-k:Nat):Int):=by rw [Qah (by omega) (by omega)];omega
      obtain⟨k1,k2⟩:=hcx _ (List.getElem_mem hB)
      have hcb:bd 64 c:=fun x hx=>Qbc (hcx x hx)
      have x1:=hcb _ (List.getElem_mem hB)
      have o1:=Qiv c[k] k1 k2
      have q1:=Qfu a k 64 ha.1 ha.2 (by omega) (by decide) ba
      have q2:=Qfu d (5-k) 64 hd.1 hd.2 (by omega) (by decide) bd'
      obtain⟨t1,t2,t3,t4⟩:=Qhw hcb ba bd' k (by omega)
      have mm1:=Qho (Qa5 t1 (by decide)) (Qa5 t2 (by decide)) (Qa5 t3 (by decide))
      have eT:plcT c a d k=c[k]*(a^k*d^(5-k)):=by unfold plcT;rw [Qe6 hB]
      rw [eT]at t4
      have mm2:=Qho (Qa5 x1 (by decide)) (Qa5 t3 (by decide)) (Qa5 t4 (by decide))
      rw [←eT]at mm2 t4
      have y1:=Qdj hcb ba bd' k (by omega)
      have y2:=Qdj hcb ba bd' (k+1) (by omega)
      have es:sm (plcT c a d) (k+1)=sm (plcT c a d) k+plcT c a d k:=rfl
      rw [es]at y2
      have a1:=Qgm (Qa5 y1 (by decide)) (Qa5 t4 (by decide)) (Qa5 y2 (by decide))
      rw [←es]at a1
      clear y1 y2 t1 t2 t3 t4 es eT hP
      generalize hX:sm (plcT c a d) (k+1)=X at*
      generalize sm (plcT c a d) k=Y at*
      generalize plcT c a d k=T at*
      generalize a^k*d^(5-k)=U at*
      generalize a^k=U1 at*
      generalize d^(5-k)=U2 at*
      repeat (first|(simp -implicitDefEqProofs only [go_sem,Nat.reduceAdd,Nat.reduceMul,Nat.reduceEqDiff,Nat.reduceLT,Nat.reduceLeDiff,reduceCtorEq,Int.reduceLT,wPV,hB',n0,hgk,hwk2,w5,sel,at3,Nat.reduceLT,Int.toNat_natCast,List.length_map])|((with_reducible refine Qab (o1) ?_ ?_ ?_);(with_reducible rfl);rfl)|((with_reducible refine Qab (q1) ?_ ?_ ?_);(with_reducible rfl);rfl)|((with_reducible refine Qab (q2) ?_ ?_ ?_);(with_reducible rfl);rfl)|((with_reducible refine Qab (mm1) ?_ ?_ ?_);(with_reducible rfl);rfl)|((with_reducible refine Qab (mm2) ?_ ?_ ?_);(with_reducible rfl);rfl)|((with_reducible refine Qab (a1) ?_ ?_ ?_);(with_reducible rfl);rfl)|(with_reducible exact Qaa _ _ (by kernel_rfl))|(with_reducible refine And.intro (Qaa _ _ (by kernel_rfl)) ?_))
      refine⟨⟨k+1,hB⟩,by simp only;omega,Qaj (θ:=[(1,1),(100,100),(206,206),(301,301)]) rfl ?_ ?_⟩
      ·simp [Qad,lkp,ren1,ren0,Qal,Qat]
      ·simp only [hX]
       exact⟨⟨rfl,rfl,rfl,rfl,rfl,.inr ⟨rfl,_,_,rfl,rfl,rfl,rfl⟩⟩,⟨rfl,rfl,rfl,rfl,rfl,.inr ⟨rfl,_,_,rfl,rfl,rfl,rfl⟩⟩,⟨rfl,rfl,rfl,rfl,rfl,.inr ⟨rfl,_,_,rfl,rfl,rfl,rfl⟩⟩,⟨rfl,rfl,rfl,rfl,rfl,.inr ⟨rfl,_,_,rfl,rfl,rfl,rfl⟩⟩,trivial⟩
     ·have hB':=ltF hB
      obtain rfl:k=c.length:=by omega
      have gg:=Qrw (Qa5 bGi (by decide)) (Qa5 bPi (by decide))
      rw [Int.natAbs_natCast,←hGs]at gg
      rw [hP]at gg
      generalize hX:sm (plcT c a d) c.length=X at*
      repeat (first|(simp -implicitDefEqProofs only [go_sem,Nat.reduceAdd,Nat.reduceMul,Nat.reduceEqDiff,Nat.reduceLT,Nat.reduceLeDiff,reduceCtorEq,Int.reduceLT,Int.reduceAdd,wPV,hB',sel,at3,Nat.reduceLT,List.length_map])|((with_reducible refine Qab (gg) ?_ ?_ ?_);(with_reducible rfl);rfl)|(with_reducible exact Qaa _ _ (by kernel_rfl))|(with_reducible refine And.intro (Qaa _ _ (by kernel_rfl)) ?_))
      refine⟨⟨0+1,hA⟩,by simp only;omega,Qaj (θ:=[(1,1),(100,100),(206,206),(301,301)]) rfl ?_ ?_⟩
      ·simp [Qad,lkp,ren1,ren0,Qal,Qat]
      ·simp only [at3,hP,hX]
       exact⟨⟨rfl,rfl,rfl,rfl,rfl,.inr ⟨rfl,_,_,rfl,rfl,rfl,rfl⟩⟩,⟨rfl,rfl,rfl,rfl,rfl,.inr ⟨rfl,_,_,rfl,rfl,rfl,rfl⟩⟩,⟨rfl,rfl,rfl,rfl,rfl,.inr ⟨rfl,_,_,rfl,rfl,rfl,rfl⟩⟩,⟨rfl,rfl,rfl,rfl,rfl,.inr ⟨rfl,_,_,rfl,rfl,rfl,rfl⟩⟩,trivial⟩
   ·skip
    obtain rfl:i=1:=hi0
    have hm:s.ax.getD 1 []=s.ax[1]'hA:=rfl
    have hP:plP s a d 1=sm (plcT (s.ax[1]'hA) a d) (s.ax[1]'hA).length:=rfl
    have hcx:=hc (s.ax[1]) (List.getElem_mem hA)
    have hlx:=h6 (s.ax[1]) (List.getElem_mem hA)
    have bPi:=bP 1 (by omega)
    have bGi:=bG 1 (by omega)
    have hGs:=Qd5 s a d 1
    generalize s.ax[1]'hA=c at*
    repeat (first|(simp -implicitDefEqProofs only [go_sem,Nat.reduceAdd,Nat.reduceMul,Nat.reduceEqDiff,Nat.reduceLT,Nat.reduceLeDiff,Nat.reduceSub,reduceCtorEq,Int.reduceLE,Int.reduceLT,Int.reduceToNat,hA',hx,Int.toNat_natCast,List.length_map,at3,Nat.reduceLT])|(with_reducible exact Qaa _ _ (by kernel_rfl))|(with_reducible refine And.intro (Qaa _ _ (by kernel_rfl)) ?_))
    refine Qar mixed (fun k:{k:Nat // k≤c.length}=>St.of [(1,.int .i64 a),(2,.int .i64 d),(6,.bp 1 8 0 0),(7,.bp 100 6 0 0),(8,.bp 206 2 0 0),(9,.bp 301 2 0 0),(22,.agg [Qat s.x,Qat s.y,Qat s.z]),(23,.int .i64 1),(10,.int .i64 1),(27,Qat c),(28,.int .i64 (c.length:Int)),(29,.int .i64 (k.1:Int))]
     [(1,{els:=[.agg [.bool false,.str ⟨#[]⟩,.bool false,.str ⟨#[]⟩,.bool false,.str ⟨#[]⟩,.bool false,.str ⟨#[]⟩]],esz:=8,ety:=73,fro:=0,live:=true,arr:=false}),(100,{els:=[w3PV (sel (plP s a d) 1 0 (sm (plcT c a d) k.1)) (sel (plP s a d) 1 1 (sm (plcT c a d) k.1)) (sel (plP s a d) 1 2 (sm (plcT c a d) k.1))],esz:=6,ety:=109,fro:=0,live:=true,arr:=false}),(206,{els:=[wPV O],esz:=2,ety:=71,fro:=0,live:=true,arr:=false}),(301,{els:=[wPV ((plG s a d 1:Nat):Int)],esz:=2,ety:=71,fro:=0,live:=true,arr:=false})]) (fun k=>c.length-k.1) ⟨0,Nat.zero_le _⟩ ?_ ?_
    ·refine Qaj (θ:=[(1,1),(100,100),(206,206),(301,301)]) rfl ?_ ?_
     ·simp [Qad,lkp,ren1,ren0,Qal,Qat]
     ·refine⟨⟨rfl,rfl,rfl,rfl,rfl,.inr ⟨rfl,_,_,rfl,rfl,rfl,rfl⟩⟩,⟨rfl,rfl,rfl,rfl,rfl,.inr ⟨rfl,_,_,rfl,rfl,?_,rfl⟩⟩,⟨rfl,rfl,rfl,rfl,rfl,.inr ⟨rfl,_,_,rfl,rfl,rfl,rfl⟩⟩,⟨rfl,rfl,rfl,rfl,rfl,.inr ⟨rfl,_,_,rfl,rfl,rfl,rfl⟩⟩,trivial⟩
      simp only [sel,at3,sm]
      rfl
    ·rintro⟨k,hk⟩
     by_cases hB:k<c.length
     ·have hB':=ltT hB
      have n0:=nnT k
      have hgk:=Qcn c k hB
      have hwk2:=Qai (a:=k) (by omega)
      have w5:IntKind.i64.wrap (5-(k:Int))=((5-k:Nat):Int):=by rw [Qah (by omega) (by omega)];omega
      obtain⟨k1,k2⟩:=hcx _ (List.getElem_mem hB)
      have hcb:bd 64 c:=fun x hx=>Qbc (hcx x hx)
      have x1:=hcb _ (List.getElem_mem hB)
      have o1:=Qiv c[k] k1 k2
      have q1:=Qfu a k 64 ha.1 ha.2 (by omega) (by decide) ba
      have q2:=Qfu d (5-k) 64 hd.1 hd.2 (by omega) (by decide) bd'
      obtain⟨t1,t2,t3,t4⟩:=Qhw hcb ba bd' k (by omega)
      have mm1:=Qho (Qa5 t1 (by decide)) (Qa5 t2 (by decide)) (Qa5 t3 (by decide))
      have eT:plcT c a d k=c[k]*(a^k*d^(5-k)):=by unfold plcT;rw [Qe6 hB]
      rw [eT]at t4
      have mm2:=Qho (Qa5 x1 (by decide)) (Qa5 t3 (by decide)) (Qa5 t4 (by decide))
      rw [←eT]at mm2 t4
      have y1:=Qdj hcb ba bd' k (by omega)
      have y2:=Qdj hcb ba bd' (k+1) (by omega)
      have es:sm (plcT c a d) (k+1)=sm (plcT c a d) k+plcT c a d k:=rfl
      rw [es]at y2
      have a1:=Qgm (Qa5 y1 (by decide)) (Qa5 t4 (by decide)) (Qa5 y2 (by decide))
      rw [←es]at a1
      clear y1 y2 t1 t2 t3 t4 es eT hP
      generalize hX:sm (plcT c a d) (k+1)=X at*
      generalize sm (plcT c a d) k=Y at*
      generalize plcT c a d k=T at*
      generalize a^k*d^(5-k)=U at*
      generalize a^k=U1 at*
      generalize d^(5-k)=U2 at*
      repeat (first|(simp -implicitDefEqProofs only [go_sem,Nat.reduceAdd,Nat.reduceMul,Nat.reduceEqDiff,Nat.reduceLT,Nat.reduceLeDiff,reduceCtorEq,Int.reduceLE,Int.reduceLT,Int.reduceToNat,wPV,hB',n0,hgk,hwk2,w5,sel,at3,Nat.reduceLT,Int.toNat_natCast,List.length_map])|((with_reducible refine Qab (o1) ?_ ?_ ?_);(with_reducible rfl);rfl)|((with_reducible refine Qab (q1) ?_ ?_ ?_);(with_reducible rfl);rfl)|((with_reducible refine Qab (q2) ?_ ?_ ?_);(with_reducible rfl);rfl)|((with_reducible refine Qab (mm1) ?_ ?_ ?_);(with_reducible rfl);rfl)|((with_reducible refine Qab (mm2) ?_ ?_ ?_);(with_reducible rfl);rfl)|((with_reducible refine Qab (a1) ?_ ?_ ?_);(with_reducible rfl);rfl)|(with_reducible exact Qaa _ _ (by kernel_rfl))|(with_reducible refine And.intro (Qaa _ _ (by kernel_rfl)) ?_))
      refine⟨⟨k+1,hB⟩,by simp only;omega,Qaj (θ:=[(1,1),(100,100),(206,206),(301,301)]) rfl ?_ ?_⟩
      ·simp [Qad,lkp,ren1,ren0,Qal,Qat]
      ·simp only [hX]
       exact⟨⟨rfl,rfl,rfl,rfl,rfl,.inr ⟨rfl,_,_,rfl,rfl,rfl,rfl⟩⟩,⟨rfl,rfl,rfl,rfl,rfl,.inr ⟨rfl,_,_,rfl,rfl,rfl,rfl⟩⟩,⟨rfl,rfl,rfl,rfl,rfl,.inr ⟨rfl,_,_,rfl,rfl,rfl,rfl⟩⟩,⟨rfl,rfl,rfl,rfl,rfl,.inr ⟨rfl,_,_,rfl,rfl,rfl,rfl⟩⟩,trivial⟩
     ·have hB':=ltF hB
      obtain rfl:k=c.length:=by omega
      have gg:=Qrw (Qa5 bGi (by decide)) (Qa5 bPi (by decide))
      rw [Int.natAbs_natCast,←hGs]at gg
      rw [hP]at gg
      generalize hX:sm (plcT c a d) c.length=X at*
      repeat (first|(simp -implicitDefEqProofs only [go_sem,Nat.reduceAdd,Nat.reduceMul,Nat.reduceEqDiff,Nat.reduceLT,Nat.reduceLeDiff,reduceCtorEq,Int.reduceLE,Int.reduceLT,Int.reduceToNat,Int.reduceAdd,wPV,hB',sel,at3,Nat.reduceLT,List.length_map])|((with_reducible refine Qab (gg) ?_ ?_ ?_);(with_reducible rfl);rfl)|(with_reducible exact Qaa _ _ (by kernel_rfl))|(with_reducible refine And.intro (Qaa _ _ (by kernel_rfl)) ?_))
      refine⟨⟨1+1,hA⟩,by simp only;omega,Qaj (θ:=[(1,1),(100,100),(206,206),(301,301)]) rfl ?_ ?_⟩
      ·simp [Qad,lkp,ren1,ren0,Qal,Qat]
      ·simp only [at3,hP,hX]
       exact⟨⟨rfl,rfl,rfl,rfl,rfl,.inr ⟨rfl,_,_,rfl,rfl,rfl,rfl⟩⟩,⟨rfl,rfl,rfl,rfl,rfl,.inr ⟨rfl,_,_,rfl,rfl,rfl,rfl⟩⟩,⟨rfl,rfl,rfl,rfl,rfl,.inr ⟨rfl,_,_,rfl,rfl,rfl,rfl⟩⟩,⟨rfl,rfl,rfl,rfl,rfl,.inr ⟨rfl,_,_,rfl,rfl,rfl,rfl⟩⟩,trivial⟩
   ·skip
    obtain rfl:i=2:=hi0
    have hm:s.ax.getD 2 []=s.ax[2]'hA:=rfl
    have hP:plP s a d 2=sm (plcT (s.ax[2]'hA) a d) (s.ax[2]'hA).length:=rfl
    have hcx:=hc (s.ax[2]) (List.getElem_mem hA)
    have hlx:=h6 (s.ax[2]) (List.getElem_mem hA)
    have bPi:=bP 2 (by omega)
    have bGi:=bG 2 (by omega)
    have hGs:=Qd5 s a d 2
    generalize s.ax[2]'hA=c at*
    repeat (first|(simp -implicitDefEqProofs only [go_sem,Nat.reduceAdd,Nat.reduceMul,Nat.reduceEqDiff,Nat.reduceLT,Nat.reduceLeDiff,Nat.reduceSub,reduceCtorEq,Int.reduceLE,Int.reduceLT,Int.reduceToNat,hA',hx,Int.toNat_natCast,List.length_map,at3,Nat.reduceLT])|(with_reducible exact Qaa _ _ (by kernel_rfl))|(with_reducible refine And.intro (Qaa _ _ (by kernel_rfl)) ?_))
    refine Qar mixed (fun k:{k:Nat // k≤c.length}=>St.of [(1,.int .i64 a),(2,.int .i64 d),(6,.bp 1 8 0 0),(7,.bp 100 6 0 0),(8,.bp 206 2 0 0),(9,.bp 301 2 0 0),(22,.agg [Qat s.x,Qat s.y,Qat s.z]),(23,.int .i64 2),(10,.int .i64 2),(27,Qat c),(28,.int .i64 (c.length:Int)),(29,.int .i64 (k.1:Int))]
     [(1,{els:=[.agg [.bool false,.str ⟨#[]⟩,.bool false,.str ⟨#[]⟩,.bool false,.str ⟨#[]⟩,.bool false,.str ⟨#[]⟩]],esz:=8,ety:=73,fro:=0,live:=true,arr:=false}),(100,{els:=[w3PV (sel (plP s a d) 2 0 (sm (plcT c a d) k.1)) (sel (plP s a d) 2 1 (sm (plcT c a d) k.1)) (sel (plP s a d) 2 2 (sm (plcT c a d) k.1))],esz:=6,ety:=109,fro:=0,live:=true,arr:=false}),(206,{els:=[wPV O],esz:=2,ety:=71,fro:=0,live:=true,arr:=false}),(301,{els:=[wPV ((plG s a d 2:Nat):Int)],esz:=2,ety:=71,fro:=0,live:=true,arr:=false})]) (fun k=>c.length-k.1) ⟨0,Nat.zero_le _⟩ ?_ ?_
    ·refine Qaj (θ:=[(1,1),(100,100),(206,206),(301,301)]) rfl ?_ ?_
     ·simp [Qad,lkp,ren1,ren0,Qal,Qat]
     ·refine⟨⟨rfl,rfl,rfl,rfl,rfl,.inr ⟨rfl,_,_,rfl,rfl,rfl,rfl⟩⟩,⟨rfl,rfl,rfl,rfl,rfl,.inr ⟨rfl,_,_,rfl,rfl,?_,rfl⟩⟩,⟨rfl,rfl,rfl,rfl,rfl,.inr ⟨rfl,_,_,rfl,rfl,rfl,rfl⟩⟩,⟨rfl,rfl,rfl,rfl,rfl,.inr ⟨rfl,_,_,rfl,rfl,rfl,rfl⟩⟩,trivial⟩
      simp only [sel,at3,sm]
      rfl
    ·rintro⟨k,hk⟩
     by_cases hB:k<c.length
     ·have hB':=ltT hB
      have n0:=nnT k
      have hgk:=Qcn c k hB
      have hwk2:=Qai (a:=k) (by omega)
      have w5:IntKind.i64.wrap (5-(k:Int))=((5-k:Nat):Int):=by rw [Qah (by omega) (by omega)];omega
      obtain⟨k1,k2⟩:=hcx _ (List.getElem_mem hB)
      have hcb:bd 64 c:=fun x hx=>Qbc (hcx x hx)
      have x1:=hcb _ (List.getElem_mem hB)
      have o1:=Qiv c[k] k1 k2
      have q1:=Qfu a k 64 ha.1 ha.2 (by omega) (by decide) ba
      have q2:=Qfu d (5-k) 64 hd.1 hd.2 (by omega) (by decide) bd'
      obtain⟨t1,t2,t3,t4⟩:=Qhw hcb ba bd' k (by omega)
      have mm1:=Qho (Qa5 t1 (by decide)) (Qa5 t2 (by decide)) (Qa5 t3 (by decide))
      have eT:plcT c a d k=c[k]*(a^k*d^(5-k)):=by unfold plcT;rw [Qe6 hB]
      rw [eT]at t4
      have mm2:=Qho (Qa5 x1 (by decide)) (Qa5 t3 (by decide)) (Qa5 t4 (by decide))
      rw [←eT]at mm2 t4
      have y1:=Qdj hcb ba bd' k (by omega)
      have y2:=Qdj hcb ba bd' (k+1) (by omega)
      have es:sm (plcT c a d) (k+1)=sm (plcT c a d) k+plcT c a d k:=rfl
      rw [es]at y2
      have a1:=Qgm (Qa5 y1 (by decide)) (Qa5 t4 (by decide)) (Qa5 y2 (by decide))
      rw [←es]at a1
      clear y1 y2 t1 t2 t3 t4 es eT hP
      generalize hX:sm (plcT c a d) (k+1)=X at*
      generalize sm (plcT c a d) k=Y at*
      generalize plcT c a d k=T at*
      generalize a^k*d^(5-k)=U at*
      generalize a^k=U1 at*
      generalize d^(5-k)=U2 at*
      repeat (first|(simp -implicitDefEqProofs only [go_sem,Nat.reduceAdd,Nat.reduceMul,Nat.reduceEqDiff,Nat.reduceLT,Nat.reduceLeDiff,reduceCtorEq,Int.reduceLE,Int.reduceLT,Int.reduceToNat,wPV,hB',n0,hgk,hwk2,w5,sel,at3,Nat.reduceLT,Int.toNat_natCast,List.length_map])|((with_reducible refine Qab (o1) ?_ ?_ ?_);(with_reducible rfl);rfl)|((with_reducible refine Qab (q1) ?_ ?_ ?_);(with_reducible rfl);rfl)|((with_reducible refine Qab (q2) ?_ ?_ ?_);(with_reducible rfl);rfl)|((with_reducible refine Qab (mm1) ?_ ?_ ?_);(with_reducible rfl);rfl)|((with_reducible refine Qab (mm2) ?_ ?_ ?_);(with_reducible rfl);rfl)|((with_reducible refine Qab (a1) ?_ ?_ ?_);(with_reducible rfl);rfl)|(with_reducible exact Qaa _ _ (by kernel_rfl))|(with_reducible refine And.intro (Qaa _ _ (by kernel_rfl)) ?_))
      refine⟨⟨k+1,hB⟩,by simp only;omega,Qaj (θ:=[(1,1),(100,100),(206,206),(301,301)]) rfl ?_ ?_⟩
      ·simp [Qad,lkp,ren1,ren0,Qal,Qat]
      ·simp only [hX]
       exact⟨⟨rfl,rfl,rfl,rfl,rfl,.inr ⟨rfl,_,_,rfl,rfl,rfl,rfl⟩⟩,⟨rfl,rfl,rfl,rfl,rfl,.inr ⟨rfl,_,_,rfl,rfl,rfl,rfl⟩⟩,⟨rfl,rfl,rfl,rfl,rfl,.inr ⟨rfl,_,_,rfl,rfl,rfl,rfl⟩⟩,⟨rfl,rfl,rfl,rfl,rfl,.inr ⟨rfl,_,_,rfl,rfl,rfl,rfl⟩⟩,trivial⟩
     ·have hB':=ltF hB
      obtain rfl:k=c.length:=by omega
      have gg:=Qrw (Qa5 bGi (by decide)) (Qa5 bPi (by decide))
      rw [Int.natAbs_natCast,←hGs]at gg
      rw [hP]at gg
      generalize hX:sm (plcT c a d) c.length=X at*
      repeat (first|(simp -implicitDefEqProofs only [go_sem,Nat.reduceAdd,Nat.reduceMul,Nat.reduceEqDiff,Nat.reduceLT,Nat.reduceLeDiff,reduceCtorEq,Int.reduceLE,Int.reduceLT,Int.reduceToNat,Int.reduceAdd,wPV,hB',sel,at3,Nat.reduceLT,List.length_map])|((with_reducible refine Qab (gg) ?_ ?_ ?_);(with_reducible rfl);rfl)|(with_reducible exact Qaa _ _ (by kernel_rfl))|(with_reducible refine And.intro (Qaa _ _ (by kernel_rfl)) ?_))
      refine⟨⟨2+1,hA⟩,by simp only;omega,Qaj (θ:=[(1,1),(100,100),(206,206),(301,301)]) rfl ?_ ?_⟩
      ·simp [Qad,lkp,ren1,ren0,Qal,Qat]
      ·simp only [at3,hP,hX]
       exact⟨⟨rfl,rfl,rfl,rfl,rfl,.inr ⟨rfl,_,_,rfl,rfl,rfl,rfl⟩⟩,⟨rfl,rfl,rfl,rfl,rfl,.inr ⟨rfl,_,_,rfl,rfl,rfl,rfl⟩⟩,⟨rfl,rfl,rfl,rfl,rfl,.inr ⟨rfl,_,_,rfl,rfl,rfl,rfl⟩⟩,⟨rfl,rfl,rfl,rfl,rfl,.inr ⟨rfl,_,_,rfl,rfl,rfl,rfl⟩⟩,trivial⟩
  ·have hA':((i:Int)<3)=False:=eq_false (by omega)
   obtain rfl:i=3:=by omega
   have G0:=Qts ho hd1 3 (s:=s) (d:=d) (a:=a)
   have bG3:=Qwv (bG 3 (by decide)) (by decide)
   have r0:=Qmg (bP 0 (by decide)) (by decide) bG3 (by omega)
   have r1:=Qmg (bP 1 (by decide)) (by decide) bG3 (by omega)
   have r2:=Qmg (bP 2 (by decide)) (by decide) bG3 (by omega)
   have r3:=Qmg bod (by decide) bG3 (by omega)
   unfold plV
   rw [hO]
   have z0:at3 (plP s a d) 3 0=plP s a d 0:=rfl
   have z1:at3 (plP s a d) 3 1=plP s a d 1:=rfl
   have z2:at3 (plP s a d) 3 2=plP s a d 2:=rfl
   simp only [z0,z1,z2]
   clear z0 z1 z2
   generalize plP s a d 0=X0 at*
   generalize plP s a d 1=X1 at*
   generalize plP s a d 2=X2 at*
   generalize ((plG s a d 3:Nat):Int)=G at*
   generalize X0/G=Y0 at*
   generalize X1/G=Y1 at*
   generalize X2/G=Y2 at*
   generalize O/G=Y3 at*
   repeat (first|(simp -implicitDefEqProofs only [go_sem,Nat.reduceAdd,Nat.reduceMul,Nat.reduceEqDiff,Nat.reduceLT,Nat.reduceLeDiff,Nat.reduceSub,reduceCtorEq,Int.reduceLE,Int.reduceLT,Int.reduceToNat,hA',wPV,at3,Nat.reduceLT])|((with_reducible refine Qab (r0) ?_ ?_ ?_);(with_reducible rfl);rfl)|((with_reducible refine Qab (r1) ?_ ?_ ?_);(with_reducible rfl);rfl)|((with_reducible refine Qab (r2) ?_ ?_ ?_);(with_reducible rfl);rfl)|((with_reducible refine Qab (r3) ?_ ?_ ?_);(with_reducible rfl);rfl)|(with_reducible exact Qaa _ _ (by kernel_rfl))|(with_reducible refine And.intro (Qaa _ _ (by kernel_rfl)) ?_))
end Go.Proofs.YtciddhkfbgkejaaGreatDoor
