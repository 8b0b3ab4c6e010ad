/-
  SM5 (merged for the claim).
-/
import Derived.Test.YtlpiamlgibomhaaGreatSM4
set_option linter.unusedSimpArgs false
set_option linter.unusedVariables false
namespace Go.Proofs.YtlpiamlgibomhaaGreat
open Go.Vl Go.RowKit Go.Dg
theorem Qnd {m B:Nat} (h:m<2^B) (hk:B≤65000):m<2^65000:=Qeh (C:=65000) h hk
def w3PV (x y z:Int):PV:= .agg [.bool (decide (x<0)),.str (mB x),.bool (decide (y<0)),.str (mB y),.bool (decide (z<0)),.str (mB z)]
def Qae (x y z o:Int):PV:= .agg [.bool (decide (x<0)),.str (mB x),.bool (decide (y<0)),.str (mB y),.bool (decide (z<0)),.str (mB z),.bool (decide (o<0)),.str (mB o)]
theorem nc0:((0:Nat):Int)=0:=rfl
theorem nc1:((1:Nat):Int)=1:=rfl
theorem nc2:((2:Nat):Int)=2:=rfl
theorem nc3:((3:Nat):Int)=3:=rfl
theorem wr1:IntKind.i64.wrap 1=1:=rfl
theorem wr2:IntKind.i64.wrap 2=2:=rfl
theorem wr3:IntKind.i64.wrap 3=3:=rfl
attribute [go_sem] w3PV Qae nc0 nc1 nc2 nc3 wr1 wr2 wr3
theorem mB_0:mB 0=⟨#[]⟩:=by unfold mB;rw [(Qox 0).2 rfl]
def sel (P:Nat→Int) (i m:Nat) (X:Int):Int:=if m=i then X else at3 P i m
def plV (s:Sg) (a d:Int):PV:=Qae (plP s a d 0/(plG s a d 3:Int)) (plP s a d 1/(plG s a d 3:Int)) (plP s a d 2/(plG s a d 3:Int)) (s.o*d^5/(plG s a d 3:Int))
set_option maxHeartbeats 2000000 in
theorem Qop (s:Sg) (a d:Int) (hs:okSg s) (h6: ∀c∈s.ax,c.length≤6) (ho:1≤s.o) (ha:i64 a) (hd:i64 d) (hd1:1≤d):
  Qag Tryz.prog 60 [sgPV s,.int .i64 a,.int .i64 d] (plV s a d):=by
 obtain⟨⟨a1,a2⟩,⟨a3,a4⟩,⟨a5,a6⟩,hc,hl⟩:=hs
 have ba:=Qau ha
 have bd':=Qau hd
 have bo:=Qau ⟨a5,a6⟩
 have w1:=Qen s.o a5 a6
 have p5:=Qc2 d 5 64 hd.1 hd.2 (by decide) (by decide) bd'
 have bd5:=Qk8 bd' 5
 have bod:=Zbq (s:=s) bo bd'
 have m1:=Qf3 (Qar bo (by decide)) (Qar bd5 (by decide)) (Qar bod (by decide))
 have hax:=Q3z s
 have hG0:(plG s a d 0:Int)=s.o*d^5:=by
  have h:0<s.o*d^5:=Int.mul_pos (by omega) (Int.pow_pos (by omega))
  show(((s.o*d^5).natAbs:Nat):Int)=_
  omega
 have hcB: ∀c∈s.ax,bd 64 c:=fun c hx x hx2=>Qau (hc c hx x hx2)
 have bP:=Qug hcB h6 ba bd'
 have bG:=Zl6 hcB h6 bo ba bd'
 generalize hO:s.o*d^5=O at*
 have hsg:sgPV s= .agg [.int .i64 s.f,.int .i64 s.t,.int .i64 s.o,.slc (s.x.map (PV.int .i64)),.slc (s.y.map (PV.int .i64)),.slc (s.z.map (PV.int .i64))]:=rfl
 rw [hsg]at hax ⊢
 refine Qac (tb:=[]) 74 [.cell 6 33] [0,1,2,3,6,7,8,9,10,11,12,13,22,23,24,27,28,29,30] mixed Tryz.func60 rfl (by kernel_rfl) (by kernel_rfl) (by kernel_rfl) (by kernel_rfl) ?_
 repeat (first|(simp -implicitDefEqProofs only [go_sem,Nat.reduceAdd,Nat.reduceMul,Nat.reduceEqDiff,Nat.reduceLT,Nat.reduceLeDiff,reduceCtorEq,wPV])|((with_reducible refine Qab (w1) ?_ ?_ ?_);(with_reducible rfl);rfl)|((with_reducible refine Qab (p5) ?_ ?_ ?_);(with_reducible rfl);rfl)|((with_reducible refine Qab (m1) ?_ ?_ ?_);(with_reducible rfl);rfl)|((with_reducible refine Qab (hax) ?_ ?_ ?_);(with_reducible rfl);rfl)|(with_reducible exact Qaa _ _ (by kernel_rfl))|(with_reducible refine And.intro (Qaa _ _ (by kernel_rfl)) ?_))
 refine Qas mixed (fun i:{i:Nat // i≤3}=>St.of [(1,.int .i64 a),(2,.int .i64 d),(6,.bp 1 8 0 0),(7,.bp 100 6 0 0),(8,.bp 206 2 0 0),(9,.bp 301 2 0 0),(22,.agg [Qan s.x,Qan s.y,Qan s.z]),(23,.int .i64 (i.1:Int))]
  [(1,{els:=[.agg [.bool false,.str ⟨#[]⟩,.bool false,.str ⟨#[]⟩,.bool false,.str ⟨#[]⟩,.bool false,.str ⟨#[]⟩]],esz:=8,ety:=33,fro:=0,live:=true,arr:=false}),(100,{els:=[w3PV (at3 (plP s a d) i.1 0) (at3 (plP s a d) i.1 1) (at3 (plP s a d) i.1 2)],esz:=6,ety:=93,fro:=0,live:=true,arr:=false}),(206,{els:=[wPV O],esz:=2,ety:=31,fro:=0,live:=true,arr:=false}),(301,{els:=[wPV ((plG s a d i.1:Nat):Int)],esz:=2,ety:=31,fro:=0,live:=true,arr:=false})]) (fun i=>3-i.1) ⟨0,Nat.zero_le _⟩ ?_ ?_
 ·refine Qal (θ:=[(1,1),(100,100),(206,206),(301,301)]) rfl ?_ ?_
  ·simp [Qad,lkp,ren1,ren0,Qap,Qan]
  ·refine⟨⟨rfl,rfl,rfl,rfl,rfl,.inr ⟨rfl,_,_,rfl,rfl,rfl,rfl⟩⟩,⟨rfl,rfl,rfl,rfl,rfl,.inr ⟨rfl,_,_,rfl,rfl,?_,rfl⟩⟩,⟨rfl,rfl,rfl,rfl,rfl,.inr ⟨rfl,_,_,rfl,rfl,rfl,rfl⟩⟩,⟨rfl,rfl,rfl,rfl,rfl,.inr ⟨rfl,_,_,rfl,rfl,?_,rfl⟩⟩,trivial⟩
   ·simp only [at3,Nat.not_lt_zero,if_false,w3PV,mB_0];rfl
   ·simp only [hG0];rfl
 ·rintro⟨i,hi⟩
  by_cases hA:i<3
  ·have hA':((i:Int)<3)=True:=eq_true (by omega)
   have hA2:=ltT hA
   have h0:=nnT i
   have hx:=Qs0 s i hA
   have hwk:=Qaj (a:=i) (by omega)
   rcases(show i=0∨i=1∨i=2 by omega)with hi0|hi0|hi0
   ·skip
    obtain rfl:i=0:=hi0
    have hm:s.ax.getD 0 []=s.ax[0]'hA:=rfl
    have hP:plP s a d 0=sm (plcT (s.ax[0]'hA) a d) (s.ax[0]'hA).length:=rfl
    have hcx:=hc (s.ax[0]) (List.getElem_mem hA)
    have hlx:=h6 (s.ax[0]) (List.getElem_mem hA)
    have bPi:=bP 0 (by omega)
    have bGi:=bG 0 (by omega)
    have hGs:=Qfe s a d 0
    generalize s.ax[0]'hA=c at*
    repeat (first|(simp -implicitDefEqProofs only [go_sem,Nat.reduceAdd,Nat.reduceMul,Nat.reduceEqDiff,Nat.reduceLT,Nat.reduceLeDiff,Nat.reduceSub,reduceCtorEq,Int.reduceLT,hA',hx,Int.toNat_natCast,List.length_map,at3,Nat.reduceLT])|(with_reducible exact Qaa _ _ (by kernel_rfl))|(with_reducible refine And.intro (Qaa _ _ (by kernel_rfl)) ?_))
    refine Qas mixed (fun k:{k:Nat // k≤c.length}=>St.of [(1,.int .i64 a),(2,.int .i64 d),(6,.bp 1 8 0 0),(7,.bp 100 6 0 0),(8,.bp 206 2 0 0),(9,.bp 301 2 0 0),(22,.agg [Qan s.x,Qan s.y,Qan s.z]),(23,.int .i64 0),(10,.int .i64 0),(27,Qan c),(28,.int .i64 (c.length:Int)),(29,.int .i64 (k.1:Int))]
     [(1,{els:=[.agg [.bool false,.str ⟨#[]⟩,.bool false,.str ⟨#[]⟩,.bool false,.str ⟨#[]⟩,.bool false,.str ⟨#[]⟩]],esz:=8,ety:=33,fro:=0,live:=true,arr:=false}),(100,{els:=[w3PV (sel (plP s a d) 0 0 (sm (plcT c a d) k.1)) (sel (plP s a d) 0 1 (sm (plcT c a d) k.1)) (sel (plP s a d) 0 2 (sm (plcT c a d) k.1))],esz:=6,ety:=93,fro:=0,live:=true,arr:=false}),(206,{els:=[wPV O],esz:=2,ety:=31,fro:=0,live:=true,arr:=false}),(301,{els:=[wPV ((plG s a d 0:Nat):Int)],esz:=2,ety:=31,fro:=0,live:=true,arr:=false})]) (fun k=>c.length-k.1) ⟨0,Nat.zero_le _⟩ ?_ ?_
    ·refine Qal (θ:=[(1,1),(100,100),(206,206),(301,301)]) rfl ?_ ?_
     ·simp [Qad,lkp,ren1,ren0,Qap,Qan]
     ·refine⟨⟨rfl,rfl,rfl,rfl,rfl,.inr ⟨rfl,_,_,rfl,rfl,rfl,rfl⟩⟩,⟨rfl,rfl,rfl,rfl,rfl,.inr ⟨rfl,_,_,rfl,rfl,?_,rfl⟩⟩,⟨rfl,rfl,rfl,rfl,rfl,.inr ⟨rfl,_,_,rfl,rfl,rfl,rfl⟩⟩,⟨rfl,rfl,rfl,rfl,rfl,.inr ⟨rfl,_,_,rfl,rfl,rfl,rfl⟩⟩,trivial⟩
      simp only [sel,at3,sm]
      rfl
    ·rintro⟨k,hk⟩
     by_cases hB:k<c.length
     ·have hB':=ltT hB
      have n0:=nnT k
      have hgk:=Qb2 c k hB
      have hwk2:=Qaj (a:=k) (by omega)
      have w5:IntKind.i64.wrap (5-(k:Int))=((5-k:Nat):Int):=by rw [Qah (by omega) (by omega)];omega
      obtain⟨k1,k2⟩:=hcx _ (List.getElem_mem hB)
      have hcb:bd 64 c:=fun x hx=>Qau (hcx x hx)
      have x1:=hcb _ (List.getElem_mem hB)
      have o1:=Qen c[k] k1 k2
      have q1:=Qc2 a k 64 ha.1 ha.2 (by omega) (by decide) ba
      have q2:=Qc2 d (5-k) 64 hd.1 hd.2 (by omega) (by decide) bd'
      obtain⟨t1,t2,t3,t4⟩:=Qhh hcb ba bd' k (by omega)
      have mm1:=Qf3 (Qar t1 (by decide)) (Qar t2 (by decide)) (Qar t3 (by decide))
      have eT:plcT c a d k=c[k]*(a^k*d^(5-k)):=by unfold plcT;rw [Qb6 hB]
      rw [eT]at t4
      have mm2:=Qf3 (Qar x1 (by decide)) (Qar t3 (by decide)) (Qar t4 (by decide))
      rw [←eT]at mm2 t4
      have y1:=Qdl hcb ba bd' k (by omega)
      have y2:=Qdl hcb ba bd' (k+1) (by omega)
      have es:sm (plcT c a d) (k+1)=sm (plcT c a d) k+plcT c a d k:=rfl
      rw [es]at y2
      have a1:=Qf2 (Qar y1 (by decide)) (Qar t4 (by decide)) (Qar y2 (by decide))
      rw [←es]at a1
      clear y1 y2 t1 t2 t3 t4 es eT hP
      generalize hX:sm (plcT c a d) (k+1)=X at*
      generalize sm (plcT c a d) k=Y at*
      generalize plcT c a d k=T at*
      generalize a^k*d^(5-k)=U at*
      generalize a^k=U1 at*
      generalize d^(5-k)=U2 at*
      repeat (first|(simp -implicitDefEqProofs only [go_sem,Nat.reduceAdd,Nat.reduceMul,Nat.reduceEqDiff,Nat.reduceLT,Nat.reduceLeDiff,reduceCtorEq,Int.reduceLT,wPV,hB',n0,hgk,hwk2,w5,sel,at3,Nat.reduceLT,Int.toNat_natCast,List.length_map])|((with_reducible refine Qab (o1) ?_ ?_ ?_);(with_reducible rfl);rfl)|((with_reducible refine Qab (q1) ?_ ?_ ?_);(with_reducible rfl);rfl)|((with_reducible refine Qab (q2) ?_ ?_ ?_);(with_reducible rfl);rfl)|((with_reducible refine Qab (mm1) ?_ ?_ ?_);(with_reducible rfl);rfl)|((with_reducible refine Qab (mm2) ?_ ?_ ?_);(with_reducible rfl);rfl)|((with_reducible refine Qab (a1) ?_ ?_ ?_);(with_reducible rfl);rfl)|(with_reducible exact Qaa _ _ (by kernel_rfl))|(with_reducible refine And.intro (Qaa _ _ (by kernel_rfl)) ?_))
      refine⟨⟨k+1,hB⟩,by simp only;omega,Qal (θ:=[(1,1),(100,100),(206,206),(301,301)]) rfl ?_ ?_⟩
      ·simp [Qad,lkp,ren1,ren0,Qap,Qan]
      ·simp only [hX]
       exact⟨⟨rfl,rfl,rfl,rfl,rfl,.inr ⟨rfl,_,_,rfl,rfl,rfl,rfl⟩⟩,⟨rfl,rfl,rfl,rfl,rfl,.inr ⟨rfl,_,_,rfl,rfl,rfl,rfl⟩⟩,⟨rfl,rfl,rfl,rfl,rfl,.inr ⟨rfl,_,_,rfl,rfl,rfl,rfl⟩⟩,⟨rfl,rfl,rfl,rfl,rfl,.inr ⟨rfl,_,_,rfl,rfl,rfl,rfl⟩⟩,trivial⟩
     ·have hB':=ltF hB
      obtain rfl:k=c.length:=by omega
      have gg:=Qm9 (Qar bGi (by decide)) (Qar bPi (by decide))
      rw [Int.natAbs_natCast,←hGs]at gg
      rw [hP]at gg
      generalize hX:sm (plcT c a d) c.length=X at*
      repeat (first|(simp -implicitDefEqProofs only [go_sem,Nat.reduceAdd,Nat.reduceMul,Nat.reduceEqDiff,Nat.reduceLT,Nat.reduceLeDiff,reduceCtorEq,Int.reduceLT,Int.reduceAdd,wPV,hB',sel,at3,Nat.reduceLT,List.length_map])|((with_reducible refine Qab (gg) ?_ ?_ ?_);(with_reducible rfl);rfl)|(with_reducible exact Qaa _ _ (by kernel_rfl))|(with_reducible refine And.intro (Qaa _ _ (by kernel_rfl)) ?_))
      refine⟨⟨0+1,hA⟩,by simp only;omega,Qal (θ:=[(1,1),(100,100),(206,206),(301,301)]) rfl ?_ ?_⟩
      ·simp [Qad,lkp,ren1,ren0,Qap,Qan]
      ·simp only [at3,hP,hX]
       exact⟨⟨rfl,rfl,rfl,rfl,rfl,.inr ⟨rfl,_,_,rfl,rfl,rfl,rfl⟩⟩,⟨rfl,rfl,rfl,rfl,rfl,.inr ⟨rfl,_,_,rfl,rfl,rfl,rfl⟩⟩,⟨rfl,rfl,rfl,rfl,rfl,.inr ⟨rfl,_,_,rfl,rfl,rfl,rfl⟩⟩,⟨rfl,rfl,rfl,rfl,rfl,.inr ⟨rfl,_,_,rfl,rfl,rfl,rfl⟩⟩,trivial⟩
   ·skip
    obtain rfl:i=1:=hi0
    have hm:s.ax.getD 1 []=s.ax[1]'hA:=rfl
    have hP:plP s a d 1=sm (plcT (s.ax[1]'hA) a d) (s.ax[1]'hA).length:=rfl
    have hcx:=hc (s.ax[1]) (List.getElem_mem hA)
    have hlx:=h6 (s.ax[1]) (List.getElem_mem hA)
    have bPi:=bP 1 (by omega)
    have bGi:=bG 1 (by omega)
    have hGs:=Qfe s a d 1
    generalize s.ax[1]'hA=c at*
    repeat (first|(simp -implicitDefEqProofs only [go_sem,Nat.reduceAdd,Nat.reduceMul,Nat.reduceEqDiff,Nat.reduceLT,Nat.reduceLeDiff,Nat.reduceSub,reduceCtorEq,Int.reduceLE,Int.reduceLT,Int.reduceToNat,hA',hx,Int.toNat_natCast,List.length_map,at3,Nat.reduceLT])|(with_reducible exact Qaa _ _ (by kernel_rfl))|(with_reducible refine And.intro (Qaa _ _ (by kernel_rfl)) ?_))
    refine Qas mixed (fun k:{k:Nat // k≤c.length}=>St.of [(1,.int .i64 a),(2,.int .i64 d),(6,.bp 1 8 0 0),(7,.bp 100 6 0 0),(8,.bp 206 2 0 0),(9,.bp 301 2 0 0),(22,.agg [Qan s.x,Qan s.y,Qan s.z]),(23,.int .i64 1),(10,.int .i64 1),(27,Qan c),(28,.int .i64 (c.length:Int)),(29,.int .i64 (k.1:Int))]
     [(1,{els:=[.agg [.bool false,.str ⟨#[]⟩,.bool false,.str ⟨#[]⟩,.bool false,.str ⟨#[]⟩,.bool false,.str ⟨#[]⟩]],esz:=8,ety:=33,fro:=0,live:=true,arr:=false}),(100,{els:=[w3PV (sel (plP s a d) 1 0 (sm (plcT c a d) k.1)) (sel (plP s a d) 1 1 (sm (plcT c a d) k.1)) (sel (plP s a d) 1 2 (sm (plcT c a d) k.1))],esz:=6,ety:=93,fro:=0,live:=true,arr:=false}),(206,{els:=[wPV O],esz:=2,ety:=31,fro:=0,live:=true,arr:=false}),(301,{els:=[wPV ((plG s a d 1:Nat):Int)],esz:=2,ety:=31,fro:=0,live:=true,arr:=false})]) (fun k=>c.length-k.1) ⟨0,Nat.zero_le _⟩ ?_ ?_
    ·refine Qal (θ:=[(1,1),(100,100),(206,206),(301,301)]) rfl ?_ ?_
     ·simp [Qad,lkp,ren1,ren0,Qap,Qan]
     ·refine⟨⟨rfl,rfl,rfl,rfl,rfl,.inr ⟨rfl,_,_,rfl,rfl,rfl,rfl⟩⟩,⟨rfl,rfl,rfl,rfl,rfl,.inr ⟨rfl,_,_,rfl,rfl,?_,rfl⟩⟩,⟨rfl,rfl,rfl,rfl,rfl,.inr ⟨rfl,_,_,rfl,rfl,rfl,rfl⟩⟩,⟨rfl,rfl,rfl,rfl,rfl,.inr ⟨rfl,_,_,rfl,rfl,rfl,rfl⟩⟩,trivial⟩
      simp only [sel,at3,sm]
      rfl
    ·rintro⟨k,hk⟩
     by_cases hB:k<c.length
     ·have hB':=ltT hB
      have n0:=nnT k
      have hgk:=Qb2 c k hB
      have hwk2:=Qaj (a:=k) (by omega)
      have w5:IntKind.i64.wrap (5-(k:Int))=((5-k:Nat):Int):=by rw [Qah (by omega) (by omega)];omega
      obtain⟨k1,k2⟩:=hcx _ (List.getElem_mem hB)
      have hcb:bd 64 c:=fun x hx=>Qau (hcx x hx)
      have x1:=hcb _ (List.getElem_mem hB)
      have o1:=Qen c[k] k1 k2
      have q1:=Qc2 a k 64 ha.1 ha.2 (by omega) (by decide) ba
      have q2:=Qc2 d (5-k) 64 hd.1 hd.2 (by omega) (by decide) bd'
      obtain⟨t1,t2,t3,t4⟩:=Qhh hcb ba bd' k (by omega)
      have mm1:=Qf3 (Qar t1 (by decide)) (Qar t2 (by decide)) (Qar t3 (by decide))
      have eT:plcT c a d k=c[k]*(a^k*d^(5-k)):=by unfold plcT;rw [Qb6 hB]
      rw [eT]at t4
      have mm2:=Qf3 (Qar x1 (by decide)) (Qar t3 (by decide)) (Qar t4 (by decide))
      rw [←eT]at mm2 t4
      have y1:=Qdl hcb ba bd' k (by omega)
      have y2:=Qdl hcb ba bd' (k+1) (by omega)
      have es:sm (plcT c a d) (k+1)=sm (plcT c a d) k+plcT c a d k:=rfl
      rw [es]at y2
      have a1:=Qf2 (Qar y1 (by decide)) (Qar t4 (by decide)) (Qar y2 (by decide))
      rw [←es]at a1
      clear y1 y2 t1 t2 t3 t4 es eT hP
      generalize hX:sm (plcT c a d) (k+1)=X at*
      generalize sm (plcT c a d) k=Y at*
      generalize plcT c a d k=T at*
      generalize a^k*d^(5-k)=U at*
      generalize a^k=U1 at*
      generalize d^(5-k)=U2 at*
      repeat (first|(simp -implicitDefEqProofs only [go_sem,Nat.reduceAdd,Nat.reduceMul,Nat.reduceEqDiff,Nat.reduceLT,Nat.reduceLeDiff,reduceCtorEq,Int.reduceLE,Int.reduceLT,Int.reduceToNat,wPV,hB',n0,hgk,hwk2,w5,sel,at3,Nat.reduceLT,Int.toNat_natCast,List.length_map])|((with_reducible refine Qab (o1) ?_ ?_ ?_);(with_reducible rfl);rfl)|((with_reducible refine Qab (q1) ?_ ?_ ?_);(with_reducible rfl);rfl)|((with_reducible refine Qab (q2) ?_ ?_ ?_);(with_reducible rfl);rfl)|((with_reducible refine Qab (mm1) ?_ ?_ ?_);(with_reducible rfl);rfl)|((with_reducible refine Qab (mm2) ?_ ?_ ?_);(with_reducible rfl);rfl)|((with_reducible refine Qab (a1) ?_ ?_ ?_);(with_reducible rfl);rfl)|(with_reducible exact Qaa _ _ (by kernel_rfl))|(with_reducible refine And.intro (Qaa _ _ (by kernel_rfl)) ?_))
      refine⟨⟨k+1,hB⟩,by simp only;omega,Qal (θ:=[(1,1),(100,100),(206,206),(301,301)]) rfl ?_ ?_⟩
      ·simp [Qad,lkp,ren1,ren0,Qap,Qan]
      ·simp only [hX]
       exact⟨⟨rfl,rfl,rfl,rfl,rfl,.inr ⟨rfl,_,_,rfl,rfl,rfl,rfl⟩⟩,⟨rfl,rfl,rfl,rfl,rfl,.inr ⟨rfl,_,_,rfl,rfl,rfl,rfl⟩⟩,⟨rfl,rfl,rfl,rfl,rfl,.inr ⟨rfl,_,_,rfl,rfl,rfl,rfl⟩⟩,⟨rfl,rfl,rfl,rfl,rfl,.inr ⟨rfl,_,_,rfl,rfl,rfl,rfl⟩⟩,trivial⟩
     ·have hB':=ltF hB
      obtain rfl:k=c.length:=by omega
      have gg:=Qm9 (Qar bGi (by decide)) (Qar bPi (by decide))
      rw [Int.natAbs_natCast,←hGs]at gg
      rw [hP]at gg
      generalize hX:sm (plcT c a d) c.length=X at*
      repeat (first|(simp -implicitDefEqProofs only [go_sem,Nat.reduceAdd,Nat.reduceMul,Nat.reduceEqDiff,Nat.reduceLT,Nat.reduceLeDiff,reduceCtorEq,Int.reduceLE,Int.reduceLT,Int.reduceToNat,Int.reduceAdd,wPV,hB',sel,at3,Nat.reduceLT,List.length_map])|((with_reducible refine Qab (gg) ?_ ?_ ?_);(with_reducible rfl);rfl)|(with_reducible exact Qaa _ _ (by kernel_rfl))|(with_reducible refine And.intro (Qaa _ _ (by kernel_rfl)) ?_))
      refine⟨⟨1+1,hA⟩,by simp only;omega,Qal (θ:=[(1,1),(100,100),(206,206),(301,301)]) rfl ?_ ?_⟩
      ·simp [Qad,lkp,ren1,ren0,Qap,Qan]
      ·simp only [at3,hP,hX]
       exact⟨⟨rfl,rfl,rfl,rfl,rfl,.inr ⟨rfl,_,_,rfl,rfl,rfl,rfl⟩⟩,⟨rfl,rfl,rfl,rfl,rfl,.inr ⟨rfl,_,_,rfl,rfl,rfl,rfl⟩⟩,⟨rfl,rfl,rfl,rfl,rfl,.inr ⟨rfl,_,_,rfl,rfl,rfl,rfl⟩⟩,⟨rfl,rfl,rfl,rfl,rfl,.inr ⟨rfl,_,_,rfl,rfl,rfl,rfl⟩⟩,trivial⟩
   ·skip
    obtain rfl:i=2:=hi0
    have hm:s.ax.getD 2 []=s.ax[2]'hA:=rfl
    have hP:plP s a d 2=sm (plcT (s.ax[2]'hA) a d) (s.ax[2]'hA).length:=rfl
    have hcx:=hc (s.ax[2]) (List.getElem_mem hA)
    have hlx:=h6 (s.ax[2]) (List.getElem_mem hA)
    have bPi:=bP 2 (by omega)
    have bGi:=bG 2 (by omega)
    have hGs:=Qfe s a d 2
    generalize s.ax[2]'hA=c at*
    repeat (first|(simp -implicitDefEqProofs only [go_sem,Nat.reduceAdd,Nat.reduceMul,Nat.reduceEqDiff,Nat.reduceLT,Nat.reduceLeDiff,Nat.reduceSub,reduceCtorEq,Int.reduceLE,Int.reduceLT,Int.reduceToNat,hA',hx,Int.toNat_natCast,List.length_map,at3,Nat.reduceLT])|(with_reducible exact Qaa _ _ (by kernel_rfl))|(with_reducible refine And.intro (Qaa _ _ (by kernel_rfl)) ?_))
    refine Qas mixed (fun k:{k:Nat // k≤c.length}=>St.of [(1,.int .i64 a),(2,.int .i64 d),(6,.bp 1 8 0 0),(7,.bp 100 6 0 0),(8,.bp 206 2 0 0),(9,.bp 301 2 0 0),(22,.agg [Qan s.x,Qan s.y,Qan s.z]),(23,.int .i64 2),(10,.int .i64 2),(27,Qan c),(28,.int .i64 (c.length:Int)),(29,.int .i64 (k.1:Int))]
     [(1,{els:=[.agg [.bool false,.str ⟨#[]⟩,.bool false,.str ⟨#[]⟩,.bool false,.str ⟨#[]⟩,.bool false,.str ⟨#[]⟩]],esz:=8,ety:=33,fro:=0,live:=true,arr:=false}),(100,{els:=[w3PV (sel (plP s a d) 2 0 (sm (plcT c a d) k.1)) (sel (plP s a d) 2 1 (sm (plcT c a d) k.1)) (sel (plP s a d) 2 2 (sm (plcT c a d) k.1))],esz:=6,ety:=93,fro:=0,live:=true,arr:=false}),(206,{els:=[wPV O],esz:=2,ety:=31,fro:=0,live:=true,arr:=false}),(301,{els:=[wPV ((plG s a d 2:Nat):Int)],esz:=2,ety:=31,fro:=0,live:=true,arr:=false})]) (fun k=>c.length-k.1) ⟨0,Nat.zero_le _⟩ ?_ ?_
    ·refine Qal (θ:=[(1,1),(100,100),(206,206),(301,301)]) rfl ?_ ?_
     ·simp [Qad,lkp,ren1,ren0,Qap,Qan]
     ·refine⟨⟨rfl,rfl,rfl,rfl,rfl,.inr ⟨rfl,_,_,rfl,rfl,rfl,rfl⟩⟩,⟨rfl,rfl,rfl,rfl,rfl,.inr ⟨rfl,_,_,rfl,rfl,?_,rfl⟩⟩,⟨rfl,rfl,rfl,rfl,rfl,.inr ⟨rfl,_,_,rfl,rfl,rfl,rfl⟩⟩,⟨rfl,rfl,rfl,rfl,rfl,.inr ⟨rfl,_,_,rfl,rfl,rfl,rfl⟩⟩,trivial⟩
      simp only [sel,at3,sm]
      rfl
    ·rintro⟨k,hk⟩
     by_cases hB:k<c.length
     ·have hB':=ltT hB
      have n0:=nnT k
      have hgk:=Qb2 c k hB
      have hwk2:=Qaj (a:=k) (by omega)
      have w5:IntKind.i64.wrap (5-(k:Int))=((5-k:Nat):Int):=by rw [Qah (by omega) (by omega)];omega
      obtain⟨k1,k2⟩:=hcx _ (List.getElem_mem hB)
      have hcb:bd 64 c:=fun x hx=>Qau (hcx x hx)
      have x1:=hcb _ (List.getElem_mem hB)
      have o1:=Qen c[k] k1 k2
      have q1:=Qc2 a k 64 ha.1 ha.2 (by omega) (by decide) ba
      have q2:=Qc2 d (5-k) 64 hd.1 hd.2 (by omega) (by decide) bd'
      obtain⟨t1,t2,t3,t4⟩:=Qhh hcb ba bd' k (by omega)
      have mm1:=Qf3 (Qar t1 (by decide)) (Qar t2 (by decide)) (Qar t3 (by decide))
      have eT:plcT c a d k=c[k]*(a^k*d^(5-k)):=by unfold plcT;rw [Qb6 hB]
      rw [eT]at t4
      have mm2:=Qf3 (Qar x1 (by decide)) (Qar t3 (by decide)) (Qar t4 (by decide))
      rw [←eT]at mm2 t4
      have y1:=Qdl hcb ba bd' k (by omega)
      have y2:=Qdl hcb ba bd' (k+1) (by omega)
      have es:sm (plcT c a d) (k+1)=sm (plcT c a d) k+plcT c a d k:=rfl
      rw [es]at y2
      have a1:=Qf2 (Qar y1 (by decide)) (Qar t4 (by decide)) (Qar y2 (by decide))
      rw [←es]at a1
      clear y1 y2 t1 t2 t3 t4 es eT hP
      generalize hX:sm (plcT c a d) (k+1)=X at*
      generalize sm (plcT c a d) k=Y at*
      generalize plcT c a d k=T at*
      generalize a^k*d^(5-k)=U at*
      generalize a^k=U1 at*
      generalize d^(5-k)=U2 at*
      repeat (first|(simp -implicitDefEqProofs only [go_sem,Nat.reduceAdd,Nat.reduceMul,Nat.reduceEqDiff,Nat.reduceLT,Nat.reduceLeDiff,reduceCtorEq,Int.reduceLE,Int.reduceLT,Int.reduceToNat,wPV,hB',n0,hgk,hwk2,w5,sel,at3,Nat.reduceLT,Int.toNat_natCast,List.length_map])|((with_reducible refine Qab (o1) ?_ ?_ ?_);(with_reducible rfl);rfl)|((with_reducible refine Qab (q1) ?_ ?_ ?_);(with_reducible rfl);rfl)|((with_reducible refine Qab (q2) ?_ ?_ ?_);(with_reducible rfl);rfl)|((with_reducible refine Qab (mm1) ?_ ?_ ?_);(with_reducible rfl);rfl)|((with_reducible refine Qab (mm2) ?_ ?_ ?_);(with_reducible rfl);rfl)|((with_reducible refine Qab (a1) ?_ ?_ ?_);(with_reducible rfl);rfl)|(with_reducible exact Qaa _ _ (by kernel_rfl))|(with_reducible refine And.intro (Qaa _ _ (by kernel_rfl)) ?_))
      refine⟨⟨k+1,hB⟩,by simp only;omega,Qal (θ:=[(1,1),(100,100),(206,206),(301,301)]) rfl ?_ ?_⟩
      ·simp [Qad,lkp,ren1,ren0,Qap,Qan]
      ·simp only [hX]
       exact⟨⟨rfl,rfl,rfl,rfl,rfl,.inr ⟨rfl,_,_,rfl,rfl,rfl,rfl⟩⟩,⟨rfl,rfl,rfl,rfl,rfl,.inr ⟨rfl,_,_,rfl,rfl,rfl,rfl⟩⟩,⟨rfl,rfl,rfl,rfl,rfl,.inr ⟨rfl,_,_,rfl,rfl,rfl,rfl⟩⟩,⟨rfl,rfl,rfl,rfl,rfl,.inr ⟨rfl,_,_,rfl,rfl,rfl,rfl⟩⟩,trivial⟩
     ·have hB':=ltF hB
      obtain rfl:k=c.length:=by omega
      have gg:=Qm9 (Qar bGi (by decide)) (Qar bPi (by decide))
      rw [Int.natAbs_natCast,←hGs]at gg
      rw [hP]at gg
      generalize hX:sm (plcT c a d) c.length=X at*
      repeat (first|(simp -implicitDefEqProofs only [go_sem,Nat.reduceAdd,Nat.reduceMul,Nat.reduceEqDiff,Nat.reduceLT,Nat.reduceLeDiff,reduceCtorEq,Int.reduceLE,Int.reduceLT,Int.reduceToNat,Int.reduceAdd,wPV,hB',sel,at3,Nat.reduceLT,List.length_map])|((with_reducible refine Qab (gg) ?_ ?_ ?_);(with_reducible rfl);rfl)|(with_reducible exact Qaa _ _ (by kernel_rfl))|(with_reducible refine And.intro (Qaa _ _ (by kernel_rfl)) ?_))
      refine⟨⟨2+1,hA⟩,by simp only;omega,Qal (θ:=[(1,1),(100,100),(206,206),(301,301)]) rfl ?_ ?_⟩
      ·simp [Qad,lkp,ren1,ren0,Qap,Qan]
      ·simp only [at3,hP,hX]
       exact⟨⟨rfl,rfl,rfl,rfl,rfl,.inr ⟨rfl,_,_,rfl,rfl,rfl,rfl⟩⟩,⟨rfl,rfl,rfl,rfl,rfl,.inr ⟨rfl,_,_,rfl,rfl,rfl,rfl⟩⟩,⟨rfl,rfl,rfl,rfl,rfl,.inr ⟨rfl,_,_,rfl,rfl,rfl,rfl⟩⟩,⟨rfl,rfl,rfl,rfl,rfl,.inr ⟨rfl,_,_,rfl,rfl,rfl,rfl⟩⟩,trivial⟩
  ·have hA':((i:Int)<3)=False:=eq_false (by omega)
   obtain rfl:i=3:=by omega
   have G0:=Qsv ho hd1 3 (s:=s) (d:=d) (a:=a)
   have bG3:=Qnd (bG 3 (by decide)) (by decide)
   have r0:=Qh4 (bP 0 (by decide)) (by decide) bG3 (by omega)
   have r1:=Qh4 (bP 1 (by decide)) (by decide) bG3 (by omega)
   have r2:=Qh4 (bP 2 (by decide)) (by decide) bG3 (by omega)
   have r3:=Qh4 bod (by decide) bG3 (by omega)
   unfold plV
   rw [hO]
   have z0:at3 (plP s a d) 3 0=plP s a d 0:=rfl
   have z1:at3 (plP s a d) 3 1=plP s a d 1:=rfl
   have z2:at3 (plP s a d) 3 2=plP s a d 2:=rfl
   simp only [z0,z1,z2]
   clear z0 z1 z2
   generalize plP s a d 0=X0 at*
   generalize plP s a d 1=X1 at*
   generalize plP s a d 2=X2 at*
   generalize ((plG s a d 3:Nat):Int)=G at*
   generalize X0/G=Y0 at*
   generalize X1/G=Y1 at*
   generalize X2/G=Y2 at*
   generalize O/G=Y3 at*
   repeat (first|(simp -implicitDefEqProofs only [go_sem,Nat.reduceAdd,Nat.reduceMul,Nat.reduceEqDiff,Nat.reduceLT,Nat.reduceLeDiff,Nat.reduceSub,reduceCtorEq,Int.reduceLE,Int.reduceLT,Int.reduceToNat,hA',wPV,at3,Nat.reduceLT])|((with_reducible refine Qab (r0) ?_ ?_ ?_);(with_reducible rfl);rfl)|((with_reducible refine Qab (r1) ?_ ?_ ?_);(with_reducible rfl);rfl)|((with_reducible refine Qab (r2) ?_ ?_ ?_);(with_reducible rfl);rfl)|((with_reducible refine Qab (r3) ?_ ?_ ?_);(with_reducible rfl);rfl)|(with_reducible exact Qaa _ _ (by kernel_rfl))|(with_reducible refine And.intro (Qaa _ _ (by kernel_rfl)) ?_))
end Go.Proofs.YtlpiamlgibomhaaGreat
