/-
  SM5, SM6, Dsh (merged for the claim).
-/
import Derived.Test.YtlpiamlgibomhaaGreatSM4
import Derived.Test.YtlpiamlgibomhaaGreatSM2
set_option linter.unusedSimpArgs false
set_option linter.unusedVariables false
namespace Go.Proofs.YtlpiamlgibomhaaGreat
open Go.Vl Go.RowKit Go.Dg
theorem Qoi {m B:Nat} (h:m<2^B) (hk:B≤65000):m<2^65000:=Qdp (C:=65000) h hk
def w3PV (x y z:Int):PV:= .agg [.bool (decide (x<0)),.str (mB x),.bool (decide (y<0)),.str (mB y),.bool (decide (z<0)),.str (mB z)]
def Qae (x y z o:Int):PV:= .agg [.bool (decide (x<0)),.str (mB x),.bool (decide (y<0)),.str (mB y),.bool (decide (z<0)),.str (mB z),.bool (decide (o<0)),.str (mB o)]
theorem nc0:((0:Nat):Int)=0:=rfl
theorem nc1:((1:Nat):Int)=1:=rfl
theorem nc2:((2:Nat):Int)=2:=rfl
theorem nc3:((3:Nat):Int)=3:=rfl
theorem wr1:IntKind.i64.wrap 1=1:=rfl
theorem wr2:IntKind.i64.wrap 2=2:=rfl
theorem wr3:IntKind.i64.wrap 3=3:=rfl
attribute [go_sem] w3PV Qae nc0 nc1 nc2 nc3 wr1 wr2 wr3
theorem mB_0:mB 0=⟨#[]⟩:=by unfold mB;rw [(Qqa 0).2 rfl]
def sel (P:Nat→Int) (i m:Nat) (X:Int):Int:=if m=i then X else at3 P i m
def plV (s:Sg) (a d:Int):PV:=Qae (plP s a d 0/(plG s a d 3:Int)) (plP s a d 1/(plG s a d 3:Int)) (plP s a d 2/(plG s a d 3:Int)) (s.o*d^5/(plG s a d 3:Int))
set_option maxHeartbeats 2000000 in
theorem Qp0 (s:Sg) (a d:Int) (hs:okSg s) (h6: ∀c∈s.ax,c.length≤6) (ho:1≤s.o) (ha:i64 a) (hd:i64 d) (hd1:1≤d):
  Qaf Tryz.prog 60 [sgPV s,.int .i64 a,.int .i64 d] (plV s a d):=by
 obtain⟨⟨a1,a2⟩,⟨a3,a4⟩,⟨a5,a6⟩,hc,hl⟩:=hs
 have ba:=Qav ha
 have bd':=Qav hd
 have bo:=Qav ⟨a5,a6⟩
 have w1:=Qe7 s.o a5 a6
 have p5:=Qdd d 5 64 hd.1 hd.2 (by decide) (by decide) bd'
 have bd5:=Qik bd' 5
 have bod:=Q86 (s:=s) bo bd'
 have m1:=Qgp (Qau bo (by decide)) (Qau bd5 (by decide)) (Qau bod (by decide))
 have hax:=Q2m s
 have hG0:(plG s a d 0:Int)=s.o*d^5:=by
  have h:0<s.o*d^5:=Int.mul_pos (by omega) (Int.pow_pos (by omega))
  show(((s.o*d^5).natAbs:Nat):Int)=_
  omega
 have hcB: ∀c∈s.ax,bd 64 c:=fun c hx x hx2=>Qav (hc c hx x hx2)
 have bP:=Qv1 hcB h6 ba bd'
 have bG:=Zny hcB h6 bo ba bd'
 generalize hO:s.o*d^5=O at*
 have hsg:sgPV s= .agg [.int .i64 s.f,.int .i64 s.t,.int .i64 s.o,.slc (s.x.map (PV.int .i64)),.slc (s.y.map (PV.int .i64)),.slc (s.z.map (PV.int .i64))]:=rfl
 rw [hsg]at hax ⊢
 refine Qac (tb:=[]) 74 [.cell 6 33] [0,1,2,3,6,7,8,9,10,11,12,13,22,23,24,27,28,29,30] mixed Tryz.func60 rfl (by kernel_rfl) (by kernel_rfl) (by kernel_rfl) (by kernel_rfl) ?_
 repeat (first|(simp -implicitDefEqProofs only [go_sem,Nat.reduceAdd,Nat.reduceMul,Nat.reduceEqDiff,Nat.reduceLT,Nat.reduceLeDiff,reduceCtorEq,wPV])|((with_reducible refine Qab (w1) ?_ ?_ ?_);(with_reducible rfl);rfl)|((with_reducible refine Qab (p5) ?_ ?_ ?_);(with_reducible rfl);rfl)|((with_reducible refine Qab (m1) ?_ ?_ ?_);(with_reducible rfl);rfl)|((with_reducible refine Qab (hax) ?_ ?_ ?_);(with_reducible rfl);rfl)|(with_reducible exact Qaa _ _ (by kernel_rfl))|(with_reducible refine And.intro (Qaa _ _ (by kernel_rfl)) ?_))
 refine Qao mixed (fun i:{i:Nat // i≤3}=>St.of [(1,.int .i64 a),(2,.int .i64 d),(6,.bp 1 8 0 0),(7,.bp 100 6 0 0),(8,.bp 206 2 0 0),(9,.bp 301 2 0 0),(22,.agg [Qan s.x,Qan s.y,Qan s.z]),(23,.int .i64 (i.1:Int))]
  [(1,{els:=[.agg [.bool false,.str ⟨#[]⟩,.bool false,.str ⟨#[]⟩,.bool false,.str ⟨#[]⟩,.bool false,.str ⟨#[]⟩]],esz:=8,ety:=33,fro:=0,live:=true,arr:=false}),(100,{els:=[w3PV (at3 (plP s a d) i.1 0) (at3 (plP s a d) i.1 1) (at3 (plP s a d) i.1 2)],esz:=6,ety:=93,fro:=0,live:=true,arr:=false}),(206,{els:=[wPV O],esz:=2,ety:=31,fro:=0,live:=true,arr:=false}),(301,{els:=[wPV ((plG s a d i.1:Nat):Int)],esz:=2,ety:=31,fro:=0,live:=true,arr:=false})]) (fun i=>3-i.1) ⟨0,Nat.zero_le _⟩ ?_ ?_
 ·refine Qaj (θ:=[(1,1),(100,100),(206,206),(301,301)]) rfl ?_ ?_
  ·simp [Qad,lkp,ren1,ren0,Qam,Qan]
  ·refine⟨⟨rfl,rfl,rfl,rfl,rfl,.inr ⟨rfl,_,_,rfl,rfl,rfl,rfl⟩⟩,⟨rfl,rfl,rfl,rfl,rfl,.inr ⟨rfl,_,_,rfl,rfl,?_,rfl⟩⟩,⟨rfl,rfl,rfl,rfl,rfl,.inr ⟨rfl,_,_,rfl,rfl,rfl,rfl⟩⟩,⟨rfl,rfl,rfl,rfl,rfl,.inr ⟨rfl,_,_,rfl,rfl,?_,rfl⟩⟩,trivial⟩
   ·simp only [at3,Nat.not_lt_zero,if_false,w3PV,mB_0];rfl
   ·simp only [hG0];rfl
 ·rintro⟨i,hi⟩
  by_cases hA:i<3
  ·have hA':((i:Int)<3)=True:=eq_true (by omega)
   have hA2:=ltT hA
   have h0:=nnT i
   have hx:=Qtv s i hA
   have hwk:=Qah (a:=i) (by omega)
   rcases(show i=0∨i=1∨i=2 by omega)with hi0|hi0|hi0
   ·skip
    obtain rfl:i=0:=hi0
    have hm:s.ax.getD 0 []=s.ax[0]'hA:=rfl
    have hP:plP s a d 0=sm (plcT (s.ax[0]'hA) a d) (s.ax[0]'hA).length:=rfl
    have hcx:=hc (s.ax[0]) (List.getElem_mem hA)
    have hlx:=h6 (s.ax[0]) (List.getElem_mem hA)
    have bPi:=bP 0 (by omega)
    have bGi:=bG 0 (by omega)
    have hGs:=Qfy s a d 0
    generalize s.ax[0]'hA=c at*
    repeat (first|(simp -implicitDefEqProofs only [go_sem,Nat.reduceAdd,Nat.reduceMul,Nat.reduceEqDiff,Nat.reduceLT,Nat.reduceLeDiff,Nat.reduceSub,reduceCtorEq,Int.reduceLT,hA',hx,Int.toNat_natCast,List.length_map,at3,Nat.reduceLT])|(with_reducible exact Qaa _ _ (by kernel_rfl))|(with_reducible refine And.intro (Qaa _ _ (by kernel_rfl)) ?_))
    refine Qao mixed (fun k:{k:Nat // k≤c.length}=>St.of [(1,.int .i64 a),(2,.int .i64 d),(6,.bp 1 8 0 0),(7,.bp 100 6 0 0),(8,.bp 206 2 0 0),(9,.bp 301 2 0 0),(22,.agg [Qan s.x,Qan s.y,Qan s.z]),(23,.int .i64 0),(10,.int .i64 0),(27,Qan c),(28,.int .i64 (c.length:Int)),(29,.int .i64 (k.1:Int))]
     [(1,{els:=[.agg [.bool false,.str ⟨#[]⟩,.bool false,.str ⟨#[]⟩,.bool false,.str ⟨#[]⟩,.bool false,.str ⟨#[]⟩]],esz:=8,ety:=33,fro:=0,live:=true,arr:=false}),(100,{els:=[w3PV (sel (plP s a d) 0 0 (sm (plcT c a d) k.1)) (sel (plP s a d) 0 1 (sm (plcT c a d) k.1)) (sel (plP s a d) 0 2 (sm (plcT c a d) k.1))],esz:=6,ety:=93,fro:=0,live:=true,arr:=false}),(206,{els:=[wPV O],esz:=2,ety:=31,fro:=0,live:=true,arr:=false}),(301,{els:=[wPV ((plG s a d 0:Nat):Int)],esz:=2,ety:=31,fro:=0,live:=true,arr:=false})]) (fun k=>c.length-k.1) ⟨0,Nat.zero_le _⟩ ?_ ?_
    ·refine Qaj (θ:=[(1,1),(100,100),(206,206),(301,301)]) rfl ?_ ?_
     ·simp [Qad,lkp,ren1,ren0,Qam,Qan]
     ·refine⟨⟨rfl,rfl,rfl,rfl,rfl,.inr ⟨rfl,_,_,rfl,rfl,rfl,rfl⟩⟩,⟨rfl,rfl,rfl,rfl,rfl,.inr ⟨rfl,_,_,rfl,rfl,?_,rfl⟩⟩,⟨rfl,rfl,rfl,rfl,rfl,.inr ⟨rfl,_,_,rfl,rfl,rfl,rfl⟩⟩,⟨rfl,rfl,rfl,rfl,rfl,.inr ⟨rfl,_,_,rfl,rfl,rfl,rfl⟩⟩,trivial⟩
      simp only [sel,at3,sm]
      rfl
    ·rintro⟨k,hk⟩
     by_cases hB:k<c.length
     ·have hB':=ltT hB
      have n0:=nnT k
      have hgk:=Qbx c k hB
      have hwk2:=Qah (a:=k) (by omega)
      have w5:IntKind.i64.wrap (5-(k:Int))=((5-k:Nat):Int):=by rw [Qai (by omega) (by omega)];omega
      obtain⟨k1,k2⟩:=hcx _ (List.getElem_mem hB)
      have hcb:bd 64 c:=fun x hx=>Qav (hcx x hx)
      have x1:=hcb _ (List.getElem_mem hB)
      have o1:=Qe7 c[k] k1 k2
      have q1:=Qdd a k 64 ha.1 ha.2 (by omega) (by decide) ba
      have q2:=Qdd d (5-k) 64 hd.1 hd.2 (by omega) (by decide) bd'
      obtain⟨t1,t2,t3,t4⟩:=Qh1 hcb ba bd' k (by omega)
      have mm1:=Qgp (Qau t1 (by decide)) (Qau t2 (by decide)) (Qau t3 (by decide))
      have eT:plcT c a d k=c[k]*(a^k*d^(5-k)):=by unfold plcT;rw [Qb1 hB]
      rw [eT]at t4
      have mm2:=Qgp (Qau x1 (by decide)) (Qau t3 (by decide)) (Qau t4 (by decide))
      rw [←eT]at mm2 t4
      have y1:=Qdx hcb ba bd' k (by omega)
      have y2:=Qdx hcb ba bd' (k+1) (by omega)
      have es:sm (plcT c a d) (k+1)=sm (plcT c a d) k+plcT c a d k:=rfl
      rw [es]at y2
      have a1:=Qgo (Qau y1 (by decide)) (Qau t4 (by decide)) (Qau y2 (by decide))
      rw [←es]at a1
      clear y1 y2 t1 t2 t3 t4 es eT hP
      generalize hX:sm (plcT c a d) (k+1)=X at*
      generalize sm (plcT c a d) k=Y at*
      generalize plcT c a d k=T at*
      generalize a^k*d^(5-k)=U at*
      generalize a^k=U1 at*
      generalize d^(5-k)=U2 at*
      repeat (first|(simp -implicitDefEqProofs only [go_sem,Nat.reduceAdd,Nat.reduceMul,Nat.reduceEqDiff,Nat.reduceLT,Nat.reduceLeDiff,reduceCtorEq,Int.reduceLT,wPV,hB',n0,hgk,hwk2,w5,sel,at3,Nat.reduceLT,Int.toNat_natCast,List.length_map])|((with_reducible refine Qab (o1) ?_ ?_ ?_);(with_reducible rfl);rfl)|((with_reducible refine Qab (q1) ?_ ?_ ?_);(with_reducible rfl);rfl)|((with_reducible refine Qab (q2) ?_ ?_ ?_);(with_reducible rfl);rfl)|((with_reducible refine Qab (mm1) ?_ ?_ ?_);(with_reducible rfl);rfl)|((with_reducible refine Qab (mm2) ?_ ?_ ?_);(with_reducible rfl);rfl)|((with_reducible refine Qab (a1) ?_ ?_ ?_);(with_reducible rfl);rfl)|(with_reducible exact Qaa _ _ (by kernel_rfl))|(with_reducible refine And.intro (Qaa _ _ (by kernel_rfl)) ?_))
      refine⟨⟨k+1,hB⟩,by simp only;omega,Qaj (θ:=[(1,1),(100,100),(206,206),(301,301)]) rfl ?_ ?_⟩
      ·simp [Qad,lkp,ren1,ren0,Qam,Qan]
      ·simp only [hX]
       exact⟨⟨rfl,rfl,rfl,rfl,rfl,.inr ⟨rfl,_,_,rfl,rfl,rfl,rfl⟩⟩,⟨rfl,rfl,rfl,rfl,rfl,.inr ⟨rfl,_,_,rfl,rfl,rfl,rfl⟩⟩,⟨rfl,rfl,rfl,rfl,rfl,.inr ⟨rfl,_,_,rfl,rfl,rfl,rfl⟩⟩,⟨rfl,rfl,rfl,rfl,rfl,.inr ⟨rfl,_,_,rfl,rfl,rfl,rfl⟩⟩,trivial⟩
     ·have hB':=ltF hB
      obtain rfl:k=c.length:=by omega
      have gg:=Qod (Qau bGi (by decide)) (Qau bPi (by decide))
      rw [Int.natAbs_natCast,←hGs]at gg
      rw [hP]at gg
      generalize hX:sm (plcT c a d) c.length=X at*
      repeat (first|(simp -implicitDefEqProofs only [go_sem,Nat.reduceAdd,Nat.reduceMul,Nat.reduceEqDiff,Nat.reduceLT,Nat.reduceLeDiff,reduceCtorEq,Int.reduceLT,Int.reduceAdd,wPV,hB',sel,at3,Nat.reduceLT,List.length_map])|((with_reducible refine Qab (gg) ?_ ?_ ?_);(with_reducible rfl);rfl)|(with_reducible exact Qaa _ _ (by kernel_rfl))|(with_reducible refine And.intro (Qaa _ _ (by kernel_rfl)) ?_))
      refine⟨⟨0+1,hA⟩,by simp only;omega,Qaj (θ:=[(1,1),(100,100),(206,206),(301,301)]) rfl ?_ ?_⟩
      ·simp [Qad,lkp,ren1,ren0,Qam,Qan]
      ·simp only [at3,hP,hX]
       exact⟨⟨rfl,rfl,rfl,rfl,rfl,.inr ⟨rfl,_,_,rfl,rfl,rfl,rfl⟩⟩,⟨rfl,rfl,rfl,rfl,rfl,.inr ⟨rfl,_,_,rfl,rfl,rfl,rfl⟩⟩,⟨rfl,rfl,rfl,rfl,rfl,.inr ⟨rfl,_,_,rfl,rfl,rfl,rfl⟩⟩,⟨rfl,rfl,rfl,rfl,rfl,.inr ⟨rfl,_,_,rfl,rfl,rfl,rfl⟩⟩,trivial⟩
   ·skip
    obtain rfl:i=1:=hi0
    have hm:s.ax.getD 1 []=s.ax[1]'hA:=rfl
    have hP:plP s a d 1=sm (plcT (s.ax[1]'hA) a d) (s.ax[1]'hA).length:=rfl
    have hcx:=hc (s.ax[1]) (List.getElem_mem hA)
    have hlx:=h6 (s.ax[1]) (List.getElem_mem hA)
    have bPi:=bP 1 (by omega)
    have bGi:=bG 1 (by omega)
    have hGs:=Qfy s a d 1
    generalize s.ax[1]'hA=c at*
    repeat (first|(simp -implicitDefEqProofs only [go_sem,Nat.reduceAdd,Nat.reduceMul,Nat.reduceEqDiff,Nat.reduceLT,Nat.reduceLeDiff,Nat.reduceSub,reduceCtorEq,Int.reduceLE,Int.reduceLT,Int.reduceToNat,hA',hx,Int.toNat_natCast,List.length_map,at3,Nat.reduceLT])|(with_reducible exact Qaa _ _ (by kernel_rfl))|(with_reducible refine And.intro (Qaa _ _ (by kernel_rfl)) ?_))
    refine Qao mixed (fun k:{k:Nat // k≤c.length}=>St.of [(1,.int .i64 a),(2,.int .i64 d),(6,.bp 1 8 0 0),(7,.bp 100 6 0 0),(8,.bp 206 2 0 0),(9,.bp 301 2 0 0),(22,.agg [Qan s.x,Qan s.y,Qan s.z]),(23,.int .i64 1),(10,.int .i64 1),(27,Qan c),(28,.int .i64 (c.length:Int)),(29,.int .i64 (k.1:Int))]
     [(1,{els:=[.agg [.bool false,.str ⟨#[]⟩,.bool false,.str ⟨#[]⟩,.bool false,.str ⟨#[]⟩,.bool false,.str ⟨#[]⟩]],esz:=8,ety:=33,fro:=0,live:=true,arr:=false}),(100,{els:=[w3PV (sel (plP s a d) 1 0 (sm (plcT c a d) k.1)) (sel (plP s a d) 1 1 (sm (plcT c a d) k.1)) (sel (plP s a d) 1 2 (sm (plcT c a d) k.1))],esz:=6,ety:=93,fro:=0,live:=true,arr:=false}),(206,{els:=[wPV O],esz:=2,ety:=31,fro:=0,live:=true,arr:=false}),(301,{els:=[wPV ((plG s a d 1:Nat):Int)],esz:=2,ety:=31,fro:=0,live:=true,arr:=false})]) (fun k=>c.length-k.1) ⟨0,Nat.zero_le _⟩ ?_ ?_
    ·refine Qaj (θ:=[(1,1),(100,100),(206,206),(301,301)]) rfl ?_ ?_
     ·simp [Qad,lkp,ren1,ren0,Qam,Qan]
     ·refine⟨⟨rfl,rfl,rfl,rfl,rfl,.inr ⟨rfl,_,_,rfl,rfl,rfl,rfl⟩⟩,⟨rfl,rfl,rfl,rfl,rfl,.inr ⟨rfl,_,_,rfl,rfl,?_,rfl⟩⟩,⟨rfl,rfl,rfl,rfl,rfl,.inr ⟨rfl,_,_,rfl,rfl,rfl,rfl⟩⟩,⟨rfl,rfl,rfl,rfl,rfl,.inr ⟨rfl,_,_,rfl,rfl,rfl,rfl⟩⟩,trivial⟩
      simp only [sel,at3,sm]
      rfl
    ·rintro⟨k,hk⟩
     by_cases hB:k<c.length
     ·have hB':=ltT hB
      have n0:=nnT k
      have hgk:=Qbx c k hB
      have hwk2:=Qah (a:=k) (by omega)
      have w5:IntKind.i64.wrap (5-(k:Int))=((5-k:Nat):Int):=by rw [Qai (by omega) (by omega)];omega
      obtain⟨k1,k2⟩:=hcx _ (List.getElem_mem hB)
      have hcb:bd 64 c:=fun x hx=>Qav (hcx x hx)
      have x1:=hcb _ (List.getElem_mem hB)
      have o1:=Qe7 c[k] k1 k2
      have q1:=Qdd a k 64 ha.1 ha.2 (by omega) (by decide) ba
      have q2:=Qdd d (5-k) 64 hd.1 hd.2 (by omega) (by decide) bd'
      obtain⟨t1,t2,t3,t4⟩:=Qh1 hcb ba bd' k (by omega)
      have mm1:=Qgp (Qau t1 (by decide)) (Qau t2 (by decide)) (Qau t3 (by decide))
      have eT:plcT c a d k=c[k]*(a^k*d^(5-k)):=by unfold plcT;rw [Qb1 hB]
      rw [eT]at t4
      have mm2:=Qgp (Qau x1 (by decide)) (Qau t3 (by decide)) (Qau t4 (by decide))
      rw [←eT]at mm2 t4
      have y1:=Qdx hcb ba bd' k (by omega)
      have y2:=Qdx hcb ba bd' (k+1) (by omega)
      have es:sm (plcT c a d) (k+1)=sm (plcT c a d) k+plcT c a d k:=rfl
      rw [es]at y2
      have a1:=Qgo (Qau y1 (by decide)) (Qau t4 (by decide)) (Qau y2 (by decide))
      rw [←es]at a1
      clear y1 y2 t1 t2 t3 t4 es eT hP
      generalize hX:sm (plcT c a d) (k+1)=X at*
      generalize sm (plcT c a d) k=Y at*
      generalize plcT c a d k=T at*
      generalize a^k*d^(5-k)=U at*
      generalize a^k=U1 at*
      generalize d^(5-k)=U2 at*
      repeat (first|(simp -implicitDefEqProofs only [go_sem,Nat.reduceAdd,Nat.reduceMul,Nat.reduceEqDiff,Nat.reduceLT,Nat.reduceLeDiff,reduceCtorEq,Int.reduceLE,Int.reduceLT,Int.reduceToNat,wPV,hB',n0,hgk,hwk2,w5,sel,at3,Nat.reduceLT,Int.toNat_natCast,List.length_map])|((with_reducible refine Qab (o1) ?_ ?_ ?_);(with_reducible rfl);rfl)|((with_reducible refine Qab (q1) ?_ ?_ ?_);(with_reducible rfl);rfl)|((with_reducible refine Qab (q2) ?_ ?_ ?_);(with_reducible rfl);rfl)|((with_reducible refine Qab (mm1) ?_ ?_ ?_);(with_reducible rfl);rfl)|((with_reducible refine Qab (mm2) ?_ ?_ ?_);(with_reducible rfl);rfl)|((with_reducible refine Qab (a1) ?_ ?_ ?_);(with_reducible rfl);rfl)|(with_reducible exact Qaa _ _ (by kernel_rfl))|(with_reducible refine And.intro (Qaa _ _ (by kernel_rfl)) ?_))
      refine⟨⟨k+1,hB⟩,by simp only;omega,Qaj (θ:=[(1,1),(100,100),(206,206),(301,301)]) rfl ?_ ?_⟩
      ·simp [Qad,lkp,ren1,ren0,Qam,Qan]
      ·simp only [hX]
       exact⟨⟨rfl,rfl,rfl,rfl,rfl,.inr ⟨rfl,_,_,rfl,rfl,rfl,rfl⟩⟩,⟨rfl,rfl,rfl,rfl,rfl,.inr ⟨rfl,_,_,rfl,rfl,rfl,rfl⟩⟩,⟨rfl,rfl,rfl,rfl,rfl,.inr ⟨rfl,_,_,rfl,rfl,rfl,rfl⟩⟩,⟨rfl,rfl,rfl,rfl,rfl,.inr ⟨rfl,_,_,rfl,rfl,rfl,rfl⟩⟩,trivial⟩
     ·have hB':=ltF hB
      obtain rfl:k=c.length:=by omega
      have gg:=Qod (Qau bGi (by decide)) (Qau bPi (by decide))
      rw [Int.natAbs_natCast,←hGs]at gg
      rw [hP]at gg
      generalize hX:sm (plcT c a d) c.length=X at*
      repeat (first|(simp -implicitDefEqProofs only [go_sem,Nat.reduceAdd,Nat.reduceMul,Nat.reduceEqDiff,Nat.reduceLT,Nat.reduceLeDiff,reduceCtorEq,Int.reduceLE,Int.reduceLT,Int.reduceToNat,Int.reduceAdd,wPV,hB',sel,at3,Nat.reduceLT,List.length_map])|((with_reducible refine Qab (gg) ?_ ?_ ?_);(with_reducible rfl);rfl)|(with_reducible exact Qaa _ _ (by kernel_rfl))|(with_reducible refine And.intro (Qaa _ _ (by kernel_rfl)) ?_))
      refine⟨⟨1+1,hA⟩,by simp only;omega,Qaj (θ:=[(1,1),(100,100),(206,206),(301,301)]) rfl ?_ ?_⟩
      ·simp [Qad,lkp,ren1,ren0,Qam,Qan]
      ·simp only [at3,hP,hX]
       exact⟨⟨rfl,rfl,rfl,rfl,rfl,.inr ⟨rfl,_,_,rfl,rfl,rfl,rfl⟩⟩,⟨rfl,rfl,rfl,rfl,rfl,.inr ⟨rfl,_,_,rfl,rfl,rfl,rfl⟩⟩,⟨rfl,rfl,rfl,rfl,rfl,.inr ⟨rfl,_,_,rfl,rfl,rfl,rfl⟩⟩,⟨rfl,rfl,rfl,rfl,rfl,.inr ⟨rfl,_,_,rfl,rfl,rfl,rfl⟩⟩,trivial⟩
   ·skip
    obtain rfl:i=2:=hi0
    have hm:s.ax.getD 2 []=s.ax[2]'hA:=rfl
    have hP:plP s a d 2=sm (plcT (s.ax[2]'hA) a d) (s.ax[2]'hA).length:=rfl
    have hcx:=hc (s.ax[2]) (List.getElem_mem hA)
    have hlx:=h6 (s.ax[2]) (List.getElem_mem hA)
    have bPi:=bP 2 (by omega)
    have bGi:=bG 2 (by omega)
    have hGs:=Qfy s a d 2
    generalize s.ax[2]'hA=c at*
    repeat (first|(simp -implicitDefEqProofs only [go_sem,Nat.reduceAdd,Nat.reduceMul,Nat.reduceEqDiff,Nat.reduceLT,Nat.reduceLeDiff,Nat.reduceSub,reduceCtorEq,Int.reduceLE,Int.reduceLT,Int.reduceToNat,hA',hx,Int.toNat_natCast,List.length_map,at3,Nat.reduceLT])|(with_reducible exact Qaa _ _ (by kernel_rfl))|(with_reducible refine And.intro (Qaa _ _ (by kernel_rfl)) ?_))
    refine Qao mixed (fun k:{k:Nat // k≤c.length}=>St.of [(1,.int .i64 a),(2,.int .i64 d),(6,.bp 1 8 0 0),(7,.bp 100 6 0 0),(8,.bp 206 2 0 0),(9,.bp 301 2 0 0),(22,.agg [Qan s.x,Qan s.y,Qan s.z]),(23,.int .i64 2),(10,.int .i64 2),(27,Qan c),(28,.int .i64 (c.length:Int)),(29,.int .i64 (k.1:Int))]
     [(1,{els:=[.agg [.bool false,.str ⟨#[]⟩,.bool false,.str ⟨#[]⟩,.bool false,.str ⟨#[]⟩,.bool false,.str ⟨#[]⟩]],esz:=8,ety:=33,fro:=0,live:=true,arr:=false}),(100,{els:=[w3PV (sel (plP s a d) 2 0 (sm (plcT c a d) k.1)) (sel (plP s a d) 2 1 (sm (plcT c a d) k.1)) (sel (plP s a d) 2 2 (sm (plcT c a d) k.1))],esz:=6,ety:=93,fro:=0,live:=true,arr:=false}),(206,{els:=[wPV O],esz:=2,ety:=31,fro:=0,live:=true,arr:=false}),(301,{els:=[wPV ((plG s a d 2:Nat):Int)],esz:=2,ety:=31,fro:=0,live:=true,arr:=false})]) (fun k=>c.length-k.1) ⟨0,Nat.zero_le _⟩ ?_ ?_
    ·refine Qaj (θ:=[(1,1),(100,100),(206,206),(301,301)]) rfl ?_ ?_
     ·simp [Qad,lkp,ren1,ren0,Qam,Qan]
     ·refine⟨⟨rfl,rfl,rfl,rfl,rfl,.inr ⟨rfl,_,_,rfl,rfl,rfl,rfl⟩⟩,⟨rfl,rfl,rfl,rfl,rfl,.inr ⟨rfl,_,_,rfl,rfl,?_,rfl⟩⟩,⟨rfl,rfl,rfl,rfl,rfl,.inr ⟨rfl,_,_,rfl,rfl,rfl,rfl⟩⟩,⟨rfl,rfl,rfl,rfl,rfl,.inr ⟨rfl,_,_,rfl,rfl,rfl,rfl⟩⟩,trivial⟩
      simp only [sel,at3,sm]
      rfl
    ·rintro⟨k,hk⟩
     by_cases hB:k<c.length
     ·have hB':=ltT hB
      have n0:=nnT k
      have hgk:=Qbx c k hB
      have hwk2:=Qah (a:=k) (by omega)
      have w5:IntKind.i64.wrap (5-(k:Int))=((5-k:Nat):Int):=by rw [Qai (by omega) (by omega)];omega
      obtain⟨k1,k2⟩:=hcx _ (List.getElem_mem hB)
      have hcb:bd 64 c:=fun x hx=>Qav (hcx x hx)
      have x1:=hcb _ (List.getElem_mem hB)
      have o1:=Qe7 c[k] k1 k2
      have q1:=Qdd a k 64 ha.1 ha.2 (by omega) (by decide) ba
      have q2:=Qdd d (5-k) 64 hd.1 hd.2 (by omega) (by decide) bd'
      obtain⟨t1,t2,t3,t4⟩:=Qh1 hcb ba bd' k (by omega)
      have mm1:=Qgp (Qau t1 (by decide)) (Qau t2 (by decide)) (Qau t3 (by decide))
      have eT:plcT c a d k=c[k]*(a^k*d^(5-k)):=by unfold plcT;rw [Qb1 hB]
      rw [eT]at t4
      have mm2:=Qgp (Qau x1 (by decide)) (Qau t3 (by decide)) (Qau t4 (by decide))
      rw [←eT]at mm2 t4
      have y1:=Qdx hcb ba bd' k (by omega)
      have y2:=Qdx hcb ba bd' (k+1) (by omega)
      have es:sm (plcT c a d) (k+1)=sm (plcT c a d) k+plcT c a d k:=rfl
      rw [es]at y2
      have a1:=Qgo (Qau y1 (by decide)) (Qau t4 (by decide)) (Qau y2 (by decide))
      rw [←es]at a1
      clear y1 y2 t1 t2 t3 t4 es eT hP
      generalize hX:sm (plcT c a d) (k+1)=X at*
      generalize sm (plcT c a d) k=Y at*
      generalize plcT c a d k=T at*
      generalize a^k*d^(5-k)=U at*
      generalize a^k=U1 at*
      generalize d^(5-k)=U2 at*
      repeat (first|(simp -implicitDefEqProofs only [go_sem,Nat.reduceAdd,Nat.reduceMul,Nat.reduceEqDiff,Nat.reduceLT,Nat.reduceLeDiff,reduceCtorEq,Int.reduceLE,Int.reduceLT,Int.reduceToNat,wPV,hB',n0,hgk,hwk2,w5,sel,at3,Nat.reduceLT,Int.toNat_natCast,List.length_map])|((with_reducible refine Qab (o1) ?_ ?_ ?_);(with_reducible rfl);rfl)|((with_reducible refine Qab (q1) ?_ ?_ ?_);(with_reducible rfl);rfl)|((with_reducible refine Qab (q2) ?_ ?_ ?_);(with_reducible rfl);rfl)|((with_reducible refine Qab (mm1) ?_ ?_ ?_);(with_reducible rfl);rfl)|((with_reducible refine Qab (mm2) ?_ ?_ ?_);(with_reducible rfl);rfl)|((with_reducible refine Qab (a1) ?_ ?_ ?_);(with_reducible rfl);rfl)|(with_reducible exact Qaa _ _ (by kernel_rfl))|(with_reducible refine And.intro (Qaa _ _ (by kernel_rfl)) ?_))
      refine⟨⟨k+1,hB⟩,by simp only;omega,Qaj (θ:=[(1,1),(100,100),(206,206),(301,301)]) rfl ?_ ?_⟩
      ·simp [Qad,lkp,ren1,ren0,Qam,Qan]
      ·simp only [hX]
       exact⟨⟨rfl,rfl,rfl,rfl,rfl,.inr ⟨rfl,_,_,rfl,rfl,rfl,rfl⟩⟩,⟨rfl,rfl,rfl,rfl,rfl,.inr ⟨rfl,_,_,rfl,rfl,rfl,rfl⟩⟩,⟨rfl,rfl,rfl,rfl,rfl,.inr ⟨rfl,_,_,rfl,rfl,rfl,rfl⟩⟩,⟨rfl,rfl,rfl,rfl,rfl,.inr ⟨rfl,_,_,rfl,rfl,rfl,rfl⟩⟩,trivial⟩
     ·have hB':=ltF hB
      obtain rfl:k=c.length:=by omega
      have gg:=Qod (Qau bGi (by decide)) (Qau bPi (by decide))
      rw [Int.natAbs_natCast,←hGs]at gg
      rw [hP]at gg
      generalize hX:sm (plcT c a d) c.length=X at*
      repeat (first|(simp -implicitDefEqProofs only [go_sem,Nat.reduceAdd,Nat.reduceMul,Nat.reduceEqDiff,Nat.reduceLT,Nat.reduceLeDiff,reduceCtorEq,Int.reduceLE,Int.reduceLT,Int.reduceToNat,Int.reduceAdd,wPV,hB',sel,at3,Nat.reduceLT,List.length_map])|((with_reducible refine Qab (gg) ?_ ?_ ?_);(with_reducible rfl);rfl)|(with_reducible exact Qaa _ _ (by kernel_rfl))|(with_reducible refine And.intro (Qaa _ _ (by kernel_rfl)) ?_))
      refine⟨⟨2+1,hA⟩,by simp only;omega,Qaj (θ:=[(1,1),(100,100),(206,206),(301,301)]) rfl ?_ ?_⟩
      ·simp [Qad,lkp,ren1,ren0,Qam,Qan]
      ·simp only [at3,hP,hX]
       exact⟨⟨rfl,rfl,rfl,rfl,rfl,.inr ⟨rfl,_,_,rfl,rfl,rfl,rfl⟩⟩,⟨rfl,rfl,rfl,rfl,rfl,.inr ⟨rfl,_,_,rfl,rfl,rfl,rfl⟩⟩,⟨rfl,rfl,rfl,rfl,rfl,.inr ⟨rfl,_,_,rfl,rfl,rfl,rfl⟩⟩,⟨rfl,rfl,rfl,rfl,rfl,.inr ⟨rfl,_,_,rfl,rfl,rfl,rfl⟩⟩,trivial⟩
  ·have hA':((i:Int)<3)=False:=eq_false (by omega)
   obtain rfl:i=3:=by omega
   have G0:=Qtg ho hd1 3 (s:=s) (d:=d) (a:=a)
   have bG3:=Qoi (bG 3 (by decide)) (by decide)
   have r0:=Qij (bP 0 (by decide)) (by decide) bG3 (by omega)
   have r1:=Qij (bP 1 (by decide)) (by decide) bG3 (by omega)
   have r2:=Qij (bP 2 (by decide)) (by decide) bG3 (by omega)
   have r3:=Qij bod (by decide) bG3 (by omega)
   unfold plV
   rw [hO]
   have z0:at3 (plP s a d) 3 0=plP s a d 0:=rfl
   have z1:at3 (plP s a d) 3 1=plP s a d 1:=rfl
   have z2:at3 (plP s a d) 3 2=plP s a d 2:=rfl
   simp only [z0,z1,z2]
   clear z0 z1 z2
   generalize plP s a d 0=X0 at*
   generalize plP s a d 1=X1 at*
   generalize plP s a d 2=X2 at*
   generalize ((plG s a d 3:Nat):Int)=G at*
   generalize X0/G=Y0 at*
   generalize X1/G=Y1 at*
   generalize X2/G=Y2 at*
   generalize O/G=Y3 at*
   repeat (first|(simp -implicitDefEqProofs only [go_sem,Nat.reduceAdd,Nat.reduceMul,Nat.reduceEqDiff,Nat.reduceLT,Nat.reduceLeDiff,Nat.reduceSub,reduceCtorEq,Int.reduceLE,Int.reduceLT,Int.reduceToNat,hA',wPV,at3,Nat.reduceLT])|((with_reducible refine Qab (r0) ?_ ?_ ?_);(with_reducible rfl);rfl)|((with_reducible refine Qab (r1) ?_ ?_ ?_);(with_reducible rfl);rfl)|((with_reducible refine Qab (r2) ?_ ?_ ?_);(with_reducible rfl);rfl)|((with_reducible refine Qab (r3) ?_ ?_ ?_);(with_reducible rfl);rfl)|(with_reducible exact Qaa _ _ (by kernel_rfl))|(with_reducible refine And.intro (Qaa _ _ (by kernel_rfl)) ?_))
end Go.Proofs.YtlpiamlgibomhaaGreat

namespace Go.Proofs.YtlpiamlgibomhaaGreat
open Go.Vl Go.RowKit Go.Dg
theorem Qen (n:Int) (k B:Nat) (hn:i64 n) (hk:k≤100) (hB:B≤600) (hb:n.natAbs<2^B):Qaf Tryz.prog 104 [.int .i64 n,.int .i64 (k:Int)] (rI (n^k)):=by
 have h1:=Qc1 1 (by decide) (by decide)
 have h2:=Qc1 n hn.1 hn.2
 refine Qac (tb:=[]) 18 [.cell 4 44] [0,1,4,5,6,10] mixed Tryz.func104 rfl (by kernel_rfl) (by kernel_rfl) (by kernel_rfl) (by kernel_rfl) ?_
 repeat (first|(simp -implicitDefEqProofs only [go_sem,Nat.reduceAdd,Nat.reduceMul,Nat.reduceEqDiff,Nat.reduceLT,Nat.reduceLeDiff,reduceCtorEq,Int.reduceLT,rI,di])|((with_reducible refine Qab (h1) ?_ ?_ ?_);(with_reducible rfl);rfl)|(with_reducible exact Qaa _ _ (by kernel_rfl))|(with_reducible refine And.intro (Qaa _ _ (by kernel_rfl)) ?_))
 refine Qao mixed (fun i:{i:Nat // i≤k}=>St.of [(0,.int .i64 n),(1,.int .i64 (k:Int)),(4,.bp 0 2 0 0),(5,.bp 101 2 0 0),(6,.int .i64 (i.1:Int))]
  [(0,{els:=[.agg [.bool false,.nilS]],esz:=2,ety:=44,fro:=0,live:=true,arr:=false}),(101,{els:=[rI (n^i.1)],esz:=2,ety:=44,fro:=0,live:=true,arr:=false})]) (fun i=>k-i.1) ⟨0,Nat.zero_le _⟩ ?_ ?_
 ·refine Qaj (θ:=[(0,0),(101,101)]) rfl ?_ ?_
  ·simp [Qad,lkp,ren1,ren0,Qam]
  ·refine⟨⟨rfl,rfl,rfl,rfl,rfl,.inr ⟨rfl,_,_,rfl,rfl,rfl,rfl⟩⟩,⟨rfl,rfl,rfl,rfl,rfl,.inr ⟨rfl,_,_,rfl,rfl,?_,rfl⟩⟩,trivial⟩
   simp only [Int.pow_zero];rfl
 ·rintro⟨i,hi⟩
  by_cases hA:i<k
  ·have hA':=ltT hA
   have hwk:=Qah (a:=i) (by omega)
   have hp:=Qik hb i
   have hBk:B*i≤600*100:=Nat.mul_le_mul hB (by omega)
   have e:n^(i+1)=n^i*n:=Int.pow_succ n i
   have hm:=Qe3 (Qbc hp (by omega)) (Qbc hb (by omega))
   rw [←e]at hm
   generalize hX:n^(i+1)=Y at*
   generalize n^i=Z at*
   repeat (first|(simp -implicitDefEqProofs only [go_sem,Nat.reduceAdd,Nat.reduceMul,Nat.reduceEqDiff,Nat.reduceLT,Nat.reduceLeDiff,reduceCtorEq,rI,di,hA',hwk])|((with_reducible refine Qab (h2) ?_ ?_ ?_);(with_reducible rfl);rfl)|((with_reducible refine Qab (hm) ?_ ?_ ?_);(with_reducible rfl);rfl)|(with_reducible exact Qaa _ _ (by kernel_rfl))|(with_reducible refine And.intro (Qaa _ _ (by kernel_rfl)) ?_))
   refine⟨⟨i+1,hA⟩,by simp only;omega,Qaj (θ:=[(0,0),(101,101)]) rfl ?_ ?_⟩
   ·simp [Qad,lkp,ren1,ren0,Qam]
   ·simp only [hX]
    exact⟨⟨rfl,rfl,rfl,rfl,rfl,.inr ⟨rfl,_,_,rfl,rfl,rfl,rfl⟩⟩,⟨rfl,rfl,rfl,rfl,rfl,.inr ⟨rfl,_,_,rfl,rfl,rfl,rfl⟩⟩,trivial⟩
  ·have hA':=ltF hA
   obtain rfl:i=k:=by omega
   generalize n^i=Z at*
   repeat (first|(simp -implicitDefEqProofs only [go_sem,Nat.reduceAdd,Nat.reduceMul,Nat.reduceEqDiff,Nat.reduceLT,Nat.reduceLeDiff,reduceCtorEq,rI,di,hA'])|(with_reducible exact Qaa _ _ (by kernel_rfl))|(with_reducible refine And.intro (Qaa _ _ (by kernel_rfl)) ?_))
theorem ml1:(1≤maxLen)=True:=eq_true (by unfold maxLen;omega)
theorem ml2:(2≤maxLen)=True:=eq_true (by unfold maxLen;omega)
theorem ml3:(3≤maxLen)=True:=eq_true (by unfold maxLen;omega)
theorem ml4:(4≤maxLen)=True:=eq_true (by unfold maxLen;omega)
attribute [go_sem] ml1 ml2 ml3 ml4
def Qec (ps:List Int) (o:Int):PV:= .agg [.slc (ps.map rI),.bool (decide (o<0)),di (digs E9 o.natAbs)]
def lowG (P:Nat→Int) (O:Int) (i:Nat):Nat:=gcdL O.natAbs ((List.range i).map P)
theorem Qrs (P:Nat→Int) (O:Int) (i:Nat):lowG P O (i+1)=Nat.gcd (lowG P O i) (P i).natAbs:=by
 unfold lowG;rw [List.range_succ,List.map_append];exact Qd2 _ _ _
theorem Q92 {P:Nat→Int} {O:Int} (h:0<O) (i:Nat):0<lowG P O i:=by
 induction i with
 |zero=>show 0<O.natAbs;omega
 |succ i ih=>rw [Qrs];exact Nat.gcd_pos_of_pos_left _ ih
theorem Zi2 {P:Nat→Int} {O:Int} {B:Nat} (hO:O.natAbs<2^B) (hP: ∀i,i<3→(P i).natAbs<2^B) (i:Nat) (hi:i≤3):((lowG P O i:Nat):Int).natAbs<2^B:=by
 rw [Int.natAbs_natCast]
 refine Qea _ hO fun x hx=> ?_
 simp only [List.mem_map,List.mem_range]at hx
 obtain⟨m,hm,rfl⟩:=hx
 exact hP m (by omega)
def Qk1 (P:Nat→Int):List Int:=[P 0,P 1,P 2]
theorem Qrt (P:Nat→Int) (i:Nat) (h:i<3):((Qk1 P).map rI)[i]? =some (.agg [.bool (decide (P i<0)),di (digs E9 (P i).natAbs)]):=by
 rcases(show i=0∨i=1∨i=2 by omega)with rfl|rfl|rfl<;>rfl
def upB (ety:Nat) (P:Nat→Int):Nat→List (Nat×Box)
 |0=>[]
 |i+1=>[(8,{els:=((List.range (i+1)).map P).map rI,esz:=2,ety:=ety,fro:=0,live:=true,arr:=true})]
def upV:Nat→PV
 |0=> .nilS
 |i+1=> .bs 8 2 0 (i+1)
set_option maxHeartbeats 1000000 in
theorem Q2s (P:Nat→Int) (O:Int) (B:Nat) (hB:B≤6000) (hO:0<O) (bO:O.natAbs<2^B) (bP: ∀i,i<3→(P i).natAbs<2^B):
  Qaf Tryz.prog 105 [Qec (Qk1 P) O] (Qec (Qk1 fun i=>P i/(lowG P O 3:Int)) (O/(lowG P O 3:Int))):=by
 have bG:=Zi2 bO bP
 have hp:Qec (Qk1 P) O= .agg [.slc ((Qk1 P).map rI),.bool (decide (O<0)),.slc ((digs E9 O.natAbs).map fun d:Nat=>PV.int .i64 (d:Int))]:=rfl
 rw [hp]
 refine Qac (tb:=[]) 51 [.cell 2 46] [0,1,2,3,4,5,6,7,12,23] mixed Tryz.func105 rfl (by kernel_rfl) (by kernel_rfl) (by kernel_rfl) (by kernel_rfl) ?_
 repeat (first|(simp -implicitDefEqProofs only [go_sem,Nat.reduceAdd,Nat.reduceMul,Nat.reduceEqDiff,Nat.reduceLT,Nat.reduceLeDiff,reduceCtorEq,rI,di])|(with_reducible exact Qaa _ _ (by kernel_rfl))|(with_reducible refine And.intro (Qaa _ _ (by kernel_rfl)) ?_))
 refine Qao mixed (fun i:{i:Nat // i≤3}=>St.of [(1,.bp 0 3 0 0),(2,.bp 1 3 0 0),(3,.bp 102 2 0 0),(4,.int .i64 (i.1:Int))]
  [(0,{els:=[Qec (Qk1 P) O],esz:=3,ety:=46,fro:=0,live:=true,arr:=false}),(1,{els:=[.agg [.nilS,.bool false,.nilS]],esz:=3,ety:=46,fro:=0,live:=true,arr:=false}),(102,{els:=[rI ((lowG P O i.1:Nat):Int)],esz:=2,ety:=44,fro:=0,live:=true,arr:=false})]) (fun i=>3-i.1) ⟨0,Nat.zero_le _⟩ ?_ ?_
 ·refine Qaj (θ:=[(0,0),(1,1),(102,102)]) rfl ?_ ?_
  ·simp [Qad,lkp,ren1,ren0,Qam]
  ·refine⟨⟨rfl,rfl,rfl,rfl,rfl,.inr ⟨rfl,_,_,rfl,rfl,rfl,rfl⟩⟩,⟨rfl,rfl,rfl,rfl,rfl,.inr ⟨rfl,_,_,rfl,rfl,rfl,rfl⟩⟩,⟨rfl,rfl,rfl,rfl,rfl,.inr ⟨rfl,_,_,rfl,rfl,?_,rfl⟩⟩,trivial⟩
   have:((lowG P O 0:Nat):Int)=O:=by show((O.natAbs:Nat):Int)=O;omega
   simp only [this];rfl
 ·rintro⟨i,hi⟩
  have hi3:=bG i hi
  by_cases hA:i<3
  ·have hA':((i:Int)<3)=True:=eq_true (by omega)
   have n0:=nnT i
   have hgx:=Qrt P i hA
   have hwk:=Qah (a:=i) (by omega)
   have gg:=Qrw (Qbc hi3 (by omega)) (Qbc (bP i hA) (by omega))
   rw [Int.natAbs_natCast,←Qrs]at gg
   generalize hX:lowG P O (i+1)=X at*
   generalize lowG P O i=Y at*
   generalize hZ:P i=Z at*
   repeat (first|(simp -implicitDefEqProofs only [go_sem,Nat.reduceAdd,Nat.reduceMul,Nat.reduceEqDiff,Nat.reduceLT,Nat.reduceLeDiff,reduceCtorEq,Qec,rI,di,hA',n0,hgx,hwk,Int.toNat_natCast,List.length_map])|((with_reducible refine Qab (gg) ?_ ?_ ?_);(with_reducible rfl);rfl)|(with_reducible exact Qaa _ _ (by kernel_rfl))|(with_reducible refine And.intro (Qaa _ _ (by kernel_rfl)) ?_))
   refine⟨⟨i+1,hA⟩,by simp only;omega,Qaj (θ:=[(0,0),(1,1),(102,102)]) rfl ?_ ?_⟩
   ·simp [Qad,lkp,ren1,ren0,Qam]
   ·simp only [hX]
    exact⟨⟨rfl,rfl,rfl,rfl,rfl,.inr ⟨rfl,_,_,rfl,rfl,rfl,rfl⟩⟩,⟨rfl,rfl,rfl,rfl,rfl,.inr ⟨rfl,_,_,rfl,rfl,rfl,rfl⟩⟩,⟨rfl,rfl,rfl,rfl,rfl,.inr ⟨rfl,_,_,rfl,rfl,rfl,rfl⟩⟩,trivial⟩
  ·have hA':((i:Int)<3)=False:=eq_false (by omega)
   obtain rfl:i=3:=by omega
   have hG0:=Q92 (P:=P) hO 3
   have hqO:=Qwq (Qbc bO (by omega)) (Qbc hi3 (by omega)) (by omega)
   have hqP:=fun i (h:i<3)=>Qwq (Qbc (bP i h) (by omega)) (Qbc hi3 (by omega)) (by omega)
   simp only
   generalize ((lowG P O 3:Nat):Int)=G at*
   repeat (first|(simp -implicitDefEqProofs only [go_sem,Nat.reduceAdd,Nat.reduceMul,Nat.reduceEqDiff,Nat.reduceLT,Nat.reduceLeDiff,Nat.reduceSub,reduceCtorEq,Int.reduceLT,Qec,rI,di,hA'])|(with_reducible exact Qaa _ _ (by kernel_rfl))|(with_reducible refine And.intro (Qaa _ _ (by kernel_rfl)) ?_))
   refine Qao mixed (fun i:{i:Nat // i≤3}=>St.of [(1,.bp 0 3 0 0),(2,.bp 1 3 0 0),(3,.bp 102 2 0 0),(5,.bp 600 3 0 0),(6,.int .i64 (i.1:Int))]
    ((0,{els:=[Qec (Qk1 P) O],esz:=3,ety:=46,fro:=0,live:=true,arr:=false})::(1,{els:=[.agg [.nilS,.bool false,.nilS]],esz:=3,ety:=46,fro:=0,live:=true,arr:=false})::(102,{els:=[rI G],esz:=2,ety:=44,fro:=0,live:=true,arr:=false})::(600,{els:=[.agg [upV i.1,.bool false,.nilS]],esz:=3,ety:=46,fro:=0,live:=true,arr:=false})::upB 44 (fun i=>P i/G) i.1)) (fun i=>3-i.1) ⟨0,Nat.zero_le _⟩ ?_ ?_
   ·refine Qaj (θ:=[(0,0),(1,1),(102,102),(600,600)]) rfl ?_ ?_
    ·simp [Qad,lkp,ren1,ren0,Qam]
    ·exact⟨⟨rfl,rfl,rfl,rfl,rfl,.inr ⟨rfl,_,_,rfl,rfl,rfl,rfl⟩⟩,⟨rfl,rfl,rfl,rfl,rfl,.inr ⟨rfl,_,_,rfl,rfl,rfl,rfl⟩⟩,⟨rfl,rfl,rfl,rfl,rfl,.inr ⟨rfl,_,_,rfl,rfl,rfl,rfl⟩⟩,⟨rfl,rfl,rfl,rfl,rfl,.inr ⟨rfl,_,_,rfl,rfl,rfl,rfl⟩⟩,trivial⟩
   ·rintro⟨i,hi⟩
    by_cases hA:i<3
    ·have hA':((i:Int)<3)=True:=eq_true (by omega)
     have n0:=nnT i
     have hgx:=Qrt P i hA
     have hwk:=Qah (a:=i) (by omega)
     have qq:=hqP i hA
     rcases(show i=0∨i=1∨i=2 by omega)with hi0|hi0|hi0
     ·skip
      obtain rfl:i=0:=hi0
      generalize P 0%G=R at*
      repeat (first|(simp -implicitDefEqProofs only [go_sem,Nat.reduceAdd,Nat.reduceMul,Nat.reduceEqDiff,Nat.reduceLT,Nat.reduceLeDiff,Nat.reduceSub,reduceCtorEq,Int.reduceLT,Int.reduceAdd,Qec,rI,di,hA',n0,hgx,hwk,upV,upB,Int.toNat_natCast,List.length_map])|((with_reducible refine Qab (qq) ?_ ?_ ?_);(with_reducible rfl);rfl)|(with_reducible exact Qaa _ _ (by kernel_rfl))|(with_reducible refine And.intro (Qaa _ _ (by kernel_rfl)) ?_))
      refine⟨⟨0+1,hA⟩,by simp only;omega,Qaj (θ:=[(0,0),(1,1),(102,102),(600,600),(8,1104)]) rfl ?_ ?_⟩
      ·simp [Qad,lkp,ren1,ren0,Qam]
      ·exact⟨⟨rfl,rfl,rfl,rfl,rfl,.inr ⟨rfl,_,_,rfl,rfl,rfl,rfl⟩⟩,⟨rfl,rfl,rfl,rfl,rfl,.inr ⟨rfl,_,_,rfl,rfl,rfl,rfl⟩⟩,⟨rfl,rfl,rfl,rfl,rfl,.inr ⟨rfl,_,_,rfl,rfl,rfl,rfl⟩⟩,⟨rfl,rfl,rfl,rfl,rfl,.inr ⟨rfl,_,_,rfl,rfl,rfl,rfl⟩⟩,⟨rfl,rfl,rfl,rfl,rfl,.inl ⟨rfl,rfl⟩⟩,trivial⟩
     ·skip
      obtain rfl:i=1:=hi0
      generalize P 1%G=R at*
      repeat (first|(simp -implicitDefEqProofs only [go_sem,Nat.reduceAdd,Nat.reduceMul,Nat.reduceEqDiff,Nat.reduceLT,Nat.reduceLeDiff,Nat.reduceSub,reduceCtorEq,Nat.reduceBneDiff,Int.reduceLE,Int.reduceLT,Int.reduceToNat,Int.reduceAdd,Qec,rI,di,hA',n0,hgx,hwk,upV,upB,Int.toNat_natCast,List.length_map])|((with_reducible refine Qab (qq) ?_ ?_ ?_);(with_reducible rfl);rfl)|(with_reducible exact Qaa _ _ (by kernel_rfl))|(with_reducible refine And.intro (Qaa _ _ (by kernel_rfl)) ?_))
      refine⟨⟨1+1,hA⟩,by simp only;omega,Qaj (θ:=[(0,0),(1,1),(102,102),(600,600),(8,1104)]) rfl ?_ ?_⟩
      ·simp [Qad,lkp,ren1,ren0,Qam]
      ·exact⟨⟨rfl,rfl,rfl,rfl,rfl,.inr ⟨rfl,_,_,rfl,rfl,rfl,rfl⟩⟩,⟨rfl,rfl,rfl,rfl,rfl,.inr ⟨rfl,_,_,rfl,rfl,rfl,rfl⟩⟩,⟨rfl,rfl,rfl,rfl,rfl,.inr ⟨rfl,_,_,rfl,rfl,rfl,rfl⟩⟩,⟨rfl,rfl,rfl,rfl,rfl,.inr ⟨rfl,_,_,rfl,rfl,rfl,rfl⟩⟩,⟨rfl,rfl,rfl,rfl,rfl,.inl ⟨rfl,rfl⟩⟩,trivial⟩
     ·skip
      obtain rfl:i=2:=hi0
      generalize P 2%G=R at*
      repeat (first|(simp -implicitDefEqProofs only [go_sem,Nat.reduceAdd,Nat.reduceMul,Nat.reduceEqDiff,Nat.reduceLT,Nat.reduceLeDiff,Nat.reduceSub,reduceCtorEq,Nat.reduceBneDiff,Int.reduceLE,Int.reduceLT,Int.reduceToNat,Int.reduceAdd,Qec,rI,di,hA',n0,hgx,hwk,upV,upB,Int.toNat_natCast,List.length_map])|((with_reducible refine Qab (qq) ?_ ?_ ?_);(with_reducible rfl);rfl)|(with_reducible exact Qaa _ _ (by kernel_rfl))|(with_reducible refine And.intro (Qaa _ _ (by kernel_rfl)) ?_))
      refine⟨⟨2+1,hA⟩,by simp only;omega,Qaj (θ:=[(0,0),(1,1),(102,102),(600,600),(8,1104)]) rfl ?_ ?_⟩
      ·simp [Qad,lkp,ren1,ren0,Qam]
      ·exact⟨⟨rfl,rfl,rfl,rfl,rfl,.inr ⟨rfl,_,_,rfl,rfl,rfl,rfl⟩⟩,⟨rfl,rfl,rfl,rfl,rfl,.inr ⟨rfl,_,_,rfl,rfl,rfl,rfl⟩⟩,⟨rfl,rfl,rfl,rfl,rfl,.inr ⟨rfl,_,_,rfl,rfl,rfl,rfl⟩⟩,⟨rfl,rfl,rfl,rfl,rfl,.inr ⟨rfl,_,_,rfl,rfl,rfl,rfl⟩⟩,⟨rfl,rfl,rfl,rfl,rfl,.inl ⟨rfl,rfl⟩⟩,trivial⟩
    ·have hA':((i:Int)<3)=False:=eq_false (by omega)
     obtain rfl:i=3:=by omega
     simp only [upV,upB]
     repeat (first|(simp -implicitDefEqProofs only [go_sem,Nat.reduceAdd,Nat.reduceMul,Nat.reduceEqDiff,Nat.reduceLT,Nat.reduceLeDiff,Nat.reduceSub,reduceCtorEq,Int.reduceLT,Qec,rI,di,hA'])|((with_reducible refine Qab (hqO) ?_ ?_ ?_);(with_reducible rfl);rfl)|(with_reducible exact Qaa _ _ (by kernel_rfl))|(with_reducible refine And.intro (Qaa _ _ (by kernel_rfl)) ?_))
     rfl
set_option maxHeartbeats 1000000 in
theorem Qp1 (s:Sg) (a d:Int) (hs:okSg s) (h6: ∀c∈s.ax,c.length≤6) (ho:1≤s.o) (ha:i64 a) (hd:i64 d) (hd1:1≤d):
  Qaf Tryz.prog 65 [sgPV s,.int .i64 a,.int .i64 d] (Qec (Qk1 fun i=>plP s a d i/(plG s a d 3:Int)) (s.o*d^5/(plG s a d 3:Int))):=by
 obtain⟨⟨a1,a2⟩,⟨a3,a4⟩,⟨a5,a6⟩,hc,hl⟩:=hs
 have ba:=Qav ha
 have bd':=Qav hd
 have bo:=Qav ⟨a5,a6⟩
 have w1:=Qc1 s.o a5 a6
 have p5:=Qen d 5 64 hd (by decide) (by decide) bd'
 have bd5:=Qik bd' 5
 have bod:=Q86 (s:=s) bo bd'
 have m1:=Qe3 (Qbc bo (by decide)) (Qbc bd5 (by decide))
 have hax:=Qtu s
 have hcB: ∀c∈s.ax,bd 64 c:=fun c hx x hx2=>Qav (hc c hx x hx2)
 have bP:=Qv1 hcB h6 ba bd'
 have hO0:0<s.o*d^5:=Int.mul_pos (by omega) (Int.pow_pos (by omega))
 have hlow:=Q2s (plP s a d) (s.o*d^5) (64+(64*5+1+(64*5+1))+7) (by decide) hO0 (Qdp bod (by decide)) bP
 have hlg:lowG (plP s a d) (s.o*d^5) 3=plG s a d 3:=rfl
 rw [hlg]at hlow
 clear hlg
 have hrp:Qec (Qk1 (plP s a d)) (s.o*d^5)= .agg [.slc [rI (plP s a d 0),rI (plP s a d 1),rI (plP s a d 2)],.bool (decide (s.o*d^5<0)),.slc ((digs E9 (s.o*d^5).natAbs).map fun d:Nat=>PV.int .i64 (d:Int))]:=rfl
 rw [hrp]at hlow
 clear hrp
 generalize s.o*d^5=O at*
 have hsg:sgPV s= .agg [.int .i64 s.f,.int .i64 s.t,.int .i64 s.o,.slc (s.x.map (PV.int .i64)),.slc (s.y.map (PV.int .i64)),.slc (s.z.map (PV.int .i64))]:=rfl
 rw [hsg]at hax ⊢
 generalize (Qk1 fun i=>plP s a d i/(plG s a d 3:Int))=RL at*
 generalize (O/(plG s a d 3:Int))=RO at*
 refine Qac (tb:=[]) 62 [.cell 6 46] [0,1,2,3,6,7,8,9,10,11,15,25] mixed Tryz.func65 rfl (by kernel_rfl) (by kernel_rfl) (by kernel_rfl) (by kernel_rfl) ?_
 repeat (first|(simp -implicitDefEqProofs only [go_sem,Nat.reduceAdd,Nat.reduceMul,Nat.reduceEqDiff,Nat.reduceLT,Nat.reduceLeDiff,reduceCtorEq,rI,di])|((with_reducible refine Qab (hax) ?_ ?_ ?_);(with_reducible rfl);rfl)|(with_reducible exact Qaa _ _ (by kernel_rfl))|(with_reducible refine And.intro (Qaa _ _ (by kernel_rfl)) ?_))
 refine Qao mixed (fun i:{i:Nat // i≤3}=>St.of [(1,.int .i64 a),(2,.int .i64 d),(3,.bp 0 6 0 0),(6,.bp 1 3 0 0),(7,.bp 100 3 0 0),(8,.slc [Qan s.x,Qan s.y,Qan s.z]),(9,.int .i64 (i.1:Int))]
  ((0,{els:=[sgPV s],esz:=6,ety:=24,fro:=0,live:=true,arr:=false})::(1,{els:=[.agg [.nilS,.bool false,.nilS]],esz:=3,ety:=46,fro:=0,live:=true,arr:=false})::(100,{els:=[.agg [upV i.1,.bool false,.nilS]],esz:=3,ety:=46,fro:=0,live:=true,arr:=false})::upB 44 (plP s a d) i.1)) (fun i=>3-i.1) ⟨0,Nat.zero_le _⟩ ?_ ?_
 ·refine Qaj (θ:=[(0,0),(1,1),(100,100)]) rfl ?_ ?_
  ·simp [Qad,lkp,ren1,ren0,Qam,Qan]
  ·exact⟨⟨rfl,rfl,rfl,rfl,rfl,.inr ⟨rfl,_,_,rfl,rfl,rfl,rfl⟩⟩,⟨rfl,rfl,rfl,rfl,rfl,.inr ⟨rfl,_,_,rfl,rfl,rfl,rfl⟩⟩,⟨rfl,rfl,rfl,rfl,rfl,.inr ⟨rfl,_,_,rfl,rfl,rfl,rfl⟩⟩,trivial⟩
 ·rintro⟨i,hi⟩
  by_cases hA:i<3
  ·have hA':((i:Int)<3)=True:=eq_true (by omega)
   have h0x:=nnT i
   have hx:=Q2n s i hA
   rcases(show i=0∨i=1∨i=2 by omega)with hi0|hi0|hi0
   ·skip
    obtain rfl:i=0:=hi0
    have hP:plP s a d 0=sm (plcT (s.ax[0]'hA) a d) (s.ax[0]'hA).length:=rfl
    have hcx:=hc (s.ax[0]) (List.getElem_mem hA)
    have hlx:=h6 (s.ax[0]) (List.getElem_mem hA)
    generalize s.ax[0]'hA=c at*
    repeat (first|(simp -implicitDefEqProofs only [go_sem,Nat.reduceAdd,Nat.reduceMul,Nat.reduceEqDiff,Nat.reduceLT,Nat.reduceLeDiff,Nat.reduceSub,reduceCtorEq,Int.reduceLT,hA',upV,upB])|(with_reducible exact Qaa _ _ (by kernel_rfl))|(with_reducible refine And.intro (Qaa _ _ (by kernel_rfl)) ?_))
    refine Qao mixed (fun k:{k:Nat // k≤c.length}=>St.of [(1,.int .i64 a),(2,.int .i64 d),(3,.bp 0 6 0 0),(6,.bp 1 3 0 0),(7,.bp 100 3 0 0),(8,.slc [Qan s.x,Qan s.y,Qan s.z]),(9,.int .i64 0),(10,.bp 601 2 0 0),(11,.int .i64 (k.1:Int))]
     ((0,{els:=[sgPV s],esz:=6,ety:=24,fro:=0,live:=true,arr:=false})::(1,{els:=[.agg [.nilS,.bool false,.nilS]],esz:=3,ety:=46,fro:=0,live:=true,arr:=false})::(601,{els:=[rI (sm (plcT c a d) k.1)],esz:=2,ety:=44,fro:=0,live:=true,arr:=false})::(100,{els:=[.agg [upV 0,.bool false,.nilS]],esz:=3,ety:=46,fro:=0,live:=true,arr:=false})::upB 44 (plP s a d) 0)) (fun k=>c.length-k.1) ⟨0,Nat.zero_le _⟩ ?_ ?_
    ·refine Le.trans (Qnw 601 rfl) (Qaj (θ:=[(0,0),(1,1),(601,601),(100,100)]) rfl ?_ ?_)
     ·simp [Qad,lkp,ren1,ren0,Qam,Qan]
     ·simp only [upB,upV]
      refine⟨⟨rfl,rfl,rfl,rfl,rfl,.inr ⟨rfl,_,_,rfl,rfl,rfl,rfl⟩⟩,⟨rfl,rfl,rfl,rfl,rfl,.inr ⟨rfl,_,_,rfl,rfl,rfl,rfl⟩⟩,⟨rfl,rfl,rfl,rfl,rfl,.inr ⟨rfl,_,_,rfl,rfl,?_,rfl⟩⟩,⟨rfl,rfl,rfl,rfl,rfl,.inr ⟨rfl,_,_,rfl,rfl,rfl,rfl⟩⟩,?_⟩
      ·simp only [sm,rI_z];rfl
      ·exact trivial
    ·rintro⟨k,hk⟩
     by_cases hB:k<c.length
     ·have hB':=ltT hB
      have n0:=nnT k
      have hgk:=Qbx c k hB
      have hwk2:=Qah (a:=k) (by omega)
      have w5:IntKind.i64.wrap (5-(k:Int))=((5-k:Nat):Int):=by rw [Qai (by omega) (by omega)];omega
      obtain⟨k1,k2⟩:=hcx _ (List.getElem_mem hB)
      have hcb:bd 64 c:=fun x hx=>Qav (hcx x hx)
      have x1:=hcb _ (List.getElem_mem hB)
      have o1:=Qc1 c[k] k1 k2
      have q1:=Qen a k 64 ha (by omega) (by decide) ba
      have q2:=Qen d (5-k) 64 hd (by omega) (by decide) bd'
      obtain⟨t1,t2,t3,t4⟩:=Qh1 hcb ba bd' k (by omega)
      have mm1:=Qe3 (Qbc t1 (by decide)) (Qbc t2 (by decide))
      have eT:plcT c a d k=c[k]*(a^k*d^(5-k)):=by unfold plcT;rw [Qb1 hB]
      have mm2:=Qe3 (Qbc x1 (by decide)) (Qbc t3 (by decide))
      rw [←eT]at mm2
      have y1:=Qdx hcb ba bd' k (by omega)
      have es:sm (plcT c a d) (k+1)=sm (plcT c a d) k+plcT c a d k:=rfl
      have a1:=Qol (Qbc y1 (by decide)) (Qbc t4 (by decide))
      rw [←es]at a1
      clear y1 t1 t2 t3 t4 es eT hP
      generalize hX:sm (plcT c a d) (k+1)=X at*
      generalize sm (plcT c a d) k=Y at*
      generalize plcT c a d k=T at*
      generalize a^k*d^(5-k)=U at*
      generalize a^k=U1 at*
      generalize d^(5-k)=U2 at*
      repeat (first|(simp -implicitDefEqProofs only [go_sem,Nat.reduceAdd,Nat.reduceMul,Nat.reduceEqDiff,Nat.reduceLT,Nat.reduceLeDiff,reduceCtorEq,rI,di,h0x,hx,hB',n0,hgk,hwk2,w5,upV,upB,Int.toNat_natCast,List.length_map])|((with_reducible refine Qab (o1) ?_ ?_ ?_);(with_reducible rfl);rfl)|((with_reducible refine Qab (q1) ?_ ?_ ?_);(with_reducible rfl);rfl)|((with_reducible refine Qab (q2) ?_ ?_ ?_);(with_reducible rfl);rfl)|((with_reducible refine Qab (mm1) ?_ ?_ ?_);(with_reducible rfl);rfl)|((with_reducible refine Qab (mm2) ?_ ?_ ?_);(with_reducible rfl);rfl)|((with_reducible refine Qab (a1) ?_ ?_ ?_);(with_reducible rfl);rfl)|(with_reducible exact Qaa _ _ (by kernel_rfl))|(with_reducible refine And.intro (Qaa _ _ (by kernel_rfl)) ?_))
      refine⟨⟨k+1,hB⟩,by simp only;omega,Qaj (θ:=[(0,0),(1,1),(601,601),(100,100)]) rfl ?_ ?_⟩
      ·simp [Qad,lkp,ren1,ren0,Qam,Qan]
      ·simp only [hX]
       try simp only [upB,upV]
       refine⟨⟨rfl,rfl,rfl,rfl,rfl,.inr ⟨rfl,_,_,rfl,rfl,rfl,rfl⟩⟩,⟨rfl,rfl,rfl,rfl,rfl,.inr ⟨rfl,_,_,rfl,rfl,rfl,rfl⟩⟩,⟨rfl,rfl,rfl,rfl,rfl,.inr ⟨rfl,_,_,rfl,rfl,rfl,rfl⟩⟩,⟨rfl,rfl,rfl,rfl,rfl,.inr ⟨rfl,_,_,rfl,rfl,rfl,rfl⟩⟩,?_⟩
       exact trivial
     ·have hB':=ltF hB
      obtain rfl:k=c.length:=by omega
      rw [←hP]
      generalize hX:plP s a d 0=X at*
      repeat (first|(simp -implicitDefEqProofs only [go_sem,Nat.reduceAdd,Nat.reduceMul,Nat.reduceEqDiff,Nat.reduceLT,Nat.reduceLeDiff,reduceCtorEq,Int.reduceAdd,rI,di,h0x,hx,hB',upV,upB,List.length_map])|(with_reducible exact Qaa _ _ (by kernel_rfl))|(with_reducible refine And.intro (Qaa _ _ (by kernel_rfl)) ?_))
      refine⟨⟨0+1,hA⟩,by simp only;omega,Qaj (θ:=[(0,0),(1,1),(100,100),(8,1104)]) rfl ?_ ?_⟩
      ·simp [Qad,lkp,ren1,ren0,Qam,Qan]
      ·subst hX
       exact⟨⟨rfl,rfl,rfl,rfl,rfl,.inr ⟨rfl,_,_,rfl,rfl,rfl,rfl⟩⟩,⟨rfl,rfl,rfl,rfl,rfl,.inr ⟨rfl,_,_,rfl,rfl,rfl,rfl⟩⟩,⟨rfl,rfl,rfl,rfl,rfl,.inr ⟨rfl,_,_,rfl,rfl,rfl,rfl⟩⟩,⟨rfl,rfl,rfl,rfl,rfl,.inl ⟨rfl,rfl⟩⟩,trivial⟩
   ·skip
    obtain rfl:i=1:=hi0
    have hP:plP s a d 1=sm (plcT (s.ax[1]'hA) a d) (s.ax[1]'hA).length:=rfl
    have hcx:=hc (s.ax[1]) (List.getElem_mem hA)
    have hlx:=h6 (s.ax[1]) (List.getElem_mem hA)
    generalize s.ax[1]'hA=c at*
    repeat (first|(simp -implicitDefEqProofs only [go_sem,Nat.reduceAdd,Nat.reduceMul,Nat.reduceEqDiff,Nat.reduceLT,Nat.reduceLeDiff,Nat.reduceSub,reduceCtorEq,Int.reduceLT,hA',upV,upB])|(with_reducible exact Qaa _ _ (by kernel_rfl))|(with_reducible refine And.intro (Qaa _ _ (by kernel_rfl)) ?_))
    refine Qao mixed (fun k:{k:Nat // k≤c.length}=>St.of [(1,.int .i64 a),(2,.int .i64 d),(3,.bp 0 6 0 0),(6,.bp 1 3 0 0),(7,.bp 100 3 0 0),(8,.slc [Qan s.x,Qan s.y,Qan s.z]),(9,.int .i64 1),(10,.bp 601 2 0 0),(11,.int .i64 (k.1:Int))]
     ((0,{els:=[sgPV s],esz:=6,ety:=24,fro:=0,live:=true,arr:=false})::(1,{els:=[.agg [.nilS,.bool false,.nilS]],esz:=3,ety:=46,fro:=0,live:=true,arr:=false})::(601,{els:=[rI (sm (plcT c a d) k.1)],esz:=2,ety:=44,fro:=0,live:=true,arr:=false})::(100,{els:=[.agg [upV 1,.bool false,.nilS]],esz:=3,ety:=46,fro:=0,live:=true,arr:=false})::upB 44 (plP s a d) 1)) (fun k=>c.length-k.1) ⟨0,Nat.zero_le _⟩ ?_ ?_
    ·refine Le.trans (Qnw 601 rfl) (Qaj (θ:=[(0,0),(1,1),(601,601),(100,100),(8,8)]) rfl ?_ ?_)
     ·simp [Qad,lkp,ren1,ren0,Qam,Qan]
     ·simp only [upB,upV]
      refine⟨⟨rfl,rfl,rfl,rfl,rfl,.inr ⟨rfl,_,_,rfl,rfl,rfl,rfl⟩⟩,⟨rfl,rfl,rfl,rfl,rfl,.inr ⟨rfl,_,_,rfl,rfl,rfl,rfl⟩⟩,⟨rfl,rfl,rfl,rfl,rfl,.inr ⟨rfl,_,_,rfl,rfl,?_,rfl⟩⟩,⟨rfl,rfl,rfl,rfl,rfl,.inr ⟨rfl,_,_,rfl,rfl,rfl,rfl⟩⟩,?_⟩
      ·simp only [sm,rI_z];rfl
      ·exact⟨⟨rfl,rfl,rfl,rfl,rfl,.inl ⟨rfl,rfl⟩⟩,trivial⟩
    ·rintro⟨k,hk⟩
     by_cases hB:k<c.length
     ·have hB':=ltT hB
      have n0:=nnT k
      have hgk:=Qbx c k hB
      have hwk2:=Qah (a:=k) (by omega)
      have w5:IntKind.i64.wrap (5-(k:Int))=((5-k:Nat):Int):=by rw [Qai (by omega) (by omega)];omega
      obtain⟨k1,k2⟩:=hcx _ (List.getElem_mem hB)
      have hcb:bd 64 c:=fun x hx=>Qav (hcx x hx)
      have x1:=hcb _ (List.getElem_mem hB)
      have o1:=Qc1 c[k] k1 k2
      have q1:=Qen a k 64 ha (by omega) (by decide) ba
      have q2:=Qen d (5-k) 64 hd (by omega) (by decide) bd'
      obtain⟨t1,t2,t3,t4⟩:=Qh1 hcb ba bd' k (by omega)
      have mm1:=Qe3 (Qbc t1 (by decide)) (Qbc t2 (by decide))
      have eT:plcT c a d k=c[k]*(a^k*d^(5-k)):=by unfold plcT;rw [Qb1 hB]
      have mm2:=Qe3 (Qbc x1 (by decide)) (Qbc t3 (by decide))
      rw [←eT]at mm2
      have y1:=Qdx hcb ba bd' k (by omega)
      have es:sm (plcT c a d) (k+1)=sm (plcT c a d) k+plcT c a d k:=rfl
      have a1:=Qol (Qbc y1 (by decide)) (Qbc t4 (by decide))
      rw [←es]at a1
      clear y1 t1 t2 t3 t4 es eT hP
      generalize hX:sm (plcT c a d) (k+1)=X at*
      generalize sm (plcT c a d) k=Y at*
      generalize plcT c a d k=T at*
      generalize a^k*d^(5-k)=U at*
      generalize a^k=U1 at*
      generalize d^(5-k)=U2 at*
      repeat (first|(simp -implicitDefEqProofs only [go_sem,Nat.reduceAdd,Nat.reduceMul,Nat.reduceEqDiff,Nat.reduceLT,Nat.reduceLeDiff,reduceCtorEq,Int.reduceLE,Int.reduceToNat,rI,di,h0x,hx,hB',n0,hgk,hwk2,w5,upV,upB,Int.toNat_natCast,List.length_map])|((with_reducible refine Qab (o1) ?_ ?_ ?_);(with_reducible rfl);rfl)|((with_reducible refine Qab (q1) ?_ ?_ ?_);(with_reducible rfl);rfl)|((with_reducible refine Qab (q2) ?_ ?_ ?_);(with_reducible rfl);rfl)|((with_reducible refine Qab (mm1) ?_ ?_ ?_);(with_reducible rfl);rfl)|((with_reducible refine Qab (mm2) ?_ ?_ ?_);(with_reducible rfl);rfl)|((with_reducible refine Qab (a1) ?_ ?_ ?_);(with_reducible rfl);rfl)|(with_reducible exact Qaa _ _ (by kernel_rfl))|(with_reducible refine And.intro (Qaa _ _ (by kernel_rfl)) ?_))
      refine⟨⟨k+1,hB⟩,by simp only;omega,Qaj (θ:=[(0,0),(1,1),(601,601),(100,100),(8,8)]) rfl ?_ ?_⟩
      ·simp [Qad,lkp,ren1,ren0,Qam,Qan]
      ·simp only [hX]
       try simp only [upB,upV]
       refine⟨⟨rfl,rfl,rfl,rfl,rfl,.inr ⟨rfl,_,_,rfl,rfl,rfl,rfl⟩⟩,⟨rfl,rfl,rfl,rfl,rfl,.inr ⟨rfl,_,_,rfl,rfl,rfl,rfl⟩⟩,⟨rfl,rfl,rfl,rfl,rfl,.inr ⟨rfl,_,_,rfl,rfl,rfl,rfl⟩⟩,⟨rfl,rfl,rfl,rfl,rfl,.inr ⟨rfl,_,_,rfl,rfl,rfl,rfl⟩⟩,?_⟩
       exact⟨⟨rfl,rfl,rfl,rfl,rfl,.inl ⟨rfl,rfl⟩⟩,trivial⟩
     ·have hB':=ltF hB
      obtain rfl:k=c.length:=by omega
      rw [←hP]
      generalize hX:plP s a d 1=X at*
      repeat (first|(simp -implicitDefEqProofs only [go_sem,Nat.reduceAdd,Nat.reduceMul,Nat.reduceEqDiff,Nat.reduceLT,Nat.reduceLeDiff,reduceCtorEq,Nat.reduceBneDiff,Int.reduceLE,Int.reduceToNat,Int.reduceAdd,rI,di,h0x,hx,hB',upV,upB,List.length_map])|(with_reducible exact Qaa _ _ (by kernel_rfl))|(with_reducible refine And.intro (Qaa _ _ (by kernel_rfl)) ?_))
      refine⟨⟨1+1,hA⟩,by simp only;omega,Qaj (θ:=[(0,0),(1,1),(100,100),(8,1104)]) rfl ?_ ?_⟩
      ·simp [Qad,lkp,ren1,ren0,Qam,Qan]
      ·subst hX
       exact⟨⟨rfl,rfl,rfl,rfl,rfl,.inr ⟨rfl,_,_,rfl,rfl,rfl,rfl⟩⟩,⟨rfl,rfl,rfl,rfl,rfl,.inr ⟨rfl,_,_,rfl,rfl,rfl,rfl⟩⟩,⟨rfl,rfl,rfl,rfl,rfl,.inr ⟨rfl,_,_,rfl,rfl,rfl,rfl⟩⟩,⟨rfl,rfl,rfl,rfl,rfl,.inl ⟨rfl,rfl⟩⟩,trivial⟩
   ·skip
    obtain rfl:i=2:=hi0
    have hP:plP s a d 2=sm (plcT (s.ax[2]'hA) a d) (s.ax[2]'hA).length:=rfl
    have hcx:=hc (s.ax[2]) (List.getElem_mem hA)
    have hlx:=h6 (s.ax[2]) (List.getElem_mem hA)
    generalize s.ax[2]'hA=c at*
    repeat (first|(simp -implicitDefEqProofs only [go_sem,Nat.reduceAdd,Nat.reduceMul,Nat.reduceEqDiff,Nat.reduceLT,Nat.reduceLeDiff,Nat.reduceSub,reduceCtorEq,Int.reduceLT,hA',upV,upB])|(with_reducible exact Qaa _ _ (by kernel_rfl))|(with_reducible refine And.intro (Qaa _ _ (by kernel_rfl)) ?_))
    refine Qao mixed (fun k:{k:Nat // k≤c.length}=>St.of [(1,.int .i64 a),(2,.int .i64 d),(3,.bp 0 6 0 0),(6,.bp 1 3 0 0),(7,.bp 100 3 0 0),(8,.slc [Qan s.x,Qan s.y,Qan s.z]),(9,.int .i64 2),(10,.bp 601 2 0 0),(11,.int .i64 (k.1:Int))]
     ((0,{els:=[sgPV s],esz:=6,ety:=24,fro:=0,live:=true,arr:=false})::(1,{els:=[.agg [.nilS,.bool false,.nilS]],esz:=3,ety:=46,fro:=0,live:=true,arr:=false})::(601,{els:=[rI (sm (plcT c a d) k.1)],esz:=2,ety:=44,fro:=0,live:=true,arr:=false})::(100,{els:=[.agg [upV 2,.bool false,.nilS]],esz:=3,ety:=46,fro:=0,live:=true,arr:=false})::upB 44 (plP s a d) 2)) (fun k=>c.length-k.1) ⟨0,Nat.zero_le _⟩ ?_ ?_
    ·refine Le.trans (Qnw 601 rfl) (Qaj (θ:=[(0,0),(1,1),(601,601),(100,100),(8,8)]) rfl ?_ ?_)
     ·simp [Qad,lkp,ren1,ren0,Qam,Qan]
     ·simp only [upB,upV]
      refine⟨⟨rfl,rfl,rfl,rfl,rfl,.inr ⟨rfl,_,_,rfl,rfl,rfl,rfl⟩⟩,⟨rfl,rfl,rfl,rfl,rfl,.inr ⟨rfl,_,_,rfl,rfl,rfl,rfl⟩⟩,⟨rfl,rfl,rfl,rfl,rfl,.inr ⟨rfl,_,_,rfl,rfl,?_,rfl⟩⟩,⟨rfl,rfl,rfl,rfl,rfl,.inr ⟨rfl,_,_,rfl,rfl,rfl,rfl⟩⟩,?_⟩
      ·simp only [sm,rI_z];rfl
      ·exact⟨⟨rfl,rfl,rfl,rfl,rfl,.inl ⟨rfl,rfl⟩⟩,trivial⟩
    ·rintro⟨k,hk⟩
     by_cases hB:k<c.length
     ·have hB':=ltT hB
      have n0:=nnT k
      have hgk:=Qbx c k hB
      have hwk2:=Qah (a:=k) (by omega)
      have w5:IntKind.i64.wrap (5-(k:Int))=((5-k:Nat):Int):=by rw [Qai (by omega) (by omega)];omega
      obtain⟨k1,k2⟩:=hcx _ (List.getElem_mem hB)
      have hcb:bd 64 c:=fun x hx=>Qav (hcx x hx)
      have x1:=hcb _ (List.getElem_mem hB)
      have o1:=Qc1 c[k] k1 k2
      have q1:=Qen a k 64 ha (by omega) (by decide) ba
      have q2:=Qen d (5-k) 64 hd (by omega) (by decide) bd'
      obtain⟨t1,t2,t3,t4⟩:=Qh1 hcb ba bd' k (by omega)
      have mm1:=Qe3 (Qbc t1 (by decide)) (Qbc t2 (by decide))
      have eT:plcT c a d k=c[k]*(a^k*d^(5-k)):=by unfold plcT;rw [Qb1 hB]
      have mm2:=Qe3 (Qbc x1 (by decide)) (Qbc t3 (by decide))
      rw [←eT]at mm2
      have y1:=Qdx hcb ba bd' k (by omega)
      have es:sm (plcT c a d) (k+1)=sm (plcT c a d) k+plcT c a d k:=rfl
      have a1:=Qol (Qbc y1 (by decide)) (Qbc t4 (by decide))
      rw [←es]at a1
      clear y1 t1 t2 t3 t4 es eT hP
      generalize hX:sm (plcT c a d) (k+1)=X at*
      generalize sm (plcT c a d) k=Y at*
      generalize plcT c a d k=T at*
      generalize a^k*d^(5-k)=U at*
      generalize a^k=U1 at*
      generalize d^(5-k)=U2 at*
      repeat (first|(simp -implicitDefEqProofs only [go_sem,Nat.reduceAdd,Nat.reduceMul,Nat.reduceEqDiff,Nat.reduceLT,Nat.reduceLeDiff,reduceCtorEq,Int.reduceLE,Int.reduceToNat,rI,di,h0x,hx,hB',n0,hgk,hwk2,w5,upV,upB,Int.toNat_natCast,List.length_map])|((with_reducible refine Qab (o1) ?_ ?_ ?_);(with_reducible rfl);rfl)|((with_reducible refine Qab (q1) ?_ ?_ ?_);(with_reducible rfl);rfl)|((with_reducible refine Qab (q2) ?_ ?_ ?_);(with_reducible rfl);rfl)|((with_reducible refine Qab (mm1) ?_ ?_ ?_);(with_reducible rfl);rfl)|((with_reducible refine Qab (mm2) ?_ ?_ ?_);(with_reducible rfl);rfl)|((with_reducible refine Qab (a1) ?_ ?_ ?_);(with_reducible rfl);rfl)|(with_reducible exact Qaa _ _ (by kernel_rfl))|(with_reducible refine And.intro (Qaa _ _ (by kernel_rfl)) ?_))
      refine⟨⟨k+1,hB⟩,by simp only;omega,Qaj (θ:=[(0,0),(1,1),(601,601),(100,100),(8,8)]) rfl ?_ ?_⟩
      ·simp [Qad,lkp,ren1,ren0,Qam,Qan]
      ·simp only [hX]
       try simp only [upB,upV]
       refine⟨⟨rfl,rfl,rfl,rfl,rfl,.inr ⟨rfl,_,_,rfl,rfl,rfl,rfl⟩⟩,⟨rfl,rfl,rfl,rfl,rfl,.inr ⟨rfl,_,_,rfl,rfl,rfl,rfl⟩⟩,⟨rfl,rfl,rfl,rfl,rfl,.inr ⟨rfl,_,_,rfl,rfl,rfl,rfl⟩⟩,⟨rfl,rfl,rfl,rfl,rfl,.inr ⟨rfl,_,_,rfl,rfl,rfl,rfl⟩⟩,?_⟩
       exact⟨⟨rfl,rfl,rfl,rfl,rfl,.inl ⟨rfl,rfl⟩⟩,trivial⟩
     ·have hB':=ltF hB
      obtain rfl:k=c.length:=by omega
      rw [←hP]
      generalize hX:plP s a d 2=X at*
      repeat (first|(simp -implicitDefEqProofs only [go_sem,Nat.reduceAdd,Nat.reduceMul,Nat.reduceEqDiff,Nat.reduceLT,Nat.reduceLeDiff,reduceCtorEq,Nat.reduceBneDiff,Int.reduceLE,Int.reduceToNat,Int.reduceAdd,rI,di,h0x,hx,hB',upV,upB,List.length_map])|(with_reducible exact Qaa _ _ (by kernel_rfl))|(with_reducible refine And.intro (Qaa _ _ (by kernel_rfl)) ?_))
      refine⟨⟨2+1,hA⟩,by simp only;omega,Qaj (θ:=[(0,0),(1,1),(100,100),(8,1104)]) rfl ?_ ?_⟩
      ·simp [Qad,lkp,ren1,ren0,Qam,Qan]
      ·subst hX
       exact⟨⟨rfl,rfl,rfl,rfl,rfl,.inr ⟨rfl,_,_,rfl,rfl,rfl,rfl⟩⟩,⟨rfl,rfl,rfl,rfl,rfl,.inr ⟨rfl,_,_,rfl,rfl,rfl,rfl⟩⟩,⟨rfl,rfl,rfl,rfl,rfl,.inr ⟨rfl,_,_,rfl,rfl,rfl,rfl⟩⟩,⟨rfl,rfl,rfl,rfl,rfl,.inl ⟨rfl,rfl⟩⟩,trivial⟩
  ·have hA':((i:Int)<3)=False:=eq_false (by omega)
   obtain rfl:i=3:=by omega
   have e3:((List.range 3).map (plP s a d)).map rI=[rI (plP s a d 0),rI (plP s a d 1),rI (plP s a d 2)]:=rfl
   simp only [upV,upB,e3]
   generalize plP s a d 0=X0 at*
   generalize plP s a d 1=X1 at*
   generalize plP s a d 2=X2 at*
   repeat (first|(simp -implicitDefEqProofs only [go_sem,Nat.reduceAdd,Nat.reduceMul,Nat.reduceEqDiff,Nat.reduceLT,Nat.reduceLeDiff,Nat.reduceSub,reduceCtorEq,Int.reduceLT,Qec,rI,di,hA'])|((with_reducible refine Qab (w1) ?_ ?_ ?_);(with_reducible rfl);rfl)|((with_reducible refine Qab (p5) ?_ ?_ ?_);(with_reducible rfl);rfl)|((with_reducible refine Qab (m1) ?_ ?_ ?_);(with_reducible rfl);rfl)|((with_reducible refine Qab (hlow) ?_ ?_ ?_);(with_reducible rfl);rfl)|(with_reducible exact Qaa _ _ (by kernel_rfl))|(with_reducible refine And.intro (Qaa _ _ (by kernel_rfl)) ?_))
end Go.Proofs.YtlpiamlgibomhaaGreat

namespace Go.Dg
def plQ (s:Sg) (a d:Int) (i:Nat):Int:=plP s a d i/(plG s a d 3:Int)
def plO (s:Sg) (a d:Int):Int:=s.o*d^5/(plG s a d 3:Int)
def Qra (s:Sg) (a d:Int) (s':Sg) (a' d':Int):Bool:=decide (plQ s a d 0=plQ s' a' d' 0)&&(decide (plQ s a d 1=plQ s' a' d' 1)&&(decide (plQ s a d 2=plQ s' a' d' 2)&&decide (plO s a d=plO s' a' d')))
theorem Qth (s:Sg) (a d:Int) (s':Sg) (a' d':Int):Qra s a d s' a' d'=Qra s' a' d' s a d:=by
 unfold Qra
 rw [Bool.eq_iff_iff]
 simp only [Bool.and_eq_true,decide_eq_true_eq]
 constructor<;>(rintro⟨h1,h2,h3,h4⟩;exact⟨h1.symm,h2.symm,h3.symm,h4.symm⟩)
def Qeh (a b:Sg):Bool:=decide (a.t=b.f)&&Qra a 1 1 b 0 1
def sg0:Sg:=⟨0,0,0,[],[],[]⟩
def vpAt (p:List Sg) (j:Nat):Bool:=Qa2 (p.getD j sg0)&&(decide (j=0)||Qeh (p.getD (j-1) sg0) (p.getD j sg0))
def vpTo (p:List Sg) (i:Nat):Bool:=(List.range i).all (vpAt p)
def Qa5 (p:List Sg):Bool:=vpTo p p.length&&(decide (1≤p.length)&&decide (p.length≤256))
theorem Qih (p:List Sg) (i:Nat):vpTo p (i+1)=(vpTo p i&&vpAt p i):=by simp [vpTo,List.range_succ]
theorem Zhr {p:List Sg} {j m:Nat} (h:vpAt p j=false) (hm:j<m):vpTo p m=false:=by
 unfold vpTo
 rw [List.all_eq_false]
 exact⟨j,List.mem_range.2 hm,by simp [h]⟩
theorem Qfj {p:List Sg} {j:Nat} (h:vpAt p j=false) (hm:j<p.length):Qa5 p=false:=by unfold Qa5;rw [Zhr h hm];rfl
theorem sgD {p:List Sg} {i:Nat} (h:i<p.length):p.getD i sg0=p[i]:=by rw [List.getD_eq_getElem?_getD,List.getElem?_eq_getElem h];rfl
theorem Qjp {p:List Sg} {i j:Nat} (h:vpTo p i=true) (hj:j<i):Qa2 (p.getD j sg0)=true:=by
 have:=List.all_eq_true.1 h j (List.mem_range.2 hj)
 unfold vpAt at this
 simp only [Bool.and_eq_true]at this
 exact this.1
theorem Qa3 {s:Sg} (h:Qa2 s=true):(0≤s.f∧s.f<s.t∧s.t≤3600000∧1≤s.o∧s.o≤4294967296)∧(∀c∈s.ax,axOK c s.o=true)∧s.ax.foldl gcdL s.o.natAbs=1:=by
 unfold Qa2 rngS at h
 simp only [Bool.and_eq_true,decide_eq_true_eq,List.all_eq_true,beq_iff_eq]at h
 obtain⟨⟨h1,h2,h3,h4,h5⟩,h6,h7⟩:=h
 exact⟨⟨h1,h2,h3,h4,h5⟩,h6,h7⟩
theorem Qb7 {c:List Int} {o:Int} (h:axOK c o=true):1≤c.length∧c.length≤6∧(1<c.length→c.getD (c.length-1) 0≠0)∧Qc6 c o c.length=true:=by
 unfold axOK Qk0 at h
 simp only [Bool.and_eq_true,decide_eq_true_eq,Bool.or_eq_true,Bool.not_eq_true',beq_eq_false_iff_ne]at h
 obtain⟨⟨h1,h2,h3⟩,h4⟩:=h
 exact⟨h1,h2,fun h5=>h3.elim (fun h6=>by omega) id,h4⟩
theorem Qdc {s:Sg} (h:Qa2 s=true): ∀c∈s.ax,c.length≤6:=fun c hc=>(Qb7 ((Qa3 h).2.1 c hc)).2.1
theorem Qdy {s:Sg} (h:Qa2 s=true):1≤s.o:=(Qa3 h).1.2.2.2.1
end Go.Dg
