/-
  LM5, LM6, Dsh, LM7, Dsi, LM8, Dsj, LM9, LM10, LM11 (merged for the claim).
-/
import Derived.Test.YtjlkapdmgjocdaaGreatLM4
import Derived.Test.YtjlkapdmgjocdaaGreatDsg
import Derived.Test.YtjlkapdmgjocdaaGreatUY
set_option linter.unusedSimpArgs false
set_option linter.unusedVariables false
namespace Go.Proofs.YtjlkapdmgjocdaaGreat
open Go.Vl Go.RowKit Go.Dg
theorem Qps {m B:Nat} (h:m<2^B) (hk:B≤65000):m<2^65000:=Qic (C:=65000) h hk
def w3PV (x y z:Int):PV:= .agg [.bool (decide (x<0)),.str (mB x),.bool (decide (y<0)),.str (mB y),.bool (decide (z<0)),.str (mB z)]
def Qad (x y z o:Int):PV:= .agg [.bool (decide (x<0)),.str (mB x),.bool (decide (y<0)),.str (mB y),.bool (decide (z<0)),.str (mB z),.bool (decide (o<0)),.str (mB o)]
theorem nc0:((0:Nat):Int)=0:=rfl
theorem nc1:((1:Nat):Int)=1:=rfl
theorem nc2:((2:Nat):Int)=2:=rfl
theorem nc3:((3:Nat):Int)=3:=rfl
theorem wr1:IntKind.i64.wrap 1=1:=rfl
theorem wr2:IntKind.i64.wrap 2=2:=rfl
theorem wr3:IntKind.i64.wrap 3=3:=rfl
attribute [go_sem] w3PV Qad nc0 nc1 nc2 nc3 wr1 wr2 wr3
theorem mB_0:mB 0=⟨#[]⟩:=by unfold mB;rw [(Qrp 0).2 rfl]
def sel (P:Nat→Int) (i m:Nat) (X:Int):Int:=if m=i then X else at3 P i m
def plV (s:Sg) (a d:Int):PV:=Qad (plP s a d 0/(plG s a d 3:Int)) (plP s a d 1/(plG s a d 3:Int)) (plP s a d 2/(plG s a d 3:Int)) (s.o*d^5/(plG s a d 3:Int))
set_option maxHeartbeats 2000000 in
theorem Qrk (s:Sg) (a d:Int) (hs:okSg s) (h6: ∀c∈s.ax,c.length≤6) (ho:1≤s.o) (ha:i64 a) (hd:i64 d) (hd1:1≤d):
  Qaf Tryz.prog 69 [sgPV s,.int .i64 a,.int .i64 d] (plV s a d):=by
 obtain⟨⟨a1,a2⟩,⟨a3,a4⟩,⟨a5,a6⟩,hc,hl⟩:=hs;have ba:=Qbh ha;have bd':=Qbh hd;have bo:=Qbh ⟨a5,a6⟩;have w1:=Qfi s.o a5 a6;have p5:=Qdl d 5 64 hd.1 hd.2 (by decide) (by decide) bd';have bd5:=Qtp bd' 5;have bod:=Znh (s:=s) bo bd';have m1:=Qgv (Qap bo (by decide)) (Qap bd5 (by decide)) (Qap bod (by decide));have hax:=Q6p s;have hG0:(plG s a d 0:Int)=s.o*d^5:=by
  have h:0<s.o*d^5:=Int.mul_pos (by omega) (Int.pow_pos (by omega));show(((s.o*d^5).natAbs:Nat):Int)=_;omega
 have hcB: ∀c∈s.ax,bd 64 c:=fun c hx x hx2=>Qbh (hc c hx x hx2);have bP:=Q42 hcB h6 ba bd';have bG:=Zum hcB h6 bo ba bd';generalize hO:s.o*d^5=O at*;have hsg:sgPV s= .agg [.int .i64 s.f,.int .i64 s.t,.int .i64 s.o,.slc (s.x.map (PV.int .i64)),.slc (s.y.map (PV.int .i64)),.slc (s.z.map (PV.int .i64))]:=rfl;rw [hsg]at hax ⊢;refine Qab (tb:=[]) 74 [.cell 6 95] [0,1,2,3,6,7,8,9,10,11,12,13,22,23,24,27,28,29,30] mixed Tryz.func69 rfl (by kernel_rfl) (by kernel_rfl) (by kernel_rfl) (by kernel_rfl) ?_;repeat (first|(simp -implicitDefEqProofs only [go_sem,Nat.reduceAdd,Nat.reduceMul,Nat.reduceEqDiff,Nat.reduceLT,Nat.reduceLeDiff,reduceCtorEq,wPV])|((with_reducible refine Qaa w1 ?_ ?_ ?_);rfl;rfl)|((with_reducible refine Qaa p5 ?_ ?_ ?_);rfl;rfl)|((with_reducible refine Qaa m1 ?_ ?_ ?_);rfl;rfl)|((with_reducible refine Qaa hax ?_ ?_ ?_);rfl;rfl))
 refine Qar mixed (fun i:{i:Nat // i≤3}=>St.of [(1,.int .i64 a),(2,.int .i64 d),(6,.bp 1 8 0 0),(7,.bp 100 6 0 0),(8,.bp 206 2 0 0),(9,.bp 301 2 0 0),(22,.agg [Qa8 s.x,Qa8 s.y,Qa8 s.z]),(23,.int .i64 (i.1:Int))]
  [(1,{els:=[.agg [.bool false,.str ⟨#[]⟩,.bool false,.str ⟨#[]⟩,.bool false,.str ⟨#[]⟩,.bool false,.str ⟨#[]⟩]],esz:=8,ety:=95,fro:=0,live:=true,arr:=false}),(100,{els:=[w3PV (at3 (plP s a d) i.1 0) (at3 (plP s a d) i.1 1) (at3 (plP s a d) i.1 2)],esz:=6,ety:=99,fro:=0,live:=true,arr:=false}),(206,{els:=[wPV O],esz:=2,ety:=93,fro:=0,live:=true,arr:=false}),(301,{els:=[wPV ((plG s a d i.1:Nat):Int)],esz:=2,ety:=93,fro:=0,live:=true,arr:=false})]) (fun i=>3-i.1) ⟨0,Nat.zero_le _⟩ ?_ ?_
 ·refine Qaj (θ:=[(1,1),(100,100),(206,206),(301,301)]) rfl ?_ ?_
  ·simp [Qac,lkp,ren1,ren0,Qai,Qa8]
  ·refine⟨⟨rfl,rfl,rfl,rfl,rfl,.inr ⟨rfl,_,_,rfl,rfl,rfl,rfl⟩⟩,⟨rfl,rfl,rfl,rfl,rfl,.inr ⟨rfl,_,_,rfl,rfl,?_,rfl⟩⟩,⟨rfl,rfl,rfl,rfl,rfl,.inr ⟨rfl,_,_,rfl,rfl,rfl,rfl⟩⟩,⟨rfl,rfl,rfl,rfl,rfl,.inr ⟨rfl,_,_,rfl,rfl,?_,rfl⟩⟩,trivial⟩
   ·simp only [at3,Nat.not_lt_zero,if_false,w3PV,mB_0];rfl
   ·simp only [hG0];rfl
 ·rintro⟨i,hi⟩;by_cases hA:i<3
  ·have hA':((i:Int)<3)=True:=eq_true (by omega);have hA2:=ltT hA;have h0:=nnT i;have hx:=Qv5 s i hA;have hwk:=Qan (a:=i) (by omega);rcases(show i=0∨i=1∨i=2 by omega)with hi0|hi0|hi0
   ·skip
    obtain rfl:i=0:=hi0;have hm:s.ax.getD 0 []=s.ax[0]'hA:=rfl;have hP:plP s a d 0=sm (plcT (s.ax[0]'hA) a d) (s.ax[0]'hA).length:=rfl;have hcx:=hc (s.ax[0]) (List.getElem_mem hA);have hlx:=h6 (s.ax[0]) (List.getElem_mem hA);have bPi:=bP 0 (by omega);have bGi:=bG 0 (by omega);have hGs:=Qdi s a d 0;generalize s.ax[0]'hA=c at*;repeat (first|(simp -implicitDefEqProofs only [go_sem,Nat.reduceAdd,Nat.reduceMul,Nat.reduceEqDiff,Nat.reduceLT,Nat.reduceLeDiff,Nat.reduceSub,reduceCtorEq,Int.reduceLT,hx,List.length_map,at3]))
    refine Qar mixed (fun k:{k:Nat // k≤c.length}=>St.of [(1,.int .i64 a),(2,.int .i64 d),(6,.bp 1 8 0 0),(7,.bp 100 6 0 0),(8,.bp 206 2 0 0),(9,.bp 301 2 0 0),(22,.agg [Qa8 s.x,Qa8 s.y,Qa8 s.z]),(23,.int .i64 0),(10,.int .i64 0),(27,Qa8 c),(28,.int .i64 (c.length:Int)),(29,.int .i64 (k.1:Int))]
     [(1,{els:=[.agg [.bool false,.str ⟨#[]⟩,.bool false,.str ⟨#[]⟩,.bool false,.str ⟨#[]⟩,.bool false,.str ⟨#[]⟩]],esz:=8,ety:=95,fro:=0,live:=true,arr:=false}),(100,{els:=[w3PV (sel (plP s a d) 0 0 (sm (plcT c a d) k.1)) (sel (plP s a d) 0 1 (sm (plcT c a d) k.1)) (sel (plP s a d) 0 2 (sm (plcT c a d) k.1))],esz:=6,ety:=99,fro:=0,live:=true,arr:=false}),(206,{els:=[wPV O],esz:=2,ety:=93,fro:=0,live:=true,arr:=false}),(301,{els:=[wPV ((plG s a d 0:Nat):Int)],esz:=2,ety:=93,fro:=0,live:=true,arr:=false})]) (fun k=>c.length-k.1) ⟨0,Nat.zero_le _⟩ ?_ ?_
    ·refine Qaj (θ:=[(1,1),(100,100),(206,206),(301,301)]) rfl ?_ ?_
     ·simp [Qac,lkp,ren1,ren0,Qai,Qa8]
     ·refine⟨⟨rfl,rfl,rfl,rfl,rfl,.inr ⟨rfl,_,_,rfl,rfl,rfl,rfl⟩⟩,⟨rfl,rfl,rfl,rfl,rfl,.inr ⟨rfl,_,_,rfl,rfl,?_,rfl⟩⟩,⟨rfl,rfl,rfl,rfl,rfl,.inr ⟨rfl,_,_,rfl,rfl,rfl,rfl⟩⟩,⟨rfl,rfl,rfl,rfl,rfl,.inr ⟨rfl,_,_,rfl,rfl,rfl,rfl⟩⟩,trivial⟩;simp only [sel,at3,sm];rfl
    ·rintro⟨k,hk⟩;by_cases hB:k<c.length
     ·have hB':=ltT hB;have n0:=nnT k;have hgk:=Qfc c k hB;have hwk2:=Qan (a:=k) (by omega);have w5:IntKind.i64.wrap (5-(k:Int))=((5-k:Nat):Int):=by rw [Qag (by omega) (by omega)];omega
      obtain⟨k1,k2⟩:=hcx _ (List.getElem_mem hB);have hcb:bd 64 c:=fun x hx=>Qbh (hcx x hx);have x1:=hcb _ (List.getElem_mem hB);have o1:=Qfi c[k] k1 k2;have q1:=Qdl a k 64 ha.1 ha.2 (by omega) (by decide) ba;have q2:=Qdl d (5-k) 64 hd.1 hd.2 (by omega) (by decide) bd';obtain⟨t1,t2,t3,t4⟩:=Qq1 hcb ba bd' k (by omega);have mm1:=Qgv (Qap t1 (by decide)) (Qap t2 (by decide)) (Qap t3 (by decide));have eT:plcT c a d k=c[k]*(a^k*d^(5-k)):=by unfold plcT;rw [Qec hB]
      rw [eT]at t4;have mm2:=Qgv (Qap x1 (by decide)) (Qap t3 (by decide)) (Qap t4 (by decide));rw [←eT]at mm2 t4;have y1:=Qfy hcb ba bd' k (by omega);have y2:=Qfy hcb ba bd' (k+1) (by omega);have es:sm (plcT c a d) (k+1)=sm (plcT c a d) k+plcT c a d k:=rfl;rw [es]at y2;have a1:=Qgu (Qap y1 (by decide)) (Qap t4 (by decide)) (Qap y2 (by decide));rw [←es]at a1;clear y1 y2 t1 t2 t3 t4 es eT hP;generalize hX:sm (plcT c a d) (k+1)=X at*;generalize sm (plcT c a d) k=Y at*;generalize plcT c a d k=T at*;generalize a^k*d^(5-k)=U at*;generalize a^k=U1 at*;generalize d^(5-k)=U2 at*;repeat (first|(simp -implicitDefEqProofs only [go_sem,Nat.reduceAdd,Nat.reduceMul,Nat.reduceEqDiff,Nat.reduceLT,Nat.reduceLeDiff,reduceCtorEq,Int.reduceLT,wPV,hB',n0,hgk,hwk2,w5,sel,at3,Int.toNat_natCast])|((with_reducible refine Qaa o1 ?_ ?_ ?_);rfl;rfl)|((with_reducible refine Qaa q1 ?_ ?_ ?_);rfl;rfl)|((with_reducible refine Qaa q2 ?_ ?_ ?_);rfl;rfl)|((with_reducible refine Qaa mm1 ?_ ?_ ?_);rfl;rfl)|((with_reducible refine Qaa mm2 ?_ ?_ ?_);rfl;rfl)|((with_reducible refine Qaa a1 ?_ ?_ ?_);rfl;rfl)|(with_reducible refine And.intro (Qae _ _ (by kernel_rfl)) ?_))
      refine⟨⟨k+1,hB⟩,by simp only;omega,Qaj (θ:=[(1,1),(100,100),(206,206),(301,301)]) rfl ?_ ?_⟩
      ·simp [Qac,lkp,ren1,ren0,Qai,Qa8]
      ·simp only [hX];exact⟨⟨rfl,rfl,rfl,rfl,rfl,.inr ⟨rfl,_,_,rfl,rfl,rfl,rfl⟩⟩,⟨rfl,rfl,rfl,rfl,rfl,.inr ⟨rfl,_,_,rfl,rfl,rfl,rfl⟩⟩,⟨rfl,rfl,rfl,rfl,rfl,.inr ⟨rfl,_,_,rfl,rfl,rfl,rfl⟩⟩,⟨rfl,rfl,rfl,rfl,rfl,.inr ⟨rfl,_,_,rfl,rfl,rfl,rfl⟩⟩,trivial⟩
     ·have hB':=ltF hB;obtain rfl:k=c.length:=by omega
      have gg:=Qpr (Qap bGi (by decide)) (Qap bPi (by decide));rw [Int.natAbs_natCast,←hGs]at gg;rw [hP]at gg;generalize hX:sm (plcT c a d) c.length=X at*;repeat (first|(simp -implicitDefEqProofs only [go_sem,Nat.reduceAdd,Nat.reduceMul,Nat.reduceEqDiff,Nat.reduceLT,Nat.reduceLeDiff,reduceCtorEq,Int.reduceLT,Int.reduceAdd,wPV,hB',sel,at3])|((with_reducible refine Qaa gg ?_ ?_ ?_);rfl;rfl)|(with_reducible refine And.intro (Qae _ _ (by kernel_rfl)) ?_))
      refine⟨⟨0+1,hA⟩,by simp only;omega,Qaj (θ:=[(1,1),(100,100),(206,206),(301,301)]) rfl ?_ ?_⟩
      ·simp [Qac,lkp,ren1,ren0,Qai,Qa8]
      ·simp only [at3,hP,hX];exact⟨⟨rfl,rfl,rfl,rfl,rfl,.inr ⟨rfl,_,_,rfl,rfl,rfl,rfl⟩⟩,⟨rfl,rfl,rfl,rfl,rfl,.inr ⟨rfl,_,_,rfl,rfl,rfl,rfl⟩⟩,⟨rfl,rfl,rfl,rfl,rfl,.inr ⟨rfl,_,_,rfl,rfl,rfl,rfl⟩⟩,⟨rfl,rfl,rfl,rfl,rfl,.inr ⟨rfl,_,_,rfl,rfl,rfl,rfl⟩⟩,trivial⟩
   ·skip
    obtain rfl:i=1:=hi0;have hm:s.ax.getD 1 []=s.ax[1]'hA:=rfl;have hP:plP s a d 1=sm (plcT (s.ax[1]'hA) a d) (s.ax[1]'hA).length:=rfl;have hcx:=hc (s.ax[1]) (List.getElem_mem hA);have hlx:=h6 (s.ax[1]) (List.getElem_mem hA);have bPi:=bP 1 (by omega);have bGi:=bG 1 (by omega);have hGs:=Qdi s a d 1;generalize s.ax[1]'hA=c at*;repeat (first|(simp -implicitDefEqProofs only [go_sem,Nat.reduceAdd,Nat.reduceMul,Nat.reduceEqDiff,Nat.reduceLT,Nat.reduceLeDiff,Nat.reduceSub,reduceCtorEq,Int.reduceLE,Int.reduceLT,Int.reduceToNat,hx,List.length_map,at3]))
    refine Qar mixed (fun k:{k:Nat // k≤c.length}=>St.of [(1,.int .i64 a),(2,.int .i64 d),(6,.bp 1 8 0 0),(7,.bp 100 6 0 0),(8,.bp 206 2 0 0),(9,.bp 301 2 0 0),(22,.agg [Qa8 s.x,Qa8 s.y,Qa8 s.z]),(23,.int .i64 1),(10,.int .i64 1),(27,Qa8 c),(28,.int .i64 (c.length:Int)),(29,.int .i64 (k.1:Int))]
     [(1,{els:=[.agg [.bool false,.str ⟨#[]⟩,.bool false,.str ⟨#[]⟩,.bool false,.str ⟨#[]⟩,.bool false,.str ⟨#[]⟩]],esz:=8,ety:=95,fro:=0,live:=true,arr:=false}),(100,{els:=[w3PV (sel (plP s a d) 1 0 (sm (plcT c a d) k.1)) (sel (plP s a d) 1 1 (sm (plcT c a d) k.1)) (sel (plP s a d) 1 2 (sm (plcT c a d) k.1))],esz:=6,ety:=99,fro:=0,live:=true,arr:=false}),(206,{els:=[wPV O],esz:=2,ety:=93,fro:=0,live:=true,arr:=false}),(301,{els:=[wPV ((plG s a d 1:Nat):Int)],esz:=2,ety:=93,fro:=0,live:=true,arr:=false})]) (fun k=>c.length-k.1) ⟨0,Nat.zero_le _⟩ ?_ ?_
    ·refine Qaj (θ:=[(1,1),(100,100),(206,206),(301,301)]) rfl ?_ ?_
     ·simp [Qac,lkp,ren1,ren0,Qai,Qa8]
     ·refine⟨⟨rfl,rfl,rfl,rfl,rfl,.inr ⟨rfl,_,_,rfl,rfl,rfl,rfl⟩⟩,⟨rfl,rfl,rfl,rfl,rfl,.inr ⟨rfl,_,_,rfl,rfl,?_,rfl⟩⟩,⟨rfl,rfl,rfl,rfl,rfl,.inr ⟨rfl,_,_,rfl,rfl,rfl,rfl⟩⟩,⟨rfl,rfl,rfl,rfl,rfl,.inr ⟨rfl,_,_,rfl,rfl,rfl,rfl⟩⟩,trivial⟩;simp only [sel,at3,sm];rfl
    ·rintro⟨k,hk⟩;by_cases hB:k<c.length
     ·have hB':=ltT hB;have n0:=nnT k;have hgk:=Qfc c k hB;have hwk2:=Qan (a:=k) (by omega);have w5:IntKind.i64.wrap (5-(k:Int))=((5-k:Nat):Int):=by rw [Qag (by omega) (by omega)];omega
      obtain⟨k1,k2⟩:=hcx _ (List.getElem_mem hB);have hcb:bd 64 c:=fun x hx=>Qbh (hcx x hx);have x1:=hcb _ (List.getElem_mem hB);have o1:=Qfi c[k] k1 k2;have q1:=Qdl a k 64 ha.1 ha.2 (by omega) (by decide) ba;have q2:=Qdl d (5-k) 64 hd.1 hd.2 (by omega) (by decide) bd';obtain⟨t1,t2,t3,t4⟩:=Qq1 hcb ba bd' k (by omega);have mm1:=Qgv (Qap t1 (by decide)) (Qap t2 (by decide)) (Qap t3 (by decide));have eT:plcT c a d k=c[k]*(a^k*d^(5-k)):=by unfold plcT;rw [Qec hB]
      rw [eT]at t4;have mm2:=Qgv (Qap x1 (by decide)) (Qap t3 (by decide)) (Qap t4 (by decide));rw [←eT]at mm2 t4;have y1:=Qfy hcb ba bd' k (by omega);have y2:=Qfy hcb ba bd' (k+1) (by omega);have es:sm (plcT c a d) (k+1)=sm (plcT c a d) k+plcT c a d k:=rfl;rw [es]at y2;have a1:=Qgu (Qap y1 (by decide)) (Qap t4 (by decide)) (Qap y2 (by decide));rw [←es]at a1;clear y1 y2 t1 t2 t3 t4 es eT hP;generalize hX:sm (plcT c a d) (k+1)=X at*;generalize sm (plcT c a d) k=Y at*;generalize plcT c a d k=T at*;generalize a^k*d^(5-k)=U at*;generalize a^k=U1 at*;generalize d^(5-k)=U2 at*;repeat (first|(simp -implicitDefEqProofs only [go_sem,Nat.reduceAdd,Nat.reduceMul,Nat.reduceEqDiff,Nat.reduceLT,Nat.reduceLeDiff,reduceCtorEq,Int.reduceLE,Int.reduceLT,Int.reduceToNat,wPV,hB',n0,hgk,hwk2,w5,sel,at3,Int.toNat_natCast])|((with_reducible refine Qaa o1 ?_ ?_ ?_);rfl;rfl)|((with_reducible refine Qaa q1 ?_ ?_ ?_);rfl;rfl)|((with_reducible refine Qaa q2 ?_ ?_ ?_);rfl;rfl)|((with_reducible refine Qaa mm1 ?_ ?_ ?_);rfl;rfl)|((with_reducible refine Qaa mm2 ?_ ?_ ?_);rfl;rfl)|((with_reducible refine Qaa a1 ?_ ?_ ?_);rfl;rfl)|(with_reducible refine And.intro (Qae _ _ (by kernel_rfl)) ?_))
      refine⟨⟨k+1,hB⟩,by simp only;omega,Qaj (θ:=[(1,1),(100,100),(206,206),(301,301)]) rfl ?_ ?_⟩
      ·simp [Qac,lkp,ren1,ren0,Qai,Qa8]
      ·simp only [hX];exact⟨⟨rfl,rfl,rfl,rfl,rfl,.inr ⟨rfl,_,_,rfl,rfl,rfl,rfl⟩⟩,⟨rfl,rfl,rfl,rfl,rfl,.inr ⟨rfl,_,_,rfl,rfl,rfl,rfl⟩⟩,⟨rfl,rfl,rfl,rfl,rfl,.inr ⟨rfl,_,_,rfl,rfl,rfl,rfl⟩⟩,⟨rfl,rfl,rfl,rfl,rfl,.inr ⟨rfl,_,_,rfl,rfl,rfl,rfl⟩⟩,trivial⟩
     ·have hB':=ltF hB;obtain rfl:k=c.length:=by omega
      have gg:=Qpr (Qap bGi (by decide)) (Qap bPi (by decide));rw [Int.natAbs_natCast,←hGs]at gg;rw [hP]at gg;generalize hX:sm (plcT c a d) c.length=X at*;repeat (first|(simp -implicitDefEqProofs only [go_sem,Nat.reduceAdd,Nat.reduceMul,Nat.reduceEqDiff,Nat.reduceLT,Nat.reduceLeDiff,reduceCtorEq,Int.reduceLE,Int.reduceLT,Int.reduceToNat,Int.reduceAdd,wPV,hB',sel,at3])|((with_reducible refine Qaa gg ?_ ?_ ?_);rfl;rfl)|(with_reducible refine And.intro (Qae _ _ (by kernel_rfl)) ?_))
      refine⟨⟨1+1,hA⟩,by simp only;omega,Qaj (θ:=[(1,1),(100,100),(206,206),(301,301)]) rfl ?_ ?_⟩
      ·simp [Qac,lkp,ren1,ren0,Qai,Qa8]
      ·simp only [at3,hP,hX];exact⟨⟨rfl,rfl,rfl,rfl,rfl,.inr ⟨rfl,_,_,rfl,rfl,rfl,rfl⟩⟩,⟨rfl,rfl,rfl,rfl,rfl,.inr ⟨rfl,_,_,rfl,rfl,rfl,rfl⟩⟩,⟨rfl,rfl,rfl,rfl,rfl,.inr ⟨rfl,_,_,rfl,rfl,rfl,rfl⟩⟩,⟨rfl,rfl,rfl,rfl,rfl,.inr ⟨rfl,_,_,rfl,rfl,rfl,rfl⟩⟩,trivial⟩
   ·skip
    obtain rfl:i=2:=hi0;have hm:s.ax.getD 2 []=s.ax[2]'hA:=rfl;have hP:plP s a d 2=sm (plcT (s.ax[2]'hA) a d) (s.ax[2]'hA).length:=rfl;have hcx:=hc (s.ax[2]) (List.getElem_mem hA);have hlx:=h6 (s.ax[2]) (List.getElem_mem hA);have bPi:=bP 2 (by omega);have bGi:=bG 2 (by omega);have hGs:=Qdi s a d 2;generalize s.ax[2]'hA=c at*;repeat (first|(simp -implicitDefEqProofs only [go_sem,Nat.reduceAdd,Nat.reduceMul,Nat.reduceEqDiff,Nat.reduceLT,Nat.reduceLeDiff,Nat.reduceSub,reduceCtorEq,Int.reduceLE,Int.reduceLT,Int.reduceToNat,hx,List.length_map,at3]))
    refine Qar mixed (fun k:{k:Nat // k≤c.length}=>St.of [(1,.int .i64 a),(2,.int .i64 d),(6,.bp 1 8 0 0),(7,.bp 100 6 0 0),(8,.bp 206 2 0 0),(9,.bp 301 2 0 0),(22,.agg [Qa8 s.x,Qa8 s.y,Qa8 s.z]),(23,.int .i64 2),(10,.int .i64 2),(27,Qa8 c),(28,.int .i64 (c.length:Int)),(29,.int .i64 (k.1:Int))]
     [(1,{els:=[.agg [.bool false,.str ⟨#[]⟩,.bool false,.str ⟨#[]⟩,.bool false,.str ⟨#[]⟩,.bool false,.str ⟨#[]⟩]],esz:=8,ety:=95,fro:=0,live:=true,arr:=false}),(100,{els:=[w3PV (sel (plP s a d) 2 0 (sm (plcT c a d) k.1)) (sel (plP s a d) 2 1 (sm (plcT c a d) k.1)) (sel (plP s a d) 2 2 (sm (plcT c a d) k.1))],esz:=6,ety:=99,fro:=0,live:=true,arr:=false}),(206,{els:=[wPV O],esz:=2,ety:=93,fro:=0,live:=true,arr:=false}),(301,{els:=[wPV ((plG s a d 2:Nat):Int)],esz:=2,ety:=93,fro:=0,live:=true,arr:=false})]) (fun k=>c.length-k.1) ⟨0,Nat.zero_le _⟩ ?_ ?_
    ·refine Qaj (θ:=[(1,1),(100,100),(206,206),(301,301)]) rfl ?_ ?_
     ·simp [Qac,lkp,ren1,ren0,Qai,Qa8]
     ·refine⟨⟨rfl,rfl,rfl,rfl,rfl,.inr ⟨rfl,_,_,rfl,rfl,rfl,rfl⟩⟩,⟨rfl,rfl,rfl,rfl,rfl,.inr ⟨rfl,_,_,rfl,rfl,?_,rfl⟩⟩,⟨rfl,rfl,rfl,rfl,rfl,.inr ⟨rfl,_,_,rfl,rfl,rfl,rfl⟩⟩,⟨rfl,rfl,rfl,rfl,rfl,.inr ⟨rfl,_,_,rfl,rfl,rfl,rfl⟩⟩,trivial⟩;simp only [sel,at3,sm];rfl
    ·rintro⟨k,hk⟩;by_cases hB:k<c.length
     ·have hB':=ltT hB;have n0:=nnT k;have hgk:=Qfc c k hB;have hwk2:=Qan (a:=k) (by omega);have w5:IntKind.i64.wrap (5-(k:Int))=((5-k:Nat):Int):=by rw [Qag (by omega) (by omega)];omega
      obtain⟨k1,k2⟩:=hcx _ (List.getElem_mem hB);have hcb:bd 64 c:=fun x hx=>Qbh (hcx x hx);have x1:=hcb _ (List.getElem_mem hB);have o1:=Qfi c[k] k1 k2;have q1:=Qdl a k 64 ha.1 ha.2 (by omega) (by decide) ba;have q2:=Qdl d (5-k) 64 hd.1 hd.2 (by omega) (by decide) bd';obtain⟨t1,t2,t3,t4⟩:=Qq1 hcb ba bd' k (by omega);have mm1:=Qgv (Qap t1 (by decide)) (Qap t2 (by decide)) (Qap t3 (by decide));have eT:plcT c a d k=c[k]*(a^k*d^(5-k)):=by unfold plcT;rw [Qec hB]
      rw [eT]at t4;have mm2:=Qgv (Qap x1 (by decide)) (Qap t3 (by decide)) (Qap t4 (by decide));rw [←eT]at mm2 t4;have y1:=Qfy hcb ba bd' k (by omega);have y2:=Qfy hcb ba bd' (k+1) (by omega);have es:sm (plcT c a d) (k+1)=sm (plcT c a d) k+plcT c a d k:=rfl;rw [es]at y2;have a1:=Qgu (Qap y1 (by decide)) (Qap t4 (by decide)) (Qap y2 (by decide));rw [←es]at a1;clear y1 y2 t1 t2 t3 t4 es eT hP;generalize hX:sm (plcT c a d) (k+1)=X at*;generalize sm (plcT c a d) k=Y at*;generalize plcT c a d k=T at*;generalize a^k*d^(5-k)=U at*;generalize a^k=U1 at*;generalize d^(5-k)=U2 at*;repeat (first|(simp -implicitDefEqProofs only [go_sem,Nat.reduceAdd,Nat.reduceMul,Nat.reduceEqDiff,Nat.reduceLT,Nat.reduceLeDiff,reduceCtorEq,Int.reduceLE,Int.reduceLT,Int.reduceToNat,wPV,hB',n0,hgk,hwk2,w5,sel,at3,Int.toNat_natCast])|((with_reducible refine Qaa o1 ?_ ?_ ?_);rfl;rfl)|((with_reducible refine Qaa q1 ?_ ?_ ?_);rfl;rfl)|((with_reducible refine Qaa q2 ?_ ?_ ?_);rfl;rfl)|((with_reducible refine Qaa mm1 ?_ ?_ ?_);rfl;rfl)|((with_reducible refine Qaa mm2 ?_ ?_ ?_);rfl;rfl)|((with_reducible refine Qaa a1 ?_ ?_ ?_);rfl;rfl)|(with_reducible refine And.intro (Qae _ _ (by kernel_rfl)) ?_))
      refine⟨⟨k+1,hB⟩,by simp only;omega,Qaj (θ:=[(1,1),(100,100),(206,206),(301,301)]) rfl ?_ ?_⟩
      ·simp [Qac,lkp,ren1,ren0,Qai,Qa8]
      ·simp only [hX];exact⟨⟨rfl,rfl,rfl,rfl,rfl,.inr ⟨rfl,_,_,rfl,rfl,rfl,rfl⟩⟩,⟨rfl,rfl,rfl,rfl,rfl,.inr ⟨rfl,_,_,rfl,rfl,rfl,rfl⟩⟩,⟨rfl,rfl,rfl,rfl,rfl,.inr ⟨rfl,_,_,rfl,rfl,rfl,rfl⟩⟩,⟨rfl,rfl,rfl,rfl,rfl,.inr ⟨rfl,_,_,rfl,rfl,rfl,rfl⟩⟩,trivial⟩
     ·have hB':=ltF hB;obtain rfl:k=c.length:=by omega
      have gg:=Qpr (Qap bGi (by decide)) (Qap bPi (by decide));rw [Int.natAbs_natCast,←hGs]at gg;rw [hP]at gg;generalize hX:sm (plcT c a d) c.length=X at*;repeat (first|(simp -implicitDefEqProofs only [go_sem,Nat.reduceAdd,Nat.reduceMul,Nat.reduceEqDiff,Nat.reduceLT,Nat.reduceLeDiff,reduceCtorEq,Int.reduceLE,Int.reduceLT,Int.reduceToNat,Int.reduceAdd,wPV,hB',sel,at3])|((with_reducible refine Qaa gg ?_ ?_ ?_);rfl;rfl)|(with_reducible refine And.intro (Qae _ _ (by kernel_rfl)) ?_))
      refine⟨⟨2+1,hA⟩,by simp only;omega,Qaj (θ:=[(1,1),(100,100),(206,206),(301,301)]) rfl ?_ ?_⟩
      ·simp [Qac,lkp,ren1,ren0,Qai,Qa8]
      ·simp only [at3,hP,hX];exact⟨⟨rfl,rfl,rfl,rfl,rfl,.inr ⟨rfl,_,_,rfl,rfl,rfl,rfl⟩⟩,⟨rfl,rfl,rfl,rfl,rfl,.inr ⟨rfl,_,_,rfl,rfl,rfl,rfl⟩⟩,⟨rfl,rfl,rfl,rfl,rfl,.inr ⟨rfl,_,_,rfl,rfl,rfl,rfl⟩⟩,⟨rfl,rfl,rfl,rfl,rfl,.inr ⟨rfl,_,_,rfl,rfl,rfl,rfl⟩⟩,trivial⟩
  ·have hA':((i:Int)<3)=False:=eq_false (by omega);obtain rfl:i=3:=by omega
   have G0:=Qvx ho hd1 3 (s:=s) (d:=d) (a:=a);have bG3:=Qps (bG 3 (by decide)) (by decide);have r0:=Qi9 (bP 0 (by decide)) (by decide) bG3 (by omega);have r1:=Qi9 (bP 1 (by decide)) (by decide) bG3 (by omega);have r2:=Qi9 (bP 2 (by decide)) (by decide) bG3 (by omega);have r3:=Qi9 bod (by decide) bG3 (by omega);unfold plV;rw [hO];have z0:at3 (plP s a d) 3 0=plP s a d 0:=rfl;have z1:at3 (plP s a d) 3 1=plP s a d 1:=rfl;have z2:at3 (plP s a d) 3 2=plP s a d 2:=rfl;simp only [z0,z1,z2];clear z0 z1 z2;generalize plP s a d 0=X0 at*;generalize plP s a d 1=X1 at*;generalize plP s a d 2=X2 at*;generalize ((plG s a d 3:Nat):Int)=G at*;generalize X0/G=Y0 at*;generalize X1/G=Y1 at*;generalize X2/G=Y2 at*;generalize O/G=Y3 at*;repeat (first|(simp -implicitDefEqProofs only [go_sem,Nat.reduceAdd,Nat.reduceMul,Nat.reduceEqDiff,Nat.reduceLT,Nat.reduceLeDiff,Nat.reduceSub,reduceCtorEq,Int.reduceLE,Int.reduceLT,Int.reduceToNat,wPV,at3])|((with_reducible refine Qaa r0 ?_ ?_ ?_);rfl;rfl)|((with_reducible refine Qaa r1 ?_ ?_ ?_);rfl;rfl)|((with_reducible refine Qaa r2 ?_ ?_ ?_);rfl;rfl)|((with_reducible refine Qaa r3 ?_ ?_ ?_);rfl;rfl)|(with_reducible exact Qae _ _ (by kernel_rfl)))
end Go.Proofs.YtjlkapdmgjocdaaGreat

namespace Go.Proofs.YtjlkapdmgjocdaaGreat
open Go.Vl Go.RowKit Go.Dg
theorem ml1:(1≤maxLen)=True:=eq_true (by unfold maxLen;omega)
theorem ml2:(2≤maxLen)=True:=eq_true (by unfold maxLen;omega)
theorem ml3:(3≤maxLen)=True:=eq_true (by unfold maxLen;omega)
theorem ml4:(4≤maxLen)=True:=eq_true (by unfold maxLen;omega)
attribute [go_sem] ml1 ml2 ml3 ml4
end Go.Proofs.YtjlkapdmgjocdaaGreat

namespace Go.Dg
def plQ (s:Sg) (a d:Int) (i:Nat):Int:=plP s a d i/(plG s a d 3:Int)
def plO (s:Sg) (a d:Int):Int:=s.o*d^5/(plG s a d 3:Int)
def Qyq (s:Sg) (a d:Int) (s':Sg) (a' d':Int):Bool:=decide (plQ s a d 0=plQ s' a' d' 0)&&(decide (plQ s a d 1=plQ s' a' d' 1)&&(decide (plQ s a d 2=plQ s' a' d' 2)&&decide (plO s a d=plO s' a' d')))
def Qey (a b:Sg):Bool:=decide (a.t=b.f)&&Qyq a 1 1 b 0 1
def sg0:Sg:=⟨0,0,0,[],[],[]⟩
def vpAt (p:List Sg) (j:Nat):Bool:=Qa7 (p.getD j sg0)&&(decide (j=0)||Qey (p.getD (j-1) sg0) (p.getD j sg0))
def vpTo (p:List Sg) (i:Nat):Bool:=(List.range i).all (vpAt p)
def Qbm (p:List Sg):Bool:=vpTo p p.length&&(decide (1≤p.length)&&decide (p.length≤256))
theorem Qs7 (p:List Sg) (i:Nat):vpTo p (i+1)=(vpTo p i&&vpAt p i):=by simp [vpTo,List.range_succ]
theorem Zni {p:List Sg} {j m:Nat} (h:vpAt p j=false) (hm:j<m):vpTo p m=false:=by
 unfold vpTo;rw [List.all_eq_false];exact⟨j,List.mem_range.2 hm,by simp [h]⟩
theorem Qpj {p:List Sg} {j:Nat} (h:vpAt p j=false) (hm:j<p.length):Qbm p=false:=by unfold Qbm;rw [Zni h hm];rfl
theorem sgD {p:List Sg} {i:Nat} (h:i<p.length):p.getD i sg0=p[i]:=by rw [List.getD_eq_getElem?_getD,List.getElem?_eq_getElem h];rfl
theorem Qpk {p:List Sg} {i j:Nat} (h:vpTo p i=true) (hj:j<i):Qa7 (p.getD j sg0)=true:=by
 have:=List.all_eq_true.1 h j (List.mem_range.2 hj);unfold vpAt at this;simp only [Bool.and_eq_true]at this;exact this.1
theorem Qat {s:Sg} (h:Qa7 s=true):(0≤s.f∧s.f<s.t∧s.t≤3600000∧1≤s.o∧s.o≤4294967296)∧(∀c∈s.ax,axOK c s.o=true)∧s.ax.foldl gcdL s.o.natAbs=1:=by
 unfold Qa7 rngS at h;simp only [Bool.and_eq_true,decide_eq_true_eq,List.all_eq_true,beq_iff_eq]at h;obtain⟨⟨h1,h2,h3,h4,h5⟩,h6,h7⟩:=h;exact⟨⟨h1,h2,h3,h4,h5⟩,h6,h7⟩
theorem Qct {c:List Int} {o:Int} (h:axOK c o=true):1≤c.length∧c.length≤6∧(1<c.length→c.getD (c.length-1) 0≠0)∧Qej c o c.length=true:=by
 unfold axOK Qm4 at h;simp only [Bool.and_eq_true,decide_eq_true_eq,Bool.or_eq_true,Bool.not_eq_true',beq_eq_false_iff_ne]at h;obtain⟨⟨h1,h2,h3⟩,h4⟩:=h;exact⟨h1,h2,fun h5=>h3.elim (fun h6=>by omega) id,h4⟩
theorem Qfm {s:Sg} (h:Qa7 s=true): ∀c∈s.ax,c.length≤6:=fun c hc=>(Qct ((Qat h).2.1 c hc)).2.1
theorem Qi7 {s:Sg} (h:Qa7 s=true):1≤s.o:=(Qat h).1.2.2.2.1
end Go.Dg

namespace Go.Proofs.YtjlkapdmgjocdaaGreat
open Go.Vl Go.RowKit Go.Dg
theorem Zmf (s:Sg) (a d:Int):plV s a d=Qad (plQ s a d 0) (plQ s a d 1) (plQ s a d 2) (plO s a d):=rfl
theorem Q6q {x y:Int} {B:Nat} (hx:x.natAbs<2^B) (hy:0<y):(x/y).natAbs<2^(B+1):=by
 rw [Nat.pow_succ];have h2:0<2^B:=Nat.two_pow_pos B;rcases Qy8 hx hy with h|h<;>omega
theorem Zvo {m B:Nat} (h:m<2^B) (hk:B≤2000):m<2^2000:=Qic (C:=2000) h hk
theorem Zvp {s:Sg} {a d:Int} (hs:okSg s) (h6: ∀c∈s.ax,c.length≤6) (ho:1≤s.o) (ha:i64 a) (hd:i64 d) (hd1:1≤d):(∀i,i<3→(plQ s a d i).natAbs<2^2000)∧(plO s a d).natAbs<2^2000:=by
 have hcB: ∀c∈s.ax,bd 64 c:=fun c hx x hx2=>Qbh (hs.c c hx x hx2);have bP:=Q42 hcB h6 (Qbh ha) (Qbh hd);have bo:=Znh (s:=s) (Qbh hs.o) (Qbh hd);have hg:=Qvx ho hd1 3 (s:=s) (a:=a);exact⟨fun i hi=>Zvo (Q6q (bP i hi) (by omega)) (by decide),Zvo (Q6q bo (by omega)) (by decide)⟩
theorem Q6r (x y z o x' y' z' o':Int):(decide (x<0)==decide (x'<0)&&(mB x==mB x'&&(decide (y<0)==decide (y'<0)&&(mB y==mB y'&&(decide (z<0)==decide (z'<0)&&(mB z==mB z'&&(decide (o<0)==decide (o'<0)&&mB o==mB o')))))))=
  (decide (x=x')&&(decide (y=y')&&(decide (z=z')&&decide (o=o')))):=by
 rw [←Qnm x x',←Qnm y y',←Qnm z z',←Qnm o o'];simp only [Bool.and_assoc]
theorem Zer (a b:Sg) (ha:okSg a) (hb:okSg b) (va:Qa7 a=true) (vb:Qa7 b=true):Qaf Tryz.prog 66 [sgPV a,sgPV b] (.bool (Qey a b)):=by
 have o1:i64 1:=by unfold i64;omega
 have o0:i64 0:=by unfold i64;omega
 have t1:=Qrk a 1 1 ha (Qfm va) (Qi7 va) o1 o1 (by decide);have t2:=Qrk b 0 1 hb (Qfm vb) (Qi7 vb) o0 o1 (by decide);rw [Zmf]at t1 t2;unfold Qey Qyq;generalize plQ a 1 1 0=x0 at*;generalize plQ a 1 1 1=x1 at*;generalize plQ a 1 1 2=x2 at*;generalize plO a 1 1=x3 at*;generalize plQ b 0 1 0=y0 at*;generalize plQ b 0 1 1=y1 at*;generalize plQ b 0 1 2=y2 at*;generalize plO b 0 1=y3 at*;by_cases h:a.t=b.f
 ·have h':(a.t==b.f)=true:=by rw [h];exact beq_self_eq_true _
  rw [decide_eq_true h,Bool.true_and];refine Qab (tb:=[]) 17 [.tmp 4] [0,1,2,3,4] mixed Tryz.func66 rfl (by kernel_rfl) (by kernel_rfl) (by kernel_rfl) (by kernel_rfl) ?_;repeat (first|(simp -implicitDefEqProofs only [go_sem,Nat.reduceAdd,Nat.reduceMul,Nat.reduceEqDiff,Nat.reduceLT,Nat.reduceLeDiff,reduceCtorEq,h',Q6r])|((with_reducible refine Qaa t1 ?_ ?_ ?_);rfl;rfl)|((with_reducible refine Qaa t2 ?_ ?_ ?_);rfl;rfl)|(with_reducible exact Qae _ _ (by kernel_rfl)))
 ·have h':(a.t==b.f)=false:=beq_eq_false_iff_ne.2 h;rw [decide_eq_false h,Bool.false_and];refine Qab (tb:=[]) 17 [.tmp 4] [0,1,2,3,4] mixed Tryz.func66 rfl (by kernel_rfl) (by kernel_rfl) (by kernel_rfl) (by kernel_rfl) ?_;repeat (first|(simp -implicitDefEqProofs only [go_sem,Nat.reduceAdd,Nat.reduceMul,Nat.reduceEqDiff,Nat.reduceLT,Nat.reduceLeDiff,reduceCtorEq,h'])|(with_reducible exact Qae _ _ (by kernel_rfl)))
def Qcs (p:List Sg):PV:= .slc (p.map sgPV)
attribute [go_sem] Qcs
theorem Qil (p:List Sg) (i:Nat) (h:i<p.length):(p.map sgPV)[i]? =some (.agg [.int .i64 p[i].f,.int .i64 p[i].t,.int .i64 p[i].o,.slc (p[i].x.map (PV.int .i64)),.slc (p[i].y.map (PV.int .i64)),.slc (p[i].z.map (PV.int .i64))]):=by
 rw [List.getElem?_map,List.getElem?_eq_getElem h];rfl
set_option maxHeartbeats 1000000 in
theorem Qtu (p:List Sg) (hp: ∀s∈p,okSg s) (hl:p.length≤1000000):Qaf Tryz.prog 42 [Qcs p] (.bool (Qbm p)):=by
 refine Qab (tb:=[]) 38 [.tmp 2] [0,2,3,4,5,6,7,8,28] mixed Tryz.func42 rfl (by kernel_rfl) (by kernel_rfl) (by kernel_rfl) (by kernel_rfl) ?_;repeat (first|(simp -implicitDefEqProofs only [go_sem,Nat.reduceAdd,Nat.reduceMul,Nat.reduceEqDiff,Nat.reduceLT,Nat.reduceLeDiff,reduceCtorEq,List.length_map]))
 have z0:0≤p.length∧vpTo p 0=true:=⟨Nat.zero_le _,rfl⟩;refine Qar mixed (fun i:{i:Nat // i≤p.length∧vpTo p i=true}=>St.of [(0,Qcs p),(2,.bool false),(5,Qcs p),(6,.int .i64 (p.length:Int)),(7,.int .i64 (i.1:Int))] []) (fun i=>p.length-i.1) ⟨0,z0⟩ ?_ ?_
 ·exact Qa3 (by simp [Qac,lkp,ren1,ren0,Qcs])
 ·rintro⟨i,hi,hall⟩;by_cases hA:i<p.length
  ·have hA':=ltT hA;have n0:=nnT i;have hg:=Qil p i hA;have hwk:=Qan (a:=i) (by omega);have ok1:=hp _ (List.getElem_mem hA);have hv:=Zeq p[i] ok1;have hgD:=sgD hA;cases hV:Qa7 p[i]with
   |false=>
    have e:Qbm p=false:=Qpj (j:=i) (by unfold vpAt;rw [hgD,hV];rfl) hA;rw [hV]at hv;unfold sgPV Qa8 at hv;repeat (first|(simp -implicitDefEqProofs only [go_sem,Nat.reduceAdd,Nat.reduceMul,Nat.reduceEqDiff,Nat.reduceLT,Nat.reduceLeDiff,reduceCtorEq,hA',n0,hg,Int.toNat_natCast,e])|((with_reducible refine Qaa hv ?_ ?_ ?_);rfl;rfl)|(with_reducible exact Qae _ _ (by kernel_rfl)))
   |true=>
    rw [hV]at hv;unfold sgPV Qa8 at hv;by_cases hz:i=0
    ·have hz':((0:Int)<(i:Int))=False:=eq_false (by omega);have hn:vpTo p (i+1)=true:=by rw [Qs7,hall];unfold vpAt;rw [hgD,hV,decide_eq_true hz];rfl
     repeat (first|(simp -implicitDefEqProofs only [go_sem,Nat.reduceAdd,Nat.reduceMul,Nat.reduceEqDiff,Nat.reduceLT,Nat.reduceLeDiff,reduceCtorEq,hA',n0,hg,hwk,hz',Int.toNat_natCast])|((with_reducible refine Qaa hv ?_ ?_ ?_);rfl;rfl)|(with_reducible refine And.intro (Qae _ _ (by kernel_rfl)) ?_))
     refine⟨⟨i+1,hA,hn⟩,by simp only;omega,Qa3 (by simp [Qac,lkp,ren1,ren0,Qcs])⟩
    ·have hz':((0:Int)<(i:Int))=True:=eq_true (by omega);have hA1:i-1<p.length:=by omega
     have n1:=nnT (i-1);have hg1:=Qil p (i-1) hA1;have w1:IntKind.i64.wrap ((i:Int)-1)=((i-1:Nat):Int):=by rw [Qag (by omega) (by omega)];omega
     have hV1:Qa7 p[i-1]=true:=by have:=Qpk hall (j:=i-1) (by omega);rwa [sgD hA1]at this
     have hm:=Zer p[i-1] p[i] (hp _ (List.getElem_mem hA1)) ok1 hV1 hV;have ev:vpAt p i=Qey p[i-1] p[i]:=by unfold vpAt;rw [hgD,sgD hA1,hV,decide_eq_false hz];simp
     cases hM:Qey p[i-1] p[i]with
     |false=>
      have e:Qbm p=false:=Qpj (j:=i) (ev.trans hM) hA;rw [hM]at hm;unfold sgPV Qa8 at hm;repeat (first|(simp -implicitDefEqProofs only [go_sem,Nat.reduceAdd,Nat.reduceMul,Nat.reduceEqDiff,Nat.reduceLT,Nat.reduceLeDiff,reduceCtorEq,hA',n0,hg,hz',w1,n1,hg1,Int.toNat_natCast,e])|((with_reducible refine Qaa hv ?_ ?_ ?_);rfl;rfl)|((with_reducible refine Qaa hm ?_ ?_ ?_);rfl;rfl)|(with_reducible exact Qae _ _ (by kernel_rfl)))
     |true=>
      have hn:vpTo p (i+1)=true:=by rw [Qs7,hall,ev,hM];rfl
      rw [hM]at hm;unfold sgPV Qa8 at hm;repeat (first|(simp -implicitDefEqProofs only [go_sem,Nat.reduceAdd,Nat.reduceMul,Nat.reduceEqDiff,Nat.reduceLT,Nat.reduceLeDiff,reduceCtorEq,hA',n0,hg,hwk,hz',w1,n1,hg1,Int.toNat_natCast])|((with_reducible refine Qaa hv ?_ ?_ ?_);rfl;rfl)|((with_reducible refine Qaa hm ?_ ?_ ?_);rfl;rfl)|(with_reducible refine And.intro (Qae _ _ (by kernel_rfl)) ?_))
      refine⟨⟨i+1,hA,hn⟩,by simp only;omega,Qa3 (by simp [Qac,lkp,ren1,ren0,Qcs])⟩
  ·have hA':=ltF hA;obtain rfl:i=p.length:=by omega
   have e0:Qbm p=(decide (1≤p.length)&&decide (p.length≤256)):=by unfold Qbm;rw [hall,Bool.true_and]
   rw [e0];by_cases c1:1≤p.length
   ·have c1':((1:Int)≤(p.length:Int))=True:=eq_true (by omega);have c2':decide ((p.length:Int)≤256)=decide (p.length≤256):=by rw [decide_eq_decide];omega
    rw [decide_eq_true c1,Bool.true_and];repeat (first|(simp -implicitDefEqProofs only [go_sem,Nat.reduceAdd,Nat.reduceMul,Nat.reduceEqDiff,Nat.reduceLT,Nat.reduceLeDiff,reduceCtorEq,hA',c1',c2',List.length_map]))
   ·have c1':((1:Int)≤(p.length:Int))=False:=eq_false (by omega);rw [decide_eq_false c1,Bool.false_and];repeat (first|(simp -implicitDefEqProofs only [go_sem,Nat.reduceAdd,Nat.reduceMul,Nat.reduceEqDiff,Nat.reduceLT,Nat.reduceLeDiff,reduceCtorEq,hA',c1',List.length_map]))
end Go.Proofs.YtjlkapdmgjocdaaGreat

namespace Go.Dg
end Go.Dg

namespace Go.Proofs.YtjlkapdmgjocdaaGreat
open Go.Vl Go.RowKit Go.Dg
end Go.Proofs.YtjlkapdmgjocdaaGreat

namespace Go.Dg

def cwB:Bool:=(List.range 6).all fun n=>(List.range (n+1)).all fun j=>(List.range (j+1)).all fun k=>Nat.beq (bin n j*cw n j k) (60*bin (n-k) (j-k))
theorem Zdh:cwB=true:=by decide
theorem Zya {n j k:Nat} (hn:n≤5) (hj:j≤n) (hk:k≤j):bin n j*cw n j k=60*bin (n-k) (j-k):=by
  have h:=Zdh;unfold cwB at h;simp only [List.all_eq_true,List.mem_range]at h;exact Nat.eq_of_beq_eq_true (h n (by omega) j (by omega) k (by omega))
theorem Q0r (f:List Int) (n j:Nat) (h:j<n+1):(trans f 1 n).getD j 0=sm (fun i=>f.getD i 0*(bin (n-i) (j-i):Int)) (j+1):=by
  unfold trans;rw [Qm1,if_pos h];refine Qa9 _ fun i _=> ?_;rw [Int.one_pow,Int.one_mul]
theorem Qm5 {c:List Int} {n j:Nat} (hc:c.length=n+1) (hn:n≤5) (hj:j≤n):(bin n j:Int)*ctl c j=60*(trans c 1 n).getD j 0:=by
  rw [Q0r c n j (by omega),ctl,←Qc6,←Qc6];refine Qa9 _ fun k hk=> ?_;have h:=Zya hn hj (show k≤j by omega);have hn':c.length-1=n:=by omega
  rw [hn'];have h2:((bin n j:Nat):Int)*(cw n j k:Int)=60*(bin (n-k) (j-k):Int):=by
    rw [←Int.natCast_mul,h,Int.natCast_mul];rfl
  calc (bin n j:Int)*(c.getD k 0*(cw n j k:Int))=c.getD k 0*((bin n j:Int)*(cw n j k:Int)):=by
        rw [←Int.mul_assoc,Int.mul_comm (bin n j:Int),Int.mul_assoc]
    _=c.getD k 0*(60*(bin (n-k) (j-k):Int)):=by rw [h2]
    _=60*(c.getD k 0*(bin (n-k) (j-k):Int)):=by rw [←Int.mul_assoc,Int.mul_comm (c.getD k 0),Int.mul_assoc]
theorem Znj {c:List Int} {n:Nat} (hc:c.length=n+1) (hn:n≤5) (a b:Int):60*hev c a (a+b)=sm (fun j=>ctl c j*((bin n j:Int)*(a^j*b^(n-j)))) (n+1):=by
  have h:=Qfl hc 1 a b;rw [Int.one_mul]at h;rw [←h,Qgh,Qe8,←Qc6];refine Qa9 _ fun j hj=> ?_;have h2:=Qm5 hc hn (show j≤n by omega);have e:n+1-1-j=n-j:=by omega
  rw [e,←Int.mul_assoc 60,←h2,Int.mul_comm (bin n j:Int),Int.mul_assoc]
theorem Q43 {c:List Int} {n:Nat} {M a b:Int} (hc:c.length=n+1) (hn:n≤5) (ha:0≤a) (hb:0≤b) (hM: ∀j,j≤n→ -M≤ctl c j∧ctl c j≤M):
    -(M*(a+b)^n)≤60*hev c a (a+b)∧60*hev c a (a+b)≤M*(a+b)^n:=by
  have hw: ∀j,0≤(bin n j:Int)*(a^j*b^(n-j)):=fun j=>Int.mul_nonneg (Int.natCast_nonneg _) (Int.mul_nonneg (Int.pow_nonneg ha) (Int.pow_nonneg hb));rw [Znj hc hn,←Qm0 a b n,←Qc6];constructor
  · have e: -(sm (fun i=>M*((bin n i:Int)*(a^i*b^(n-i)))) (n+1))=sm (fun i=> -M*((bin n i:Int)*(a^i*b^(n-i)))) (n+1):=by
      rw [Qc6,Qc6,Int.neg_mul]
    rw [e];exact Q4r _ fun j hj=>Int.mul_le_mul_of_nonneg_right (hM j (by omega)).1 (hw j)
  · exact Q4r _ fun j hj=>Int.mul_le_mul_of_nonneg_right (hM j (by omega)).2 (hw j)
theorem Qvy {c:List Int} {n:Nat} (hc:c.length=n+1) (hn:n≤5) (a d:Int):plc c a d=d^(5-n)*hev c a d:=by
  rw [Qgh,←Qc6,plc];refine Qa9 _ fun k hk=> ?_;have e:5-k=(5-n)+(c.length-1-k):=by omega
  unfold plcT;rw [e,Int.pow_add];generalize d^(5-n)=D;generalize d^(c.length-1-k)=E;generalize a^k=A;generalize c.getD k 0=X;rw [←Int.mul_assoc,←Int.mul_assoc,←Int.mul_assoc,←Int.mul_assoc,Int.mul_comm D X,Int.mul_assoc X A D,Int.mul_comm A D,←Int.mul_assoc]
theorem Q44 {c:List Int} {o a d:Int} (h:axOK c o=true) (ha:0≤a) (hd:a≤d): -(1048576*(o*d^5))≤plc c a d∧plc c a d≤1048576*(o*d^5):=by
  obtain⟨h1,h2,_,h3⟩:=Qct h;obtain⟨n,hn⟩: ∃n,c.length=n+1:=⟨c.length-1,by omega⟩;have hM: ∀j,j≤n→ -(62914560*o)≤ctl c j∧ctl c j≤62914560*o:=by
    intro j hj;unfold Qej at h3;have:=List.all_eq_true.1 h3 j (List.mem_range.2 (by omega));simp only [decide_eq_true_eq]at this;omega
  obtain⟨k1,k2⟩:=Q43 hn (by omega) ha (show 0≤d-a by omega) hM;have e:a+(d-a)=d:=by omega
  rw [e]at k1 k2;rw [Qvy hn (by omega)];have hd0:0≤d^(5-n):=Int.pow_nonneg (by omega);have e5:d^5=d^(5-n)*d^n:=by rw [←Int.pow_add];congr 1;omega
  have k3: -(1048576*(o*d^n))≤hev c a d:=by
    have:62914560*o*d^n=60*(1048576*(o*d^n)):=by
      generalize d^n=D;rw [Int.mul_assoc,show(62914560:Int)=60*1048576 from rfl,Int.mul_assoc]
    omega
  have k4:hev c a d≤1048576*(o*d^n):=by
    have:62914560*o*d^n=60*(1048576*(o*d^n)):=by
      generalize d^n=D;rw [Int.mul_assoc,show(62914560:Int)=60*1048576 from rfl,Int.mul_assoc]
    omega
  have e6:1048576*(o*d^5)=d^(5-n)*(1048576*(o*d^n)):=by
    rw [e5];generalize d^(5-n)=D;generalize d^n=E;rw [←Int.mul_assoc o,Int.mul_comm o D,Int.mul_assoc D,←Int.mul_assoc 1048576,Int.mul_comm 1048576 D,Int.mul_assoc]
  rw [e6];constructor
  · rw [←Int.mul_neg];exact Int.mul_le_mul_of_nonneg_left k3 hd0
  · exact Int.mul_le_mul_of_nonneg_left k4 hd0
theorem Znk (s:Sg) (a d:Int):(plG s a d 3:Int)∣s.o*d^5∧ ∀i,i<3→(plG s a d 3:Int)∣plP s a d i:=by
  have h3:=Qdi s a d 2;have h2:=Qdi s a d 1;have h1:=Qdi s a d 0;have d32:plG s a d 3∣plG s a d 2:=by rw [h3];exact Nat.gcd_dvd_left _ _
  have d21:plG s a d 2∣plG s a d 1:=by rw [h2];exact Nat.gcd_dvd_left _ _
  have d10:plG s a d 1∣plG s a d 0:=by rw [h1];exact Nat.gcd_dvd_left _ _
  have p2:plG s a d 3∣(plP s a d 2).natAbs:=by rw [h3];exact Nat.gcd_dvd_right _ _
  have p1:plG s a d 2∣(plP s a d 1).natAbs:=by rw [h2];exact Nat.gcd_dvd_right _ _
  have p0:plG s a d 1∣(plP s a d 0).natAbs:=by rw [h1];exact Nat.gcd_dvd_right _ _
  refine⟨?_,fun i hi=> ?_⟩
  · have:plG s a d 3∣(s.o*d^5).natAbs:=Nat.dvd_trans d32 (Nat.dvd_trans d21 d10);exact Int.dvd_natAbs.1 (Int.natCast_dvd_natCast.2 this)
  · rcases(show i=0∨i=1∨i=2 by omega)with rfl|rfl|rfl
    · exact Int.dvd_natAbs.1 (Int.natCast_dvd_natCast.2 (Nat.dvd_trans (Nat.dvd_trans d32 d21) p0))
    · exact Int.dvd_natAbs.1 (Int.natCast_dvd_natCast.2 (Nat.dvd_trans d32 p1))
    · exact Int.dvd_natAbs.1 (Int.natCast_dvd_natCast.2 p2)
/-- A coordinate of a place is within the bounds. -/
theorem Q45 {s:Sg} {a d:Int} (hv:Qa7 s=true) (ha:0≤a) (hd:a≤d) (h1:1≤d) (i:Nat) (hi:i<3):0<plO s a d∧ -(1048576*plO s a d)≤plQ s a d i∧plQ s a d i≤1048576*plO s a d:=by
  have ho:=Qi7 hv;have hg:=Qvx ho h1 3 (s:=s) (a:=a);obtain⟨⟨x,hx⟩,hP⟩:=Znk s a d;obtain⟨y,hy⟩:=hP i hi;have hi':i<s.ax.length:=hi;have hm:s.ax.getD i []=s.ax[i]:=by rw [List.getD_eq_getElem?_getD,List.getElem?_eq_getElem hi'];rfl
  have hb:=Q44 ((Qat hv).2.1 _ (List.getElem_mem hi')) ha hd;have hP2:plP s a d i=plc s.ax[i] a d:=by unfold plP;rw [hm]
  rw [←hP2]at hb;unfold plO plQ;have hpos:0<s.o*d^5:=Int.mul_pos (by omega) (Int.pow_pos (by omega));rw [hx]at hb hpos ⊢;rw [hy]at hb ⊢;have hG:(0:Int)<(plG s a d 3:Int):=by omega
  generalize ((plG s a d 3:Nat):Int)=G at*;rw [Int.mul_ediv_cancel_left _ (by omega),Int.mul_ediv_cancel_left _ (by omega)];have e:1048576*(G*x)=G*(1048576*x):=by rw [←Int.mul_assoc,Int.mul_comm 1048576 G,Int.mul_assoc]
  rw [e,←Int.mul_neg]at hb;exact⟨Int.lt_of_mul_lt_mul_left (a:=G) (by rw [Int.mul_zero];exact hpos) (Int.le_of_lt hG),Int.le_of_mul_le_mul_left hb.1 hG,Int.le_of_mul_le_mul_left hb.2 hG⟩
/-- Rounding. -/
def rnd (x o:Int):Int:=(x+x+o)/(o+o)
theorem Q46 {x o:Int} (ho:0<o) (h1: -(1048576*o)≤x) (h2:x≤1048576*o): -1048576≤rnd x o∧rnd x o≤1048576:=by
  unfold rnd;constructor
  · exact(Int.le_ediv_iff_mul_le (by omega)).2 (by omega)
  · have:=(Int.ediv_lt_iff_lt_mul (a:=x+x+o) (b:=1048577) (show 0<o+o by omega)).2 (by omega);omega
/-! ### times -/
theorem Qca {p:List Sg} (h:Qbm p=true):vpTo p p.length=true∧1≤p.length∧p.length≤256:=by
  unfold Qbm at h;simp only [Bool.and_eq_true,decide_eq_true_eq]at h;exact h
theorem Qdj {p:List Sg} (h:Qbm p=true) (i:Nat) (hi:i<p.length):Qa7 p[i]=true:=by
  have:=Qpk (Qca h).1 hi
  rwa [sgD hi]at this
theorem Qfb {p:List Sg} (h:Qbm p=true) (i:Nat) (hi:i+1<p.length):Qey p[i] p[i+1]=true:=by
  have h1:=(Qca h).1;unfold vpTo at h1;have:=List.all_eq_true.1 h1 (i+1) (List.mem_range.2 hi);unfold vpAt at this;simp only [Bool.and_eq_true,Bool.or_eq_true,decide_eq_true_eq]at this;have h2:=this.2.resolve_left (by omega)
  rwa [Nat.add_sub_cancel,sgD (show i<p.length by omega),sgD hi]at h2
theorem Qm6 {a b:Sg} (h:Qey a b=true):a.t=b.f:=by
  unfold Qey at h;simp only [Bool.and_eq_true,decide_eq_true_eq]at h;exact h.1
theorem Qm7 {p:List Sg} (h:Qbm p=true) (i:Nat) (hi:i+1<p.length):p[i].t<p[i+1].t:=by
  have h1:=Qm6 (Qfb h i hi);have h2:=(Qat (Qdj h (i+1) hi)).1;omega
theorem Qfz {p:List Sg} (h:Qbm p=true): ∀(j i:Nat) (hj:j<p.length) (_:i≤j),(p[i]'(by omega)).t≤p[j].t
  |0,i,hj,hij=>by
        obtain rfl:i=0:=by omega
        exact Int.le_refl _
  |j+1,i,hj,hij=>by
    by_cases e:i=j+1
    · subst e;exact Int.le_refl _
    · have h1:=Qfz h j i (by omega) (by omega);have h2:=Qm7 h j hj;omega
/-- The segment of a time. -/
def atIx (p:List Sg) (t:Int):Nat:=p.findIdx fun s=>decide (t≤s.t)
def pEnd (p:List Sg):Int:=(p.getD (p.length-1) sg0).t
def pBeg (p:List Sg):Int:=(p.getD 0 sg0).f
theorem Q47 {p:List Sg} {t:Int} (h:Qbm p=true) (ht:t≤pEnd p):atIx p t<p.length:=by
  have hl:=(Qca h).2.1;unfold atIx;rw [List.findIdx_lt_length];have hi:p.length-1<p.length:=by omega
  refine⟨p[p.length-1],List.getElem_mem hi,?_⟩;unfold pEnd at ht;rw [sgD hi]at ht;exact decide_eq_true ht
theorem Qq2 {p:List Sg} {t:Int} (hi:atIx p t<p.length):t≤(p[atIx p t]).t:=by
  have:=List.findIdx_getElem (w:=hi);exact of_decide_eq_true this
theorem Qig {p:List Sg} {t:Int} {i:Nat} (hi:i<atIx p t) (hl:i<p.length):p[i].t<t:=by
  have:=List.not_of_lt_findIdx hi;exact Int.not_le.1 (of_decide_eq_false this)
theorem Qs8 {p:List Sg} {t:Int} (h:Qbm p=true) (hb:pBeg p≤t) (hi:atIx p t<p.length):(p[atIx p t]).f≤t:=by
  rcases Nat.eq_zero_or_pos (atIx p t)with e|e
  · unfold pBeg at hb;have h0:0<p.length:=by omega
    rw [sgD h0]at hb;simp only [e];exact hb
  · have h1:=Qig (p:=p) (t:=t) (i:=atIx p t-1) (by omega) (by omega);have h2:=Qm6 (Qfb h (atIx p t-1) (by omega));have e2:atIx p t-1+1=atIx p t:=by omega
    simp only [e2]at h2;omega
end Go.Dg

namespace Go.Proofs.YtjlkapdmgjocdaaGreat
open Go.Vl Go.RowKit Go.Dg
theorem Q6s:((0:Int) != 0)=false:=rfl
theorem Zyr:((0:Int)==0)=true:=rfl
theorem Zys:((1:Int) != 0)=true:=rfl
theorem Zyt:((1:Int)==0)=false:=rfl
theorem Zvq:((2:Int) != 0)=true:=rfl
theorem Zyu:((2:Int)==0)=false:=rfl
theorem Zyv:((3:Int) != 0)=true:=rfl
theorem Zyw:((3:Int)==0)=false:=rfl
theorem Zyx:((7:Int) != 0)=true:=rfl
theorem Zyy:((7:Int)==0)=false:=rfl
theorem Zyz:((9:Int) != 0)=true:=rfl
theorem Zy0:((9:Int)==0)=false:=rfl
theorem Zvr:((10:Int) != 0)=true:=rfl
theorem Zvs:((10:Int)==0)=false:=rfl
attribute [go_sem] Q6s Zyr Zys Zyt Zvq Zyu Zyv Zyw Zyx Zyy Zyz Zy0 Zvr Zvs
def lasts (p:List Sg) (t:Int):Bool:=decide (pBeg p≤t)&&decide (t≤pEnd p)
theorem Qv6 (p:List Sg) (hp: ∀s∈p,okSg s) (hl:p.length≤1000000):Qaf Tryz.prog 26 [Qcs p] (if Qbm p=true then .tup [.int .i64 (pBeg p),.int .i64 (pEnd p),.int .i64 0]else .tup [.int .i64 0,.int .i64 0,.int .i64 2]):=by
 have hv:=Qtu p hp hl;unfold Qcs at hv;cases hV:Qbm p with
 |false=>
  rw [hV]at hv;refine Qab (tb:=[]) 19 [.tmp 2,.tmp 3,.tmp 4] [0,2,3,4,7] mixed Tryz.func26 rfl (by kernel_rfl) (by kernel_rfl) (by kernel_rfl) (by kernel_rfl) ?_;repeat (first|(simp -implicitDefEqProofs only [go_sem,Nat.reduceAdd,Nat.reduceMul,Nat.reduceEqDiff,Nat.reduceLT,Nat.reduceLeDiff,reduceCtorEq,Bool.false_eq_true])|((with_reducible refine Qaa hv ?_ ?_ ?_);rfl;rfl))
 |true=>
  have h:=(Qca hV).2.1;have hi:p.length-1<p.length:=by omega
  have hg0:=Qil p 0 (by omega);have hg:=Qil p (p.length-1) hi;have wl:=Qmd (n:=p.length) (by omega) (by omega);have n1:=nnT (p.length-1);have e1:pEnd p=p[p.length-1].t:=by unfold pEnd;rw [sgD hi]
  have e2:pBeg p=p[0].f:=by unfold pBeg;rw [sgD (by omega)]
  rw [e1,e2];rw [hV]at hv;refine Qab (tb:=[]) 19 [.tmp 2,.tmp 3,.tmp 4] [0,2,3,4,7] mixed Tryz.func26 rfl (by kernel_rfl) (by kernel_rfl) (by kernel_rfl) (by kernel_rfl) ?_;repeat (first|(simp -implicitDefEqProofs only [go_sem,Nat.reduceAdd,Nat.reduceMul,Nat.reduceEqDiff,Nat.reduceLT,Nat.reduceLeDiff,reduceCtorEq,hg,hg0,wl,n1,Int.toNat_natCast,List.length_map])|((with_reducible refine Qaa hv ?_ ?_ ?_);rfl;rfl)|(with_reducible exact Qae _ _ (by kernel_rfl)))
theorem Zes (n m:Nat) (f:FuncId) (cap:List PV) (Pr:Nat→Bool) (hn:n≤1000000000) (hm:m≤n) (h1: ∀i,i<m→Pr i=false) (h2: ∀i,m≤i→i<n→Pr i=true)
  (hc:Qfq cap (fun _=>none)=some ((cap,[]),[])) (hcr:ren1 [] (.fn f [] cap)=some (.fn f [] cap)) (hf: ∀i:Nat,i<n→Qaf Tryz.prog f (.int .i64 (i:Int)::cap) (.bool (Pr i))):Qaf Tryz.prog 67 [.int .i64 (n:Int),.fn f [] cap] (.int .i64 (m:Int)):=by
 refine Qab (tb:=[]) 26 [.tmp 4] [0,1,4,5,6,7,11,21] mixed Tryz.func67 rfl (by kernel_rfl) (by kernel_rfl) (by kernel_rfl) (by kernel_rfl) ?_;repeat (first|(simp -implicitDefEqProofs only [go_sem,Nat.reduceAdd,Nat.reduceMul,Nat.reduceEqDiff,Nat.reduceLT,Nat.reduceLeDiff,reduceCtorEq,if_true]))
 have z0:0≤m∧m≤n∧n≤n:=⟨Nat.zero_le _,hm,Nat.le_refl _⟩;refine Qar mixed (fun x:{x:Nat×Nat // x.1≤m∧m≤x.2∧x.2≤n}=>St.of [(0,.int .i64 (n:Int)),(1,.fn f [] cap),(5,.int .i64 (x.1.1:Int)),(6,.int .i64 (x.1.2:Int))] []) (fun x=>x.1.2-x.1.1) ⟨(0,n),z0⟩ ?_ ?_
 ·exact Qa3 ⟨by simp [lkp,ren1,ren0],by simp only [lkp];exact hcr,by simp [lkp,ren1,ren0],by simp [lkp,ren1,ren0],trivial⟩
 ·rintro⟨⟨i,j⟩,hi,hj,hjn⟩;simp only at hi hj hjn;by_cases hA:i<j
  ·have hA':=ltT hA;have w1:IntKind.i64.wrap ((i:Int)+(j:Int))=((i+j:Nat):Int):=by rw [Qag (by omega) (by omega)];omega
   have w2:IntKind.u64.wrap ((i+j:Nat):Int)=((i+j:Nat):Int):=Qns (by omega);have w3:(((i+j:Nat):Int)).fdiv (2^min 1 64)=(((i+j)/2:Nat):Int):=by
    rw [Int.fdiv_eq_ediv_of_nonneg _ (by decide)];rfl
   have w4:IntKind.i64.wrap (((i+j)/2:Nat):Int)=(((i+j)/2:Nat):Int):=wrapn (by omega);have hh:(i+j)/2<n:=by omega
   have hfh:=hf ((i+j)/2) hh;have w5:=Qan (a:=(i+j)/2) (by omega);generalize hH:(i+j)/2=h at*;by_cases hmh:h<m
   ·rw [h1 h hmh]at hfh;repeat (first|(simp -implicitDefEqProofs only [go_sem,Nat.reduceAdd,Nat.reduceMul,Nat.reduceEqDiff,Nat.reduceLT,Nat.reduceLeDiff,reduceCtorEq,Int.reduceLT,Int.reduceToNat,hA',w1,w2,w3,w4,w5,hc])|((with_reducible refine Qaa hfh ?_ ?_ ?_);rfl;rfl))
    refine⟨⟨(h+1,j),by simp only;omega,hj,hjn⟩,by simp only;omega,Qa3 ⟨by simp [lkp,ren1,ren0],by simp only [lkp];exact hcr,by simp [lkp,ren1,ren0],by simp [lkp,ren1,ren0],trivial⟩⟩
   ·rw [h2 h (by omega) hh]at hfh;repeat (first|(simp -implicitDefEqProofs only [go_sem,Nat.reduceAdd,Nat.reduceMul,Nat.reduceEqDiff,Nat.reduceLT,Nat.reduceLeDiff,reduceCtorEq,Int.reduceLT,Int.reduceToNat,hA',w1,w2,w3,w4,hc])|((with_reducible refine Qaa hfh ?_ ?_ ?_);rfl;rfl))
    refine⟨⟨(i,h),hi,by simp only;omega,by simp only;omega⟩,by simp only;omega,Qa3 ⟨by simp [lkp,ren1,ren0],by simp only [lkp];exact hcr,by simp [lkp,ren1,ren0],by simp [lkp,ren1,ren0],trivial⟩⟩
  ·have hA':=ltF hA;obtain rfl:i=m:=by omega
   repeat (first|(simp -implicitDefEqProofs only [go_sem,Nat.reduceAdd,Nat.reduceMul,Nat.reduceEqDiff,Nat.reduceLT,Nat.reduceLeDiff,reduceCtorEq,hA']))
theorem Zet (p:List Sg) (t:Int) (i:Nat) (h:i<p.length):Qaf Tryz.prog 68 [.int .i64 (i:Int),.rp [.int .i64 t],.rp [.slc (p.map sgPV)]] (.bool (decide (t≤p[i].t))):=by
 have hg:=Qil p i h;have n0:=nnT i;refine Qab (tb:=[]) 12 [.tmp 4] [0,1,2,4] mixed Tryz.func68 rfl (by kernel_rfl) (by kernel_rfl) (by kernel_rfl) (by kernel_rfl) ?_;repeat (first|(simp -implicitDefEqProofs only [go_sem,Nat.reduceAdd,Nat.reduceMul,Nat.reduceEqDiff,Nat.reduceLT,Nat.reduceLeDiff,reduceCtorEq,hg,n0,Int.toNat_natCast])|(with_reducible exact Qae _ _ (by kernel_rfl)))
def Qnn:PV:= .agg [.bool false,.str ⟨#[]⟩,.bool false,.str ⟨#[]⟩,.bool false,.str ⟨#[]⟩,.bool false,.str ⟨#[]⟩]
attribute [go_sem] Qnn
def exA (p:List Sg) (t:Int):Int:=t-(p.getD (atIx p t) sg0).f
def exD (p:List Sg) (t:Int):Int:=(p.getD (atIx p t) sg0).t-(p.getD (atIx p t) sg0).f
def exQ (p:List Sg) (t:Int) (i:Nat):Int:=plQ (p.getD (atIx p t) sg0) (exA p t) (exD p t) i
def exO (p:List Sg) (t:Int):Int:=plO (p.getD (atIx p t) sg0) (exA p t) (exD p t)
def Qv7 (p:List Sg) (t:Int):PV:=if Qbm p=true then(if lasts p t=true then .tup [Qad (exQ p t 0) (exQ p t 1) (exQ p t 2) (exO p t),.int .i64 0]else .tup [Qnn,.int .i64 3])else .tup [Qnn,.int .i64 2]
theorem Qzb {p:List Sg} {t:Int} (hV:Qbm p=true) (hL:lasts p t=true): ∃h:atIx p t<p.length,exA p t=t-p[atIx p t].f∧exD p t=p[atIx p t].t-p[atIx p t].f∧0≤exA p t∧exA p t≤exD p t∧1≤exD p t∧exD p t≤3600000∧Qa7 p[atIx p t]=true∧p.getD (atIx p t) sg0=p[atIx p t]:=by
 unfold lasts at hL;simp only [Bool.and_eq_true,decide_eq_true_eq]at hL;have hi:=Q47 hV hL.2;have h1:=Qq2 hi;have h2:=Qs8 hV hL.1 hi;have hv:=Qdj hV _ hi;have h3:=(Qat hv).1;have e1:exA p t=t-p[atIx p t].f:=by unfold exA;rw [sgD hi]
 have e2:exD p t=p[atIx p t].t-p[atIx p t].f:=by unfold exD;rw [sgD hi]
 exact⟨hi,e1,e2,by omega,by omega,by omega,by omega,hv,sgD hi⟩
set_option maxHeartbeats 1000000 in
theorem Zeu (p:List Sg) (t:Int) (hp: ∀s∈p,okSg s) (hl:p.length≤1000000) (ht:i64 t):Qaf Tryz.prog 43 [Qcs p,.int .i64 t] (Qv7 p t):=by
 have hs:=Qv6 p hp hl;unfold Qcs at hs;unfold Qv7;cases hV:Qbm p with
 |false=>
  rw [hV]at hs;simp only [Bool.false_eq_true,if_false]at hs ⊢;refine Qab (tb:=[]) 49 [.cell 4 95,.tmp 5] [0,1,2,3,4,5,6,7,8,9,16,21] mixed Tryz.func43 rfl (by kernel_rfl) (by kernel_rfl) (by kernel_rfl) (by kernel_rfl) ?_;repeat (first|(simp -implicitDefEqProofs only [go_sem,Nat.reduceAdd,Nat.reduceMul,Nat.reduceEqDiff,Nat.reduceLT,Nat.reduceLeDiff,reduceCtorEq])|((with_reducible refine Qaa hs ?_ ?_ ?_);rfl;rfl))
 |true=>
  rw [hV]at hs;simp only [if_true]at hs ⊢;by_cases c1:pBeg p≤t
  case neg=>
   have c1':(t<pBeg p)=True:=eq_true (by omega);have e:lasts p t=false:=by unfold lasts;rw [decide_eq_false c1];rfl
   rw [e];simp only [Bool.false_eq_true,if_false];refine Qab (tb:=[]) 49 [.cell 4 95,.tmp 5] [0,1,2,3,4,5,6,7,8,9,16,21] mixed Tryz.func43 rfl (by kernel_rfl) (by kernel_rfl) (by kernel_rfl) (by kernel_rfl) ?_;repeat (first|(simp -implicitDefEqProofs only [go_sem,Nat.reduceAdd,Nat.reduceMul,Nat.reduceEqDiff,Nat.reduceLT,Nat.reduceLeDiff,reduceCtorEq,c1'])|((with_reducible refine Qaa hs ?_ ?_ ?_);rfl;rfl))
  have c1':(t<pBeg p)=False:=eq_false (by omega);by_cases c2:t≤pEnd p
  case neg=>
   have c2':(pEnd p<t)=True:=eq_true (by omega);have e:lasts p t=false:=by unfold lasts;rw [decide_eq_false c2,Bool.and_false]
   rw [e];simp only [Bool.false_eq_true,if_false];refine Qab (tb:=[]) 49 [.cell 4 95,.tmp 5] [0,1,2,3,4,5,6,7,8,9,16,21] mixed Tryz.func43 rfl (by kernel_rfl) (by kernel_rfl) (by kernel_rfl) (by kernel_rfl) ?_;repeat (first|(simp -implicitDefEqProofs only [go_sem,Nat.reduceAdd,Nat.reduceMul,Nat.reduceEqDiff,Nat.reduceLT,Nat.reduceLeDiff,reduceCtorEq,c1',c2'])|((with_reducible refine Qaa hs ?_ ?_ ?_);rfl;rfl))
  have c2':(pEnd p<t)=False:=eq_false (by omega);have hL:lasts p t=true:=by unfold lasts;rw [decide_eq_true c1,decide_eq_true c2];rfl
  rw [hL];simp only [if_true];obtain⟨hi,eA,eD,k1,k2,k3,k4,hv,hD⟩:=Qzb hV hL;have hsr:=Zes p.length (atIx p t) 68 [.rp [.int .i64 t],.rp [.slc (p.map sgPV)]] (fun i=>decide (t≤(p.getD i sg0).t)) (by omega) (Nat.le_of_lt hi)
   (fun i h=>by rw [sgD (by omega)];exact decide_eq_false (Int.not_le.2 (Qig h (by omega))))
   (fun i h h'=>by rw [sgD h'];exact decide_eq_true (Int.le_trans (Qq2 hi) (Qfz hV i _ h' h))) rfl rfl
   (fun i h=>by rw [sgD h];exact Zet p t i h)
  have hpl:=Qrk p[atIx p t] (exA p t) (exD p t) (hp _ (List.getElem_mem hi)) (Qfm hv) (Qi7 hv) (by unfold i64;omega) (by unfold i64;omega) (by omega);rw [Zmf]at hpl;unfold exQ exO;rw [hD];have hg:=Qil p (atIx p t) hi;have n0:=nnT (atIx p t);have wa:IntKind.i64.wrap (t-p[atIx p t].f)=exA p t:=by rw [eA];exact Qag (by omega) (by omega)
  have wd:IntKind.i64.wrap (p[atIx p t].t-p[atIx p t].f)=exD p t:=by rw [eD];exact Qag (by omega) (by omega)
  generalize plQ p[atIx p t] (exA p t) (exD p t) 0=q0 at*;generalize plQ p[atIx p t] (exA p t) (exD p t) 1=q1 at*;generalize plQ p[atIx p t] (exA p t) (exD p t) 2=q2 at*;generalize plO p[atIx p t] (exA p t) (exD p t)=q3 at*;unfold sgPV Qa8 at hpl;refine Qab (tb:=[]) 49 [.cell 4 95,.tmp 5] [0,1,2,3,4,5,6,7,8,9,16,21] mixed Tryz.func43 rfl (by kernel_rfl) (by kernel_rfl) (by kernel_rfl) (by kernel_rfl) ?_;repeat (first|(simp -implicitDefEqProofs only [go_sem,Nat.reduceAdd,Nat.reduceMul,Nat.reduceEqDiff,Nat.reduceLT,Nat.reduceLeDiff,reduceCtorEq,List.length_map,c1',c2',hg,n0,wa,wd,Int.toNat_natCast])|((with_reducible refine Qaa hs ?_ ?_ ?_);rfl;rfl)|((with_reducible refine Qaa hsr ?_ ?_ ?_);rfl;rfl)|((with_reducible refine Qaa hpl ?_ ?_ ?_);rfl;rfl)|(with_reducible refine And.intro (Qae _ _ (by kernel_rfl)) ?_))
end Go.Proofs.YtjlkapdmgjocdaaGreat

namespace Go.Proofs.YtjlkapdmgjocdaaGreat
open Go.Vl Go.RowKit Go.Dg
def vPV (x y z:Int):PV:= .agg [.int .i64 x,.int .i64 y,.int .i64 z]
attribute [go_sem] vPV
theorem Qv3 {x o:Int} {B:Nat} (hx:x.natAbs<2^B) (ho:o.natAbs<2^B):(x+x+o).natAbs<2^(B+1+1):=
 Qpt (Qpt hx hx) (Nat.lt_of_lt_of_le ho (Nat.pow_le_pow_right (by decide) (by omega)))
theorem Zyo {p:List Sg} {t:Int} (hp: ∀s∈p,okSg s) (hV:Qbm p=true) (hL:lasts p t=true):(∀i,i<3→(exQ p t i).natAbs<2^2000∧ -1048576≤rnd (exQ p t i) (exO p t)∧rnd (exQ p t i) (exO p t)≤1048576)∧(exO p t).natAbs<2^2000∧0<exO p t:=by
 obtain⟨hi,eA,eD,k1,k2,k3,k4,hv,hD⟩:=Qzb hV hL;have b:=Zvp (a:=exA p t) (d:=exD p t) (hp _ (List.getElem_mem hi)) (Qfm hv) (Qi7 hv) (by unfold i64;omega) (by unfold i64;omega) (by omega);have b2:=fun i h=>Q45 hv k1 k2 k3 i h;unfold exQ exO;rw [hD];refine⟨fun i h=>⟨b.1 i h,?_⟩,b.2,(b2 0 (by decide)).1⟩;obtain⟨h1,h2,h3⟩:=b2 i h;exact Q46 h1 h2 h3
def atPV (p:List Sg) (t:Int):PV:=if Qbm p=true then(if lasts p t=true then .tup [vPV (rnd (exQ p t 0) (exO p t)) (rnd (exQ p t 1) (exO p t)) (rnd (exQ p t 2) (exO p t)),.int .i64 0]else .tup [vPV 0 0 0,.int .i64 3])else .tup [vPV 0 0 0,.int .i64 2]
def sel3 (R:Nat→Int) (i m:Nat):Int:=if m<i then R m else 0
set_option maxHeartbeats 1000000 in
theorem Zyp (p:List Sg) (t:Int) (hp: ∀s∈p,okSg s) (hl:p.length≤1000000) (ht:i64 t):Qaf Tryz.prog 27 [Qcs p,.int .i64 t] (atPV p t):=by
 have he:=Zeu p t hp hl ht;unfold Qv7 at he;unfold atPV;unfold Qcs at he;cases hV:Qbm p with
 |false=>
  rw [hV]at he;simp only [Bool.false_eq_true,if_false]at he ⊢;refine Qab (tb:=[]) 58 [.cell 4 54,.tmp 5] [0,1,4,5,6,7,8,9,10,18,27,28,29] mixed Tryz.func27 rfl (by kernel_rfl) (by kernel_rfl) (by kernel_rfl) (by kernel_rfl) ?_;repeat (first|(simp -implicitDefEqProofs only [go_sem,Nat.reduceAdd,Nat.reduceMul,Nat.reduceEqDiff,Nat.reduceLT,Nat.reduceLeDiff,reduceCtorEq])|((with_reducible refine Qaa he ?_ ?_ ?_);rfl;rfl))
 |true=>
  cases hL:lasts p t with
  |false=>
   rw [hV,hL]at he;simp only [Bool.false_eq_true,if_false,if_true]at he ⊢;refine Qab (tb:=[]) 58 [.cell 4 54,.tmp 5] [0,1,4,5,6,7,8,9,10,18,27,28,29] mixed Tryz.func27 rfl (by kernel_rfl) (by kernel_rfl) (by kernel_rfl) (by kernel_rfl) ?_;repeat (first|(simp -implicitDefEqProofs only [go_sem,Nat.reduceAdd,Nat.reduceMul,Nat.reduceEqDiff,Nat.reduceLT,Nat.reduceLeDiff,reduceCtorEq])|((with_reducible refine Qaa he ?_ ?_ ?_);rfl;rfl))
  |true=>
   rw [hV,hL]at he;simp only [if_true]at he ⊢;obtain⟨hb,ho,h0⟩:=Zyo hp hV hL;have hb0:=hb 0 (by decide);have hbb1:=hb 1 (by decide);have hb2:=hb 2 (by decide);clear hb;generalize exQ p t 0=x0 at*;generalize exQ p t 1=x1 at*;generalize exQ p t 2=x2 at*;generalize exO p t=o at*;have b3:=Qpt ho ho;have a3:=Qgu (Qap ho (by decide)) (Qap ho (by decide)) (Qap b3 (by decide));refine Qab (tb:=[]) 58 [.cell 4 54,.tmp 5] [0,1,4,5,6,7,8,9,10,18,27,28,29] mixed Tryz.func27 rfl (by kernel_rfl) (by kernel_rfl) (by kernel_rfl) (by kernel_rfl) ?_;repeat (first|(simp -implicitDefEqProofs only [go_sem,Nat.reduceAdd,Nat.reduceMul,Nat.reduceEqDiff,Nat.reduceLT,Nat.reduceLeDiff,reduceCtorEq])|((with_reducible refine Qaa he ?_ ?_ ?_);rfl;rfl))
   refine Qar mixed (fun i:{i:Nat // i≤3}=>St.of [(4,.bp 0 3 0 0),(5,.int .i64 0),(6,.bp 106 8 0 0),(8,.bp 400 3 0 0),(27,w3PV x0 x1 x2),(28,.int .i64 (i.1:Int))]
    [(0,{els:=[vPV 0 0 0],esz:=3,ety:=54,fro:=0,live:=true,arr:=false}),(106,{els:=[Qad x0 x1 x2 o],esz:=8,ety:=95,fro:=0,live:=true,arr:=false}),(400,{els:=[vPV (sel3 (fun m=>rnd ([x0,x1,x2].getD m 0) o) i.1 0) (sel3 (fun m=>rnd ([x0,x1,x2].getD m 0) o) i.1 1) (sel3 (fun m=>rnd ([x0,x1,x2].getD m 0) o) i.1 2)],esz:=3,ety:=98,fro:=0,live:=true,arr:=false})]) (fun i=>3-i.1) ⟨0,Nat.zero_le _⟩ ?_ ?_
   ·refine Qaj (θ:=[(0,0),(106,106),(400,400)]) rfl ?_ ?_
    ·simp [Qac,lkp,ren1,ren0,Qai,w3PV]
    ·exact⟨⟨rfl,rfl,rfl,rfl,rfl,.inr ⟨rfl,_,_,rfl,rfl,rfl,rfl⟩⟩,⟨rfl,rfl,rfl,rfl,rfl,.inr ⟨rfl,_,_,rfl,rfl,rfl,rfl⟩⟩,⟨rfl,rfl,rfl,rfl,rfl,.inr ⟨rfl,_,_,rfl,rfl,rfl,rfl⟩⟩,trivial⟩
   ·rintro⟨i,hi⟩;by_cases hA:i<3
    ·have hA':((i:Int)<3)=True:=eq_true (by omega);rcases(show i=0∨i=1∨i=2 by omega)with hi0|hi0|hi0
     ·obtain⟨hb1,hr1,hr2⟩:=hb0;obtain rfl:i=0:=hi0;have ii:Qd0 (rnd x0 o)= .tup [.int .i64 (rnd x0 o),.int .i64 0]:=by unfold Qd0;rw [if_pos (by omega)]
      have wi:=Qnp (x:=rnd x0 o) (Qap (B:=64) (by have:(2:Nat)^64=18446744073709551616:=rfl;omega) (by decide));rw [ii]at wi;have b1:=Qpt hb1 hb1;have b2:=Qv3 hb1 ho;have a1:=Qgu (Qap hb1 (by decide)) (Qap hb1 (by decide)) (Qap b1 (by decide));have a2:=Qgu (Qap b1 (by decide)) (Qap ho (by decide)) (Qap b2 (by decide));have q:=Qi9 b2 (by decide) (Qps b3 (by decide)) (show 0<o+o by omega);have er:(x0+x0+o)/(o+o)=rnd x0 o:=rfl;rw [er]at q;clear er b1 b2 ii;generalize hR:rnd x0 o=R at*;generalize x0+x0+o=S at*;generalize x0+x0=S1 at*;generalize o+o=S2 at*;repeat (first|(simp -implicitDefEqProofs only [go_sem,Nat.reduceAdd,Nat.reduceMul,Nat.reduceEqDiff,Nat.reduceLT,Nat.reduceLeDiff,Nat.reduceSub,reduceCtorEq,Int.reduceLT,Int.reduceAdd,wPV,sel3])|((with_reducible refine Qaa a1 ?_ ?_ ?_);rfl;rfl)|((with_reducible refine Qaa a2 ?_ ?_ ?_);rfl;rfl)|((with_reducible refine Qaa a3 ?_ ?_ ?_);rfl;rfl)|((with_reducible refine Qaa q ?_ ?_ ?_);rfl;rfl)|((with_reducible refine Qaa wi ?_ ?_ ?_);rfl;rfl)|(with_reducible refine And.intro (Qae _ _ (by kernel_rfl)) ?_))
      refine⟨⟨0+1,hA⟩,by simp only;omega,Qaj (θ:=[(0,0),(106,106),(400,400)]) rfl ?_ ?_⟩
      ·simp [Qac,lkp,ren1,ren0,Qai]
      ·subst hR;exact⟨⟨rfl,rfl,rfl,rfl,rfl,.inr ⟨rfl,_,_,rfl,rfl,rfl,rfl⟩⟩,⟨rfl,rfl,rfl,rfl,rfl,.inr ⟨rfl,_,_,rfl,rfl,rfl,rfl⟩⟩,⟨rfl,rfl,rfl,rfl,rfl,.inr ⟨rfl,_,_,rfl,rfl,rfl,rfl⟩⟩,trivial⟩
     ·obtain⟨hb1,hr1,hr2⟩:=hbb1;obtain rfl:i=1:=hi0;have ii:Qd0 (rnd x1 o)= .tup [.int .i64 (rnd x1 o),.int .i64 0]:=by unfold Qd0;rw [if_pos (by omega)]
      have wi:=Qnp (x:=rnd x1 o) (Qap (B:=64) (by have:(2:Nat)^64=18446744073709551616:=rfl;omega) (by decide));rw [ii]at wi;have b1:=Qpt hb1 hb1;have b2:=Qv3 hb1 ho;have a1:=Qgu (Qap hb1 (by decide)) (Qap hb1 (by decide)) (Qap b1 (by decide));have a2:=Qgu (Qap b1 (by decide)) (Qap ho (by decide)) (Qap b2 (by decide));have q:=Qi9 b2 (by decide) (Qps b3 (by decide)) (show 0<o+o by omega);have er:(x1+x1+o)/(o+o)=rnd x1 o:=rfl;rw [er]at q;clear er b1 b2 ii;generalize hR:rnd x1 o=R at*;generalize x1+x1+o=S at*;generalize x1+x1=S1 at*;generalize o+o=S2 at*;repeat (first|(simp -implicitDefEqProofs only [go_sem,Nat.reduceAdd,Nat.reduceMul,Nat.reduceEqDiff,Nat.reduceLT,Nat.reduceLeDiff,Nat.reduceSub,reduceCtorEq,Int.reduceLE,Int.reduceLT,Int.reduceToNat,Int.reduceAdd,wPV,sel3])|((with_reducible refine Qaa a1 ?_ ?_ ?_);rfl;rfl)|((with_reducible refine Qaa a2 ?_ ?_ ?_);rfl;rfl)|((with_reducible refine Qaa a3 ?_ ?_ ?_);rfl;rfl)|((with_reducible refine Qaa q ?_ ?_ ?_);rfl;rfl)|((with_reducible refine Qaa wi ?_ ?_ ?_);rfl;rfl)|(with_reducible refine And.intro (Qae _ _ (by kernel_rfl)) ?_))
      refine⟨⟨1+1,hA⟩,by simp only;omega,Qaj (θ:=[(0,0),(106,106),(400,400)]) rfl ?_ ?_⟩
      ·simp [Qac,lkp,ren1,ren0,Qai]
      ·subst hR;exact⟨⟨rfl,rfl,rfl,rfl,rfl,.inr ⟨rfl,_,_,rfl,rfl,rfl,rfl⟩⟩,⟨rfl,rfl,rfl,rfl,rfl,.inr ⟨rfl,_,_,rfl,rfl,rfl,rfl⟩⟩,⟨rfl,rfl,rfl,rfl,rfl,.inr ⟨rfl,_,_,rfl,rfl,rfl,rfl⟩⟩,trivial⟩
     ·obtain⟨hb1,hr1,hr2⟩:=hb2;obtain rfl:i=2:=hi0;have ii:Qd0 (rnd x2 o)= .tup [.int .i64 (rnd x2 o),.int .i64 0]:=by unfold Qd0;rw [if_pos (by omega)]
      have wi:=Qnp (x:=rnd x2 o) (Qap (B:=64) (by have:(2:Nat)^64=18446744073709551616:=rfl;omega) (by decide));rw [ii]at wi;have b1:=Qpt hb1 hb1;have b2:=Qv3 hb1 ho;have a1:=Qgu (Qap hb1 (by decide)) (Qap hb1 (by decide)) (Qap b1 (by decide));have a2:=Qgu (Qap b1 (by decide)) (Qap ho (by decide)) (Qap b2 (by decide));have q:=Qi9 b2 (by decide) (Qps b3 (by decide)) (show 0<o+o by omega);have er:(x2+x2+o)/(o+o)=rnd x2 o:=rfl;rw [er]at q;clear er b1 b2 ii;generalize hR:rnd x2 o=R at*;generalize x2+x2+o=S at*;generalize x2+x2=S1 at*;generalize o+o=S2 at*;repeat (first|(simp -implicitDefEqProofs only [go_sem,Nat.reduceAdd,Nat.reduceMul,Nat.reduceEqDiff,Nat.reduceLT,Nat.reduceLeDiff,Nat.reduceSub,reduceCtorEq,Int.reduceLE,Int.reduceLT,Int.reduceToNat,Int.reduceAdd,wPV,sel3])|((with_reducible refine Qaa a1 ?_ ?_ ?_);rfl;rfl)|((with_reducible refine Qaa a2 ?_ ?_ ?_);rfl;rfl)|((with_reducible refine Qaa a3 ?_ ?_ ?_);rfl;rfl)|((with_reducible refine Qaa q ?_ ?_ ?_);rfl;rfl)|((with_reducible refine Qaa wi ?_ ?_ ?_);rfl;rfl)|(with_reducible refine And.intro (Qae _ _ (by kernel_rfl)) ?_))
      refine⟨⟨2+1,hA⟩,by simp only;omega,Qaj (θ:=[(0,0),(106,106),(400,400)]) rfl ?_ ?_⟩
      ·simp [Qac,lkp,ren1,ren0,Qai]
      ·subst hR;exact⟨⟨rfl,rfl,rfl,rfl,rfl,.inr ⟨rfl,_,_,rfl,rfl,rfl,rfl⟩⟩,⟨rfl,rfl,rfl,rfl,rfl,.inr ⟨rfl,_,_,rfl,rfl,rfl,rfl⟩⟩,⟨rfl,rfl,rfl,rfl,rfl,.inr ⟨rfl,_,_,rfl,rfl,rfl,rfl⟩⟩,trivial⟩
    ·have hA':((i:Int)<3)=False:=eq_false (by omega);obtain rfl:i=3:=by omega
     have z0:sel3 (fun m=>rnd ([x0,x1,x2].getD m 0) o) 3 0=rnd x0 o:=rfl;have z1:sel3 (fun m=>rnd ([x0,x1,x2].getD m 0) o) 3 1=rnd x1 o:=rfl;have z2:sel3 (fun m=>rnd ([x0,x1,x2].getD m 0) o) 3 2=rnd x2 o:=rfl;simp only [z0,z1,z2];repeat (first|(simp -implicitDefEqProofs only [go_sem,Nat.reduceAdd,Nat.reduceMul,Nat.reduceEqDiff,Nat.reduceLT,Nat.reduceLeDiff,Nat.reduceSub,reduceCtorEq,Int.reduceLE,Int.reduceLT,Int.reduceToNat]))
end Go.Proofs.YtjlkapdmgjocdaaGreat

namespace Go.Proofs.YtjlkapdmgjocdaaGreat
open Go.Vl Go.RowKit Go.Dg
def dkB (ety:Nat):Box:={els:=[.agg [.int .i64 0]],esz:=1,ety:=ety,fro:=0,live:=true,arr:=false}
attribute [go_sem] dkB
abbrev dkT:Nat:=202
theorem Zmb (x:Int):Qdd Tryz.prog 141 [.bp 1000000 1 0 0,wPV x,.int .i64 0] [(1000000,dkB dkT)] (wPV x) [(1000000,dkB dkT)]:=by
 refine Qcz (tb:=[]) 17 [.cell 6 93] [0,1,2,4,6,11] mixed Tryz.func141 rfl (by kernel_rfl) (by kernel_rfl) (by kernel_rfl) (by kernel_rfl) (by rfl) ?_;repeat (first|(simp -implicitDefEqProofs only [go_sem,Nat.reduceAdd,Nat.reduceMul,Nat.reduceEqDiff,Nat.reduceLT,Nat.reduceLeDiff,reduceCtorEq,wPV]))
 refine Qb9 (.inl rfl) ?_;simp -implicitDefEqProofs only [go_sem,Nat.reduceAdd,Nat.reduceEqDiff,reduceCtorEq];refine Qaj (θ:=[(1000000,1000000)]) rfl ?_ ?_
 ·simp [Qac,lkp,ren1,ren0,Qai]
 ·exact⟨⟨rfl,rfl,rfl,rfl,rfl,.inr ⟨rfl,_,_,rfl,rfl,rfl,rfl⟩⟩,trivial⟩
theorem Qtq {x y:Int} (hx:x.natAbs<2^65536) (hy:y.natAbs<2^65536) (h:(x*y).natAbs<2^65536):Qdd Tryz.prog 132 [.bp 1000000 1 0 0,wPV x,wPV y] [(1000000,dkB dkT)] (wPV (x*y)) [(1000000,dkB dkT)]:=by
 have h1:=Zmh hx hy;rw [Qjb h]at h1;have hn:=Zmb (x*y);generalize x*y=S at*

 refine Qcz (tb:=[(108,[(1000000,1000000)],[])]) 16 [.cell 6 93] [0,1,2,4,5,6] mixed Tryz.func132 rfl (by kernel_rfl) (by kernel_rfl) (by kernel_rfl) (by kernel_rfl) (by rfl) ?_;repeat (first|(simp -implicitDefEqProofs only [go_sem,Nat.reduceAdd,Nat.reduceMul,Nat.reduceEqDiff,Nat.reduceLT,Nat.reduceLeDiff,reduceCtorEq,wPV])|((with_reducible refine Qaa h1 ?_ ?_ ?_);rfl;rfl)|((with_reducible refine Qbn hn ?_ ?_ ?_ ?_);rfl;rfl;rfl)|(with_reducible refine And.intro (Qae _ _ (by kernel_rfl)) ?_))
 refine Qb9 (.inl rfl) ?_;simp -implicitDefEqProofs only [go_sem,Nat.reduceAdd,Nat.reduceEqDiff,reduceCtorEq];refine Qaj (θ:=[(1000000,1000000)]) rfl ?_ ?_
 ·simp [Qac,lkp,ren1,ren0,Qai]
 ·exact⟨⟨rfl,rfl,rfl,rfl,rfl,.inr ⟨rfl,_,_,rfl,rfl,rfl,rfl⟩⟩,trivial⟩
theorem Zmc {x y:Int} (hx:x.natAbs<2^65536) (hy:y.natAbs<2^65536) (h:(x+y).natAbs<2^65536):Qdd Tryz.prog 133 [.bp 1000000 1 0 0,wPV x,wPV y] [(1000000,dkB dkT)] (wPV (x+y)) [(1000000,dkB dkT)]:=by
 have h1:=Zmi hx hy;rw [Qjb h]at h1;have hn:=Zmb (x+y);generalize x+y=S at*

 refine Qcz (tb:=[(108,[(1000000,1000000)],[])]) 16 [.cell 6 93] [0,1,2,4,5,6] mixed Tryz.func133 rfl (by kernel_rfl) (by kernel_rfl) (by kernel_rfl) (by kernel_rfl) (by rfl) ?_;repeat (first|(simp -implicitDefEqProofs only [go_sem,Nat.reduceAdd,Nat.reduceMul,Nat.reduceEqDiff,Nat.reduceLT,Nat.reduceLeDiff,reduceCtorEq,wPV])|((with_reducible refine Qaa h1 ?_ ?_ ?_);rfl;rfl)|((with_reducible refine Qbn hn ?_ ?_ ?_ ?_);rfl;rfl;rfl)|(with_reducible refine And.intro (Qae _ _ (by kernel_rfl)) ?_))
 refine Qb9 (.inl rfl) ?_;simp -implicitDefEqProofs only [go_sem,Nat.reduceAdd,Nat.reduceEqDiff,reduceCtorEq];refine Qaj (θ:=[(1000000,1000000)]) rfl ?_ ?_
 ·simp [Qac,lkp,ren1,ren0,Qai]
 ·exact⟨⟨rfl,rfl,rfl,rfl,rfl,.inr ⟨rfl,_,_,rfl,rfl,rfl,rfl⟩⟩,trivial⟩
end Go.Proofs.YtjlkapdmgjocdaaGreat
