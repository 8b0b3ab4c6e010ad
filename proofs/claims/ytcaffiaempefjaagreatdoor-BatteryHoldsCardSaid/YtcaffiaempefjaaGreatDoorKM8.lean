/-
  KM5, KM6, KM7, KM8 (merged for the claim).
-/
import Derived.Test.YtcaffiaempefjaaGreatDoorDbe
import Derived.Test.YtcaffiaempefjaaGreatDoorDsi
set_option linter.unusedSimpArgs false
set_option linter.unusedVariables false
namespace Go.Proofs.YtcaffiaempefjaaGreatDoor
open Go.Vl Go.RowKit Go.Dg
theorem Qp4 {m B:Nat} (h:m<2^B) (hk:B≤65000):m<2^65000:=Qfz (C:=65000) h hk
def w3PV (x y z:Int):PV:= .agg [.bool (decide (x<0)),.str (mB x),.bool (decide (y<0)),.str (mB y),.bool (decide (z<0)),.str (mB z)]
def Qad (x y z o:Int):PV:= .agg [.bool (decide (x<0)),.str (mB x),.bool (decide (y<0)),.str (mB y),.bool (decide (z<0)),.str (mB z),.bool (decide (o<0)),.str (mB o)]
theorem nc0:((0:Nat):Int)=0:=rfl
theorem nc1:((1:Nat):Int)=1:=rfl
theorem nc2:((2:Nat):Int)=2:=rfl
theorem nc3:((3:Nat):Int)=3:=rfl
theorem wr1:IntKind.i64.wrap 1=1:=rfl
theorem wr2:IntKind.i64.wrap 2=2:=rfl
theorem wr3:IntKind.i64.wrap 3=3:=rfl
attribute [go_sem] w3PV Qad nc0 nc1 nc2 nc3 wr1 wr2 wr3
theorem mB_0:mB 0=⟨#[]⟩:=by unfold mB;rw [(Qmu 0).2 rfl]
def sel (P:Nat→Int) (i m:Nat) (X:Int):Int:=if m=i then X else at3 P i m
def plV (s:Sg) (a d:Int):PV:=Qad (plP s a d 0/(plG s a d 3:Int)) (plP s a d 1/(plG s a d 3:Int)) (plP s a d 2/(plG s a d 3:Int)) (s.o*d^5/(plG s a d 3:Int))
set_option maxHeartbeats 2000000 in
theorem Qr4 (s:Sg) (a d:Int) (hs:okSg s) (h6: ∀c∈s.ax,c.length≤6) (ho:1≤s.o) (ha:i64 a) (hd:i64 d) (hd1:1≤d):
  Qaf Tryz.prog 107 [sgPV s,.int .i64 a,.int .i64 d] (plV s a d):=by
 obtain⟨⟨a1,a2⟩,⟨a3,a4⟩,⟨a5,a6⟩,hc,hl⟩:=hs;have ba:=Qa2 ha;have bd':=Qa2 hd;have bo:=Qa2 ⟨a5,a6⟩;have w1:=Qfe s.o a5 a6;have p5:=Qed d 5 64 hd.1 hd.2 (by decide) (by decide) bd';have bd5:=Qt1 bd' 5;have bod:=Zew (s:=s) bo bd';have m1:=Qio (Qav bo (by decide)) (Qav bd5 (by decide)) (Qav bod (by decide));have hax:=Q67 s;have hG0:(plG s a d 0:Int)=s.o*d^5:=by
  have h:0<s.o*d^5:=Int.mul_pos (by omega) (Int.pow_pos (by omega));show(((s.o*d^5).natAbs:Nat):Int)=_;omega
 have hcB: ∀c∈s.ax,bd 64 c:=fun c hx x hx2=>Qa2 (hc c hx x hx2);have bP:=Qy4 hcB h6 ba bd';have bG:=Zwr hcB h6 bo ba bd';generalize hO:s.o*d^5=O at*;have hsg:sgPV s= .agg [.int .i64 s.f,.int .i64 s.t,.int .i64 s.o,.slc (s.x.map (PV.int .i64)),.slc (s.y.map (PV.int .i64)),.slc (s.z.map (PV.int .i64))]:=rfl;rw [hsg]at hax ⊢;refine Qab (tb:=[]) 74 [.cell 6 38] [0,1,2,3,6,7,8,9,10,11,12,13,22,23,24,27,28,29,30] mixed Tryz.func107 rfl (by kernel_rfl) ?_;repeat (first|simp -implicitDefEqProofs only [go_sem,seval,wPV]|(with_reducible refine Qaa w1 ?_ ?_ ?_);rfl;rfl|(with_reducible refine Qaa p5 ?_ ?_ ?_);rfl;rfl|(with_reducible refine Qaa m1 ?_ ?_ ?_);rfl;rfl|(with_reducible refine Qaa hax ?_ ?_ ?_);rfl;rfl)
 refine Qat mixed (fun i:{i:Nat // i≤3}=>St.of [(1,.int .i64 a),(2,.int .i64 d),(6,.bp 1 8 0 0),(7,.bp 100 6 0 0),(8,.bp 206 2 0 0),(9,.bp 301 2 0 0),(22,.agg [Qas s.x,Qas s.y,Qas s.z]),(23,.int .i64 (i.1:Int))]
  [(1,{els:=[.agg [.bool false,.str ⟨#[]⟩,.bool false,.str ⟨#[]⟩,.bool false,.str ⟨#[]⟩,.bool false,.str ⟨#[]⟩]],esz:=8,ety:=38,fro:=0,live:=true,arr:=false}),(100,{els:=[w3PV (at3 (plP s a d) i.1 0) (at3 (plP s a d) i.1 1) (at3 (plP s a d) i.1 2)],esz:=6,ety:=173,fro:=0,live:=true,arr:=false}),(206,{els:=[wPV O],esz:=2,ety:=36,fro:=0,live:=true,arr:=false}),(301,{els:=[wPV ((plG s a d i.1:Nat):Int)],esz:=2,ety:=36,fro:=0,live:=true,arr:=false})]) (fun i=>3-i.1) ⟨0,Nat.zero_le _⟩ ?_ ?_
 ·refine Qak (θ:=[(1,1),(100,100),(206,206),(301,301)]) rfl ?_ ?_
  ·simp [Qae,lkp,ren1,ren0,Qan,Qas]
  ·refine⟨⟨rfl,rfl,rfl,rfl,rfl,.inr ⟨rfl,_,_,rfl,rfl,rfl,rfl⟩⟩,⟨rfl,rfl,rfl,rfl,rfl,.inr ⟨rfl,_,_,rfl,rfl,?_,rfl⟩⟩,⟨rfl,rfl,rfl,rfl,rfl,.inr ⟨rfl,_,_,rfl,rfl,rfl,rfl⟩⟩,⟨rfl,rfl,rfl,rfl,rfl,.inr ⟨rfl,_,_,rfl,rfl,?_,rfl⟩⟩,trivial⟩
   ·simp only [at3,Nat.not_lt_zero,if_false,w3PV,mB_0];rfl
   ·simp only [hG0];rfl
 ·rintro⟨i,hi⟩;by_cases hA:i<3
  ·have hA':((i:Int)<3)=True:=eq_true (by omega);have hA2:=ltT hA;have h0:=nnT i;have hx:=Qwn s i hA;have hwk:=Qai (a:=i) (by omega);rcases(show i=0∨i=1∨i=2 by omega)with hi0|hi0|hi0
   ·skip
    obtain rfl:i=0:=hi0;have hm:s.ax.getD 0 []=s.ax[0]'hA:=rfl;have hP:plP s a d 0=sm (plcT (s.ax[0]'hA) a d) (s.ax[0]'hA).length:=rfl;have hcx:=hc (s.ax[0]) (List.getElem_mem hA);have hlx:=h6 (s.ax[0]) (List.getElem_mem hA);have bPi:=bP 0 (by omega);have bGi:=bG 0 (by omega);have hGs:=Qdq s a d 0;generalize s.ax[0]'hA=c at*;repeat simp -implicitDefEqProofs only [go_sem,seval,hx,List.length_map,at3]
    refine Qat mixed (fun k:{k:Nat // k≤c.length}=>St.of [(1,.int .i64 a),(2,.int .i64 d),(6,.bp 1 8 0 0),(7,.bp 100 6 0 0),(8,.bp 206 2 0 0),(9,.bp 301 2 0 0),(22,.agg [Qas s.x,Qas s.y,Qas s.z]),(23,.int .i64 0),(10,.int .i64 0),(27,Qas c),(28,.int .i64 (c.length:Int)),(29,.int .i64 (k.1:Int))]
     [(1,{els:=[.agg [.bool false,.str ⟨#[]⟩,.bool false,.str ⟨#[]⟩,.bool false,.str ⟨#[]⟩,.bool false,.str ⟨#[]⟩]],esz:=8,ety:=38,fro:=0,live:=true,arr:=false}),(100,{els:=[w3PV (sel (plP s a d) 0 0 (sm (plcT c a d) k.1)) (sel (plP s a d) 0 1 (sm (plcT c a d) k.1)) (sel (plP s a d) 0 2 (sm (plcT c a d) k.1))],esz:=6,ety:=173,fro:=0,live:=true,arr:=false}),(206,{els:=[wPV O],esz:=2,ety:=36,fro:=0,live:=true,arr:=false}),(301,{els:=[wPV ((plG s a d 0:Nat):Int)],esz:=2,ety:=36,fro:=0,live:=true,arr:=false})]) (fun k=>c.length-k.1) ⟨0,Nat.zero_le _⟩ ?_ ?_
    ·refine Qak (θ:=[(1,1),(100,100),(206,206),(301,301)]) rfl ?_ ?_
     ·simp [Qae,lkp,ren1,ren0,Qan,Qas]
     ·refine⟨⟨rfl,rfl,rfl,rfl,rfl,.inr ⟨rfl,_,_,rfl,rfl,rfl,rfl⟩⟩,⟨rfl,rfl,rfl,rfl,rfl,.inr ⟨rfl,_,_,rfl,rfl,?_,rfl⟩⟩,⟨rfl,rfl,rfl,rfl,rfl,.inr ⟨rfl,_,_,rfl,rfl,rfl,rfl⟩⟩,⟨rfl,rfl,rfl,rfl,rfl,.inr ⟨rfl,_,_,rfl,rfl,rfl,rfl⟩⟩,trivial⟩;simp only [sel,at3,sm];rfl
    ·rintro⟨k,hk⟩;by_cases hB:k<c.length
     ·have hB':=ltT hB;have n0:=nnT k;have hgk:=Qcv c k hB;have hwk2:=Qai (a:=k) (by omega);have w5:IntKind.i64.wrap (5-(k:Int))=((5-k:Nat):Int):=by rw [Qah (by omega) (by omega)];omega
      obtain⟨k1,k2⟩:=hcx _ (List.getElem_mem hB);have hcb:bd 64 c:=fun x hx=>Qa2 (hcx x hx);have x1:=hcb _ (List.getElem_mem hB);have o1:=Qfe c[k] k1 k2;have q1:=Qed a k 64 ha.1 ha.2 (by omega) (by decide) ba;have q2:=Qed d (5-k) 64 hd.1 hd.2 (by omega) (by decide) bd';obtain⟨t1,t2,t3,t4⟩:=Qi4 hcb ba bd' k (by omega);have mm1:=Qio (Qav t1 (by decide)) (Qav t2 (by decide)) (Qav t3 (by decide));have eT:plcT c a d k=c[k]*(a^k*d^(5-k)):=by unfold plcT;rw [Qc5 hB]
      rw [eT]at t4;have mm2:=Qio (Qav x1 (by decide)) (Qav t3 (by decide)) (Qav t4 (by decide));rw [←eT]at mm2 t4;have y1:=Qec hcb ba bd' k (by omega);have y2:=Qec hcb ba bd' (k+1) (by omega);have es:sm (plcT c a d) (k+1)=sm (plcT c a d) k+plcT c a d k:=rfl;rw [es]at y2;have a1:=Qhg (Qav y1 (by decide)) (Qav t4 (by decide)) (Qav y2 (by decide));rw [←es]at a1;clear y1 y2 t1 t2 t3 t4 es eT hP;generalize hX:sm (plcT c a d) (k+1)=X at*;generalize sm (plcT c a d) k=Y at*;generalize plcT c a d k=T at*;generalize a^k*d^(5-k)=U at*;generalize a^k=U1 at*;generalize d^(5-k)=U2 at*;repeat (first|simp -implicitDefEqProofs only [go_sem,seval,wPV,hB',n0,hgk,hwk2,w5,sel,at3,Int.toNat_natCast]|(with_reducible refine Qaa o1 ?_ ?_ ?_);rfl;rfl|(with_reducible refine Qaa q1 ?_ ?_ ?_);rfl;rfl|(with_reducible refine Qaa q2 ?_ ?_ ?_);rfl;rfl|(with_reducible refine Qaa mm1 ?_ ?_ ?_);rfl;rfl|(with_reducible refine Qaa mm2 ?_ ?_ ?_);rfl;rfl|(with_reducible refine Qaa a1 ?_ ?_ ?_);rfl;rfl|(with_reducible refine And.intro (Qac _ _ (by kernel_rfl)) ?_))
      refine⟨⟨k+1,hB⟩,by simp only;omega,Qak (θ:=[(1,1),(100,100),(206,206),(301,301)]) rfl ?_ ?_⟩
      ·simp [Qae,lkp,ren1,ren0,Qan,Qas]
      ·simp only [hX];exact⟨⟨rfl,rfl,rfl,rfl,rfl,.inr ⟨rfl,_,_,rfl,rfl,rfl,rfl⟩⟩,⟨rfl,rfl,rfl,rfl,rfl,.inr ⟨rfl,_,_,rfl,rfl,rfl,rfl⟩⟩,⟨rfl,rfl,rfl,rfl,rfl,.inr ⟨rfl,_,_,rfl,rfl,rfl,rfl⟩⟩,⟨rfl,rfl,rfl,rfl,rfl,.inr ⟨rfl,_,_,rfl,rfl,rfl,rfl⟩⟩,trivial⟩
     ·have hB':=ltF hB;obtain rfl:k=c.length:=by omega
      have gg:=Qp3 (Qav bGi (by decide)) (Qav bPi (by decide));rw [Int.natAbs_natCast,←hGs]at gg;rw [hP]at gg;generalize hX:sm (plcT c a d) c.length=X at*;repeat (first|simp -implicitDefEqProofs only [go_sem,seval,wPV,hB',sel,at3]|(with_reducible refine Qaa gg ?_ ?_ ?_);rfl;rfl|(with_reducible refine And.intro (Qac _ _ (by kernel_rfl)) ?_))
      refine⟨⟨0+1,hA⟩,by simp only;omega,Qak (θ:=[(1,1),(100,100),(206,206),(301,301)]) rfl ?_ ?_⟩
      ·simp [Qae,lkp,ren1,ren0,Qan,Qas]
      ·simp only [at3,hP,hX];exact⟨⟨rfl,rfl,rfl,rfl,rfl,.inr ⟨rfl,_,_,rfl,rfl,rfl,rfl⟩⟩,⟨rfl,rfl,rfl,rfl,rfl,.inr ⟨rfl,_,_,rfl,rfl,rfl,rfl⟩⟩,⟨rfl,rfl,rfl,rfl,rfl,.inr ⟨rfl,_,_,rfl,rfl,rfl,rfl⟩⟩,⟨rfl,rfl,rfl,rfl,rfl,.inr ⟨rfl,_,_,rfl,rfl,rfl,rfl⟩⟩,trivial⟩
   ·skip
    obtain rfl:i=1:=hi0;have hm:s.ax.getD 1 []=s.ax[1]'hA:=rfl;have hP:plP s a d 1=sm (plcT (s.ax[1]'hA) a d) (s.ax[1]'hA).length:=rfl;have hcx:=hc (s.ax[1]) (List.getElem_mem hA);have hlx:=h6 (s.ax[1]) (List.getElem_mem hA);have bPi:=bP 1 (by omega);have bGi:=bG 1 (by omega);have hGs:=Qdq s a d 1;generalize s.ax[1]'hA=c at*;repeat simp -implicitDefEqProofs only [go_sem,seval,hx,List.length_map,at3]
    refine Qat mixed (fun k:{k:Nat // k≤c.length}=>St.of [(1,.int .i64 a),(2,.int .i64 d),(6,.bp 1 8 0 0),(7,.bp 100 6 0 0),(8,.bp 206 2 0 0),(9,.bp 301 2 0 0),(22,.agg [Qas s.x,Qas s.y,Qas s.z]),(23,.int .i64 1),(10,.int .i64 1),(27,Qas c),(28,.int .i64 (c.length:Int)),(29,.int .i64 (k.1:Int))]
     [(1,{els:=[.agg [.bool false,.str ⟨#[]⟩,.bool false,.str ⟨#[]⟩,.bool false,.str ⟨#[]⟩,.bool false,.str ⟨#[]⟩]],esz:=8,ety:=38,fro:=0,live:=true,arr:=false}),(100,{els:=[w3PV (sel (plP s a d) 1 0 (sm (plcT c a d) k.1)) (sel (plP s a d) 1 1 (sm (plcT c a d) k.1)) (sel (plP s a d) 1 2 (sm (plcT c a d) k.1))],esz:=6,ety:=173,fro:=0,live:=true,arr:=false}),(206,{els:=[wPV O],esz:=2,ety:=36,fro:=0,live:=true,arr:=false}),(301,{els:=[wPV ((plG s a d 1:Nat):Int)],esz:=2,ety:=36,fro:=0,live:=true,arr:=false})]) (fun k=>c.length-k.1) ⟨0,Nat.zero_le _⟩ ?_ ?_
    ·refine Qak (θ:=[(1,1),(100,100),(206,206),(301,301)]) rfl ?_ ?_
     ·simp [Qae,lkp,ren1,ren0,Qan,Qas]
     ·refine⟨⟨rfl,rfl,rfl,rfl,rfl,.inr ⟨rfl,_,_,rfl,rfl,rfl,rfl⟩⟩,⟨rfl,rfl,rfl,rfl,rfl,.inr ⟨rfl,_,_,rfl,rfl,?_,rfl⟩⟩,⟨rfl,rfl,rfl,rfl,rfl,.inr ⟨rfl,_,_,rfl,rfl,rfl,rfl⟩⟩,⟨rfl,rfl,rfl,rfl,rfl,.inr ⟨rfl,_,_,rfl,rfl,rfl,rfl⟩⟩,trivial⟩;simp only [sel,at3,sm];rfl
    ·rintro⟨k,hk⟩;by_cases hB:k<c.length
     ·have hB':=ltT hB;have n0:=nnT k;have hgk:=Qcv c k hB;have hwk2:=Qai (a:=k) (by omega);have w5:IntKind.i64.wrap (5-(k:Int))=((5-k:Nat):Int):=by rw [Qah (by omega) (by omega)];omega
      obtain⟨k1,k2⟩:=hcx _ (List.getElem_mem hB);have hcb:bd 64 c:=fun x hx=>Qa2 (hcx x hx);have x1:=hcb _ (List.getElem_mem hB);have o1:=Qfe c[k] k1 k2;have q1:=Qed a k 64 ha.1 ha.2 (by omega) (by decide) ba;have q2:=Qed d (5-k) 64 hd.1 hd.2 (by omega) (by decide) bd';obtain⟨t1,t2,t3,t4⟩:=Qi4 hcb ba bd' k (by omega);have mm1:=Qio (Qav t1 (by decide)) (Qav t2 (by decide)) (Qav t3 (by decide));have eT:plcT c a d k=c[k]*(a^k*d^(5-k)):=by unfold plcT;rw [Qc5 hB]
      rw [eT]at t4;have mm2:=Qio (Qav x1 (by decide)) (Qav t3 (by decide)) (Qav t4 (by decide));rw [←eT]at mm2 t4;have y1:=Qec hcb ba bd' k (by omega);have y2:=Qec hcb ba bd' (k+1) (by omega);have es:sm (plcT c a d) (k+1)=sm (plcT c a d) k+plcT c a d k:=rfl;rw [es]at y2;have a1:=Qhg (Qav y1 (by decide)) (Qav t4 (by decide)) (Qav y2 (by decide));rw [←es]at a1;clear y1 y2 t1 t2 t3 t4 es eT hP;generalize hX:sm (plcT c a d) (k+1)=X at*;generalize sm (plcT c a d) k=Y at*;generalize plcT c a d k=T at*;generalize a^k*d^(5-k)=U at*;generalize a^k=U1 at*;generalize d^(5-k)=U2 at*;repeat (first|simp -implicitDefEqProofs only [go_sem,seval,wPV,hB',n0,hgk,hwk2,w5,sel,at3,Int.toNat_natCast]|(with_reducible refine Qaa o1 ?_ ?_ ?_);rfl;rfl|(with_reducible refine Qaa q1 ?_ ?_ ?_);rfl;rfl|(with_reducible refine Qaa q2 ?_ ?_ ?_);rfl;rfl|(with_reducible refine Qaa mm1 ?_ ?_ ?_);rfl;rfl|(with_reducible refine Qaa mm2 ?_ ?_ ?_);rfl;rfl|(with_reducible refine Qaa a1 ?_ ?_ ?_);rfl;rfl|(with_reducible refine And.intro (Qac _ _ (by kernel_rfl)) ?_))
      refine⟨⟨k+1,hB⟩,by simp only;omega,Qak (θ:=[(1,1),(100,100),(206,206),(301,301)]) rfl ?_ ?_⟩
      ·simp [Qae,lkp,ren1,ren0,Qan,Qas]
      ·simp only [hX];exact⟨⟨rfl,rfl,rfl,rfl,rfl,.inr ⟨rfl,_,_,rfl,rfl,rfl,rfl⟩⟩,⟨rfl,rfl,rfl,rfl,rfl,.inr ⟨rfl,_,_,rfl,rfl,rfl,rfl⟩⟩,⟨rfl,rfl,rfl,rfl,rfl,.inr ⟨rfl,_,_,rfl,rfl,rfl,rfl⟩⟩,⟨rfl,rfl,rfl,rfl,rfl,.inr ⟨rfl,_,_,rfl,rfl,rfl,rfl⟩⟩,trivial⟩
     ·have hB':=ltF hB;obtain rfl:k=c.length:=by omega
      have gg:=Qp3 (Qav bGi (by decide)) (Qav bPi (by decide));rw [Int.natAbs_natCast,←hGs]at gg;rw [hP]at gg;generalize hX:sm (plcT c a d) c.length=X at*;repeat (first|simp -implicitDefEqProofs only [go_sem,seval,wPV,hB',sel,at3]|(with_reducible refine Qaa gg ?_ ?_ ?_);rfl;rfl|(with_reducible refine And.intro (Qac _ _ (by kernel_rfl)) ?_))
      refine⟨⟨1+1,hA⟩,by simp only;omega,Qak (θ:=[(1,1),(100,100),(206,206),(301,301)]) rfl ?_ ?_⟩
      ·simp [Qae,lkp,ren1,ren0,Qan,Qas]
      ·simp only [at3,hP,hX];exact⟨⟨rfl,rfl,rfl,rfl,rfl,.inr ⟨rfl,_,_,rfl,rfl,rfl,rfl⟩⟩,⟨rfl,rfl,rfl,rfl,rfl,.inr ⟨rfl,_,_,rfl,rfl,rfl,rfl⟩⟩,⟨rfl,rfl,rfl,rfl,rfl,.inr ⟨rfl,_,_,rfl,rfl,rfl,rfl⟩⟩,⟨rfl,rfl,rfl,rfl,rfl,.inr ⟨rfl,_,_,rfl,rfl,rfl,rfl⟩⟩,trivial⟩
   ·skip
    obtain rfl:i=2:=hi0;have hm:s.ax.getD 2 []=s.ax[2]'hA:=rfl;have hP:plP s a d 2=sm (plcT (s.ax[2]'hA) a d) (s.ax[2]'hA).length:=rfl;have hcx:=hc (s.ax[2]) (List.getElem_mem hA);have hlx:=h6 (s.ax[2]) (List.getElem_mem hA);have bPi:=bP 2 (by omega);have bGi:=bG 2 (by omega);have hGs:=Qdq s a d 2;generalize s.ax[2]'hA=c at*;repeat simp -implicitDefEqProofs only [go_sem,seval,hx,List.length_map,at3]
    refine Qat mixed (fun k:{k:Nat // k≤c.length}=>St.of [(1,.int .i64 a),(2,.int .i64 d),(6,.bp 1 8 0 0),(7,.bp 100 6 0 0),(8,.bp 206 2 0 0),(9,.bp 301 2 0 0),(22,.agg [Qas s.x,Qas s.y,Qas s.z]),(23,.int .i64 2),(10,.int .i64 2),(27,Qas c),(28,.int .i64 (c.length:Int)),(29,.int .i64 (k.1:Int))]
     [(1,{els:=[.agg [.bool false,.str ⟨#[]⟩,.bool false,.str ⟨#[]⟩,.bool false,.str ⟨#[]⟩,.bool false,.str ⟨#[]⟩]],esz:=8,ety:=38,fro:=0,live:=true,arr:=false}),(100,{els:=[w3PV (sel (plP s a d) 2 0 (sm (plcT c a d) k.1)) (sel (plP s a d) 2 1 (sm (plcT c a d) k.1)) (sel (plP s a d) 2 2 (sm (plcT c a d) k.1))],esz:=6,ety:=173,fro:=0,live:=true,arr:=false}),(206,{els:=[wPV O],esz:=2,ety:=36,fro:=0,live:=true,arr:=false}),(301,{els:=[wPV ((plG s a d 2:Nat):Int)],esz:=2,ety:=36,fro:=0,live:=true,arr:=false})]) (fun k=>c.length-k.1) ⟨0,Nat.zero_le _⟩ ?_ ?_
    ·refine Qak (θ:=[(1,1),(100,100),(206,206),(301,301)]) rfl ?_ ?_
     ·simp [Qae,lkp,ren1,ren0,Qan,Qas]
     ·refine⟨⟨rfl,rfl,rfl,rfl,rfl,.inr ⟨rfl,_,_,rfl,rfl,rfl,rfl⟩⟩,⟨rfl,rfl,rfl,rfl,rfl,.inr ⟨rfl,_,_,rfl,rfl,?_,rfl⟩⟩,⟨rfl,rfl,rfl,rfl,rfl,.inr ⟨rfl,_,_,rfl,rfl,rfl,rfl⟩⟩,⟨rfl,rfl,rfl,rfl,rfl,.inr ⟨rfl,_,_,rfl,rfl,rfl,rfl⟩⟩,trivial⟩;simp only [sel,at3,sm];rfl
    ·rintro⟨k,hk⟩;by_cases hB:k<c.length
     ·have hB':=ltT hB;have n0:=nnT k;have hgk:=Qcv c k hB;have hwk2:=Qai (a:=k) (by omega);have w5:IntKind.i64.wrap (5-(k:Int))=((5-k:Nat):Int):=by rw [Qah (by omega) (by omega)];omega
      obtain⟨k1,k2⟩:=hcx _ (List.getElem_mem hB);have hcb:bd 64 c:=fun x hx=>Qa2 (hcx x hx);have x1:=hcb _ (List.getElem_mem hB);have o1:=Qfe c[k] k1 k2;have q1:=Qed a k 64 ha.1 ha.2 (by omega) (by decide) ba;have q2:=Qed d (5-k) 64 hd.1 hd.2 (by omega) (by decide) bd';obtain⟨t1,t2,t3,t4⟩:=Qi4 hcb ba bd' k (by omega);have mm1:=Qio (Qav t1 (by decide)) (Qav t2 (by decide)) (Qav t3 (by decide));have eT:plcT c a d k=c[k]*(a^k*d^(5-k)):=by unfold plcT;rw [Qc5 hB]
      rw [eT]at t4;have mm2:=Qio (Qav x1 (by decide)) (Qav t3 (by decide)) (Qav t4 (by decide));rw [←eT]at mm2 t4;have y1:=Qec hcb ba bd' k (by omega);have y2:=Qec hcb ba bd' (k+1) (by omega);have es:sm (plcT c a d) (k+1)=sm (plcT c a d) k+plcT c a d k:=rfl;rw [es]at y2;have a1:=Qhg (Qav y1 (by decide)) (Qav t4 (by decide)) (Qav y2 (by decide));rw [←es]at a1;clear y1 y2 t1 t2 t3 t4 es eT hP;generalize hX:sm (plcT c a d) (k+1)=X at*;generalize sm (plcT c a d) k=Y at*;generalize plcT c a d k=T at*;generalize a^k*d^(5-k)=U at*;generalize a^k=U1 at*;generalize d^(5-k)=U2 at*;repeat (first|simp -implicitDefEqProofs only [go_sem,seval,wPV,hB',n0,hgk,hwk2,w5,sel,at3,Int.toNat_natCast]|(with_reducible refine Qaa o1 ?_ ?_ ?_);rfl;rfl|(with_reducible refine Qaa q1 ?_ ?_ ?_);rfl;rfl|(with_reducible refine Qaa q2 ?_ ?_ ?_);rfl;rfl|(with_reducible refine Qaa mm1 ?_ ?_ ?_);rfl;rfl|(with_reducible refine Qaa mm2 ?_ ?_ ?_);rfl;rfl|(with_reducible refine Qaa a1 ?_ ?_ ?_);rfl;rfl|(with_reducible refine And.intro (Qac _ _ (by kernel_rfl)) ?_))
      refine⟨⟨k+1,hB⟩,by simp only;omega,Qak (θ:=[(1,1),(100,100),(206,206),(301,301)]) rfl ?_ ?_⟩
      ·simp [Qae,lkp,ren1,ren0,Qan,Qas]
      ·simp only [hX];exact⟨⟨rfl,rfl,rfl,rfl,rfl,.inr ⟨rfl,_,_,rfl,rfl,rfl,rfl⟩⟩,⟨rfl,rfl,rfl,rfl,rfl,.inr ⟨rfl,_,_,rfl,rfl,rfl,rfl⟩⟩,⟨rfl,rfl,rfl,rfl,rfl,.inr ⟨rfl,_,_,rfl,rfl,rfl,rfl⟩⟩,⟨rfl,rfl,rfl,rfl,rfl,.inr ⟨rfl,_,_,rfl,rfl,rfl,rfl⟩⟩,trivial⟩
     ·have hB':=ltF hB;obtain rfl:k=c.length:=by omega
      have gg:=Qp3 (Qav bGi (by decide)) (Qav bPi (by decide));rw [Int.natAbs_natCast,←hGs]at gg;rw [hP]at gg;generalize hX:sm (plcT c a d) c.length=X at*;repeat (first|simp -implicitDefEqProofs only [go_sem,seval,wPV,hB',sel,at3]|(with_reducible refine Qaa gg ?_ ?_ ?_);rfl;rfl|(with_reducible refine And.intro (Qac _ _ (by kernel_rfl)) ?_))
      refine⟨⟨2+1,hA⟩,by simp only;omega,Qak (θ:=[(1,1),(100,100),(206,206),(301,301)]) rfl ?_ ?_⟩
      ·simp [Qae,lkp,ren1,ren0,Qan,Qas]
      ·simp only [at3,hP,hX];exact⟨⟨rfl,rfl,rfl,rfl,rfl,.inr ⟨rfl,_,_,rfl,rfl,rfl,rfl⟩⟩,⟨rfl,rfl,rfl,rfl,rfl,.inr ⟨rfl,_,_,rfl,rfl,rfl,rfl⟩⟩,⟨rfl,rfl,rfl,rfl,rfl,.inr ⟨rfl,_,_,rfl,rfl,rfl,rfl⟩⟩,⟨rfl,rfl,rfl,rfl,rfl,.inr ⟨rfl,_,_,rfl,rfl,rfl,rfl⟩⟩,trivial⟩
  ·have hA':((i:Int)<3)=False:=eq_false (by omega);obtain rfl:i=3:=by omega
   have G0:=Qv5 ho hd1 3 (s:=s) (d:=d) (a:=a);have bG3:=Qp4 (bG 3 (by decide)) (by decide);have r0:=Qjr (bP 0 (by decide)) (by decide) bG3 (by omega);have r1:=Qjr (bP 1 (by decide)) (by decide) bG3 (by omega);have r2:=Qjr (bP 2 (by decide)) (by decide) bG3 (by omega);have r3:=Qjr bod (by decide) bG3 (by omega);unfold plV;rw [hO];have z0:at3 (plP s a d) 3 0=plP s a d 0:=rfl;have z1:at3 (plP s a d) 3 1=plP s a d 1:=rfl;have z2:at3 (plP s a d) 3 2=plP s a d 2:=rfl;simp only [z0,z1,z2];clear z0 z1 z2;generalize plP s a d 0=X0 at*;generalize plP s a d 1=X1 at*;generalize plP s a d 2=X2 at*;generalize ((plG s a d 3:Nat):Int)=G at*;generalize X0/G=Y0 at*;generalize X1/G=Y1 at*;generalize X2/G=Y2 at*;generalize O/G=Y3 at*;repeat (first|simp -implicitDefEqProofs only [go_sem,seval,wPV,at3]|(with_reducible refine Qaa r0 ?_ ?_ ?_);rfl;rfl|(with_reducible refine Qaa r1 ?_ ?_ ?_);rfl;rfl|(with_reducible refine Qaa r2 ?_ ?_ ?_);rfl;rfl|(with_reducible refine Qaa r3 ?_ ?_ ?_);rfl;rfl|(with_reducible exact Qac _ _ (by kernel_rfl)))
theorem Qgs (n:Int) (k B:Nat) (hn:i64 n) (hk:k≤100) (hB:B≤600) (hb:n.natAbs<2^B):Qaf Tryz.prog 25 [.int .i64 n,.int .i64 (k:Int)] (rI (n^k)):=by
 have h1:=Qfu 1 (by decide) (by decide);have h2:=Qfu n hn.1 hn.2;refine Qab (tb:=[]) 18 [.cell 4 42] [0,1,4,5,6,10] mixed Tryz.func25 rfl (by kernel_rfl) ?_;repeat (first|simp -implicitDefEqProofs only [go_sem,seval,rI,di]|(with_reducible refine Qaa h1 ?_ ?_ ?_);rfl;rfl)
 refine Qat mixed (fun i:{i:Nat // i≤k}=>St.of [(0,.int .i64 n),(1,.int .i64 (k:Int)),(4,.bp 0 2 0 0),(5,.bp 101 2 0 0),(6,.int .i64 (i.1:Int))]
  [(0,{els:=[.agg [.bool false,.nilS]],esz:=2,ety:=42,fro:=0,live:=true,arr:=false}),(101,{els:=[rI (n^i.1)],esz:=2,ety:=42,fro:=0,live:=true,arr:=false})]) (fun i=>k-i.1) ⟨0,Nat.zero_le _⟩ ?_ ?_
 ·refine Qak (θ:=[(0,0),(101,101)]) rfl ?_ ?_
  ·simp [Qae,lkp,ren1,ren0,Qan]
  ·refine⟨⟨rfl,rfl,rfl,rfl,rfl,.inr ⟨rfl,_,_,rfl,rfl,rfl,rfl⟩⟩,⟨rfl,rfl,rfl,rfl,rfl,.inr ⟨rfl,_,_,rfl,rfl,?_,rfl⟩⟩,trivial⟩;simp only [Int.pow_zero];rfl
 ·rintro⟨i,hi⟩;by_cases hA:i<k
  ·have hA':=ltT hA;have hwk:=Qai (a:=i) (by omega);have hp:=Qt1 hb i;have hBk:B*i≤600*100:=Nat.mul_le_mul hB (by omega);have e:n^(i+1)=n^i*n:=Int.pow_succ n i;have hm:=Qiq (Qb7 hp (by omega)) (Qb7 hb (by omega));rw [←e]at hm;generalize hX:n^(i+1)=Y at*;generalize n^i=Z at*;repeat (first|simp -implicitDefEqProofs only [go_sem,seval,rI,di,hA',hwk]|(with_reducible refine Qaa h2 ?_ ?_ ?_);rfl;rfl|(with_reducible refine Qaa hm ?_ ?_ ?_);rfl;rfl|(with_reducible refine And.intro (Qac _ _ (by kernel_rfl)) ?_))
   refine⟨⟨i+1,hA⟩,by simp only;omega,Qak (θ:=[(0,0),(101,101)]) rfl ?_ ?_⟩
   ·simp [Qae,lkp,ren1,ren0,Qan]
   ·simp only [hX];exact⟨⟨rfl,rfl,rfl,rfl,rfl,.inr ⟨rfl,_,_,rfl,rfl,rfl,rfl⟩⟩,⟨rfl,rfl,rfl,rfl,rfl,.inr ⟨rfl,_,_,rfl,rfl,rfl,rfl⟩⟩,trivial⟩
  ·have hA':=ltF hA;obtain rfl:i=k:=by omega
   generalize n^i=Z at*;repeat simp -implicitDefEqProofs only [go_sem,seval,rI,di,hA']
theorem ml1:(1≤maxLen)=True:=eq_true (by unfold maxLen;omega)
theorem ml2:(2≤maxLen)=True:=eq_true (by unfold maxLen;omega)
theorem ml3:(3≤maxLen)=True:=eq_true (by unfold maxLen;omega)
theorem ml4:(4≤maxLen)=True:=eq_true (by unfold maxLen;omega)
attribute [go_sem] ml1 ml2 ml3 ml4
def Qfn (ps:List Int) (o:Int):PV:= .agg [.slc (ps.map rI),.bool (decide (o<0)),di (digs E9 o.natAbs)]
def lowG (P:Nat→Int) (O:Int) (i:Nat):Nat:=gcdL O.natAbs ((List.range i).map P)
theorem Qt7 (P:Nat→Int) (O:Int) (i:Nat):lowG P O (i+1)=Nat.gcd (lowG P O i) (P i).natAbs:=by
 unfold lowG;rw [List.range_succ,List.map_append];exact Qfb _ _ _
theorem Zfs {P:Nat→Int} {O:Int} (h:0<O) (i:Nat):0<lowG P O i:=by
 induction i with
 |zero=>show 0<O.natAbs;omega
 |succ i ih=>rw [Qt7];exact Nat.gcd_pos_of_pos_left _ ih
theorem Zrd {P:Nat→Int} {O:Int} {B:Nat} (hO:O.natAbs<2^B) (hP: ∀i,i<3→(P i).natAbs<2^B) (i:Nat) (hi:i≤3):((lowG P O i:Nat):Int).natAbs<2^B:=by
 rw [Int.natAbs_natCast];refine Qf0 _ hO fun x hx=> ?_;simp only [List.mem_map,List.mem_range]at hx;obtain⟨m,hm,rfl⟩:=hx;exact hP m (by omega)
def Qn0 (P:Nat→Int):List Int:=[P 0,P 1,P 2]
theorem Qt8 (P:Nat→Int) (i:Nat) (h:i<3):((Qn0 P).map rI)[i]? =some (.agg [.bool (decide (P i<0)),di (digs E9 (P i).natAbs)]):=by
 rcases(show i=0∨i=1∨i=2 by omega)with rfl|rfl|rfl<;>rfl
def upB (ety:Nat) (P:Nat→Int):Nat→List (Nat×Box)
 |0=>[]
 |i+1=>[(8,{els:=((List.range (i+1)).map P).map rI,esz:=2,ety:=ety,fro:=0,live:=true,arr:=true})]
def upV:Nat→PV
 |0=> .nilS
 |i+1=> .bs 8 2 0 (i+1)
set_option maxHeartbeats 1000000 in
theorem Q7c (P:Nat→Int) (O:Int) (B:Nat) (hB:B≤6000) (hO:0<O) (bO:O.natAbs<2^B) (bP: ∀i,i<3→(P i).natAbs<2^B):
  Qaf Tryz.prog 26 [Qfn (Qn0 P) O] (Qfn (Qn0 fun i=>P i/(lowG P O 3:Int)) (O/(lowG P O 3:Int))):=by
 have bG:=Zrd bO bP;have hp:Qfn (Qn0 P) O= .agg [.slc ((Qn0 P).map rI),.bool (decide (O<0)),.slc ((digs E9 O.natAbs).map fun d:Nat=>PV.int .i64 (d:Int))]:=rfl;rw [hp];refine Qab (tb:=[]) 51 [.cell 2 44] [0,1,2,3,4,5,6,7,12,23] mixed Tryz.func26 rfl (by kernel_rfl) ?_;repeat simp -implicitDefEqProofs only [go_sem,seval]
 refine Qat mixed (fun i:{i:Nat // i≤3}=>St.of [(1,.bp 0 3 0 0),(2,.bp 1 3 0 0),(3,.bp 102 2 0 0),(4,.int .i64 (i.1:Int))]
  [(0,{els:=[Qfn (Qn0 P) O],esz:=3,ety:=44,fro:=0,live:=true,arr:=false}),(1,{els:=[.agg [.nilS,.bool false,.nilS]],esz:=3,ety:=44,fro:=0,live:=true,arr:=false}),(102,{els:=[rI ((lowG P O i.1:Nat):Int)],esz:=2,ety:=42,fro:=0,live:=true,arr:=false})]) (fun i=>3-i.1) ⟨0,Nat.zero_le _⟩ ?_ ?_
 ·refine Qak (θ:=[(0,0),(1,1),(102,102)]) rfl ?_ ?_
  ·simp [Qae,lkp,ren1,ren0,Qan]
  ·refine⟨⟨rfl,rfl,rfl,rfl,rfl,.inr ⟨rfl,_,_,rfl,rfl,rfl,rfl⟩⟩,⟨rfl,rfl,rfl,rfl,rfl,.inr ⟨rfl,_,_,rfl,rfl,rfl,rfl⟩⟩,⟨rfl,rfl,rfl,rfl,rfl,.inr ⟨rfl,_,_,rfl,rfl,?_,rfl⟩⟩,trivial⟩;have:((lowG P O 0:Nat):Int)=O:=by show((O.natAbs:Nat):Int)=O;omega
   simp only [this];rfl
 ·rintro⟨i,hi⟩;have hi3:=bG i hi;by_cases hA:i<3
  ·have hA':((i:Int)<3)=True:=eq_true (by omega);have n0:=nnT i;have hgx:=Qt8 P i hA;have hwk:=Qai (a:=i) (by omega);have gg:=Q7h (Qb7 hi3 (by omega)) (Qb7 (bP i hA) (by omega));rw [Int.natAbs_natCast,←Qt7]at gg;generalize hX:lowG P O (i+1)=X at*;generalize lowG P O i=Y at*;generalize hZ:P i=Z at*;repeat (first|simp -implicitDefEqProofs only [go_sem,seval,Qfn,rI,di,hA',n0,hgx,hwk,Int.toNat_natCast]|(with_reducible refine Qaa gg ?_ ?_ ?_);rfl;rfl|(with_reducible refine And.intro (Qac _ _ (by kernel_rfl)) ?_))
   refine⟨⟨i+1,hA⟩,by simp only;omega,Qak (θ:=[(0,0),(1,1),(102,102)]) rfl ?_ ?_⟩
   ·simp [Qae,lkp,ren1,ren0,Qan]
   ·simp only [hX];exact⟨⟨rfl,rfl,rfl,rfl,rfl,.inr ⟨rfl,_,_,rfl,rfl,rfl,rfl⟩⟩,⟨rfl,rfl,rfl,rfl,rfl,.inr ⟨rfl,_,_,rfl,rfl,rfl,rfl⟩⟩,⟨rfl,rfl,rfl,rfl,rfl,.inr ⟨rfl,_,_,rfl,rfl,rfl,rfl⟩⟩,trivial⟩
  ·have hA':((i:Int)<3)=False:=eq_false (by omega);obtain rfl:i=3:=by omega
   have hG0:=Zfs (P:=P) hO 3;have hqO:=Zoo (Qb7 bO (by omega)) (Qb7 hi3 (by omega)) (by omega);have hqP:=fun i (h:i<3)=>Zoo (Qb7 (bP i h) (by omega)) (Qb7 hi3 (by omega)) (by omega);simp only;generalize ((lowG P O 3:Nat):Int)=G at*;repeat simp -implicitDefEqProofs only [go_sem,seval,Qfn,rI,di]
   refine Qat mixed (fun i:{i:Nat // i≤3}=>St.of [(1,.bp 0 3 0 0),(2,.bp 1 3 0 0),(3,.bp 102 2 0 0),(5,.bp 600 3 0 0),(6,.int .i64 (i.1:Int))]
    ((0,{els:=[Qfn (Qn0 P) O],esz:=3,ety:=44,fro:=0,live:=true,arr:=false})::(1,{els:=[.agg [.nilS,.bool false,.nilS]],esz:=3,ety:=44,fro:=0,live:=true,arr:=false})::(102,{els:=[rI G],esz:=2,ety:=42,fro:=0,live:=true,arr:=false})::(600,{els:=[.agg [upV i.1,.bool false,.nilS]],esz:=3,ety:=44,fro:=0,live:=true,arr:=false})::upB 42 (fun i=>P i/G) i.1)) (fun i=>3-i.1) ⟨0,Nat.zero_le _⟩ ?_ ?_
   ·refine Qak (θ:=[(0,0),(1,1),(102,102),(600,600)]) rfl ?_ ?_
    ·simp [Qae,lkp,ren1,ren0,Qan]
    ·exact⟨⟨rfl,rfl,rfl,rfl,rfl,.inr ⟨rfl,_,_,rfl,rfl,rfl,rfl⟩⟩,⟨rfl,rfl,rfl,rfl,rfl,.inr ⟨rfl,_,_,rfl,rfl,rfl,rfl⟩⟩,⟨rfl,rfl,rfl,rfl,rfl,.inr ⟨rfl,_,_,rfl,rfl,rfl,rfl⟩⟩,⟨rfl,rfl,rfl,rfl,rfl,.inr ⟨rfl,_,_,rfl,rfl,rfl,rfl⟩⟩,trivial⟩
   ·rintro⟨i,hi⟩;by_cases hA:i<3
    ·have hA':((i:Int)<3)=True:=eq_true (by omega);have n0:=nnT i;have hgx:=Qt8 P i hA;have hwk:=Qai (a:=i) (by omega);have qq:=hqP i hA;rcases(show i=0∨i=1∨i=2 by omega)with hi0|hi0|hi0
     ·skip
      obtain rfl:i=0:=hi0;generalize P 0%G=R at*;repeat (first|simp -implicitDefEqProofs only [go_sem,seval,Qfn,rI,di,hgx,upV,upB]|(with_reducible refine Qaa qq ?_ ?_ ?_);rfl;rfl|(with_reducible refine And.intro (Qac _ _ (by kernel_rfl)) ?_))
      refine⟨⟨0+1,hA⟩,by simp only;omega,Qak (θ:=[(0,0),(1,1),(102,102),(600,600),(8,1104)]) rfl ?_ ?_⟩
      ·simp [Qae,lkp,ren1,ren0,Qan]
      ·exact⟨⟨rfl,rfl,rfl,rfl,rfl,.inr ⟨rfl,_,_,rfl,rfl,rfl,rfl⟩⟩,⟨rfl,rfl,rfl,rfl,rfl,.inr ⟨rfl,_,_,rfl,rfl,rfl,rfl⟩⟩,⟨rfl,rfl,rfl,rfl,rfl,.inr ⟨rfl,_,_,rfl,rfl,rfl,rfl⟩⟩,⟨rfl,rfl,rfl,rfl,rfl,.inr ⟨rfl,_,_,rfl,rfl,rfl,rfl⟩⟩,⟨rfl,rfl,rfl,rfl,rfl,.inl ⟨rfl,rfl⟩⟩,trivial⟩
     ·skip
      obtain rfl:i=1:=hi0;generalize P 1%G=R at*;repeat (first|simp -implicitDefEqProofs only [go_sem,seval,Qfn,rI,di,hgx,upV,upB]|(with_reducible refine Qaa qq ?_ ?_ ?_);rfl;rfl|(with_reducible refine And.intro (Qac _ _ (by kernel_rfl)) ?_))
      refine⟨⟨1+1,hA⟩,by simp only;omega,Qak (θ:=[(0,0),(1,1),(102,102),(600,600),(8,1104)]) rfl ?_ ?_⟩
      ·simp [Qae,lkp,ren1,ren0,Qan]
      ·exact⟨⟨rfl,rfl,rfl,rfl,rfl,.inr ⟨rfl,_,_,rfl,rfl,rfl,rfl⟩⟩,⟨rfl,rfl,rfl,rfl,rfl,.inr ⟨rfl,_,_,rfl,rfl,rfl,rfl⟩⟩,⟨rfl,rfl,rfl,rfl,rfl,.inr ⟨rfl,_,_,rfl,rfl,rfl,rfl⟩⟩,⟨rfl,rfl,rfl,rfl,rfl,.inr ⟨rfl,_,_,rfl,rfl,rfl,rfl⟩⟩,⟨rfl,rfl,rfl,rfl,rfl,.inl ⟨rfl,rfl⟩⟩,trivial⟩
     ·skip
      obtain rfl:i=2:=hi0;generalize P 2%G=R at*;repeat (first|simp -implicitDefEqProofs only [go_sem,seval,Qfn,rI,di,hgx,upV,upB]|(with_reducible refine Qaa qq ?_ ?_ ?_);rfl;rfl|(with_reducible refine And.intro (Qac _ _ (by kernel_rfl)) ?_))
      refine⟨⟨2+1,hA⟩,by simp only;omega,Qak (θ:=[(0,0),(1,1),(102,102),(600,600),(8,1104)]) rfl ?_ ?_⟩
      ·simp [Qae,lkp,ren1,ren0,Qan]
      ·exact⟨⟨rfl,rfl,rfl,rfl,rfl,.inr ⟨rfl,_,_,rfl,rfl,rfl,rfl⟩⟩,⟨rfl,rfl,rfl,rfl,rfl,.inr ⟨rfl,_,_,rfl,rfl,rfl,rfl⟩⟩,⟨rfl,rfl,rfl,rfl,rfl,.inr ⟨rfl,_,_,rfl,rfl,rfl,rfl⟩⟩,⟨rfl,rfl,rfl,rfl,rfl,.inr ⟨rfl,_,_,rfl,rfl,rfl,rfl⟩⟩,⟨rfl,rfl,rfl,rfl,rfl,.inl ⟨rfl,rfl⟩⟩,trivial⟩
    ·have hA':((i:Int)<3)=False:=eq_false (by omega);obtain rfl:i=3:=by omega
     simp only [upV,upB];repeat (first|simp -implicitDefEqProofs only [go_sem,seval,Qfn,rI,di]|(with_reducible refine Qaa hqO ?_ ?_ ?_);rfl;rfl)
     rfl
set_option maxHeartbeats 1000000 in
theorem Qmq (s:Sg) (a d:Int) (hs:okSg s) (h6: ∀c∈s.ax,c.length≤6) (ho:1≤s.o) (ha:i64 a) (hd:i64 d) (hd1:1≤d):
  Qaf Tryz.prog 10 [sgPV s,.int .i64 a,.int .i64 d] (Qfn (Qn0 fun i=>plP s a d i/(plG s a d 3:Int)) (s.o*d^5/(plG s a d 3:Int))):=by
 obtain⟨⟨a1,a2⟩,⟨a3,a4⟩,⟨a5,a6⟩,hc,hl⟩:=hs;have ba:=Qa2 ha;have bd':=Qa2 hd;have bo:=Qa2 ⟨a5,a6⟩;have w1:=Qfu s.o a5 a6;have p5:=Qgs d 5 64 hd (by decide) (by decide) bd';have bd5:=Qt1 bd' 5;have bod:=Zew (s:=s) bo bd';have m1:=Qiq (Qb7 bo (by decide)) (Qb7 bd5 (by decide));have hax:=Q68 s;have hcB: ∀c∈s.ax,bd 64 c:=fun c hx x hx2=>Qa2 (hc c hx x hx2);have bP:=Qy4 hcB h6 ba bd';have hO0:0<s.o*d^5:=Int.mul_pos (by omega) (Int.pow_pos (by omega));have hlow:=Q7c (plP s a d) (s.o*d^5) (64+(64*5+1+(64*5+1))+7) (by decide) hO0 (Qfz bod (by decide)) bP;have hlg:lowG (plP s a d) (s.o*d^5) 3=plG s a d 3:=rfl;rw [hlg]at hlow;clear hlg;have hrp:Qfn (Qn0 (plP s a d)) (s.o*d^5)= .agg [.slc [rI (plP s a d 0),rI (plP s a d 1),rI (plP s a d 2)],.bool (decide (s.o*d^5<0)),.slc ((digs E9 (s.o*d^5).natAbs).map fun d:Nat=>PV.int .i64 (d:Int))]:=rfl;rw [hrp]at hlow;clear hrp;generalize s.o*d^5=O at*;have hsg:sgPV s= .agg [.int .i64 s.f,.int .i64 s.t,.int .i64 s.o,.slc (s.x.map (PV.int .i64)),.slc (s.y.map (PV.int .i64)),.slc (s.z.map (PV.int .i64))]:=rfl;rw [hsg]at hax ⊢;generalize (Qn0 fun i=>plP s a d i/(plG s a d 3:Int))=RL at*;generalize (O/(plG s a d 3:Int))=RO at*;refine Qab (tb:=[]) 62 [.cell 6 44] [0,1,2,3,6,7,8,9,10,11,15,25] mixed Tryz.func10 rfl (by kernel_rfl) ?_;repeat (first|simp -implicitDefEqProofs only [go_sem,seval]|(with_reducible refine Qaa hax ?_ ?_ ?_);rfl;rfl)
 refine Qat mixed (fun i:{i:Nat // i≤3}=>St.of [(1,.int .i64 a),(2,.int .i64 d),(3,.bp 0 6 0 0),(6,.bp 1 3 0 0),(7,.bp 100 3 0 0),(8,.slc [Qas s.x,Qas s.y,Qas s.z]),(9,.int .i64 (i.1:Int))]
  ((0,{els:=[sgPV s],esz:=6,ety:=47,fro:=0,live:=true,arr:=false})::(1,{els:=[.agg [.nilS,.bool false,.nilS]],esz:=3,ety:=44,fro:=0,live:=true,arr:=false})::(100,{els:=[.agg [upV i.1,.bool false,.nilS]],esz:=3,ety:=44,fro:=0,live:=true,arr:=false})::upB 42 (plP s a d) i.1)) (fun i=>3-i.1) ⟨0,Nat.zero_le _⟩ ?_ ?_
 ·refine Qak (θ:=[(0,0),(1,1),(100,100)]) rfl ?_ ?_
  ·simp [Qae,lkp,ren1,ren0,Qan,Qas]
  ·exact⟨⟨rfl,rfl,rfl,rfl,rfl,.inr ⟨rfl,_,_,rfl,rfl,rfl,rfl⟩⟩,⟨rfl,rfl,rfl,rfl,rfl,.inr ⟨rfl,_,_,rfl,rfl,rfl,rfl⟩⟩,⟨rfl,rfl,rfl,rfl,rfl,.inr ⟨rfl,_,_,rfl,rfl,rfl,rfl⟩⟩,trivial⟩
 ·rintro⟨i,hi⟩;by_cases hA:i<3
  ·have hA':((i:Int)<3)=True:=eq_true (by omega);have h0x:=nnT i;have hx:=Q69 s i hA;rcases(show i=0∨i=1∨i=2 by omega)with hi0|hi0|hi0
   ·skip
    obtain rfl:i=0:=hi0;have hP:plP s a d 0=sm (plcT (s.ax[0]'hA) a d) (s.ax[0]'hA).length:=rfl;have hcx:=hc (s.ax[0]) (List.getElem_mem hA);have hlx:=h6 (s.ax[0]) (List.getElem_mem hA);generalize s.ax[0]'hA=c at*;repeat simp -implicitDefEqProofs only [go_sem,seval,upV,upB]
    refine Qat mixed (fun k:{k:Nat // k≤c.length}=>St.of [(1,.int .i64 a),(2,.int .i64 d),(3,.bp 0 6 0 0),(6,.bp 1 3 0 0),(7,.bp 100 3 0 0),(8,.slc [Qas s.x,Qas s.y,Qas s.z]),(9,.int .i64 0),(10,.bp 601 2 0 0),(11,.int .i64 (k.1:Int))]
     ((0,{els:=[sgPV s],esz:=6,ety:=47,fro:=0,live:=true,arr:=false})::(1,{els:=[.agg [.nilS,.bool false,.nilS]],esz:=3,ety:=44,fro:=0,live:=true,arr:=false})::(601,{els:=[rI (sm (plcT c a d) k.1)],esz:=2,ety:=42,fro:=0,live:=true,arr:=false})::(100,{els:=[.agg [upV 0,.bool false,.nilS]],esz:=3,ety:=44,fro:=0,live:=true,arr:=false})::upB 42 (plP s a d) 0)) (fun k=>c.length-k.1) ⟨0,Nat.zero_le _⟩ ?_ ?_
    ·refine Le.trans (Qyh 601 rfl) (Qak (θ:=[(0,0),(1,1),(601,601),(100,100)]) rfl ?_ ?_)
     ·simp [Qae,lkp,ren1,ren0,Qan,Qas]
     ·simp only [upB,upV];refine⟨⟨rfl,rfl,rfl,rfl,rfl,.inr ⟨rfl,_,_,rfl,rfl,rfl,rfl⟩⟩,⟨rfl,rfl,rfl,rfl,rfl,.inr ⟨rfl,_,_,rfl,rfl,rfl,rfl⟩⟩,⟨rfl,rfl,rfl,rfl,rfl,.inr ⟨rfl,_,_,rfl,rfl,?_,rfl⟩⟩,⟨rfl,rfl,rfl,rfl,rfl,.inr ⟨rfl,_,_,rfl,rfl,rfl,rfl⟩⟩,?_⟩
      ·simp only [sm,rI_z];rfl
      ·exact trivial
    ·rintro⟨k,hk⟩;by_cases hB:k<c.length
     ·have hB':=ltT hB;have n0:=nnT k;have hgk:=Qcv c k hB;have hwk2:=Qai (a:=k) (by omega);have w5:IntKind.i64.wrap (5-(k:Int))=((5-k:Nat):Int):=by rw [Qah (by omega) (by omega)];omega
      obtain⟨k1,k2⟩:=hcx _ (List.getElem_mem hB);have hcb:bd 64 c:=fun x hx=>Qa2 (hcx x hx);have x1:=hcb _ (List.getElem_mem hB);have o1:=Qfu c[k] k1 k2;have q1:=Qgs a k 64 ha (by omega) (by decide) ba;have q2:=Qgs d (5-k) 64 hd (by omega) (by decide) bd';obtain⟨t1,t2,t3,t4⟩:=Qi4 hcb ba bd' k (by omega);have mm1:=Qiq (Qb7 t1 (by decide)) (Qb7 t2 (by decide));have eT:plcT c a d k=c[k]*(a^k*d^(5-k)):=by unfold plcT;rw [Qc5 hB]
      have mm2:=Qiq (Qb7 x1 (by decide)) (Qb7 t3 (by decide));rw [←eT]at mm2;have y1:=Qec hcb ba bd' k (by omega);have es:sm (plcT c a d) (k+1)=sm (plcT c a d) k+plcT c a d k:=rfl;have a1:=Qzu (Qb7 y1 (by decide)) (Qb7 t4 (by decide));rw [←es]at a1;clear y1 t1 t2 t3 t4 es eT hP;generalize hX:sm (plcT c a d) (k+1)=X at*;generalize sm (plcT c a d) k=Y at*;generalize plcT c a d k=T at*;generalize a^k*d^(5-k)=U at*;generalize a^k=U1 at*;generalize d^(5-k)=U2 at*;repeat (first|simp -implicitDefEqProofs only [go_sem,seval,rI,di,hx,hB',n0,hgk,hwk2,w5,upV,upB,Int.toNat_natCast,List.length_map]|(with_reducible refine Qaa o1 ?_ ?_ ?_);rfl;rfl|(with_reducible refine Qaa q1 ?_ ?_ ?_);rfl;rfl|(with_reducible refine Qaa q2 ?_ ?_ ?_);rfl;rfl|(with_reducible refine Qaa mm1 ?_ ?_ ?_);rfl;rfl|(with_reducible refine Qaa mm2 ?_ ?_ ?_);rfl;rfl|(with_reducible refine Qaa a1 ?_ ?_ ?_);rfl;rfl|(with_reducible refine And.intro (Qac _ _ (by kernel_rfl)) ?_))
      refine⟨⟨k+1,hB⟩,by simp only;omega,Qak (θ:=[(0,0),(1,1),(601,601),(100,100)]) rfl ?_ ?_⟩
      ·simp [Qae,lkp,ren1,ren0,Qan,Qas]
      ·simp only [hX];try simp only [upB,upV]
       refine⟨⟨rfl,rfl,rfl,rfl,rfl,.inr ⟨rfl,_,_,rfl,rfl,rfl,rfl⟩⟩,⟨rfl,rfl,rfl,rfl,rfl,.inr ⟨rfl,_,_,rfl,rfl,rfl,rfl⟩⟩,⟨rfl,rfl,rfl,rfl,rfl,.inr ⟨rfl,_,_,rfl,rfl,rfl,rfl⟩⟩,⟨rfl,rfl,rfl,rfl,rfl,.inr ⟨rfl,_,_,rfl,rfl,rfl,rfl⟩⟩,?_⟩;exact trivial
     ·have hB':=ltF hB;obtain rfl:k=c.length:=by omega
      rw [←hP];generalize hX:plP s a d 0=X at*;repeat simp -implicitDefEqProofs only [go_sem,seval,rI,di,hx,hB',upV,upB,List.length_map]
      refine⟨⟨0+1,hA⟩,by simp only;omega,Qak (θ:=[(0,0),(1,1),(100,100),(8,1104)]) rfl ?_ ?_⟩
      ·simp [Qae,lkp,ren1,ren0,Qan,Qas]
      ·subst hX;exact⟨⟨rfl,rfl,rfl,rfl,rfl,.inr ⟨rfl,_,_,rfl,rfl,rfl,rfl⟩⟩,⟨rfl,rfl,rfl,rfl,rfl,.inr ⟨rfl,_,_,rfl,rfl,rfl,rfl⟩⟩,⟨rfl,rfl,rfl,rfl,rfl,.inr ⟨rfl,_,_,rfl,rfl,rfl,rfl⟩⟩,⟨rfl,rfl,rfl,rfl,rfl,.inl ⟨rfl,rfl⟩⟩,trivial⟩
   ·skip
    obtain rfl:i=1:=hi0;have hP:plP s a d 1=sm (plcT (s.ax[1]'hA) a d) (s.ax[1]'hA).length:=rfl;have hcx:=hc (s.ax[1]) (List.getElem_mem hA);have hlx:=h6 (s.ax[1]) (List.getElem_mem hA);generalize s.ax[1]'hA=c at*;repeat simp -implicitDefEqProofs only [go_sem,seval,upV,upB]
    refine Qat mixed (fun k:{k:Nat // k≤c.length}=>St.of [(1,.int .i64 a),(2,.int .i64 d),(3,.bp 0 6 0 0),(6,.bp 1 3 0 0),(7,.bp 100 3 0 0),(8,.slc [Qas s.x,Qas s.y,Qas s.z]),(9,.int .i64 1),(10,.bp 601 2 0 0),(11,.int .i64 (k.1:Int))]
     ((0,{els:=[sgPV s],esz:=6,ety:=47,fro:=0,live:=true,arr:=false})::(1,{els:=[.agg [.nilS,.bool false,.nilS]],esz:=3,ety:=44,fro:=0,live:=true,arr:=false})::(601,{els:=[rI (sm (plcT c a d) k.1)],esz:=2,ety:=42,fro:=0,live:=true,arr:=false})::(100,{els:=[.agg [upV 1,.bool false,.nilS]],esz:=3,ety:=44,fro:=0,live:=true,arr:=false})::upB 42 (plP s a d) 1)) (fun k=>c.length-k.1) ⟨0,Nat.zero_le _⟩ ?_ ?_
    ·refine Le.trans (Qyh 601 rfl) (Qak (θ:=[(0,0),(1,1),(601,601),(100,100),(8,8)]) rfl ?_ ?_)
     ·simp [Qae,lkp,ren1,ren0,Qan,Qas]
     ·simp only [upB,upV];refine⟨⟨rfl,rfl,rfl,rfl,rfl,.inr ⟨rfl,_,_,rfl,rfl,rfl,rfl⟩⟩,⟨rfl,rfl,rfl,rfl,rfl,.inr ⟨rfl,_,_,rfl,rfl,rfl,rfl⟩⟩,⟨rfl,rfl,rfl,rfl,rfl,.inr ⟨rfl,_,_,rfl,rfl,?_,rfl⟩⟩,⟨rfl,rfl,rfl,rfl,rfl,.inr ⟨rfl,_,_,rfl,rfl,rfl,rfl⟩⟩,?_⟩
      ·simp only [sm,rI_z];rfl
      ·exact⟨⟨rfl,rfl,rfl,rfl,rfl,.inl ⟨rfl,rfl⟩⟩,trivial⟩
    ·rintro⟨k,hk⟩;by_cases hB:k<c.length
     ·have hB':=ltT hB;have n0:=nnT k;have hgk:=Qcv c k hB;have hwk2:=Qai (a:=k) (by omega);have w5:IntKind.i64.wrap (5-(k:Int))=((5-k:Nat):Int):=by rw [Qah (by omega) (by omega)];omega
      obtain⟨k1,k2⟩:=hcx _ (List.getElem_mem hB);have hcb:bd 64 c:=fun x hx=>Qa2 (hcx x hx);have x1:=hcb _ (List.getElem_mem hB);have o1:=Qfu c[k] k1 k2;have q1:=Qgs a k 64 ha (by omega) (by decide) ba;have q2:=Qgs d (5-k) 64 hd (by omega) (by decide) bd';obtain⟨t1,t2,t3,t4⟩:=Qi4 hcb ba bd' k (by omega);have mm1:=Qiq (Qb7 t1 (by decide)) (Qb7 t2 (by decide));have eT:plcT c a d k=c[k]*(a^k*d^(5-k)):=by unfold plcT;rw [Qc5 hB]
      have mm2:=Qiq (Qb7 x1 (by decide)) (Qb7 t3 (by decide));rw [←eT]at mm2;have y1:=Qec hcb ba bd' k (by omega);have es:sm (plcT c a d) (k+1)=sm (plcT c a d) k+plcT c a d k:=rfl;have a1:=Qzu (Qb7 y1 (by decide)) (Qb7 t4 (by decide));rw [←es]at a1;clear y1 t1 t2 t3 t4 es eT hP;generalize hX:sm (plcT c a d) (k+1)=X at*;generalize sm (plcT c a d) k=Y at*;generalize plcT c a d k=T at*;generalize a^k*d^(5-k)=U at*;generalize a^k=U1 at*;generalize d^(5-k)=U2 at*;repeat (first|simp -implicitDefEqProofs only [go_sem,seval,rI,di,hx,hB',n0,hgk,hwk2,w5,upV,upB,Int.toNat_natCast,List.length_map]|(with_reducible refine Qaa o1 ?_ ?_ ?_);rfl;rfl|(with_reducible refine Qaa q1 ?_ ?_ ?_);rfl;rfl|(with_reducible refine Qaa q2 ?_ ?_ ?_);rfl;rfl|(with_reducible refine Qaa mm1 ?_ ?_ ?_);rfl;rfl|(with_reducible refine Qaa mm2 ?_ ?_ ?_);rfl;rfl|(with_reducible refine Qaa a1 ?_ ?_ ?_);rfl;rfl|(with_reducible refine And.intro (Qac _ _ (by kernel_rfl)) ?_))
      refine⟨⟨k+1,hB⟩,by simp only;omega,Qak (θ:=[(0,0),(1,1),(601,601),(100,100),(8,8)]) rfl ?_ ?_⟩
      ·simp [Qae,lkp,ren1,ren0,Qan,Qas]
      ·simp only [hX];try simp only [upB,upV]
       refine⟨⟨rfl,rfl,rfl,rfl,rfl,.inr ⟨rfl,_,_,rfl,rfl,rfl,rfl⟩⟩,⟨rfl,rfl,rfl,rfl,rfl,.inr ⟨rfl,_,_,rfl,rfl,rfl,rfl⟩⟩,⟨rfl,rfl,rfl,rfl,rfl,.inr ⟨rfl,_,_,rfl,rfl,rfl,rfl⟩⟩,⟨rfl,rfl,rfl,rfl,rfl,.inr ⟨rfl,_,_,rfl,rfl,rfl,rfl⟩⟩,?_⟩;exact⟨⟨rfl,rfl,rfl,rfl,rfl,.inl ⟨rfl,rfl⟩⟩,trivial⟩
     ·have hB':=ltF hB;obtain rfl:k=c.length:=by omega
      rw [←hP];generalize hX:plP s a d 1=X at*;repeat simp -implicitDefEqProofs only [go_sem,seval,rI,di,hx,hB',upV,upB,List.length_map]
      refine⟨⟨1+1,hA⟩,by simp only;omega,Qak (θ:=[(0,0),(1,1),(100,100),(8,1104)]) rfl ?_ ?_⟩
      ·simp [Qae,lkp,ren1,ren0,Qan,Qas]
      ·subst hX;exact⟨⟨rfl,rfl,rfl,rfl,rfl,.inr ⟨rfl,_,_,rfl,rfl,rfl,rfl⟩⟩,⟨rfl,rfl,rfl,rfl,rfl,.inr ⟨rfl,_,_,rfl,rfl,rfl,rfl⟩⟩,⟨rfl,rfl,rfl,rfl,rfl,.inr ⟨rfl,_,_,rfl,rfl,rfl,rfl⟩⟩,⟨rfl,rfl,rfl,rfl,rfl,.inl ⟨rfl,rfl⟩⟩,trivial⟩
   ·skip
    obtain rfl:i=2:=hi0;have hP:plP s a d 2=sm (plcT (s.ax[2]'hA) a d) (s.ax[2]'hA).length:=rfl;have hcx:=hc (s.ax[2]) (List.getElem_mem hA);have hlx:=h6 (s.ax[2]) (List.getElem_mem hA);generalize s.ax[2]'hA=c at*;repeat simp -implicitDefEqProofs only [go_sem,seval,upV,upB]
    refine Qat mixed (fun k:{k:Nat // k≤c.length}=>St.of [(1,.int .i64 a),(2,.int .i64 d),(3,.bp 0 6 0 0),(6,.bp 1 3 0 0),(7,.bp 100 3 0 0),(8,.slc [Qas s.x,Qas s.y,Qas s.z]),(9,.int .i64 2),(10,.bp 601 2 0 0),(11,.int .i64 (k.1:Int))]
     ((0,{els:=[sgPV s],esz:=6,ety:=47,fro:=0,live:=true,arr:=false})::(1,{els:=[.agg [.nilS,.bool false,.nilS]],esz:=3,ety:=44,fro:=0,live:=true,arr:=false})::(601,{els:=[rI (sm (plcT c a d) k.1)],esz:=2,ety:=42,fro:=0,live:=true,arr:=false})::(100,{els:=[.agg [upV 2,.bool false,.nilS]],esz:=3,ety:=44,fro:=0,live:=true,arr:=false})::upB 42 (plP s a d) 2)) (fun k=>c.length-k.1) ⟨0,Nat.zero_le _⟩ ?_ ?_
    ·refine Le.trans (Qyh 601 rfl) (Qak (θ:=[(0,0),(1,1),(601,601),(100,100),(8,8)]) rfl ?_ ?_)
     ·simp [Qae,lkp,ren1,ren0,Qan,Qas]
     ·simp only [upB,upV];refine⟨⟨rfl,rfl,rfl,rfl,rfl,.inr ⟨rfl,_,_,rfl,rfl,rfl,rfl⟩⟩,⟨rfl,rfl,rfl,rfl,rfl,.inr ⟨rfl,_,_,rfl,rfl,rfl,rfl⟩⟩,⟨rfl,rfl,rfl,rfl,rfl,.inr ⟨rfl,_,_,rfl,rfl,?_,rfl⟩⟩,⟨rfl,rfl,rfl,rfl,rfl,.inr ⟨rfl,_,_,rfl,rfl,rfl,rfl⟩⟩,?_⟩
      ·simp only [sm,rI_z];rfl
      ·exact⟨⟨rfl,rfl,rfl,rfl,rfl,.inl ⟨rfl,rfl⟩⟩,trivial⟩
    ·rintro⟨k,hk⟩;by_cases hB:k<c.length
     ·have hB':=ltT hB;have n0:=nnT k;have hgk:=Qcv c k hB;have hwk2:=Qai (a:=k) (by omega);have w5:IntKind.i64.wrap (5-(k:Int))=((5-k:Nat):Int):=by rw [Qah (by omega) (by omega)];omega
      obtain⟨k1,k2⟩:=hcx _ (List.getElem_mem hB);have hcb:bd 64 c:=fun x hx=>Qa2 (hcx x hx);have x1:=hcb _ (List.getElem_mem hB);have o1:=Qfu c[k] k1 k2;have q1:=Qgs a k 64 ha (by omega) (by decide) ba;have q2:=Qgs d (5-k) 64 hd (by omega) (by decide) bd';obtain⟨t1,t2,t3,t4⟩:=Qi4 hcb ba bd' k (by omega);have mm1:=Qiq (Qb7 t1 (by decide)) (Qb7 t2 (by decide));have eT:plcT c a d k=c[k]*(a^k*d^(5-k)):=by unfold plcT;rw [Qc5 hB]
      have mm2:=Qiq (Qb7 x1 (by decide)) (Qb7 t3 (by decide));rw [←eT]at mm2;have y1:=Qec hcb ba bd' k (by omega);have es:sm (plcT c a d) (k+1)=sm (plcT c a d) k+plcT c a d k:=rfl;have a1:=Qzu (Qb7 y1 (by decide)) (Qb7 t4 (by decide));rw [←es]at a1;clear y1 t1 t2 t3 t4 es eT hP;generalize hX:sm (plcT c a d) (k+1)=X at*;generalize sm (plcT c a d) k=Y at*;generalize plcT c a d k=T at*;generalize a^k*d^(5-k)=U at*;generalize a^k=U1 at*;generalize d^(5-k)=U2 at*;repeat (first|simp -implicitDefEqProofs only [go_sem,seval,rI,di,hx,hB',n0,hgk,hwk2,w5,upV,upB,Int.toNat_natCast,List.length_map]|(with_reducible refine Qaa o1 ?_ ?_ ?_);rfl;rfl|(with_reducible refine Qaa q1 ?_ ?_ ?_);rfl;rfl|(with_reducible refine Qaa q2 ?_ ?_ ?_);rfl;rfl|(with_reducible refine Qaa mm1 ?_ ?_ ?_);rfl;rfl|(with_reducible refine Qaa mm2 ?_ ?_ ?_);rfl;rfl|(with_reducible refine Qaa a1 ?_ ?_ ?_);rfl;rfl|(with_reducible refine And.intro (Qac _ _ (by kernel_rfl)) ?_))
      refine⟨⟨k+1,hB⟩,by simp only;omega,Qak (θ:=[(0,0),(1,1),(601,601),(100,100),(8,8)]) rfl ?_ ?_⟩
      ·simp [Qae,lkp,ren1,ren0,Qan,Qas]
      ·simp only [hX];try simp only [upB,upV]
       refine⟨⟨rfl,rfl,rfl,rfl,rfl,.inr ⟨rfl,_,_,rfl,rfl,rfl,rfl⟩⟩,⟨rfl,rfl,rfl,rfl,rfl,.inr ⟨rfl,_,_,rfl,rfl,rfl,rfl⟩⟩,⟨rfl,rfl,rfl,rfl,rfl,.inr ⟨rfl,_,_,rfl,rfl,rfl,rfl⟩⟩,⟨rfl,rfl,rfl,rfl,rfl,.inr ⟨rfl,_,_,rfl,rfl,rfl,rfl⟩⟩,?_⟩;exact⟨⟨rfl,rfl,rfl,rfl,rfl,.inl ⟨rfl,rfl⟩⟩,trivial⟩
     ·have hB':=ltF hB;obtain rfl:k=c.length:=by omega
      rw [←hP];generalize hX:plP s a d 2=X at*;repeat simp -implicitDefEqProofs only [go_sem,seval,rI,di,hx,hB',upV,upB,List.length_map]
      refine⟨⟨2+1,hA⟩,by simp only;omega,Qak (θ:=[(0,0),(1,1),(100,100),(8,1104)]) rfl ?_ ?_⟩
      ·simp [Qae,lkp,ren1,ren0,Qan,Qas]
      ·subst hX;exact⟨⟨rfl,rfl,rfl,rfl,rfl,.inr ⟨rfl,_,_,rfl,rfl,rfl,rfl⟩⟩,⟨rfl,rfl,rfl,rfl,rfl,.inr ⟨rfl,_,_,rfl,rfl,rfl,rfl⟩⟩,⟨rfl,rfl,rfl,rfl,rfl,.inr ⟨rfl,_,_,rfl,rfl,rfl,rfl⟩⟩,⟨rfl,rfl,rfl,rfl,rfl,.inl ⟨rfl,rfl⟩⟩,trivial⟩
  ·have hA':((i:Int)<3)=False:=eq_false (by omega);obtain rfl:i=3:=by omega
   have e3:((List.range 3).map (plP s a d)).map rI=[rI (plP s a d 0),rI (plP s a d 1),rI (plP s a d 2)]:=rfl;simp only [upV,upB,e3];generalize plP s a d 0=X0 at*;generalize plP s a d 1=X1 at*;generalize plP s a d 2=X2 at*;repeat (first|simp -implicitDefEqProofs only [go_sem,seval,Qfn,rI,di]|(with_reducible refine Qaa w1 ?_ ?_ ?_);rfl;rfl|(with_reducible refine Qaa p5 ?_ ?_ ?_);rfl;rfl|(with_reducible refine Qaa m1 ?_ ?_ ?_);rfl;rfl|(with_reducible refine Qaa hlow ?_ ?_ ?_);rfl;rfl)
theorem Zoj (s:Sg) (a d:Int):plV s a d=Qad (plQ s a d 0) (plQ s a d 1) (plQ s a d 2) (plO s a d):=rfl
theorem Zft (s:Sg) (a d:Int):(Qn0 fun i=>plP s a d i/(plG s a d 3:Int))=[plQ s a d 0,plQ s a d 1,plQ s a d 2]:=rfl
theorem Q7d {x y:Int} {B:Nat} (hx:x.natAbs<2^B) (hy:0<y):(x/y).natAbs<2^(B+1):=by
 rw [Nat.pow_succ];have h2:0<2^B:=Nat.two_pow_pos B;rcases Qzn hx hy with h|h<;>omega
theorem Zxg {m B:Nat} (h:m<2^B) (hk:B≤2000):m<2^2000:=Qfz (C:=2000) h hk
theorem Qt9 {s:Sg} {a d:Int} (hs:okSg s) (h6: ∀c∈s.ax,c.length≤6) (ho:1≤s.o) (ha:i64 a) (hd:i64 d) (hd1:1≤d):(∀i,i<3→(plQ s a d i).natAbs<2^2000)∧(plO s a d).natAbs<2^2000:=by
 have hcB: ∀c∈s.ax,bd 64 c:=fun c hx x hx2=>Qa2 (hs.c c hx x hx2);have bP:=Qy4 hcB h6 (Qa2 ha) (Qa2 hd);have bo:=Zew (s:=s) (Qa2 hs.o) (Qa2 hd);have hg:=Qv5 ho hd1 3 (s:=s) (a:=a);exact⟨fun i hi=>Zxg (Q7d (bP i hi) (by omega)) (by decide),Zxg (Q7d bo (by omega)) (by decide)⟩
theorem Qzs (x y z o:Int) (B:Nat) (hB:B≤6000000) (hx:x.natAbs<2^B) (hy:y.natAbs<2^B) (hz:z.natAbs<2^B) (ho:o.natAbs<2^B):
  Qaf Tryz.prog 11 [Qfn [x,y,z] o] (Qad x y z o):=by
 have t1:=Zf1 (Zet hx (by omega));have t2:=Zf1 (Zet hy (by omega));have t3:=Zf1 (Zet hz (by omega));have t4:=Zf1 (Zet ho (by omega));have hp:Qfn [x,y,z] o= .agg [.slc [rI x,rI y,rI z],.bool (decide (o<0)),.slc ((digs E9 o.natAbs).map fun d:Nat=>PV.int .i64 (d:Int))]:=rfl;rw [hp];refine Qab (tb:=[]) 22 [.cell 2 38] [0,1,2] mixed Tryz.func11 rfl (by kernel_rfl) ?_;repeat (first|simp -implicitDefEqProofs only [go_sem,seval,rI,di,wPV]|(with_reducible refine Qaa t1 ?_ ?_ ?_);rfl;rfl|(with_reducible refine Qaa t2 ?_ ?_ ?_);rfl;rfl|(with_reducible refine Qaa t3 ?_ ?_ ?_);rfl;rfl|(with_reducible refine Qaa t4 ?_ ?_ ?_);rfl;rfl|(with_reducible exact Qac _ _ (by kernel_rfl)))
theorem Qua (x y z o x' y' z' o':Int):(decide (x<0)==decide (x'<0)&&(mB x==mB x'&&(decide (y<0)==decide (y'<0)&&(mB y==mB y'&&(decide (z<0)==decide (z'<0)&&(mB z==mB z'&&(decide (o<0)==decide (o'<0)&&mB o==mB o')))))))=
  (decide (x=x')&&(decide (y=y')&&(decide (z=z')&&decide (o=o')))):=by
 rw [←Qk1 x x',←Qk1 y y',←Qk1 z z',←Qk1 o o'];simp only [Bool.and_assoc]
theorem Zre (x y z o x' y' z' o':Int) (B:Nat) (hB:B≤6000000) (hx:x.natAbs<2^B) (hy:y.natAbs<2^B) (hz:z.natAbs<2^B) (ho:o.natAbs<2^B)
  (hx':x'.natAbs<2^B) (hy':y'.natAbs<2^B) (hz':z'.natAbs<2^B) (ho':o'.natAbs<2^B):
  Qaf Tryz.prog 36 [Qfn [x,y,z] o,Qfn [x',y',z'] o'] (.bool (decide (x=x')&&(decide (y=y')&&(decide (z=z')&&decide (o=o'))))):=by
 have t1:=Qzs x y z o B hB hx hy hz ho;have t2:=Qzs x' y' z' o' B hB hx' hy' hz' ho';refine Qab (tb:=[]) 10 [.tmp 4] [0,1,2,3,4] mixed Tryz.func36 rfl (by kernel_rfl) ?_;repeat (first|simp -implicitDefEqProofs only [go_sem,seval,Qfn,rI,di,Qua]|(with_reducible refine Qaa t1 ?_ ?_ ?_);rfl;rfl|(with_reducible refine Qaa t2 ?_ ?_ ?_);rfl;rfl|(with_reducible exact Qac _ _ (by kernel_rfl)))
theorem Zfu (a b:Sg) (ha:okSg a) (hb:okSg b) (va:Qau a=true) (vb:Qau b=true):Qaf Tryz.prog 73 [sgPV a,sgPV b] (.bool (Qdr a b)):=by
 have o1:i64 1:=by unfold i64;omega
 have o0:i64 0:=by unfold i64;omega
 have t1:=Qr4 a 1 1 ha (Qdg va) (Qc7 va) o1 o1 (by decide);have t2:=Qr4 b 0 1 hb (Qdg vb) (Qc7 vb) o0 o1 (by decide);rw [Zoj]at t1 t2;unfold Qdr Qnl;generalize plQ a 1 1 0=x0 at*;generalize plQ a 1 1 1=x1 at*;generalize plQ a 1 1 2=x2 at*;generalize plO a 1 1=x3 at*;generalize plQ b 0 1 0=y0 at*;generalize plQ b 0 1 1=y1 at*;generalize plQ b 0 1 2=y2 at*;generalize plO b 0 1=y3 at*;by_cases h:a.t=b.f
 ·have h':(a.t==b.f)=true:=by rw [h];exact beq_self_eq_true _
  rw [decide_eq_true h,Bool.true_and];refine Qab (tb:=[]) 17 [.tmp 4] [0,1,2,3,4] mixed Tryz.func73 rfl (by kernel_rfl) ?_;repeat (first|simp -implicitDefEqProofs only [go_sem,seval,h',Qua]|(with_reducible refine Qaa t1 ?_ ?_ ?_);rfl;rfl|(with_reducible refine Qaa t2 ?_ ?_ ?_);rfl;rfl|(with_reducible exact Qac _ _ (by kernel_rfl)))
 ·have h':(a.t==b.f)=false:=beq_eq_false_iff_ne.2 h;rw [decide_eq_false h,Bool.false_and];refine Qab (tb:=[]) 17 [.tmp 4] [0,1,2,3,4] mixed Tryz.func73 rfl (by kernel_rfl) ?_;repeat (first|simp -implicitDefEqProofs only [go_sem,seval,h']|(with_reducible exact Qac _ _ (by kernel_rfl)))
def Qbx (p:List Sg):PV:= .slc (p.map sgPV)
attribute [go_sem] Qbx
theorem Qd6 (p:List Sg) (i:Nat) (h:i<p.length):(p.map sgPV)[i]? =some (.agg [.int .i64 p[i].f,.int .i64 p[i].t,.int .i64 p[i].o,.slc (p[i].x.map (PV.int .i64)),.slc (p[i].y.map (PV.int .i64)),.slc (p[i].z.map (PV.int .i64))]):=by
 rw [List.getElem?_map,List.getElem?_eq_getElem h];rfl
set_option maxHeartbeats 1000000 in
theorem Qhh (p:List Sg) (hp: ∀s∈p,okSg s) (hl:p.length≤1000000):Qaf Tryz.prog 41 [Qbx p] (.bool (Qa7 p)):=by
 refine Qab (tb:=[]) 38 [.tmp 2] [0,2,3,4,5,6,7,8,28] mixed Tryz.func41 rfl (by kernel_rfl) ?_;repeat simp -implicitDefEqProofs only [go_sem,seval,List.length_map]
 have z0:0≤p.length∧vpTo p 0=true:=⟨Nat.zero_le _,rfl⟩;refine Qat mixed (fun i:{i:Nat // i≤p.length∧vpTo p i=true}=>St.of [(0,Qbx p),(2,.bool false),(5,Qbx p),(6,.int .i64 (p.length:Int)),(7,.int .i64 (i.1:Int))] []) (fun i=>p.length-i.1) ⟨0,z0⟩ ?_ ?_
 ·exact Qa5 (by simp [Qae,lkp,ren1,ren0,Qbx])
 ·rintro⟨i,hi,hall⟩;by_cases hA:i<p.length
  ·have hA':=ltT hA;have n0:=nnT i;have hg:=Qd6 p i hA;have hwk:=Qai (a:=i) (by omega);have ok1:=hp _ (List.getElem_mem hA);have hv:=Qzq p[i] ok1;have hgD:=sgD hA;cases hV:Qau p[i]with
   |false=>
    have e:Qa7 p=false:=Qgb (j:=i) (by unfold vpAt;rw [hgD,hV];rfl) hA;rw [hV]at hv;unfold sgPV Qas at hv;repeat (first|simp -implicitDefEqProofs only [go_sem,seval,hA',n0,hg,Int.toNat_natCast,e]|(with_reducible refine Qaa hv ?_ ?_ ?_);rfl;rfl|(with_reducible exact Qac _ _ (by kernel_rfl)))
   |true=>
    rw [hV]at hv;unfold sgPV Qas at hv;by_cases hz:i=0
    ·have hz':((0:Int)<(i:Int))=False:=eq_false (by omega);have hn:vpTo p (i+1)=true:=by rw [Qjl,hall];unfold vpAt;rw [hgD,hV,decide_eq_true hz];rfl
     repeat (first|simp -implicitDefEqProofs only [go_sem,seval,hA',n0,hg,hwk,hz',Int.toNat_natCast]|(with_reducible refine Qaa hv ?_ ?_ ?_);rfl;rfl|(with_reducible refine And.intro (Qac _ _ (by kernel_rfl)) ?_))
     refine⟨⟨i+1,hA,hn⟩,by simp only;omega,Qa5 (by simp [Qae,lkp,ren1,ren0,Qbx])⟩
    ·have hz':((0:Int)<(i:Int))=True:=eq_true (by omega);have hA1:i-1<p.length:=by omega
     have n1:=nnT (i-1);have hg1:=Qd6 p (i-1) hA1;have w1:IntKind.i64.wrap ((i:Int)-1)=((i-1:Nat):Int):=by rw [Qah (by omega) (by omega)];omega
     have hV1:Qau p[i-1]=true:=by have:=Qks hall (j:=i-1) (by omega);rwa [sgD hA1]at this
     have hm:=Zfu p[i-1] p[i] (hp _ (List.getElem_mem hA1)) ok1 hV1 hV;have ev:vpAt p i=Qdr p[i-1] p[i]:=by unfold vpAt;rw [hgD,sgD hA1,hV,decide_eq_false hz];simp
     cases hM:Qdr p[i-1] p[i]with
     |false=>
      have e:Qa7 p=false:=Qgb (j:=i) (ev.trans hM) hA;rw [hM]at hm;unfold sgPV Qas at hm;repeat (first|simp -implicitDefEqProofs only [go_sem,seval,hA',n0,hg,hz',w1,n1,hg1,Int.toNat_natCast,e]|(with_reducible refine Qaa hv ?_ ?_ ?_);rfl;rfl|(with_reducible refine Qaa hm ?_ ?_ ?_);rfl;rfl|(with_reducible exact Qac _ _ (by kernel_rfl)))
     |true=>
      have hn:vpTo p (i+1)=true:=by rw [Qjl,hall,ev,hM];rfl
      rw [hM]at hm;unfold sgPV Qas at hm;repeat (first|simp -implicitDefEqProofs only [go_sem,seval,hA',n0,hg,hwk,hz',w1,n1,hg1,Int.toNat_natCast]|(with_reducible refine Qaa hv ?_ ?_ ?_);rfl;rfl|(with_reducible refine Qaa hm ?_ ?_ ?_);rfl;rfl|(with_reducible refine And.intro (Qac _ _ (by kernel_rfl)) ?_))
      refine⟨⟨i+1,hA,hn⟩,by simp only;omega,Qa5 (by simp [Qae,lkp,ren1,ren0,Qbx])⟩
  ·have hA':=ltF hA;obtain rfl:i=p.length:=by omega
   have e0:Qa7 p=(decide (1≤p.length)&&decide (p.length≤256)):=by unfold Qa7;rw [hall,Bool.true_and]
   rw [e0];by_cases c1:1≤p.length
   ·have c1':((1:Int)≤(p.length:Int))=True:=eq_true (by omega);have c2':decide ((p.length:Int)≤256)=decide (p.length≤256):=by rw [decide_eq_decide];omega
    rw [decide_eq_true c1,Bool.true_and];repeat simp -implicitDefEqProofs only [go_sem,seval,hA',c1',c2',List.length_map]
   ·have c1':((1:Int)≤(p.length:Int))=False:=eq_false (by omega);rw [decide_eq_false c1,Bool.false_and];repeat simp -implicitDefEqProofs only [go_sem,seval,hA',c1',List.length_map]
set_option maxHeartbeats 1000000 in
theorem Qub (p:List Sg) (hp: ∀s∈p,okSg s) (hl:p.length≤1000000):Qaf Tryz.prog 14 [Qbx p] (.bool (Qa7 p)):=by
 have o1:i64 1:=by unfold i64;omega
 have o0:i64 0:=by unfold i64;omega
 refine Qab (tb:=[]) 57 [.tmp 2] [0,2,3,7,48] mixed Tryz.func14 rfl (by kernel_rfl) ?_;repeat simp -implicitDefEqProofs only [go_sem,seval]
 have z0:0≤p.length∧vpTo p 0=true:=⟨Nat.zero_le _,rfl⟩;refine Qat mixed (fun i:{i:Nat // i≤p.length∧vpTo p i=true}=>St.of [(0,Qbx p),(2,.bool false),(3,.int .i64 (i.1:Int))] []) (fun i=>p.length-i.1) ⟨0,z0⟩ ?_ ?_
 ·exact Qa5 (by simp [Qae,lkp,ren1,ren0,Qbx])
 ·rintro⟨i,hi,hall⟩;by_cases hA:i<p.length
  ·have hA':=ltT hA;have n0:=nnT i;have hg:=Qd6 p i hA;have hwk:=Qai (a:=i) (by omega);have ok1:=hp _ (List.getElem_mem hA);have hv:=Q7b p[i] ok1;have hgD:=sgD hA;cases hV:Qau p[i]with
   |false=>
    have e:Qa7 p=false:=Qgb (j:=i) (by unfold vpAt;rw [hgD,hV];rfl) hA;rw [hV]at hv;unfold sgPV Qas at hv;repeat (first|simp -implicitDefEqProofs only [go_sem,seval,hA',n0,hg,Int.toNat_natCast,List.length_map,e]|(with_reducible refine Qaa hv ?_ ?_ ?_);rfl;rfl|(with_reducible exact Qac _ _ (by kernel_rfl)))
   |true=>
    rw [hV]at hv;unfold sgPV Qas at hv;by_cases hz:i=0
    ·have hz':((0:Int)<(i:Int))=False:=eq_false (by omega);have hn:vpTo p (i+1)=true:=by rw [Qjl,hall];unfold vpAt;rw [hgD,hV,decide_eq_true hz];rfl
     repeat (first|simp -implicitDefEqProofs only [go_sem,seval,hA',n0,hg,hwk,hz',Int.toNat_natCast,List.length_map]|(with_reducible refine Qaa hv ?_ ?_ ?_);rfl;rfl|(with_reducible refine And.intro (Qac _ _ (by kernel_rfl)) ?_))
     refine⟨⟨i+1,hA,hn⟩,by simp only;omega,Qa5 (by simp [Qae,lkp,ren1,ren0,Qbx])⟩
    ·have hz':((0:Int)<(i:Int))=True:=eq_true (by omega);have hA1:i-1<p.length:=by omega
     have n1:=nnT (i-1);have hg1:=Qd6 p (i-1) hA1;have w1:IntKind.i64.wrap ((i:Int)-1)=((i-1:Nat):Int):=by rw [Qah (by omega) (by omega)];omega
     have hV1:Qau p[i-1]=true:=by have:=Qks hall (j:=i-1) (by omega);rwa [sgD hA1]at this
     have ev:vpAt p i=Qdr p[i-1] p[i]:=by unfold vpAt;rw [hgD,sgD hA1,hV,decide_eq_false hz];simp
     have ok2:=hp _ (List.getElem_mem hA1);by_cases hT:p[i-1].t=p[i].f
     ·have hT':(p[i].f != p[i-1].t)=false:=by rw [hT];simp
      have r1:=Qmq p[i] 0 1 ok1 (Qdg hV) (Qc7 hV) o0 o1 (by decide);have r2:=Qmq p[i-1] 1 1 ok2 (Qdg hV1) (Qc7 hV1) o1 o1 (by decide);rw [Zft]at r1 r2;have b1:=Qt9 ok1 (Qdg hV) (Qc7 hV) o0 o1 (by decide);have b2:=Qt9 ok2 (Qdg hV1) (Qc7 hV1) o1 o1 (by decide);have bb:=Zre (plQ p[i] 0 1 0) (plQ p[i] 0 1 1) (plQ p[i] 0 1 2) (plO p[i] 0 1) (plQ p[i-1] 1 1 0) (plQ p[i-1] 1 1 1) (plQ p[i-1] 1 1 2) (plO p[i-1] 1 1) 2000 (by decide) (b1.1 0 (by decide)) (b1.1 1 (by decide)) (b1.1 2 (by decide)) b1.2 (b2.1 0 (by decide)) (b2.1 1 (by decide)) (b2.1 2 (by decide)) b2.2;have es:(decide (plQ p[i] 0 1 0=plQ p[i-1] 1 1 0)&&(decide (plQ p[i] 0 1 1=plQ p[i-1] 1 1 1)&&(decide (plQ p[i] 0 1 2=plQ p[i-1] 1 1 2)&&decide (plO p[i] 0 1=plO p[i-1] 1 1))))=Qdr p[i-1] p[i]:=by
       unfold Qdr;rw [decide_eq_true hT,Bool.true_and,Qv6];rfl
      rw [es]at bb;have e4:(p[i].o*1^5/(plG p[i] 0 1 3:Int))=plO p[i] 0 1:=rfl;have e5:(p[i-1].o*1^5/(plG p[i-1] 1 1 3:Int))=plO p[i-1] 1 1:=rfl;rw [e4]at r1;rw [e5]at r2;clear e4 e5 es;unfold Qfn at r1 r2 bb;generalize [plQ p[i] 0 1 0,plQ p[i] 0 1 1,plQ p[i] 0 1 2]=L1 at*;generalize [plQ p[i-1] 1 1 0,plQ p[i-1] 1 1 1,plQ p[i-1] 1 1 2]=L2 at*;generalize plO p[i] 0 1=z1 at*;generalize plO p[i-1] 1 1=z2 at*;unfold sgPV Qas at r1 r2;cases hM:Qdr p[i-1] p[i]with
      |false=>
       have e:Qa7 p=false:=Qgb (j:=i) (ev.trans hM) hA;rw [hM]at bb;repeat (first|simp -implicitDefEqProofs only [go_sem,seval,di,hA',n0,hg,hz',hT',w1,n1,hg1,Int.toNat_natCast,List.length_map,e]|(with_reducible refine Qaa hv ?_ ?_ ?_);rfl;rfl|(with_reducible refine Qaa r1 ?_ ?_ ?_);rfl;rfl|(with_reducible refine Qaa r2 ?_ ?_ ?_);rfl;rfl|(with_reducible refine Qaa bb ?_ ?_ ?_);rfl;rfl|(with_reducible exact Qac _ _ (by kernel_rfl)))
      |true=>
       have hn:vpTo p (i+1)=true:=by rw [Qjl,hall,ev,hM];rfl
       rw [hM]at bb;repeat (first|simp -implicitDefEqProofs only [go_sem,seval,di,hA',n0,hg,hwk,hz',hT',w1,n1,hg1,Int.toNat_natCast,List.length_map]|(with_reducible refine Qaa hv ?_ ?_ ?_);rfl;rfl|(with_reducible refine Qaa r1 ?_ ?_ ?_);rfl;rfl|(with_reducible refine Qaa r2 ?_ ?_ ?_);rfl;rfl|(with_reducible refine Qaa bb ?_ ?_ ?_);rfl;rfl|(with_reducible refine And.intro (Qac _ _ (by kernel_rfl)) ?_))
       refine⟨⟨i+1,hA,hn⟩,by simp only;omega,Qa5 (by simp [Qae,lkp,ren1,ren0,Qbx])⟩
     ·have hT':(p[i].f != p[i-1].t)=true:=by simp only [bne_iff_ne,ne_eq];exact fun e=>hT e.symm
      have e:Qa7 p=false:=Qgb (j:=i) (by rw [ev];unfold Qdr;rw [decide_eq_false hT];rfl) hA;repeat (first|simp -implicitDefEqProofs only [go_sem,seval,hA',n0,hg,hz',hT',w1,n1,hg1,Int.toNat_natCast,List.length_map,e]|(with_reducible refine Qaa hv ?_ ?_ ?_);rfl;rfl|(with_reducible exact Qac _ _ (by kernel_rfl)))
  ·have hA':=ltF hA;obtain rfl:i=p.length:=by omega
   have e0:Qa7 p=(decide (1≤p.length)&&decide (p.length≤256)):=by unfold Qa7;rw [hall,Bool.true_and]
   rw [e0];by_cases c1:1≤p.length
   ·have c1':((1:Int)≤(p.length:Int))=True:=eq_true (by omega);have c2':decide ((p.length:Int)≤256)=decide (p.length≤256):=by rw [decide_eq_decide];omega
    rw [decide_eq_true c1,Bool.true_and];repeat simp -implicitDefEqProofs only [go_sem,seval,hA',c1',c2',List.length_map]
   ·have c1':((1:Int)≤(p.length:Int))=False:=eq_false (by omega);rw [decide_eq_false c1,Bool.false_and];repeat simp -implicitDefEqProofs only [go_sem,seval,hA',c1',List.length_map]
theorem Q7e (p:List Sg) (m:Nat) (hm:m≤1000) (hl:p.length≤maxLen):Qaf Tryz.prog 4 [Qbx p,.int .i64 (m:Int)] (.bool (fewB p m)):=by
 unfold maxLen at hl;refine Qab (tb:=[]) 46 [.tmp 4] [0,1,4,5,14,41] mixed Tryz.func4 rfl (by kernel_rfl) ?_;repeat simp -implicitDefEqProofs only [go_sem,seval]
 have z0:0≤p.length∧0≤m+1∧(p.take 0).all few1=true:=⟨Nat.zero_le _,Nat.zero_le _,rfl⟩;refine Qat mixed (fun i:{i:Nat // i≤p.length∧i≤m+1∧(p.take i).all few1=true}=>St.of [(0,Qbx p),(1,.int .i64 (m:Int)),(4,.bool false),(5,.int .i64 (i.1:Int))] []) (fun i=>p.length-i.1) ⟨0,z0⟩ ?_ ?_
 ·exact Qa5 (by simp [Qae,lkp,ren1,ren0,Qbx])
 ·rintro⟨i,hi,hi2,hall⟩;by_cases hA:i<p.length
  ·have hA':=ltT hA;by_cases hM:i≤m
   ·have hM':=leT hM;have n0:=nnT i;have g1:=Qd6 p i hA;have hwk:=Qai (a:=i) (by omega);by_cases x1:p[i].x.length≤8
    case neg=>
     have x1':((8:Int)<(p[i].x.length:Int))=True:=eq_true (by omega);have e:fewB p m=false:=Qrj hA hM (by unfold few1;rw [decide_eq_false x1];rfl);repeat simp -implicitDefEqProofs only [go_sem,seval,hA',hM',n0,g1,x1',e,Int.toNat_natCast,List.length_map]
    have x1':((8:Int)<(p[i].x.length:Int))=False:=eq_false (by omega);by_cases x2:p[i].y.length≤8
    case neg=>
     have x2':((8:Int)<(p[i].y.length:Int))=True:=eq_true (by omega);have e:fewB p m=false:=Qrj hA hM (by unfold few1;rw [decide_eq_false x2];simp);repeat simp -implicitDefEqProofs only [go_sem,seval,hA',hM',n0,g1,x1',x2',e,Int.toNat_natCast,List.length_map]
    have x2':((8:Int)<(p[i].y.length:Int))=False:=eq_false (by omega);by_cases x3:p[i].z.length≤8
    case neg=>
     have x3':((8:Int)<(p[i].z.length:Int))=True:=eq_true (by omega);have e:fewB p m=false:=Qrj hA hM (by unfold few1;rw [decide_eq_false x3];simp);repeat simp -implicitDefEqProofs only [go_sem,seval,hA',hM',n0,g1,x1',x2',x3',e,Int.toNat_natCast,List.length_map]
    have x3':((8:Int)<(p[i].z.length:Int))=False:=eq_false (by omega);repeat simp -implicitDefEqProofs only [go_sem,seval,hA',hM',n0,g1,hwk,x1',x2',x3',Int.toNat_natCast,List.length_map]
    refine⟨⟨i+1,hA,by omega,Qzv hA hall (by unfold few1;rw [decide_eq_true x1,decide_eq_true x2,decide_eq_true x3];rfl)⟩,by simp only;omega,Qa5 (by simp [Qae,lkp,ren1,ren0,Qbx])⟩
   ·have hM':=leF hM;have hle:((p.length:Int)≤(m:Int))=False:=eq_false (by omega);have e:fewB p m=false:=by unfold fewB;rw [decide_eq_false (show¬p.length≤m by omega),Bool.and_false]
    repeat simp -implicitDefEqProofs only [go_sem,seval,hA',hM',hle,e,List.length_map]
  ·have hA':=ltF hA;obtain rfl:i=p.length:=by omega
   rw [List.take_length]at hall;have e:fewB p m=decide (p.length≤m):=by
    unfold fewB;by_cases c:p.length≤m
    ·rw [List.take_of_length_le (by omega),hall,Bool.true_and]
    ·rw [decide_eq_false c,Bool.and_false]
   have hle:decide ((p.length:Int)≤(m:Int))=decide (p.length≤m):=by rw [decide_eq_decide];omega
   repeat simp -implicitDefEqProofs only [go_sem,seval,hA',hle,e,List.length_map]
end Go.Proofs.YtcaffiaempefjaaGreatDoor
