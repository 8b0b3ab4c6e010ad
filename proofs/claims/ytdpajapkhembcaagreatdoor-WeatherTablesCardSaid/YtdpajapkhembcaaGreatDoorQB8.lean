/-
  QM5, QM6, QM7, QM8, QM9, QM10, QB7, QI6, QB8 (merged for the claim).
-/
import Derived.Test.YtdpajapkhembcaaGreatDoorDbe
import Derived.Test.YtdpajapkhembcaaGreatDoorDsn
import Derived.Test.YtdpajapkhembcaaGreatDoorQI4
import Derived.Test.YtdpajapkhembcaaGreatDoorQP4
set_option linter.unusedSimpArgs false
set_option linter.unusedVariables false
namespace Go.Proofs.YtdpajapkhembcaaGreatDoor
open Go.Vl Go.RowKit Go.Dg
theorem Qzl {m B:Nat} (h:m<2^B) (hk:B≤65000):m<2^65000:=Qv1 (C:=65000) h hk
def w3PV (x y z:Int):PV:= .agg [.bool (decide (x<0)),.str (mB x),.bool (decide (y<0)),.str (mB y),.bool (decide (z<0)),.str (mB z)]
def Qad (x y z o:Int):PV:= .agg [.bool (decide (x<0)),.str (mB x),.bool (decide (y<0)),.str (mB y),.bool (decide (z<0)),.str (mB z),.bool (decide (o<0)),.str (mB o)]
theorem nc0:((0:Nat):Int)=0:=rfl
theorem nc1:((1:Nat):Int)=1:=rfl
theorem nc2:((2:Nat):Int)=2:=rfl
theorem nc3:((3:Nat):Int)=3:=rfl
theorem wr1:IntKind.i64.wrap 1=1:=rfl
theorem wr2:IntKind.i64.wrap 2=2:=rfl
theorem wr3:IntKind.i64.wrap 3=3:=rfl
attribute [go_sem] w3PV Qad nc0 nc1 nc2 nc3 wr1 wr2 wr3
theorem mB_0:mB 0=⟨#[]⟩:=by unfold mB;rw [(Qmc 0).2 rfl]
def sel (P:Nat→Int) (i m:Nat) (X:Int):Int:=if m=i then X else at3 P i m
def plV (s:Sg) (a d:Int):PV:=Qad (plP s a d 0/(plG s a d 3:Int)) (plP s a d 1/(plG s a d 3:Int)) (plP s a d 2/(plG s a d 3:Int)) (s.o*d^5/(plG s a d 3:Int))
set_option maxHeartbeats 2000000 in
theorem Qrv (s:Sg) (a d:Int) (hs:okSg s) (h6: ∀c∈s.ax,c.length≤6) (ho:1≤s.o) (ha:i64 a) (hd:i64 d) (hd1:1≤d):
  Qae Tryz.prog 96 [sgPV s,.int .i64 a,.int .i64 d] (plV s a d):=by
 obtain⟨⟨a1,a2⟩,⟨a3,a4⟩,⟨a5,a6⟩,hc,hl⟩:=hs;have ba:=Qcd ha;have bd':=Qcd hd;have bo:=Qcd ⟨a5,a6⟩;have w1:=Qh7 s.o a5 a6;have p5:=Qf0 d 5 64 hd.1 hd.2 (by decide) (by decide) bd';have bd5:=Q7p bd' 5;have bod:=Zpv (s:=s) bo bd';have m1:=Qh8 (Qa4 bo (by decide)) (Qa4 bd5 (by decide)) (Qa4 bod (by decide));have hax:=Zos s;have hG0:(plG s a d 0:Int)=s.o*d^5:=by
  have h:0<s.o*d^5:=Int.mul_pos (by omega) (Int.pow_pos (by omega));show(((s.o*d^5).natAbs:Nat):Int)=_;omega
 have hcB: ∀c∈s.ax,bd 64 c:=fun c hx x hx2=>Qcd (hc c hx x hx2);have bP:=Q5o hcB h6 ba bd';have bG:=Zwp hcB h6 bo ba bd';generalize hO:s.o*d^5=O at*;have hsg:sgPV s= .agg [.int .i64 s.f,.int .i64 s.t,.int .i64 s.o,.slc (s.x.map (PV.int .i64)),.slc (s.y.map (PV.int .i64)),.slc (s.z.map (PV.int .i64))]:=rfl;rw [hsg]at hax ⊢;refine Qab (tb:=[]) 74 [.cell 6 136] [0,1,2,3,6,7,8,9,10,11,12,13,22,23,24,27,28,29,30] mixed Tryz.func96 rfl (by kernel_rfl) (by kernel_rfl) (by kernel_rfl) (by kernel_rfl) ?_;repeat (first|(simp -implicitDefEqProofs only [go_sem,seval,wPV])|((with_reducible refine Qaa w1 ?_ ?_ ?_);rfl;rfl)|((with_reducible refine Qaa p5 ?_ ?_ ?_);rfl;rfl)|((with_reducible refine Qaa m1 ?_ ?_ ?_);rfl;rfl)|((with_reducible refine Qaa hax ?_ ?_ ?_);rfl;rfl))
 refine Qav mixed (fun i:{i:Nat // i≤3}=>St.of [(1,.int .i64 a),(2,.int .i64 d),(6,.bp 1 8 0 0),(7,.bp 100 6 0 0),(8,.bp 206 2 0 0),(9,.bp 301 2 0 0),(22,.agg [Qbi s.x,Qbi s.y,Qbi s.z]),(23,.int .i64 (i.1:Int))]
  [(1,{els:=[.agg [.bool false,.str ⟨#[]⟩,.bool false,.str ⟨#[]⟩,.bool false,.str ⟨#[]⟩,.bool false,.str ⟨#[]⟩]],esz:=8,ety:=136,fro:=0,live:=true,arr:=false}),(100,{els:=[w3PV (at3 (plP s a d) i.1 0) (at3 (plP s a d) i.1 1) (at3 (plP s a d) i.1 2)],esz:=6,ety:=139,fro:=0,live:=true,arr:=false}),(206,{els:=[wPV O],esz:=2,ety:=134,fro:=0,live:=true,arr:=false}),(301,{els:=[wPV ((plG s a d i.1:Nat):Int)],esz:=2,ety:=134,fro:=0,live:=true,arr:=false})]) (fun i=>3-i.1) ⟨0,Nat.zero_le _⟩ ?_ ?_
 ·refine Qan (θ:=[(1,1),(100,100),(206,206),(301,301)]) rfl ?_ ?_
  ·simp [Qaf,lkp,ren1,ren0,Qai,Qbi]
  ·refine⟨⟨rfl,rfl,rfl,rfl,rfl,.inr ⟨rfl,_,_,rfl,rfl,rfl,rfl⟩⟩,⟨rfl,rfl,rfl,rfl,rfl,.inr ⟨rfl,_,_,rfl,rfl,?_,rfl⟩⟩,⟨rfl,rfl,rfl,rfl,rfl,.inr ⟨rfl,_,_,rfl,rfl,rfl,rfl⟩⟩,⟨rfl,rfl,rfl,rfl,rfl,.inr ⟨rfl,_,_,rfl,rfl,?_,rfl⟩⟩,trivial⟩
   ·simp only [at3,Nat.not_lt_zero,if_false,w3PV,mB_0];rfl
   ·simp only [hG0];rfl
 ·rintro⟨i,hi⟩;by_cases hA:i<3
  ·have hA':((i:Int)<3)=True:=eq_true (by omega);have hA2:=ltT hA;have h0:=nnT i;have hx:=Q7t s i hA;have hwk:=Qam (a:=i) (by omega);rcases(show i=0∨i=1∨i=2 by omega)with hi0|hi0|hi0
   ·skip
    obtain rfl:i=0:=hi0;have hm:s.ax.getD 0 []=s.ax[0]'hA:=rfl;have hP:plP s a d 0=sm (plcT (s.ax[0]'hA) a d) (s.ax[0]'hA).length:=rfl;have hcx:=hc (s.ax[0]) (List.getElem_mem hA);have hlx:=h6 (s.ax[0]) (List.getElem_mem hA);have bPi:=bP 0 (by omega);have bGi:=bG 0 (by omega);have hGs:=Qfw s a d 0;generalize s.ax[0]'hA=c at*;repeat (first|(simp -implicitDefEqProofs only [go_sem,seval,hx,List.length_map,at3]))
    refine Qav mixed (fun k:{k:Nat // k≤c.length}=>St.of [(1,.int .i64 a),(2,.int .i64 d),(6,.bp 1 8 0 0),(7,.bp 100 6 0 0),(8,.bp 206 2 0 0),(9,.bp 301 2 0 0),(22,.agg [Qbi s.x,Qbi s.y,Qbi s.z]),(23,.int .i64 0),(10,.int .i64 0),(27,Qbi c),(28,.int .i64 (c.length:Int)),(29,.int .i64 (k.1:Int))]
     [(1,{els:=[.agg [.bool false,.str ⟨#[]⟩,.bool false,.str ⟨#[]⟩,.bool false,.str ⟨#[]⟩,.bool false,.str ⟨#[]⟩]],esz:=8,ety:=136,fro:=0,live:=true,arr:=false}),(100,{els:=[w3PV (sel (plP s a d) 0 0 (sm (plcT c a d) k.1)) (sel (plP s a d) 0 1 (sm (plcT c a d) k.1)) (sel (plP s a d) 0 2 (sm (plcT c a d) k.1))],esz:=6,ety:=139,fro:=0,live:=true,arr:=false}),(206,{els:=[wPV O],esz:=2,ety:=134,fro:=0,live:=true,arr:=false}),(301,{els:=[wPV ((plG s a d 0:Nat):Int)],esz:=2,ety:=134,fro:=0,live:=true,arr:=false})]) (fun k=>c.length-k.1) ⟨0,Nat.zero_le _⟩ ?_ ?_
    ·refine Qan (θ:=[(1,1),(100,100),(206,206),(301,301)]) rfl ?_ ?_
     ·simp [Qaf,lkp,ren1,ren0,Qai,Qbi]
     ·refine⟨⟨rfl,rfl,rfl,rfl,rfl,.inr ⟨rfl,_,_,rfl,rfl,rfl,rfl⟩⟩,⟨rfl,rfl,rfl,rfl,rfl,.inr ⟨rfl,_,_,rfl,rfl,?_,rfl⟩⟩,⟨rfl,rfl,rfl,rfl,rfl,.inr ⟨rfl,_,_,rfl,rfl,rfl,rfl⟩⟩,⟨rfl,rfl,rfl,rfl,rfl,.inr ⟨rfl,_,_,rfl,rfl,rfl,rfl⟩⟩,trivial⟩;simp only [sel,at3,sm];rfl
    ·rintro⟨k,hk⟩;by_cases hB:k<c.length
     ·have hB':=ltT hB;have n0:=nnT k;have hgk:=Qf1 c k hB;have hwk2:=Qam (a:=k) (by omega);have w5:IntKind.i64.wrap (5-(k:Int))=((5-k:Nat):Int):=by rw [Qag (by omega) (by omega)];omega
      obtain⟨k1,k2⟩:=hcx _ (List.getElem_mem hB);have hcb:bd 64 c:=fun x hx=>Qcd (hcx x hx);have x1:=hcb _ (List.getElem_mem hB);have o1:=Qh7 c[k] k1 k2;have q1:=Qf0 a k 64 ha.1 ha.2 (by omega) (by decide) ba;have q2:=Qf0 d (5-k) 64 hd.1 hd.2 (by omega) (by decide) bd';obtain⟨t1,t2,t3,t4⟩:=Qq5 hcb ba bd' k (by omega);have mm1:=Qh8 (Qa4 t1 (by decide)) (Qa4 t2 (by decide)) (Qa4 t3 (by decide));have eT:plcT c a d k=c[k]*(a^k*d^(5-k)):=by unfold plcT;rw [Qno hB]
      rw [eT]at t4;have mm2:=Qh8 (Qa4 x1 (by decide)) (Qa4 t3 (by decide)) (Qa4 t4 (by decide));rw [←eT]at mm2 t4;have y1:=Qfx hcb ba bd' k (by omega);have y2:=Qfx hcb ba bd' (k+1) (by omega);have es:sm (plcT c a d) (k+1)=sm (plcT c a d) k+plcT c a d k:=rfl;rw [es]at y2;have a1:=Qgy (Qa4 y1 (by decide)) (Qa4 t4 (by decide)) (Qa4 y2 (by decide));rw [←es]at a1;clear y1 y2 t1 t2 t3 t4 es eT hP;generalize hX:sm (plcT c a d) (k+1)=X at*;generalize sm (plcT c a d) k=Y at*;generalize plcT c a d k=T at*;generalize a^k*d^(5-k)=U at*;generalize a^k=U1 at*;generalize d^(5-k)=U2 at*;repeat (first|(simp -implicitDefEqProofs only [go_sem,seval,wPV,hB',n0,hgk,hwk2,w5,sel,at3,Int.toNat_natCast])|((with_reducible refine Qaa o1 ?_ ?_ ?_);rfl;rfl)|((with_reducible refine Qaa q1 ?_ ?_ ?_);rfl;rfl)|((with_reducible refine Qaa q2 ?_ ?_ ?_);rfl;rfl)|((with_reducible refine Qaa mm1 ?_ ?_ ?_);rfl;rfl)|((with_reducible refine Qaa mm2 ?_ ?_ ?_);rfl;rfl)|((with_reducible refine Qaa a1 ?_ ?_ ?_);rfl;rfl)|(with_reducible refine And.intro (Qac _ _ (by kernel_rfl)) ?_))
      refine⟨⟨k+1,hB⟩,by simp only;omega,Qan (θ:=[(1,1),(100,100),(206,206),(301,301)]) rfl ?_ ?_⟩
      ·simp [Qaf,lkp,ren1,ren0,Qai,Qbi]
      ·simp only [hX];exact⟨⟨rfl,rfl,rfl,rfl,rfl,.inr ⟨rfl,_,_,rfl,rfl,rfl,rfl⟩⟩,⟨rfl,rfl,rfl,rfl,rfl,.inr ⟨rfl,_,_,rfl,rfl,rfl,rfl⟩⟩,⟨rfl,rfl,rfl,rfl,rfl,.inr ⟨rfl,_,_,rfl,rfl,rfl,rfl⟩⟩,⟨rfl,rfl,rfl,rfl,rfl,.inr ⟨rfl,_,_,rfl,rfl,rfl,rfl⟩⟩,trivial⟩
     ·have hB':=ltF hB;obtain rfl:k=c.length:=by omega
      have gg:=Qt8 (Qa4 bGi (by decide)) (Qa4 bPi (by decide));rw [Int.natAbs_natCast,←hGs]at gg;rw [hP]at gg;generalize hX:sm (plcT c a d) c.length=X at*;repeat (first|(simp -implicitDefEqProofs only [go_sem,seval,wPV,hB',sel,at3])|((with_reducible refine Qaa gg ?_ ?_ ?_);rfl;rfl)|(with_reducible refine And.intro (Qac _ _ (by kernel_rfl)) ?_))
      refine⟨⟨0+1,hA⟩,by simp only;omega,Qan (θ:=[(1,1),(100,100),(206,206),(301,301)]) rfl ?_ ?_⟩
      ·simp [Qaf,lkp,ren1,ren0,Qai,Qbi]
      ·simp only [at3,hP,hX];exact⟨⟨rfl,rfl,rfl,rfl,rfl,.inr ⟨rfl,_,_,rfl,rfl,rfl,rfl⟩⟩,⟨rfl,rfl,rfl,rfl,rfl,.inr ⟨rfl,_,_,rfl,rfl,rfl,rfl⟩⟩,⟨rfl,rfl,rfl,rfl,rfl,.inr ⟨rfl,_,_,rfl,rfl,rfl,rfl⟩⟩,⟨rfl,rfl,rfl,rfl,rfl,.inr ⟨rfl,_,_,rfl,rfl,rfl,rfl⟩⟩,trivial⟩
   ·skip
    obtain rfl:i=1:=hi0;have hm:s.ax.getD 1 []=s.ax[1]'hA:=rfl;have hP:plP s a d 1=sm (plcT (s.ax[1]'hA) a d) (s.ax[1]'hA).length:=rfl;have hcx:=hc (s.ax[1]) (List.getElem_mem hA);have hlx:=h6 (s.ax[1]) (List.getElem_mem hA);have bPi:=bP 1 (by omega);have bGi:=bG 1 (by omega);have hGs:=Qfw s a d 1;generalize s.ax[1]'hA=c at*;repeat (first|(simp -implicitDefEqProofs only [go_sem,seval,hx,List.length_map,at3]))
    refine Qav mixed (fun k:{k:Nat // k≤c.length}=>St.of [(1,.int .i64 a),(2,.int .i64 d),(6,.bp 1 8 0 0),(7,.bp 100 6 0 0),(8,.bp 206 2 0 0),(9,.bp 301 2 0 0),(22,.agg [Qbi s.x,Qbi s.y,Qbi s.z]),(23,.int .i64 1),(10,.int .i64 1),(27,Qbi c),(28,.int .i64 (c.length:Int)),(29,.int .i64 (k.1:Int))]
     [(1,{els:=[.agg [.bool false,.str ⟨#[]⟩,.bool false,.str ⟨#[]⟩,.bool false,.str ⟨#[]⟩,.bool false,.str ⟨#[]⟩]],esz:=8,ety:=136,fro:=0,live:=true,arr:=false}),(100,{els:=[w3PV (sel (plP s a d) 1 0 (sm (plcT c a d) k.1)) (sel (plP s a d) 1 1 (sm (plcT c a d) k.1)) (sel (plP s a d) 1 2 (sm (plcT c a d) k.1))],esz:=6,ety:=139,fro:=0,live:=true,arr:=false}),(206,{els:=[wPV O],esz:=2,ety:=134,fro:=0,live:=true,arr:=false}),(301,{els:=[wPV ((plG s a d 1:Nat):Int)],esz:=2,ety:=134,fro:=0,live:=true,arr:=false})]) (fun k=>c.length-k.1) ⟨0,Nat.zero_le _⟩ ?_ ?_
    ·refine Qan (θ:=[(1,1),(100,100),(206,206),(301,301)]) rfl ?_ ?_
     ·simp [Qaf,lkp,ren1,ren0,Qai,Qbi]
     ·refine⟨⟨rfl,rfl,rfl,rfl,rfl,.inr ⟨rfl,_,_,rfl,rfl,rfl,rfl⟩⟩,⟨rfl,rfl,rfl,rfl,rfl,.inr ⟨rfl,_,_,rfl,rfl,?_,rfl⟩⟩,⟨rfl,rfl,rfl,rfl,rfl,.inr ⟨rfl,_,_,rfl,rfl,rfl,rfl⟩⟩,⟨rfl,rfl,rfl,rfl,rfl,.inr ⟨rfl,_,_,rfl,rfl,rfl,rfl⟩⟩,trivial⟩;simp only [sel,at3,sm];rfl
    ·rintro⟨k,hk⟩;by_cases hB:k<c.length
     ·have hB':=ltT hB;have n0:=nnT k;have hgk:=Qf1 c k hB;have hwk2:=Qam (a:=k) (by omega);have w5:IntKind.i64.wrap (5-(k:Int))=((5-k:Nat):Int):=by rw [Qag (by omega) (by omega)];omega
      obtain⟨k1,k2⟩:=hcx _ (List.getElem_mem hB);have hcb:bd 64 c:=fun x hx=>Qcd (hcx x hx);have x1:=hcb _ (List.getElem_mem hB);have o1:=Qh7 c[k] k1 k2;have q1:=Qf0 a k 64 ha.1 ha.2 (by omega) (by decide) ba;have q2:=Qf0 d (5-k) 64 hd.1 hd.2 (by omega) (by decide) bd';obtain⟨t1,t2,t3,t4⟩:=Qq5 hcb ba bd' k (by omega);have mm1:=Qh8 (Qa4 t1 (by decide)) (Qa4 t2 (by decide)) (Qa4 t3 (by decide));have eT:plcT c a d k=c[k]*(a^k*d^(5-k)):=by unfold plcT;rw [Qno hB]
      rw [eT]at t4;have mm2:=Qh8 (Qa4 x1 (by decide)) (Qa4 t3 (by decide)) (Qa4 t4 (by decide));rw [←eT]at mm2 t4;have y1:=Qfx hcb ba bd' k (by omega);have y2:=Qfx hcb ba bd' (k+1) (by omega);have es:sm (plcT c a d) (k+1)=sm (plcT c a d) k+plcT c a d k:=rfl;rw [es]at y2;have a1:=Qgy (Qa4 y1 (by decide)) (Qa4 t4 (by decide)) (Qa4 y2 (by decide));rw [←es]at a1;clear y1 y2 t1 t2 t3 t4 es eT hP;generalize hX:sm (plcT c a d) (k+1)=X at*;generalize sm (plcT c a d) k=Y at*;generalize plcT c a d k=T at*;generalize a^k*d^(5-k)=U at*;generalize a^k=U1 at*;generalize d^(5-k)=U2 at*;repeat (first|(simp -implicitDefEqProofs only [go_sem,seval,wPV,hB',n0,hgk,hwk2,w5,sel,at3,Int.toNat_natCast])|((with_reducible refine Qaa o1 ?_ ?_ ?_);rfl;rfl)|((with_reducible refine Qaa q1 ?_ ?_ ?_);rfl;rfl)|((with_reducible refine Qaa q2 ?_ ?_ ?_);rfl;rfl)|((with_reducible refine Qaa mm1 ?_ ?_ ?_);rfl;rfl)|((with_reducible refine Qaa mm2 ?_ ?_ ?_);rfl;rfl)|((with_reducible refine Qaa a1 ?_ ?_ ?_);rfl;rfl)|(with_reducible refine And.intro (Qac _ _ (by kernel_rfl)) ?_))
      refine⟨⟨k+1,hB⟩,by simp only;omega,Qan (θ:=[(1,1),(100,100),(206,206),(301,301)]) rfl ?_ ?_⟩
      ·simp [Qaf,lkp,ren1,ren0,Qai,Qbi]
      ·simp only [hX];exact⟨⟨rfl,rfl,rfl,rfl,rfl,.inr ⟨rfl,_,_,rfl,rfl,rfl,rfl⟩⟩,⟨rfl,rfl,rfl,rfl,rfl,.inr ⟨rfl,_,_,rfl,rfl,rfl,rfl⟩⟩,⟨rfl,rfl,rfl,rfl,rfl,.inr ⟨rfl,_,_,rfl,rfl,rfl,rfl⟩⟩,⟨rfl,rfl,rfl,rfl,rfl,.inr ⟨rfl,_,_,rfl,rfl,rfl,rfl⟩⟩,trivial⟩
     ·have hB':=ltF hB;obtain rfl:k=c.length:=by omega
      have gg:=Qt8 (Qa4 bGi (by decide)) (Qa4 bPi (by decide));rw [Int.natAbs_natCast,←hGs]at gg;rw [hP]at gg;generalize hX:sm (plcT c a d) c.length=X at*;repeat (first|(simp -implicitDefEqProofs only [go_sem,seval,wPV,hB',sel,at3])|((with_reducible refine Qaa gg ?_ ?_ ?_);rfl;rfl)|(with_reducible refine And.intro (Qac _ _ (by kernel_rfl)) ?_))
      refine⟨⟨1+1,hA⟩,by simp only;omega,Qan (θ:=[(1,1),(100,100),(206,206),(301,301)]) rfl ?_ ?_⟩
      ·simp [Qaf,lkp,ren1,ren0,Qai,Qbi]
      ·simp only [at3,hP,hX];exact⟨⟨rfl,rfl,rfl,rfl,rfl,.inr ⟨rfl,_,_,rfl,rfl,rfl,rfl⟩⟩,⟨rfl,rfl,rfl,rfl,rfl,.inr ⟨rfl,_,_,rfl,rfl,rfl,rfl⟩⟩,⟨rfl,rfl,rfl,rfl,rfl,.inr ⟨rfl,_,_,rfl,rfl,rfl,rfl⟩⟩,⟨rfl,rfl,rfl,rfl,rfl,.inr ⟨rfl,_,_,rfl,rfl,rfl,rfl⟩⟩,trivial⟩
   ·skip
    obtain rfl:i=2:=hi0;have hm:s.ax.getD 2 []=s.ax[2]'hA:=rfl;have hP:plP s a d 2=sm (plcT (s.ax[2]'hA) a d) (s.ax[2]'hA).length:=rfl;have hcx:=hc (s.ax[2]) (List.getElem_mem hA);have hlx:=h6 (s.ax[2]) (List.getElem_mem hA);have bPi:=bP 2 (by omega);have bGi:=bG 2 (by omega);have hGs:=Qfw s a d 2;generalize s.ax[2]'hA=c at*;repeat (first|(simp -implicitDefEqProofs only [go_sem,seval,hx,List.length_map,at3]))
    refine Qav mixed (fun k:{k:Nat // k≤c.length}=>St.of [(1,.int .i64 a),(2,.int .i64 d),(6,.bp 1 8 0 0),(7,.bp 100 6 0 0),(8,.bp 206 2 0 0),(9,.bp 301 2 0 0),(22,.agg [Qbi s.x,Qbi s.y,Qbi s.z]),(23,.int .i64 2),(10,.int .i64 2),(27,Qbi c),(28,.int .i64 (c.length:Int)),(29,.int .i64 (k.1:Int))]
     [(1,{els:=[.agg [.bool false,.str ⟨#[]⟩,.bool false,.str ⟨#[]⟩,.bool false,.str ⟨#[]⟩,.bool false,.str ⟨#[]⟩]],esz:=8,ety:=136,fro:=0,live:=true,arr:=false}),(100,{els:=[w3PV (sel (plP s a d) 2 0 (sm (plcT c a d) k.1)) (sel (plP s a d) 2 1 (sm (plcT c a d) k.1)) (sel (plP s a d) 2 2 (sm (plcT c a d) k.1))],esz:=6,ety:=139,fro:=0,live:=true,arr:=false}),(206,{els:=[wPV O],esz:=2,ety:=134,fro:=0,live:=true,arr:=false}),(301,{els:=[wPV ((plG s a d 2:Nat):Int)],esz:=2,ety:=134,fro:=0,live:=true,arr:=false})]) (fun k=>c.length-k.1) ⟨0,Nat.zero_le _⟩ ?_ ?_
    ·refine Qan (θ:=[(1,1),(100,100),(206,206),(301,301)]) rfl ?_ ?_
     ·simp [Qaf,lkp,ren1,ren0,Qai,Qbi]
     ·refine⟨⟨rfl,rfl,rfl,rfl,rfl,.inr ⟨rfl,_,_,rfl,rfl,rfl,rfl⟩⟩,⟨rfl,rfl,rfl,rfl,rfl,.inr ⟨rfl,_,_,rfl,rfl,?_,rfl⟩⟩,⟨rfl,rfl,rfl,rfl,rfl,.inr ⟨rfl,_,_,rfl,rfl,rfl,rfl⟩⟩,⟨rfl,rfl,rfl,rfl,rfl,.inr ⟨rfl,_,_,rfl,rfl,rfl,rfl⟩⟩,trivial⟩;simp only [sel,at3,sm];rfl
    ·rintro⟨k,hk⟩;by_cases hB:k<c.length
     ·have hB':=ltT hB;have n0:=nnT k;have hgk:=Qf1 c k hB;have hwk2:=Qam (a:=k) (by omega);have w5:IntKind.i64.wrap (5-(k:Int))=((5-k:Nat):Int):=by rw [Qag (by omega) (by omega)];omega
      obtain⟨k1,k2⟩:=hcx _ (List.getElem_mem hB);have hcb:bd 64 c:=fun x hx=>Qcd (hcx x hx);have x1:=hcb _ (List.getElem_mem hB);have o1:=Qh7 c[k] k1 k2;have q1:=Qf0 a k 64 ha.1 ha.2 (by omega) (by decide) ba;have q2:=Qf0 d (5-k) 64 hd.1 hd.2 (by omega) (by decide) bd';obtain⟨t1,t2,t3,t4⟩:=Qq5 hcb ba bd' k (by omega);have mm1:=Qh8 (Qa4 t1 (by decide)) (Qa4 t2 (by decide)) (Qa4 t3 (by decide));have eT:plcT c a d k=c[k]*(a^k*d^(5-k)):=by unfold plcT;rw [Qno hB]
      rw [eT]at t4;have mm2:=Qh8 (Qa4 x1 (by decide)) (Qa4 t3 (by decide)) (Qa4 t4 (by decide));rw [←eT]at mm2 t4;have y1:=Qfx hcb ba bd' k (by omega);have y2:=Qfx hcb ba bd' (k+1) (by omega);have es:sm (plcT c a d) (k+1)=sm (plcT c a d) k+plcT c a d k:=rfl;rw [es]at y2;have a1:=Qgy (Qa4 y1 (by decide)) (Qa4 t4 (by decide)) (Qa4 y2 (by decide));rw [←es]at a1;clear y1 y2 t1 t2 t3 t4 es eT hP;generalize hX:sm (plcT c a d) (k+1)=X at*;generalize sm (plcT c a d) k=Y at*;generalize plcT c a d k=T at*;generalize a^k*d^(5-k)=U at*;generalize a^k=U1 at*;generalize d^(5-k)=U2 at*;repeat (first|(simp -implicitDefEqProofs only [go_sem,seval,wPV,hB',n0,hgk,hwk2,w5,sel,at3,Int.toNat_natCast])|((with_reducible refine Qaa o1 ?_ ?_ ?_);rfl;rfl)|((with_reducible refine Qaa q1 ?_ ?_ ?_);rfl;rfl)|((with_reducible refine Qaa q2 ?_ ?_ ?_);rfl;rfl)|((with_reducible refine Qaa mm1 ?_ ?_ ?_);rfl;rfl)|((with_reducible refine Qaa mm2 ?_ ?_ ?_);rfl;rfl)|((with_reducible refine Qaa a1 ?_ ?_ ?_);rfl;rfl)|(with_reducible refine And.intro (Qac _ _ (by kernel_rfl)) ?_))
      refine⟨⟨k+1,hB⟩,by simp only;omega,Qan (θ:=[(1,1),(100,100),(206,206),(301,301)]) rfl ?_ ?_⟩
      ·simp [Qaf,lkp,ren1,ren0,Qai,Qbi]
      ·simp only [hX];exact⟨⟨rfl,rfl,rfl,rfl,rfl,.inr ⟨rfl,_,_,rfl,rfl,rfl,rfl⟩⟩,⟨rfl,rfl,rfl,rfl,rfl,.inr ⟨rfl,_,_,rfl,rfl,rfl,rfl⟩⟩,⟨rfl,rfl,rfl,rfl,rfl,.inr ⟨rfl,_,_,rfl,rfl,rfl,rfl⟩⟩,⟨rfl,rfl,rfl,rfl,rfl,.inr ⟨rfl,_,_,rfl,rfl,rfl,rfl⟩⟩,trivial⟩
     ·have hB':=ltF hB;obtain rfl:k=c.length:=by omega
      have gg:=Qt8 (Qa4 bGi (by decide)) (Qa4 bPi (by decide));rw [Int.natAbs_natCast,←hGs]at gg;rw [hP]at gg;generalize hX:sm (plcT c a d) c.length=X at*;repeat (first|(simp -implicitDefEqProofs only [go_sem,seval,wPV,hB',sel,at3])|((with_reducible refine Qaa gg ?_ ?_ ?_);rfl;rfl)|(with_reducible refine And.intro (Qac _ _ (by kernel_rfl)) ?_))
      refine⟨⟨2+1,hA⟩,by simp only;omega,Qan (θ:=[(1,1),(100,100),(206,206),(301,301)]) rfl ?_ ?_⟩
      ·simp [Qaf,lkp,ren1,ren0,Qai,Qbi]
      ·simp only [at3,hP,hX];exact⟨⟨rfl,rfl,rfl,rfl,rfl,.inr ⟨rfl,_,_,rfl,rfl,rfl,rfl⟩⟩,⟨rfl,rfl,rfl,rfl,rfl,.inr ⟨rfl,_,_,rfl,rfl,rfl,rfl⟩⟩,⟨rfl,rfl,rfl,rfl,rfl,.inr ⟨rfl,_,_,rfl,rfl,rfl,rfl⟩⟩,⟨rfl,rfl,rfl,rfl,rfl,.inr ⟨rfl,_,_,rfl,rfl,rfl,rfl⟩⟩,trivial⟩
  ·have hA':((i:Int)<3)=False:=eq_false (by omega);obtain rfl:i=3:=by omega
   have G0:=Qv3 ho hd1 3 (s:=s) (d:=d) (a:=a);have bG3:=Qzl (bG 3 (by decide)) (by decide);have r0:=Qnl (bP 0 (by decide)) (by decide) bG3 (by omega);have r1:=Qnl (bP 1 (by decide)) (by decide) bG3 (by omega);have r2:=Qnl (bP 2 (by decide)) (by decide) bG3 (by omega);have r3:=Qnl bod (by decide) bG3 (by omega);unfold plV;rw [hO];have z0:at3 (plP s a d) 3 0=plP s a d 0:=rfl;have z1:at3 (plP s a d) 3 1=plP s a d 1:=rfl;have z2:at3 (plP s a d) 3 2=plP s a d 2:=rfl;simp only [z0,z1,z2];clear z0 z1 z2;generalize plP s a d 0=X0 at*;generalize plP s a d 1=X1 at*;generalize plP s a d 2=X2 at*;generalize ((plG s a d 3:Nat):Int)=G at*;generalize X0/G=Y0 at*;generalize X1/G=Y1 at*;generalize X2/G=Y2 at*;generalize O/G=Y3 at*;repeat (first|(simp -implicitDefEqProofs only [go_sem,seval,wPV,at3])|((with_reducible refine Qaa r0 ?_ ?_ ?_);rfl;rfl)|((with_reducible refine Qaa r1 ?_ ?_ ?_);rfl;rfl)|((with_reducible refine Qaa r2 ?_ ?_ ?_);rfl;rfl)|((with_reducible refine Qaa r3 ?_ ?_ ?_);rfl;rfl)|(with_reducible exact Qac _ _ (by kernel_rfl)))
theorem ml1:(1≤maxLen)=True:=eq_true (by unfold maxLen;omega)
theorem ml2:(2≤maxLen)=True:=eq_true (by unfold maxLen;omega)
theorem ml3:(3≤maxLen)=True:=eq_true (by unfold maxLen;omega)
theorem ml4:(4≤maxLen)=True:=eq_true (by unfold maxLen;omega)
attribute [go_sem] ml1 ml2 ml3 ml4
theorem Zot (s:Sg) (a d:Int):plV s a d=Qad (plQ s a d 0) (plQ s a d 1) (plQ s a d 2) (plO s a d):=rfl
theorem Zou {x y:Int} {B:Nat} (hx:x.natAbs<2^B) (hy:0<y):(x/y).natAbs<2^(B+1):=by
 rw [Nat.pow_succ];have h2:0<2^B:=Nat.two_pow_pos B;rcases Qzk hx hy with h|h<;>omega
theorem Zya {m B:Nat} (h:m<2^B) (hk:B≤2000):m<2^2000:=Qv1 (C:=2000) h hk
theorem Zyb {s:Sg} {a d:Int} (hs:okSg s) (h6: ∀c∈s.ax,c.length≤6) (ho:1≤s.o) (ha:i64 a) (hd:i64 d) (hd1:1≤d):(∀i,i<3→(plQ s a d i).natAbs<2^2000)∧(plO s a d).natAbs<2^2000:=by
 have hcB: ∀c∈s.ax,bd 64 c:=fun c hx x hx2=>Qcd (hs.c c hx x hx2);have bP:=Q5o hcB h6 (Qcd ha) (Qcd hd);have bo:=Zpv (s:=s) (Qcd hs.o) (Qcd hd);have hg:=Qv3 ho hd1 3 (s:=s) (a:=a);exact⟨fun i hi=>Zya (Zou (bP i hi) (by omega)) (by decide),Zya (Zou bo (by omega)) (by decide)⟩
theorem Q7u (x y z o x' y' z' o':Int):(decide (x<0)==decide (x'<0)&&(mB x==mB x'&&(decide (y<0)==decide (y'<0)&&(mB y==mB y'&&(decide (z<0)==decide (z'<0)&&(mB z==mB z'&&(decide (o<0)==decide (o'<0)&&mB o==mB o')))))))=
  (decide (x=x')&&(decide (y=y')&&(decide (z=z')&&decide (o=o')))):=by
 rw [←Qnm x x',←Qnm y y',←Qnm z z',←Qnm o o'];simp only [Bool.and_assoc]
theorem Zfu (a b:Sg) (ha:okSg a) (hb:okSg b) (va:Qbl a=true) (vb:Qbl b=true):Qae Tryz.prog 69 [sgPV a,sgPV b] (.bool (Qfh a b)):=by
 have o1:i64 1:=by unfold i64;omega
 have o0:i64 0:=by unfold i64;omega
 have t1:=Qrv a 1 1 ha (Qi2 va) (Qi3 va) o1 o1 (by decide);have t2:=Qrv b 0 1 hb (Qi2 vb) (Qi3 vb) o0 o1 (by decide);rw [Zot]at t1 t2;unfold Qfh Q5p;generalize plQ a 1 1 0=x0 at*;generalize plQ a 1 1 1=x1 at*;generalize plQ a 1 1 2=x2 at*;generalize plO a 1 1=x3 at*;generalize plQ b 0 1 0=y0 at*;generalize plQ b 0 1 1=y1 at*;generalize plQ b 0 1 2=y2 at*;generalize plO b 0 1=y3 at*;by_cases h:a.t=b.f
 ·have h':(a.t==b.f)=true:=by rw [h];exact beq_self_eq_true _
  rw [decide_eq_true h,Bool.true_and];refine Qab (tb:=[]) 17 [.tmp 4] [0,1,2,3,4] mixed Tryz.func69 rfl (by kernel_rfl) (by kernel_rfl) (by kernel_rfl) (by kernel_rfl) ?_;repeat (first|(simp -implicitDefEqProofs only [go_sem,seval,h',Q7u])|((with_reducible refine Qaa t1 ?_ ?_ ?_);rfl;rfl)|((with_reducible refine Qaa t2 ?_ ?_ ?_);rfl;rfl)|(with_reducible exact Qac _ _ (by kernel_rfl)))
 ·have h':(a.t==b.f)=false:=beq_eq_false_iff_ne.2 h;rw [decide_eq_false h,Bool.false_and];refine Qab (tb:=[]) 17 [.tmp 4] [0,1,2,3,4] mixed Tryz.func69 rfl (by kernel_rfl) (by kernel_rfl) (by kernel_rfl) (by kernel_rfl) ?_;repeat (first|(simp -implicitDefEqProofs only [go_sem,seval,h'])|(with_reducible exact Qac _ _ (by kernel_rfl)))
def Qdl (p:List Sg):PV:= .slc (p.map sgPV)
attribute [go_sem] Qdl
theorem Qgz (p:List Sg) (i:Nat) (h:i<p.length):(p.map sgPV)[i]? =some (.agg [.int .i64 p[i].f,.int .i64 p[i].t,.int .i64 p[i].o,.slc (p[i].x.map (PV.int .i64)),.slc (p[i].y.map (PV.int .i64)),.slc (p[i].z.map (PV.int .i64))]):=by
 rw [List.getElem?_map,List.getElem?_eq_getElem h];rfl
set_option maxHeartbeats 1000000 in
theorem Qg0 (p:List Sg) (hp: ∀s∈p,okSg s) (hl:p.length≤1000000):Qae Tryz.prog 58 [Qdl p] (.bool (Qbp p)):=by
 refine Qab (tb:=[]) 38 [.tmp 2] [0,2,3,4,5,6,7,8,28] mixed Tryz.func58 rfl (by kernel_rfl) (by kernel_rfl) (by kernel_rfl) (by kernel_rfl) ?_;repeat (first|(simp -implicitDefEqProofs only [go_sem,seval,List.length_map]))
 have z0:0≤p.length∧vpTo p 0=true:=⟨Nat.zero_le _,rfl⟩;refine Qav mixed (fun i:{i:Nat // i≤p.length∧vpTo p i=true}=>St.of [(0,Qdl p),(2,.bool false),(5,Qdl p),(6,.int .i64 (p.length:Int)),(7,.int .i64 (i.1:Int))] []) (fun i=>p.length-i.1) ⟨0,z0⟩ ?_ ?_
 ·exact Qa1 (by simp [Qaf,lkp,ren1,ren0,Qdl])
 ·rintro⟨i,hi,hall⟩;by_cases hA:i<p.length
  ·have hA':=ltT hA;have n0:=nnT i;have hg:=Qgz p i hA;have hwk:=Qam (a:=i) (by omega);have ok1:=hp _ (List.getElem_mem hA);have hv:=Zft p[i] ok1;have hgD:=sgD hA;cases hV:Qbl p[i]with
   |false=>
    have e:Qbp p=false:=Qpn (j:=i) (by unfold vpAt;rw [hgD,hV];rfl) hA;rw [hV]at hv;unfold sgPV Qbi at hv;repeat (first|(simp -implicitDefEqProofs only [go_sem,seval,hA',n0,hg,Int.toNat_natCast,e])|((with_reducible refine Qaa hv ?_ ?_ ?_);rfl;rfl)|(with_reducible exact Qac _ _ (by kernel_rfl)))
   |true=>
    rw [hV]at hv;unfold sgPV Qbi at hv;by_cases hz:i=0
    ·have hz':((0:Int)<(i:Int))=False:=eq_false (by omega);have hn:vpTo p (i+1)=true:=by rw [Qtm,hall];unfold vpAt;rw [hgD,hV,decide_eq_true hz];rfl
     repeat (first|(simp -implicitDefEqProofs only [go_sem,seval,hA',n0,hg,hwk,hz',Int.toNat_natCast])|((with_reducible refine Qaa hv ?_ ?_ ?_);rfl;rfl)|(with_reducible refine And.intro (Qac _ _ (by kernel_rfl)) ?_))
     refine⟨⟨i+1,hA,hn⟩,by simp only;omega,Qa1 (by simp [Qaf,lkp,ren1,ren0,Qdl])⟩
    ·have hz':((0:Int)<(i:Int))=True:=eq_true (by omega);have hA1:i-1<p.length:=by omega
     have n1:=nnT (i-1);have hg1:=Qgz p (i-1) hA1;have w1:IntKind.i64.wrap ((i:Int)-1)=((i-1:Nat):Int):=by rw [Qag (by omega) (by omega)];omega
     have hV1:Qbl p[i-1]=true:=by have:=Qpo hall (j:=i-1) (by omega);rwa [sgD hA1]at this
     have hm:=Zfu p[i-1] p[i] (hp _ (List.getElem_mem hA1)) ok1 hV1 hV;have ev:vpAt p i=Qfh p[i-1] p[i]:=by unfold vpAt;rw [hgD,sgD hA1,hV,decide_eq_false hz];simp
     cases hM:Qfh p[i-1] p[i]with
     |false=>
      have e:Qbp p=false:=Qpn (j:=i) (ev.trans hM) hA;rw [hM]at hm;unfold sgPV Qbi at hm;repeat (first|(simp -implicitDefEqProofs only [go_sem,seval,hA',n0,hg,hz',w1,n1,hg1,Int.toNat_natCast,e])|((with_reducible refine Qaa hv ?_ ?_ ?_);rfl;rfl)|((with_reducible refine Qaa hm ?_ ?_ ?_);rfl;rfl)|(with_reducible exact Qac _ _ (by kernel_rfl)))
     |true=>
      have hn:vpTo p (i+1)=true:=by rw [Qtm,hall,ev,hM];rfl
      rw [hM]at hm;unfold sgPV Qbi at hm;repeat (first|(simp -implicitDefEqProofs only [go_sem,seval,hA',n0,hg,hwk,hz',w1,n1,hg1,Int.toNat_natCast])|((with_reducible refine Qaa hv ?_ ?_ ?_);rfl;rfl)|((with_reducible refine Qaa hm ?_ ?_ ?_);rfl;rfl)|(with_reducible refine And.intro (Qac _ _ (by kernel_rfl)) ?_))
      refine⟨⟨i+1,hA,hn⟩,by simp only;omega,Qa1 (by simp [Qaf,lkp,ren1,ren0,Qdl])⟩
  ·have hA':=ltF hA;obtain rfl:i=p.length:=by omega
   have e0:Qbp p=(decide (1≤p.length)&&decide (p.length≤256)):=by unfold Qbp;rw [hall,Bool.true_and]
   rw [e0];by_cases c1:1≤p.length
   ·have c1':((1:Int)≤(p.length:Int))=True:=eq_true (by omega);have c2':decide ((p.length:Int)≤256)=decide (p.length≤256):=by rw [decide_eq_decide];omega
    rw [decide_eq_true c1,Bool.true_and];repeat (first|(simp -implicitDefEqProofs only [go_sem,seval,hA',c1',c2',List.length_map]))
   ·have c1':((1:Int)≤(p.length:Int))=False:=eq_false (by omega);rw [decide_eq_false c1,Bool.false_and];repeat (first|(simp -implicitDefEqProofs only [go_sem,seval,hA',c1',List.length_map]))
theorem Zfv:((0:Int) != 0)=false:=rfl
theorem Zyc:((0:Int)==0)=true:=rfl
theorem Z1n:((1:Int) != 0)=true:=rfl
theorem Z1o:((1:Int)==0)=false:=rfl
theorem Zre:((2:Int) != 0)=true:=rfl
theorem Zyd:((2:Int)==0)=false:=rfl
theorem Z1p:((3:Int) != 0)=true:=rfl
theorem Z1q:((3:Int)==0)=false:=rfl
theorem Zye:((7:Int) != 0)=true:=rfl
theorem Zyf:((7:Int)==0)=false:=rfl
theorem Z1r:((9:Int) != 0)=true:=rfl
theorem Z1s:((9:Int)==0)=false:=rfl
theorem Zyg:((10:Int) != 0)=true:=rfl
theorem Zyh:((10:Int)==0)=false:=rfl
attribute [go_sem] Zfv Zyc Z1n Z1o Zre Zyd Z1p Z1q Zye Zyf Z1r Z1s Zyg Zyh
def lasts (p:List Sg) (t:Int):Bool:=decide (pBeg p≤t)&&decide (t≤pEnd p)
theorem Zrf (p:List Sg) (hp: ∀s∈p,okSg s) (hl:p.length≤1000000):Qae Tryz.prog 97 [Qdl p] (if Qbp p=true then .tup [.int .i64 (pBeg p),.int .i64 (pEnd p),.int .i64 0]else .tup [.int .i64 0,.int .i64 0,.int .i64 2]):=by
 have hv:=Qg0 p hp hl;unfold Qdl at hv;cases hV:Qbp p with
 |false=>
  rw [hV]at hv;refine Qab (tb:=[]) 19 [.tmp 2,.tmp 3,.tmp 4] [0,2,3,4,7] mixed Tryz.func97 rfl (by kernel_rfl) (by kernel_rfl) (by kernel_rfl) (by kernel_rfl) ?_;repeat (first|(simp -implicitDefEqProofs only [go_sem,seval,Bool.false_eq_true])|((with_reducible refine Qaa hv ?_ ?_ ?_);rfl;rfl))
 |true=>
  have h:=(Qcv hV).2.1;have hi:p.length-1<p.length:=by omega
  have hg0:=Qgz p 0 (by omega);have hg:=Qgz p (p.length-1) hi;have wl:=Ql9 (n:=p.length) (by omega) (by omega);have n1:=nnT (p.length-1);have e1:pEnd p=p[p.length-1].t:=by unfold pEnd;rw [sgD hi]
  have e2:pBeg p=p[0].f:=by unfold pBeg;rw [sgD (by omega)]
  rw [e1,e2];rw [hV]at hv;refine Qab (tb:=[]) 19 [.tmp 2,.tmp 3,.tmp 4] [0,2,3,4,7] mixed Tryz.func97 rfl (by kernel_rfl) (by kernel_rfl) (by kernel_rfl) (by kernel_rfl) ?_;repeat (first|(simp -implicitDefEqProofs only [go_sem,seval,hg,hg0,wl,n1,Int.toNat_natCast,List.length_map])|((with_reducible refine Qaa hv ?_ ?_ ?_);rfl;rfl)|(with_reducible exact Qac _ _ (by kernel_rfl)))
theorem Zfw (n m:Nat) (f:FuncId) (cap:List PV) (Pr:Nat→Bool) (hn:n≤1000000000) (hm:m≤n) (h1: ∀i,i<m→Pr i=false) (h2: ∀i,m≤i→i<n→Pr i=true)
  (hc:Qfo cap (fun _=>none)=some ((cap,[]),[])) (hcr:ren1 [] (.fn f [] cap)=some (.fn f [] cap)) (hf: ∀i:Nat,i<n→Qae Tryz.prog f (.int .i64 (i:Int)::cap) (.bool (Pr i))):Qae Tryz.prog 98 [.int .i64 (n:Int),.fn f [] cap] (.int .i64 (m:Int)):=by
 refine Qab (tb:=[]) 26 [.tmp 4] [0,1,4,5,6,7,11,21] mixed Tryz.func98 rfl (by kernel_rfl) (by kernel_rfl) (by kernel_rfl) (by kernel_rfl) ?_;repeat (first|(simp -implicitDefEqProofs only [go_sem,seval,if_true]))
 have z0:0≤m∧m≤n∧n≤n:=⟨Nat.zero_le _,hm,Nat.le_refl _⟩;refine Qav mixed (fun x:{x:Nat×Nat // x.1≤m∧m≤x.2∧x.2≤n}=>St.of [(0,.int .i64 (n:Int)),(1,.fn f [] cap),(5,.int .i64 (x.1.1:Int)),(6,.int .i64 (x.1.2:Int))] []) (fun x=>x.1.2-x.1.1) ⟨(0,n),z0⟩ ?_ ?_
 ·exact Qa1 ⟨by simp [lkp,ren1,ren0],by simp only [lkp];exact hcr,by simp [lkp,ren1,ren0],by simp [lkp,ren1,ren0],trivial⟩
 ·rintro⟨⟨i,j⟩,hi,hj,hjn⟩;simp only at hi hj hjn;by_cases hA:i<j
  ·have hA':=ltT hA;have w1:IntKind.i64.wrap ((i:Int)+(j:Int))=((i+j:Nat):Int):=by rw [Qag (by omega) (by omega)];omega
   have w2:IntKind.u64.wrap ((i+j:Nat):Int)=((i+j:Nat):Int):=Qns (by omega);have w3:(((i+j:Nat):Int)).fdiv (2^min 1 64)=(((i+j)/2:Nat):Int):=by
    rw [Int.fdiv_eq_ediv_of_nonneg _ (by decide)];rfl
   have w4:IntKind.i64.wrap (((i+j)/2:Nat):Int)=(((i+j)/2:Nat):Int):=wrapn (by omega);have hh:(i+j)/2<n:=by omega
   have hfh:=hf ((i+j)/2) hh;have w5:=Qam (a:=(i+j)/2) (by omega);generalize hH:(i+j)/2=h at*;by_cases hmh:h<m
   ·rw [h1 h hmh]at hfh;repeat (first|(simp -implicitDefEqProofs only [go_sem,seval,hA',w1,w2,w3,w4,w5,hc])|((with_reducible refine Qaa hfh ?_ ?_ ?_);rfl;rfl))
    refine⟨⟨(h+1,j),by simp only;omega,hj,hjn⟩,by simp only;omega,Qa1 ⟨by simp [lkp,ren1,ren0],by simp only [lkp];exact hcr,by simp [lkp,ren1,ren0],by simp [lkp,ren1,ren0],trivial⟩⟩
   ·rw [h2 h (by omega) hh]at hfh;repeat (first|(simp -implicitDefEqProofs only [go_sem,seval,hA',w1,w2,w3,w4,hc])|((with_reducible refine Qaa hfh ?_ ?_ ?_);rfl;rfl))
    refine⟨⟨(i,h),hi,by simp only;omega,by simp only;omega⟩,by simp only;omega,Qa1 ⟨by simp [lkp,ren1,ren0],by simp only [lkp];exact hcr,by simp [lkp,ren1,ren0],by simp [lkp,ren1,ren0],trivial⟩⟩
  ·have hA':=ltF hA;obtain rfl:i=m:=by omega
   repeat (first|(simp -implicitDefEqProofs only [go_sem,seval,hA']))
theorem Zfx (p:List Sg) (t:Int) (i:Nat) (h:i<p.length):Qae Tryz.prog 99 [.int .i64 (i:Int),.rp [.int .i64 t],.rp [.slc (p.map sgPV)]] (.bool (decide (t≤p[i].t))):=by
 have hg:=Qgz p i h;have n0:=nnT i;refine Qab (tb:=[]) 12 [.tmp 4] [0,1,2,4] mixed Tryz.func99 rfl (by kernel_rfl) (by kernel_rfl) (by kernel_rfl) (by kernel_rfl) ?_;repeat (first|(simp -implicitDefEqProofs only [go_sem,seval,hg,n0,Int.toNat_natCast])|(with_reducible exact Qac _ _ (by kernel_rfl)))
def Qnn:PV:= .agg [.bool false,.str ⟨#[]⟩,.bool false,.str ⟨#[]⟩,.bool false,.str ⟨#[]⟩,.bool false,.str ⟨#[]⟩]
attribute [go_sem] Qnn
def exA (p:List Sg) (t:Int):Int:=t-(p.getD (atIx p t) sg0).f
def exD (p:List Sg) (t:Int):Int:=(p.getD (atIx p t) sg0).t-(p.getD (atIx p t) sg0).f
def exQ (p:List Sg) (t:Int) (i:Nat):Int:=plQ (p.getD (atIx p t) sg0) (exA p t) (exD p t) i
def exO (p:List Sg) (t:Int):Int:=plO (p.getD (atIx p t) sg0) (exA p t) (exD p t)
def Qwh (p:List Sg) (t:Int):PV:=if Qbp p=true then(if lasts p t=true then .tup [Qad (exQ p t 0) (exQ p t 1) (exQ p t 2) (exO p t),.int .i64 0]else .tup [Qnn,.int .i64 3])else .tup [Qnn,.int .i64 2]
theorem Qzm {p:List Sg} {t:Int} (hV:Qbp p=true) (hL:lasts p t=true): ∃h:atIx p t<p.length,exA p t=t-p[atIx p t].f∧exD p t=p[atIx p t].t-p[atIx p t].f∧0≤exA p t∧exA p t≤exD p t∧1≤exD p t∧exD p t≤3600000∧Qbl p[atIx p t]=true∧p.getD (atIx p t) sg0=p[atIx p t]:=by
 unfold lasts at hL;simp only [Bool.and_eq_true,decide_eq_true_eq]at hL;have hi:=Zp0 hV hL.2;have h1:=Q5v hi;have h2:=Q5w hV hL.1 hi;have hv:=Qfi hV _ hi;have h3:=(Qbu hv).1;have e1:exA p t=t-p[atIx p t].f:=by unfold exA;rw [sgD hi]
 have e2:exD p t=p[atIx p t].t-p[atIx p t].f:=by unfold exD;rw [sgD hi]
 exact⟨hi,e1,e2,by omega,by omega,by omega,by omega,hv,sgD hi⟩
set_option maxHeartbeats 1000000 in
theorem Zfy (p:List Sg) (t:Int) (hp: ∀s∈p,okSg s) (hl:p.length≤1000000) (ht:i64 t):Qae Tryz.prog 70 [Qdl p,.int .i64 t] (Qwh p t):=by
 have hs:=Zrf p hp hl;unfold Qdl at hs;unfold Qwh;cases hV:Qbp p with
 |false=>
  rw [hV]at hs;simp only [Bool.false_eq_true,if_false]at hs ⊢;refine Qab (tb:=[]) 49 [.cell 4 136,.tmp 5] [0,1,2,3,4,5,6,7,8,9,16,21] mixed Tryz.func70 rfl (by kernel_rfl) (by kernel_rfl) (by kernel_rfl) (by kernel_rfl) ?_;repeat (first|(simp -implicitDefEqProofs only [go_sem,seval])|((with_reducible refine Qaa hs ?_ ?_ ?_);rfl;rfl))
 |true=>
  rw [hV]at hs;simp only [if_true]at hs ⊢;by_cases c1:pBeg p≤t
  case neg=>
   have c1':(t<pBeg p)=True:=eq_true (by omega);have e:lasts p t=false:=by unfold lasts;rw [decide_eq_false c1];rfl
   rw [e];simp only [Bool.false_eq_true,if_false];refine Qab (tb:=[]) 49 [.cell 4 136,.tmp 5] [0,1,2,3,4,5,6,7,8,9,16,21] mixed Tryz.func70 rfl (by kernel_rfl) (by kernel_rfl) (by kernel_rfl) (by kernel_rfl) ?_;repeat (first|(simp -implicitDefEqProofs only [go_sem,seval,c1'])|((with_reducible refine Qaa hs ?_ ?_ ?_);rfl;rfl))
  have c1':(t<pBeg p)=False:=eq_false (by omega);by_cases c2:t≤pEnd p
  case neg=>
   have c2':(pEnd p<t)=True:=eq_true (by omega);have e:lasts p t=false:=by unfold lasts;rw [decide_eq_false c2,Bool.and_false]
   rw [e];simp only [Bool.false_eq_true,if_false];refine Qab (tb:=[]) 49 [.cell 4 136,.tmp 5] [0,1,2,3,4,5,6,7,8,9,16,21] mixed Tryz.func70 rfl (by kernel_rfl) (by kernel_rfl) (by kernel_rfl) (by kernel_rfl) ?_;repeat (first|(simp -implicitDefEqProofs only [go_sem,seval,c1',c2'])|((with_reducible refine Qaa hs ?_ ?_ ?_);rfl;rfl))
  have c2':(pEnd p<t)=False:=eq_false (by omega);have hL:lasts p t=true:=by unfold lasts;rw [decide_eq_true c1,decide_eq_true c2];rfl
  rw [hL];simp only [if_true];obtain⟨hi,eA,eD,k1,k2,k3,k4,hv,hD⟩:=Qzm hV hL;have hsr:=Zfw p.length (atIx p t) 99 [.rp [.int .i64 t],.rp [.slc (p.map sgPV)]] (fun i=>decide (t≤(p.getD i sg0).t)) (by omega) (Nat.le_of_lt hi)
   (fun i h=>by rw [sgD (by omega)];exact decide_eq_false (Int.not_le.2 (Qm2 h (by omega))))
   (fun i h h'=>by rw [sgD h'];exact decide_eq_true (Int.le_trans (Q5v hi) (Qm1 hV i _ h' h))) rfl rfl
   (fun i h=>by rw [sgD h];exact Zfx p t i h)
  have hpl:=Qrv p[atIx p t] (exA p t) (exD p t) (hp _ (List.getElem_mem hi)) (Qi2 hv) (Qi3 hv) (by unfold i64;omega) (by unfold i64;omega) (by omega);rw [Zot]at hpl;unfold exQ exO;rw [hD];have hg:=Qgz p (atIx p t) hi;have n0:=nnT (atIx p t);have wa:IntKind.i64.wrap (t-p[atIx p t].f)=exA p t:=by rw [eA];exact Qag (by omega) (by omega)
  have wd:IntKind.i64.wrap (p[atIx p t].t-p[atIx p t].f)=exD p t:=by rw [eD];exact Qag (by omega) (by omega)
  generalize plQ p[atIx p t] (exA p t) (exD p t) 0=q0 at*;generalize plQ p[atIx p t] (exA p t) (exD p t) 1=q1 at*;generalize plQ p[atIx p t] (exA p t) (exD p t) 2=q2 at*;generalize plO p[atIx p t] (exA p t) (exD p t)=q3 at*;unfold sgPV Qbi at hpl;refine Qab (tb:=[]) 49 [.cell 4 136,.tmp 5] [0,1,2,3,4,5,6,7,8,9,16,21] mixed Tryz.func70 rfl (by kernel_rfl) (by kernel_rfl) (by kernel_rfl) (by kernel_rfl) ?_;repeat (first|(simp -implicitDefEqProofs only [go_sem,seval,List.length_map,c1',c2',hg,n0,wa,wd,Int.toNat_natCast])|((with_reducible refine Qaa hs ?_ ?_ ?_);rfl;rfl)|((with_reducible refine Qaa hsr ?_ ?_ ?_);rfl;rfl)|((with_reducible refine Qaa hpl ?_ ?_ ?_);rfl;rfl)|(with_reducible refine And.intro (Qac _ _ (by kernel_rfl)) ?_))
def vPV (x y z:Int):PV:= .agg [.int .i64 x,.int .i64 y,.int .i64 z]
attribute [go_sem] vPV
theorem Qwg {x o:Int} {B:Nat} (hx:x.natAbs<2^B) (ho:o.natAbs<2^B):(x+x+o).natAbs<2^(B+1+1):=
 Qpy (Qpy hx hx) (Nat.lt_of_lt_of_le ho (Nat.pow_le_pow_right (by decide) (by omega)))
theorem Z1k {p:List Sg} {t:Int} (hp: ∀s∈p,okSg s) (hV:Qbp p=true) (hL:lasts p t=true):(∀i,i<3→(exQ p t i).natAbs<2^2000∧ -1048576≤rnd (exQ p t i) (exO p t)∧rnd (exQ p t i) (exO p t)≤1048576)∧(exO p t).natAbs<2^2000∧0<exO p t:=by
 obtain⟨hi,eA,eD,k1,k2,k3,k4,hv,hD⟩:=Qzm hV hL;have b:=Zyb (a:=exA p t) (d:=exD p t) (hp _ (List.getElem_mem hi)) (Qi2 hv) (Qi3 hv) (by unfold i64;omega) (by unfold i64;omega) (by omega);have b2:=fun i h=>Q5t hv k1 k2 k3 i h;unfold exQ exO;rw [hD];refine⟨fun i h=>⟨b.1 i h,?_⟩,b.2,(b2 0 (by decide)).1⟩;obtain⟨h1,h2,h3⟩:=b2 i h;exact Q5u h1 h2 h3
def atPV (p:List Sg) (t:Int):PV:=if Qbp p=true then(if lasts p t=true then .tup [vPV (rnd (exQ p t 0) (exO p t)) (rnd (exQ p t 1) (exO p t)) (rnd (exQ p t 2) (exO p t)),.int .i64 0]else .tup [vPV 0 0 0,.int .i64 3])else .tup [vPV 0 0 0,.int .i64 2]
def sel3 (R:Nat→Int) (i m:Nat):Int:=if m<i then R m else 0
set_option maxHeartbeats 1000000 in
theorem Z1l (p:List Sg) (t:Int) (hp: ∀s∈p,okSg s) (hl:p.length≤1000000) (ht:i64 t):Qae Tryz.prog 59 [Qdl p,.int .i64 t] (atPV p t):=by
 have he:=Zfy p t hp hl ht;unfold Qwh at he;unfold atPV;unfold Qdl at he;cases hV:Qbp p with
 |false=>
  rw [hV]at he;simp only [Bool.false_eq_true,if_false]at he ⊢;refine Qab (tb:=[]) 58 [.cell 4 69,.tmp 5] [0,1,4,5,6,7,8,9,10,18,27,28,29] mixed Tryz.func59 rfl (by kernel_rfl) (by kernel_rfl) (by kernel_rfl) (by kernel_rfl) ?_;repeat (first|(simp -implicitDefEqProofs only [go_sem,seval])|((with_reducible refine Qaa he ?_ ?_ ?_);rfl;rfl))
 |true=>
  cases hL:lasts p t with
  |false=>
   rw [hV,hL]at he;simp only [Bool.false_eq_true,if_false,if_true]at he ⊢;refine Qab (tb:=[]) 58 [.cell 4 69,.tmp 5] [0,1,4,5,6,7,8,9,10,18,27,28,29] mixed Tryz.func59 rfl (by kernel_rfl) (by kernel_rfl) (by kernel_rfl) (by kernel_rfl) ?_;repeat (first|(simp -implicitDefEqProofs only [go_sem,seval])|((with_reducible refine Qaa he ?_ ?_ ?_);rfl;rfl))
  |true=>
   rw [hV,hL]at he;simp only [if_true]at he ⊢;obtain⟨hb,ho,h0⟩:=Z1k hp hV hL;have hb0:=hb 0 (by decide);have hbb1:=hb 1 (by decide);have hb2:=hb 2 (by decide);clear hb;generalize exQ p t 0=x0 at*;generalize exQ p t 1=x1 at*;generalize exQ p t 2=x2 at*;generalize exO p t=o at*;have b3:=Qpy ho ho;have a3:=Qgy (Qa4 ho (by decide)) (Qa4 ho (by decide)) (Qa4 b3 (by decide));refine Qab (tb:=[]) 58 [.cell 4 69,.tmp 5] [0,1,4,5,6,7,8,9,10,18,27,28,29] mixed Tryz.func59 rfl (by kernel_rfl) (by kernel_rfl) (by kernel_rfl) (by kernel_rfl) ?_;repeat (first|(simp -implicitDefEqProofs only [go_sem,seval])|((with_reducible refine Qaa he ?_ ?_ ?_);rfl;rfl))
   refine Qav mixed (fun i:{i:Nat // i≤3}=>St.of [(4,.bp 0 3 0 0),(5,.int .i64 0),(6,.bp 106 8 0 0),(8,.bp 400 3 0 0),(27,w3PV x0 x1 x2),(28,.int .i64 (i.1:Int))]
    [(0,{els:=[vPV 0 0 0],esz:=3,ety:=69,fro:=0,live:=true,arr:=false}),(106,{els:=[Qad x0 x1 x2 o],esz:=8,ety:=136,fro:=0,live:=true,arr:=false}),(400,{els:=[vPV (sel3 (fun m=>rnd ([x0,x1,x2].getD m 0) o) i.1 0) (sel3 (fun m=>rnd ([x0,x1,x2].getD m 0) o) i.1 1) (sel3 (fun m=>rnd ([x0,x1,x2].getD m 0) o) i.1 2)],esz:=3,ety:=88,fro:=0,live:=true,arr:=false})]) (fun i=>3-i.1) ⟨0,Nat.zero_le _⟩ ?_ ?_
   ·refine Qan (θ:=[(0,0),(106,106),(400,400)]) rfl ?_ ?_
    ·simp [Qaf,lkp,ren1,ren0,Qai,w3PV]
    ·exact⟨⟨rfl,rfl,rfl,rfl,rfl,.inr ⟨rfl,_,_,rfl,rfl,rfl,rfl⟩⟩,⟨rfl,rfl,rfl,rfl,rfl,.inr ⟨rfl,_,_,rfl,rfl,rfl,rfl⟩⟩,⟨rfl,rfl,rfl,rfl,rfl,.inr ⟨rfl,_,_,rfl,rfl,rfl,rfl⟩⟩,trivial⟩
   ·rintro⟨i,hi⟩;by_cases hA:i<3
    ·have hA':((i:Int)<3)=True:=eq_true (by omega);rcases(show i=0∨i=1∨i=2 by omega)with hi0|hi0|hi0
     ·obtain⟨hb1,hr1,hr2⟩:=hb0;obtain rfl:i=0:=hi0;have ii:Qfl (rnd x0 o)= .tup [.int .i64 (rnd x0 o),.int .i64 0]:=by unfold Qfl;rw [if_pos (by omega)]
      have wi:=Qzn (x:=rnd x0 o) (Qa4 (B:=64) (by have:(2:Nat)^64=18446744073709551616:=rfl;omega) (by decide));rw [ii]at wi;have b1:=Qpy hb1 hb1;have b2:=Qwg hb1 ho;have a1:=Qgy (Qa4 hb1 (by decide)) (Qa4 hb1 (by decide)) (Qa4 b1 (by decide));have a2:=Qgy (Qa4 b1 (by decide)) (Qa4 ho (by decide)) (Qa4 b2 (by decide));have q:=Qnl b2 (by decide) (Qzl b3 (by decide)) (show 0<o+o by omega);have er:(x0+x0+o)/(o+o)=rnd x0 o:=rfl;rw [er]at q;clear er b1 b2 ii;generalize hR:rnd x0 o=R at*;generalize x0+x0+o=S at*;generalize x0+x0=S1 at*;generalize o+o=S2 at*;repeat (first|(simp -implicitDefEqProofs only [go_sem,seval,wPV,sel3])|((with_reducible refine Qaa a1 ?_ ?_ ?_);rfl;rfl)|((with_reducible refine Qaa a2 ?_ ?_ ?_);rfl;rfl)|((with_reducible refine Qaa a3 ?_ ?_ ?_);rfl;rfl)|((with_reducible refine Qaa q ?_ ?_ ?_);rfl;rfl)|((with_reducible refine Qaa wi ?_ ?_ ?_);rfl;rfl)|(with_reducible refine And.intro (Qac _ _ (by kernel_rfl)) ?_))
      refine⟨⟨0+1,hA⟩,by simp only;omega,Qan (θ:=[(0,0),(106,106),(400,400)]) rfl ?_ ?_⟩
      ·simp [Qaf,lkp,ren1,ren0,Qai]
      ·subst hR;exact⟨⟨rfl,rfl,rfl,rfl,rfl,.inr ⟨rfl,_,_,rfl,rfl,rfl,rfl⟩⟩,⟨rfl,rfl,rfl,rfl,rfl,.inr ⟨rfl,_,_,rfl,rfl,rfl,rfl⟩⟩,⟨rfl,rfl,rfl,rfl,rfl,.inr ⟨rfl,_,_,rfl,rfl,rfl,rfl⟩⟩,trivial⟩
     ·obtain⟨hb1,hr1,hr2⟩:=hbb1;obtain rfl:i=1:=hi0;have ii:Qfl (rnd x1 o)= .tup [.int .i64 (rnd x1 o),.int .i64 0]:=by unfold Qfl;rw [if_pos (by omega)]
      have wi:=Qzn (x:=rnd x1 o) (Qa4 (B:=64) (by have:(2:Nat)^64=18446744073709551616:=rfl;omega) (by decide));rw [ii]at wi;have b1:=Qpy hb1 hb1;have b2:=Qwg hb1 ho;have a1:=Qgy (Qa4 hb1 (by decide)) (Qa4 hb1 (by decide)) (Qa4 b1 (by decide));have a2:=Qgy (Qa4 b1 (by decide)) (Qa4 ho (by decide)) (Qa4 b2 (by decide));have q:=Qnl b2 (by decide) (Qzl b3 (by decide)) (show 0<o+o by omega);have er:(x1+x1+o)/(o+o)=rnd x1 o:=rfl;rw [er]at q;clear er b1 b2 ii;generalize hR:rnd x1 o=R at*;generalize x1+x1+o=S at*;generalize x1+x1=S1 at*;generalize o+o=S2 at*;repeat (first|(simp -implicitDefEqProofs only [go_sem,seval,wPV,sel3])|((with_reducible refine Qaa a1 ?_ ?_ ?_);rfl;rfl)|((with_reducible refine Qaa a2 ?_ ?_ ?_);rfl;rfl)|((with_reducible refine Qaa a3 ?_ ?_ ?_);rfl;rfl)|((with_reducible refine Qaa q ?_ ?_ ?_);rfl;rfl)|((with_reducible refine Qaa wi ?_ ?_ ?_);rfl;rfl)|(with_reducible refine And.intro (Qac _ _ (by kernel_rfl)) ?_))
      refine⟨⟨1+1,hA⟩,by simp only;omega,Qan (θ:=[(0,0),(106,106),(400,400)]) rfl ?_ ?_⟩
      ·simp [Qaf,lkp,ren1,ren0,Qai]
      ·subst hR;exact⟨⟨rfl,rfl,rfl,rfl,rfl,.inr ⟨rfl,_,_,rfl,rfl,rfl,rfl⟩⟩,⟨rfl,rfl,rfl,rfl,rfl,.inr ⟨rfl,_,_,rfl,rfl,rfl,rfl⟩⟩,⟨rfl,rfl,rfl,rfl,rfl,.inr ⟨rfl,_,_,rfl,rfl,rfl,rfl⟩⟩,trivial⟩
     ·obtain⟨hb1,hr1,hr2⟩:=hb2;obtain rfl:i=2:=hi0;have ii:Qfl (rnd x2 o)= .tup [.int .i64 (rnd x2 o),.int .i64 0]:=by unfold Qfl;rw [if_pos (by omega)]
      have wi:=Qzn (x:=rnd x2 o) (Qa4 (B:=64) (by have:(2:Nat)^64=18446744073709551616:=rfl;omega) (by decide));rw [ii]at wi;have b1:=Qpy hb1 hb1;have b2:=Qwg hb1 ho;have a1:=Qgy (Qa4 hb1 (by decide)) (Qa4 hb1 (by decide)) (Qa4 b1 (by decide));have a2:=Qgy (Qa4 b1 (by decide)) (Qa4 ho (by decide)) (Qa4 b2 (by decide));have q:=Qnl b2 (by decide) (Qzl b3 (by decide)) (show 0<o+o by omega);have er:(x2+x2+o)/(o+o)=rnd x2 o:=rfl;rw [er]at q;clear er b1 b2 ii;generalize hR:rnd x2 o=R at*;generalize x2+x2+o=S at*;generalize x2+x2=S1 at*;generalize o+o=S2 at*;repeat (first|(simp -implicitDefEqProofs only [go_sem,seval,wPV,sel3])|((with_reducible refine Qaa a1 ?_ ?_ ?_);rfl;rfl)|((with_reducible refine Qaa a2 ?_ ?_ ?_);rfl;rfl)|((with_reducible refine Qaa a3 ?_ ?_ ?_);rfl;rfl)|((with_reducible refine Qaa q ?_ ?_ ?_);rfl;rfl)|((with_reducible refine Qaa wi ?_ ?_ ?_);rfl;rfl)|(with_reducible refine And.intro (Qac _ _ (by kernel_rfl)) ?_))
      refine⟨⟨2+1,hA⟩,by simp only;omega,Qan (θ:=[(0,0),(106,106),(400,400)]) rfl ?_ ?_⟩
      ·simp [Qaf,lkp,ren1,ren0,Qai]
      ·subst hR;exact⟨⟨rfl,rfl,rfl,rfl,rfl,.inr ⟨rfl,_,_,rfl,rfl,rfl,rfl⟩⟩,⟨rfl,rfl,rfl,rfl,rfl,.inr ⟨rfl,_,_,rfl,rfl,rfl,rfl⟩⟩,⟨rfl,rfl,rfl,rfl,rfl,.inr ⟨rfl,_,_,rfl,rfl,rfl,rfl⟩⟩,trivial⟩
    ·have hA':((i:Int)<3)=False:=eq_false (by omega);obtain rfl:i=3:=by omega
     have z0:sel3 (fun m=>rnd ([x0,x1,x2].getD m 0) o) 3 0=rnd x0 o:=rfl;have z1:sel3 (fun m=>rnd ([x0,x1,x2].getD m 0) o) 3 1=rnd x1 o:=rfl;have z2:sel3 (fun m=>rnd ([x0,x1,x2].getD m 0) o) 3 2=rnd x2 o:=rfl;simp only [z0,z1,z2];repeat (first|(simp -implicitDefEqProofs only [go_sem,seval]))
abbrev BaOk (B:Bat):Prop:=(0≤B.base∧B.base≤1000000)∧(0≤B.climb∧B.climb≤1000000)∧(0≤B.drag∧B.drag≤1000000)∧0≤B.res∧B.res≤B.cap∧B.cap≤1125899906842624
theorem Zwx {B:Bat} (h:BaOk B):Qa5 B=true:=by
 unfold BaOk at h;simp only [Qa5,Q4n,Bool.and_eq_true,decide_eq_true_eq];omega
theorem Qq8 {B:Bat} (h: ¬BaOk B):Qa5 B=false:=by
 cases e:Qa5 B with
 |false=>rfl
 |true=>exact(h (Qd0 e)).elim
set_option maxHeartbeats 4000000 in
set_option maxRecDepth 100000 in
theorem Qq9 (B:Bat):Qae Tryz.prog 43 [baPV B] (.bool (Qa5 B)):=by
 unfold baPV;by_cases c0:B.base<0
 ·have c0':=eq_true c0;have e:Qa5 B=false:=Qq8 (by unfold BaOk;omega);refine Qab (tb:=[]) 37 [.tmp 2] [0,1,2,4,11,12,13,20] mixed Tryz.func43 rfl (by kernel_rfl) (by kernel_rfl) (by kernel_rfl) (by kernel_rfl) ?_;repeat (first|(simp -implicitDefEqProofs only [go_sem,seval]))
  refine Qch mixed [0,1,2,3] ?_;repeat (first|(simp -implicitDefEqProofs only [go_sem,seval,e,Qi4,decide_true,c0']))
 have c0':=eq_false c0;by_cases c1:1000000<B.base
 ·have c1':=eq_true c1;have e:Qa5 B=false:=Qq8 (by unfold BaOk;omega);refine Qab (tb:=[]) 37 [.tmp 2] [0,1,2,4,11,12,13,20] mixed Tryz.func43 rfl (by kernel_rfl) (by kernel_rfl) (by kernel_rfl) (by kernel_rfl) ?_;repeat (first|(simp -implicitDefEqProofs only [go_sem,seval]))
  refine Qch mixed [0,1,2,3] ?_;repeat (first|(simp -implicitDefEqProofs only [go_sem,seval,e,Qi4,decide_true,decide_false,c0',c1']))
 have c1':=eq_false c1;by_cases c2:B.climb<0
 ·have c2':=eq_true c2;have e:Qa5 B=false:=Qq8 (by unfold BaOk;omega);refine Qab (tb:=[]) 37 [.tmp 2] [0,1,2,4,11,12,13,20] mixed Tryz.func43 rfl (by kernel_rfl) (by kernel_rfl) (by kernel_rfl) (by kernel_rfl) ?_;repeat (first|(simp -implicitDefEqProofs only [go_sem,seval]))
  refine Qch mixed [0,1,2,3] ?_;repeat (first|(simp -implicitDefEqProofs only [go_sem,seval,e,Qq7,Qi4,decide_true,decide_false,c0',c1',c2']))
 have c2':=eq_false c2;by_cases c3:1000000<B.climb
 ·have c3':=eq_true c3;have e:Qa5 B=false:=Qq8 (by unfold BaOk;omega);refine Qab (tb:=[]) 37 [.tmp 2] [0,1,2,4,11,12,13,20] mixed Tryz.func43 rfl (by kernel_rfl) (by kernel_rfl) (by kernel_rfl) (by kernel_rfl) ?_;repeat (first|(simp -implicitDefEqProofs only [go_sem,seval]))
  refine Qch mixed [0,1,2,3] ?_;repeat (first|(simp -implicitDefEqProofs only [go_sem,seval,e,Qq7,Qi4,decide_true,decide_false,c0',c1',c2',c3']))
 have c3':=eq_false c3;by_cases c4:B.drag<0
 ·have c4':=eq_true c4;have e:Qa5 B=false:=Qq8 (by unfold BaOk;omega);refine Qab (tb:=[]) 37 [.tmp 2] [0,1,2,4,11,12,13,20] mixed Tryz.func43 rfl (by kernel_rfl) (by kernel_rfl) (by kernel_rfl) (by kernel_rfl) ?_;repeat (first|(simp -implicitDefEqProofs only [go_sem,seval]))
  refine Qch mixed [0,1,2,3] ?_;repeat (first|(simp -implicitDefEqProofs only [go_sem,seval,e,Qq7,Qv9,Qi4,decide_true,decide_false,c0',c1',c2',c3',c4']))
 have c4':=eq_false c4;by_cases c5:1000000<B.drag
 ·have c5':=eq_true c5;have e:Qa5 B=false:=Qq8 (by unfold BaOk;omega);refine Qab (tb:=[]) 37 [.tmp 2] [0,1,2,4,11,12,13,20] mixed Tryz.func43 rfl (by kernel_rfl) (by kernel_rfl) (by kernel_rfl) (by kernel_rfl) ?_;repeat (first|(simp -implicitDefEqProofs only [go_sem,seval]))
  refine Qch mixed [0,1,2,3] ?_;repeat (first|(simp -implicitDefEqProofs only [go_sem,seval,e,Qq7,Qv9,Qi4,decide_true,decide_false,c0',c1',c2',c3',c4',c5']))
 have c5':=eq_false c5;by_cases c6:0≤B.res
 case neg=>
  have c6':=eq_false c6;have e:Qa5 B=false:=Qq8 (by unfold BaOk;omega);refine Qab (tb:=[]) 37 [.tmp 2] [0,1,2,4,11,12,13,20] mixed Tryz.func43 rfl (by kernel_rfl) (by kernel_rfl) (by kernel_rfl) (by kernel_rfl) ?_;repeat (first|(simp -implicitDefEqProofs only [go_sem,seval]))
  refine Qch mixed [0,1,2,3] ?_;repeat (first|(simp -implicitDefEqProofs only [go_sem,seval,e,Qq7,Qv9,Q59,Qi4,decide_true,decide_false,c0',c1',c2',c3',c4',c5',c6']))
 have c6':=eq_true c6;by_cases c7:B.res≤B.cap
 case neg=>
  have c7':=eq_false c7;have e:Qa5 B=false:=Qq8 (by unfold BaOk;omega);refine Qab (tb:=[]) 37 [.tmp 2] [0,1,2,4,11,12,13,20] mixed Tryz.func43 rfl (by kernel_rfl) (by kernel_rfl) (by kernel_rfl) (by kernel_rfl) ?_;repeat (first|(simp -implicitDefEqProofs only [go_sem,seval]))
  refine Qch mixed [0,1,2,3] ?_;repeat (first|(simp -implicitDefEqProofs only [go_sem,seval,e,Qq7,Qv9,Q59,Qi4,decide_true,decide_false,c0',c1',c2',c3',c4',c5',c6',c7']))
 have c7':=eq_true c7;by_cases c8:B.cap≤1125899906842624
 case neg=>
  have c8':=eq_false c8;have e:Qa5 B=false:=Qq8 (by unfold BaOk;omega);refine Qab (tb:=[]) 37 [.tmp 2] [0,1,2,4,11,12,13,20] mixed Tryz.func43 rfl (by kernel_rfl) (by kernel_rfl) (by kernel_rfl) (by kernel_rfl) ?_;repeat (first|(simp -implicitDefEqProofs only [go_sem,seval]))
  refine Qch mixed [0,1,2,3] ?_;repeat (first|(simp -implicitDefEqProofs only [go_sem,seval,e,Qq7,Qv9,Q59,Qi4,decide_true,decide_false,c0',c1',c2',c3',c4',c5',c6',c7',c8']))
 have c8':=eq_true c8;have e:Qa5 B=true:=Zwx (by unfold BaOk;omega);refine Qab (tb:=[]) 37 [.tmp 2] [0,1,2,4,11,12,13,20] mixed Tryz.func43 rfl (by kernel_rfl) (by kernel_rfl) (by kernel_rfl) (by kernel_rfl) ?_;repeat (first|(simp -implicitDefEqProofs only [go_sem,seval]))
 refine Qch mixed [0,1,2,3] ?_;repeat (first|(simp -implicitDefEqProofs only [go_sem,seval,e,Qq7,Qv9,Q59,Qi4,decide_true,decide_false,c0',c1',c2',c3',c4',c5',c6',c7',c8']))
def posS (s:Sg) (i:Nat):Int:=rnd (exQ [s] s.f i) (exO [s] s.f)
def alV (l:List Wd) (s:Sg):PV:=Q6w l (posS s 0) (posS s 1) (posS s 2) s.f
theorem Q6x {s:Sg} (h:Qbl s=true):Qbp [s]=true:=by
 unfold Qbp vpTo;simp [vpAt,h,List.range_succ]
theorem Q6y {s:Sg} (h:Qbl s=true):lasts [s] s.f=true:=by
 have:=(Qbu h).1;simp only [lasts,pBeg,pEnd,Bool.and_eq_true,decide_eq_true_eq];simp;omega
theorem Zxt {s:Sg} (hs:okSg s) (h:Qbl s=true):Qae Tryz.prog 59 [.slc [sgPV s],.int .i64 s.f] (.tup [.agg [.int .i64 (posS s 0),.int .i64 (posS s 1),.int .i64 (posS s 2)],.int .i64 0]):=by
 have h1:=Z1l [s] s.f (fun x hx=>by rw [List.mem_singleton.1 hx];exact hs) (by simp) hs.f;unfold atPV at h1;rw [if_pos (Q6x h),if_pos (Q6y h)]at h1;exact h1
theorem Zfc (p:List Sg) (i:Nat) (h:i<p.length):((p.map sgPV).take (i+1)).drop i=[sgPV p[i]]:=by
 rw [Qdm _ i (by simpa using h),List.drop_append_of_le_length (by simp;omega),List.drop_eq_nil_of_le (by simp;omega)];simp
theorem Zq6 (p:List Sg):((p.map sgPV).all fun x=>x.cells.length==6)=true:=by rw [List.all_map,List.all_eq_true];intro _ _;rfl
theorem Zop (l:List Wd) (T:List Sg):((T.map (alV l)).flatMap PV.cells).all PV.okCell=true:=by
 rw [List.all_eq_true];intro c hc;simp only [List.mem_flatMap,List.mem_map]at hc;obtain⟨_,⟨s,_,rfl⟩,h⟩:=hc;simp only [alV,Q6w,PV.cells,List.mem_cons,List.not_mem_nil,or_false]at h;rcases h with rfl|rfl|rfl<;>rfl
set_option maxHeartbeats 4000000 in
theorem Q6z (l:List Wd) (p:List Sg) (hp: ∀s∈p,okSg s) (hl:l.length≤maxLen) (hpl:p.length≤1000000):Qae Tryz.prog 45 [wsPV l,Qdl p] (if Qa9 l=true∧Qbp p=true then .tup [.slc (p.map (alV l)),.int .i64 0]else .tup [.slc [],.int .i64 2]):=by
 have v1:=Qfk l hl;have v2:=Qg0 p hp hpl;unfold Qdl at v2 ⊢;cases hv:Qa9 l with
 |false=>
  rw [hv]at v1;refine Qab (tb:=[]) 49 [.tmp 4,.tmp 5] [0,1,4,5,6,7,8,9,18,19,20,21,22] mixed Tryz.func45 rfl (by kernel_rfl) (by kernel_rfl) (by kernel_rfl) (by kernel_rfl) ?_;repeat (first|(simp -implicitDefEqProofs only [go_sem,seval,Bool.not_false,Bool.false_eq_true,false_and])|((with_reducible refine Qaa v1 ?_ ?_ ?_);rfl;rfl))
 |true=>
 cases hV:Qbp p with
 |false=>
  rw [hv]at v1;rw [hV]at v2;refine Qab (tb:=[]) 49 [.tmp 4,.tmp 5] [0,1,4,5,6,7,8,9,18,19,20,21,22] mixed Tryz.func45 rfl (by kernel_rfl) (by kernel_rfl) (by kernel_rfl) (by kernel_rfl) ?_;repeat (first|(simp -implicitDefEqProofs only [go_sem,seval,Bool.not_false,Bool.not_true,Bool.false_eq_true,and_false])|((with_reducible refine Qaa v1 ?_ ?_ ?_);rfl;rfl)|((with_reducible refine Qaa v2 ?_ ?_ ?_);rfl;rfl))
 |true=>
  rw [hv]at v1;rw [hV]at v2;rw [if_pos ⟨rfl,rfl⟩];have h8:=(Qb9 hv).2;refine Qab (tb:=[]) 49 [.tmp 4,.tmp 5] [0,1,4,5,6,7,8,9,18,19,20,21,22] mixed Tryz.func45 rfl (by kernel_rfl) (by kernel_rfl) (by kernel_rfl) (by kernel_rfl) ?_;repeat (first|(simp -implicitDefEqProofs only [go_sem,seval,Bool.not_true,List.length_map])|((with_reducible refine Qaa v1 ?_ ?_ ?_);rfl;rfl)|((with_reducible refine Qaa v2 ?_ ?_ ?_);rfl;rfl))
  refine Qav mixed (fun i:{i:Nat // i≤p.length}=>St.of [(0,wsPV l),(1,.slc (p.map sgPV)),(6,.bs 7 3 0 i.1),(19,.slc (p.map sgPV)),(20,.int .i64 (p.length:Int)),(21,.int .i64 (i.1:Int))] [(7,{els:=(p.take i.1).map (alV l),esz:=3,ety:=69,fro:=0,live:=true,arr:=true})]) (fun i=>p.length-i.1) ⟨0,Nat.zero_le _⟩ ?_ ?_
  ·refine Qiu 6 7 3 69 rfl rfl rfl (by decide) [(7,7)] rfl ?_ ?_
   ·simp [Qaf,lkp,ren1,ren0,Qai,wsPV]
   ·exact⟨⟨rfl,rfl,rfl,rfl,rfl,.inl ⟨rfl,rfl⟩⟩,trivial⟩
  ·rintro⟨i,hi⟩;simp only;by_cases hA:i<p.length
   ·skip
    have hA':=ltT hA;have n0:=nnT i;have hg:=Qgz p i hA;have hsl:((p.map sgPV).take (i+1)).drop i=[.agg [.int .i64 p[i].f,.int .i64 p[i].t,.int .i64 p[i].o,.slc (p[i].x.map (PV.int .i64)),.slc (p[i].y.map (PV.int .i64)),.slc (p[i].z.map (PV.int .i64))]]:=Zfc p i hA;have hs:=hp _ (List.getElem_mem hA);have hvs:=Qfi hV _ hA;have f1:=Zxt hs hvs;have f2:=Q6v l (posS p[i] 0) (posS p[i] 1) (posS p[i] 2) p[i].f h8;have f3:=Zq5 l (posS p[i] 0) (posS p[i] 1) (posS p[i] 2) p[i].f hv;have hwk:=Qam (a:=i) (by omega);have hsn:(p.take (i+1)).map (alV l)=(p.take i).map (alV l)++[Q6w l (posS p[i] 0) (posS p[i] 1) (posS p[i] 2) p[i].f]:=by rw [Qdm p i hA,List.map_append];rfl
    have hln:((p.take i).map (alV l)).length=i:=by simp;omega
    have hok:=Zop l (p.take i);have k1:((i+1)*24≤140737488355328)=True:=eq_true (by omega);have k2:(i+1≤maxLen)=True:=eq_true (by unfold maxLen;omega);have k3:((i:Int)≤((i+1:Nat):Int))=True:=eq_true (by omega);have k4:(((i+1:Nat):Int)≤(p.length:Int))=True:=eq_true (by omega);have hall:=Zq6 p;generalize hT2:(p.take (i+1)).map (alV l)=T2 at*;generalize (p.take i).map (alV l)=T at*;generalize p[i]=s at*;generalize mask (blW (posS s 0) (posS s 1) (posS s 2) s.f) l=m at*;unfold Q6w at f3 hsn;generalize atW Wd.ux l (posS s 0) (posS s 1) (posS s 2) s.f=u0 at*;generalize atW Wd.uy l (posS s 0) (posS s 1) (posS s 2) s.f=u1 at*;generalize atW Wd.uz l (posS s 0) (posS s 1) (posS s 2) s.f=u2 at*;generalize posS s 0=x0 at*;generalize posS s 1=x1 at*;generalize posS s 2=x2 at*;unfold sgPV Qbi at f1;repeat (first|(simp -implicitDefEqProofs only [go_sem,seval,hA',n0,hg,hsl,hwk,k3,k4,hall,Int.toNat_natCast,List.length_map])|((with_reducible refine Qaa f1 ?_ ?_ ?_);rfl;rfl)|(with_reducible refine And.intro (Qac _ _ (by kernel_rfl)) ?_))
    repeat (first|(simp -implicitDefEqProofs only [go_sem,seval,hln,hok,hwk,k1,k2])|((with_reducible refine Qaa f2 ?_ ?_ ?_);rfl;rfl)|((with_reducible refine Qaa f3 ?_ ?_ ?_);rfl;rfl))
    refine⟨⟨i+1,hA⟩,by simp only;omega,Qan (θ:=[(7,809)]) rfl ?_ ?_⟩
    ·simp [Qaf,lkp,ren1,ren0,Qai,wsPV]
    ·simp only [hT2,hsn];exact⟨⟨rfl,rfl,rfl,rfl,rfl,.inl ⟨rfl,rfl⟩⟩,trivial⟩
   ·have hA':=ltF hA;obtain rfl:i=p.length:=by omega
    have ht:p.take p.length=p:=List.take_length;have ht2:(p.map (alV l)).take p.length=p.map (alV l):=List.take_of_length_le (by simp);have hok:=Zop l p;rw [ht];have hln:(p.map (alV l)).length=p.length:=by simp
    generalize p.map (alV l)=T at*;repeat (first|(simp -implicitDefEqProofs only [go_sem,seval,hA',ht2,hln]))
def cstW (l:List Wd) (B:Bat) (s:Sg):Int:=Qox s B (atW Wd.ux l (posS s 0) (posS s 1) (posS s 2) s.f) (atW Wd.uy l (posS s 0) (posS s 1) (posS s 2) s.f) (atW Wd.uz l (posS s 0) (posS s 1) (posS s 2) s.f)
def csL (l:List Wd) (B:Bat) (p:List Sg):List Int:=p.map (cstW l B)
theorem Q6a (l:List Wd) (B:Bat) (p:List Sg):(csL l B p).length=p.length:=by simp [csL]
theorem Zqg (l:List Wd) (B:Bat) (p:List Sg) {i:Nat} (h:i<p.length):(csL l B p).getD i 0=cstW l B p[i]:=by simp [csL,h]
theorem Zwy {s:Sg} (hv:Qbl s=true) {B:Bat} (hB:Qa5 B=true) {l:List Wd} (hw:Qa9 l=true):0≤cstW l B s∧cstW l B s≤400000000000000000:=by
 obtain⟨⟨v1,v2,v3,v4,v5⟩,hax, -⟩:=Qbu hv;exact Qyi (by unfold rngS;simp only [Bool.and_eq_true,decide_eq_true_eq];omega) (hax s.x (by simp [Sg.ax])) (hax s.y (by simp [Sg.ax])) (hax s.z (by simp [Sg.ax])) hB (Qgi (.inl rfl) hw _ _ _ _) (Qgi (.inr (.inl rfl)) hw _ _ _ _) (Qgi (.inr (.inr rfl)) hw _ _ _ _)
theorem Q6b {p:List Sg} (hV:Qbp p=true) {B:Bat} (hB:Qa5 B=true) {l:List Wd} (hw:Qa9 l=true):okCs (csL l B p):=by
 intro c hc;obtain⟨s,hs,rfl⟩:=List.mem_map.1 hc;obtain⟨i,hi,rfl⟩:=List.mem_iff_getElem.1 hs;exact Zwy (Qfi hV i hi) hB hw
theorem Q6c (l:List Wd) (p:List Sg) {i:Nat} (h:i<p.length):(p.map (alV l))[i]? =some (.agg [.int .i64 (atW Wd.ux l (posS p[i] 0) (posS p[i] 1) (posS p[i] 2) p[i].f),.int .i64 (atW Wd.uy l (posS p[i] 0) (posS p[i] 1) (posS p[i] 2) p[i].f),.int .i64 (atW Wd.uz l (posS p[i] 0) (posS p[i] 1) (posS p[i] 2) p[i].f)]):=by
 rw [List.getElem?_map,List.getElem?_eq_getElem h];rfl
def Qm5 (p:List Sg) (B:Bat) (l:List Wd):Bool:=Qbp p&&(Qa5 B&&Qa9 l)
set_option maxHeartbeats 8000000 in
theorem Zqh (p:List Sg) (B:Bat) (l:List Wd) (hp: ∀s∈p,okSg s) (hl:l.length≤maxLen) (hpl:p.length≤1000000):
  Qae Tryz.prog 87 [Qdl p,baPV B,wsPV l] (if Qm5 p B l=true then .tup [.slc ((smL (csL l B p) (cutE (csL l B p))).map (PV.int .i64)),.int .i64 0]else .tup [.slc [],.int .i64 2]):=by
 have v1:=Qg0 p hp hpl;have v2:=Qq9 B;have v3:=Qfk l hl;have f1:=Q6z l p hp hl hpl;unfold Qm5;unfold Qdl at v1 f1 ⊢;cases hV:Qbp p with
 |false=>
  rw [hV]at v1;unfold baPV at v2 ⊢;refine Qab (tb:=[]) 67 [.tmp 6,.tmp 7] [0,1,2,4,6,7,8,10,11,12,13,14,15,28,35,36,37,38,60] mixed Tryz.func87 rfl (by kernel_rfl) (by kernel_rfl) (by kernel_rfl) (by kernel_rfl) ?_;repeat (first|(simp -implicitDefEqProofs only [go_sem,seval,Bool.not_false,Bool.false_eq_true,Bool.false_and])|((with_reducible refine Qaa v1 ?_ ?_ ?_);rfl;rfl))
 |true=>
 rw [hV]at v1;cases hB:Qa5 B with
 |false=>
  rw [hB]at v2;unfold baPV at v2 ⊢;refine Qab (tb:=[]) 67 [.tmp 6,.tmp 7] [0,1,2,4,6,7,8,10,11,12,13,14,15,28,35,36,37,38,60] mixed Tryz.func87 rfl (by kernel_rfl) (by kernel_rfl) (by kernel_rfl) (by kernel_rfl) ?_;repeat (first|(simp -implicitDefEqProofs only [go_sem,seval,Bool.not_false,Bool.not_true,Bool.false_eq_true,Bool.false_and,Bool.true_and])|((with_reducible refine Qaa v1 ?_ ?_ ?_);rfl;rfl)|((with_reducible refine Qaa v2 ?_ ?_ ?_);rfl;rfl))
 |true=>
 rw [hB]at v2;cases hw:Qa9 l with
 |false=>
  rw [hw]at v3;unfold baPV at v2 ⊢;refine Qab (tb:=[]) 67 [.tmp 6,.tmp 7] [0,1,2,4,6,7,8,10,11,12,13,14,15,28,35,36,37,38,60] mixed Tryz.func87 rfl (by kernel_rfl) (by kernel_rfl) (by kernel_rfl) (by kernel_rfl) ?_;repeat (first|(simp -implicitDefEqProofs only [go_sem,seval,Bool.not_false,Bool.not_true,Bool.false_eq_true,Bool.and_false,Bool.true_and])|((with_reducible refine Qaa v1 ?_ ?_ ?_);rfl;rfl)|((with_reducible refine Qaa v2 ?_ ?_ ?_);rfl;rfl)|((with_reducible refine Qaa v3 ?_ ?_ ?_);rfl;rfl))
 |true=>
 rw [hw]at v3;rw [if_pos ⟨hw,hV⟩]at f1;rw [if_pos (show(true&&(true&&true))=true from rfl)];have hok:=Q6b hV hB hw;have hcl:=Q6a l B p;have hpV:=Qcv hV;unfold baPV at v2 ⊢;refine Qab (tb:=[]) 67 [.tmp 6,.tmp 7] [0,1,2,4,6,7,8,10,11,12,13,14,15,28,35,36,37,38,60] mixed Tryz.func87 rfl (by kernel_rfl) (by kernel_rfl) (by kernel_rfl) (by kernel_rfl) ?_;repeat (first|(simp -implicitDefEqProofs only [go_sem,seval,Bool.not_true,List.length_map])|((with_reducible refine Qaa v1 ?_ ?_ ?_);rfl;rfl)|((with_reducible refine Qaa v2 ?_ ?_ ?_);rfl;rfl)|((with_reducible refine Qaa v3 ?_ ?_ ?_);rfl;rfl)|((with_reducible refine Qaa f1 ?_ ?_ ?_);rfl;rfl))
 refine Qav mixed (fun i:{i:Nat // i≤p.length∧ ∀j,j<i→preI (csL l B p) (j+1)≤mxE}=>St.of [(4,.bp 0 5 0 0),(8,.slc (p.map (alV l))),(10,.bs 7 1 0 i.1),(11,.int .i64 (preI (csL l B p) i.1)),(35,.slc (p.map sgPV)),(36,.int .i64 (p.length:Int)),(37,.int .i64 (i.1:Int))]
  [(0,{els:=[baPV B],esz:=5,ety:=28,fro:=0,live:=true,arr:=false}),(7,iB1 (smL (csL l B p) i.1))]) (fun i=>p.length-i.1) ⟨0,Nat.zero_le _,fun j hj=>by omega⟩ ?_ ?_
 ·refine Qiu 10 7 1 3 rfl rfl rfl (by decide) [(0,0),(7,7)] rfl ?_ ?_
  ·simp [Qaf,lkp,ren1,ren0,Qai];rfl
  ·exact⟨⟨rfl,rfl,rfl,rfl,rfl,.inr ⟨rfl,_,_,rfl,rfl,rfl,rfl⟩⟩,⟨rfl,rfl,rfl,rfl,rfl,.inl ⟨rfl,rfl⟩⟩,trivial⟩
 rintro⟨i,hi,hall⟩;simp only;by_cases hA:i<p.length
 case neg=>
  have hA':=ltF hA;obtain rfl:i=p.length:=by omega
  have hce:cutE (csL l B p)=p.length:=by rw [Qye (by rw [hcl];exact hall),hcl]
  rw [hce];have hsm:(smL (csL l B p) p.length).length=p.length:=Qfb _ _;have ht:((smL (csL l B p) p.length).map (PV.int .i64)).take p.length=(smL (csL l B p) p.length).map (PV.int .i64):=List.take_of_length_le (by simp [Qfb]);have hk:=Qfd (smL (csL l B p) p.length);generalize smL (csL l B p) p.length=SM at*;repeat (first|(simp -implicitDefEqProofs only [go_sem,seval,hA',hsm,ht,List.length_map]))
 have hA':=ltT hA;have n0:=nnT i;have hg:=Qgz p i hA;have hga:=Q6c l p hA;have hvs:=Qfi hV _ hA;have f2:=Zqf p[i] B _ _ _ (hp _ (List.getElem_mem hA)) hvs hB (Qgi (.inl rfl) hw (posS p[i] 0) (posS p[i] 1) (posS p[i] 2) p[i].f) (Qgi (.inr (.inl rfl)) hw (posS p[i] 0) (posS p[i] 1) (posS p[i] 2) p[i].f) (Qgi (.inr (.inr rfl)) hw (posS p[i] 0) (posS p[i] 1) (posS p[i] 2) p[i].f);have hcw:Qox p[i] B (atW Wd.ux l (posS p[i] 0) (posS p[i] 1) (posS p[i] 2) p[i].f) (atW Wd.uy l (posS p[i] 0) (posS p[i] 1) (posS p[i] 2) p[i].f) (atW Wd.uz l (posS p[i] 0) (posS p[i] 1) (posS p[i] 2) p[i].f)=(csL l B p).getD i 0:=(Zqg l B p hA).symm;rw [hcw]at f2;have hbd:=Q4h hok i;have hpre:=Qmn (csL l B p) i;have hnn:=Q4i hok i;have hle:preI (csL l B p) i≤mxE:=by
  cases i with
  |zero=>exact(by decide:(0:Int)≤mxE)
  |succ i=>exact hall i (by omega)
 have hwk:=Qam (a:=i) (by omega);have hws:IntKind.i64.wrap (preI (csL l B p) i+(csL l B p).getD i 0)=preI (csL l B p) (i+1):=by rw [←hpre];unfold mxE at hle;exact Qag (by omega) (by omega)
 clear hcw;generalize atW Wd.ux l (posS p[i] 0) (posS p[i] 1) (posS p[i] 2) p[i].f=w0 at*;generalize atW Wd.uy l (posS p[i] 0) (posS p[i] 1) (posS p[i] 2) p[i].f=w1 at*;generalize atW Wd.uz l (posS p[i] 0) (posS p[i] 1) (posS p[i] 2) p[i].f=w2 at*;generalize p[i]=s at*;unfold sgPV Qbi baPV at f2;by_cases hC:(csL l B p).getD i 0≤1125899906842624
 ·rw [decide_eq_true hC]at f2;by_cases hS:1125899906842624<preI (csL l B p) (i+1)
  ·have hS':=eq_true hS;have hce:cutE (csL l B p)=i:=Qs6 (by omega) hall hS;have hsm:(smL (csL l B p) i).length=i:=Qfb _ _;have ht:((smL (csL l B p) i).map (PV.int .i64)).take i=(smL (csL l B p) i).map (PV.int .i64):=List.take_of_length_le (by simp [Qfb]);have hk:=Qfd (smL (csL l B p) i);rw [hce];generalize smL (csL l B p) i=SM at*;generalize preI (csL l B p) (i+1)=P1 at*;generalize preI (csL l B p) i=P0 at*;generalize (csL l B p).getD i 0=C at*;repeat (first|(simp -implicitDefEqProofs only [go_sem,seval,hA',n0,hg,hga,hws,hS',hsm,ht,Bool.not_true,decide_true,Int.toNat_natCast,List.length_map])|((with_reducible refine Qaa f2 ?_ ?_ ?_);rfl;rfl)|(with_reducible exact Qac _ _ (by kernel_rfl)))
  ·have hS':=eq_false hS;have hsn:=Zd6 (csL l B p) i;have hsm:(smL (csL l B p) i).length=i:=Qfb _ _;have hk:=Qfd (smL (csL l B p) i);have k1:((i+1)*8≤140737488355328)=True:=eq_true (by omega);have k2:(i+1≤maxLen)=True:=eq_true (by unfold maxLen;omega);have hall2: ∀j,j<i+1→preI (csL l B p) (j+1)≤mxE:=fun j hj=>by
    by_cases e:j=i
    ·subst e;unfold mxE;omega
    ·exact hall j (by omega)
   generalize hSM2:smL (csL l B p) (i+1)=SM2 at*;generalize smL (csL l B p) i=SM at*;generalize hP1:preI (csL l B p) (i+1)=P1 at*;generalize preI (csL l B p) i=P0 at*;generalize (csL l B p).getD i 0=C at*;repeat (first|(simp -implicitDefEqProofs only [go_sem,seval,hA',n0,hg,hga,hws,hwk,hS',hsm,hk,k1,k2,Bool.not_true,decide_false,Int.toNat_natCast,List.length_map])|((with_reducible refine Qaa f2 ?_ ?_ ?_);rfl;rfl)|(with_reducible refine And.intro (Qac _ _ (by kernel_rfl)) ?_))
   refine⟨⟨i+1,hA,hall2⟩,by simp only;omega,Qan (θ:=[(0,0),(7,1203)]) rfl ?_ ?_⟩
   ·simp only [hP1];simp [Qaf,lkp,ren1,ren0,Qai]
   ·simp only [hSM2,hsn];refine⟨⟨rfl,rfl,rfl,rfl,rfl,.inr ⟨rfl,_,_,rfl,rfl,rfl,rfl⟩⟩,⟨rfl,rfl,rfl,rfl,rfl,.inl ⟨rfl,?_⟩⟩,trivial⟩;simp
 ·rw [decide_eq_false hC]at f2;have hS:mxE<preI (csL l B p) (i+1):=by unfold mxE;omega
  have hce:cutE (csL l B p)=i:=Qs6 (by omega) hall hS;have hsm:(smL (csL l B p) i).length=i:=Qfb _ _;have ht:((smL (csL l B p) i).map (PV.int .i64)).take i=(smL (csL l B p) i).map (PV.int .i64):=List.take_of_length_le (by simp [Qfb]);have hk:=Qfd (smL (csL l B p) i);rw [hce];generalize smL (csL l B p) i=SM at*;generalize preI (csL l B p) (i+1)=P1 at*;generalize preI (csL l B p) i=P0 at*;generalize (csL l B p).getD i 0=C at*;repeat (first|(simp -implicitDefEqProofs only [go_sem,seval,hA',n0,hg,hga,hws,hsm,ht,Bool.not_false,Int.toNat_natCast,List.length_map])|((with_reducible refine Qaa f2 ?_ ?_ ?_);rfl;rfl)|(with_reducible exact Qac _ _ (by kernel_rfl)))
end Go.Proofs.YtdpajapkhembcaaGreatDoor
