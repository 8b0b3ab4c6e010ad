/-
  PM5, PM6, Dsh, PM7, Dsi (merged for the claim).
-/
import Derived.Test.YtlghoaggenhheaaGreatPM4
import Derived.Test.YtlghoaggenhheaaGreatDsg
set_option linter.unusedSimpArgs false
set_option linter.unusedVariables false
namespace Go.Proofs.YtlghoaggenhheaaGreat
open Go.Vl Go.RowKit Go.Dg
theorem Qq0 {m B:Nat} (h:m<2^B) (hk:B≤65000):m<2^65000:=Qd4 (C:=65000) h hk
def w3PV (x y z:Int):PV:= .agg [.bool (decide (x<0)),.str (mB x),.bool (decide (y<0)),.str (mB y),.bool (decide (z<0)),.str (mB z)]
def Qaf (x y z o:Int):PV:= .agg [.bool (decide (x<0)),.str (mB x),.bool (decide (y<0)),.str (mB y),.bool (decide (z<0)),.str (mB z),.bool (decide (o<0)),.str (mB o)]
theorem nc0:((0:Nat):Int)=0:=rfl
theorem nc1:((1:Nat):Int)=1:=rfl
theorem nc2:((2:Nat):Int)=2:=rfl
theorem nc3:((3:Nat):Int)=3:=rfl
theorem wr1:IntKind.i64.wrap 1=1:=rfl
theorem wr2:IntKind.i64.wrap 2=2:=rfl
theorem wr3:IntKind.i64.wrap 3=3:=rfl
attribute [go_sem] w3PV Qaf nc0 nc1 nc2 nc3 wr1 wr2 wr3
theorem mB_0:mB 0=⟨#[]⟩:=by unfold mB;rw [(Qs5 0).2 rfl]
def sel (P:Nat→Int) (i m:Nat) (X:Int):Int:=if m=i then X else at3 P i m
def plV (s:Sg) (a d:Int):PV:=Qaf (plP s a d 0/(plG s a d 3:Int)) (plP s a d 1/(plG s a d 3:Int)) (plP s a d 2/(plG s a d 3:Int)) (s.o*d^5/(plG s a d 3:Int))
set_option maxHeartbeats 2000000 in
theorem Qsp (s:Sg) (a d:Int) (hs:okSg s) (h6: ∀c∈s.ax,c.length≤6) (ho:1≤s.o) (ha:i64 a) (hd:i64 d) (hd1:1≤d):
  Qae Tryz.prog 55 [sgPV s,.int .i64 a,.int .i64 d] (plV s a d):=by
 obtain⟨⟨a1,a2⟩,⟨a3,a4⟩,⟨a5,a6⟩,hc,hl⟩:=hs;have ba:=Qay ha;have bd':=Qay hd;have bo:=Qay ⟨a5,a6⟩;have w1:=Qfs s.o a5 a6;have p5:=Qdq d 5 64 hd.1 hd.2 (by decide) (by decide) bd';have bd5:=Qoe bd' 5;have bod:=Zc1 (s:=s) bo bd';have m1:=Qhr (Qaw bo (by decide)) (Qaw bd5 (by decide)) (Qaw bod (by decide));have hax:=Q6k s;have hG0:(plG s a d 0:Int)=s.o*d^5:=by
  have h:0<s.o*d^5:=Int.mul_pos (by omega) (Int.pow_pos (by omega));show(((s.o*d^5).natAbs:Nat):Int)=_;omega
 have hcB: ∀c∈s.ax,bd 64 c:=fun c hx x hx2=>Qay (hc c hx x hx2);have bP:=Qzm hcB h6 ba bd';have bG:=Zsg hcB h6 bo ba bd';generalize hO:s.o*d^5=O at*;have hsg:sgPV s= .agg [.int .i64 s.f,.int .i64 s.t,.int .i64 s.o,.slc (s.x.map (PV.int .i64)),.slc (s.y.map (PV.int .i64)),.slc (s.z.map (PV.int .i64))]:=rfl;rw [hsg]at hax ⊢;refine Qab (tb:=[]) 74 [.cell 6 53] [0,1,2,3,6,7,8,9,10,11,12,13,22,23,24,27,28,29,30] mixed Tryz.func55 rfl (by kernel_rfl) ?_;repeat (first|simp -implicitDefEqProofs only [go_sem,seval,wPV]|(with_reducible refine Qaa w1 ?_ ?_ ?_);rfl;rfl|(with_reducible refine Qaa p5 ?_ ?_ ?_);rfl;rfl|(with_reducible refine Qaa m1 ?_ ?_ ?_);rfl;rfl|(with_reducible refine Qaa hax ?_ ?_ ?_);rfl;rfl)
 refine Qaq mixed (fun i:{i:Nat // i≤3}=>St.of [(1,.int .i64 a),(2,.int .i64 d),(6,.bp 1 8 0 0),(7,.bp 100 6 0 0),(8,.bp 206 2 0 0),(9,.bp 301 2 0 0),(22,.agg [Qan s.x,Qan s.y,Qan s.z]),(23,.int .i64 (i.1:Int))]
  [(1,{els:=[.agg [.bool false,.str ⟨#[]⟩,.bool false,.str ⟨#[]⟩,.bool false,.str ⟨#[]⟩,.bool false,.str ⟨#[]⟩]],esz:=8,ety:=53,fro:=0,live:=true,arr:=false}),(100,{els:=[w3PV (at3 (plP s a d) i.1 0) (at3 (plP s a d) i.1 1) (at3 (plP s a d) i.1 2)],esz:=6,ety:=139,fro:=0,live:=true,arr:=false}),(206,{els:=[wPV O],esz:=2,ety:=51,fro:=0,live:=true,arr:=false}),(301,{els:=[wPV ((plG s a d i.1:Nat):Int)],esz:=2,ety:=51,fro:=0,live:=true,arr:=false})]) (fun i=>3-i.1) ⟨0,Nat.zero_le _⟩ ?_ ?_
 ·refine Qaj (θ:=[(1,1),(100,100),(206,206),(301,301)]) rfl ?_ ?_
  ·simp [Qac,lkp,ren1,ren0,Qao,Qan]
  ·refine⟨⟨rfl,rfl,rfl,rfl,rfl,.inr ⟨rfl,_,_,rfl,rfl,rfl,rfl⟩⟩,⟨rfl,rfl,rfl,rfl,rfl,.inr ⟨rfl,_,_,rfl,rfl,?_,rfl⟩⟩,⟨rfl,rfl,rfl,rfl,rfl,.inr ⟨rfl,_,_,rfl,rfl,rfl,rfl⟩⟩,⟨rfl,rfl,rfl,rfl,rfl,.inr ⟨rfl,_,_,rfl,rfl,?_,rfl⟩⟩,trivial⟩
   ·simp only [at3,Nat.not_lt_zero,if_false,w3PV,mB_0];rfl
   ·simp only [hG0];rfl
 ·rintro⟨i,hi⟩;by_cases hA:i<3
  ·have hA':((i:Int)<3)=True:=eq_true (by omega);have hA2:=ltT hA;have h0:=nnT i;have hx:=Qxh s i hA;have hwk:=Qah (a:=i) (by omega);rcases(show i=0∨i=1∨i=2 by omega)with hi0|hi0|hi0
   ·skip
    obtain rfl:i=0:=hi0;have hm:s.ax.getD 0 []=s.ax[0]'hA:=rfl;have hP:plP s a d 0=sm (plcT (s.ax[0]'hA) a d) (s.ax[0]'hA).length:=rfl;have hcx:=hc (s.ax[0]) (List.getElem_mem hA);have hlx:=h6 (s.ax[0]) (List.getElem_mem hA);have bPi:=bP 0 (by omega);have bGi:=bG 0 (by omega);have hGs:=Qgt s a d 0;generalize s.ax[0]'hA=c at*;repeat simp -implicitDefEqProofs only [go_sem,seval,hx,List.length_map,at3]
    refine Qaq mixed (fun k:{k:Nat // k≤c.length}=>St.of [(1,.int .i64 a),(2,.int .i64 d),(6,.bp 1 8 0 0),(7,.bp 100 6 0 0),(8,.bp 206 2 0 0),(9,.bp 301 2 0 0),(22,.agg [Qan s.x,Qan s.y,Qan s.z]),(23,.int .i64 0),(10,.int .i64 0),(27,Qan c),(28,.int .i64 (c.length:Int)),(29,.int .i64 (k.1:Int))]
     [(1,{els:=[.agg [.bool false,.str ⟨#[]⟩,.bool false,.str ⟨#[]⟩,.bool false,.str ⟨#[]⟩,.bool false,.str ⟨#[]⟩]],esz:=8,ety:=53,fro:=0,live:=true,arr:=false}),(100,{els:=[w3PV (sel (plP s a d) 0 0 (sm (plcT c a d) k.1)) (sel (plP s a d) 0 1 (sm (plcT c a d) k.1)) (sel (plP s a d) 0 2 (sm (plcT c a d) k.1))],esz:=6,ety:=139,fro:=0,live:=true,arr:=false}),(206,{els:=[wPV O],esz:=2,ety:=51,fro:=0,live:=true,arr:=false}),(301,{els:=[wPV ((plG s a d 0:Nat):Int)],esz:=2,ety:=51,fro:=0,live:=true,arr:=false})]) (fun k=>c.length-k.1) ⟨0,Nat.zero_le _⟩ ?_ ?_
    ·refine Qaj (θ:=[(1,1),(100,100),(206,206),(301,301)]) rfl ?_ ?_
     ·simp [Qac,lkp,ren1,ren0,Qao,Qan]
     ·refine⟨⟨rfl,rfl,rfl,rfl,rfl,.inr ⟨rfl,_,_,rfl,rfl,rfl,rfl⟩⟩,⟨rfl,rfl,rfl,rfl,rfl,.inr ⟨rfl,_,_,rfl,rfl,?_,rfl⟩⟩,⟨rfl,rfl,rfl,rfl,rfl,.inr ⟨rfl,_,_,rfl,rfl,rfl,rfl⟩⟩,⟨rfl,rfl,rfl,rfl,rfl,.inr ⟨rfl,_,_,rfl,rfl,rfl,rfl⟩⟩,trivial⟩;simp only [sel,at3,sm];rfl
    ·rintro⟨k,hk⟩;by_cases hB:k<c.length
     ·have hB':=ltT hB;have n0:=nnT k;have hgk:=Qbz c k hB;have hwk2:=Qah (a:=k) (by omega);have w5:IntKind.i64.wrap (5-(k:Int))=((5-k:Nat):Int):=by rw [Qai (by omega) (by omega)];omega
      obtain⟨k1,k2⟩:=hcx _ (List.getElem_mem hB);have hcb:bd 64 c:=fun x hx=>Qay (hcx x hx);have x1:=hcb _ (List.getElem_mem hB);have o1:=Qfs c[k] k1 k2;have q1:=Qdq a k 64 ha.1 ha.2 (by omega) (by decide) ba;have q2:=Qdq d (5-k) 64 hd.1 hd.2 (by omega) (by decide) bd';obtain⟨t1,t2,t3,t4⟩:=Qjh hcb ba bd' k (by omega);have mm1:=Qhr (Qaw t1 (by decide)) (Qaw t2 (by decide)) (Qaw t3 (by decide));have eT:plcT c a d k=c[k]*(a^k*d^(5-k)):=by unfold plcT;rw [Qby hB]
      rw [eT]at t4;have mm2:=Qhr (Qaw x1 (by decide)) (Qaw t3 (by decide)) (Qaw t4 (by decide));rw [←eT]at mm2 t4;have y1:=Qeg hcb ba bd' k (by omega);have y2:=Qeg hcb ba bd' (k+1) (by omega);have es:sm (plcT c a d) (k+1)=sm (plcT c a d) k+plcT c a d k:=rfl;rw [es]at y2;have a1:=Qhq (Qaw y1 (by decide)) (Qaw t4 (by decide)) (Qaw y2 (by decide));rw [←es]at a1;clear y1 y2 t1 t2 t3 t4 es eT hP;generalize hX:sm (plcT c a d) (k+1)=X at*;generalize sm (plcT c a d) k=Y at*;generalize plcT c a d k=T at*;generalize a^k*d^(5-k)=U at*;generalize a^k=U1 at*;generalize d^(5-k)=U2 at*;repeat (first|simp -implicitDefEqProofs only [go_sem,seval,wPV,hB',n0,hgk,hwk2,w5,sel,at3,Int.toNat_natCast]|(with_reducible refine Qaa o1 ?_ ?_ ?_);rfl;rfl|(with_reducible refine Qaa q1 ?_ ?_ ?_);rfl;rfl|(with_reducible refine Qaa q2 ?_ ?_ ?_);rfl;rfl|(with_reducible refine Qaa mm1 ?_ ?_ ?_);rfl;rfl|(with_reducible refine Qaa mm2 ?_ ?_ ?_);rfl;rfl|(with_reducible refine Qaa a1 ?_ ?_ ?_);rfl;rfl|(with_reducible refine And.intro (Qad _ _ (by kernel_rfl)) ?_))
      refine⟨⟨k+1,hB⟩,by simp only;omega,Qaj (θ:=[(1,1),(100,100),(206,206),(301,301)]) rfl ?_ ?_⟩
      ·simp [Qac,lkp,ren1,ren0,Qao,Qan]
      ·simp only [hX];exact⟨⟨rfl,rfl,rfl,rfl,rfl,.inr ⟨rfl,_,_,rfl,rfl,rfl,rfl⟩⟩,⟨rfl,rfl,rfl,rfl,rfl,.inr ⟨rfl,_,_,rfl,rfl,rfl,rfl⟩⟩,⟨rfl,rfl,rfl,rfl,rfl,.inr ⟨rfl,_,_,rfl,rfl,rfl,rfl⟩⟩,⟨rfl,rfl,rfl,rfl,rfl,.inr ⟨rfl,_,_,rfl,rfl,rfl,rfl⟩⟩,trivial⟩
     ·have hB':=ltF hB;obtain rfl:k=c.length:=by omega
      have gg:=Qqv (Qaw bGi (by decide)) (Qaw bPi (by decide));rw [Int.natAbs_natCast,←hGs]at gg;rw [hP]at gg;generalize hX:sm (plcT c a d) c.length=X at*;repeat (first|simp -implicitDefEqProofs only [go_sem,seval,wPV,hB',sel,at3]|(with_reducible refine Qaa gg ?_ ?_ ?_);rfl;rfl|(with_reducible refine And.intro (Qad _ _ (by kernel_rfl)) ?_))
      refine⟨⟨0+1,hA⟩,by simp only;omega,Qaj (θ:=[(1,1),(100,100),(206,206),(301,301)]) rfl ?_ ?_⟩
      ·simp [Qac,lkp,ren1,ren0,Qao,Qan]
      ·simp only [at3,hP,hX];exact⟨⟨rfl,rfl,rfl,rfl,rfl,.inr ⟨rfl,_,_,rfl,rfl,rfl,rfl⟩⟩,⟨rfl,rfl,rfl,rfl,rfl,.inr ⟨rfl,_,_,rfl,rfl,rfl,rfl⟩⟩,⟨rfl,rfl,rfl,rfl,rfl,.inr ⟨rfl,_,_,rfl,rfl,rfl,rfl⟩⟩,⟨rfl,rfl,rfl,rfl,rfl,.inr ⟨rfl,_,_,rfl,rfl,rfl,rfl⟩⟩,trivial⟩
   ·skip
    obtain rfl:i=1:=hi0;have hm:s.ax.getD 1 []=s.ax[1]'hA:=rfl;have hP:plP s a d 1=sm (plcT (s.ax[1]'hA) a d) (s.ax[1]'hA).length:=rfl;have hcx:=hc (s.ax[1]) (List.getElem_mem hA);have hlx:=h6 (s.ax[1]) (List.getElem_mem hA);have bPi:=bP 1 (by omega);have bGi:=bG 1 (by omega);have hGs:=Qgt s a d 1;generalize s.ax[1]'hA=c at*;repeat simp -implicitDefEqProofs only [go_sem,seval,hx,List.length_map,at3]
    refine Qaq mixed (fun k:{k:Nat // k≤c.length}=>St.of [(1,.int .i64 a),(2,.int .i64 d),(6,.bp 1 8 0 0),(7,.bp 100 6 0 0),(8,.bp 206 2 0 0),(9,.bp 301 2 0 0),(22,.agg [Qan s.x,Qan s.y,Qan s.z]),(23,.int .i64 1),(10,.int .i64 1),(27,Qan c),(28,.int .i64 (c.length:Int)),(29,.int .i64 (k.1:Int))]
     [(1,{els:=[.agg [.bool false,.str ⟨#[]⟩,.bool false,.str ⟨#[]⟩,.bool false,.str ⟨#[]⟩,.bool false,.str ⟨#[]⟩]],esz:=8,ety:=53,fro:=0,live:=true,arr:=false}),(100,{els:=[w3PV (sel (plP s a d) 1 0 (sm (plcT c a d) k.1)) (sel (plP s a d) 1 1 (sm (plcT c a d) k.1)) (sel (plP s a d) 1 2 (sm (plcT c a d) k.1))],esz:=6,ety:=139,fro:=0,live:=true,arr:=false}),(206,{els:=[wPV O],esz:=2,ety:=51,fro:=0,live:=true,arr:=false}),(301,{els:=[wPV ((plG s a d 1:Nat):Int)],esz:=2,ety:=51,fro:=0,live:=true,arr:=false})]) (fun k=>c.length-k.1) ⟨0,Nat.zero_le _⟩ ?_ ?_
    ·refine Qaj (θ:=[(1,1),(100,100),(206,206),(301,301)]) rfl ?_ ?_
     ·simp [Qac,lkp,ren1,ren0,Qao,Qan]
     ·refine⟨⟨rfl,rfl,rfl,rfl,rfl,.inr ⟨rfl,_,_,rfl,rfl,rfl,rfl⟩⟩,⟨rfl,rfl,rfl,rfl,rfl,.inr ⟨rfl,_,_,rfl,rfl,?_,rfl⟩⟩,⟨rfl,rfl,rfl,rfl,rfl,.inr ⟨rfl,_,_,rfl,rfl,rfl,rfl⟩⟩,⟨rfl,rfl,rfl,rfl,rfl,.inr ⟨rfl,_,_,rfl,rfl,rfl,rfl⟩⟩,trivial⟩;simp only [sel,at3,sm];rfl
    ·rintro⟨k,hk⟩;by_cases hB:k<c.length
     ·have hB':=ltT hB;have n0:=nnT k;have hgk:=Qbz c k hB;have hwk2:=Qah (a:=k) (by omega);have w5:IntKind.i64.wrap (5-(k:Int))=((5-k:Nat):Int):=by rw [Qai (by omega) (by omega)];omega
      obtain⟨k1,k2⟩:=hcx _ (List.getElem_mem hB);have hcb:bd 64 c:=fun x hx=>Qay (hcx x hx);have x1:=hcb _ (List.getElem_mem hB);have o1:=Qfs c[k] k1 k2;have q1:=Qdq a k 64 ha.1 ha.2 (by omega) (by decide) ba;have q2:=Qdq d (5-k) 64 hd.1 hd.2 (by omega) (by decide) bd';obtain⟨t1,t2,t3,t4⟩:=Qjh hcb ba bd' k (by omega);have mm1:=Qhr (Qaw t1 (by decide)) (Qaw t2 (by decide)) (Qaw t3 (by decide));have eT:plcT c a d k=c[k]*(a^k*d^(5-k)):=by unfold plcT;rw [Qby hB]
      rw [eT]at t4;have mm2:=Qhr (Qaw x1 (by decide)) (Qaw t3 (by decide)) (Qaw t4 (by decide));rw [←eT]at mm2 t4;have y1:=Qeg hcb ba bd' k (by omega);have y2:=Qeg hcb ba bd' (k+1) (by omega);have es:sm (plcT c a d) (k+1)=sm (plcT c a d) k+plcT c a d k:=rfl;rw [es]at y2;have a1:=Qhq (Qaw y1 (by decide)) (Qaw t4 (by decide)) (Qaw y2 (by decide));rw [←es]at a1;clear y1 y2 t1 t2 t3 t4 es eT hP;generalize hX:sm (plcT c a d) (k+1)=X at*;generalize sm (plcT c a d) k=Y at*;generalize plcT c a d k=T at*;generalize a^k*d^(5-k)=U at*;generalize a^k=U1 at*;generalize d^(5-k)=U2 at*;repeat (first|simp -implicitDefEqProofs only [go_sem,seval,wPV,hB',n0,hgk,hwk2,w5,sel,at3,Int.toNat_natCast]|(with_reducible refine Qaa o1 ?_ ?_ ?_);rfl;rfl|(with_reducible refine Qaa q1 ?_ ?_ ?_);rfl;rfl|(with_reducible refine Qaa q2 ?_ ?_ ?_);rfl;rfl|(with_reducible refine Qaa mm1 ?_ ?_ ?_);rfl;rfl|(with_reducible refine Qaa mm2 ?_ ?_ ?_);rfl;rfl|(with_reducible refine Qaa a1 ?_ ?_ ?_);rfl;rfl|(with_reducible refine And.intro (Qad _ _ (by kernel_rfl)) ?_))
      refine⟨⟨k+1,hB⟩,by simp only;omega,Qaj (θ:=[(1,1),(100,100),(206,206),(301,301)]) rfl ?_ ?_⟩
      ·simp [Qac,lkp,ren1,ren0,Qao,Qan]
      ·simp only [hX];exact⟨⟨rfl,rfl,rfl,rfl,rfl,.inr ⟨rfl,_,_,rfl,rfl,rfl,rfl⟩⟩,⟨rfl,rfl,rfl,rfl,rfl,.inr ⟨rfl,_,_,rfl,rfl,rfl,rfl⟩⟩,⟨rfl,rfl,rfl,rfl,rfl,.inr ⟨rfl,_,_,rfl,rfl,rfl,rfl⟩⟩,⟨rfl,rfl,rfl,rfl,rfl,.inr ⟨rfl,_,_,rfl,rfl,rfl,rfl⟩⟩,trivial⟩
     ·have hB':=ltF hB;obtain rfl:k=c.length:=by omega
      have gg:=Qqv (Qaw bGi (by decide)) (Qaw bPi (by decide));rw [Int.natAbs_natCast,←hGs]at gg;rw [hP]at gg;generalize hX:sm (plcT c a d) c.length=X at*;repeat (first|simp -implicitDefEqProofs only [go_sem,seval,wPV,hB',sel,at3]|(with_reducible refine Qaa gg ?_ ?_ ?_);rfl;rfl|(with_reducible refine And.intro (Qad _ _ (by kernel_rfl)) ?_))
      refine⟨⟨1+1,hA⟩,by simp only;omega,Qaj (θ:=[(1,1),(100,100),(206,206),(301,301)]) rfl ?_ ?_⟩
      ·simp [Qac,lkp,ren1,ren0,Qao,Qan]
      ·simp only [at3,hP,hX];exact⟨⟨rfl,rfl,rfl,rfl,rfl,.inr ⟨rfl,_,_,rfl,rfl,rfl,rfl⟩⟩,⟨rfl,rfl,rfl,rfl,rfl,.inr ⟨rfl,_,_,rfl,rfl,rfl,rfl⟩⟩,⟨rfl,rfl,rfl,rfl,rfl,.inr ⟨rfl,_,_,rfl,rfl,rfl,rfl⟩⟩,⟨rfl,rfl,rfl,rfl,rfl,.inr ⟨rfl,_,_,rfl,rfl,rfl,rfl⟩⟩,trivial⟩
   ·skip
    obtain rfl:i=2:=hi0;have hm:s.ax.getD 2 []=s.ax[2]'hA:=rfl;have hP:plP s a d 2=sm (plcT (s.ax[2]'hA) a d) (s.ax[2]'hA).length:=rfl;have hcx:=hc (s.ax[2]) (List.getElem_mem hA);have hlx:=h6 (s.ax[2]) (List.getElem_mem hA);have bPi:=bP 2 (by omega);have bGi:=bG 2 (by omega);have hGs:=Qgt s a d 2;generalize s.ax[2]'hA=c at*;repeat simp -implicitDefEqProofs only [go_sem,seval,hx,List.length_map,at3]
    refine Qaq mixed (fun k:{k:Nat // k≤c.length}=>St.of [(1,.int .i64 a),(2,.int .i64 d),(6,.bp 1 8 0 0),(7,.bp 100 6 0 0),(8,.bp 206 2 0 0),(9,.bp 301 2 0 0),(22,.agg [Qan s.x,Qan s.y,Qan s.z]),(23,.int .i64 2),(10,.int .i64 2),(27,Qan c),(28,.int .i64 (c.length:Int)),(29,.int .i64 (k.1:Int))]
     [(1,{els:=[.agg [.bool false,.str ⟨#[]⟩,.bool false,.str ⟨#[]⟩,.bool false,.str ⟨#[]⟩,.bool false,.str ⟨#[]⟩]],esz:=8,ety:=53,fro:=0,live:=true,arr:=false}),(100,{els:=[w3PV (sel (plP s a d) 2 0 (sm (plcT c a d) k.1)) (sel (plP s a d) 2 1 (sm (plcT c a d) k.1)) (sel (plP s a d) 2 2 (sm (plcT c a d) k.1))],esz:=6,ety:=139,fro:=0,live:=true,arr:=false}),(206,{els:=[wPV O],esz:=2,ety:=51,fro:=0,live:=true,arr:=false}),(301,{els:=[wPV ((plG s a d 2:Nat):Int)],esz:=2,ety:=51,fro:=0,live:=true,arr:=false})]) (fun k=>c.length-k.1) ⟨0,Nat.zero_le _⟩ ?_ ?_
    ·refine Qaj (θ:=[(1,1),(100,100),(206,206),(301,301)]) rfl ?_ ?_
     ·simp [Qac,lkp,ren1,ren0,Qao,Qan]
     ·refine⟨⟨rfl,rfl,rfl,rfl,rfl,.inr ⟨rfl,_,_,rfl,rfl,rfl,rfl⟩⟩,⟨rfl,rfl,rfl,rfl,rfl,.inr ⟨rfl,_,_,rfl,rfl,?_,rfl⟩⟩,⟨rfl,rfl,rfl,rfl,rfl,.inr ⟨rfl,_,_,rfl,rfl,rfl,rfl⟩⟩,⟨rfl,rfl,rfl,rfl,rfl,.inr ⟨rfl,_,_,rfl,rfl,rfl,rfl⟩⟩,trivial⟩;simp only [sel,at3,sm];rfl
    ·rintro⟨k,hk⟩;by_cases hB:k<c.length
     ·have hB':=ltT hB;have n0:=nnT k;have hgk:=Qbz c k hB;have hwk2:=Qah (a:=k) (by omega);have w5:IntKind.i64.wrap (5-(k:Int))=((5-k:Nat):Int):=by rw [Qai (by omega) (by omega)];omega
      obtain⟨k1,k2⟩:=hcx _ (List.getElem_mem hB);have hcb:bd 64 c:=fun x hx=>Qay (hcx x hx);have x1:=hcb _ (List.getElem_mem hB);have o1:=Qfs c[k] k1 k2;have q1:=Qdq a k 64 ha.1 ha.2 (by omega) (by decide) ba;have q2:=Qdq d (5-k) 64 hd.1 hd.2 (by omega) (by decide) bd';obtain⟨t1,t2,t3,t4⟩:=Qjh hcb ba bd' k (by omega);have mm1:=Qhr (Qaw t1 (by decide)) (Qaw t2 (by decide)) (Qaw t3 (by decide));have eT:plcT c a d k=c[k]*(a^k*d^(5-k)):=by unfold plcT;rw [Qby hB]
      rw [eT]at t4;have mm2:=Qhr (Qaw x1 (by decide)) (Qaw t3 (by decide)) (Qaw t4 (by decide));rw [←eT]at mm2 t4;have y1:=Qeg hcb ba bd' k (by omega);have y2:=Qeg hcb ba bd' (k+1) (by omega);have es:sm (plcT c a d) (k+1)=sm (plcT c a d) k+plcT c a d k:=rfl;rw [es]at y2;have a1:=Qhq (Qaw y1 (by decide)) (Qaw t4 (by decide)) (Qaw y2 (by decide));rw [←es]at a1;clear y1 y2 t1 t2 t3 t4 es eT hP;generalize hX:sm (plcT c a d) (k+1)=X at*;generalize sm (plcT c a d) k=Y at*;generalize plcT c a d k=T at*;generalize a^k*d^(5-k)=U at*;generalize a^k=U1 at*;generalize d^(5-k)=U2 at*;repeat (first|simp -implicitDefEqProofs only [go_sem,seval,wPV,hB',n0,hgk,hwk2,w5,sel,at3,Int.toNat_natCast]|(with_reducible refine Qaa o1 ?_ ?_ ?_);rfl;rfl|(with_reducible refine Qaa q1 ?_ ?_ ?_);rfl;rfl|(with_reducible refine Qaa q2 ?_ ?_ ?_);rfl;rfl|(with_reducible refine Qaa mm1 ?_ ?_ ?_);rfl;rfl|(with_reducible refine Qaa mm2 ?_ ?_ ?_);rfl;rfl|(with_reducible refine Qaa a1 ?_ ?_ ?_);rfl;rfl|(with_reducible refine And.intro (Qad _ _ (by kernel_rfl)) ?_))
      refine⟨⟨k+1,hB⟩,by simp only;omega,Qaj (θ:=[(1,1),(100,100),(206,206),(301,301)]) rfl ?_ ?_⟩
      ·simp [Qac,lkp,ren1,ren0,Qao,Qan]
      ·simp only [hX];exact⟨⟨rfl,rfl,rfl,rfl,rfl,.inr ⟨rfl,_,_,rfl,rfl,rfl,rfl⟩⟩,⟨rfl,rfl,rfl,rfl,rfl,.inr ⟨rfl,_,_,rfl,rfl,rfl,rfl⟩⟩,⟨rfl,rfl,rfl,rfl,rfl,.inr ⟨rfl,_,_,rfl,rfl,rfl,rfl⟩⟩,⟨rfl,rfl,rfl,rfl,rfl,.inr ⟨rfl,_,_,rfl,rfl,rfl,rfl⟩⟩,trivial⟩
     ·have hB':=ltF hB;obtain rfl:k=c.length:=by omega
      have gg:=Qqv (Qaw bGi (by decide)) (Qaw bPi (by decide));rw [Int.natAbs_natCast,←hGs]at gg;rw [hP]at gg;generalize hX:sm (plcT c a d) c.length=X at*;repeat (first|simp -implicitDefEqProofs only [go_sem,seval,wPV,hB',sel,at3]|(with_reducible refine Qaa gg ?_ ?_ ?_);rfl;rfl|(with_reducible refine And.intro (Qad _ _ (by kernel_rfl)) ?_))
      refine⟨⟨2+1,hA⟩,by simp only;omega,Qaj (θ:=[(1,1),(100,100),(206,206),(301,301)]) rfl ?_ ?_⟩
      ·simp [Qac,lkp,ren1,ren0,Qao,Qan]
      ·simp only [at3,hP,hX];exact⟨⟨rfl,rfl,rfl,rfl,rfl,.inr ⟨rfl,_,_,rfl,rfl,rfl,rfl⟩⟩,⟨rfl,rfl,rfl,rfl,rfl,.inr ⟨rfl,_,_,rfl,rfl,rfl,rfl⟩⟩,⟨rfl,rfl,rfl,rfl,rfl,.inr ⟨rfl,_,_,rfl,rfl,rfl,rfl⟩⟩,⟨rfl,rfl,rfl,rfl,rfl,.inr ⟨rfl,_,_,rfl,rfl,rfl,rfl⟩⟩,trivial⟩
  ·have hA':((i:Int)<3)=False:=eq_false (by omega);obtain rfl:i=3:=by omega
   have G0:=Qw5 ho hd1 3 (s:=s) (d:=d) (a:=a);have bG3:=Qq0 (bG 3 (by decide)) (by decide);have r0:=Qj1 (bP 0 (by decide)) (by decide) bG3 (by omega);have r1:=Qj1 (bP 1 (by decide)) (by decide) bG3 (by omega);have r2:=Qj1 (bP 2 (by decide)) (by decide) bG3 (by omega);have r3:=Qj1 bod (by decide) bG3 (by omega);unfold plV;rw [hO];have z0:at3 (plP s a d) 3 0=plP s a d 0:=rfl;have z1:at3 (plP s a d) 3 1=plP s a d 1:=rfl;have z2:at3 (plP s a d) 3 2=plP s a d 2:=rfl;simp only [z0,z1,z2];clear z0 z1 z2;generalize plP s a d 0=X0 at*;generalize plP s a d 1=X1 at*;generalize plP s a d 2=X2 at*;generalize ((plG s a d 3:Nat):Int)=G at*;generalize X0/G=Y0 at*;generalize X1/G=Y1 at*;generalize X2/G=Y2 at*;generalize O/G=Y3 at*;repeat (first|simp -implicitDefEqProofs only [go_sem,seval,wPV,at3]|(with_reducible refine Qaa r0 ?_ ?_ ?_);rfl;rfl|(with_reducible refine Qaa r1 ?_ ?_ ?_);rfl;rfl|(with_reducible refine Qaa r2 ?_ ?_ ?_);rfl;rfl|(with_reducible refine Qaa r3 ?_ ?_ ?_);rfl;rfl|(with_reducible exact Qad _ _ (by kernel_rfl)))
theorem Qgx (n:Int) (k B:Nat) (hn:i64 n) (hk:k≤100) (hB:B≤600) (hb:n.natAbs<2^B):Qae Tryz.prog 67 [.int .i64 n,.int .i64 (k:Int)] (rI (n^k)):=by
 have h1:=Qdg 1 (by decide) (by decide);have h2:=Qdg n hn.1 hn.2;refine Qab (tb:=[]) 18 [.cell 4 59] [0,1,4,5,6,10] mixed Tryz.func67 rfl (by kernel_rfl) ?_;repeat (first|simp -implicitDefEqProofs only [go_sem,seval,rI,di]|(with_reducible refine Qaa h1 ?_ ?_ ?_);rfl;rfl)
 refine Qaq mixed (fun i:{i:Nat // i≤k}=>St.of [(0,.int .i64 n),(1,.int .i64 (k:Int)),(4,.bp 0 2 0 0),(5,.bp 101 2 0 0),(6,.int .i64 (i.1:Int))]
  [(0,{els:=[.agg [.bool false,.nilS]],esz:=2,ety:=59,fro:=0,live:=true,arr:=false}),(101,{els:=[rI (n^i.1)],esz:=2,ety:=59,fro:=0,live:=true,arr:=false})]) (fun i=>k-i.1) ⟨0,Nat.zero_le _⟩ ?_ ?_
 ·refine Qaj (θ:=[(0,0),(101,101)]) rfl ?_ ?_
  ·simp [Qac,lkp,ren1,ren0,Qao]
  ·refine⟨⟨rfl,rfl,rfl,rfl,rfl,.inr ⟨rfl,_,_,rfl,rfl,rfl,rfl⟩⟩,⟨rfl,rfl,rfl,rfl,rfl,.inr ⟨rfl,_,_,rfl,rfl,?_,rfl⟩⟩,trivial⟩;simp only [Int.pow_zero];rfl
 ·rintro⟨i,hi⟩;by_cases hA:i<k
  ·have hA':=ltT hA;have hwk:=Qah (a:=i) (by omega);have hp:=Qoe hb i;have hBk:B*i≤600*100:=Nat.mul_le_mul hB (by omega);have e:n^(i+1)=n^i*n:=Int.pow_succ n i;have hm:=Qfw (Qbk hp (by omega)) (Qbk hb (by omega));rw [←e]at hm;generalize hX:n^(i+1)=Y at*;generalize n^i=Z at*;repeat (first|simp -implicitDefEqProofs only [go_sem,seval,rI,di,hA',hwk]|(with_reducible refine Qaa h2 ?_ ?_ ?_);rfl;rfl|(with_reducible refine Qaa hm ?_ ?_ ?_);rfl;rfl|(with_reducible refine And.intro (Qad _ _ (by kernel_rfl)) ?_))
   refine⟨⟨i+1,hA⟩,by simp only;omega,Qaj (θ:=[(0,0),(101,101)]) rfl ?_ ?_⟩
   ·simp [Qac,lkp,ren1,ren0,Qao]
   ·simp only [hX];exact⟨⟨rfl,rfl,rfl,rfl,rfl,.inr ⟨rfl,_,_,rfl,rfl,rfl,rfl⟩⟩,⟨rfl,rfl,rfl,rfl,rfl,.inr ⟨rfl,_,_,rfl,rfl,rfl,rfl⟩⟩,trivial⟩
  ·have hA':=ltF hA;obtain rfl:i=k:=by omega
   generalize n^i=Z at*;repeat simp -implicitDefEqProofs only [go_sem,seval,rI,di,hA']
theorem ml1:(1≤maxLen)=True:=eq_true (by unfold maxLen;omega)
theorem ml2:(2≤maxLen)=True:=eq_true (by unfold maxLen;omega)
theorem ml3:(3≤maxLen)=True:=eq_true (by unfold maxLen;omega)
theorem ml4:(4≤maxLen)=True:=eq_true (by unfold maxLen;omega)
attribute [go_sem] ml1 ml2 ml3 ml4
def Qev (ps:List Int) (o:Int):PV:= .agg [.slc (ps.map rI),.bool (decide (o<0)),di (digs E9 o.natAbs)]
def lowG (P:Nat→Int) (O:Int) (i:Nat):Nat:=gcdL O.natAbs ((List.range i).map P)
theorem Quz (P:Nat→Int) (O:Int) (i:Nat):lowG P O (i+1)=Nat.gcd (lowG P O i) (P i).natAbs:=by
 unfold lowG;rw [List.range_succ,List.map_append];exact Qem _ _ _
theorem Zdy {P:Nat→Int} {O:Int} (h:0<O) (i:Nat):0<lowG P O i:=by
 induction i with
 |zero=>show 0<O.natAbs;omega
 |succ i ih=>rw [Quz];exact Nat.gcd_pos_of_pos_left _ ih
theorem Znm {P:Nat→Int} {O:Int} {B:Nat} (hO:O.natAbs<2^B) (hP: ∀i,i<3→(P i).natAbs<2^B) (i:Nat) (hi:i≤3):((lowG P O i:Nat):Int).natAbs<2^B:=by
 rw [Int.natAbs_natCast];refine Qes _ hO fun x hx=> ?_;simp only [List.mem_map,List.mem_range]at hx;obtain⟨m,hm,rfl⟩:=hx;exact hP m (by omega)
def Qmu (P:Nat→Int):List Int:=[P 0,P 1,P 2]
theorem Qu0 (P:Nat→Int) (i:Nat) (h:i<3):((Qmu P).map rI)[i]? =some (.agg [.bool (decide (P i<0)),di (digs E9 (P i).natAbs)]):=by
 rcases(show i=0∨i=1∨i=2 by omega)with rfl|rfl|rfl<;>rfl
def upB (ety:Nat) (P:Nat→Int):Nat→List (Nat×Box)
 |0=>[]
 |i+1=>[(8,{els:=((List.range (i+1)).map P).map rI,esz:=2,ety:=ety,fro:=0,live:=true,arr:=true})]
def upV:Nat→PV
 |0=> .nilS
 |i+1=> .bs 8 2 0 (i+1)
set_option maxHeartbeats 1000000 in
theorem Q6w (P:Nat→Int) (O:Int) (B:Nat) (hB:B≤6000) (hO:0<O) (bO:O.natAbs<2^B) (bP: ∀i,i<3→(P i).natAbs<2^B):
  Qae Tryz.prog 68 [Qev (Qmu P) O] (Qev (Qmu fun i=>P i/(lowG P O 3:Int)) (O/(lowG P O 3:Int))):=by
 have bG:=Znm bO bP;have hp:Qev (Qmu P) O= .agg [.slc ((Qmu P).map rI),.bool (decide (O<0)),.slc ((digs E9 O.natAbs).map fun d:Nat=>PV.int .i64 (d:Int))]:=rfl;rw [hp];refine Qab (tb:=[]) 51 [.cell 2 61] [0,1,2,3,4,5,6,7,12,23] mixed Tryz.func68 rfl (by kernel_rfl) ?_;repeat simp -implicitDefEqProofs only [go_sem,seval]
 refine Qaq mixed (fun i:{i:Nat // i≤3}=>St.of [(1,.bp 0 3 0 0),(2,.bp 1 3 0 0),(3,.bp 102 2 0 0),(4,.int .i64 (i.1:Int))]
  [(0,{els:=[Qev (Qmu P) O],esz:=3,ety:=61,fro:=0,live:=true,arr:=false}),(1,{els:=[.agg [.nilS,.bool false,.nilS]],esz:=3,ety:=61,fro:=0,live:=true,arr:=false}),(102,{els:=[rI ((lowG P O i.1:Nat):Int)],esz:=2,ety:=59,fro:=0,live:=true,arr:=false})]) (fun i=>3-i.1) ⟨0,Nat.zero_le _⟩ ?_ ?_
 ·refine Qaj (θ:=[(0,0),(1,1),(102,102)]) rfl ?_ ?_
  ·simp [Qac,lkp,ren1,ren0,Qao]
  ·refine⟨⟨rfl,rfl,rfl,rfl,rfl,.inr ⟨rfl,_,_,rfl,rfl,rfl,rfl⟩⟩,⟨rfl,rfl,rfl,rfl,rfl,.inr ⟨rfl,_,_,rfl,rfl,rfl,rfl⟩⟩,⟨rfl,rfl,rfl,rfl,rfl,.inr ⟨rfl,_,_,rfl,rfl,?_,rfl⟩⟩,trivial⟩;have:((lowG P O 0:Nat):Int)=O:=by show((O.natAbs:Nat):Int)=O;omega
   simp only [this];rfl
 ·rintro⟨i,hi⟩;have hi3:=bG i hi;by_cases hA:i<3
  ·have hA':((i:Int)<3)=True:=eq_true (by omega);have n0:=nnT i;have hgx:=Qu0 P i hA;have hwk:=Qah (a:=i) (by omega);have gg:=Qu4 (Qbk hi3 (by omega)) (Qbk (bP i hA) (by omega));rw [Int.natAbs_natCast,←Quz]at gg;generalize hX:lowG P O (i+1)=X at*;generalize lowG P O i=Y at*;generalize hZ:P i=Z at*;repeat (first|simp -implicitDefEqProofs only [go_sem,seval,Qev,rI,di,hA',n0,hgx,hwk,Int.toNat_natCast]|(with_reducible refine Qaa gg ?_ ?_ ?_);rfl;rfl|(with_reducible refine And.intro (Qad _ _ (by kernel_rfl)) ?_))
   refine⟨⟨i+1,hA⟩,by simp only;omega,Qaj (θ:=[(0,0),(1,1),(102,102)]) rfl ?_ ?_⟩
   ·simp [Qac,lkp,ren1,ren0,Qao]
   ·simp only [hX];exact⟨⟨rfl,rfl,rfl,rfl,rfl,.inr ⟨rfl,_,_,rfl,rfl,rfl,rfl⟩⟩,⟨rfl,rfl,rfl,rfl,rfl,.inr ⟨rfl,_,_,rfl,rfl,rfl,rfl⟩⟩,⟨rfl,rfl,rfl,rfl,rfl,.inr ⟨rfl,_,_,rfl,rfl,rfl,rfl⟩⟩,trivial⟩
  ·have hA':((i:Int)<3)=False:=eq_false (by omega);obtain rfl:i=3:=by omega
   have hG0:=Zdy (P:=P) hO 3;have hqO:=Q0d (Qbk bO (by omega)) (Qbk hi3 (by omega)) (by omega);have hqP:=fun i (h:i<3)=>Q0d (Qbk (bP i h) (by omega)) (Qbk hi3 (by omega)) (by omega);simp only;generalize ((lowG P O 3:Nat):Int)=G at*;repeat simp -implicitDefEqProofs only [go_sem,seval,Qev,rI,di]
   refine Qaq mixed (fun i:{i:Nat // i≤3}=>St.of [(1,.bp 0 3 0 0),(2,.bp 1 3 0 0),(3,.bp 102 2 0 0),(5,.bp 600 3 0 0),(6,.int .i64 (i.1:Int))]
    ((0,{els:=[Qev (Qmu P) O],esz:=3,ety:=61,fro:=0,live:=true,arr:=false})::(1,{els:=[.agg [.nilS,.bool false,.nilS]],esz:=3,ety:=61,fro:=0,live:=true,arr:=false})::(102,{els:=[rI G],esz:=2,ety:=59,fro:=0,live:=true,arr:=false})::(600,{els:=[.agg [upV i.1,.bool false,.nilS]],esz:=3,ety:=61,fro:=0,live:=true,arr:=false})::upB 59 (fun i=>P i/G) i.1)) (fun i=>3-i.1) ⟨0,Nat.zero_le _⟩ ?_ ?_
   ·refine Qaj (θ:=[(0,0),(1,1),(102,102),(600,600)]) rfl ?_ ?_
    ·simp [Qac,lkp,ren1,ren0,Qao]
    ·exact⟨⟨rfl,rfl,rfl,rfl,rfl,.inr ⟨rfl,_,_,rfl,rfl,rfl,rfl⟩⟩,⟨rfl,rfl,rfl,rfl,rfl,.inr ⟨rfl,_,_,rfl,rfl,rfl,rfl⟩⟩,⟨rfl,rfl,rfl,rfl,rfl,.inr ⟨rfl,_,_,rfl,rfl,rfl,rfl⟩⟩,⟨rfl,rfl,rfl,rfl,rfl,.inr ⟨rfl,_,_,rfl,rfl,rfl,rfl⟩⟩,trivial⟩
   ·rintro⟨i,hi⟩;by_cases hA:i<3
    ·have hA':((i:Int)<3)=True:=eq_true (by omega);have n0:=nnT i;have hgx:=Qu0 P i hA;have hwk:=Qah (a:=i) (by omega);have qq:=hqP i hA;rcases(show i=0∨i=1∨i=2 by omega)with hi0|hi0|hi0
     ·skip
      obtain rfl:i=0:=hi0;generalize P 0%G=R at*;repeat (first|simp -implicitDefEqProofs only [go_sem,seval,Qev,rI,di,hgx,upV,upB]|(with_reducible refine Qaa qq ?_ ?_ ?_);rfl;rfl|(with_reducible refine And.intro (Qad _ _ (by kernel_rfl)) ?_))
      refine⟨⟨0+1,hA⟩,by simp only;omega,Qaj (θ:=[(0,0),(1,1),(102,102),(600,600),(8,1104)]) rfl ?_ ?_⟩
      ·simp [Qac,lkp,ren1,ren0,Qao]
      ·exact⟨⟨rfl,rfl,rfl,rfl,rfl,.inr ⟨rfl,_,_,rfl,rfl,rfl,rfl⟩⟩,⟨rfl,rfl,rfl,rfl,rfl,.inr ⟨rfl,_,_,rfl,rfl,rfl,rfl⟩⟩,⟨rfl,rfl,rfl,rfl,rfl,.inr ⟨rfl,_,_,rfl,rfl,rfl,rfl⟩⟩,⟨rfl,rfl,rfl,rfl,rfl,.inr ⟨rfl,_,_,rfl,rfl,rfl,rfl⟩⟩,⟨rfl,rfl,rfl,rfl,rfl,.inl ⟨rfl,rfl⟩⟩,trivial⟩
     ·skip
      obtain rfl:i=1:=hi0;generalize P 1%G=R at*;repeat (first|simp -implicitDefEqProofs only [go_sem,seval,Qev,rI,di,hgx,upV,upB]|(with_reducible refine Qaa qq ?_ ?_ ?_);rfl;rfl|(with_reducible refine And.intro (Qad _ _ (by kernel_rfl)) ?_))
      refine⟨⟨1+1,hA⟩,by simp only;omega,Qaj (θ:=[(0,0),(1,1),(102,102),(600,600),(8,1104)]) rfl ?_ ?_⟩
      ·simp [Qac,lkp,ren1,ren0,Qao]
      ·exact⟨⟨rfl,rfl,rfl,rfl,rfl,.inr ⟨rfl,_,_,rfl,rfl,rfl,rfl⟩⟩,⟨rfl,rfl,rfl,rfl,rfl,.inr ⟨rfl,_,_,rfl,rfl,rfl,rfl⟩⟩,⟨rfl,rfl,rfl,rfl,rfl,.inr ⟨rfl,_,_,rfl,rfl,rfl,rfl⟩⟩,⟨rfl,rfl,rfl,rfl,rfl,.inr ⟨rfl,_,_,rfl,rfl,rfl,rfl⟩⟩,⟨rfl,rfl,rfl,rfl,rfl,.inl ⟨rfl,rfl⟩⟩,trivial⟩
     ·skip
      obtain rfl:i=2:=hi0;generalize P 2%G=R at*;repeat (first|simp -implicitDefEqProofs only [go_sem,seval,Qev,rI,di,hgx,upV,upB]|(with_reducible refine Qaa qq ?_ ?_ ?_);rfl;rfl|(with_reducible refine And.intro (Qad _ _ (by kernel_rfl)) ?_))
      refine⟨⟨2+1,hA⟩,by simp only;omega,Qaj (θ:=[(0,0),(1,1),(102,102),(600,600),(8,1104)]) rfl ?_ ?_⟩
      ·simp [Qac,lkp,ren1,ren0,Qao]
      ·exact⟨⟨rfl,rfl,rfl,rfl,rfl,.inr ⟨rfl,_,_,rfl,rfl,rfl,rfl⟩⟩,⟨rfl,rfl,rfl,rfl,rfl,.inr ⟨rfl,_,_,rfl,rfl,rfl,rfl⟩⟩,⟨rfl,rfl,rfl,rfl,rfl,.inr ⟨rfl,_,_,rfl,rfl,rfl,rfl⟩⟩,⟨rfl,rfl,rfl,rfl,rfl,.inr ⟨rfl,_,_,rfl,rfl,rfl,rfl⟩⟩,⟨rfl,rfl,rfl,rfl,rfl,.inl ⟨rfl,rfl⟩⟩,trivial⟩
    ·have hA':((i:Int)<3)=False:=eq_false (by omega);obtain rfl:i=3:=by omega
     simp only [upV,upB];repeat (first|simp -implicitDefEqProofs only [go_sem,seval,Qev,rI,di]|(with_reducible refine Qaa hqO ?_ ?_ ?_);rfl;rfl)
     rfl
set_option maxHeartbeats 1000000 in
theorem Qsv (s:Sg) (a d:Int) (hs:okSg s) (h6: ∀c∈s.ax,c.length≤6) (ho:1≤s.o) (ha:i64 a) (hd:i64 d) (hd1:1≤d):
  Qae Tryz.prog 35 [sgPV s,.int .i64 a,.int .i64 d] (Qev (Qmu fun i=>plP s a d i/(plG s a d 3:Int)) (s.o*d^5/(plG s a d 3:Int))):=by
 obtain⟨⟨a1,a2⟩,⟨a3,a4⟩,⟨a5,a6⟩,hc,hl⟩:=hs;have ba:=Qay ha;have bd':=Qay hd;have bo:=Qay ⟨a5,a6⟩;have w1:=Qdg s.o a5 a6;have p5:=Qgx d 5 64 hd (by decide) (by decide) bd';have bd5:=Qoe bd' 5;have bod:=Zc1 (s:=s) bo bd';have m1:=Qfw (Qbk bo (by decide)) (Qbk bd5 (by decide));have hax:=Qxg s;have hcB: ∀c∈s.ax,bd 64 c:=fun c hx x hx2=>Qay (hc c hx x hx2);have bP:=Qzm hcB h6 ba bd';have hO0:0<s.o*d^5:=Int.mul_pos (by omega) (Int.pow_pos (by omega));have hlow:=Q6w (plP s a d) (s.o*d^5) (64+(64*5+1+(64*5+1))+7) (by decide) hO0 (Qd4 bod (by decide)) bP;have hlg:lowG (plP s a d) (s.o*d^5) 3=plG s a d 3:=rfl;rw [hlg]at hlow;clear hlg;have hrp:Qev (Qmu (plP s a d)) (s.o*d^5)= .agg [.slc [rI (plP s a d 0),rI (plP s a d 1),rI (plP s a d 2)],.bool (decide (s.o*d^5<0)),.slc ((digs E9 (s.o*d^5).natAbs).map fun d:Nat=>PV.int .i64 (d:Int))]:=rfl;rw [hrp]at hlow;clear hrp;generalize s.o*d^5=O at*;have hsg:sgPV s= .agg [.int .i64 s.f,.int .i64 s.t,.int .i64 s.o,.slc (s.x.map (PV.int .i64)),.slc (s.y.map (PV.int .i64)),.slc (s.z.map (PV.int .i64))]:=rfl;rw [hsg]at hax ⊢;generalize (Qmu fun i=>plP s a d i/(plG s a d 3:Int))=RL at*;generalize (O/(plG s a d 3:Int))=RO at*;refine Qab (tb:=[]) 62 [.cell 6 61] [0,1,2,3,6,7,8,9,10,11,15,25] mixed Tryz.func35 rfl (by kernel_rfl) ?_;repeat (first|simp -implicitDefEqProofs only [go_sem,seval]|(with_reducible refine Qaa hax ?_ ?_ ?_);rfl;rfl)
 refine Qaq mixed (fun i:{i:Nat // i≤3}=>St.of [(1,.int .i64 a),(2,.int .i64 d),(3,.bp 0 6 0 0),(6,.bp 1 3 0 0),(7,.bp 100 3 0 0),(8,.slc [Qan s.x,Qan s.y,Qan s.z]),(9,.int .i64 (i.1:Int))]
  ((0,{els:=[sgPV s],esz:=6,ety:=28,fro:=0,live:=true,arr:=false})::(1,{els:=[.agg [.nilS,.bool false,.nilS]],esz:=3,ety:=61,fro:=0,live:=true,arr:=false})::(100,{els:=[.agg [upV i.1,.bool false,.nilS]],esz:=3,ety:=61,fro:=0,live:=true,arr:=false})::upB 59 (plP s a d) i.1)) (fun i=>3-i.1) ⟨0,Nat.zero_le _⟩ ?_ ?_
 ·refine Qaj (θ:=[(0,0),(1,1),(100,100)]) rfl ?_ ?_
  ·simp [Qac,lkp,ren1,ren0,Qao,Qan]
  ·exact⟨⟨rfl,rfl,rfl,rfl,rfl,.inr ⟨rfl,_,_,rfl,rfl,rfl,rfl⟩⟩,⟨rfl,rfl,rfl,rfl,rfl,.inr ⟨rfl,_,_,rfl,rfl,rfl,rfl⟩⟩,⟨rfl,rfl,rfl,rfl,rfl,.inr ⟨rfl,_,_,rfl,rfl,rfl,rfl⟩⟩,trivial⟩
 ·rintro⟨i,hi⟩;by_cases hA:i<3
  ·have hA':((i:Int)<3)=True:=eq_true (by omega);have h0x:=nnT i;have hx:=Q6l s i hA;rcases(show i=0∨i=1∨i=2 by omega)with hi0|hi0|hi0
   ·skip
    obtain rfl:i=0:=hi0;have hP:plP s a d 0=sm (plcT (s.ax[0]'hA) a d) (s.ax[0]'hA).length:=rfl;have hcx:=hc (s.ax[0]) (List.getElem_mem hA);have hlx:=h6 (s.ax[0]) (List.getElem_mem hA);generalize s.ax[0]'hA=c at*;repeat simp -implicitDefEqProofs only [go_sem,seval,upV,upB]
    refine Qaq mixed (fun k:{k:Nat // k≤c.length}=>St.of [(1,.int .i64 a),(2,.int .i64 d),(3,.bp 0 6 0 0),(6,.bp 1 3 0 0),(7,.bp 100 3 0 0),(8,.slc [Qan s.x,Qan s.y,Qan s.z]),(9,.int .i64 0),(10,.bp 601 2 0 0),(11,.int .i64 (k.1:Int))]
     ((0,{els:=[sgPV s],esz:=6,ety:=28,fro:=0,live:=true,arr:=false})::(1,{els:=[.agg [.nilS,.bool false,.nilS]],esz:=3,ety:=61,fro:=0,live:=true,arr:=false})::(601,{els:=[rI (sm (plcT c a d) k.1)],esz:=2,ety:=59,fro:=0,live:=true,arr:=false})::(100,{els:=[.agg [upV 0,.bool false,.nilS]],esz:=3,ety:=61,fro:=0,live:=true,arr:=false})::upB 59 (plP s a d) 0)) (fun k=>c.length-k.1) ⟨0,Nat.zero_le _⟩ ?_ ?_
    ·refine Le.trans (Qqb 601 rfl) (Qaj (θ:=[(0,0),(1,1),(601,601),(100,100)]) rfl ?_ ?_)
     ·simp [Qac,lkp,ren1,ren0,Qao,Qan]
     ·simp only [upB,upV];refine⟨⟨rfl,rfl,rfl,rfl,rfl,.inr ⟨rfl,_,_,rfl,rfl,rfl,rfl⟩⟩,⟨rfl,rfl,rfl,rfl,rfl,.inr ⟨rfl,_,_,rfl,rfl,rfl,rfl⟩⟩,⟨rfl,rfl,rfl,rfl,rfl,.inr ⟨rfl,_,_,rfl,rfl,?_,rfl⟩⟩,⟨rfl,rfl,rfl,rfl,rfl,.inr ⟨rfl,_,_,rfl,rfl,rfl,rfl⟩⟩,?_⟩
      ·simp only [sm,rI_z];rfl
      ·exact trivial
    ·rintro⟨k,hk⟩;by_cases hB:k<c.length
     ·have hB':=ltT hB;have n0:=nnT k;have hgk:=Qbz c k hB;have hwk2:=Qah (a:=k) (by omega);have w5:IntKind.i64.wrap (5-(k:Int))=((5-k:Nat):Int):=by rw [Qai (by omega) (by omega)];omega
      obtain⟨k1,k2⟩:=hcx _ (List.getElem_mem hB);have hcb:bd 64 c:=fun x hx=>Qay (hcx x hx);have x1:=hcb _ (List.getElem_mem hB);have o1:=Qdg c[k] k1 k2;have q1:=Qgx a k 64 ha (by omega) (by decide) ba;have q2:=Qgx d (5-k) 64 hd (by omega) (by decide) bd';obtain⟨t1,t2,t3,t4⟩:=Qjh hcb ba bd' k (by omega);have mm1:=Qfw (Qbk t1 (by decide)) (Qbk t2 (by decide));have eT:plcT c a d k=c[k]*(a^k*d^(5-k)):=by unfold plcT;rw [Qby hB]
      have mm2:=Qfw (Qbk x1 (by decide)) (Qbk t3 (by decide));rw [←eT]at mm2;have y1:=Qeg hcb ba bd' k (by omega);have es:sm (plcT c a d) (k+1)=sm (plcT c a d) k+plcT c a d k:=rfl;have a1:=Qq5 (Qbk y1 (by decide)) (Qbk t4 (by decide));rw [←es]at a1;clear y1 t1 t2 t3 t4 es eT hP;generalize hX:sm (plcT c a d) (k+1)=X at*;generalize sm (plcT c a d) k=Y at*;generalize plcT c a d k=T at*;generalize a^k*d^(5-k)=U at*;generalize a^k=U1 at*;generalize d^(5-k)=U2 at*;repeat (first|simp -implicitDefEqProofs only [go_sem,seval,rI,di,hx,hB',n0,hgk,hwk2,w5,upV,upB,Int.toNat_natCast,List.length_map]|(with_reducible refine Qaa o1 ?_ ?_ ?_);rfl;rfl|(with_reducible refine Qaa q1 ?_ ?_ ?_);rfl;rfl|(with_reducible refine Qaa q2 ?_ ?_ ?_);rfl;rfl|(with_reducible refine Qaa mm1 ?_ ?_ ?_);rfl;rfl|(with_reducible refine Qaa mm2 ?_ ?_ ?_);rfl;rfl|(with_reducible refine Qaa a1 ?_ ?_ ?_);rfl;rfl|(with_reducible refine And.intro (Qad _ _ (by kernel_rfl)) ?_))
      refine⟨⟨k+1,hB⟩,by simp only;omega,Qaj (θ:=[(0,0),(1,1),(601,601),(100,100)]) rfl ?_ ?_⟩
      ·simp [Qac,lkp,ren1,ren0,Qao,Qan]
      ·simp only [hX];try simp only [upB,upV]
       refine⟨⟨rfl,rfl,rfl,rfl,rfl,.inr ⟨rfl,_,_,rfl,rfl,rfl,rfl⟩⟩,⟨rfl,rfl,rfl,rfl,rfl,.inr ⟨rfl,_,_,rfl,rfl,rfl,rfl⟩⟩,⟨rfl,rfl,rfl,rfl,rfl,.inr ⟨rfl,_,_,rfl,rfl,rfl,rfl⟩⟩,⟨rfl,rfl,rfl,rfl,rfl,.inr ⟨rfl,_,_,rfl,rfl,rfl,rfl⟩⟩,?_⟩;exact trivial
     ·have hB':=ltF hB;obtain rfl:k=c.length:=by omega
      rw [←hP];generalize hX:plP s a d 0=X at*;repeat simp -implicitDefEqProofs only [go_sem,seval,rI,di,hx,hB',upV,upB,List.length_map]
      refine⟨⟨0+1,hA⟩,by simp only;omega,Qaj (θ:=[(0,0),(1,1),(100,100),(8,1104)]) rfl ?_ ?_⟩
      ·simp [Qac,lkp,ren1,ren0,Qao,Qan]
      ·subst hX;exact⟨⟨rfl,rfl,rfl,rfl,rfl,.inr ⟨rfl,_,_,rfl,rfl,rfl,rfl⟩⟩,⟨rfl,rfl,rfl,rfl,rfl,.inr ⟨rfl,_,_,rfl,rfl,rfl,rfl⟩⟩,⟨rfl,rfl,rfl,rfl,rfl,.inr ⟨rfl,_,_,rfl,rfl,rfl,rfl⟩⟩,⟨rfl,rfl,rfl,rfl,rfl,.inl ⟨rfl,rfl⟩⟩,trivial⟩
   ·skip
    obtain rfl:i=1:=hi0;have hP:plP s a d 1=sm (plcT (s.ax[1]'hA) a d) (s.ax[1]'hA).length:=rfl;have hcx:=hc (s.ax[1]) (List.getElem_mem hA);have hlx:=h6 (s.ax[1]) (List.getElem_mem hA);generalize s.ax[1]'hA=c at*;repeat simp -implicitDefEqProofs only [go_sem,seval,upV,upB]
    refine Qaq mixed (fun k:{k:Nat // k≤c.length}=>St.of [(1,.int .i64 a),(2,.int .i64 d),(3,.bp 0 6 0 0),(6,.bp 1 3 0 0),(7,.bp 100 3 0 0),(8,.slc [Qan s.x,Qan s.y,Qan s.z]),(9,.int .i64 1),(10,.bp 601 2 0 0),(11,.int .i64 (k.1:Int))]
     ((0,{els:=[sgPV s],esz:=6,ety:=28,fro:=0,live:=true,arr:=false})::(1,{els:=[.agg [.nilS,.bool false,.nilS]],esz:=3,ety:=61,fro:=0,live:=true,arr:=false})::(601,{els:=[rI (sm (plcT c a d) k.1)],esz:=2,ety:=59,fro:=0,live:=true,arr:=false})::(100,{els:=[.agg [upV 1,.bool false,.nilS]],esz:=3,ety:=61,fro:=0,live:=true,arr:=false})::upB 59 (plP s a d) 1)) (fun k=>c.length-k.1) ⟨0,Nat.zero_le _⟩ ?_ ?_
    ·refine Le.trans (Qqb 601 rfl) (Qaj (θ:=[(0,0),(1,1),(601,601),(100,100),(8,8)]) rfl ?_ ?_)
     ·simp [Qac,lkp,ren1,ren0,Qao,Qan]
     ·simp only [upB,upV];refine⟨⟨rfl,rfl,rfl,rfl,rfl,.inr ⟨rfl,_,_,rfl,rfl,rfl,rfl⟩⟩,⟨rfl,rfl,rfl,rfl,rfl,.inr ⟨rfl,_,_,rfl,rfl,rfl,rfl⟩⟩,⟨rfl,rfl,rfl,rfl,rfl,.inr ⟨rfl,_,_,rfl,rfl,?_,rfl⟩⟩,⟨rfl,rfl,rfl,rfl,rfl,.inr ⟨rfl,_,_,rfl,rfl,rfl,rfl⟩⟩,?_⟩
      ·simp only [sm,rI_z];rfl
      ·exact⟨⟨rfl,rfl,rfl,rfl,rfl,.inl ⟨rfl,rfl⟩⟩,trivial⟩
    ·rintro⟨k,hk⟩;by_cases hB:k<c.length
     ·have hB':=ltT hB;have n0:=nnT k;have hgk:=Qbz c k hB;have hwk2:=Qah (a:=k) (by omega);have w5:IntKind.i64.wrap (5-(k:Int))=((5-k:Nat):Int):=by rw [Qai (by omega) (by omega)];omega
      obtain⟨k1,k2⟩:=hcx _ (List.getElem_mem hB);have hcb:bd 64 c:=fun x hx=>Qay (hcx x hx);have x1:=hcb _ (List.getElem_mem hB);have o1:=Qdg c[k] k1 k2;have q1:=Qgx a k 64 ha (by omega) (by decide) ba;have q2:=Qgx d (5-k) 64 hd (by omega) (by decide) bd';obtain⟨t1,t2,t3,t4⟩:=Qjh hcb ba bd' k (by omega);have mm1:=Qfw (Qbk t1 (by decide)) (Qbk t2 (by decide));have eT:plcT c a d k=c[k]*(a^k*d^(5-k)):=by unfold plcT;rw [Qby hB]
      have mm2:=Qfw (Qbk x1 (by decide)) (Qbk t3 (by decide));rw [←eT]at mm2;have y1:=Qeg hcb ba bd' k (by omega);have es:sm (plcT c a d) (k+1)=sm (plcT c a d) k+plcT c a d k:=rfl;have a1:=Qq5 (Qbk y1 (by decide)) (Qbk t4 (by decide));rw [←es]at a1;clear y1 t1 t2 t3 t4 es eT hP;generalize hX:sm (plcT c a d) (k+1)=X at*;generalize sm (plcT c a d) k=Y at*;generalize plcT c a d k=T at*;generalize a^k*d^(5-k)=U at*;generalize a^k=U1 at*;generalize d^(5-k)=U2 at*;repeat (first|simp -implicitDefEqProofs only [go_sem,seval,rI,di,hx,hB',n0,hgk,hwk2,w5,upV,upB,Int.toNat_natCast,List.length_map]|(with_reducible refine Qaa o1 ?_ ?_ ?_);rfl;rfl|(with_reducible refine Qaa q1 ?_ ?_ ?_);rfl;rfl|(with_reducible refine Qaa q2 ?_ ?_ ?_);rfl;rfl|(with_reducible refine Qaa mm1 ?_ ?_ ?_);rfl;rfl|(with_reducible refine Qaa mm2 ?_ ?_ ?_);rfl;rfl|(with_reducible refine Qaa a1 ?_ ?_ ?_);rfl;rfl|(with_reducible refine And.intro (Qad _ _ (by kernel_rfl)) ?_))
      refine⟨⟨k+1,hB⟩,by simp only;omega,Qaj (θ:=[(0,0),(1,1),(601,601),(100,100),(8,8)]) rfl ?_ ?_⟩
      ·simp [Qac,lkp,ren1,ren0,Qao,Qan]
      ·simp only [hX];try simp only [upB,upV]
       refine⟨⟨rfl,rfl,rfl,rfl,rfl,.inr ⟨rfl,_,_,rfl,rfl,rfl,rfl⟩⟩,⟨rfl,rfl,rfl,rfl,rfl,.inr ⟨rfl,_,_,rfl,rfl,rfl,rfl⟩⟩,⟨rfl,rfl,rfl,rfl,rfl,.inr ⟨rfl,_,_,rfl,rfl,rfl,rfl⟩⟩,⟨rfl,rfl,rfl,rfl,rfl,.inr ⟨rfl,_,_,rfl,rfl,rfl,rfl⟩⟩,?_⟩;exact⟨⟨rfl,rfl,rfl,rfl,rfl,.inl ⟨rfl,rfl⟩⟩,trivial⟩
     ·have hB':=ltF hB;obtain rfl:k=c.length:=by omega
      rw [←hP];generalize hX:plP s a d 1=X at*;repeat simp -implicitDefEqProofs only [go_sem,seval,rI,di,hx,hB',upV,upB,List.length_map]
      refine⟨⟨1+1,hA⟩,by simp only;omega,Qaj (θ:=[(0,0),(1,1),(100,100),(8,1104)]) rfl ?_ ?_⟩
      ·simp [Qac,lkp,ren1,ren0,Qao,Qan]
      ·subst hX;exact⟨⟨rfl,rfl,rfl,rfl,rfl,.inr ⟨rfl,_,_,rfl,rfl,rfl,rfl⟩⟩,⟨rfl,rfl,rfl,rfl,rfl,.inr ⟨rfl,_,_,rfl,rfl,rfl,rfl⟩⟩,⟨rfl,rfl,rfl,rfl,rfl,.inr ⟨rfl,_,_,rfl,rfl,rfl,rfl⟩⟩,⟨rfl,rfl,rfl,rfl,rfl,.inl ⟨rfl,rfl⟩⟩,trivial⟩
   ·skip
    obtain rfl:i=2:=hi0;have hP:plP s a d 2=sm (plcT (s.ax[2]'hA) a d) (s.ax[2]'hA).length:=rfl;have hcx:=hc (s.ax[2]) (List.getElem_mem hA);have hlx:=h6 (s.ax[2]) (List.getElem_mem hA);generalize s.ax[2]'hA=c at*;repeat simp -implicitDefEqProofs only [go_sem,seval,upV,upB]
    refine Qaq mixed (fun k:{k:Nat // k≤c.length}=>St.of [(1,.int .i64 a),(2,.int .i64 d),(3,.bp 0 6 0 0),(6,.bp 1 3 0 0),(7,.bp 100 3 0 0),(8,.slc [Qan s.x,Qan s.y,Qan s.z]),(9,.int .i64 2),(10,.bp 601 2 0 0),(11,.int .i64 (k.1:Int))]
     ((0,{els:=[sgPV s],esz:=6,ety:=28,fro:=0,live:=true,arr:=false})::(1,{els:=[.agg [.nilS,.bool false,.nilS]],esz:=3,ety:=61,fro:=0,live:=true,arr:=false})::(601,{els:=[rI (sm (plcT c a d) k.1)],esz:=2,ety:=59,fro:=0,live:=true,arr:=false})::(100,{els:=[.agg [upV 2,.bool false,.nilS]],esz:=3,ety:=61,fro:=0,live:=true,arr:=false})::upB 59 (plP s a d) 2)) (fun k=>c.length-k.1) ⟨0,Nat.zero_le _⟩ ?_ ?_
    ·refine Le.trans (Qqb 601 rfl) (Qaj (θ:=[(0,0),(1,1),(601,601),(100,100),(8,8)]) rfl ?_ ?_)
     ·simp [Qac,lkp,ren1,ren0,Qao,Qan]
     ·simp only [upB,upV];refine⟨⟨rfl,rfl,rfl,rfl,rfl,.inr ⟨rfl,_,_,rfl,rfl,rfl,rfl⟩⟩,⟨rfl,rfl,rfl,rfl,rfl,.inr ⟨rfl,_,_,rfl,rfl,rfl,rfl⟩⟩,⟨rfl,rfl,rfl,rfl,rfl,.inr ⟨rfl,_,_,rfl,rfl,?_,rfl⟩⟩,⟨rfl,rfl,rfl,rfl,rfl,.inr ⟨rfl,_,_,rfl,rfl,rfl,rfl⟩⟩,?_⟩
      ·simp only [sm,rI_z];rfl
      ·exact⟨⟨rfl,rfl,rfl,rfl,rfl,.inl ⟨rfl,rfl⟩⟩,trivial⟩
    ·rintro⟨k,hk⟩;by_cases hB:k<c.length
     ·have hB':=ltT hB;have n0:=nnT k;have hgk:=Qbz c k hB;have hwk2:=Qah (a:=k) (by omega);have w5:IntKind.i64.wrap (5-(k:Int))=((5-k:Nat):Int):=by rw [Qai (by omega) (by omega)];omega
      obtain⟨k1,k2⟩:=hcx _ (List.getElem_mem hB);have hcb:bd 64 c:=fun x hx=>Qay (hcx x hx);have x1:=hcb _ (List.getElem_mem hB);have o1:=Qdg c[k] k1 k2;have q1:=Qgx a k 64 ha (by omega) (by decide) ba;have q2:=Qgx d (5-k) 64 hd (by omega) (by decide) bd';obtain⟨t1,t2,t3,t4⟩:=Qjh hcb ba bd' k (by omega);have mm1:=Qfw (Qbk t1 (by decide)) (Qbk t2 (by decide));have eT:plcT c a d k=c[k]*(a^k*d^(5-k)):=by unfold plcT;rw [Qby hB]
      have mm2:=Qfw (Qbk x1 (by decide)) (Qbk t3 (by decide));rw [←eT]at mm2;have y1:=Qeg hcb ba bd' k (by omega);have es:sm (plcT c a d) (k+1)=sm (plcT c a d) k+plcT c a d k:=rfl;have a1:=Qq5 (Qbk y1 (by decide)) (Qbk t4 (by decide));rw [←es]at a1;clear y1 t1 t2 t3 t4 es eT hP;generalize hX:sm (plcT c a d) (k+1)=X at*;generalize sm (plcT c a d) k=Y at*;generalize plcT c a d k=T at*;generalize a^k*d^(5-k)=U at*;generalize a^k=U1 at*;generalize d^(5-k)=U2 at*;repeat (first|simp -implicitDefEqProofs only [go_sem,seval,rI,di,hx,hB',n0,hgk,hwk2,w5,upV,upB,Int.toNat_natCast,List.length_map]|(with_reducible refine Qaa o1 ?_ ?_ ?_);rfl;rfl|(with_reducible refine Qaa q1 ?_ ?_ ?_);rfl;rfl|(with_reducible refine Qaa q2 ?_ ?_ ?_);rfl;rfl|(with_reducible refine Qaa mm1 ?_ ?_ ?_);rfl;rfl|(with_reducible refine Qaa mm2 ?_ ?_ ?_);rfl;rfl|(with_reducible refine Qaa a1 ?_ ?_ ?_);rfl;rfl|(with_reducible refine And.intro (Qad _ _ (by kernel_rfl)) ?_))
      refine⟨⟨k+1,hB⟩,by simp only;omega,Qaj (θ:=[(0,0),(1,1),(601,601),(100,100),(8,8)]) rfl ?_ ?_⟩
      ·simp [Qac,lkp,ren1,ren0,Qao,Qan]
      ·simp only [hX];try simp only [upB,upV]
       refine⟨⟨rfl,rfl,rfl,rfl,rfl,.inr ⟨rfl,_,_,rfl,rfl,rfl,rfl⟩⟩,⟨rfl,rfl,rfl,rfl,rfl,.inr ⟨rfl,_,_,rfl,rfl,rfl,rfl⟩⟩,⟨rfl,rfl,rfl,rfl,rfl,.inr ⟨rfl,_,_,rfl,rfl,rfl,rfl⟩⟩,⟨rfl,rfl,rfl,rfl,rfl,.inr ⟨rfl,_,_,rfl,rfl,rfl,rfl⟩⟩,?_⟩;exact⟨⟨rfl,rfl,rfl,rfl,rfl,.inl ⟨rfl,rfl⟩⟩,trivial⟩
     ·have hB':=ltF hB;obtain rfl:k=c.length:=by omega
      rw [←hP];generalize hX:plP s a d 2=X at*;repeat simp -implicitDefEqProofs only [go_sem,seval,rI,di,hx,hB',upV,upB,List.length_map]
      refine⟨⟨2+1,hA⟩,by simp only;omega,Qaj (θ:=[(0,0),(1,1),(100,100),(8,1104)]) rfl ?_ ?_⟩
      ·simp [Qac,lkp,ren1,ren0,Qao,Qan]
      ·subst hX;exact⟨⟨rfl,rfl,rfl,rfl,rfl,.inr ⟨rfl,_,_,rfl,rfl,rfl,rfl⟩⟩,⟨rfl,rfl,rfl,rfl,rfl,.inr ⟨rfl,_,_,rfl,rfl,rfl,rfl⟩⟩,⟨rfl,rfl,rfl,rfl,rfl,.inr ⟨rfl,_,_,rfl,rfl,rfl,rfl⟩⟩,⟨rfl,rfl,rfl,rfl,rfl,.inl ⟨rfl,rfl⟩⟩,trivial⟩
  ·have hA':((i:Int)<3)=False:=eq_false (by omega);obtain rfl:i=3:=by omega
   have e3:((List.range 3).map (plP s a d)).map rI=[rI (plP s a d 0),rI (plP s a d 1),rI (plP s a d 2)]:=rfl;simp only [upV,upB,e3];generalize plP s a d 0=X0 at*;generalize plP s a d 1=X1 at*;generalize plP s a d 2=X2 at*;repeat (first|simp -implicitDefEqProofs only [go_sem,seval,Qev,rI,di]|(with_reducible refine Qaa w1 ?_ ?_ ?_);rfl;rfl|(with_reducible refine Qaa p5 ?_ ?_ ?_);rfl;rfl|(with_reducible refine Qaa m1 ?_ ?_ ?_);rfl;rfl|(with_reducible refine Qaa hlow ?_ ?_ ?_);rfl;rfl)
end Go.Proofs.YtlghoaggenhheaaGreat

namespace Go.Dg
def plQ (s:Sg) (a d:Int) (i:Nat):Int:=plP s a d i/(plG s a d 3:Int)
def plO (s:Sg) (a d:Int):Int:=s.o*d^5/(plG s a d 3:Int)
def Que (s:Sg) (a d:Int) (s':Sg) (a' d':Int):Bool:=decide (plQ s a d 0=plQ s' a' d' 0)&&(decide (plQ s a d 1=plQ s' a' d' 1)&&(decide (plQ s a d 2=plQ s' a' d' 2)&&decide (plO s a d=plO s' a' d')))
theorem Qw6 (s:Sg) (a d:Int) (s':Sg) (a' d':Int):Que s a d s' a' d'=Que s' a' d' s a d:=by
 unfold Que;rw [Bool.eq_iff_iff];simp only [Bool.and_eq_true,decide_eq_true_eq];constructor<;>(rintro⟨h1,h2,h3,h4⟩;exact⟨h1.symm,h2.symm,h3.symm,h4.symm⟩)
def Qez (a b:Sg):Bool:=decide (a.t=b.f)&&Que a 1 1 b 0 1
def sg0:Sg:=⟨0,0,0,[],[],[]⟩
def vpAt (p:List Sg) (j:Nat):Bool:=Qa1 (p.getD j sg0)&&(decide (j=0)||Qez (p.getD (j-1) sg0) (p.getD j sg0))
def vpTo (p:List Sg) (i:Nat):Bool:=(List.range i).all (vpAt p)
def Qa7 (p:List Sg):Bool:=vpTo p p.length&&(decide (1≤p.length)&&decide (p.length≤256))
theorem Qjy (p:List Sg) (i:Nat):vpTo p (i+1)=(vpTo p i&&vpAt p i):=by simp [vpTo,List.range_succ]
theorem Zme {p:List Sg} {j m:Nat} (h:vpAt p j=false) (hm:j<m):vpTo p m=false:=by
 unfold vpTo;rw [List.all_eq_false];exact⟨j,List.mem_range.2 hm,by simp [h]⟩
theorem Qge {p:List Sg} {j:Nat} (h:vpAt p j=false) (hm:j<p.length):Qa7 p=false:=by unfold Qa7;rw [Zme h hm];rfl
theorem sgD {p:List Sg} {i:Nat} (h:i<p.length):p.getD i sg0=p[i]:=by rw [List.getD_eq_getElem?_getD,List.getElem?_eq_getElem h];rfl
theorem Qk8 {p:List Sg} {i j:Nat} (h:vpTo p i=true) (hj:j<i):Qa1 (p.getD j sg0)=true:=by
 have:=List.all_eq_true.1 h j (List.mem_range.2 hj);unfold vpAt at this;simp only [Bool.and_eq_true]at this;exact this.1
theorem Qav {s:Sg} (h:Qa1 s=true):(0≤s.f∧s.f<s.t∧s.t≤3600000∧1≤s.o∧s.o≤4294967296)∧(∀c∈s.ax,axOK c s.o=true)∧s.ax.foldl gcdL s.o.natAbs=1:=by
 unfold Qa1 rngS at h;simp only [Bool.and_eq_true,decide_eq_true_eq,List.all_eq_true,beq_iff_eq]at h;obtain⟨⟨h1,h2,h3,h4,h5⟩,h6,h7⟩:=h;exact⟨⟨h1,h2,h3,h4,h5⟩,h6,h7⟩
theorem Qca {c:List Int} {o:Int} (h:axOK c o=true):1≤c.length∧c.length≤6∧(1<c.length→c.getD (c.length-1) 0≠0)∧Qdc c o c.length=true:=by
 unfold axOK Qk7 at h;simp only [Bool.and_eq_true,decide_eq_true_eq,Bool.or_eq_true,Bool.not_eq_true',beq_eq_false_iff_ne]at h;obtain⟨⟨h1,h2,h3⟩,h4⟩:=h;exact⟨h1,h2,fun h5=>h3.elim (fun h6=>by omega) id,h4⟩
theorem Qdf {s:Sg} (h:Qa1 s=true): ∀c∈s.ax,c.length≤6:=fun c hc=>(Qca ((Qav h).2.1 c hc)).2.1
theorem Qeh {s:Sg} (h:Qa1 s=true):1≤s.o:=(Qav h).1.2.2.2.1
end Go.Dg

namespace Go.Proofs.YtlghoaggenhheaaGreat
open Go.Vl Go.RowKit Go.Dg
theorem Zlg (s:Sg) (a d:Int):plV s a d=Qaf (plQ s a d 0) (plQ s a d 1) (plQ s a d 2) (plO s a d):=rfl
theorem Zd1 (s:Sg) (a d:Int):(Qmu fun i=>plP s a d i/(plG s a d 3:Int))=[plQ s a d 0,plQ s a d 1,plQ s a d 2]:=rfl
theorem Q0a {x y:Int} {B:Nat} (hx:x.natAbs<2^B) (hy:0<y):(x/y).natAbs<2^(B+1):=by
 rw [Nat.pow_succ];have h2:0<2^B:=Nat.two_pow_pos B;rcases Qzy hx hy with h|h<;>omega
theorem Zta {m B:Nat} (h:m<2^B) (hk:B≤2000):m<2^2000:=Qd4 (C:=2000) h hk
theorem Q60 {s:Sg} {a d:Int} (hs:okSg s) (h6: ∀c∈s.ax,c.length≤6) (ho:1≤s.o) (ha:i64 a) (hd:i64 d) (hd1:1≤d):(∀i,i<3→(plQ s a d i).natAbs<2^2000)∧(plO s a d).natAbs<2^2000:=by
 have hcB: ∀c∈s.ax,bd 64 c:=fun c hx x hx2=>Qay (hs.c c hx x hx2);have bP:=Qzm hcB h6 (Qay ha) (Qay hd);have bo:=Zc1 (s:=s) (Qay hs.o) (Qay hd);have hg:=Qw5 ho hd1 3 (s:=s) (a:=a);exact⟨fun i hi=>Zta (Q0a (bP i hi) (by omega)) (by decide),Zta (Q0a bo (by omega)) (by decide)⟩
theorem Q61 (x y z o:Int) (B:Nat) (hB:B≤6000000) (hx:x.natAbs<2^B) (hy:y.natAbs<2^B) (hz:z.natAbs<2^B) (ho:o.natAbs<2^B):
  Qae Tryz.prog 29 [Qev [x,y,z] o] (Qaf x y z o):=by
 have t1:=Zd7 (Zcy hx (by omega));have t2:=Zd7 (Zcy hy (by omega));have t3:=Zd7 (Zcy hz (by omega));have t4:=Zd7 (Zcy ho (by omega));have hp:Qev [x,y,z] o= .agg [.slc [rI x,rI y,rI z],.bool (decide (o<0)),.slc ((digs E9 o.natAbs).map fun d:Nat=>PV.int .i64 (d:Int))]:=rfl;rw [hp];refine Qab (tb:=[]) 22 [.cell 2 53] [0,1,2] mixed Tryz.func29 rfl (by kernel_rfl) ?_;repeat (first|simp -implicitDefEqProofs only [go_sem,seval,rI,di,wPV]|(with_reducible refine Qaa t1 ?_ ?_ ?_);rfl;rfl|(with_reducible refine Qaa t2 ?_ ?_ ?_);rfl;rfl|(with_reducible refine Qaa t3 ?_ ?_ ?_);rfl;rfl|(with_reducible refine Qaa t4 ?_ ?_ ?_);rfl;rfl|(with_reducible exact Qad _ _ (by kernel_rfl)))
theorem Qu2 (x y z o x' y' z' o':Int):(decide (x<0)==decide (x'<0)&&(mB x==mB x'&&(decide (y<0)==decide (y'<0)&&(mB y==mB y'&&(decide (z<0)==decide (z'<0)&&(mB z==mB z'&&(decide (o<0)==decide (o'<0)&&mB o==mB o')))))))=
  (decide (x=x')&&(decide (y=y')&&(decide (z=z')&&decide (o=o')))):=by
 rw [←Qog x x',←Qog y y',←Qog z z',←Qog o o'];simp only [Bool.and_assoc]
theorem Znp (x y z o x' y' z' o':Int) (B:Nat) (hB:B≤6000000) (hx:x.natAbs<2^B) (hy:y.natAbs<2^B) (hz:z.natAbs<2^B) (ho:o.natAbs<2^B)
  (hx':x'.natAbs<2^B) (hy':y'.natAbs<2^B) (hz':z'.natAbs<2^B) (ho':o'.natAbs<2^B):
  Qae Tryz.prog 34 [Qev [x,y,z] o,Qev [x',y',z'] o'] (.bool (decide (x=x')&&(decide (y=y')&&(decide (z=z')&&decide (o=o'))))):=by
 have t1:=Q61 x y z o B hB hx hy hz ho;have t2:=Q61 x' y' z' o' B hB hx' hy' hz' ho';refine Qab (tb:=[]) 10 [.tmp 4] [0,1,2,3,4] mixed Tryz.func34 rfl (by kernel_rfl) ?_;repeat (first|simp -implicitDefEqProofs only [go_sem,seval,Qev,rI,di,Qu2]|(with_reducible refine Qaa t1 ?_ ?_ ?_);rfl;rfl|(with_reducible refine Qaa t2 ?_ ?_ ?_);rfl;rfl|(with_reducible exact Qad _ _ (by kernel_rfl)))
theorem Q0b (a b:Sg) (ha:okSg a) (hb:okSg b) (va:Qa1 a=true) (vb:Qa1 b=true):Qae Tryz.prog 36 [sgPV a,sgPV b] (.bool (Qez a b)):=by
 have o1:i64 1:=by unfold i64;omega
 have o0:i64 0:=by unfold i64;omega
 have t1:=Qsp a 1 1 ha (Qdf va) (Qeh va) o1 o1 (by decide);have t2:=Qsp b 0 1 hb (Qdf vb) (Qeh vb) o0 o1 (by decide);rw [Zlg]at t1 t2;unfold Qez Que;generalize plQ a 1 1 0=x0 at*;generalize plQ a 1 1 1=x1 at*;generalize plQ a 1 1 2=x2 at*;generalize plO a 1 1=x3 at*;generalize plQ b 0 1 0=y0 at*;generalize plQ b 0 1 1=y1 at*;generalize plQ b 0 1 2=y2 at*;generalize plO b 0 1=y3 at*;by_cases h:a.t=b.f
 ·have h':(a.t==b.f)=true:=by rw [h];exact beq_self_eq_true _
  rw [decide_eq_true h,Bool.true_and];refine Qab (tb:=[]) 17 [.tmp 4] [0,1,2,3,4] mixed Tryz.func36 rfl (by kernel_rfl) ?_;repeat (first|simp -implicitDefEqProofs only [go_sem,seval,h',Qu2]|(with_reducible refine Qaa t1 ?_ ?_ ?_);rfl;rfl|(with_reducible refine Qaa t2 ?_ ?_ ?_);rfl;rfl|(with_reducible exact Qad _ _ (by kernel_rfl)))
 ·have h':(a.t==b.f)=false:=beq_eq_false_iff_ne.2 h;rw [decide_eq_false h,Bool.false_and];refine Qab (tb:=[]) 17 [.tmp 4] [0,1,2,3,4] mixed Tryz.func36 rfl (by kernel_rfl) ?_;repeat (first|simp -implicitDefEqProofs only [go_sem,seval,h']|(with_reducible exact Qad _ _ (by kernel_rfl)))
def Qam (p:List Sg):PV:= .slc (p.map sgPV)
attribute [go_sem] Qam
theorem Qbx (p:List Sg) (i:Nat) (h:i<p.length):(p.map sgPV)[i]? =some (.agg [.int .i64 p[i].f,.int .i64 p[i].t,.int .i64 p[i].o,.slc (p[i].x.map (PV.int .i64)),.slc (p[i].y.map (PV.int .i64)),.slc (p[i].z.map (PV.int .i64))]):=by
 rw [List.getElem?_map,List.getElem?_eq_getElem h];rfl
set_option maxHeartbeats 1000000 in
theorem Qdk (p:List Sg) (hp: ∀s∈p,okSg s) (hl:p.length≤1000000):Qae Tryz.prog 9 [Qam p] (.bool (Qa7 p)):=by
 refine Qab (tb:=[]) 38 [.tmp 2] [0,2,3,4,5,6,7,8,28] mixed Tryz.func9 rfl (by kernel_rfl) ?_;repeat simp -implicitDefEqProofs only [go_sem,seval,List.length_map]
 have z0:0≤p.length∧vpTo p 0=true:=⟨Nat.zero_le _,rfl⟩;refine Qaq mixed (fun i:{i:Nat // i≤p.length∧vpTo p i=true}=>St.of [(0,Qam p),(2,.bool false),(5,Qam p),(6,.int .i64 (p.length:Int)),(7,.int .i64 (i.1:Int))] []) (fun i=>p.length-i.1) ⟨0,z0⟩ ?_ ?_
 ·exact Qaz (by simp [Qac,lkp,ren1,ren0,Qam])
 ·rintro⟨i,hi,hall⟩;by_cases hA:i<p.length
  ·have hA':=ltT hA;have n0:=nnT i;have hg:=Qbx p i hA;have hwk:=Qah (a:=i) (by omega);have ok1:=hp _ (List.getElem_mem hA);have hv:=Qz2 p[i] ok1;have hgD:=sgD hA;cases hV:Qa1 p[i]with
   |false=>
    have e:Qa7 p=false:=Qge (j:=i) (by unfold vpAt;rw [hgD,hV];rfl) hA;rw [hV]at hv;unfold sgPV Qan at hv;repeat (first|simp -implicitDefEqProofs only [go_sem,seval,hA',n0,hg,Int.toNat_natCast,e]|(with_reducible refine Qaa hv ?_ ?_ ?_);rfl;rfl|(with_reducible exact Qad _ _ (by kernel_rfl)))
   |true=>
    rw [hV]at hv;unfold sgPV Qan at hv;by_cases hz:i=0
    ·have hz':((0:Int)<(i:Int))=False:=eq_false (by omega);have hn:vpTo p (i+1)=true:=by rw [Qjy,hall];unfold vpAt;rw [hgD,hV,decide_eq_true hz];rfl
     repeat (first|simp -implicitDefEqProofs only [go_sem,seval,hA',n0,hg,hwk,hz',Int.toNat_natCast]|(with_reducible refine Qaa hv ?_ ?_ ?_);rfl;rfl|(with_reducible refine And.intro (Qad _ _ (by kernel_rfl)) ?_))
     refine⟨⟨i+1,hA,hn⟩,by simp only;omega,Qaz (by simp [Qac,lkp,ren1,ren0,Qam])⟩
    ·have hz':((0:Int)<(i:Int))=True:=eq_true (by omega);have hA1:i-1<p.length:=by omega
     have n1:=nnT (i-1);have hg1:=Qbx p (i-1) hA1;have w1:IntKind.i64.wrap ((i:Int)-1)=((i-1:Nat):Int):=by rw [Qai (by omega) (by omega)];omega
     have hV1:Qa1 p[i-1]=true:=by have:=Qk8 hall (j:=i-1) (by omega);rwa [sgD hA1]at this
     have hm:=Q0b p[i-1] p[i] (hp _ (List.getElem_mem hA1)) ok1 hV1 hV;have ev:vpAt p i=Qez p[i-1] p[i]:=by unfold vpAt;rw [hgD,sgD hA1,hV,decide_eq_false hz];simp
     cases hM:Qez p[i-1] p[i]with
     |false=>
      have e:Qa7 p=false:=Qge (j:=i) (ev.trans hM) hA;rw [hM]at hm;unfold sgPV Qan at hm;repeat (first|simp -implicitDefEqProofs only [go_sem,seval,hA',n0,hg,hz',w1,n1,hg1,Int.toNat_natCast,e]|(with_reducible refine Qaa hv ?_ ?_ ?_);rfl;rfl|(with_reducible refine Qaa hm ?_ ?_ ?_);rfl;rfl|(with_reducible exact Qad _ _ (by kernel_rfl)))
     |true=>
      have hn:vpTo p (i+1)=true:=by rw [Qjy,hall,ev,hM];rfl
      rw [hM]at hm;unfold sgPV Qan at hm;repeat (first|simp -implicitDefEqProofs only [go_sem,seval,hA',n0,hg,hwk,hz',w1,n1,hg1,Int.toNat_natCast]|(with_reducible refine Qaa hv ?_ ?_ ?_);rfl;rfl|(with_reducible refine Qaa hm ?_ ?_ ?_);rfl;rfl|(with_reducible refine And.intro (Qad _ _ (by kernel_rfl)) ?_))
      refine⟨⟨i+1,hA,hn⟩,by simp only;omega,Qaz (by simp [Qac,lkp,ren1,ren0,Qam])⟩
  ·have hA':=ltF hA;obtain rfl:i=p.length:=by omega
   have e0:Qa7 p=(decide (1≤p.length)&&decide (p.length≤256)):=by unfold Qa7;rw [hall,Bool.true_and]
   rw [e0];by_cases c1:1≤p.length
   ·have c1':((1:Int)≤(p.length:Int))=True:=eq_true (by omega);have c2':decide ((p.length:Int)≤256)=decide (p.length≤256):=by rw [decide_eq_decide];omega
    rw [decide_eq_true c1,Bool.true_and];repeat simp -implicitDefEqProofs only [go_sem,seval,hA',c1',c2',List.length_map]
   ·have c1':((1:Int)≤(p.length:Int))=False:=eq_false (by omega);rw [decide_eq_false c1,Bool.false_and];repeat simp -implicitDefEqProofs only [go_sem,seval,hA',c1',List.length_map]
set_option maxHeartbeats 1000000 in
theorem Qht (p:List Sg) (hp: ∀s∈p,okSg s) (hl:p.length≤1000000):Qae Tryz.prog 7 [Qam p] (.bool (Qa7 p)):=by
 have o1:i64 1:=by unfold i64;omega
 have o0:i64 0:=by unfold i64;omega
 refine Qab (tb:=[]) 57 [.tmp 2] [0,2,3,7,48] mixed Tryz.func7 rfl (by kernel_rfl) ?_;repeat simp -implicitDefEqProofs only [go_sem,seval]
 have z0:0≤p.length∧vpTo p 0=true:=⟨Nat.zero_le _,rfl⟩;refine Qaq mixed (fun i:{i:Nat // i≤p.length∧vpTo p i=true}=>St.of [(0,Qam p),(2,.bool false),(3,.int .i64 (i.1:Int))] []) (fun i=>p.length-i.1) ⟨0,z0⟩ ?_ ?_
 ·exact Qaz (by simp [Qac,lkp,ren1,ren0,Qam])
 ·rintro⟨i,hi,hall⟩;by_cases hA:i<p.length
  ·have hA':=ltT hA;have n0:=nnT i;have hg:=Qbx p i hA;have hwk:=Qah (a:=i) (by omega);have ok1:=hp _ (List.getElem_mem hA);have hv:=Q6n p[i] ok1;have hgD:=sgD hA;cases hV:Qa1 p[i]with
   |false=>
    have e:Qa7 p=false:=Qge (j:=i) (by unfold vpAt;rw [hgD,hV];rfl) hA;rw [hV]at hv;unfold sgPV Qan at hv;repeat (first|simp -implicitDefEqProofs only [go_sem,seval,hA',n0,hg,Int.toNat_natCast,List.length_map,e]|(with_reducible refine Qaa hv ?_ ?_ ?_);rfl;rfl|(with_reducible exact Qad _ _ (by kernel_rfl)))
   |true=>
    rw [hV]at hv;unfold sgPV Qan at hv;by_cases hz:i=0
    ·have hz':((0:Int)<(i:Int))=False:=eq_false (by omega);have hn:vpTo p (i+1)=true:=by rw [Qjy,hall];unfold vpAt;rw [hgD,hV,decide_eq_true hz];rfl
     repeat (first|simp -implicitDefEqProofs only [go_sem,seval,hA',n0,hg,hwk,hz',Int.toNat_natCast,List.length_map]|(with_reducible refine Qaa hv ?_ ?_ ?_);rfl;rfl|(with_reducible refine And.intro (Qad _ _ (by kernel_rfl)) ?_))
     refine⟨⟨i+1,hA,hn⟩,by simp only;omega,Qaz (by simp [Qac,lkp,ren1,ren0,Qam])⟩
    ·have hz':((0:Int)<(i:Int))=True:=eq_true (by omega);have hA1:i-1<p.length:=by omega
     have n1:=nnT (i-1);have hg1:=Qbx p (i-1) hA1;have w1:IntKind.i64.wrap ((i:Int)-1)=((i-1:Nat):Int):=by rw [Qai (by omega) (by omega)];omega
     have hV1:Qa1 p[i-1]=true:=by have:=Qk8 hall (j:=i-1) (by omega);rwa [sgD hA1]at this
     have ev:vpAt p i=Qez p[i-1] p[i]:=by unfold vpAt;rw [hgD,sgD hA1,hV,decide_eq_false hz];simp
     have ok2:=hp _ (List.getElem_mem hA1);by_cases hT:p[i-1].t=p[i].f
     ·have hT':(p[i].f != p[i-1].t)=false:=by rw [hT];simp
      have r1:=Qsv p[i] 0 1 ok1 (Qdf hV) (Qeh hV) o0 o1 (by decide);have r2:=Qsv p[i-1] 1 1 ok2 (Qdf hV1) (Qeh hV1) o1 o1 (by decide);rw [Zd1]at r1 r2;have b1:=Q60 ok1 (Qdf hV) (Qeh hV) o0 o1 (by decide);have b2:=Q60 ok2 (Qdf hV1) (Qeh hV1) o1 o1 (by decide);have bb:=Znp (plQ p[i] 0 1 0) (plQ p[i] 0 1 1) (plQ p[i] 0 1 2) (plO p[i] 0 1) (plQ p[i-1] 1 1 0) (plQ p[i-1] 1 1 1) (plQ p[i-1] 1 1 2) (plO p[i-1] 1 1) 2000 (by decide) (b1.1 0 (by decide)) (b1.1 1 (by decide)) (b1.1 2 (by decide)) b1.2 (b2.1 0 (by decide)) (b2.1 1 (by decide)) (b2.1 2 (by decide)) b2.2;have es:(decide (plQ p[i] 0 1 0=plQ p[i-1] 1 1 0)&&(decide (plQ p[i] 0 1 1=plQ p[i-1] 1 1 1)&&(decide (plQ p[i] 0 1 2=plQ p[i-1] 1 1 2)&&decide (plO p[i] 0 1=plO p[i-1] 1 1))))=Qez p[i-1] p[i]:=by
       unfold Qez;rw [decide_eq_true hT,Bool.true_and,Qw6];rfl
      rw [es]at bb;have e4:(p[i].o*1^5/(plG p[i] 0 1 3:Int))=plO p[i] 0 1:=rfl;have e5:(p[i-1].o*1^5/(plG p[i-1] 1 1 3:Int))=plO p[i-1] 1 1:=rfl;rw [e4]at r1;rw [e5]at r2;clear e4 e5 es;unfold Qev at r1 r2 bb;generalize [plQ p[i] 0 1 0,plQ p[i] 0 1 1,plQ p[i] 0 1 2]=L1 at*;generalize [plQ p[i-1] 1 1 0,plQ p[i-1] 1 1 1,plQ p[i-1] 1 1 2]=L2 at*;generalize plO p[i] 0 1=z1 at*;generalize plO p[i-1] 1 1=z2 at*;unfold sgPV Qan at r1 r2;cases hM:Qez p[i-1] p[i]with
      |false=>
       have e:Qa7 p=false:=Qge (j:=i) (ev.trans hM) hA;rw [hM]at bb;repeat (first|simp -implicitDefEqProofs only [go_sem,seval,di,hA',n0,hg,hz',hT',w1,n1,hg1,Int.toNat_natCast,List.length_map,e]|(with_reducible refine Qaa hv ?_ ?_ ?_);rfl;rfl|(with_reducible refine Qaa r1 ?_ ?_ ?_);rfl;rfl|(with_reducible refine Qaa r2 ?_ ?_ ?_);rfl;rfl|(with_reducible refine Qaa bb ?_ ?_ ?_);rfl;rfl|(with_reducible exact Qad _ _ (by kernel_rfl)))
      |true=>
       have hn:vpTo p (i+1)=true:=by rw [Qjy,hall,ev,hM];rfl
       rw [hM]at bb;repeat (first|simp -implicitDefEqProofs only [go_sem,seval,di,hA',n0,hg,hwk,hz',hT',w1,n1,hg1,Int.toNat_natCast,List.length_map]|(with_reducible refine Qaa hv ?_ ?_ ?_);rfl;rfl|(with_reducible refine Qaa r1 ?_ ?_ ?_);rfl;rfl|(with_reducible refine Qaa r2 ?_ ?_ ?_);rfl;rfl|(with_reducible refine Qaa bb ?_ ?_ ?_);rfl;rfl|(with_reducible refine And.intro (Qad _ _ (by kernel_rfl)) ?_))
       refine⟨⟨i+1,hA,hn⟩,by simp only;omega,Qaz (by simp [Qac,lkp,ren1,ren0,Qam])⟩
     ·have hT':(p[i].f != p[i-1].t)=true:=by simp only [bne_iff_ne,ne_eq];exact fun e=>hT e.symm
      have e:Qa7 p=false:=Qge (j:=i) (by rw [ev];unfold Qez;rw [decide_eq_false hT];rfl) hA;repeat (first|simp -implicitDefEqProofs only [go_sem,seval,hA',n0,hg,hz',hT',w1,n1,hg1,Int.toNat_natCast,List.length_map,e]|(with_reducible refine Qaa hv ?_ ?_ ?_);rfl;rfl|(with_reducible exact Qad _ _ (by kernel_rfl)))
  ·have hA':=ltF hA;obtain rfl:i=p.length:=by omega
   have e0:Qa7 p=(decide (1≤p.length)&&decide (p.length≤256)):=by unfold Qa7;rw [hall,Bool.true_and]
   rw [e0];by_cases c1:1≤p.length
   ·have c1':((1:Int)≤(p.length:Int))=True:=eq_true (by omega);have c2':decide ((p.length:Int)≤256)=decide (p.length≤256):=by rw [decide_eq_decide];omega
    rw [decide_eq_true c1,Bool.true_and];repeat simp -implicitDefEqProofs only [go_sem,seval,hA',c1',c2',List.length_map]
   ·have c1':((1:Int)≤(p.length:Int))=False:=eq_false (by omega);rw [decide_eq_false c1,Bool.false_and];repeat simp -implicitDefEqProofs only [go_sem,seval,hA',c1',List.length_map]
end Go.Proofs.YtlghoaggenhheaaGreat

namespace Go.Dg
theorem Zsh {a b:Sg} (h1:a.f=b.f) (h2:a.t=b.t) (h3:a.o=b.o) (h4:a.x=b.x) (h5:a.y=b.y) (h6:a.z=b.z):a=b:=by
 cases a;cases b;simp_all
def Qhj (a b:Sg):Bool:=decide (a.f=b.f)&&(decide (a.t=b.t)&&(decide (a.o=b.o)&&(decide (a.x=b.x)&&(decide (a.y=b.y)&&decide (a.z=b.z)))))
theorem Q5k {a b:Sg}:Qhj a b=true↔a=b:=by
 unfold Qhj;simp only [Bool.and_eq_true,decide_eq_true_eq];constructor
 ·rintro⟨h1,h2,h3,h4,h5,h6⟩;exact Zsh h1 h2 h3 h4 h5 h6
 ·rintro rfl;exact⟨rfl,rfl,rfl,rfl,rfl,rfl⟩
def Qfk (a b:List Sg) (i:Nat):Bool:=(List.range i).all fun j=>Qhj (a.getD j sg0) (b.getD j sg0)
def Qmt (a b:List Sg):Bool:=decide (a.length=b.length)&&Qfk a b a.length
theorem Qn6 (a b:List Sg) (i:Nat):Qfk a b (i+1)=(Qfk a b i&&Qhj (a.getD i sg0) (b.getD i sg0)):=by simp [Qfk,List.range_succ]
theorem Qqm {a b:List Sg} {j m:Nat} (h:Qhj (a.getD j sg0) (b.getD j sg0)=false) (hm:j<m):Qfk a b m=false:=by
 unfold Qfk;rw [List.all_eq_false];exact⟨j,List.mem_range.2 hm,by simp only [h];simp⟩
theorem Qij (a:List Sg):Qmt a a=true:=by
 unfold Qmt Qfk;simp only [decide_true,Bool.true_and,List.all_eq_true];intro j _;exact Q5k.2 rfl
def Qhn (a b:List Int) (i:Nat):Bool:=(List.range i).all fun j=>decide (a.getD j 0=b.getD j 0)
theorem Qn7 (a b:List Int) (i:Nat):Qhn a b (i+1)=(Qhn a b i&&decide (a.getD i 0=b.getD i 0)):=by simp [Qhn,List.range_succ]
theorem Qqn {a b:List Int} {j:Nat} (h:a.getD j 0≠b.getD j 0):a≠b:=by rintro rfl;exact h rfl
theorem Qqo {a b:List Int} (hl:a.length=b.length) (h:Qhn a b a.length=true):a=b:=by
 unfold Qhn at h;simp only [List.all_eq_true,List.mem_range,decide_eq_true_eq]at h;apply List.ext_getElem hl;intro i p q;have:=h i p;rw [List.getD_eq_getElem?_getD,List.getD_eq_getElem?_getD,List.getElem?_eq_getElem p,List.getElem?_eq_getElem q]at this;exact this
def few1 (s:Sg):Bool:=decide (s.x.length≤8)&&(decide (s.y.length≤8)&&decide (s.z.length≤8))
def fewB (p:List Sg) (m:Nat):Bool:=((p.take (m+1)).all few1)&&decide (p.length≤m)
theorem Qk9 {p:List Sg} {m:Nat} (h:fewB p m=true):p.length≤m∧ ∀s∈p,∀c∈s.ax,c.length≤8:=by
 unfold fewB at h;simp only [Bool.and_eq_true,decide_eq_true_eq]at h;obtain⟨h1,h2⟩:=h;rw [List.take_of_length_le (by omega)]at h1;refine⟨h2,fun s hs c hc=> ?_⟩;have:=List.all_eq_true.1 h1 s hs;unfold few1 at this;simp only [Bool.and_eq_true,decide_eq_true_eq]at this;obtain⟨a1,a2,a3⟩:=this;unfold Sg.ax at hc;simp only [List.mem_cons,List.not_mem_nil,or_false]at hc;rcases hc with rfl|rfl|rfl<;>assumption
theorem Qsa {p:List Sg} {m i:Nat} (hi:i<p.length) (hm:i≤m) (h:few1 p[i]=false):fewB p m=false:=by
 unfold fewB;have:(p.take (m+1)).all few1=false:=by
  rw [List.all_eq_false];refine⟨p[i],?_,by simp [h]⟩;rw [List.mem_take_iff_getElem];exact⟨i,by omega,rfl⟩
 rw [this];rfl
end Go.Dg
