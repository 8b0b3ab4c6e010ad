/-
  QM2, QM3, Dsh, Dsi, Dsj, Dsk, Dsl, Dsm, Dsn, Dbu (merged for the claim).
-/
import Derived.Test.YtdpajapkhembcaaGreatDoorQM1
import Derived.Test.YtdpajapkhembcaaGreatDoorULD
import Derived.Test.YtdpajapkhembcaaGreatDoorQF3
set_option linter.unusedSimpArgs false
set_option linter.unusedVariables false
namespace Go.Proofs.YtdpajapkhembcaaGreatDoor
open Go.Vl Go.RowKit Go.Dg
def Qri:List PV:=(List.range 36).map fun i=> .int .i64 (bin (i/6) (i%6):Int)
set_option maxHeartbeats 8000000 in
set_option maxRecDepth 100000 in
theorem Q72:Qaf Tryz.prog 119 [] (.agg Qri):=by
 have hw:Qri=[1,0,0,0,0,0,1,1,0,0,0,0,1,2,1,0,0,0,1,3,3,1,0,0,1,4,6,4,1,0,1,5,10,10,5,1].map (PV.int .i64):=by kernel_rfl
 rw [hw];have h6:((6:Nat):Int)=6:=rfl;have w0:IntKind.i64.wrap 0=0:=rfl;have w1:IntKind.i64.wrap 1=1:=rfl;have w2:IntKind.i64.wrap 2=2:=rfl;have w3:IntKind.i64.wrap 3=3:=rfl;have w4:IntKind.i64.wrap 4=4:=rfl;have w5:IntKind.i64.wrap 5=5:=rfl;have w6:IntKind.i64.wrap 6=6:=rfl;have w7:IntKind.i64.wrap 7=7:=rfl;have w8:IntKind.i64.wrap 8=8:=rfl;have w9:IntKind.i64.wrap 9=9:=rfl;have w10:IntKind.i64.wrap 10=10:=rfl;refine Qab (tb:=[]) 35 [.cell 0 193] [0,1,2,3,4,5,12] mixed Tryz.func119 rfl (by kernel_rfl) ?_;repeat simp -implicitDefEqProofs only [go_sem,seval]
 iterate 7
  refine Qcf mixed [0,1,2,3,4,5,6] ?_;repeat (first|simp -implicitDefEqProofs only [go_sem,seval,h6,w0,w1,w2,w3,w4,w5,w6,w10]|(with_reducible exact Qac _ _ (by kernel_rfl))|(with_reducible refine And.intro (Qac _ _ (by kernel_rfl)) ?_))
theorem Qty (n k:Nat) (hn:n<6) (hk:k<6):Qri[n*6+k*1]? =some (.int .i64 (bin n k:Int)):=by
 unfold Qri;rw [List.getElem?_map,List.getElem?_range (by omega)];have h1:(n*6+k*1)/6=n:=by omega
 have h2:(n*6+k*1)%6=k:=by omega
 show some (PV.int .i64 (bin ((n*6+k*1)/6) ((n*6+k*1)%6):Int))=_;rw [h1,h2]
theorem Q1b:Qri.all Qxh=true:=by kernel_rfl
theorem Zg2:Qri.all PV.okCell=true:=by kernel_rfl
theorem Q73:Qri.length=36:=by kernel_rfl
theorem Z33:wPV 0= .agg [.bool false,.str ⟨#[]⟩]:=by unfold wPV;rw [(Qmh 0).2 rfl];rfl
theorem Q74 (c:List Int) (o:Int) (h1:1≤c.length) (h6:c.length≤6) (hc: ∀x∈c, -9223372036854775808≤x∧x≤9223372036854775807) (ho:1≤o) (ho2:o≤4294967296):
  Qaf Tryz.prog 94 [Qbj c,.int .i64 o] (.bool (Qet c o c.length)):=by
 have hch:=Q72;have w1:=Qh5 62914560 (by decide) (by decide);have w2:=Qh5 o (by omega) (by omega);have p64:(2:Nat)^64=18446744073709551616:=rfl;have b1:(62914560:Int).natAbs<2^64:=by decide
 have b2:o.natAbs<2^64:=by omega
 have b3:(62914560*o).natAbs<2^128:=Q78 b1 b2;have m1:=Qh6 (Qa5 b1 (by decide)) (Qa5 b2 (by decide)) (Qa5 b3 (by decide));have hcb:bd 64 c:=fun x hx=>by have:=hc x hx;omega
 have wl:=Qme (n:=c.length) (by omega) (by omega);generalize hM:62914560*o=M at*;refine Qab (tb:=[]) 57 [.tmp 4] [0,1,4,5,6,7,8,9,10,20,21,22,25,26,27,55] mixed Tryz.func94 rfl (by kernel_rfl) ?_;repeat (first|simp -implicitDefEqProofs only [go_sem,Nat.reduceAdd,Nat.reduceMul,Nat.reduceEqDiff,Nat.reduceLT,Nat.reduceLeDiff,reduceCtorEq,Int.reduceLT,wPV,Qbj,List.length_map,wl,Q73,Q1b,Zg2]|(with_reducible refine Qaa hch ?_ ?_ ?_);rfl;rfl|(with_reducible refine Qaa w1 ?_ ?_ ?_);rfl;rfl|(with_reducible refine Qaa w2 ?_ ?_ ?_);rfl;rfl|(with_reducible refine Qaa m1 ?_ ?_ ?_);rfl;rfl)
 refine Qau mixed (fun j:{j:Nat // j≤c.length∧Qet c o j=true}=>St.of [(0,Qbj c),(4,.bool false),(5,.bp 101 36 0 0),(6,.bp 204 2 0 0),(7,.int .i64 ((c.length-1:Nat):Int)),(20,.int .i64 (c.length:Int)),(21,.int .i64 (j.1:Int))]
  [(101,{els:=[.agg Qri],esz:=36,ety:=193,fro:=0,live:=true,arr:=false}),(204,{els:=[wPV M],esz:=2,ety:=134,fro:=0,live:=true,arr:=false})]) (fun j=>c.length-j.1) ⟨0,Nat.zero_le _,rfl⟩ ?_ ?_
 ·refine Qaj (θ:=[(101,101),(204,204)]) rfl ?_ ?_
  ·simp [Qae,lkp,ren1,ren0,Qai,Qbj]
  ·exact⟨⟨rfl,rfl,rfl,rfl,rfl,.inr ⟨rfl,_,_,rfl,rfl,rfl,rfl⟩⟩,⟨rfl,rfl,rfl,rfl,rfl,.inr ⟨rfl,_,_,rfl,rfl,rfl,rfl⟩⟩,trivial⟩
 ·rintro⟨j,hj,hall⟩;by_cases hA:j<c.length
  ·have hA':=ltT hA;have hwk:=Qak (a:=j) (by omega);repeat simp -implicitDefEqProofs only [go_sem,Nat.reduceAdd,Nat.reduceMul,Nat.reduceEqDiff,Nat.reduceLT,Nat.reduceLeDiff,reduceCtorEq,hA',hwk]
   refine Qau mixed (fun k:{k:Nat // k≤j+1}=>St.of [(0,Qbj c),(4,.bool false),(5,.bp 101 36 0 0),(6,.bp 204 2 0 0),(7,.int .i64 ((c.length-1:Nat):Int)),(20,.int .i64 (c.length:Int)),(21,.int .i64 (j:Int)),(8,.int .i64 (j:Int)),(9,.bp 700 2 0 0),(25,.int .i64 ((j+1:Nat):Int)),(26,.int .i64 (k.1:Int))]
    [(101,{els:=[.agg Qri],esz:=36,ety:=193,fro:=0,live:=true,arr:=false}),(204,{els:=[wPV M],esz:=2,ety:=134,fro:=0,live:=true,arr:=false}),(700,{els:=[wPV (sm (fun k=>c.getD k 0*(cw (c.length-1) j k:Int)) k.1)],esz:=2,ety:=134,fro:=0,live:=true,arr:=false})]) (fun k=>j+1-k.1) ⟨0,Nat.zero_le _⟩ ?_ ?_
   ·refine Qaj (θ:=[(101,101),(204,204),(700,700)]) rfl ?_ ?_
    ·simp [Qae,lkp,ren1,ren0,Qai,Qbj]
    ·refine⟨⟨rfl,rfl,rfl,rfl,rfl,.inr ⟨rfl,_,_,rfl,rfl,rfl,rfl⟩⟩,⟨rfl,rfl,rfl,rfl,rfl,.inr ⟨rfl,_,_,rfl,rfl,rfl,rfl⟩⟩,⟨rfl,rfl,rfl,rfl,rfl,.inr ⟨rfl,_,_,rfl,rfl,?_,rfl⟩⟩,trivial⟩;simp only [sm];rw [Z33];rfl
   ·rintro⟨k,hk⟩;by_cases hB:k<j+1
    ·have hB':=ltT hB;have hkc:k<c.length:=by omega
     have h0:=nnT k;have hg:=Qf0 c k hkc;have hwk2:=Qak (a:=k) (by omega);have g1:=Qty (c.length-1) k (by omega) (by omega);have g2:=Qty j k (by omega) (by omega);have hb0:((bin (c.length-1) k:Int)=0)=False:=eq_false (by have:=Q5m (n:=c.length-1) (k:=k) (by omega);omega);have t1:Int.tdiv 60 (bin (c.length-1) k:Int)=((60/bin (c.length-1) k:Nat):Int):=Qw5 60 _;have d60:60/bin (c.length-1) k≤60:=Nat.div_le_self _ _;have wk1:IntKind.i64.wrap ((60/bin (c.length-1) k:Nat):Int)=((60/bin (c.length-1) k:Nat):Int):=wrapn (by omega);have hcw:=Zyt (c.length-1) j k (by omega);have ecw:((60/bin (c.length-1) k:Nat):Int)*(bin j k:Int)=(cw (c.length-1) j k:Int):=by rw [cw,Int.natCast_mul]
     have wk2:IntKind.i64.wrap (cw (c.length-1) j k:Int)=(cw (c.length-1) j k:Int):=wrapn (by omega);obtain⟨k1,k2⟩:=hc _ (List.getElem_mem hkc);have o1:=Qh5 c[k] k1 k2;have o2:=Qh5 (cw (c.length-1) j k:Int) (by omega) (by omega);have x1:(c[k]).natAbs<2^64:=hcb _ (List.getElem_mem hkc);have x2:(cw (c.length-1) j k:Int).natAbs<2^11:=by rw [Int.natAbs_natCast];omega
     have m2:=Qh6 (Qa5 x1 (by decide)) (Qa5 x2 (by decide)) (Qa5 (Q78 x1 x2) (by decide));have y1:=Qq5 (n:=c.length-1) (j:=j) hcb (by omega) k (by omega);have y2:=Qq5 (n:=c.length-1) (j:=j) hcb (by omega) (k+1) (by omega);have es:sm (fun k=>c.getD k 0*(cw (c.length-1) j k:Int)) (k+1)=sm (fun k=>c.getD k 0*(cw (c.length-1) j k:Int)) k+c[k]*(cw (c.length-1) j k:Int):=by simp only [sm];rw [Qnp hkc]
     rw [es]at y2;have a1:=Qgx (Qa5 y1 (by decide)) (Qa5 (Q78 x1 x2) (by decide)) (Qa5 y2 (by decide));rw [←es]at a1;generalize hX:sm (fun k=>c.getD k 0*(cw (c.length-1) j k:Int)) (k+1)=X at*;generalize sm (fun k=>c.getD k 0*(cw (c.length-1) j k:Int)) k=Y at*;generalize c[k]*(cw (c.length-1) j k:Int)=Z at*;generalize (cw (c.length-1) j k:Int)=V at*;have l1:=ltT (show c.length-1<6 by omega);have l2:=ltT (show k<6 by omega);have l3:=ltT (show j<6 by omega);have n1:=nnT (c.length-1);have n2:=nnT j;repeat (first|simp -implicitDefEqProofs only [go_sem,Nat.reduceAdd,Nat.reduceMul,Nat.reduceEqDiff,Nat.reduceLT,Nat.reduceLeDiff,reduceCtorEq,Qbj,wPV,hB',h0,l1,l2,l3,n1,n2,hg,hwk2,g1,g2,hb0,t1,wk1,ecw,wk2,Int.toNat_natCast]|(with_reducible refine Qaa o1 ?_ ?_ ?_);rfl;rfl|(with_reducible refine Qaa o2 ?_ ?_ ?_);rfl;rfl|(with_reducible refine Qaa m2 ?_ ?_ ?_);rfl;rfl|(with_reducible refine Qaa a1 ?_ ?_ ?_);rfl;rfl|(with_reducible refine And.intro (Qac _ _ (by kernel_rfl)) ?_))
     refine⟨⟨k+1,hB⟩,by simp only;omega,Qaj (θ:=[(101,101),(204,204),(700,700)]) rfl ?_ ?_⟩
     ·simp [Qae,lkp,ren1,ren0,Qai,Qbj]
     ·simp only [hX];exact⟨⟨rfl,rfl,rfl,rfl,rfl,.inr ⟨rfl,_,_,rfl,rfl,rfl,rfl⟩⟩,⟨rfl,rfl,rfl,rfl,rfl,.inr ⟨rfl,_,_,rfl,rfl,rfl,rfl⟩⟩,⟨rfl,rfl,rfl,rfl,rfl,.inr ⟨rfl,_,_,rfl,rfl,rfl,rfl⟩⟩,trivial⟩
    ·have hB':=ltF hB;obtain rfl:k=j+1:=by omega
     have ec:sm (fun k=>c.getD k 0*(cw (c.length-1) j k:Int)) (j+1)=ctl c j:=rfl;simp only [ec];have y3:=Qq5 (n:=c.length-1) (j:=j) hcb (by omega) (j+1) (by omega);rw [ec]at y3;have y4:(((ctl c j).natAbs:Nat):Int).natAbs<2^(64+11+7):=by rw [Int.natAbs_natCast];exact y3
     have hcm:=Q1c (Qa5 y4 (by decide)) (Qa5 b3 (by decide));have ea:wPV (((ctl c j).natAbs:Nat):Int)= .agg [.bool false,.str ⟨(magL (ctl c j).natAbs).toArray⟩]:=by
      unfold wPV;have:decide ((((ctl c j).natAbs:Nat):Int)<0)=false:=by simp
      rw [this,Int.natAbs_natCast]
     rw [ea]at hcm;by_cases hle:((ctl c j).natAbs:Int)≤M
     ·have hs:((0:Int)<((((ctl c j).natAbs:Nat):Int)-M).sign)=False:=eq_false (by have:=Int.sign_nonpos_iff.2 (show(((ctl c j).natAbs:Nat):Int)-M≤0 by omega);omega);have hn:Qet c o (j+1)=true:=by rw [Qhh,hall,hM];simp [hle]
      generalize ctl c j=X at*;repeat (first|simp -implicitDefEqProofs only [go_sem,Nat.reduceAdd,Nat.reduceMul,Nat.reduceEqDiff,Nat.reduceLT,Nat.reduceLeDiff,reduceCtorEq,wPV,hB',hs,hwk]|(with_reducible refine Qaa hcm ?_ ?_ ?_);rfl;rfl)
      refine⟨⟨j+1,hA,hn⟩,by simp only;omega,Qaj (θ:=[(101,101),(204,204)]) rfl ?_ ?_⟩
      ·simp [Qae,lkp,ren1,ren0,Qai,Qbj]
      ·exact⟨⟨rfl,rfl,rfl,rfl,rfl,.inr ⟨rfl,_,_,rfl,rfl,rfl,rfl⟩⟩,⟨rfl,rfl,rfl,rfl,rfl,.inr ⟨rfl,_,_,rfl,rfl,rfl,rfl⟩⟩,trivial⟩
     ·have hs:((0:Int)<((((ctl c j).natAbs:Nat):Int)-M).sign)=True:=eq_true (Int.sign_pos_iff.2 (by omega));have hn:Qet c o c.length=false:=Zfi (j:=j+1) (by rw [Qhh,hall,hM];simp;omega) hA;generalize ctl c j=X at*;repeat (first|simp -implicitDefEqProofs only [go_sem,Nat.reduceAdd,Nat.reduceMul,Nat.reduceEqDiff,Nat.reduceLT,Nat.reduceLeDiff,reduceCtorEq,wPV,hB',hs,hn]|(with_reducible refine Qaa hcm ?_ ?_ ?_);rfl;rfl)
  ·have hA':=ltF hA;obtain rfl:j=c.length:=by omega
   repeat simp -implicitDefEqProofs only [go_sem,Nat.reduceAdd,Nat.reduceMul,Nat.reduceEqDiff,Nat.reduceLT,Nat.reduceLeDiff,reduceCtorEq,hA',hall]
def i64 (x:Int):Prop:= -9223372036854775808≤x∧x≤9223372036854775807
def sgPV (s:Sg):PV:= .agg [.int .i64 s.f,.int .i64 s.t,.int .i64 s.o,Qbj s.x,Qbj s.y,Qbj s.z]
attribute [go_sem] Qbj sgPV
structure okSg (s:Sg):Prop where
 f:i64 s.f
 t:i64 s.t
 o:i64 s.o
 c: ∀c∈s.ax,∀x∈c,i64 x
 l: ∀c∈s.ax,c.length≤1000
theorem Qcb {x:Int} (h:i64 x):x.natAbs<2^64:=by unfold i64 at h;have p64:(2:Nat)^64=18446744073709551616:=rfl;omega
theorem Zql (s:Sg):Qaf Tryz.prog 93 [sgPV s] (.agg [Qbj s.x,Qbj s.y,Qbj s.z]):=by
 unfold sgPV;refine Qab (tb:=[]) 10 [.cell 2 160] [0,1,2] mixed Tryz.func93 rfl (by kernel_rfl) ?_;repeat simp -implicitDefEqProofs only [go_sem,seval,Qbj,List.map_cons,List.map_nil]
theorem Z0m (s:Sg) (i:Nat) (h:i<s.ax.length):([.slc (s.x.map (PV.int .i64)),.slc (s.y.map (PV.int .i64)),.slc (s.z.map (PV.int .i64))]:List PV)[i]? =some (.slc ((s.ax[i]).map (PV.int .i64))):=by
 show(s.ax.map Qbj)[i]? =_;rw [List.getElem?_map,List.getElem?_eq_getElem h];rfl
theorem Q75 (s:Sg) (i:Nat) (h:i<s.ax.length):([.slc (s.x.map (PV.int .i64)),.slc (s.y.map (PV.int .i64)),.slc (s.z.map (PV.int .i64))]:List PV)[i*1]? =some (.slc ((s.ax[i]).map (PV.int .i64))):=by rw [Nat.mul_one,Z0m s i h]
theorem Z0n (x y:Int):(mB x==mB y)=decide (x.natAbs=y.natAbs):=by
 rw [Z01,Bool.eq_iff_iff,beq_iff_eq,decide_eq_true_eq];constructor
 ·intro h;rw [←Qrk x,←Qrk y,h]
 ·intro h;unfold mB;rw [h]
theorem Qnn (x y:Int):((decide (x<0)==decide (y<0))&&(mB x==mB y))=decide (x=y):=by
 rw [Z0n,Bool.eq_iff_iff,Bool.and_eq_true,beq_iff_eq,decide_eq_decide,decide_eq_true_eq,decide_eq_true_eq];omega
set_option maxHeartbeats 1000000 in
theorem Zg3 (s:Sg) (hs:okSg s):Qaf Tryz.prog 68 [sgPV s] (.bool (Qbm s)):=by
 obtain⟨⟨a1,a2⟩,⟨a3,a4⟩,⟨a5,a6⟩,hc,hl⟩:=hs;by_cases g1:s.f<0
 ·have g1':=eq_true g1;have e:Qbm s=false:=by unfold Qbm rngS;rw [decide_eq_false (by omega)];rfl
  unfold sgPV;refine Qab (tb:=[]) 85 [.tmp 2] [0,1,2,3,5,7,32,37,38,39,69,70,71,72,73] mixed Tryz.func68 rfl (by kernel_rfl) ?_;repeat simp -implicitDefEqProofs only [go_sem,Nat.reduceAdd,Nat.reduceMul,Nat.reduceEqDiff,Nat.reduceLT,Nat.reduceLeDiff,reduceCtorEq,g1',e]
 have g1':=eq_false g1;by_cases g2:s.t≤s.f
 ·have g2':=eq_true g2;have e:Qbm s=false:=by unfold Qbm rngS;rw [decide_eq_true (show 0≤s.f by omega),decide_eq_false (show¬s.f<s.t by omega)];rfl
  unfold sgPV;refine Qab (tb:=[]) 85 [.tmp 2] [0,1,2,3,5,7,32,37,38,39,69,70,71,72,73] mixed Tryz.func68 rfl (by kernel_rfl) ?_;repeat simp -implicitDefEqProofs only [go_sem,Nat.reduceAdd,Nat.reduceMul,Nat.reduceEqDiff,Nat.reduceLT,Nat.reduceLeDiff,reduceCtorEq,g1',g2',e]
 have g2':=eq_false g2;by_cases g3:3600000<s.t
 ·have g3':=eq_true g3;have e:Qbm s=false:=by unfold Qbm rngS;rw [decide_eq_true (show 0≤s.f by omega),decide_eq_true (show s.f<s.t by omega),decide_eq_false (show¬s.t≤3600000 by omega)];rfl
  unfold sgPV;refine Qab (tb:=[]) 85 [.tmp 2] [0,1,2,3,5,7,32,37,38,39,69,70,71,72,73] mixed Tryz.func68 rfl (by kernel_rfl) ?_;repeat simp -implicitDefEqProofs only [go_sem,Nat.reduceAdd,Nat.reduceMul,Nat.reduceEqDiff,Nat.reduceLT,Nat.reduceLeDiff,reduceCtorEq,g1',g2',g3',e]
 have g3':=eq_false g3;by_cases g4:s.o<1
 ·have g4':=eq_true g4;have e:Qbm s=false:=by unfold Qbm rngS;rw [decide_eq_true (show 0≤s.f by omega),decide_eq_true (show s.f<s.t by omega),decide_eq_true (show s.t≤3600000 by omega),decide_eq_false (show¬1≤s.o by omega)];rfl
  unfold sgPV;refine Qab (tb:=[]) 85 [.tmp 2] [0,1,2,3,5,7,32,37,38,39,69,70,71,72,73] mixed Tryz.func68 rfl (by kernel_rfl) ?_;repeat simp -implicitDefEqProofs only [go_sem,Nat.reduceAdd,Nat.reduceMul,Nat.reduceEqDiff,Nat.reduceLT,Nat.reduceLeDiff,reduceCtorEq,g1',g2',g3',g4',e]
 have g4':=eq_false g4;by_cases g5:4294967296<s.o
 ·have g5':=eq_true g5;have e:Qbm s=false:=by unfold Qbm rngS;rw [decide_eq_true (show 0≤s.f by omega),decide_eq_true (show s.f<s.t by omega),decide_eq_true (show s.t≤3600000 by omega),decide_eq_true (show 1≤s.o by omega),decide_eq_false (show¬s.o≤4294967296 by omega)];rfl
  unfold sgPV;refine Qab (tb:=[]) 85 [.tmp 2] [0,1,2,3,5,7,32,37,38,39,69,70,71,72,73] mixed Tryz.func68 rfl (by kernel_rfl) ?_;repeat simp -implicitDefEqProofs only [go_sem,Nat.reduceAdd,Nat.reduceMul,Nat.reduceEqDiff,Nat.reduceLT,Nat.reduceLeDiff,reduceCtorEq,g1',g2',g3',g4',g5',e]
 have g5':=eq_false g5;have er:rngS s=true:=by unfold rngS;rw [decide_eq_true (show 0≤s.f by omega),decide_eq_true (show s.f<s.t by omega),decide_eq_true (show s.t≤3600000 by omega),decide_eq_true (show 1≤s.o by omega),decide_eq_true (show s.o≤4294967296 by omega)];rfl
 have w1:=Qh5 s.o a5 a6;have hax:=Zql s;have hsg:sgPV s= .agg [.int .i64 s.f,.int .i64 s.t,.int .i64 s.o,.slc (s.x.map (PV.int .i64)),.slc (s.y.map (PV.int .i64)),.slc (s.z.map (PV.int .i64))]:=rfl;rw [hsg]at hax ⊢;have wone:=Qh5 1 (by decide) (by decide);have hG: ∀i,((s.ax.take i).foldl gcdL s.o.natAbs)<2^64:=by
  intro i;have: ∀(L:List (List Int)) (g:Nat),g<2^64→(∀c∈L,∀x∈c,x.natAbs<2^64)→L.foldl gcdL g<2^64:=by
   intro L
   induction L with
   |nil=>intro g hg _;exact hg
   |cons c L ih=>intro g hg h;exact ih _ (Qq4 c hg (h c (by simp))) fun c' hc'=>h c' (by simp [hc'])
  exact this _ _ (Qcb ⟨a5,a6⟩) fun c hc' x hx=>Qcb (hc c (List.mem_of_mem_take hc') x hx)
 refine Qab (tb:=[]) 85 [.tmp 2] [0,1,2,3,5,7,32,37,38,39,69,70,71,72,73] mixed Tryz.func68 rfl (by kernel_rfl) ?_;repeat (first|simp -implicitDefEqProofs only [go_sem,Nat.reduceAdd,Nat.reduceMul,Nat.reduceEqDiff,Nat.reduceLT,Nat.reduceLeDiff,reduceCtorEq,wPV,g1',g2',g3',g4',g5']|(with_reducible refine Qaa w1 ?_ ?_ ?_);rfl;rfl|(with_reducible refine Qaa hax ?_ ?_ ?_);rfl;rfl)
 have z0:0≤3∧((s.ax.take 0).all fun c=>axOK c s.o)=true:=⟨Nat.zero_le _,rfl⟩;refine Qau mixed (fun i:{i:Nat // i≤3∧((s.ax.take i).all fun c=>axOK c s.o)=true}=>St.of [(1,.bp 0 6 0 0),(2,.bool false),(3,.bp 303 2 0 0),(37,.agg [Qbj s.x,Qbj s.y,Qbj s.z]),(38,.int .i64 (i.1:Int))]
  [(0,{els:=[sgPV s],esz:=6,ety:=121,fro:=0,live:=true,arr:=false}),(303,{els:=[wPV (((s.ax.take i.1).foldl gcdL s.o.natAbs:Nat):Int)],esz:=2,ety:=134,fro:=0,live:=true,arr:=false})]) (fun i=>3-i.1) ⟨0,z0⟩ ?_ ?_
 ·refine Qaj (θ:=[(0,0),(303,303)]) rfl ?_ ?_
  ·simp [Qae,lkp,ren1,ren0,Qai,Qbj]
  ·refine⟨⟨rfl,rfl,rfl,rfl,rfl,.inr ⟨rfl,_,_,rfl,rfl,rfl,rfl⟩⟩,⟨rfl,rfl,rfl,rfl,rfl,.inr ⟨rfl,_,_,rfl,rfl,?_,rfl⟩⟩,trivial⟩;have:((((s.ax.take 0).foldl gcdL s.o.natAbs:Nat):Nat):Int)=s.o:=by simp;omega
   rw [this];rfl
 ·rintro⟨i,hi,hall⟩;have hGi:=hG i;by_cases hA:i<3
  ·have hA':((i:Int)<3)=True:=eq_true (by omega);have hA2:=ltT hA;have h0:=nnT i;have hx:=Q75 s i hA;have hwk:=Qak (a:=i) (by omega);have hcx:=hc (s.ax[i]) (List.getElem_mem hA);have hlx:=hl (s.ax[i]) (List.getElem_mem hA);have htk:(s.ax.take (i+1)).all (fun c=>axOK c s.o)=axOK s.ax[i] s.o:=by rw [Qcp s.ax i hA,List.all_append,hall];simp
   have hbad:axOK s.ax[i] s.o=false→Qbm s=false:=fun h=>by
    unfold Qbm;rw [Zti (p:=fun c=>axOK c s.o) (l:=s.ax) (i:=i) hA h];simp
   have hfd:(s.ax.take (i+1)).foldl gcdL s.o.natAbs=gcdL ((s.ax.take i).foldl gcdL s.o.natAbs) s.ax[i]:=by rw [Qcp s.ax i hA,List.foldl_append];rfl
   generalize hC:s.ax[i]=c at*;generalize (s.ax.take i).foldl gcdL s.o.natAbs=G at*;by_cases q1:c.length<1
   ·have q1':((c.length:Int)<1)=True:=eq_true (by omega);have e:=hbad (by unfold axOK Qm4;rw [decide_eq_false (show¬1≤c.length by omega)];rfl);repeat simp -implicitDefEqProofs only [go_sem,Nat.reduceAdd,Nat.reduceMul,Nat.reduceEqDiff,Nat.reduceLT,Nat.reduceLeDiff,reduceCtorEq,hA',hA2,h0,hx,Int.toNat_natCast,List.length_map,q1',e]
   have q1':((c.length:Int)<1)=False:=eq_false (by omega);by_cases q2:6<c.length
   ·have q2':((6:Int)<(c.length:Int))=True:=eq_true (by omega);have e:=hbad (by unfold axOK Qm4;rw [decide_eq_false (show¬c.length≤6 by omega)];simp);repeat simp -implicitDefEqProofs only [go_sem,Nat.reduceAdd,Nat.reduceMul,Nat.reduceEqDiff,Nat.reduceLT,Nat.reduceLeDiff,reduceCtorEq,hA',hA2,h0,hx,Int.toNat_natCast,List.length_map,q1',q2',e]
   have q2':((6:Int)<(c.length:Int))=False:=eq_false (by omega);have hbv:=Q74 c s.o (by omega) (by omega) hcx (by omega) (by omega);have hlt:c.length-1<c.length:=by omega
   have wl:=Qme (n:=c.length) (by omega) (by omega);have hgl:=Qf0 c (c.length-1) hlt;have n1:=nnT (c.length-1);have hl0:=Qnp hlt
   -- the rest, behind the test of the last coefficient
   have rest:axOK c s.o=Qet c s.o c.length→ ∀(t:Bool),Qet c s.o c.length=t→True:=fun _ _ _=>trivial;by_cases q3:1<c.length
   ·have q3':((1:Int)<(c.length:Int))=True:=eq_true (by omega);by_cases q4:c[c.length-1]=0
    ·have q4':(c[c.length-1]==0)=true:=by rw [q4];rfl
     have e:=hbad (by unfold axOK Qm4;rw [hl0,q4',decide_eq_false (show¬c.length≤1 by omega)];simp);repeat simp -implicitDefEqProofs only [go_sem,Nat.reduceAdd,Nat.reduceMul,Nat.reduceEqDiff,Nat.reduceLT,Nat.reduceLeDiff,reduceCtorEq,hA',hA2,h0,hx,Int.toNat_natCast,List.length_map,q1',q2',q3',q4',wl,n1,hgl,e]
    have q4':(c[c.length-1]==0)=false:=by simp only [beq_eq_false_iff_ne,ne_eq];exact q4
    have e1:axOK c s.o=Qet c s.o c.length:=by unfold axOK Qm4;rw [hl0,q4',decide_eq_true (show 1≤c.length by omega),decide_eq_true (show c.length≤6 by omega)];simp
    cases hb:Qet c s.o c.length with
    |false=>
     rw [hb]at hbv e1;have e:=hbad e1;repeat (first|simp -implicitDefEqProofs only [go_sem,Nat.reduceAdd,Nat.reduceMul,Nat.reduceEqDiff,Nat.reduceLT,Nat.reduceLeDiff,reduceCtorEq,hA',hA2,h0,hx,Int.toNat_natCast,List.length_map,q1',q2',q3',q4',wl,n1,hgl,e]|(with_reducible refine Qaa hbv ?_ ?_ ?_);rfl;rfl)
    |true=>
     rw [hb]at hbv e1;repeat (first|simp -implicitDefEqProofs only [go_sem,Nat.reduceAdd,Nat.reduceMul,Nat.reduceEqDiff,Nat.reduceLT,Nat.reduceLeDiff,reduceCtorEq,hA',hA2,h0,hx,Int.toNat_natCast,List.length_map,q1',q2',q3',q4',wl,n1,hgl]|(with_reducible refine Qaa hbv ?_ ?_ ?_);rfl;rfl)
     refine Qau mixed (fun k:{k:Nat // k≤c.length}=>St.of [(1,.bp 0 6 0 0),(2,.bool false),(3,.bp 303 2 0 0),(37,.agg [Qbj s.x,Qbj s.y,Qbj s.z]),(38,.int .i64 (i:Int)),(70,Qbj c),(71,.int .i64 (c.length:Int)),(72,.int .i64 (k.1:Int))]
      [(0,{els:=[sgPV s],esz:=6,ety:=121,fro:=0,live:=true,arr:=false}),(303,{els:=[wPV ((gcdL G (c.take k.1):Nat):Int)],esz:=2,ety:=134,fro:=0,live:=true,arr:=false})]) (fun k=>c.length-k.1) ⟨0,Nat.zero_le _⟩ ?_ ?_
     ·refine Qaj (θ:=[(0,0),(303,303)]) rfl ?_ ?_
      ·simp [Qae,lkp,ren1,ren0,Qai,Qbj]
      ·exact⟨⟨rfl,rfl,rfl,rfl,rfl,.inr ⟨rfl,_,_,rfl,rfl,rfl,rfl⟩⟩,⟨rfl,rfl,rfl,rfl,rfl,.inr ⟨rfl,_,_,rfl,rfl,rfl,rfl⟩⟩,trivial⟩
     ·rintro⟨k,hk⟩;by_cases hB:k<c.length
      ·have hB':=ltT hB;have n0:=nnT k;have hgk:=Qf0 c k hB;have hwk2:=Qak (a:=k) (by omega);obtain⟨k1,k2⟩:=hcx _ (List.getElem_mem hB);have o1:=Qh5 c[k] k1 k2;have x1:=Qcb (hcx _ (List.getElem_mem hB));have x2:((gcdL G (c.take k):Nat):Int).natAbs<2^64:=by rw [Int.natAbs_natCast];exact Qq4 _ hGi fun x hx=>Qcb (hcx x (List.mem_of_mem_take hx))
       have m:=Qtx (Qa5 x2 (by decide)) (Qa5 x1 (by decide));rw [Int.natAbs_natCast,←Qm5,←Qcp c k hB]at m;generalize hX:gcdL G (c.take (k+1))=X at*;generalize gcdL G (c.take k)=Y at*;repeat (first|simp -implicitDefEqProofs only [go_sem,Nat.reduceAdd,Nat.reduceMul,Nat.reduceEqDiff,Nat.reduceLT,Nat.reduceLeDiff,reduceCtorEq,hB',n0,hgk,hwk2,wPV,Int.toNat_natCast]|(with_reducible refine Qaa o1 ?_ ?_ ?_);rfl;rfl|(with_reducible refine Qaa m ?_ ?_ ?_);rfl;rfl|(with_reducible refine And.intro (Qac _ _ (by kernel_rfl)) ?_))
       refine⟨⟨k+1,hB⟩,by simp only;omega,Qaj (θ:=[(0,0),(303,303)]) rfl ?_ ?_⟩
       ·simp [Qae,lkp,ren1,ren0,Qai,Qbj]
       ·simp only [hX];exact⟨⟨rfl,rfl,rfl,rfl,rfl,.inr ⟨rfl,_,_,rfl,rfl,rfl,rfl⟩⟩,⟨rfl,rfl,rfl,rfl,rfl,.inr ⟨rfl,_,_,rfl,rfl,rfl,rfl⟩⟩,trivial⟩
      ·have hB':=ltF hB;obtain rfl:k=c.length:=by omega
       repeat simp -implicitDefEqProofs only [go_sem,Nat.reduceAdd,Nat.reduceMul,Nat.reduceEqDiff,Nat.reduceLT,Nat.reduceLeDiff,reduceCtorEq,hB',hwk]
       refine⟨⟨i+1,hA,by rw [htk];exact e1⟩,by simp only;omega,Qaj (θ:=[(0,0),(303,303)]) rfl ?_ ?_⟩
       ·simp [Qae,lkp,ren1,ren0,Qai,Qbj]
       ·simp only [hfd];rw [List.take_length];exact⟨⟨rfl,rfl,rfl,rfl,rfl,.inr ⟨rfl,_,_,rfl,rfl,rfl,rfl⟩⟩,⟨rfl,rfl,rfl,rfl,rfl,.inr ⟨rfl,_,_,rfl,rfl,rfl,rfl⟩⟩,trivial⟩
   ·have q3':((1:Int)<(c.length:Int))=False:=eq_false (by omega);have e1:axOK c s.o=Qet c s.o c.length:=by unfold axOK Qm4;rw [decide_eq_true (show 1≤c.length by omega),decide_eq_true (show c.length≤6 by omega),decide_eq_true (show c.length≤1 by omega)];simp
    cases hb:Qet c s.o c.length with
    |false=>
     rw [hb]at hbv e1;have e:=hbad e1;repeat (first|simp -implicitDefEqProofs only [go_sem,Nat.reduceAdd,Nat.reduceMul,Nat.reduceEqDiff,Nat.reduceLT,Nat.reduceLeDiff,reduceCtorEq,hA',hA2,h0,hx,Int.toNat_natCast,List.length_map,q1',q2',q3',e]|(with_reducible refine Qaa hbv ?_ ?_ ?_);rfl;rfl)
    |true=>
     rw [hb]at hbv e1;repeat (first|simp -implicitDefEqProofs only [go_sem,Nat.reduceAdd,Nat.reduceMul,Nat.reduceEqDiff,Nat.reduceLT,Nat.reduceLeDiff,reduceCtorEq,hA',hA2,h0,hx,Int.toNat_natCast,List.length_map,q1',q2',q3']|(with_reducible refine Qaa hbv ?_ ?_ ?_);rfl;rfl)
     refine Qau mixed (fun k:{k:Nat // k≤c.length}=>St.of [(1,.bp 0 6 0 0),(2,.bool false),(3,.bp 303 2 0 0),(37,.agg [Qbj s.x,Qbj s.y,Qbj s.z]),(38,.int .i64 (i:Int)),(70,Qbj c),(71,.int .i64 (c.length:Int)),(72,.int .i64 (k.1:Int))]
      [(0,{els:=[sgPV s],esz:=6,ety:=121,fro:=0,live:=true,arr:=false}),(303,{els:=[wPV ((gcdL G (c.take k.1):Nat):Int)],esz:=2,ety:=134,fro:=0,live:=true,arr:=false})]) (fun k=>c.length-k.1) ⟨0,Nat.zero_le _⟩ ?_ ?_
     ·refine Qaj (θ:=[(0,0),(303,303)]) rfl ?_ ?_
      ·simp [Qae,lkp,ren1,ren0,Qai,Qbj]
      ·exact⟨⟨rfl,rfl,rfl,rfl,rfl,.inr ⟨rfl,_,_,rfl,rfl,rfl,rfl⟩⟩,⟨rfl,rfl,rfl,rfl,rfl,.inr ⟨rfl,_,_,rfl,rfl,rfl,rfl⟩⟩,trivial⟩
     ·rintro⟨k,hk⟩;by_cases hB:k<c.length
      ·have hB':=ltT hB;have n0:=nnT k;have hgk:=Qf0 c k hB;have hwk2:=Qak (a:=k) (by omega);obtain⟨k1,k2⟩:=hcx _ (List.getElem_mem hB);have o1:=Qh5 c[k] k1 k2;have x1:=Qcb (hcx _ (List.getElem_mem hB));have x2:((gcdL G (c.take k):Nat):Int).natAbs<2^64:=by rw [Int.natAbs_natCast];exact Qq4 _ hGi fun x hx=>Qcb (hcx x (List.mem_of_mem_take hx))
       have m:=Qtx (Qa5 x2 (by decide)) (Qa5 x1 (by decide));rw [Int.natAbs_natCast,←Qm5,←Qcp c k hB]at m;generalize hX:gcdL G (c.take (k+1))=X at*;generalize gcdL G (c.take k)=Y at*;repeat (first|simp -implicitDefEqProofs only [go_sem,Nat.reduceAdd,Nat.reduceMul,Nat.reduceEqDiff,Nat.reduceLT,Nat.reduceLeDiff,reduceCtorEq,hB',n0,hgk,hwk2,wPV,Int.toNat_natCast]|(with_reducible refine Qaa o1 ?_ ?_ ?_);rfl;rfl|(with_reducible refine Qaa m ?_ ?_ ?_);rfl;rfl|(with_reducible refine And.intro (Qac _ _ (by kernel_rfl)) ?_))
       refine⟨⟨k+1,hB⟩,by simp only;omega,Qaj (θ:=[(0,0),(303,303)]) rfl ?_ ?_⟩
       ·simp [Qae,lkp,ren1,ren0,Qai,Qbj]
       ·simp only [hX];exact⟨⟨rfl,rfl,rfl,rfl,rfl,.inr ⟨rfl,_,_,rfl,rfl,rfl,rfl⟩⟩,⟨rfl,rfl,rfl,rfl,rfl,.inr ⟨rfl,_,_,rfl,rfl,rfl,rfl⟩⟩,trivial⟩
      ·have hB':=ltF hB;obtain rfl:k=c.length:=by omega
       repeat simp -implicitDefEqProofs only [go_sem,Nat.reduceAdd,Nat.reduceMul,Nat.reduceEqDiff,Nat.reduceLT,Nat.reduceLeDiff,reduceCtorEq,hB',hwk]
       refine⟨⟨i+1,hA,by rw [htk];exact e1⟩,by simp only;omega,Qaj (θ:=[(0,0),(303,303)]) rfl ?_ ?_⟩
       ·simp [Qae,lkp,ren1,ren0,Qai,Qbj]
       ·simp only [hfd];rw [List.take_length];exact⟨⟨rfl,rfl,rfl,rfl,rfl,.inr ⟨rfl,_,_,rfl,rfl,rfl,rfl⟩⟩,⟨rfl,rfl,rfl,rfl,rfl,.inr ⟨rfl,_,_,rfl,rfl,rfl,rfl⟩⟩,trivial⟩
  ·have hA':((i:Int)<3)=False:=eq_false (by omega);obtain rfl:i=3:=by omega
   have et:s.ax.take 3=s.ax:=rfl;have e:Qbm s=((s.ax.take 3).foldl gcdL s.o.natAbs==1):=by rw [et]at hall ⊢;unfold Qbm;rw [er,hall];simp
   rw [e];simp only;generalize (s.ax.take 3).foldl gcdL s.o.natAbs=G at*;repeat (first|simp -implicitDefEqProofs only [go_sem,Nat.reduceAdd,Nat.reduceMul,Nat.reduceEqDiff,Nat.reduceLT,Nat.reduceLeDiff,Nat.reduceSub,reduceCtorEq,Int.reduceLT,hA',wPV]|(with_reducible refine Qaa wone ?_ ?_ ?_);rfl;rfl|(with_reducible refine And.intro (Qac _ _ (by kernel_rfl)) ?_))
   have h1:=Qnn (G:Int) 1;have h2:decide ((1:Int)<0)=false:=rfl;rw [h2]at h1;have h3:(decide ((G:Int)<0)==false)= !decide ((G:Int)<0):=by cases decide ((G:Int)<0)<;>rfl
   rw [h3]at h1;rw [h1];congr 1;rw [Bool.eq_iff_iff,decide_eq_true_eq,beq_iff_eq];omega
end Go.Proofs.YtdpajapkhembcaaGreatDoor

namespace Go.Dg
def plQ (s:Sg) (a d:Int) (i:Nat):Int:=plP s a d i/(plG s a d 3:Int)
def plO (s:Sg) (a d:Int):Int:=s.o*d^5/(plG s a d 3:Int)
def Q5r (s:Sg) (a d:Int) (s':Sg) (a' d':Int):Bool:=decide (plQ s a d 0=plQ s' a' d' 0)&&(decide (plQ s a d 1=plQ s' a' d' 1)&&(decide (plQ s a d 2=plQ s' a' d' 2)&&decide (plO s a d=plO s' a' d')))
def Qfg (a b:Sg):Bool:=decide (a.t=b.f)&&Q5r a 1 1 b 0 1
def sg0:Sg:=⟨0,0,0,[],[],[]⟩
def vpAt (p:List Sg) (j:Nat):Bool:=Qbm (p.getD j sg0)&&(decide (j=0)||Qfg (p.getD (j-1) sg0) (p.getD j sg0))
def vpTo (p:List Sg) (i:Nat):Bool:=(List.range i).all (vpAt p)
def Qbq (p:List Sg):Bool:=vpTo p p.length&&(decide (1≤p.length)&&decide (p.length≤256))
theorem Qta (p:List Sg) (i:Nat):vpTo p (i+1)=(vpTo p i&&vpAt p i):=by simp [vpTo,List.range_succ]
theorem Zrq {p:List Sg} {j m:Nat} (h:vpAt p j=false) (hm:j<m):vpTo p m=false:=by
 unfold vpTo;rw [List.all_eq_false];exact⟨j,List.mem_range.2 hm,by simp [h]⟩
theorem Qpo {p:List Sg} {j:Nat} (h:vpAt p j=false) (hm:j<p.length):Qbq p=false:=by unfold Qbq;rw [Zrq h hm];rfl
theorem sgD {p:List Sg} {i:Nat} (h:i<p.length):p.getD i sg0=p[i]:=by rw [List.getD_eq_getElem?_getD,List.getElem?_eq_getElem h];rfl
theorem Qpp {p:List Sg} {i j:Nat} (h:vpTo p i=true) (hj:j<i):Qbm (p.getD j sg0)=true:=by
 have:=List.all_eq_true.1 h j (List.mem_range.2 hj);unfold vpAt at this;simp only [Bool.and_eq_true]at this;exact this.1
theorem Qbv {s:Sg} (h:Qbm s=true):(0≤s.f∧s.f<s.t∧s.t≤3600000∧1≤s.o∧s.o≤4294967296)∧(∀c∈s.ax,axOK c s.o=true)∧s.ax.foldl gcdL s.o.natAbs=1:=by
 unfold Qbm rngS at h;simp only [Bool.and_eq_true,decide_eq_true_eq,List.all_eq_true,beq_iff_eq]at h;obtain⟨⟨h1,h2,h3,h4,h5⟩,h6,h7⟩:=h;exact⟨⟨h1,h2,h3,h4,h5⟩,h6,h7⟩
theorem Qbh {c:List Int} {o:Int} (h:axOK c o=true):1≤c.length∧c.length≤6∧(1<c.length→c.getD (c.length-1) 0≠0)∧Qet c o c.length=true:=by
 unfold axOK Qm4 at h;simp only [Bool.and_eq_true,decide_eq_true_eq,Bool.or_eq_true,Bool.not_eq_true',beq_eq_false_iff_ne]at h;obtain⟨⟨h1,h2,h3⟩,h4⟩:=h;exact⟨h1,h2,fun h5=>h3.elim (fun h6=>by omega) id,h4⟩
theorem Qi1 {s:Sg} (h:Qbm s=true): ∀c∈s.ax,c.length≤6:=fun c hc=>(Qbh ((Qbv h).2.1 c hc)).2.1
theorem Qi2 {s:Sg} (h:Qbm s=true):1≤s.o:=(Qbv h).1.2.2.2.1
def cwB:Bool:=(List.range 6).all fun n=>(List.range (n+1)).all fun j=>(List.range (j+1)).all fun k=>Nat.beq (bin n j*cw n j k) (60*bin (n-k) (j-k))
theorem Zfj:cwB=true:=by decide
theorem Z3d {n j k:Nat} (hn:n≤5) (hj:j≤n) (hk:k≤j):bin n j*cw n j k=60*bin (n-k) (j-k):=by
  have h:=Zfj;unfold cwB at h;simp only [List.all_eq_true,List.mem_range]at h;exact Nat.eq_of_beq_eq_true (h n (by omega) j (by omega) k (by omega))
theorem Q0z (f:List Int) (n j:Nat) (h:j<n+1):(trans f 1 n).getD j 0=sm (fun i=>f.getD i 0*(bin (n-i) (j-i):Int)) (j+1):=by
  unfold trans;rw [Q5o,if_pos h];refine Qcz _ fun i _=> ?_;rw [Int.one_pow,Int.one_mul]
theorem Q5s {c:List Int} {n j:Nat} (hc:c.length=n+1) (hn:n≤5) (hj:j≤n):(bin n j:Int)*ctl c j=60*(trans c 1 n).getD j 0:=by
  rw [Q0z c n j (by omega),ctl,←Qes,←Qes];refine Qcz _ fun k hk=> ?_;have h:=Z3d hn hj (show k≤j by omega);have hn':c.length-1=n:=by omega
  rw [hn'];have h2:((bin n j:Nat):Int)*(cw n j k:Int)=60*(bin (n-k) (j-k):Int):=by
    rw [←Int.natCast_mul,h,Int.natCast_mul];rfl
  calc (bin n j:Int)*(c.getD k 0*(cw n j k:Int))=c.getD k 0*((bin n j:Int)*(cw n j k:Int)):=by
        rw [←Int.mul_assoc,Int.mul_comm (bin n j:Int),Int.mul_assoc]
    _=c.getD k 0*(60*(bin (n-k) (j-k):Int)):=by rw [h2]
    _=60*(c.getD k 0*(bin (n-k) (j-k):Int)):=by rw [←Int.mul_assoc,Int.mul_comm (c.getD k 0),Int.mul_assoc]
theorem Zrr {c:List Int} {n:Nat} (hc:c.length=n+1) (hn:n≤5) (a b:Int):60*hev c a (a+b)=sm (fun j=>ctl c j*((bin n j:Int)*(a^j*b^(n-j)))) (n+1):=by
  have h:=Q0y hc 1 a b;rw [Int.one_mul]at h;rw [←h,Qs7,Qs8,←Qes];refine Qcz _ fun j hj=> ?_;have h2:=Q5s hc hn (show j≤n by omega);have e:n+1-1-j=n-j:=by omega
  rw [e,←Int.mul_assoc 60,←h2,Int.mul_comm (bin n j:Int),Int.mul_assoc]
theorem Q5t {c:List Int} {n:Nat} {M a b:Int} (hc:c.length=n+1) (hn:n≤5) (ha:0≤a) (hb:0≤b) (hM: ∀j,j≤n→ -M≤ctl c j∧ctl c j≤M):
    -(M*(a+b)^n)≤60*hev c a (a+b)∧60*hev c a (a+b)≤M*(a+b)^n:=by
  have hw: ∀j,0≤(bin n j:Int)*(a^j*b^(n-j)):=fun j=>Int.mul_nonneg (Int.natCast_nonneg _) (Int.mul_nonneg (Int.pow_nonneg ha) (Int.pow_nonneg hb));rw [Zrr hc hn,←Qvs a b n,←Qes];constructor
  · have e: -(sm (fun i=>M*((bin n i:Int)*(a^i*b^(n-i)))) (n+1))=sm (fun i=> -M*((bin n i:Int)*(a^i*b^(n-i)))) (n+1):=by
      rw [Qes,Qes,Int.neg_mul]
    rw [e];exact Zrm _ fun j hj=>Int.mul_le_mul_of_nonneg_right (hM j (by omega)).1 (hw j)
  · exact Zrm _ fun j hj=>Int.mul_le_mul_of_nonneg_right (hM j (by omega)).2 (hw j)
theorem Zrs {c:List Int} {n:Nat} (hc:c.length=n+1) (hn:n≤5) (a d:Int):plc c a d=d^(5-n)*hev c a d:=by
  rw [Qs7,←Qes,plc];refine Qcz _ fun k hk=> ?_;have e:5-k=(5-n)+(c.length-1-k):=by omega
  unfold plcT;rw [e,Int.pow_add];generalize d^(5-n)=D;generalize d^(c.length-1-k)=E;generalize a^k=A;generalize c.getD k 0=X;rw [←Int.mul_assoc,←Int.mul_assoc,←Int.mul_assoc,←Int.mul_assoc,Int.mul_comm D X,Int.mul_assoc X A D,Int.mul_comm A D,←Int.mul_assoc]
theorem Q5u {c:List Int} {o a d:Int} (h:axOK c o=true) (ha:0≤a) (hd:a≤d): -(1048576*(o*d^5))≤plc c a d∧plc c a d≤1048576*(o*d^5):=by
  obtain⟨h1,h2,_,h3⟩:=Qbh h;obtain⟨n,hn⟩: ∃n,c.length=n+1:=⟨c.length-1,by omega⟩;have hM: ∀j,j≤n→ -(62914560*o)≤ctl c j∧ctl c j≤62914560*o:=by
    intro j hj;unfold Qet at h3;have:=List.all_eq_true.1 h3 j (List.mem_range.2 (by omega));simp only [decide_eq_true_eq]at this;omega
  obtain⟨k1,k2⟩:=Q5t hn (by omega) ha (show 0≤d-a by omega) hM;have e:a+(d-a)=d:=by omega
  rw [e]at k1 k2;rw [Zrs hn (by omega)];have hd0:0≤d^(5-n):=Int.pow_nonneg (by omega);have e5:d^5=d^(5-n)*d^n:=by rw [←Int.pow_add];congr 1;omega
  have k3: -(1048576*(o*d^n))≤hev c a d:=by
    have:62914560*o*d^n=60*(1048576*(o*d^n)):=by
      generalize d^n=D;rw [Int.mul_assoc,show(62914560:Int)=60*1048576 from rfl,Int.mul_assoc]
    omega
  have k4:hev c a d≤1048576*(o*d^n):=by
    have:62914560*o*d^n=60*(1048576*(o*d^n)):=by
      generalize d^n=D;rw [Int.mul_assoc,show(62914560:Int)=60*1048576 from rfl,Int.mul_assoc]
    omega
  have e6:1048576*(o*d^5)=d^(5-n)*(1048576*(o*d^n)):=by
    rw [e5];generalize d^(5-n)=D;generalize d^n=E;rw [←Int.mul_assoc o,Int.mul_comm o D,Int.mul_assoc D,←Int.mul_assoc 1048576,Int.mul_comm 1048576 D,Int.mul_assoc]
  rw [e6];constructor
  · rw [←Int.mul_neg];exact Int.mul_le_mul_of_nonneg_left k3 hd0
  · exact Int.mul_le_mul_of_nonneg_left k4 hd0
theorem Zrt (s:Sg) (a d:Int):(plG s a d 3:Int)∣s.o*d^5∧ ∀i,i<3→(plG s a d 3:Int)∣plP s a d i:=by
  have h3:=Qfu s a d 2;have h2:=Qfu s a d 1;have h1:=Qfu s a d 0;have d32:plG s a d 3∣plG s a d 2:=by rw [h3];exact Nat.gcd_dvd_left _ _
  have d21:plG s a d 2∣plG s a d 1:=by rw [h2];exact Nat.gcd_dvd_left _ _
  have d10:plG s a d 1∣plG s a d 0:=by rw [h1];exact Nat.gcd_dvd_left _ _
  have p2:plG s a d 3∣(plP s a d 2).natAbs:=by rw [h3];exact Nat.gcd_dvd_right _ _
  have p1:plG s a d 2∣(plP s a d 1).natAbs:=by rw [h2];exact Nat.gcd_dvd_right _ _
  have p0:plG s a d 1∣(plP s a d 0).natAbs:=by rw [h1];exact Nat.gcd_dvd_right _ _
  refine⟨?_,fun i hi=> ?_⟩
  · have:plG s a d 3∣(s.o*d^5).natAbs:=Nat.dvd_trans d32 (Nat.dvd_trans d21 d10);exact Int.dvd_natAbs.1 (Int.natCast_dvd_natCast.2 this)
  · rcases(show i=0∨i=1∨i=2 by omega)with rfl|rfl|rfl
    · exact Int.dvd_natAbs.1 (Int.natCast_dvd_natCast.2 (Nat.dvd_trans (Nat.dvd_trans d32 d21) p0))
    · exact Int.dvd_natAbs.1 (Int.natCast_dvd_natCast.2 (Nat.dvd_trans d32 p1))
    · exact Int.dvd_natAbs.1 (Int.natCast_dvd_natCast.2 p2)
/-- A coordinate of a place is within the bounds. -/
theorem Q5v {s:Sg} {a d:Int} (hv:Qbm s=true) (ha:0≤a) (hd:a≤d) (h1:1≤d) (i:Nat) (hi:i<3):0<plO s a d∧ -(1048576*plO s a d)≤plQ s a d i∧plQ s a d i≤1048576*plO s a d:=by
  have ho:=Qi2 hv;have hg:=Qvt ho h1 3 (s:=s) (a:=a);obtain⟨⟨x,hx⟩,hP⟩:=Zrt s a d;obtain⟨y,hy⟩:=hP i hi;have hi':i<s.ax.length:=hi;have hm:s.ax.getD i []=s.ax[i]:=by rw [List.getD_eq_getElem?_getD,List.getElem?_eq_getElem hi'];rfl
  have hb:=Q5u ((Qbv hv).2.1 _ (List.getElem_mem hi')) ha hd;have hP2:plP s a d i=plc s.ax[i] a d:=by unfold plP;rw [hm]
  rw [←hP2]at hb;unfold plO plQ;have hpos:0<s.o*d^5:=Int.mul_pos (by omega) (Int.pow_pos (by omega));rw [hx]at hb hpos ⊢;rw [hy]at hb ⊢;have hG:(0:Int)<(plG s a d 3:Int):=by omega
  generalize ((plG s a d 3:Nat):Int)=G at*;rw [Int.mul_ediv_cancel_left _ (by omega),Int.mul_ediv_cancel_left _ (by omega)];have e:1048576*(G*x)=G*(1048576*x):=by rw [←Int.mul_assoc,Int.mul_comm 1048576 G,Int.mul_assoc]
  rw [e,←Int.mul_neg]at hb;exact⟨Int.lt_of_mul_lt_mul_left (a:=G) (by rw [Int.mul_zero];exact hpos) (Int.le_of_lt hG),Int.le_of_mul_le_mul_left hb.1 hG,Int.le_of_mul_le_mul_left hb.2 hG⟩
/-- Rounding. -/
def rnd (x o:Int):Int:=(x+x+o)/(o+o)
theorem Q5w {x o:Int} (ho:0<o) (h1: -(1048576*o)≤x) (h2:x≤1048576*o): -1048576≤rnd x o∧rnd x o≤1048576:=by
  unfold rnd;constructor
  · exact(Int.le_ediv_iff_mul_le (by omega)).2 (by omega)
  · have:=(Int.ediv_lt_iff_lt_mul (a:=x+x+o) (b:=1048577) (show 0<o+o by omega)).2 (by omega);omega
/-! ### times -/
theorem Qcv {p:List Sg} (h:Qbq p=true):vpTo p p.length=true∧1≤p.length∧p.length≤256:=by
  unfold Qbq at h;simp only [Bool.and_eq_true,decide_eq_true_eq]at h;exact h
theorem Qfh {p:List Sg} (h:Qbq p=true) (i:Nat) (hi:i<p.length):Qbm p[i]=true:=by
  have:=Qpp (Qcv h).1 hi
  rwa [sgD hi]at this
theorem Qk2 {p:List Sg} (h:Qbq p=true) (i:Nat) (hi:i+1<p.length):Qfg p[i] p[i+1]=true:=by
  have h1:=(Qcv h).1;unfold vpTo at h1;have:=List.all_eq_true.1 h1 (i+1) (List.mem_range.2 hi);unfold vpAt at this;simp only [Bool.and_eq_true,Bool.or_eq_true,decide_eq_true_eq]at this;have h2:=this.2.resolve_left (by omega)
  rwa [Nat.add_sub_cancel,sgD (show i<p.length by omega),sgD hi]at h2
theorem Qm6 {a b:Sg} (h:Qfg a b=true):a.t=b.f:=by
  unfold Qfg at h;simp only [Bool.and_eq_true,decide_eq_true_eq]at h;exact h.1
theorem Qvu {p:List Sg} (h:Qbq p=true) (i:Nat) (hi:i+1<p.length):p[i].t<p[i+1].t:=by
  have h1:=Qm6 (Qk2 h i hi);have h2:=(Qbv (Qfh h (i+1) hi)).1;omega
theorem Qm7 {p:List Sg} (h:Qbq p=true): ∀(j i:Nat) (hj:j<p.length) (_:i≤j),(p[i]'(by omega)).t≤p[j].t
  |0,i,hj,hij=>by
        obtain rfl:i=0:=by omega
        exact Int.le_refl _
  |j+1,i,hj,hij=>by
    by_cases e:i=j+1
    · subst e;exact Int.le_refl _
    · have h1:=Qm7 h j i (by omega) (by omega);have h2:=Qvu h j hj;omega
/-- The segment of a time. -/
def atIx (p:List Sg) (t:Int):Nat:=p.findIdx fun s=>decide (t≤s.t)
def pEnd (p:List Sg):Int:=(p.getD (p.length-1) sg0).t
def pBeg (p:List Sg):Int:=(p.getD 0 sg0).f
theorem Zru {p:List Sg} {t:Int} (h:Qbq p=true) (ht:t≤pEnd p):atIx p t<p.length:=by
  have hl:=(Qcv h).2.1;unfold atIx;rw [List.findIdx_lt_length];have hi:p.length-1<p.length:=by omega
  refine⟨p[p.length-1],List.getElem_mem hi,?_⟩;unfold pEnd at ht;rw [sgD hi]at ht;exact decide_eq_true ht
theorem Q5x {p:List Sg} {t:Int} (hi:atIx p t<p.length):t≤(p[atIx p t]).t:=by
  have:=List.findIdx_getElem (w:=hi);exact of_decide_eq_true this
theorem Qm8 {p:List Sg} {t:Int} {i:Nat} (hi:i<atIx p t) (hl:i<p.length):p[i].t<t:=by
  have:=List.not_of_lt_findIdx hi;exact Int.not_le.1 (of_decide_eq_false this)
theorem Q5y {p:List Sg} {t:Int} (h:Qbq p=true) (hb:pBeg p≤t) (hi:atIx p t<p.length):(p[atIx p t]).f≤t:=by
  rcases Nat.eq_zero_or_pos (atIx p t)with e|e
  · unfold pBeg at hb;have h0:0<p.length:=by omega
    rw [sgD h0]at hb;simp only [e];exact hb
  · have h1:=Qm8 (p:=p) (t:=t) (i:=atIx p t-1) (by omega) (by omega);have h2:=Qm6 (Qk2 h (atIx p t-1) (by omega));have e2:atIx p t-1+1=atIx p t:=by omega
    simp only [e2]at h2;omega
def nxE (out:List Int) (a b:Int) (k j:Nat):Int:=(if j<k then out.getD j 0*a else 0)+(if 0<j∧j≤k then out.getD (j-1) 0*b else 0)
def nxL (out:List Int) (a b:Int) (k:Nat):List Int:=(List.range (out.length+1)).map (nxE out a b k)
def hstep (out:List Int) (a b c:Int):List Int:=(nxL out a b out.length).set 0 ((nxL out a b out.length).getD 0 0+c)
def mdG (L:Nat→List Int) (o:Int):Nat→Nat
 |0=>o.natAbs
 |i+1=>gcdL (mdG L o i) (L i)
def mdO (L:Nat→List Int) (o:Int):Int:=o/(mdG L o 3:Int)
def Z3e (L:Nat→List Int) (o:Int):Bool:=decide (mdO L o≤4294967296)
def cmpC (c:List Int) (a b d:Int):List Int:=Zp7 (Zyw (Qs9 c) a b d (Qs9 c).length) (d^(6-c.length))
def cmpL (s:Sg) (a b d:Int) (i:Nat):List Int:=cmpC (s.ax.getD i []) a b d
def nrm:List Int→Nat
 | []=>0
 |x::l=>x.natAbs+nrm l
theorem Zrv {l:List Int} {x:Int} (h:x∈l):x.natAbs≤nrm l:=by
 induction l with
 |nil=>cases h
 |cons y l ih=>
  cases h with
  |head=>exact Nat.le_add_right _ _
  |tail _ h=>exact Nat.le_trans (ih h) (Nat.le_add_left _ _)
theorem Qbn {x K:Int} (h:(x.natAbs:Int)≤K): -K≤x∧x≤K:=by omega
theorem Q5z {c:List Int} {o:Int} (h:Qet c o c.length=true) (j:Nat) (hj:j<c.length):((ctl c j).natAbs:Int)≤62914560*o:=by
 unfold Qet at h;rw [List.all_eq_true]at h;exact of_decide_eq_true (h j (List.mem_range.2 hj))
theorem Zrw {o a0:Int} (ho:0≤o) (h: ∀j,j<1→((ctl [a0] j).natAbs:Int)≤62914560*o):(nrm [a0]:Int)≤1048576*o:=by
 have h0:=Qbn (h 0 (by decide));have e0:ctl [a0] 0=60*a0:=by simp [ctl,sm,cw,bin];omega
 generalize ctl [a0] 0=b0 at*;clear h;have f0:60*a0=1*b0:=by omega
 clear e0;have g0:(a0.natAbs:Int)≤1048576*o:=by omega
 clear h0 f0;simp only [nrm];generalize a0.natAbs=m0 at*;omega
theorem Zrx {o a0 a1:Int} (ho:0≤o) (h: ∀j,j<2→((ctl [a0,a1] j).natAbs:Int)≤62914560*o):(nrm [a0,a1]:Int)≤3145728*o:=by
 have h0:=Qbn (h 0 (by decide));have h1:=Qbn (h 1 (by decide));have e0:ctl [a0,a1] 0=60*a0:=by simp [ctl,sm,cw,bin];omega
 have e1:ctl [a0,a1] 1=60*a0+60*a1:=by simp [ctl,sm,cw,bin];omega
 generalize ctl [a0,a1] 0=b0 at*;generalize ctl [a0,a1] 1=b1 at*;clear h;have f0:60*a0=1*b0:=by omega
 have f1:60*a1= -1*b0+1*b1:=by omega
 clear e0 e1;have g0:(a0.natAbs:Int)≤1048576*o:=by omega
 have g1:(a1.natAbs:Int)≤2097152*o:=by omega
 clear h0 h1 f0 f1;simp only [nrm];generalize a0.natAbs=m0 at*;generalize a1.natAbs=m1 at*;omega
theorem Zry {o a0 a1 a2:Int} (ho:0≤o) (h: ∀j,j<3→((ctl [a0,a1,a2] j).natAbs:Int)≤62914560*o):(nrm [a0,a1,a2]:Int)≤9437184*o:=by
 have h0:=Qbn (h 0 (by decide));have h1:=Qbn (h 1 (by decide));have h2:=Qbn (h 2 (by decide));have e0:ctl [a0,a1,a2] 0=60*a0:=by simp [ctl,sm,cw,bin];omega
 have e1:ctl [a0,a1,a2] 1=60*a0+30*a1:=by simp [ctl,sm,cw,bin];omega
 have e2:ctl [a0,a1,a2] 2=60*a0+60*a1+60*a2:=by simp [ctl,sm,cw,bin];omega
 generalize ctl [a0,a1,a2] 0=b0 at*;generalize ctl [a0,a1,a2] 1=b1 at*;generalize ctl [a0,a1,a2] 2=b2 at*;clear h;have f0:60*a0=1*b0:=by omega
 have f1:30*a1= -1*b0+1*b1:=by omega
 have f2:60*a2=1*b0+ -2*b1+1*b2:=by omega
 clear e0 e1 e2;have g0:(a0.natAbs:Int)≤1048576*o:=by omega
 have g1:(a1.natAbs:Int)≤4194304*o:=by omega
 have g2:(a2.natAbs:Int)≤4194304*o:=by omega
 clear h0 h1 h2 f0 f1 f2;simp only [nrm];generalize a0.natAbs=m0 at*;generalize a1.natAbs=m1 at*;generalize a2.natAbs=m2 at*;omega
theorem Zrz {o a0 a1 a2 a3:Int} (ho:0≤o) (h: ∀j,j<4→((ctl [a0,a1,a2,a3] j).natAbs:Int)≤62914560*o):(nrm [a0,a1,a2,a3]:Int)≤28311552*o:=by
 have h0:=Qbn (h 0 (by decide));have h1:=Qbn (h 1 (by decide));have h2:=Qbn (h 2 (by decide));have h3:=Qbn (h 3 (by decide));have e0:ctl [a0,a1,a2,a3] 0=60*a0:=by simp [ctl,sm,cw,bin];omega
 have e1:ctl [a0,a1,a2,a3] 1=60*a0+20*a1:=by simp [ctl,sm,cw,bin];omega
 have e2:ctl [a0,a1,a2,a3] 2=60*a0+40*a1+20*a2:=by simp [ctl,sm,cw,bin];omega
 have e3:ctl [a0,a1,a2,a3] 3=60*a0+60*a1+60*a2+60*a3:=by simp [ctl,sm,cw,bin];omega
 generalize ctl [a0,a1,a2,a3] 0=b0 at*;generalize ctl [a0,a1,a2,a3] 1=b1 at*;generalize ctl [a0,a1,a2,a3] 2=b2 at*;generalize ctl [a0,a1,a2,a3] 3=b3 at*;clear h;have f0:60*a0=1*b0:=by omega
 have f1:20*a1= -1*b0+1*b1:=by omega
 have f2:20*a2=1*b0+ -2*b1+1*b2:=by omega
 have f3:60*a3= -1*b0+3*b1+ -3*b2+1*b3:=by omega
 clear e0 e1 e2 e3;have g0:(a0.natAbs:Int)≤1048576*o:=by omega
 have g1:(a1.natAbs:Int)≤6291456*o:=by omega
 have g2:(a2.natAbs:Int)≤12582912*o:=by omega
 have g3:(a3.natAbs:Int)≤8388608*o:=by omega
 clear h0 h1 h2 h3 f0 f1 f2 f3;simp only [nrm];generalize a0.natAbs=m0 at*;generalize a1.natAbs=m1 at*;generalize a2.natAbs=m2 at*;generalize a3.natAbs=m3 at*;omega
theorem Zr0 {o a0 a1 a2 a3 a4:Int} (ho:0≤o) (h: ∀j,j<5→((ctl [a0,a1,a2,a3,a4] j).natAbs:Int)≤62914560*o):(nrm [a0,a1,a2,a3,a4]:Int)≤84934656*o:=by
 have h0:=Qbn (h 0 (by decide));have h1:=Qbn (h 1 (by decide));have h2:=Qbn (h 2 (by decide));have h3:=Qbn (h 3 (by decide));have h4:=Qbn (h 4 (by decide));have e0:ctl [a0,a1,a2,a3,a4] 0=60*a0:=by simp [ctl,sm,cw,bin];omega
 have e1:ctl [a0,a1,a2,a3,a4] 1=60*a0+15*a1:=by simp [ctl,sm,cw,bin];omega
 have e2:ctl [a0,a1,a2,a3,a4] 2=60*a0+30*a1+10*a2:=by simp [ctl,sm,cw,bin];omega
 have e3:ctl [a0,a1,a2,a3,a4] 3=60*a0+45*a1+30*a2+15*a3:=by simp [ctl,sm,cw,bin];omega
 have e4:ctl [a0,a1,a2,a3,a4] 4=60*a0+60*a1+60*a2+60*a3+60*a4:=by simp [ctl,sm,cw,bin];omega
 generalize ctl [a0,a1,a2,a3,a4] 0=b0 at*;generalize ctl [a0,a1,a2,a3,a4] 1=b1 at*;generalize ctl [a0,a1,a2,a3,a4] 2=b2 at*;generalize ctl [a0,a1,a2,a3,a4] 3=b3 at*;generalize ctl [a0,a1,a2,a3,a4] 4=b4 at*;clear h;have f0:60*a0=1*b0:=by omega
 have f1:15*a1= -1*b0+1*b1:=by omega
 have f2:10*a2=1*b0+ -2*b1+1*b2:=by omega
 have f3:15*a3= -1*b0+3*b1+ -3*b2+1*b3:=by omega
 have f4:60*a4=1*b0+ -4*b1+6*b2+ -4*b3+1*b4:=by omega
 clear e0 e1 e2 e3 e4;have g0:(a0.natAbs:Int)≤1048576*o:=by omega
 have g1:(a1.natAbs:Int)≤8388608*o:=by omega
 have g2:(a2.natAbs:Int)≤25165824*o:=by omega
 have g3:(a3.natAbs:Int)≤33554432*o:=by omega
 have g4:(a4.natAbs:Int)≤16777216*o:=by omega
 clear h0 h1 h2 h3 h4 f0 f1 f2 f3 f4;simp only [nrm];generalize a0.natAbs=m0 at*;generalize a1.natAbs=m1 at*;generalize a2.natAbs=m2 at*;generalize a3.natAbs=m3 at*;generalize a4.natAbs=m4 at*;omega
theorem Zr1 {o a0 a1 a2 a3 a4 a5:Int} (ho:0≤o) (h: ∀j,j<6→((ctl [a0,a1,a2,a3,a4,a5] j).natAbs:Int)≤62914560*o):(nrm [a0,a1,a2,a3,a4,a5]:Int)≤254803968*o:=by
 have h0:=Qbn (h 0 (by decide));have h1:=Qbn (h 1 (by decide));have h2:=Qbn (h 2 (by decide));have h3:=Qbn (h 3 (by decide));have h4:=Qbn (h 4 (by decide));have h5:=Qbn (h 5 (by decide));have e0:ctl [a0,a1,a2,a3,a4,a5] 0=60*a0:=by simp [ctl,sm,cw,bin];omega
 have e1:ctl [a0,a1,a2,a3,a4,a5] 1=60*a0+12*a1:=by simp [ctl,sm,cw,bin];omega
 have e2:ctl [a0,a1,a2,a3,a4,a5] 2=60*a0+24*a1+6*a2:=by simp [ctl,sm,cw,bin];omega
 have e3:ctl [a0,a1,a2,a3,a4,a5] 3=60*a0+36*a1+18*a2+6*a3:=by simp [ctl,sm,cw,bin];omega
 have e4:ctl [a0,a1,a2,a3,a4,a5] 4=60*a0+48*a1+36*a2+24*a3+12*a4:=by simp [ctl,sm,cw,bin];omega
 have e5:ctl [a0,a1,a2,a3,a4,a5] 5=60*a0+60*a1+60*a2+60*a3+60*a4+60*a5:=by simp [ctl,sm,cw,bin];omega
 generalize ctl [a0,a1,a2,a3,a4,a5] 0=b0 at*;generalize ctl [a0,a1,a2,a3,a4,a5] 1=b1 at*;generalize ctl [a0,a1,a2,a3,a4,a5] 2=b2 at*;generalize ctl [a0,a1,a2,a3,a4,a5] 3=b3 at*;generalize ctl [a0,a1,a2,a3,a4,a5] 4=b4 at*;generalize ctl [a0,a1,a2,a3,a4,a5] 5=b5 at*;clear h;have f0:60*a0=1*b0:=by omega
 have f1:12*a1= -1*b0+1*b1:=by omega
 have f2:6*a2=1*b0+ -2*b1+1*b2:=by omega
 have f3:6*a3= -1*b0+3*b1+ -3*b2+1*b3:=by omega
 have f4:12*a4=1*b0+ -4*b1+6*b2+ -4*b3+1*b4:=by omega
 have f5:60*a5= -1*b0+5*b1+ -10*b2+10*b3+ -5*b4+1*b5:=by omega
 clear e0 e1 e2 e3 e4 e5;have g0:(a0.natAbs:Int)≤1048576*o:=by omega
 have g1:(a1.natAbs:Int)≤10485760*o:=by omega
 have g2:(a2.natAbs:Int)≤41943040*o:=by omega
 have g3:(a3.natAbs:Int)≤83886080*o:=by omega
 have g4:(a4.natAbs:Int)≤83886080*o:=by omega
 have g5:(a5.natAbs:Int)≤33554432*o:=by omega
 clear h0 h1 h2 h3 h4 h5 f0 f1 f2 f3 f4 f5;simp only [nrm];generalize a0.natAbs=m0 at*;generalize a1.natAbs=m1 at*;generalize a2.natAbs=m2 at*;generalize a3.natAbs=m3 at*;generalize a4.natAbs=m4 at*;generalize a5.natAbs=m5 at*;omega
theorem Zyv {c:List Int} {o:Int} (h:axOK c o=true) (ho:0≤o):(nrm c:Int)≤254803968*o:=by
 obtain⟨h1,h6, -,hb⟩:=Qbh h;have hj:=Q5z hb;clear hb h
 match c,h1,h6,hj with
 | [a0],_,_,hj=>exact Int.le_trans (Zrw ho hj) (by omega)
 | [a0,a1],_,_,hj=>exact Int.le_trans (Zrx ho hj) (by omega)
 | [a0,a1,a2],_,_,hj=>exact Int.le_trans (Zry ho hj) (by omega)
 | [a0,a1,a2,a3],_,_,hj=>exact Int.le_trans (Zrz ho hj) (by omega)
 | [a0,a1,a2,a3,a4],_,_,hj=>exact Int.le_trans (Zr0 ho hj) (by omega)
 | [a0,a1,a2,a3,a4,a5],_,_,hj=>exact Int.le_trans (Zr1 ho hj) (by omega)
 |_::_::_::_::_::_::_::_,_,h6,_=>simp at h6
def ptL (s:Sg) (a b:Int):Nat→List Int:=cmpL s (a-s.f) (b-a) (s.t-s.f)
def ptO (s:Sg):Int:=s.o*(s.t-s.f)^5
def coQ (c:List Int) (o:Int) (i:Nat):Rat:=((c.getD i 0:Int):Rat)/(o:Rat)
def ikQ (i k:Nat):Rat:=(((i:Int)*(k:Int):Int):Rat)/(((i:Int)+(k:Int)-1:Int):Rat)
def sqT (c:List Int) (o:Int) (i k:Nat):Rat:=coQ c o i*coQ c o k*ikQ i k
def sqR (c:List Int) (o:Int) (i k:Nat):Rat:=qs (fun j=>sqT c o i (j+1)) k
def sqS (c:List Int) (o:Int) (i:Nat):Rat:=qs (fun j=>sqR c o (j+1) (c.length-1)) i
def sqQ (c:List Int) (o:Int):Rat:=sqS c o (c.length-1)
def wyS (c:List Int) (o:Int) (n:Nat):Rat:=qs (fun j=>coQ c o (j+1)) n
def wayQ (c:List Int) (o:Int):Rat:=wyS c o (c.length-1)
theorem Q4n:ikQ 1 1=1:=by decide+kernel
theorem Ze3:ikQ 1 2=1:=by decide+kernel
theorem Zq7:ikQ 1 3=1:=by decide+kernel
theorem Zx8:ikQ 1 4=1:=by decide+kernel
theorem Z23:ikQ 1 5=1:=by decide+kernel
theorem Ze4:ikQ 2 1=1:=by decide+kernel
theorem Ze5:ikQ 2 2=(4/3):=by decide+kernel
theorem Zq8:ikQ 2 3=(3/2):=by decide+kernel
theorem Zx9:ikQ 2 4=(8/5):=by decide+kernel
theorem Z24:ikQ 2 5=(5/3):=by decide+kernel
theorem Zq9:ikQ 3 1=1:=by decide+kernel
theorem Zra:ikQ 3 2=(3/2):=by decide+kernel
theorem Zrb:ikQ 3 3=(9/5):=by decide+kernel
theorem Zya:ikQ 3 4=2:=by decide+kernel
theorem Z25:ikQ 3 5=(15/7):=by decide+kernel
theorem Zyb:ikQ 4 1=1:=by decide+kernel
theorem Zyc:ikQ 4 2=(8/5):=by decide+kernel
theorem Zyd:ikQ 4 3=2:=by decide+kernel
theorem Zye:ikQ 4 4=(16/7):=by decide+kernel
theorem Z26:ikQ 4 5=(5/2):=by decide+kernel
theorem Z27:ikQ 5 1=1:=by decide+kernel
theorem Z28:ikQ 5 2=(5/3):=by decide+kernel
theorem Z29:ikQ 5 3=(15/7):=by decide+kernel
theorem Z3a:ikQ 5 4=(5/2):=by decide+kernel
theorem Z3b:ikQ 5 5=(25/9):=by decide+kernel
theorem Qig (c:List Int) (o:Int) (i:Nat) (x:Int) (h:c.getD i 0=x):coQ c o i=(x:Rat)/(o:Rat):=by rw [coQ,h]
theorem Qff {x o:Int} (ho:0<o) (h1: -(125829120*o)≤x) (h2:x≤125829120*o): -2097152≤(x:Rat)/(60*(o:Rat))∧(x:Rat)/(60*(o:Rat))≤2097152:=by
 have o0:(0:Rat)<(o:Rat):=by exact_mod_cast ho
 have h1':=Rat.intCast_le_intCast.2 h1;simp only [Rat.intCast_neg,Rat.intCast_mul,Rat.intCast_ofNat]at h1';have h2':=Rat.intCast_le_intCast.2 h2;simp only [Rat.intCast_mul,Rat.intCast_ofNat]at h2';have e:(x:Rat)/(60*(o:Rat))*(60*(o:Rat))=(x:Rat):=Rat.div_mul_cancel (by grind);have p:(0:Rat)<60*(o:Rat):=by grind
 generalize (x:Rat)/(60*(o:Rat))=q at*;refine⟨Rat.le_of_mul_le_mul_right (c:=60*(o:Rat)) ?_ p,Rat.le_of_mul_le_mul_right (c:=60*(o:Rat)) ?_ p⟩<;>grind
theorem axB1 {a0 a1 o:Int} (ho:0<o) (h: ∀j,j<2→((ctl [a0,a1] j).natAbs:Int)≤62914560*o):
  wayQ [a0,a1] o*wayQ [a0,a1] o≤sqQ [a0,a1] o∧sqQ [a0,a1] o≤1*(2097152*2097152)∧ -2097152≤wayQ [a0,a1] o∧wayQ [a0,a1] o≤2097152:=by
 have o0:(0:Rat)<(o:Rat):=by exact_mod_cast ho
 have c0:ctl [a0,a1] 0=a0*60:=by simp [ctl,sm,cw,bin]
 have g0:=Qbn (h 0 (by decide));rw [c0]at g0;have c1:ctl [a0,a1] 1=a0*60+a1*60:=by simp [ctl,sm,cw,bin]
 have g1:=Qbn (h 1 (by decide));rw [c1]at g1;have x1:coQ [a0,a1] o 1=(a1:Rat)/(o:Rat):=Qig _ _ _ _ rfl;have d0:=Qff (x:=(a0*60+a1*60)-(a0*60)) ho (by omega) (by omega);have e0:((((a0*60+a1*60)-(a0*60):Int)):Rat)/(60*(o:Rat))=(a1:Rat)/(o:Rat)*1:=by simp only [Rat.intCast_add,Rat.intCast_sub,Rat.intCast_mul,Rat.intCast_ofNat];grind
 have dw:=Qff (x:=(a0*60+a1*60)-(a0*60)) ho (by omega) (by omega);have ew:((((a0*60+a1*60)-(a0*60):Int)):Rat)/(60*(o:Rat))=(a1:Rat)/(o:Rat):=by simp only [Rat.intCast_add,Rat.intCast_sub,Rat.intCast_mul,Rat.intCast_ofNat];grind
 have hw:wayQ [a0,a1] o=(a1:Rat)/(o:Rat):=by
  show wyS [a0,a1] o 1=_;simp only [wyS,qs,Nat.zero_add,Nat.reduceAdd,x1,Rat.zero_add]
 have hs:sqQ [a0,a1] o=(a1:Rat)/(o:Rat)*((a1:Rat)/(o:Rat))*1:=by
  show qs (fun j=>qs (fun m=>sqT [a0,a1] o (j+1) (m+1)) 1) 1=_;simp only [qs,sqT,Nat.zero_add,Nat.reduceAdd,x1,Q4n,Rat.zero_add]
 rw [e0]at d0;rw [ew]at dw;rw [hw,hs];clear hw hs e0 x1 ew h c0 c1 g0 g1;generalize (a1:Rat)/(o:Rat)=r1 at*;have hu:=Zx3 (K:=2097152) (d0:=r1*1) rfl d0;have hl:=Qsv r1 0 0 0 0;refine⟨by grind,by grind,by grind,by grind⟩
theorem axB2 {a0 a1 a2 o:Int} (ho:0<o) (h: ∀j,j<3→((ctl [a0,a1,a2] j).natAbs:Int)≤62914560*o):
  wayQ [a0,a1,a2] o*wayQ [a0,a1,a2] o≤sqQ [a0,a1,a2] o∧sqQ [a0,a1,a2] o≤4*(2097152*2097152)∧ -2097152≤wayQ [a0,a1,a2] o∧wayQ [a0,a1,a2] o≤2097152:=by
 have o0:(0:Rat)<(o:Rat):=by exact_mod_cast ho
 have c0:ctl [a0,a1,a2] 0=a0*60:=by simp [ctl,sm,cw,bin]
 have g0:=Qbn (h 0 (by decide));rw [c0]at g0;have c1:ctl [a0,a1,a2] 1=a0*60+a1*30:=by simp [ctl,sm,cw,bin]
 have g1:=Qbn (h 1 (by decide));rw [c1]at g1;have c2:ctl [a0,a1,a2] 2=a0*60+a1*60+a2*60:=by simp [ctl,sm,cw,bin]
 have g2:=Qbn (h 2 (by decide));rw [c2]at g2;have x1:coQ [a0,a1,a2] o 1=(a1:Rat)/(o:Rat):=Qig _ _ _ _ rfl;have x2:coQ [a0,a1,a2] o 2=(a2:Rat)/(o:Rat):=Qig _ _ _ _ rfl;have d0:=Qff (x:=(a0*60+a1*30)-(a0*60)) ho (by omega) (by omega);have e0:((((a0*60+a1*30)-(a0*60):Int)):Rat)/(60*(o:Rat))=(a1:Rat)/(o:Rat)*(1/2):=by simp only [Rat.intCast_add,Rat.intCast_sub,Rat.intCast_mul,Rat.intCast_ofNat];grind
 have d1:=Qff (x:=(a0*60+a1*60+a2*60)-(a0*60+a1*30)) ho (by omega) (by omega);have e1:((((a0*60+a1*60+a2*60)-(a0*60+a1*30):Int)):Rat)/(60*(o:Rat))=(a1:Rat)/(o:Rat)*(1/2)+(a2:Rat)/(o:Rat)*1:=by simp only [Rat.intCast_add,Rat.intCast_sub,Rat.intCast_mul,Rat.intCast_ofNat];grind
 have dw:=Qff (x:=(a0*60+a1*60+a2*60)-(a0*60)) ho (by omega) (by omega);have ew:((((a0*60+a1*60+a2*60)-(a0*60):Int)):Rat)/(60*(o:Rat))=(a1:Rat)/(o:Rat)+(a2:Rat)/(o:Rat):=by simp only [Rat.intCast_add,Rat.intCast_sub,Rat.intCast_mul,Rat.intCast_ofNat];grind
 have hw:wayQ [a0,a1,a2] o=(a1:Rat)/(o:Rat)+(a2:Rat)/(o:Rat):=by
  show wyS [a0,a1,a2] o 2=_;simp only [wyS,qs,Nat.zero_add,Nat.reduceAdd,x1,x2,Rat.zero_add]
 have hs:sqQ [a0,a1,a2] o=(a1:Rat)/(o:Rat)*((a1:Rat)/(o:Rat))*1+(a1:Rat)/(o:Rat)*((a2:Rat)/(o:Rat))*1+(a2:Rat)/(o:Rat)*((a1:Rat)/(o:Rat))*1+(a2:Rat)/(o:Rat)*((a2:Rat)/(o:Rat))*(4/3):=by
  show qs (fun j=>qs (fun m=>sqT [a0,a1,a2] o (j+1) (m+1)) 2) 2=_;simp only [qs,sqT,Nat.zero_add,Nat.reduceAdd,x1,x2,Q4n,Ze3,Ze4,Ze5,Rat.zero_add]
  grind
 rw [e0]at d0;rw [e1]at d1;rw [ew]at dw;rw [hw,hs];clear hw hs e0 e1 x1 x2 ew h c0 c1 c2 g0 g1 g2;generalize (a1:Rat)/(o:Rat)=r1 at*;generalize (a2:Rat)/(o:Rat)=r2 at*;have hu:=Zx4 (K:=2097152) (d0:=r1*(1/2)) (d1:=r1*(1/2)+r2*1) rfl rfl d0 d1;have hl:=Qsv r1 r2 0 0 0;refine⟨by grind,by grind,by grind,by grind⟩
theorem axB3 {a0 a1 a2 a3 o:Int} (ho:0<o) (h: ∀j,j<4→((ctl [a0,a1,a2,a3] j).natAbs:Int)≤62914560*o):
  wayQ [a0,a1,a2,a3] o*wayQ [a0,a1,a2,a3] o≤sqQ [a0,a1,a2,a3] o∧sqQ [a0,a1,a2,a3] o≤9*(2097152*2097152)∧ -2097152≤wayQ [a0,a1,a2,a3] o∧wayQ [a0,a1,a2,a3] o≤2097152:=by
 have o0:(0:Rat)<(o:Rat):=by exact_mod_cast ho
 have c0:ctl [a0,a1,a2,a3] 0=a0*60:=by simp [ctl,sm,cw,bin]
 have g0:=Qbn (h 0 (by decide));rw [c0]at g0;have c1:ctl [a0,a1,a2,a3] 1=a0*60+a1*20:=by simp [ctl,sm,cw,bin]
 have g1:=Qbn (h 1 (by decide));rw [c1]at g1;have c2:ctl [a0,a1,a2,a3] 2=a0*60+a1*40+a2*20:=by simp [ctl,sm,cw,bin]
 have g2:=Qbn (h 2 (by decide));rw [c2]at g2;have c3:ctl [a0,a1,a2,a3] 3=a0*60+a1*60+a2*60+a3*60:=by simp [ctl,sm,cw,bin]
 have g3:=Qbn (h 3 (by decide));rw [c3]at g3;have x1:coQ [a0,a1,a2,a3] o 1=(a1:Rat)/(o:Rat):=Qig _ _ _ _ rfl;have x2:coQ [a0,a1,a2,a3] o 2=(a2:Rat)/(o:Rat):=Qig _ _ _ _ rfl;have x3:coQ [a0,a1,a2,a3] o 3=(a3:Rat)/(o:Rat):=Qig _ _ _ _ rfl;have d0:=Qff (x:=(a0*60+a1*20)-(a0*60)) ho (by omega) (by omega);have e0:((((a0*60+a1*20)-(a0*60):Int)):Rat)/(60*(o:Rat))=(a1:Rat)/(o:Rat)*(1/3):=by simp only [Rat.intCast_add,Rat.intCast_sub,Rat.intCast_mul,Rat.intCast_ofNat];grind
 have d1:=Qff (x:=(a0*60+a1*40+a2*20)-(a0*60+a1*20)) ho (by omega) (by omega);have e1:((((a0*60+a1*40+a2*20)-(a0*60+a1*20):Int)):Rat)/(60*(o:Rat))=(a1:Rat)/(o:Rat)*(1/3)+(a2:Rat)/(o:Rat)*(1/3):=by simp only [Rat.intCast_add,Rat.intCast_sub,Rat.intCast_mul,Rat.intCast_ofNat];grind
 have d2:=Qff (x:=(a0*60+a1*60+a2*60+a3*60)-(a0*60+a1*40+a2*20)) ho (by omega) (by omega);have e2:((((a0*60+a1*60+a2*60+a3*60)-(a0*60+a1*40+a2*20):Int)):Rat)/(60*(o:Rat))=(a1:Rat)/(o:Rat)*(1/3)+(a2:Rat)/(o:Rat)*(2/3)+(a3:Rat)/(o:Rat)*1:=by simp only [Rat.intCast_add,Rat.intCast_sub,Rat.intCast_mul,Rat.intCast_ofNat];grind
 have dw:=Qff (x:=(a0*60+a1*60+a2*60+a3*60)-(a0*60)) ho (by omega) (by omega);have ew:((((a0*60+a1*60+a2*60+a3*60)-(a0*60):Int)):Rat)/(60*(o:Rat))=(a1:Rat)/(o:Rat)+(a2:Rat)/(o:Rat)+(a3:Rat)/(o:Rat):=by simp only [Rat.intCast_add,Rat.intCast_sub,Rat.intCast_mul,Rat.intCast_ofNat];grind
 have hw:wayQ [a0,a1,a2,a3] o=(a1:Rat)/(o:Rat)+(a2:Rat)/(o:Rat)+(a3:Rat)/(o:Rat):=by
  show wyS [a0,a1,a2,a3] o 3=_;simp only [wyS,qs,Nat.zero_add,Nat.reduceAdd,x1,x2,x3,Rat.zero_add]
 have hs:sqQ [a0,a1,a2,a3] o=(a1:Rat)/(o:Rat)*((a1:Rat)/(o:Rat))*1+(a1:Rat)/(o:Rat)*((a2:Rat)/(o:Rat))*1+(a1:Rat)/(o:Rat)*((a3:Rat)/(o:Rat))*1+(a2:Rat)/(o:Rat)*((a1:Rat)/(o:Rat))*1+(a2:Rat)/(o:Rat)*((a2:Rat)/(o:Rat))*(4/3)+(a2:Rat)/(o:Rat)*((a3:Rat)/(o:Rat))*(3/2)+(a3:Rat)/(o:Rat)*((a1:Rat)/(o:Rat))*1+(a3:Rat)/(o:Rat)*((a2:Rat)/(o:Rat))*(3/2)+(a3:Rat)/(o:Rat)*((a3:Rat)/(o:Rat))*(9/5):=by
  show qs (fun j=>qs (fun m=>sqT [a0,a1,a2,a3] o (j+1) (m+1)) 3) 3=_;simp only [qs,sqT,Nat.zero_add,Nat.reduceAdd,x1,x2,x3,Q4n,Ze3,Zq7,Ze4,Ze5,Zq8,Zq9,Zra,Zrb,Rat.zero_add]
  grind
 rw [e0]at d0;rw [e1]at d1;rw [e2]at d2;rw [ew]at dw;rw [hw,hs];clear hw hs e0 e1 e2 x1 x2 x3 ew h c0 c1 c2 c3 g0 g1 g2 g3;generalize (a1:Rat)/(o:Rat)=r1 at*;generalize (a2:Rat)/(o:Rat)=r2 at*;generalize (a3:Rat)/(o:Rat)=r3 at*;have hu:=Zx5 (K:=2097152) (d0:=r1*(1/3)) (d1:=r1*(1/3)+r2*(1/3)) (d2:=r1*(1/3)+r2*(2/3)+r3*1) rfl rfl rfl d0 d1 d2;have hl:=Qsv r1 r2 r3 0 0;refine⟨by grind,by grind,by grind,by grind⟩
theorem axB4 {a0 a1 a2 a3 a4 o:Int} (ho:0<o) (h: ∀j,j<5→((ctl [a0,a1,a2,a3,a4] j).natAbs:Int)≤62914560*o):
  wayQ [a0,a1,a2,a3,a4] o*wayQ [a0,a1,a2,a3,a4] o≤sqQ [a0,a1,a2,a3,a4] o∧sqQ [a0,a1,a2,a3,a4] o≤16*(2097152*2097152)∧ -2097152≤wayQ [a0,a1,a2,a3,a4] o∧wayQ [a0,a1,a2,a3,a4] o≤2097152:=by
 have o0:(0:Rat)<(o:Rat):=by exact_mod_cast ho
 have c0:ctl [a0,a1,a2,a3,a4] 0=a0*60:=by simp [ctl,sm,cw,bin]
 have g0:=Qbn (h 0 (by decide));rw [c0]at g0;have c1:ctl [a0,a1,a2,a3,a4] 1=a0*60+a1*15:=by simp [ctl,sm,cw,bin]
 have g1:=Qbn (h 1 (by decide));rw [c1]at g1;have c2:ctl [a0,a1,a2,a3,a4] 2=a0*60+a1*30+a2*10:=by simp [ctl,sm,cw,bin]
 have g2:=Qbn (h 2 (by decide));rw [c2]at g2;have c3:ctl [a0,a1,a2,a3,a4] 3=a0*60+a1*45+a2*30+a3*15:=by simp [ctl,sm,cw,bin]
 have g3:=Qbn (h 3 (by decide));rw [c3]at g3;have c4:ctl [a0,a1,a2,a3,a4] 4=a0*60+a1*60+a2*60+a3*60+a4*60:=by simp [ctl,sm,cw,bin]
 have g4:=Qbn (h 4 (by decide));rw [c4]at g4;have x1:coQ [a0,a1,a2,a3,a4] o 1=(a1:Rat)/(o:Rat):=Qig _ _ _ _ rfl;have x2:coQ [a0,a1,a2,a3,a4] o 2=(a2:Rat)/(o:Rat):=Qig _ _ _ _ rfl;have x3:coQ [a0,a1,a2,a3,a4] o 3=(a3:Rat)/(o:Rat):=Qig _ _ _ _ rfl;have x4:coQ [a0,a1,a2,a3,a4] o 4=(a4:Rat)/(o:Rat):=Qig _ _ _ _ rfl;have d0:=Qff (x:=(a0*60+a1*15)-(a0*60)) ho (by omega) (by omega);have e0:((((a0*60+a1*15)-(a0*60):Int)):Rat)/(60*(o:Rat))=(a1:Rat)/(o:Rat)*(1/4):=by simp only [Rat.intCast_add,Rat.intCast_sub,Rat.intCast_mul,Rat.intCast_ofNat];grind
 have d1:=Qff (x:=(a0*60+a1*30+a2*10)-(a0*60+a1*15)) ho (by omega) (by omega);have e1:((((a0*60+a1*30+a2*10)-(a0*60+a1*15):Int)):Rat)/(60*(o:Rat))=(a1:Rat)/(o:Rat)*(1/4)+(a2:Rat)/(o:Rat)*(1/6):=by simp only [Rat.intCast_add,Rat.intCast_sub,Rat.intCast_mul,Rat.intCast_ofNat];grind
 have d2:=Qff (x:=(a0*60+a1*45+a2*30+a3*15)-(a0*60+a1*30+a2*10)) ho (by omega) (by omega);have e2:((((a0*60+a1*45+a2*30+a3*15)-(a0*60+a1*30+a2*10):Int)):Rat)/(60*(o:Rat))=(a1:Rat)/(o:Rat)*(1/4)+(a2:Rat)/(o:Rat)*(1/3)+(a3:Rat)/(o:Rat)*(1/4):=by simp only [Rat.intCast_add,Rat.intCast_sub,Rat.intCast_mul,Rat.intCast_ofNat];grind
 have d3:=Qff (x:=(a0*60+a1*60+a2*60+a3*60+a4*60)-(a0*60+a1*45+a2*30+a3*15)) ho (by omega) (by omega);have e3:((((a0*60+a1*60+a2*60+a3*60+a4*60)-(a0*60+a1*45+a2*30+a3*15):Int)):Rat)/(60*(o:Rat))=(a1:Rat)/(o:Rat)*(1/4)+(a2:Rat)/(o:Rat)*(1/2)+(a3:Rat)/(o:Rat)*(3/4)+(a4:Rat)/(o:Rat)*1:=by simp only [Rat.intCast_add,Rat.intCast_sub,Rat.intCast_mul,Rat.intCast_ofNat];grind
 have dw:=Qff (x:=(a0*60+a1*60+a2*60+a3*60+a4*60)-(a0*60)) ho (by omega) (by omega);have ew:((((a0*60+a1*60+a2*60+a3*60+a4*60)-(a0*60):Int)):Rat)/(60*(o:Rat))=(a1:Rat)/(o:Rat)+(a2:Rat)/(o:Rat)+(a3:Rat)/(o:Rat)+(a4:Rat)/(o:Rat):=by simp only [Rat.intCast_add,Rat.intCast_sub,Rat.intCast_mul,Rat.intCast_ofNat];grind
 have hw:wayQ [a0,a1,a2,a3,a4] o=(a1:Rat)/(o:Rat)+(a2:Rat)/(o:Rat)+(a3:Rat)/(o:Rat)+(a4:Rat)/(o:Rat):=by
  show wyS [a0,a1,a2,a3,a4] o 4=_;simp only [wyS,qs,Nat.zero_add,Nat.reduceAdd,x1,x2,x3,x4,Rat.zero_add]
 have hs:sqQ [a0,a1,a2,a3,a4] o=(a1:Rat)/(o:Rat)*((a1:Rat)/(o:Rat))*1+(a1:Rat)/(o:Rat)*((a2:Rat)/(o:Rat))*1+(a1:Rat)/(o:Rat)*((a3:Rat)/(o:Rat))*1+(a1:Rat)/(o:Rat)*((a4:Rat)/(o:Rat))*1+(a2:Rat)/(o:Rat)*((a1:Rat)/(o:Rat))*1+(a2:Rat)/(o:Rat)*((a2:Rat)/(o:Rat))*(4/3)+(a2:Rat)/(o:Rat)*((a3:Rat)/(o:Rat))*(3/2)+(a2:Rat)/(o:Rat)*((a4:Rat)/(o:Rat))*(8/5)+(a3:Rat)/(o:Rat)*((a1:Rat)/(o:Rat))*1+(a3:Rat)/(o:Rat)*((a2:Rat)/(o:Rat))*(3/2)+(a3:Rat)/(o:Rat)*((a3:Rat)/(o:Rat))*(9/5)+(a3:Rat)/(o:Rat)*((a4:Rat)/(o:Rat))*2+(a4:Rat)/(o:Rat)*((a1:Rat)/(o:Rat))*1+(a4:Rat)/(o:Rat)*((a2:Rat)/(o:Rat))*(8/5)+(a4:Rat)/(o:Rat)*((a3:Rat)/(o:Rat))*2+(a4:Rat)/(o:Rat)*((a4:Rat)/(o:Rat))*(16/7):=by
  show qs (fun j=>qs (fun m=>sqT [a0,a1,a2,a3,a4] o (j+1) (m+1)) 4) 4=_;simp only [qs,sqT,Nat.zero_add,Nat.reduceAdd,x1,x2,x3,x4,Q4n,Ze3,Zq7,Zx8,Ze4,Ze5,Zq8,Zx9,Zq9,Zra,Zrb,Zya,Zyb,Zyc,Zyd,Zye,Rat.zero_add]
  grind
 rw [e0]at d0;rw [e1]at d1;rw [e2]at d2;rw [e3]at d3;rw [ew]at dw;rw [hw,hs];clear hw hs e0 e1 e2 e3 x1 x2 x3 x4 ew h c0 c1 c2 c3 c4 g0 g1 g2 g3 g4;generalize (a1:Rat)/(o:Rat)=r1 at*;generalize (a2:Rat)/(o:Rat)=r2 at*;generalize (a3:Rat)/(o:Rat)=r3 at*;generalize (a4:Rat)/(o:Rat)=r4 at*;have hu:=Zx6 (K:=2097152) (d0:=r1*(1/4)) (d1:=r1*(1/4)+r2*(1/6)) (d2:=r1*(1/4)+r2*(1/3)+r3*(1/4)) (d3:=r1*(1/4)+r2*(1/2)+r3*(3/4)+r4*1) rfl rfl rfl rfl d0 d1 d2 d3;have hl:=Qsv r1 r2 r3 r4 0;refine⟨by grind,by grind,by grind,by grind⟩
theorem axB5 {a0 a1 a2 a3 a4 a5 o:Int} (ho:0<o) (h: ∀j,j<6→((ctl [a0,a1,a2,a3,a4,a5] j).natAbs:Int)≤62914560*o):
  wayQ [a0,a1,a2,a3,a4,a5] o*wayQ [a0,a1,a2,a3,a4,a5] o≤sqQ [a0,a1,a2,a3,a4,a5] o∧sqQ [a0,a1,a2,a3,a4,a5] o≤25*(2097152*2097152)∧ -2097152≤wayQ [a0,a1,a2,a3,a4,a5] o∧wayQ [a0,a1,a2,a3,a4,a5] o≤2097152:=by
 have o0:(0:Rat)<(o:Rat):=by exact_mod_cast ho
 have c0:ctl [a0,a1,a2,a3,a4,a5] 0=a0*60:=by simp [ctl,sm,cw,bin]
 have g0:=Qbn (h 0 (by decide));rw [c0]at g0;have c1:ctl [a0,a1,a2,a3,a4,a5] 1=a0*60+a1*12:=by simp [ctl,sm,cw,bin]
 have g1:=Qbn (h 1 (by decide));rw [c1]at g1;have c2:ctl [a0,a1,a2,a3,a4,a5] 2=a0*60+a1*24+a2*6:=by simp [ctl,sm,cw,bin]
 have g2:=Qbn (h 2 (by decide));rw [c2]at g2;have c3:ctl [a0,a1,a2,a3,a4,a5] 3=a0*60+a1*36+a2*18+a3*6:=by simp [ctl,sm,cw,bin]
 have g3:=Qbn (h 3 (by decide));rw [c3]at g3;have c4:ctl [a0,a1,a2,a3,a4,a5] 4=a0*60+a1*48+a2*36+a3*24+a4*12:=by simp [ctl,sm,cw,bin]
 have g4:=Qbn (h 4 (by decide));rw [c4]at g4;have c5:ctl [a0,a1,a2,a3,a4,a5] 5=a0*60+a1*60+a2*60+a3*60+a4*60+a5*60:=by simp [ctl,sm,cw,bin]
 have g5:=Qbn (h 5 (by decide));rw [c5]at g5;have x1:coQ [a0,a1,a2,a3,a4,a5] o 1=(a1:Rat)/(o:Rat):=Qig _ _ _ _ rfl;have x2:coQ [a0,a1,a2,a3,a4,a5] o 2=(a2:Rat)/(o:Rat):=Qig _ _ _ _ rfl;have x3:coQ [a0,a1,a2,a3,a4,a5] o 3=(a3:Rat)/(o:Rat):=Qig _ _ _ _ rfl;have x4:coQ [a0,a1,a2,a3,a4,a5] o 4=(a4:Rat)/(o:Rat):=Qig _ _ _ _ rfl;have x5:coQ [a0,a1,a2,a3,a4,a5] o 5=(a5:Rat)/(o:Rat):=Qig _ _ _ _ rfl;have d0:=Qff (x:=(a0*60+a1*12)-(a0*60)) ho (by omega) (by omega);have e0:((((a0*60+a1*12)-(a0*60):Int)):Rat)/(60*(o:Rat))=(a1:Rat)/(o:Rat)*(1/5):=by simp only [Rat.intCast_add,Rat.intCast_sub,Rat.intCast_mul,Rat.intCast_ofNat];grind
 have d1:=Qff (x:=(a0*60+a1*24+a2*6)-(a0*60+a1*12)) ho (by omega) (by omega);have e1:((((a0*60+a1*24+a2*6)-(a0*60+a1*12):Int)):Rat)/(60*(o:Rat))=(a1:Rat)/(o:Rat)*(1/5)+(a2:Rat)/(o:Rat)*(1/10):=by simp only [Rat.intCast_add,Rat.intCast_sub,Rat.intCast_mul,Rat.intCast_ofNat];grind
 have d2:=Qff (x:=(a0*60+a1*36+a2*18+a3*6)-(a0*60+a1*24+a2*6)) ho (by omega) (by omega);have e2:((((a0*60+a1*36+a2*18+a3*6)-(a0*60+a1*24+a2*6):Int)):Rat)/(60*(o:Rat))=(a1:Rat)/(o:Rat)*(1/5)+(a2:Rat)/(o:Rat)*(1/5)+(a3:Rat)/(o:Rat)*(1/10):=by simp only [Rat.intCast_add,Rat.intCast_sub,Rat.intCast_mul,Rat.intCast_ofNat];grind
 have d3:=Qff (x:=(a0*60+a1*48+a2*36+a3*24+a4*12)-(a0*60+a1*36+a2*18+a3*6)) ho (by omega) (by omega);have e3:((((a0*60+a1*48+a2*36+a3*24+a4*12)-(a0*60+a1*36+a2*18+a3*6):Int)):Rat)/(60*(o:Rat))=(a1:Rat)/(o:Rat)*(1/5)+(a2:Rat)/(o:Rat)*(3/10)+(a3:Rat)/(o:Rat)*(3/10)+(a4:Rat)/(o:Rat)*(1/5):=by simp only [Rat.intCast_add,Rat.intCast_sub,Rat.intCast_mul,Rat.intCast_ofNat];grind
 have d4:=Qff (x:=(a0*60+a1*60+a2*60+a3*60+a4*60+a5*60)-(a0*60+a1*48+a2*36+a3*24+a4*12)) ho (by omega) (by omega);have e4:((((a0*60+a1*60+a2*60+a3*60+a4*60+a5*60)-(a0*60+a1*48+a2*36+a3*24+a4*12):Int)):Rat)/(60*(o:Rat))=(a1:Rat)/(o:Rat)*(1/5)+(a2:Rat)/(o:Rat)*(2/5)+(a3:Rat)/(o:Rat)*(3/5)+(a4:Rat)/(o:Rat)*(4/5)+(a5:Rat)/(o:Rat)*1:=by simp only [Rat.intCast_add,Rat.intCast_sub,Rat.intCast_mul,Rat.intCast_ofNat];grind
 have dw:=Qff (x:=(a0*60+a1*60+a2*60+a3*60+a4*60+a5*60)-(a0*60)) ho (by omega) (by omega);have ew:((((a0*60+a1*60+a2*60+a3*60+a4*60+a5*60)-(a0*60):Int)):Rat)/(60*(o:Rat))=(a1:Rat)/(o:Rat)+(a2:Rat)/(o:Rat)+(a3:Rat)/(o:Rat)+(a4:Rat)/(o:Rat)+(a5:Rat)/(o:Rat):=by simp only [Rat.intCast_add,Rat.intCast_sub,Rat.intCast_mul,Rat.intCast_ofNat];grind
 have hw:wayQ [a0,a1,a2,a3,a4,a5] o=(a1:Rat)/(o:Rat)+(a2:Rat)/(o:Rat)+(a3:Rat)/(o:Rat)+(a4:Rat)/(o:Rat)+(a5:Rat)/(o:Rat):=by
  show wyS [a0,a1,a2,a3,a4,a5] o 5=_;simp only [wyS,qs,Nat.zero_add,Nat.reduceAdd,x1,x2,x3,x4,x5,Rat.zero_add]
 have hs:sqQ [a0,a1,a2,a3,a4,a5] o=(a1:Rat)/(o:Rat)*((a1:Rat)/(o:Rat))*1+(a1:Rat)/(o:Rat)*((a2:Rat)/(o:Rat))*1+(a1:Rat)/(o:Rat)*((a3:Rat)/(o:Rat))*1+(a1:Rat)/(o:Rat)*((a4:Rat)/(o:Rat))*1+(a1:Rat)/(o:Rat)*((a5:Rat)/(o:Rat))*1+(a2:Rat)/(o:Rat)*((a1:Rat)/(o:Rat))*1+(a2:Rat)/(o:Rat)*((a2:Rat)/(o:Rat))*(4/3)+(a2:Rat)/(o:Rat)*((a3:Rat)/(o:Rat))*(3/2)+(a2:Rat)/(o:Rat)*((a4:Rat)/(o:Rat))*(8/5)+(a2:Rat)/(o:Rat)*((a5:Rat)/(o:Rat))*(5/3)+(a3:Rat)/(o:Rat)*((a1:Rat)/(o:Rat))*1+(a3:Rat)/(o:Rat)*((a2:Rat)/(o:Rat))*(3/2)+(a3:Rat)/(o:Rat)*((a3:Rat)/(o:Rat))*(9/5)+(a3:Rat)/(o:Rat)*((a4:Rat)/(o:Rat))*2+(a3:Rat)/(o:Rat)*((a5:Rat)/(o:Rat))*(15/7)+(a4:Rat)/(o:Rat)*((a1:Rat)/(o:Rat))*1+(a4:Rat)/(o:Rat)*((a2:Rat)/(o:Rat))*(8/5)+(a4:Rat)/(o:Rat)*((a3:Rat)/(o:Rat))*2+(a4:Rat)/(o:Rat)*((a4:Rat)/(o:Rat))*(16/7)+(a4:Rat)/(o:Rat)*((a5:Rat)/(o:Rat))*(5/2)+(a5:Rat)/(o:Rat)*((a1:Rat)/(o:Rat))*1+(a5:Rat)/(o:Rat)*((a2:Rat)/(o:Rat))*(5/3)+(a5:Rat)/(o:Rat)*((a3:Rat)/(o:Rat))*(15/7)+(a5:Rat)/(o:Rat)*((a4:Rat)/(o:Rat))*(5/2)+(a5:Rat)/(o:Rat)*((a5:Rat)/(o:Rat))*(25/9):=by
  show qs (fun j=>qs (fun m=>sqT [a0,a1,a2,a3,a4,a5] o (j+1) (m+1)) 5) 5=_;simp only [qs,sqT,Nat.zero_add,Nat.reduceAdd,x1,x2,x3,x4,x5,Q4n,Ze3,Zq7,Zx8,Z23,Ze4,Ze5,Zq8,Zx9,Z24,Zq9,Zra,Zrb,Zya,Z25,Zyb,Zyc,Zyd,Zye,Z26,Z27,Z28,Z29,Z3a,Z3b,Rat.zero_add]
  grind
 rw [e0]at d0;rw [e1]at d1;rw [e2]at d2;rw [e3]at d3;rw [e4]at d4;rw [ew]at dw;rw [hw,hs];clear hw hs e0 e1 e2 e3 e4 x1 x2 x3 x4 x5 ew h c0 c1 c2 c3 c4 c5 g0 g1 g2 g3 g4 g5;generalize (a1:Rat)/(o:Rat)=r1 at*;generalize (a2:Rat)/(o:Rat)=r2 at*;generalize (a3:Rat)/(o:Rat)=r3 at*;generalize (a4:Rat)/(o:Rat)=r4 at*;generalize (a5:Rat)/(o:Rat)=r5 at*;have hu:=Zx7 (K:=2097152) (d0:=r1*(1/5)) (d1:=r1*(1/5)+r2*(1/10)) (d2:=r1*(1/5)+r2*(1/5)+r3*(1/10)) (d3:=r1*(1/5)+r2*(3/10)+r3*(3/10)+r4*(1/5)) (d4:=r1*(1/5)+r2*(2/5)+r3*(3/5)+r4*(4/5)+r5*1) rfl rfl rfl rfl rfl d0 d1 d2 d3 d4;have hl:=Qsv r1 r2 r3 r4 r5;refine⟨by grind,by grind,by grind,by grind⟩
theorem axB0 {a0 o:Int}:wayQ [a0] o=0∧sqQ [a0] o=0:=⟨rfl,rfl⟩
theorem Q4o {c:List Int} {o:Int} (ho:0<o) (h:axOK c o=true):wayQ c o*wayQ c o≤sqQ c o∧sqQ c o≤25*(2097152*2097152)∧ -2097152≤wayQ c o∧wayQ c o≤2097152:=by
 simp only [axOK,Qm4,Bool.and_eq_true,decide_eq_true_eq]at h;obtain⟨⟨h1,h2, -⟩,hb⟩:=h;have hc:=fun j hj=>Q5z hb j hj
 match c,h1,h2,hc with
 | [a0],_,_,_=>rw [axB0.1,axB0.2];refine⟨by grind,by grind,by grind,by grind⟩
 | [a0,a1],_,_,hc=>obtain⟨a,b,c,d⟩:=axB1 ho hc;exact⟨a,by grind,c,d⟩
 | [a0,a1,a2],_,_,hc=>obtain⟨a,b,c,d⟩:=axB2 ho hc;exact⟨a,by grind,c,d⟩
 | [a0,a1,a2,a3],_,_,hc=>obtain⟨a,b,c,d⟩:=axB3 ho hc;exact⟨a,by grind,c,d⟩
 | [a0,a1,a2,a3,a4],_,_,hc=>obtain⟨a,b,c,d⟩:=axB4 ho hc;exact⟨a,by grind,c,d⟩
 | [a0,a1,a2,a3,a4,a5],_,_,hc=>obtain⟨a,b,c,d⟩:=axB5 ho hc;exact⟨a,by grind,c,d⟩
end Go.Dg
