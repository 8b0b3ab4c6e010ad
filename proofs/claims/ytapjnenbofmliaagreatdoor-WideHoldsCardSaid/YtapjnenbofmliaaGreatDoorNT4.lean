/-
  NW17, De4, NW18, Dx, Dxt, Bn, NT3, NT4 (merged for the claim).
-/
import Derived.Test.YtapjnenbofmliaaGreatDoorDe3
import Derived.Lib.ItoaNum
import Derived.Lib.ParseIntB
import Derived.Lib.Join
import Derived.Lib.Repeat
import Derived.Lib.Strings
import Derived.Test.YtapjnenbofmliaaGreatDoorNW4
import Derived.Test.YtapjnenbofmliaaGreatDoorNK1
set_option linter.unusedSimpArgs false
set_option linter.unusedVariables false
namespace Go.Proofs.YtapjnenbofmliaaGreatDoor
open Go.Vl Go.RowKit Go.Dg
theorem Qu0 (a b:Nat):Int.tdiv (a:Int) (b:Int)=((a/b:Nat):Int):=rfl
theorem Zdc (a b:Nat):Int.tmod (a:Int) (b:Int)=((a%b:Nat):Int):=rfl
theorem Zas (y:Nat):y<2^blen y:=by
 rcases Nat.lt_or_ge y (2^blen y)with h|h
 ·exact h
 ·have:=Qjk _ _ h;omega
theorem Zat {y:Nat} (h:0<y):2^(blen y-1)≤y∧0<blen y:=by
 have h0:0<blen y:=Qjk 0 y (by rw [Nat.pow_zero];omega);refine⟨?_,h0⟩;rcases Nat.lt_or_ge y (2^(blen y-1))with h1|h1
 ·have:=Qcy _ _ h1;omega
 ·exact h1
attribute [local go_sem high] Q62
theorem Qbm (n:Int):IntKind.u64.wrap n=n%18446744073709551616:=by simp [IntKind.wrap,IntKind.bits,IntKind.signed]
theorem Qou {n:Nat} (h:n<18446744073709551616):IntKind.u64.wrap (n:Int)=n:=by rw [Qco,Nat.mod_eq_of_lt h]
theorem Qz4 (u y:Nat) (h:u<18446744073709551616):IntKind.u64.wrap ((u:Int)-IntKind.u64.wrap (((u/y:Nat):Int)*(y:Int)))=((u%y:Nat):Int):=by
 have h:=Nat.div_add_mod u y;rw [←Int.natCast_mul,Nat.mul_comm (u/_)];generalize y*(u/y)=p at*;generalize u%y=r at*;rw [Qbm,Qbm];omega
theorem Qsm (u d Y:Nat) (hY:0<Y) (h2:Y<18446744073709551616):IntKind.u64.wrap (IntKind.u64.wrap (IntKind.u64.wrap ((u:Int)*4294967296)+(d:Int))-IntKind.u64.wrap ((((u*4294967296+d)/Y:Nat):Int)*(Y:Int)))=(((u*4294967296+d)%Y:Nat):Int):=by
 have h:=Nat.div_add_mod (u*4294967296+d) Y;have hm:=Nat.mod_lt (u*4294967296+d) hY;rw [←Int.natCast_mul,Nat.mul_comm ((u*4294967296+d)/Y)];generalize Y*((u*4294967296+d)/Y)=p at*;generalize (u*4294967296+d)%Y=r at*;rw [Qbm,Qbm,Qbm,Qbm];omega
theorem Q6t {p q:Nat} (hp:p<4294967296) (hq:q<4294967296):IntKind.u64.wrap (IntKind.u64.wrap ((p:Int)*4294967296)+(q:Int))=((p*4294967296+q:Nat):Int):=by
 rw [Qbm,Qbm];omega
theorem Qdv {p q:Nat} (hp:p<4294967296) (hq:q<4294967296):IntKind.u64.wrap ((p:Int)*(q:Int))=((p*q:Nat):Int):=by
 have:p*q≤4294967295*4294967295:=Nat.mul_le_mul (by omega) (by omega);rw [←Int.natCast_mul,Qbm];generalize p*q=n at*;omega
theorem Qm2 {r:Nat} (hr:r<4294967296):IntKind.u64.wrap (4294967296*(r:Int))=((r*4294967296:Nat):Int):=by rw [Qbm];omega
theorem Qjd {r d:Nat} (hr:r<4294967296) (hd:d<4294967296):IntKind.u64.wrap (((r*4294967296:Nat):Int)+(d:Int))=((r*4294967296+d:Nat):Int):=by rw [Qbm];omega
theorem Qm3 {q:Nat} (h0:0<q) (h:q≤4294967297):IntKind.u64.wrap ((q:Int)-1)=((q-1:Nat):Int):=by rw [Qbm];omega
theorem Qm4 {r y:Nat} (h0:r<4294967296) (h:y<4294967296):IntKind.u64.wrap ((r:Int)+(y:Int))=((r+y:Nat):Int):=by rw [Qbm];omega
theorem m32:(2:Nat)^min 32 64=4294967296:=rfl
set_option maxHeartbeats 2000000 in
theorem Qz5 (hi lo y:Nat) (hy:hi<y) (hyl:y<18446744073709551616) (hlo:lo<18446744073709551616):Qaf Tryz.prog 68 [.int .u64 (hi:Int),.int .u64 (lo:Int),.int .u64 (y:Int)] (.tup [.int .u64 (((hi*18446744073709551616+lo)/y:Nat):Int),.int .u64 (((hi*18446744073709551616+lo)%y:Nat):Int)]):=by
 have g1:(((y:Nat):Int)==0)=false:=by simp only [beq_eq_false_iff_ne,ne_eq];omega
 have g2:(((y:Nat):Int)≤((hi:Nat):Int))=False:=by simp only [eq_iff_iff,iff_false];omega
 have g3:(((y:Nat):Int)=0)=False:=by simp only [eq_iff_iff,iff_false];omega
 by_cases h0:hi=0
 ·subst h0;have g4:((((0:Nat):Nat):Int)==0)=true:=rfl;have g5:IntKind.u64.wrap (((lo/y:Nat):Int))=((lo/y:Nat):Int):=by rw [Qco,Nat.mod_eq_of_lt (Nat.lt_of_le_of_lt (Nat.div_le_self _ _) hlo)]
  rw [Nat.zero_mul,Nat.zero_add];refine Qac (tb:=[]) 135 [.tmp 6,.tmp 7] [0,1,2,6,7,8,9,10,11,12,13,14,15,16,17,18,20,24,27,78,85,113,120] mixed Tryz.func68 rfl (by kernel_rfl) (by kernel_rfl) (by kernel_rfl) (by kernel_rfl) ?_;simp -implicitDefEqProofs only [go_sem,Nat.reduceAdd,Nat.reduceMul,Nat.reduceEqDiff,Nat.reduceLT,Nat.reduceLeDiff,reduceCtorEq,g1,g2,g3,g4,Qu0,Zdc,g5];exact Qah _ _ (by kernel_rfl)
 ·have g4:(((hi:Nat):Int)==0)=false:=by simp only [beq_eq_false_iff_ne,ne_eq];omega
  obtain⟨b1,b2⟩:=Zat (show 0<y by omega);have b3:=Zas y;have b4:=Qcy 64 y hyl;obtain⟨s,hs⟩: ∃s,s=64-blen y:=⟨_,rfl⟩;have hs64:s<64:=by omega
  have hmin:min s 64=s:=by omega
  have hmin2:min (64-s) 64=64-s:=by omega
  obtain⟨D1,D2⟩:=Qtq (hi:=hi) (lo:=lo) (y:=y) (s:=s) (by omega) hlo hy (by omega);have hY1:9223372036854775808≤y*2^s:=by
   have:=Nat.mul_le_mul_right (2^s) b1;rw [←Nat.pow_add,show blen y-1+s=63 by omega]at this;exact this
  have hY2:y*2^s<18446744073709551616:=by
   have:=Nat.mul_lt_mul_of_pos_right b3 (show 0<2^s from Nat.pow_pos (by decide));rw [←Nat.pow_add,show blen y+s=64 by omega]at this;exact this
  have hu:hi*2^s+lo/2^(64-s)<y*2^s:=by
   have h1:lo/2^(64-s)<2^s:=by
    have:=Qds s (by omega);simp only [WB]at this;rw [this,Nat.mul_comm]at hlo;exact Nat.div_lt_of_lt_mul hlo
   have h2:hi*2^s+2^s≤y*2^s:=by rw [←Nat.succ_mul];exact Nat.mul_le_mul_right _ hy
   omega
  have hor:(hi*2^s%18446744073709551616%18446744073709551616 ||| lo/2^(64-s)%18446744073709551616)=hi*2^s+lo/2^(64-s):=by
   have h1:lo/2^(64-s)<2^s:=by
    have:=Qds s (by omega);simp only [WB]at this;rw [this,Nat.mul_comm]at hlo;exact Nat.div_lt_of_lt_mul hlo
   rw [Nat.mod_mod,Nat.mod_eq_of_lt (Nat.lt_of_le_of_lt (Nat.le_trans (Nat.le_add_right _ _) (Nat.le_of_lt hu)) hY2),Nat.mod_eq_of_lt (Nat.lt_of_le_of_lt (Nat.le_trans (Nat.le_add_left _ _) (Nat.le_of_lt hu)) hY2),Nat.mul_comm hi,Nat.two_pow_add_eq_or_of_lt h1]
  have k1:((((s:Nat):Int))<0)=False:=by simp only [eq_iff_iff,iff_false];omega
  have k2:IntKind.u64.wrap (64-((s:Nat):Int))=((64-s:Nat):Int):=by
   rw [show(64:Int)-((s:Nat):Int)=((64-s:Nat):Int)by omega,Qco,Nat.mod_eq_of_lt (by omega)]
  have k3:((((64-s:Nat):Nat):Int)<0)=False:=by simp only [eq_iff_iff,iff_false];omega
  have k4:IntKind.u64.wrap (((64-blen y:Nat):Int))=((s:Nat):Int):=by rw [←hs,Qco,Nat.mod_eq_of_lt (by omega)]
  have hyt:(((y*2^s/4294967296:Nat):Int)=0)=False:=by simp only [eq_iff_iff,iff_false];omega
  have k5:y*2^s%18446744073709551616=y*2^s:=Nat.mod_eq_of_lt hY2;refine Qac (tb:=[]) 135 [.tmp 6,.tmp 7] [0,1,2,6,7,8,9,10,11,12,13,14,15,16,17,18,20,24,27,78,85,113,120] mixed Tryz.func68 rfl (by kernel_rfl) (by kernel_rfl) (by kernel_rfl) (by kernel_rfl) ?_;simp -implicitDefEqProofs only [go_sem,Nat.reduceAdd,Nat.reduceMul,Nat.reduceEqDiff,Nat.reduceLT,Nat.reduceLeDiff,reduceCtorEq,g1,g2,g4];refine Qab _ _ _ _ _ _ _ _ _ (Q0c y hyl) ?_;simp -implicitDefEqProofs only [go_sem,Nat.reduceAdd,Nat.reduceMul,Nat.reduceEqDiff,Nat.reduceLT,Nat.reduceLeDiff,reduceCtorEq,Int.reduceLT,Int.reduceToNat,k4,k1,k2,k3,hmin,hmin2,Int.toNat_natCast,Qj2,Qg1,m32,Q79,k5,hor,Qu0,hyt];clear g1 g2 g3 g4 k4 k5 hor b1 b2 b3 b4 hs;generalize hi*2^s+lo/2^(64-s)=u at*;generalize y*2^s=Y at*;have htl:lo*2^s%18446744073709551616<18446744073709551616:=Nat.mod_lt _ (by decide);generalize lo*2^s%18446744073709551616=t at*;have hd1:t/4294967296<4294967296:=by omega
  have hd0:t%4294967296<4294967296:=by omega
  generalize t/4294967296=d1 at*;generalize t%4294967296=d0 at*;have i5:=Qou (n:=u/(Y/4294967296)) (Nat.lt_of_le_of_lt (Nat.div_le_self _ _) (Nat.lt_trans hu hY2));have i6:=Qz4 u (Y/4294967296) (Nat.lt_trans hu hY2);have l4:=Qsm u d1 Y (by omega) hY2;obtain⟨v,hvd⟩: ∃v,v=(u*4294967296+d1)%Y:=⟨_,rfl⟩;have hv:v<Y:=by rw [hvd];exact Nat.mod_lt _ (by omega)
  rw [←hvd]at D1 D2 l4;have l5:=Qou (n:=v/(Y/4294967296)) (Nat.lt_of_le_of_lt (Nat.div_le_self _ _) (Nat.lt_trans hv hY2));have l6:=Qz4 v (Y/4294967296) (Nat.lt_trans hv hY2);have f1:=Q6t (Qhm hu hd1) (Qhm hv hd0);have f2:=Qsm v d0 Y (by omega) hY2;simp only [i5,i6];clear hvd i5 i6;refine Qa7 mixed (fun p:{p:Nat×Nat // Kn Y u d1 p.1 p.2}=>St.of [(2,.int .u64 ((Y:Nat):Int)),(8,.int .u64 ((s:Nat):Int)),(9,.int .u64 ((Y/4294967296:Nat):Int)),(10,.int .u64 ((Y%4294967296:Nat):Int)),(11,.int .u64 ((u:Nat):Int)),(13,.int .u64 ((d1:Nat):Int)),(14,.int .u64 ((d0:Nat):Int)),(15,.int .u64 ((p.1.1:Nat):Int)),(16,.int .u64 ((p.1.2:Nat):Int))] []) (fun p=>p.1.1) ⟨(u/(Y/4294967296),u%(Y/4294967296)),Qi5 hY1 hY2 hu hd1⟩ ?_ ?_
  ·exact Qbc (by simp [Qag,lkp,ren1,ren0])
  ·rintro⟨⟨q,r⟩,hK⟩;have hq:=kn_q hY1 hY2 hu hK;have hr:r<4294967296:=hK.small;have ht:=Qmh hK;simp only at hq hr ht hK ⊢;have hy1:Y/4294967296<4294967296:=by omega
   have hy0:Y%4294967296<4294967296:=by omega
   have e5:=Qm4 hr hy1;have w1:=Qm2 hr;have w2:=Qjd hr hd1;by_cases hc:u*4294967296+d1<q*Y
   ·obtain⟨hq0,hG⟩:=Qmi hY1 hu hK hc;have e4:=Qm3 hq0 hq;have hbig:(4294967296:Int)≤((q:Nat):Int)∨((4294967296:Int)≤((q:Nat):Int))=False∧IntKind.u64.wrap (((q:Nat):Int)*((Y%4294967296:Nat):Int))=((q*(Y%4294967296):Nat):Int):=by
     by_cases h:4294967296≤q
     ·left;omega
     ·right;exact⟨by simp only [eq_iff_iff,iff_false];omega,Qdv (by omega) hy0⟩
    have w3:(((r*4294967296+d1:Nat):Int)<((q*(Y%4294967296):Nat):Int))=True:=by
     simp only [eq_iff_iff,iff_true];have:=ht.2 hc;omega
    by_cases hbr:4294967296≤r+Y/4294967296
    ·have hbr':((4294967296:Int)≤((r+Y/4294967296:Nat):Int))=True:=by simp only [eq_iff_iff,iff_true];omega
     have hQ:=Qi6 hY1 hu hd1 hG hbr;rcases hbig with h|⟨h,w0⟩
     ·have h':((4294967296:Int)≤((q:Nat):Int))=True:=by simp only [eq_iff_iff,iff_true];exact h
      rw [hQ]at e4;simp -implicitDefEqProofs only [go_sem,Nat.reduceAdd,Nat.reduceMul,Nat.reduceEqDiff,Nat.reduceLT,Nat.reduceLeDiff,reduceCtorEq,h',e4,e5,hbr'];simp -implicitDefEqProofs only [go_sem,Nat.reduceAdd,Nat.reduceMul,Nat.reduceEqDiff,Nat.reduceLT,Nat.reduceLeDiff,reduceCtorEq,l4,Qu0,hyt,l5,l6];refine Qa7 mixed (fun p:{p:Nat×Nat // Kn Y v d0 p.1 p.2}=>St.of [(2,.int .u64 ((Y:Nat):Int)),(8,.int .u64 ((s:Nat):Int)),(9,.int .u64 ((Y/4294967296:Nat):Int)),(10,.int .u64 ((Y%4294967296:Nat):Int)),(14,.int .u64 ((d0:Nat):Int)),(15,.int .u64 (((u*4294967296+d1)/Y:Nat):Int)),(17,.int .u64 ((v:Nat):Int)),(18,.int .u64 ((p.1.1:Nat):Int)),(16,.int .u64 ((p.1.2:Nat):Int))] []) (fun p=>p.1.1) ⟨(v/(Y/4294967296),v%(Y/4294967296)),Qi5 hY1 hY2 hv hd0⟩ ?_ ?_
      ·exact Qbc (by simp [Qag,lkp,ren1,ren0])
      ·rintro⟨⟨q,r⟩,hK⟩;have hq:=kn_q hY1 hY2 hv hK;have hr:r<4294967296:=hK.small;have ht:=Qmh hK;simp only at hq hr ht hK ⊢;have hy1:Y/4294967296<4294967296:=by omega
       have hy0:Y%4294967296<4294967296:=by omega
       have e5:=Qm4 hr hy1;have w1:=Qm2 hr;have w2:=Qjd hr hd0;by_cases hc:v*4294967296+d0<q*Y
       ·obtain⟨hq0,hG⟩:=Qmi hY1 hv hK hc;have e4:=Qm3 hq0 hq;have hbig:(4294967296:Int)≤((q:Nat):Int)∨((4294967296:Int)≤((q:Nat):Int))=False∧IntKind.u64.wrap (((q:Nat):Int)*((Y%4294967296:Nat):Int))=((q*(Y%4294967296):Nat):Int):=by
         by_cases h:4294967296≤q
         ·left;omega
         ·right;exact⟨by simp only [eq_iff_iff,iff_false];omega,Qdv (by omega) hy0⟩
        have w3:(((r*4294967296+d0:Nat):Int)<((q*(Y%4294967296):Nat):Int))=True:=by
         simp only [eq_iff_iff,iff_true];have:=ht.2 hc;omega
        by_cases hbr:4294967296≤r+Y/4294967296
        ·have hbr':((4294967296:Int)≤((r+Y/4294967296:Nat):Int))=True:=by simp only [eq_iff_iff,iff_true];omega
         have hQ:=Qi6 hY1 hv hd0 hG hbr;rcases hbig with h|⟨h,w0⟩
         ·have h':((4294967296:Int)≤((q:Nat):Int))=True:=by simp only [eq_iff_iff,iff_true];exact h
          rw [hQ]at e4;simp -implicitDefEqProofs only [go_sem,Nat.reduceAdd,Nat.reduceMul,Nat.reduceEqDiff,Nat.reduceLT,Nat.reduceLeDiff,reduceCtorEq,h',e4,e5,hbr'];simp -implicitDefEqProofs only [go_sem,Nat.reduceAdd,Nat.reduceEqDiff,Nat.reduceLT,reduceCtorEq,f1,f2,k1,hmin,Qg1];rw [←D1,←D2]
         ·rw [hQ]at e4;simp -implicitDefEqProofs only [go_sem,Nat.reduceAdd,Nat.reduceMul,Nat.reduceEqDiff,Nat.reduceLT,Nat.reduceLeDiff,reduceCtorEq,h,w0,w1,w2,w3,e4,e5,hbr'];simp -implicitDefEqProofs only [go_sem,Nat.reduceAdd,Nat.reduceEqDiff,Nat.reduceLT,reduceCtorEq,f1,f2,k1,hmin,Qg1];rw [←D1,←D2]
        ·have hbr':((4294967296:Int)≤((r+Y/4294967296:Nat):Int))=False:=by simp only [eq_iff_iff,iff_false];omega
         have next: ∃y:{p:Nat×Nat // Kn Y v d0 p.1 p.2},y.1.1<q∧y.1=(q-1,r+Y/4294967296):=⟨⟨(q-1,r+Y/4294967296),hG,by simp only;omega⟩,by simp only;omega,rfl⟩
         obtain⟨y,y1,y2⟩:=next
         rcases hbig with h|⟨h,w0⟩
         ·have h':((4294967296:Int)≤((q:Nat):Int))=True:=by simp only [eq_iff_iff,iff_true];exact h
          simp -implicitDefEqProofs only [go_sem,Nat.reduceAdd,Nat.reduceMul,Nat.reduceEqDiff,Nat.reduceLT,Nat.reduceLeDiff,reduceCtorEq,h',e4,e5,hbr'];refine⟨y,y1,Qbc ?_⟩;simp [Qag,lkp,ren1,ren0,y2]
         ·simp -implicitDefEqProofs only [go_sem,Nat.reduceAdd,Nat.reduceMul,Nat.reduceEqDiff,Nat.reduceLT,Nat.reduceLeDiff,reduceCtorEq,h,w0,w1,w2,w3,e4,e5,hbr'];refine⟨y,y1,Qbc ?_⟩;simp [Qag,lkp,ren1,ren0,y2]
       ·have hQ:=Qmj hY1 hK hc;have hq2:q<4294967296:=by rw [hQ];exact Qhm hv hd0
        have h:((4294967296:Int)≤((q:Nat):Int))=False:=by simp only [eq_iff_iff,iff_false];omega
        have w0:=Qdv hq2 hy0;have w3:(((r*4294967296+d0:Nat):Int)<((q*(Y%4294967296):Nat):Int))=False:=by
         simp only [eq_iff_iff,iff_false];have:=mt ht.1 hc;omega
        simp -implicitDefEqProofs only [go_sem,Nat.reduceAdd,Nat.reduceMul,Nat.reduceEqDiff,Nat.reduceLT,Nat.reduceLeDiff,reduceCtorEq,h,w0,w1,w2,w3];clear hK hq hr ht e5 hc hq2 h w0 w1 w2 w3;subst hQ;simp -implicitDefEqProofs only [go_sem,Nat.reduceAdd,Nat.reduceEqDiff,Nat.reduceLT,reduceCtorEq,f1,f2,k1,hmin,Qg1];rw [←D1,←D2]
     ·rw [hQ]at e4;simp -implicitDefEqProofs only [go_sem,Nat.reduceAdd,Nat.reduceMul,Nat.reduceEqDiff,Nat.reduceLT,Nat.reduceLeDiff,reduceCtorEq,h,w0,w1,w2,w3,e4,e5,hbr'];simp -implicitDefEqProofs only [go_sem,Nat.reduceAdd,Nat.reduceMul,Nat.reduceEqDiff,Nat.reduceLT,Nat.reduceLeDiff,reduceCtorEq,l4,Qu0,hyt,l5,l6];refine Qa7 mixed (fun p:{p:Nat×Nat // Kn Y v d0 p.1 p.2}=>St.of [(2,.int .u64 ((Y:Nat):Int)),(8,.int .u64 ((s:Nat):Int)),(9,.int .u64 ((Y/4294967296:Nat):Int)),(10,.int .u64 ((Y%4294967296:Nat):Int)),(14,.int .u64 ((d0:Nat):Int)),(15,.int .u64 (((u*4294967296+d1)/Y:Nat):Int)),(17,.int .u64 ((v:Nat):Int)),(18,.int .u64 ((p.1.1:Nat):Int)),(16,.int .u64 ((p.1.2:Nat):Int))] []) (fun p=>p.1.1) ⟨(v/(Y/4294967296),v%(Y/4294967296)),Qi5 hY1 hY2 hv hd0⟩ ?_ ?_
      ·exact Qbc (by simp [Qag,lkp,ren1,ren0])
      ·rintro⟨⟨q,r⟩,hK⟩;have hq:=kn_q hY1 hY2 hv hK;have hr:r<4294967296:=hK.small;have ht:=Qmh hK;simp only at hq hr ht hK ⊢;have hy1:Y/4294967296<4294967296:=by omega
       have hy0:Y%4294967296<4294967296:=by omega
       have e5:=Qm4 hr hy1;have w1:=Qm2 hr;have w2:=Qjd hr hd0;by_cases hc:v*4294967296+d0<q*Y
       ·obtain⟨hq0,hG⟩:=Qmi hY1 hv hK hc;have e4:=Qm3 hq0 hq;have hbig:(4294967296:Int)≤((q:Nat):Int)∨((4294967296:Int)≤((q:Nat):Int))=False∧IntKind.u64.wrap (((q:Nat):Int)*((Y%4294967296:Nat):Int))=((q*(Y%4294967296):Nat):Int):=by
         by_cases h:4294967296≤q
         ·left;omega
         ·right;exact⟨by simp only [eq_iff_iff,iff_false];omega,Qdv (by omega) hy0⟩
        have w3:(((r*4294967296+d0:Nat):Int)<((q*(Y%4294967296):Nat):Int))=True:=by
         simp only [eq_iff_iff,iff_true];have:=ht.2 hc;omega
        by_cases hbr:4294967296≤r+Y/4294967296
        ·have hbr':((4294967296:Int)≤((r+Y/4294967296:Nat):Int))=True:=by simp only [eq_iff_iff,iff_true];omega
         have hQ:=Qi6 hY1 hv hd0 hG hbr;rcases hbig with h|⟨h,w0⟩
         ·have h':((4294967296:Int)≤((q:Nat):Int))=True:=by simp only [eq_iff_iff,iff_true];exact h
          rw [hQ]at e4;simp -implicitDefEqProofs only [go_sem,Nat.reduceAdd,Nat.reduceMul,Nat.reduceEqDiff,Nat.reduceLT,Nat.reduceLeDiff,reduceCtorEq,h',e4,e5,hbr'];simp -implicitDefEqProofs only [go_sem,Nat.reduceAdd,Nat.reduceEqDiff,Nat.reduceLT,reduceCtorEq,f1,f2,k1,hmin,Qg1];rw [←D1,←D2]
         ·rw [hQ]at e4;simp -implicitDefEqProofs only [go_sem,Nat.reduceAdd,Nat.reduceMul,Nat.reduceEqDiff,Nat.reduceLT,Nat.reduceLeDiff,reduceCtorEq,h,w0,w1,w2,w3,e4,e5,hbr'];simp -implicitDefEqProofs only [go_sem,Nat.reduceAdd,Nat.reduceEqDiff,Nat.reduceLT,reduceCtorEq,f1,f2,k1,hmin,Qg1];rw [←D1,←D2]
        ·have hbr':((4294967296:Int)≤((r+Y/4294967296:Nat):Int))=False:=by simp only [eq_iff_iff,iff_false];omega
         have next: ∃y:{p:Nat×Nat // Kn Y v d0 p.1 p.2},y.1.1<q∧y.1=(q-1,r+Y/4294967296):=⟨⟨(q-1,r+Y/4294967296),hG,by simp only;omega⟩,by simp only;omega,rfl⟩
         obtain⟨y,y1,y2⟩:=next
         rcases hbig with h|⟨h,w0⟩
         ·have h':((4294967296:Int)≤((q:Nat):Int))=True:=by simp only [eq_iff_iff,iff_true];exact h
          simp -implicitDefEqProofs only [go_sem,Nat.reduceAdd,Nat.reduceMul,Nat.reduceEqDiff,Nat.reduceLT,Nat.reduceLeDiff,reduceCtorEq,h',e4,e5,hbr'];refine⟨y,y1,Qbc ?_⟩;simp [Qag,lkp,ren1,ren0,y2]
         ·simp -implicitDefEqProofs only [go_sem,Nat.reduceAdd,Nat.reduceMul,Nat.reduceEqDiff,Nat.reduceLT,Nat.reduceLeDiff,reduceCtorEq,h,w0,w1,w2,w3,e4,e5,hbr'];refine⟨y,y1,Qbc ?_⟩;simp [Qag,lkp,ren1,ren0,y2]
       ·have hQ:=Qmj hY1 hK hc;have hq2:q<4294967296:=by rw [hQ];exact Qhm hv hd0
        have h:((4294967296:Int)≤((q:Nat):Int))=False:=by simp only [eq_iff_iff,iff_false];omega
        have w0:=Qdv hq2 hy0;have w3:(((r*4294967296+d0:Nat):Int)<((q*(Y%4294967296):Nat):Int))=False:=by
         simp only [eq_iff_iff,iff_false];have:=mt ht.1 hc;omega
        simp -implicitDefEqProofs only [go_sem,Nat.reduceAdd,Nat.reduceMul,Nat.reduceEqDiff,Nat.reduceLT,Nat.reduceLeDiff,reduceCtorEq,h,w0,w1,w2,w3];clear hK hq hr ht e5 hc hq2 h w0 w1 w2 w3;subst hQ;simp -implicitDefEqProofs only [go_sem,Nat.reduceAdd,Nat.reduceEqDiff,Nat.reduceLT,reduceCtorEq,f1,f2,k1,hmin,Qg1];rw [←D1,←D2]
    ·have hbr':((4294967296:Int)≤((r+Y/4294967296:Nat):Int))=False:=by simp only [eq_iff_iff,iff_false];omega
     have next: ∃y:{p:Nat×Nat // Kn Y u d1 p.1 p.2},y.1.1<q∧y.1=(q-1,r+Y/4294967296):=⟨⟨(q-1,r+Y/4294967296),hG,by simp only;omega⟩,by simp only;omega,rfl⟩
     obtain⟨y,y1,y2⟩:=next
     rcases hbig with h|⟨h,w0⟩
     ·have h':((4294967296:Int)≤((q:Nat):Int))=True:=by simp only [eq_iff_iff,iff_true];exact h
      simp -implicitDefEqProofs only [go_sem,Nat.reduceAdd,Nat.reduceMul,Nat.reduceEqDiff,Nat.reduceLT,Nat.reduceLeDiff,reduceCtorEq,h',e4,e5,hbr'];refine⟨y,y1,Qbc ?_⟩;simp [Qag,lkp,ren1,ren0,y2]
     ·simp -implicitDefEqProofs only [go_sem,Nat.reduceAdd,Nat.reduceMul,Nat.reduceEqDiff,Nat.reduceLT,Nat.reduceLeDiff,reduceCtorEq,h,w0,w1,w2,w3,e4,e5,hbr'];refine⟨y,y1,Qbc ?_⟩;simp [Qag,lkp,ren1,ren0,y2]
   ·have hQ:=Qmj hY1 hK hc;have hq2:q<4294967296:=by rw [hQ];exact Qhm hu hd1
    have h:((4294967296:Int)≤((q:Nat):Int))=False:=by simp only [eq_iff_iff,iff_false];omega
    have w0:=Qdv hq2 hy0;have w3:(((r*4294967296+d1:Nat):Int)<((q*(Y%4294967296):Nat):Int))=False:=by
     simp only [eq_iff_iff,iff_false];have:=mt ht.1 hc;omega
    simp -implicitDefEqProofs only [go_sem,Nat.reduceAdd,Nat.reduceMul,Nat.reduceEqDiff,Nat.reduceLT,Nat.reduceLeDiff,reduceCtorEq,h,w0,w1,w2,w3];clear hK hq hr ht e5 hc hq2 h w0 w1 w2 w3;subst hQ;simp -implicitDefEqProofs only [go_sem,Nat.reduceAdd,Nat.reduceMul,Nat.reduceEqDiff,Nat.reduceLT,Nat.reduceLeDiff,reduceCtorEq,l4,Qu0,hyt,l5,l6];refine Qa7 mixed (fun p:{p:Nat×Nat // Kn Y v d0 p.1 p.2}=>St.of [(2,.int .u64 ((Y:Nat):Int)),(8,.int .u64 ((s:Nat):Int)),(9,.int .u64 ((Y/4294967296:Nat):Int)),(10,.int .u64 ((Y%4294967296:Nat):Int)),(14,.int .u64 ((d0:Nat):Int)),(15,.int .u64 (((u*4294967296+d1)/Y:Nat):Int)),(17,.int .u64 ((v:Nat):Int)),(18,.int .u64 ((p.1.1:Nat):Int)),(16,.int .u64 ((p.1.2:Nat):Int))] []) (fun p=>p.1.1) ⟨(v/(Y/4294967296),v%(Y/4294967296)),Qi5 hY1 hY2 hv hd0⟩ ?_ ?_
    ·exact Qbc (by simp [Qag,lkp,ren1,ren0])
    ·rintro⟨⟨q,r⟩,hK⟩;have hq:=kn_q hY1 hY2 hv hK;have hr:r<4294967296:=hK.small;have ht:=Qmh hK;simp only at hq hr ht hK ⊢;have hy1:Y/4294967296<4294967296:=by omega
     have hy0:Y%4294967296<4294967296:=by omega
     have e5:=Qm4 hr hy1;have w1:=Qm2 hr;have w2:=Qjd hr hd0;by_cases hc:v*4294967296+d0<q*Y
     ·obtain⟨hq0,hG⟩:=Qmi hY1 hv hK hc;have e4:=Qm3 hq0 hq;have hbig:(4294967296:Int)≤((q:Nat):Int)∨((4294967296:Int)≤((q:Nat):Int))=False∧IntKind.u64.wrap (((q:Nat):Int)*((Y%4294967296:Nat):Int))=((q*(Y%4294967296):Nat):Int):=by
       by_cases h:4294967296≤q
       ·left;omega
       ·right;exact⟨by simp only [eq_iff_iff,iff_false];omega,Qdv (by omega) hy0⟩
      have w3:(((r*4294967296+d0:Nat):Int)<((q*(Y%4294967296):Nat):Int))=True:=by
       simp only [eq_iff_iff,iff_true];have:=ht.2 hc;omega
      by_cases hbr:4294967296≤r+Y/4294967296
      ·have hbr':((4294967296:Int)≤((r+Y/4294967296:Nat):Int))=True:=by simp only [eq_iff_iff,iff_true];omega
       have hQ:=Qi6 hY1 hv hd0 hG hbr;rcases hbig with h|⟨h,w0⟩
       ·have h':((4294967296:Int)≤((q:Nat):Int))=True:=by simp only [eq_iff_iff,iff_true];exact h
        rw [hQ]at e4;simp -implicitDefEqProofs only [go_sem,Nat.reduceAdd,Nat.reduceMul,Nat.reduceEqDiff,Nat.reduceLT,Nat.reduceLeDiff,reduceCtorEq,h',e4,e5,hbr'];simp -implicitDefEqProofs only [go_sem,Nat.reduceAdd,Nat.reduceEqDiff,Nat.reduceLT,reduceCtorEq,f1,f2,k1,hmin,Qg1];rw [←D1,←D2]
       ·rw [hQ]at e4;simp -implicitDefEqProofs only [go_sem,Nat.reduceAdd,Nat.reduceMul,Nat.reduceEqDiff,Nat.reduceLT,Nat.reduceLeDiff,reduceCtorEq,h,w0,w1,w2,w3,e4,e5,hbr'];simp -implicitDefEqProofs only [go_sem,Nat.reduceAdd,Nat.reduceEqDiff,Nat.reduceLT,reduceCtorEq,f1,f2,k1,hmin,Qg1];rw [←D1,←D2]
      ·have hbr':((4294967296:Int)≤((r+Y/4294967296:Nat):Int))=False:=by simp only [eq_iff_iff,iff_false];omega
       have next: ∃y:{p:Nat×Nat // Kn Y v d0 p.1 p.2},y.1.1<q∧y.1=(q-1,r+Y/4294967296):=⟨⟨(q-1,r+Y/4294967296),hG,by simp only;omega⟩,by simp only;omega,rfl⟩
       obtain⟨y,y1,y2⟩:=next
       rcases hbig with h|⟨h,w0⟩
       ·have h':((4294967296:Int)≤((q:Nat):Int))=True:=by simp only [eq_iff_iff,iff_true];exact h
        simp -implicitDefEqProofs only [go_sem,Nat.reduceAdd,Nat.reduceMul,Nat.reduceEqDiff,Nat.reduceLT,Nat.reduceLeDiff,reduceCtorEq,h',e4,e5,hbr'];refine⟨y,y1,Qbc ?_⟩;simp [Qag,lkp,ren1,ren0,y2]
       ·simp -implicitDefEqProofs only [go_sem,Nat.reduceAdd,Nat.reduceMul,Nat.reduceEqDiff,Nat.reduceLT,Nat.reduceLeDiff,reduceCtorEq,h,w0,w1,w2,w3,e4,e5,hbr'];refine⟨y,y1,Qbc ?_⟩;simp [Qag,lkp,ren1,ren0,y2]
     ·have hQ:=Qmj hY1 hK hc;have hq2:q<4294967296:=by rw [hQ];exact Qhm hv hd0
      have h:((4294967296:Int)≤((q:Nat):Int))=False:=by simp only [eq_iff_iff,iff_false];omega
      have w0:=Qdv hq2 hy0;have w3:(((r*4294967296+d0:Nat):Int)<((q*(Y%4294967296):Nat):Int))=False:=by
       simp only [eq_iff_iff,iff_false];have:=mt ht.1 hc;omega
      simp -implicitDefEqProofs only [go_sem,Nat.reduceAdd,Nat.reduceMul,Nat.reduceEqDiff,Nat.reduceLT,Nat.reduceLeDiff,reduceCtorEq,h,w0,w1,w2,w3];clear hK hq hr ht e5 hc hq2 h w0 w1 w2 w3;subst hQ;simp -implicitDefEqProofs only [go_sem,Nat.reduceAdd,Nat.reduceEqDiff,Nat.reduceLT,reduceCtorEq,f1,f2,k1,hmin,Qg1];rw [←D1,←D2]
end Go.Proofs.YtapjnenbofmliaaGreatDoor

namespace Go.Dg
theorem Qtr (A d B:Nat) (hB:0<B) (hd:0<d):(A/B%d*B+A%B)/d=A/d%B∧(A/B%d*B+A%B)%d=A%d:=by
 have h1:=Nat.div_add_mod A B;have h2:=Nat.div_add_mod (A/B) d;have hr:A/B%d<d:=Nat.mod_lt _ hd;have hl:A%B<B:=Nat.mod_lt _ hB;generalize A/B%d=r at*;generalize A/B/d=Q at*;generalize A%B=l at*;have e:A=d*(Q*B)+(r*B+l):=by
  rw [←h1,←h2,Nat.mul_add,Nat.mul_comm B r,Nat.mul_comm B,Nat.mul_assoc];omega
 have hlt:r*B+l<d*B:=by
  have:=Nat.mul_le_mul_right B (show r+1≤d from hr);rw [Nat.add_mul]at this;omega
 have hq:(r*B+l)/d<B:=by rw [Nat.div_lt_iff_lt_mul hd,Nat.mul_comm B];exact hlt
 constructor
 ·rw [e,Nat.mul_add_div hd,Nat.mul_add_mod_self_right,Nat.mod_eq_of_lt hq]
 ·rw [e,Nat.mul_add_mod]
theorem Qmk (B V S N:Nat):mix B V S N N=lows B V N:=by
 apply List.map_congr_left;intro j hj;rw [if_pos (by simpa using hj)]
theorem Qts (a w r i:Nat) (hr:r≤64):shlV a w r i/WB^(i+w)%WB=shlC a r i:=by
 rw [Qi4,Nat.mod_eq_of_lt (Nat.lt_of_lt_of_le (Qjl a r i) (Nat.pow_le_pow_right (n:=2) (by decide) hr))]
end Go.Dg

namespace Go.Proofs.YtapjnenbofmliaaGreatDoor
open Go.Vl Go.RowKit Go.Dg
theorem Qm5 (a d:Nat) (hd:0<d) (hdl:d<18446744073709551616) (ha:(digs BW a).length≤1000000000):Qaf Tryz.prog 35 [dw (digs BW a),.int .u64 (d:Int)] (.tup [dw (digs BW (a/d)),.int .u64 ((a%d:Nat):Int)]):=by
 refine Qac (tb:=[]) 35 [.tmp 4,.tmp 5] [0,1,4,5,6,7,8,16] mixed Tryz.func35 rfl (by kernel_rfl) (by kernel_rfl) (by kernel_rfl) (by kernel_rfl) ?_;have hn0:((0:Int)≤((digs BW a).length:Int))=True:=by simp
 have hn1:((8:Nat):Int)*((digs BW a).length:Int)≤281474976710656:=by omega
 have hn2:((digs BW a).length:Int)≤9223372036854775807:=by omega
 have hlt:a<BW^(digs BW a).length:=Qaw BW_2 a;have hw:IntKind.i64.wrap (((digs BW a).length:Int)-1)=((digs BW a).length:Int)-1:=Qai (by omega) (by omega);simp -implicitDefEqProofs only [go_sem,Nat.reduceAdd,Nat.reduceMul,Nat.reduceEqDiff,Nat.reduceLT,Nat.reduceLeDiff,reduceCtorEq,dw,List.length_map,hn0,hn1,hn2,Int.toNat_natCast,hw];generalize hN:(digs BW a).length=N at*;have hrep:List.replicate N (PV.int .u64 0)=(mix BW 0 (a/d) N N).map fW:=by rw [Qmk,Qdf];simp
 rw [hrep];refine Qa7 mixed (fun i:{i:Nat // i≤N}=>St.of [(0,dw (digs BW a)),(1,.int .u64 (d:Int)),(4,.nilS),(5,.int .u64 0),(6,.bs 102 1 0 N),(7,.int .u64 ((a/BW^i.1%d:Nat):Int)),(8,.int .i64 ((i.1:Int)-1))]
  [(102,{els:=(mix BW 0 (a/d) N i.1).map fW,esz:=1,ety:=66,fro:=0,live:=true,arr:=true})]) (fun i=>i.1) ⟨N,Nat.le_refl _⟩ ?_ ?_
 ·refine Qa0 (θ:=[(102,102)]) rfl ?_ ?_
  ·simp [Qag,lkp,ren1,ren0,dw,Nat.div_eq_of_lt hlt]
  ·simp [Qal,lkp,Box.renames]
 ·rintro⟨i,hi⟩;cases i with
  |zero=>
   have h1:((0:Int)≤((0:Nat):Int)-1)=False:=by simp
   have hll:=Qae (B:=BW) (a/d) N;have htk:((lows BW (a/d) N).map fW).take N=(lows BW (a/d) N).map fW:=List.take_of_length_le (by simp [hll]);simp -implicitDefEqProofs only [go_sem,Nat.reduceAdd,Nat.reduceMul,Nat.reduceEqDiff,Nat.reduceLT,Nat.reduceLeDiff,reduceIte,reduceCtorEq,h1,Qgo,List.length_map,hll,htk];refine Qab _ _ _ _ _ _ _ _ _ (Qce (lows BW (a/d) N) (by rw [hll];simp [maxLen];omega)) ?_;have e:a/BW^0%d=a%d:=by rw [Nat.pow_zero,Nat.div_one]
   simp -implicitDefEqProofs only [go_sem,Nat.reduceAdd,Nat.reduceEqDiff,Nat.reduceLT,reduceCtorEq,dw,e];rw [Qbb BW_2,Nat.mod_eq_of_lt (Nat.lt_of_le_of_lt (Nat.div_le_self _ _) hlt)]
  |succ i=>
   have hs:(((i+1:Nat):Int)-1)=(i:Int):=by omega
   have h1:((0:Int)≤(i:Int))=True:=by simp
   have h2:((i:Int)<(N:Int))=True:=by simp;omega
   have hga:=Qam BW_2 (show i<(digs BW a).length by omega);have hml:=Qba (B:=BW) 0 (a/d) N (i+1);obtain⟨e,hgo⟩: ∃e:Nat,((mix BW 0 (a/d) N (i+1)).map fW)[i]? =some (PV.int .u64 (e:Int)):=⟨_,by rw [List.getElem?_map,Qcd _ _ _ _ _ (by omega)];rfl⟩;have e0:a/BW^(i+1)=a/BW^i/BW:=by rw [Nat.pow_succ,Nat.div_div_eq_div_mul]
   obtain⟨s1,s2⟩:=Qtr (a/BW^i) d BW (by decide) hd;have e1:a/BW^i/d=a/d/BW^i:=by rw [Nat.div_div_eq_div_mul,Nat.div_div_eq_div_mul,Nat.mul_comm]
   have hc:=Qz5 (a/BW^(i+1)%d) (a/BW^i%BW) d (Nat.mod_lt _ hd) hdl (Nat.mod_lt _ (by decide));rw [e0,s1,s2,e1]at hc;have hset:=Qms (B:=BW) (V:=0) (S:=a/d) (N:=N) (i:=i) (d:=a/d/BW^i%BW) (by omega) rfl;have w4:IntKind.i64.wrap ((i:Int)-1)=(i:Int)-1:=Qai (by omega) (by omega);simp -implicitDefEqProofs only [go_sem,Nat.reduceAdd,Nat.reduceMul,Nat.reduceEqDiff,Nat.reduceLT,Nat.reduceLeDiff,reduceCtorEq,dw,hs,h1,Qb2,hga,Int.toNat_natCast,e0];refine Qab _ _ _ _ _ _ _ _ _ hc ?_;simp -implicitDefEqProofs only [go_sem,Nat.reduceAdd,Nat.reduceMul,Nat.reduceEqDiff,Nat.reduceLT,Nat.reduceLeDiff,reduceIte,reduceCtorEq,h1,h2,hgo,Int.toNat_natCast,w4];refine⟨⟨i,by omega⟩,by simp only;omega,Qa0 (θ:=[(102,102)]) rfl ?_ ?_⟩
   ·simp [Qag,lkp,ren1,ren0,dw]
   ·rw [Qb8,hset];simp [Qal,lkp,Box.renames]
end Go.Proofs.YtapjnenbofmliaaGreatDoor

namespace Go.Dg
open Go.Lib
theorem Qe3 {u:Nat} (h: ¬u<10):decDigits u=decDigits (u/10)++[UInt8.ofNat (48+u%10)]:=by rw [decDigits,dif_neg h]
theorem Qho (u:Nat):decDigits u≠ []:=by
 by_cases h:u<10
 ·rw [decDigits_one h];simp
 ·rw [Qe3 h];simp
def padk:Nat→Nat→List UInt8
 |0,_=>[]
 |k+1,r=>padk k (r/10)++[UInt8.ofNat (48+r%10)]
theorem Qdj: ∀k r,(padk k r).length=k
 |0,_=>rfl
 |k+1,r=>by rw [padk,List.length_append,Qdj k];rfl
theorem Qof: ∀k,padk k 0=List.replicate k 48
 |0=>rfl
 |k+1=>by rw [padk,Nat.zero_div,Qof k,List.replicate_succ'];rfl
theorem Qlt: ∀(k q r:Nat),0<q→r<10^k→decDigits (q*10^k+r)=decDigits q++padk k r
 |0,q,r,_,hr=>by
  obtain rfl:r=0:=by simpa using hr
  simp [padk]
 |k+1,q,r,hq,hr=>by
  rw [Nat.pow_succ]at hr ⊢;have e1:q*(10^k*10)=q*10^k*10:=by rw [Nat.mul_assoc]
  have hp:0<10^k:=Nat.pow_pos (by decide);have h1:1≤q*10^k:=Nat.mul_pos hq hp;rw [e1];have e2:(q*10^k*10+r)/10=q*10^k+r/10:=by omega
  have e3:(q*10^k*10+r)%10=r%10:=by omega
  rw [Qe3 (by omega),e2,e3,Qlt k q (r/10) hq (by omega),padk,List.append_assoc]
theorem Qk3 (u:Nat):1≤(decDigits u).length:=List.length_pos_iff.2 (Qho u)
theorem Qc7: ∀(k u:Nat),u<10^(k+1)→(decDigits u).length≤k+1
 |0,u,h=>by rw [decDigits_one (by simpa using h)];simp
 |k+1,u,h=>by
  by_cases hu:u<10
  ·rw [decDigits_one hu];simp
  ·rw [Qe3 hu,List.length_append];have:=Qc7 k (u/10) (by rw [Nat.pow_succ]at h;omega);simp only [List.length_singleton];omega
theorem Qwm: ∀(k r:Nat),r<10^(k+1)→padk (k+1) r=List.replicate (k+1-(decDigits r).length) 48++decDigits r
 |0,r,h=>by
  have h10:r<10:=by simpa using h
  rw [decDigits_one h10,padk,padk,Nat.mod_eq_of_lt h10];rfl
 |k+1,r,h=>by
  by_cases h10:r<10
  ·rw [decDigits_one h10,padk,Nat.div_eq_of_lt h10,Qof,Nat.mod_eq_of_lt h10];rfl
  ·rw [padk,Qwm k (r/10) (by rw [Nat.pow_succ]at h;omega),Qe3 h10,List.length_append,List.append_assoc];simp
theorem Qi9: ∀(b a r:Nat),padk (a+b) r=padk a (r/10^b)++padk b (r%10^b)
 |0,a,r=>by simp [padk]
 |b+1,a,r=>by
  have e:a+(b+1)=(a+b)+1:=rfl;have e1:r%(10*10^b)/10=r/10%10^b:=by rw [Nat.mod_mul_right_div_self]
  have e2:r%(10*10^b)%10=r%10:=Nat.mod_mul_right_mod _ _ _;rw [e,padk,Qi9 b a (r/10),padk,Nat.pow_succ,Nat.mul_comm (10^b) 10,e1,e2,Nat.div_div_eq_div_mul,List.append_assoc]
def isD (c:UInt8):Bool:=decide (48≤c.toNat)&&decide (c.toNat≤57)
theorem Qlu (d:Nat) (h:d<10):isD (UInt8.ofNat (48+d))=true∧(UInt8.ofNat (48+d)).toNat=48+d:=by
 have e:(UInt8.ofNat (48+d)).toNat=48+d:=by simp;omega
 refine⟨?_,e⟩;simp only [isD,e,Bool.and_eq_true,decide_eq_true_eq];omega
theorem Q8x (c:UInt8) (h:isD c=true):UInt8.ofNat (48+(c.toNat-48))=c:=by
 simp only [isD,Bool.and_eq_true,decide_eq_true_eq]at h;rw [show 48+(c.toNat-48)=c.toNat by omega];simp
theorem Qwn (u:Nat):(decDigits u).all isD=true:=by
 induction u using Nat.strongRecOn with
 |_ u ih=>
  by_cases h:u<10
  ·rw [decDigits_one h,List.all_cons,List.all_nil,(Qlu u h).1];rfl
  ·rw [Qe3 h,List.all_append,ih (u/10) (by omega),List.all_cons,List.all_nil,(Qlu (u%10) (by omega)).1];rfl
def Qd1 (a:Nat) (l:List UInt8):Nat:=l.foldl (fun a c=>a*10+(c.toNat-48)) a
def dval (l:List UInt8):Nat:=Qd1 0 l
theorem Qmt (l:List UInt8): ∀a,Qd1 a l=a*10^l.length+dval l:=by
 induction l with
 |nil=>intro a;simp [dval,Qd1]
 |cons c r ih=>
  intro a;have h1:Qd1 a (c::r)=Qd1 (a*10+(c.toNat-48)) r:=rfl;have h2:dval (c::r)=Qd1 (0*10+(c.toNat-48)) r:=rfl;rw [h1,h2,ih,ih,List.length_cons,Nat.pow_succ,Nat.add_mul,Nat.zero_mul,Nat.zero_add,Nat.mul_assoc,Nat.mul_comm 10,Nat.add_assoc]
theorem Qqi (a b:List UInt8):dval (a++b)=dval a*10^b.length+dval b:=by
 have:dval (a++b)=Qd1 (dval a) b:=by simp [dval,Qd1,List.foldl_append]
 rw [this,Qmt]
theorem Qjs (a:List UInt8) (c:UInt8):dval (a++[c])=dval a*10+(c.toNat-48):=by
 simp [dval,Qd1,List.foldl_append]
theorem Qhp (l:List UInt8) (h:l.all isD=true):dval l<10^l.length:=by
 induction l with
 |nil=>simp [dval,Qd1]
 |cons c r ih=>
  simp only [List.all_cons,Bool.and_eq_true]at h;have h1:=ih h.2;have h2:dval (c::r)=Qd1 (0*10+(c.toNat-48)) r:=rfl;have hc:=h.1;simp only [isD,Bool.and_eq_true,decide_eq_true_eq]at hc;rw [h2,Qmt,Nat.zero_mul,Nat.zero_add,List.length_cons,Nat.pow_succ];have:(c.toNat-48)*10^r.length≤9*10^r.length:=Nat.mul_le_mul_right _ (by omega);omega
theorem Qwo (l:List UInt8) (h:l.all isD=true):padk l.length (dval l)=l:=by
 generalize hn:l.length=n
 induction n generalizing l with
 |zero=>rw [List.length_eq_zero_iff.1 hn];rfl
 |succ n ih=>
  have hne:l≠ []:=by intro e;rw [e]at hn;cases hn
  obtain⟨a,c,rfl⟩: ∃a c,l=a++[c]:=⟨l.dropLast,l.getLast hne,(List.dropLast_concat_getLast hne).symm⟩;rw [List.all_append,Bool.and_eq_true]at h;have hc:isD c=true:=by simpa using h.2
  have hc':=hc;simp only [isD,Bool.and_eq_true,decide_eq_true_eq]at hc';rw [Qjs,padk,show(dval a*10+(c.toNat-48))/10=dval a by omega,show(dval a*10+(c.toNat-48))%10=c.toNat-48 by omega,Q8x c hc,ih a h.1 (by simpa using hn)]
theorem Q2i (u:Nat):dval (decDigits u)=u:=by
 induction u using Nat.strongRecOn with
 |_ u ih=>
  by_cases h:u<10
  ·rw [decDigits_one h];simp only [dval,Qd1,List.foldl_cons,List.foldl_nil,(Qlu u h).2];omega
  ·rw [Qe3 h,Qjs,ih (u/10) (by omega),(Qlu (u%10) (by omega)).2];omega
theorem Qr9 (u:Nat) (h0:0<u): ∃c r,decDigits u=c::r∧c≠48:=by
 induction u using Nat.strongRecOn with
 |_ u ih=>
  by_cases h:u<10
  ·refine⟨_,[],decDigits_one h,fun e=> ?_⟩;have:=congrArg UInt8.toNat e;rw [(Qlu u h).2]at this;have h48:(48:UInt8).toNat=48:=rfl;omega
  ·obtain⟨c,r,e,hc⟩:=ih (u/10) (by omega) (by omega);exact⟨c,r++[UInt8.ofNat (48+u%10)],by rw [Qe3 h,e];rfl,hc⟩
theorem Qjt: ∀(k m:Nat),m<10^k→(padk k m).dropWhile (· ==48)=if m=0 then []else decDigits m
 |0,m,h=>by
  obtain rfl:m=0:=by simpa using h
  rfl
 |k+1,m,h=>by
  rw [padk,List.dropWhile_append,Qjt k (m/10) (by rw [Nat.pow_succ]at h;omega)];by_cases h10:m<10
  ·rw [Nat.div_eq_of_lt h10,if_pos rfl,Nat.mod_eq_of_lt h10];simp only [List.isEmpty_nil,if_true];by_cases h0:m=0
   ·subst h0;rfl
   ·rw [if_neg h0,decDigits_one h10];have hne:(UInt8.ofNat (48+m)==48)=false:=by
     rw [beq_eq_false_iff_ne];intro e;have:=congrArg UInt8.toNat e;rw [(Qlu m h10).2]at this;have h48:(48:UInt8).toNat=48:=rfl;omega
    rw [List.dropWhile_cons,if_neg (by rw [hne];decide)]
  ·have h1:m/10≠0:=by omega
   have h2:m≠0:=by omega
   rw [if_neg h1,if_neg h2,Qe3 h10];have hne:=Qho (m/10);cases hd:decDigits (m/10)with
   |nil=>exact absurd hd hne
   |cons c r=>simp
def txt (neg:Bool) (m:Nat):List UInt8:=if m=0 then [48]else if neg then 45::decDigits m else decDigits m
theorem Q2j {c:UInt8} {r:List UInt8} (h:(c::r).all isD=true) (hc:c≠48):0<dval (c::r)∧decDigits (dval (c::r))=c::r:=by
 have h1:(48:UInt8).toNat=48:=rfl;have hd:isD c=true:=by simp only [List.all_cons,Bool.and_eq_true]at h;exact h.1
 simp only [isD,Bool.and_eq_true,decide_eq_true_eq]at hd;have hne:c.toNat≠48:=fun e=>hc (UInt8.toNat_inj.1 (by rw [e,h1]));have h2:dval (c::r)=Qd1 (0*10+(c.toNat-48)) r:=rfl;have hpos:0<dval (c::r):=by
  rw [h2,Qmt,Nat.zero_mul,Nat.zero_add];have:0<(c.toNat-48)*10^r.length:=Nat.mul_pos (by omega) (Nat.pow_pos (by decide));omega
 refine⟨hpos,?_⟩;have h3:=Qjt _ _ (Qhp _ h);rw [Qwo _ h,if_neg (by omega)]at h3;rw [←h3,List.dropWhile_cons,if_neg (by simpa using hc)]
def badD (neg:Bool):List UInt8→Bool
 | []=>true
 |c::r=>c==48&&(neg|| !r.isEmpty)
theorem Qk4 (r:List UInt8):dval (48::r)=dval r:=by
 have h2:dval (48::r)=Qd1 (0*10+((48:UInt8).toNat-48)) r:=rfl;rw [h2];rfl
theorem Q2k (neg:Bool) (l:List UInt8) (h:l.all isD=true):(txt neg (dval l)==(if neg then 45::l else l))= !badD neg l:=by
 cases l with
 |nil=>cases neg<;>rfl
 |cons c r=>
  by_cases hc:c=48
  ·subst hc;have hr:r.all isD=true:=by simp only [List.all_cons,Bool.and_eq_true]at h;exact h.2
   rw [Qk4];cases r with
   |nil=>cases neg<;>rfl
   |cons d r'=>
    have hb:badD neg (48::d::r')=true:=by simp [badD]
    rw [hb,Bool.not_true,beq_eq_false_iff_ne];unfold txt;intro e;split at e
    ·cases neg<;>simp at e
    ·rename_i h0;obtain⟨x,y,ex,hx⟩:=Qr9 (dval (d::r')) (by omega);rw [ex]at e;cases neg
     ·simp at e;exact hx e.1
     ·simp at e;exact hx e.1
  ·have hb:badD neg (c::r)=false:=by simp [badD,hc]
   obtain⟨h0,h1⟩:=Q2j h hc;rw [hb,Bool.not_false,txt,if_neg (by omega),h1];cases neg<;>simp
theorem Qog: ∀(l:List UInt8) (acc:Nat),l.all isD=true→(acc+1)*10^l.length≤1000000000000000000→parseUintM (2^64-1) acc l= .ok (Qd1 acc l)
 | [],acc,_,_=>rfl
 |c::r,acc,h,hb=>by
  simp only [List.all_cons,Bool.and_eq_true]at h;have hd:=h.1;simp only [isD,Bool.and_eq_true,decide_eq_true_eq]at hd;rw [List.length_cons,Nat.pow_succ,Nat.mul_comm (10^r.length),←Nat.mul_assoc]at hb;have hp:0<10^r.length:=Nat.pow_pos (by decide);have h1:(acc+1)*10*1≤(acc+1)*10*10^r.length:=Nat.mul_le_mul_left _ hp;have h2:(acc*10+(c.toNat-48)+1)*10^r.length≤(acc+1)*10*10^r.length:=Nat.mul_le_mul_right _ (by omega);rw [parseUintM,if_pos hd,if_neg (by omega),if_neg (by
    have:(2:Nat)^64-1=18446744073709551615:=rfl;omega),Qog r _ h.2 (by omega)]
  rfl
theorem Qoh (l:List UInt8) (hne:l≠ []) (h:l.all isD=true) (hl:l.length≤18):parseUintB 64 l= .ok (dval l):=by
 rw [parseUintB,if_neg hne,Qog l 0 h ?_]
 ·rfl
 ·rw [Nat.zero_add,Nat.one_mul];exact Nat.pow_le_pow_right (show 0<10 by decide) hl
def grps (n:Nat):List (List UInt8):=if n<1000000000000000000 then(if n=0 then []else [decDigits n])else padk 18 (n%1000000000000000000)::grps (n/1000000000000000000)
termination_by n
decreasing_by exact Nat.div_lt_self (by omega) (by decide)
theorem Qe4:grps 0=[]:=by rw [grps];rfl
theorem Qhq {n:Nat} (h:n<1000000000000000000) (h0:0<n):grps n=[decDigits n]:=by rw [grps,if_pos h,if_neg (by omega)]
theorem Qmu {n:Nat} (h: ¬n<1000000000000000000):grps n=padk 18 (n%1000000000000000000)::grps (n/1000000000000000000):=by rw [grps,if_neg h]
theorem Qwp (n:Nat) (h0:0<n):(grps n).reverse.flatten=decDigits n:=by
 induction n using Nat.strongRecOn with
 |_ n ih=>
  by_cases h:n<1000000000000000000
  ·rw [Qhq h h0];simp
  ·have hq:0<n/1000000000000000000:=Nat.div_pos (by omega) (by decide);have hd:=Qlt 18 (n/1000000000000000000) (n%1000000000000000000) hq (Nat.mod_lt _ (by decide));have e:n/1000000000000000000*10^18+n%1000000000000000000=n:=by
    have:=Nat.div_add_mod n 1000000000000000000;rw [show(10:Nat)^18=1000000000000000000 from rfl,Nat.mul_comm];exact this
   rw [e]at hd;rw [Qmu h,List.reverse_cons,List.flatten_append,ih _ (Nat.div_lt_self h0 (by decide)) hq,hd];simp
theorem Qsa: ∀(k n:Nat),n<1000000000000000000^k→(grps n).length≤k
 |0,n,h=>by
  obtain rfl:n=0:=by simpa using h
  rw [Qe4];simp
 |k+1,n,h=>by
  by_cases hs:n<1000000000000000000
  ·by_cases h0:n=0
   ·rw [h0,Qe4];simp
   ·rw [Qhq hs (by omega)];simp
  ·rw [Qmu hs,List.length_cons];have:=Qsa k (n/1000000000000000000) (by rw [Nat.pow_succ]at h;exact(Nat.div_lt_iff_lt_mul (by decide)).2 h);omega
def grpS (n:Nat):List UInt8:=if n<1000000000000000000 then decDigits n else padk 18 (n%1000000000000000000)
theorem Qju {n:Nat} (h0:0<n):grps n=grpS n::grps (n/1000000000000000000):=by
 unfold grpS;by_cases h:n<1000000000000000000
 ·rw [if_pos h,Qhq h h0,Nat.div_eq_of_lt h,Qe4]
 ·rw [if_neg h,Qmu h]
theorem Qoi {n:Nat} (h:n/1000000000000000000=0):grpS n=decDigits (n%1000000000000000000):=by
 have hl:n<1000000000000000000:=by
  rcases Nat.div_eq_zero_iff.1 h with h|h
  ·cases h
  ·exact h
 rw [grpS,if_pos hl,Nat.mod_eq_of_lt hl]
theorem Qoj {n:Nat} (h:n/1000000000000000000≠0):grpS n=List.replicate (18-(decDigits (n%1000000000000000000)).length) 48++decDigits (n%1000000000000000000)∧(decDigits (n%1000000000000000000)).length≤18:=by
 have hl: ¬n<1000000000000000000:=fun h'=>h (Nat.div_eq_of_lt h');have hm:n%1000000000000000000<10^18:=Nat.mod_lt _ (by decide);rw [grpS,if_neg hl];exact⟨Qwm 17 _ hm,Qc7 17 _ hm⟩
end Go.Dg

namespace Go.Vl
def Qh6:PV→PV
 | .nilS=> .slc []
 |v=>v
def Q8q:PV→PV
 | .agg cs=> .agg (cs.map Qh6)
 |v=>Qh6 v
theorem Qjj (v:PV):(Q8q v).cells=v.cells.map Qh6:=by
 cases v<;>rfl
theorem Qll (l:List PV):(l.map Q8q).flatMap PV.cells=(l.flatMap PV.cells).map Qh6:=by
 induction l with
 |nil=>rfl
 |cons v l ih=>simp only [List.map_cons,List.flatMap_cons,List.map_append,Qjj,ih]
theorem Rep.up {w:World} {im:Im} {v:PV} {u:Value} (h:Rep w im v u):Rep w im (Qh6 v) u:=by
 cases v with
 |nilS=>cases h;exact .slcNil 0 (Nat.zero_le _)
 |_=>exact h
theorem LR.up {w:World} {im:Im} {ρ:Rho} {v:PV} {u:Value} (h:LR w im ρ v u):LR w im ρ (Qh6 v) u:=by
 cases v with
 |nilS=>rw [h.nilS_inv];exact .ext _ _ (.slcNil 0 (Nat.zero_le _))
 |_=>exact h
theorem RepL.up {w:World} {im:Im}: ∀{vs:List PV} {us:List Value},RepL w im vs us→RepL w im (vs.map Qh6) us
 |_,_,.nil=> .nil
 |_,_,.cons _ _ _ _ h t=> .cons _ _ _ _ h.up t.up
theorem LRL.up {w:World} {im:Im} {ρ:Rho}: ∀{vs:List PV} {us:List Value},LRL w im ρ vs us→LRL w im ρ (vs.map Qh6) us
 |_,_,.nil=> .nil
 |_,_,.cons _ _ _ _ h t=> .cons _ _ _ _ h.up t.up
theorem Qc1.up {own:Nat→Prop} {w:World} {im:Im} {ρ:Rho} {B:Box} {x:Option Nat} (h:Qc1 own w im ρ B x):Qc1 own w im ρ {B with els:=B.els.map Q8q} x:=by
 cases x with
 |none=>obtain⟨h1,h2,h3,h4⟩:=h;exact⟨by simp [h1],h2,h3,h4⟩
 |some g=>
  obtain⟨h1,h2,h3,h4,⟨hmn,cur,us,rest,h5,h6,h7,h8,h9,h10,h11⟩|hm⟩:=h
  case inr=>
   refine⟨h1,by simpa using h2,h3,?_,.inr ⟨by simp [hm.1],hm.2⟩⟩;simp [hm.1]
  refine⟨h1,by simpa using h2,h3,?_,.inl ⟨hmn,cur,us,rest,h5,h6,?_,?_,h9,h10,h11⟩⟩
  ·intro e he;obtain⟨v,hv,rfl⟩:=List.mem_map.1 he;rw [Qjj,List.length_map];exact h4 v hv
  ·simp only [Qll];exact h7.up
  ·intro ha;simp only [Qll];exact(h8 ha).up
end Go.Vl

namespace Go.Proofs.YtapjnenbofmliaaGreatDoor
open Go.Vl Go.RowKit Go.Dg Go.Lib
def bs_ (l:List UInt8):PV:= .str ⟨l.toArray⟩
def revA (l:List (List UInt8)) (k:Nat):List (List UInt8):=(List.range l.length).map fun i=>if i<k∨l.length≤i+k then l.getD (l.length-1-i) []else l.getD i []
theorem Qfs (l:List (List UInt8)) (k:Nat):(revA l k).length=l.length:=by simp [revA]
theorem Qef (l:List (List UInt8)) (k i:Nat) (h:i<l.length):(revA l k)[i]? =some (if i<k∨l.length≤i+k then l.getD (l.length-1-i) []else l.getD i []):=by
 simp [revA,h]
theorem Qw5 (l:List (List UInt8)):revA l 0=l:=by
 apply List.ext_getElem?;intro i;by_cases h:i<l.length
 ·rw [Qef l 0 i h,if_neg (by omega),List.getD_eq_getElem?_getD,List.getElem?_eq_getElem h];rfl
 ·rw [List.getElem?_eq_none (by rw [Qfs];omega),List.getElem?_eq_none (by omega)]
theorem Qw6 (l:List (List UInt8)) (k:Nat) (h:l.length≤2*k+1):revA l k=l.reverse:=by
 apply List.ext_getElem?;intro i;by_cases hi:i<l.length
 ·rw [Qef l k i hi,List.getElem?_reverse hi,List.getElem?_eq_getElem (by omega)];by_cases hc:i<k∨l.length≤i+k
  ·rw [if_pos hc,List.getD_eq_getElem?_getD,List.getElem?_eq_getElem (by omega)];rfl
  ·rw [if_neg hc];have e:i=l.length-1-i:=by omega
   rw [List.getD_eq_getElem?_getD,List.getElem?_eq_getElem hi];simp only [Option.getD_some];congr 2
 ·rw [List.getElem?_eq_none (by rw [Qfs];omega),List.getElem?_eq_none (by rw [List.length_reverse];omega)]
theorem Qw7 (l:List (List UInt8)) (k:Nat) (h:2*k+1<l.length):((revA l k).set k (l.getD (l.length-1-k) [])).set (l.length-1-k) (l.getD k [])=revA l (k+1):=by
 apply List.ext_getElem?;intro i;by_cases hi:i<l.length
 ·rw [Qef l (k+1) i hi];by_cases h1:i=l.length-1-k
  ·subst h1;rw [List.getElem?_set_self (by rw [List.length_set,Qfs];omega),if_pos (by omega)];congr 2;omega
  ·rw [List.getElem?_set_ne (by omega)];by_cases h2:i=k
   ·subst h2;rw [List.getElem?_set_self (by rw [Qfs];omega),if_pos (by omega)]
   ·rw [List.getElem?_set_ne (by omega),Qef l k i hi];by_cases hc:i<k∨l.length≤i+k
    ·rw [if_pos hc,if_pos (by omega)]
    ·rw [if_neg hc,if_neg (by omega)]
 ·rw [List.getElem?_eq_none (by rw [List.length_set,List.length_set,Qfs];omega),List.getElem?_eq_none (by rw [Qfs];omega)]
theorem Zcj (L:List (List UInt8)) (i:Nat) (x:List UInt8):(L.map bs_).set i (.str ⟨x.toArray⟩)=(L.set i x).map bs_:=by rw [List.map_set];rfl
set_option maxHeartbeats 1000000 in
theorem Qlx (l:List (List UInt8)) (hl:l.length≤100000000):Qdy Tryz.prog 38 [.bs 1000000 1 0 l.length] [(1000000,{els:=l.map bs_,esz:=1,ety:=9,fro:=0,live:=true,arr:=true})] (.tup []) [(1000000,{els:=l.reverse.map bs_,esz:=1,ety:=9,fro:=0,live:=true,arr:=true})]:=by
 have hw:IntKind.i64.wrap ((l.length:Int)-1)=(l.length:Int)-1:=Qai (by omega) (by omega);refine Qfn (tb:=[]) 28 [] [0,2,3,9] mixed Tryz.func38 rfl (by kernel_rfl) (by kernel_rfl) (by kernel_rfl) (by kernel_rfl) (by rfl) ?_;repeat (first|(simp -implicitDefEqProofs only [go_sem,seval,hw]))
 refine Qa7 mixed (fun k:{k:Nat // 2*k≤l.length+1}=>St.of [(0,.bs 1000000 1 0 l.length),(2,.int .i64 (k.1:Int)),(3,.int .i64 ((l.length:Int)-1-(k.1:Int)))] [(1000000,{els:=(revA l k.1).map bs_,esz:=1,ety:=9,fro:=0,live:=true,arr:=true})]) (fun k=>l.length+1-k.1) ⟨0,Nat.zero_le _⟩ ?_ ?_
 ·rw [Qw5];refine Qa0 (θ:=[(1000000,1000000)]) rfl ?_ ?_
  ·simp [Qag,lkp,ren1,ren0,Qbv]
  ·exact⟨⟨rfl,rfl,rfl,rfl,rfl,.inl ⟨rfl,rfl⟩⟩,trivial⟩
 rintro⟨k,hk⟩;simp only;by_cases hA:2*k+1<l.length
 ·have e1:(l.length:Int)-1-(k:Int)=((l.length-1-k:Nat):Int):=by omega
  have hA':((k:Int)<((l.length-1-k:Nat):Int))=True:=eq_true (by omega);have n0:((0:Int)≤(k:Int))=True:=eq_true (by omega);have n1:((0:Int)≤((l.length-1-k:Nat):Int))=True:=eq_true (by omega);have n2:((k:Int)<(l.length:Int))=True:=eq_true (by omega);have n3:(((l.length-1-k:Nat):Int)<(l.length:Int))=True:=eq_true (by omega);have g1:((revA l k).map bs_)[k]? =some (.str ⟨(l.getD k []).toArray⟩):=by rw [List.getElem?_map,Qef l k k (by omega),if_neg (by omega)];rfl
  have g2:((revA l k).map bs_)[l.length-1-k]? =some (.str ⟨(l.getD (l.length-1-k) []).toArray⟩):=by rw [List.getElem?_map,Qef l k _ (by omega),if_neg (by omega)];rfl
  have g3:(((revA l k).set k (l.getD (l.length-1-k) [])).map bs_)[l.length-1-k]? =some (.str ⟨(l.getD (l.length-1-k) []).toArray⟩):=by
   rw [List.getElem?_map,List.getElem?_set_ne (by omega),Qef l k _ (by omega),if_neg (by omega)];rfl
  have w1:=Qay (a:=k) (by omega);have w2:IntKind.i64.wrap (((l.length-1-k:Nat):Int)-1)=((l.length:Int)-1-((k+1:Nat):Int)):=by rw [Qai (by omega) (by omega)];omega
  have hst:=Qw7 l k hA;rw [e1];generalize l.getD k []=X at*;generalize l.getD (l.length-1-k) []=Y at*;repeat (first|(simp -implicitDefEqProofs only [go_sem,seval,hA',n0,n1,n2,n3,g1,g2,g3,w1,w2,Zcj,Int.toNat_natCast])|(with_reducible refine And.intro (Qah _ _ (by kernel_rfl)) ?_))
  refine⟨⟨k+1,by omega⟩,by simp only;omega,?_⟩;simp only [hst];refine Qa0 (θ:=[(1000000,1000000)]) rfl ?_ ?_
  ·simp [Qag,lkp,ren1,ren0,Qbv]
  ·exact⟨⟨rfl,rfl,rfl,rfl,rfl,.inl ⟨rfl,rfl⟩⟩,trivial⟩
 ·have hA':((k:Int)<(l.length:Int)-1-(k:Int))=False:=eq_false (by omega);rw [Qw6 l k (by omega)];repeat (first|(simp -implicitDefEqProofs only [go_sem,seval,hA']))
  refine Qcn (.inr rfl) ?_;simp -implicitDefEqProofs only [go_sem];refine Qa0 (θ:=[(1000000,1000000)]) rfl ?_ ?_
  ·simp [Qag,lkp,ren1,ren0,Qbv]
  ·exact⟨⟨rfl,rfl,rfl,rfl,rfl,.inl ⟨rfl,rfl⟩⟩,trivial⟩
theorem Qsg (l:List (List UInt8)):((l.map bs_).flatMap PV.cells).all PV.okCell=true:=by
 rw [List.all_flatMap,List.all_map,List.all_eq_true];intro _ _;rfl
theorem Qt0 {m k:Nat} (h:m<256^k):(grps m).length≤k:=Qsa k m (Nat.lt_of_lt_of_le h (Nat.pow_le_pow_left (by decide) k))
theorem Qw8 {m k:Nat} (h:m<256^k):(decDigits m).length≤3*k+1:=by
 refine Qc7 (3*k) m (Nat.lt_of_lt_of_le h ?_);refine Nat.le_trans (Nat.pow_le_pow_left (show 256≤10^3 by decide) k) ?_;rw [←Nat.pow_mul];exact Nat.pow_le_pow_right (by decide) (by omega)
theorem Q2t (neg:Bool) (s:ByteArray) (h:Qa2 neg s.data.toList=false):Qaf Tryz.prog 8 [.agg [.bool neg,.str s]] (.tup [.str ⟨#[]⟩,.int .i64 2]):=by
 have hv:=Qg0 neg s;rw [h]at hv;refine Qac (tb:=[]) 49 [.tmp 2,.tmp 3] [0,1,2,3,4,5,6,7,10,13,19,29,41] mixed Tryz.func8 rfl (by kernel_rfl) (by kernel_rfl) (by kernel_rfl) (by kernel_rfl) ?_;repeat (first|(simp -implicitDefEqProofs only [go_sem,seval,Bool.not_false])|((with_reducible refine Qaa hv ?_ ?_ ?_);rfl;rfl))
theorem Q2u (neg:Bool) {m:Nat} (h0:0<m):(grps m++if neg then [[45]]else []).reverse.flatten=txt neg m:=by
 have:=Qwp m h0;have e:txt neg m=if neg then 45::decDigits m else decDigits m:=by unfold txt;rw [if_neg (show¬m=0 by omega)]
 rw [e];cases neg<;>simp [this]
set_option maxHeartbeats 4000000 in
theorem Qw9 (neg:Bool) (l:List UInt8) (h:Qa2 neg l=true) (hs:l.length≤100000):Qaf Tryz.prog 8 [.agg [.bool neg,.str ⟨l.toArray⟩]] (.tup [.str ⟨(txt neg (bnum l)).toArray⟩,.int .i64 0]):=by
 have hv:=Qg0 neg ⟨l.toArray⟩;have hl:=Q0e ⟨l.toArray⟩ (by rw [Qbz];omega);have hd:(⟨l.toArray⟩:ByteArray).data.toList=l:=by simp
 rw [hd]at hv hl;rw [h]at hv;rw [Qos h]at hl;have hn0:=Qk2 l [];cases l with
 |nil=>
  have e:txt neg (bnum [])=[48]:=by simp [txt,bnum]
  have hz:(([]:List UInt8)== [])=true:=rfl;rw [hz]at hn0;rw [e];refine Qac (tb:=[]) 49 [.tmp 2,.tmp 3] [0,1,2,3,4,5,6,7,10,13,19,29,41] mixed Tryz.func8 rfl (by kernel_rfl) (by kernel_rfl) (by kernel_rfl) (by kernel_rfl) ?_;repeat (first|(simp -implicitDefEqProofs only [go_sem,seval,Bool.not_true])|((with_reducible refine Qaa hv ?_ ?_ ?_);rfl;rfl))
 |cons c r=>
  have hz:((c::r:List UInt8)== [])=false:=rfl;rw [hz]at hn0;have hc:c.toNat≠0:=fun e=>by
   have:c=0:=UInt8.toNat_inj.1 (by simpa using e);subst this;simp [Qa2]at h
  have hm0:0<bnum (c::r):=by
   rw [Qgy];have:=Nat.mul_pos (Nat.pos_of_ne_zero hc) (Nat.pow_pos (n:=r.length) (show 0<256 by decide));omega
  have hmb:bnum (c::r)<256^(c::r).length:=Qez _ _ rfl;have hgb:=Qt0 hmb;have hdb:=Qw8 hmb;have hfl:=Q2u neg hm0;generalize c::r=l at*;generalize bnum l=m at*;cases neg with
  |false=>

   refine Qac (tb:=[(1601,[(1000000,7)],[])]) 49 [.tmp 2,.tmp 3] [0,1,2,3,4,5,6,7,10,13,19,29,41] mixed Tryz.func8 rfl (by kernel_rfl) (by kernel_rfl) (by kernel_rfl) (by kernel_rfl) ?_;generalize hK:(grps m).length=K at*;repeat (first|(simp -implicitDefEqProofs only [go_sem,seval,Bool.not_true,hz,dw])|((with_reducible refine Qaa hv ?_ ?_ ?_);rfl;rfl)|((with_reducible refine Qaa hl ?_ ?_ ?_);rfl;rfl))
   refine Qa7 mixed (fun p:{p:Nat×List (List UInt8) // p.2++grps p.1=grps m∧p.1≤m}=>St.of [(1,.bp 0 2 0 0),(4,.bs 7 1 0 p.1.2.length),(5,dw (digs BW p.1.1))] [(0,{els:=[.agg [.bool false,.str ⟨l.toArray⟩]],esz:=2,ety:=23,fro:=0,live:=true,arr:=false}),(7,{els:=p.1.2.map bs_,esz:=1,ety:=9,fro:=0,live:=true,arr:=true})]) (fun p=>p.1.1) ⟨(m,[]),by simp,Nat.le_refl _⟩ ?_ ?_
   ·refine Qh5 4 7 1 9 rfl rfl rfl (by decide) [(0,0),(7,7)] rfl ?_ ?_
    ·simp [Qag,lkp,ren1,ren0,Qbv,dw]
    ·exact⟨⟨rfl,rfl,rfl,rfl,rfl,.inr ⟨rfl,_,_,rfl,rfl,rfl,rfl⟩⟩,⟨rfl,rfl,rfl,rfl,rfl,.inl ⟨rfl,rfl⟩⟩,trivial⟩
   rintro⟨⟨n,g⟩,hg,hnm⟩;simp only at hg hnm ⊢;have hLn:(digs BW n).length≤100000:=by
    refine Nat.le_trans ((Qaj BW_2 n l.length).2 ?_) hs;exact Nat.lt_of_le_of_lt hnm (Nat.lt_of_lt_of_le hmb (Nat.pow_le_pow_left (by decide) _))
   have hgl:g.length≤K:=by rw [←hK,←hg,List.length_append];omega
   by_cases h0:n=0
   case neg=>
    have hpos:0<(digs BW n).length:=List.length_pos_iff.2 (mt (Qa4 BW_2).1 h0);have p1:((0:Int)<((digs BW n).length:Int))=True:=eq_true (by omega);have hsm:=Qm5 n 1000000000000000000 (by decide) (by decide) (by omega);have hrl:n%1000000000000000000<1000000000000000000:=Nat.mod_lt _ (by decide);have hfm:=Zch (n%1000000000000000000) (by omega);have hst:=Qju (n:=n) (by omega);have hok:=Qsg g;have hgm:(g.map bs_).length=g.length:=List.length_map ..;have k1:((g.length+1)*16≤140737488355328)=True:=eq_true (by omega);have k2:(g.length+1≤maxLen)=True:=eq_true (by unfold maxLen;omega);have hlt:n/1000000000000000000<n:=Nat.div_lt_self (by omega) (by decide);have hinv:(g++[grpS n])++grps (n/1000000000000000000)=grps m:=by rw [←hg,hst,List.append_assoc];rfl
    have hmp:(g++[grpS n]).map bs_=g.map bs_++[.str ⟨(grpS n).toArray⟩]:=by rw [List.map_append];rfl
    have hln:(g++[grpS n]).length=g.length+1:=by simp
    unfold dw at hsm;by_cases hq:n/1000000000000000000=0
    ·have z1:(((digs BW (n/1000000000000000000)).length:Int))=0:=by rw [hq,Qan];rfl
     have hgS:=Qoi hq;rw [←hgS]at hfm;generalize n%1000000000000000000=R at*;generalize n/1000000000000000000=Q at*;generalize grpS n=S at*;repeat (first|(simp -implicitDefEqProofs only [go_sem,seval,dw,List.length_map,p1,z1,hgm,hok,k1,k2])|((with_reducible refine Qaa hsm ?_ ?_ ?_);rfl;rfl)|((with_reducible refine Qaa hfm ?_ ?_ ?_);rfl;rfl))
     refine⟨⟨(Q,g++[S]),hinv,by omega⟩,by simp only;omega,?_⟩;simp only [hmp,hln];refine Qa0 (θ:=[(0,0),(7,1303)]) rfl ?_ ?_
     ·simp [Qag,lkp,ren1,ren0,Qbv,dw]
     ·exact⟨⟨rfl,rfl,rfl,rfl,rfl,.inr ⟨rfl,_,_,rfl,rfl,rfl,rfl⟩⟩,⟨rfl,rfl,rfl,rfl,rfl,.inl ⟨rfl,rfl⟩⟩,trivial⟩
    ·obtain⟨hgS,hd18⟩:=Qoj hq;have hposQ:0<(digs BW (n/1000000000000000000)).length:=List.length_pos_iff.2 (mt (Qa4 BW_2).1 hq);have p2:((0:Int)<((digs BW (n/1000000000000000000)).length:Int))=True:=eq_true (by omega);have hrp:=Qsf (18-(decDigits (n%1000000000000000000)).length) (by omega);have w1:IntKind.i64.wrap (18-((decDigits (n%1000000000000000000)).length:Int))=((18-(decDigits (n%1000000000000000000)).length:Nat):Int):=by rw [Qai (by omega) (by omega)];omega
     have ha:=Qk1 (List.replicate (18-(decDigits (n%1000000000000000000)).length) 48) (decDigits (n%1000000000000000000)) (by rw [List.length_replicate];omega);rw [←hgS]at ha;have hbl:=Qbz (decDigits (n%1000000000000000000));generalize decDigits (n%1000000000000000000)=D at*;generalize n%1000000000000000000=R at*;generalize n/1000000000000000000=Q at*;generalize grpS n=S at*;repeat (first|(simp -implicitDefEqProofs only [go_sem,seval,dw,List.length_map,p1,p2,w1,ha,hbl,hgm,hok,k1,k2])|((with_reducible refine Qaa hsm ?_ ?_ ?_);rfl;rfl)|((with_reducible refine Qaa hfm ?_ ?_ ?_);rfl;rfl)|((with_reducible refine Qaa hrp ?_ ?_ ?_);rfl;rfl))
     refine⟨⟨(Q,g++[S]),hinv,by omega⟩,by simp only;omega,?_⟩;simp only [hmp,hln];refine Qa0 (θ:=[(0,0),(7,1303)]) rfl ?_ ?_
     ·simp [Qag,lkp,ren1,ren0,Qbv,dw]
     ·exact⟨⟨rfl,rfl,rfl,rfl,rfl,.inr ⟨rfl,_,_,rfl,rfl,rfl,rfl⟩⟩,⟨rfl,rfl,rfl,rfl,rfl,.inl ⟨rfl,rfl⟩⟩,trivial⟩
   subst h0;have hge:g=grps m:=by rw [←hg,Qe4,List.append_nil]
   have p1:((0:Int)<(0:Int))=False:=by simp
   have hgm:(g.map bs_).length=g.length:=List.length_map ..;have hok:=Qsg g;have k1:((g.length+1)*16≤140737488355328)=True:=eq_true (by omega);have k2:(g.length+1≤maxLen)=True:=eq_true (by unfold maxLen;omega);have hrv:=Qlx g (by omega);have hjn:=Q8d g.reverse (by rw [Ne,List.reverse_eq_nil_iff,hge,Qju hm0];simp) (by rw [List.length_reverse];omega) (by
    rw [hge];simp only [Bool.false_eq_true,if_false,List.append_nil]at hfl;rw [hfl,txt,if_neg (by omega),if_neg (by decide)];omega)
   have hfl2:g.reverse.flatten=txt false m:=by rw [hge];simpa using hfl
   rw [hfl2]at hjn;have htk:(g.reverse.map bs_).take g.length=g.reverse.map bs_:=List.take_of_length_le (by simp);have hlr:(g.reverse.map bs_).length=g.length:=by simp
   change Qaf Tryz.prog 39 [.slc (g.reverse.map bs_),.str ⟨#[]⟩] _ at hjn;generalize g.reverse.map bs_=GR at*;repeat (first|(simp -implicitDefEqProofs only [go_sem,seval,dw,Qan,List.map_nil,List.length_nil,p1,htk,hlr,Int.natCast_zero,Nat.le_refl,decide_true])|((with_reducible refine Qp8 hrv ?_ ?_ ?_ ?_);rfl;rfl;rfl)|((with_reducible refine Qaa hjn ?_ ?_ ?_);rfl;rfl))
  |true=>

   refine Qac (tb:=[(1601,[(1000000,1502)],[])]) 49 [.tmp 2,.tmp 3] [0,1,2,3,4,5,6,7,10,13,19,29,41] mixed Tryz.func8 rfl (by kernel_rfl) (by kernel_rfl) (by kernel_rfl) (by kernel_rfl) ?_;generalize hK:(grps m).length=K at*;repeat (first|(simp -implicitDefEqProofs only [go_sem,seval,Bool.not_true,hz,dw])|((with_reducible refine Qaa hv ?_ ?_ ?_);rfl;rfl)|((with_reducible refine Qaa hl ?_ ?_ ?_);rfl;rfl))
   refine Qa7 mixed (fun p:{p:Nat×List (List UInt8) // p.2++grps p.1=grps m∧p.1≤m}=>St.of [(1,.bp 0 2 0 0),(4,.bs 7 1 0 p.1.2.length),(5,dw (digs BW p.1.1))] [(0,{els:=[.agg [.bool true,.str ⟨l.toArray⟩]],esz:=2,ety:=23,fro:=0,live:=true,arr:=false}),(7,{els:=p.1.2.map bs_,esz:=1,ety:=9,fro:=0,live:=true,arr:=true})]) (fun p=>p.1.1) ⟨(m,[]),by simp,Nat.le_refl _⟩ ?_ ?_
   ·refine Qh5 4 7 1 9 rfl rfl rfl (by decide) [(0,0),(7,7)] rfl ?_ ?_
    ·simp [Qag,lkp,ren1,ren0,Qbv,dw]
    ·exact⟨⟨rfl,rfl,rfl,rfl,rfl,.inr ⟨rfl,_,_,rfl,rfl,rfl,rfl⟩⟩,⟨rfl,rfl,rfl,rfl,rfl,.inl ⟨rfl,rfl⟩⟩,trivial⟩
   rintro⟨⟨n,g⟩,hg,hnm⟩;simp only at hg hnm ⊢;have hLn:(digs BW n).length≤100000:=by
    refine Nat.le_trans ((Qaj BW_2 n l.length).2 ?_) hs;exact Nat.lt_of_le_of_lt hnm (Nat.lt_of_lt_of_le hmb (Nat.pow_le_pow_left (by decide) _))
   have hgl:g.length≤K:=by rw [←hK,←hg,List.length_append];omega
   by_cases h0:n=0
   case neg=>
    have hpos:0<(digs BW n).length:=List.length_pos_iff.2 (mt (Qa4 BW_2).1 h0);have p1:((0:Int)<((digs BW n).length:Int))=True:=eq_true (by omega);have hsm:=Qm5 n 1000000000000000000 (by decide) (by decide) (by omega);have hrl:n%1000000000000000000<1000000000000000000:=Nat.mod_lt _ (by decide);have hfm:=Zch (n%1000000000000000000) (by omega);have hst:=Qju (n:=n) (by omega);have hok:=Qsg g;have hgm:(g.map bs_).length=g.length:=List.length_map ..;have k1:((g.length+1)*16≤140737488355328)=True:=eq_true (by omega);have k2:(g.length+1≤maxLen)=True:=eq_true (by unfold maxLen;omega);have hlt:n/1000000000000000000<n:=Nat.div_lt_self (by omega) (by decide);have hinv:(g++[grpS n])++grps (n/1000000000000000000)=grps m:=by rw [←hg,hst,List.append_assoc];rfl
    have hmp:(g++[grpS n]).map bs_=g.map bs_++[.str ⟨(grpS n).toArray⟩]:=by rw [List.map_append];rfl
    have hln:(g++[grpS n]).length=g.length+1:=by simp
    unfold dw at hsm;by_cases hq:n/1000000000000000000=0
    ·have z1:(((digs BW (n/1000000000000000000)).length:Int))=0:=by rw [hq,Qan];rfl
     have hgS:=Qoi hq;rw [←hgS]at hfm;generalize n%1000000000000000000=R at*;generalize n/1000000000000000000=Q at*;generalize grpS n=S at*;repeat (first|(simp -implicitDefEqProofs only [go_sem,seval,dw,List.length_map,p1,z1,hgm,hok,k1,k2])|((with_reducible refine Qaa hsm ?_ ?_ ?_);rfl;rfl)|((with_reducible refine Qaa hfm ?_ ?_ ?_);rfl;rfl))
     refine⟨⟨(Q,g++[S]),hinv,by omega⟩,by simp only;omega,?_⟩;simp only [hmp,hln];refine Qa0 (θ:=[(0,0),(7,1303)]) rfl ?_ ?_
     ·simp [Qag,lkp,ren1,ren0,Qbv,dw]
     ·exact⟨⟨rfl,rfl,rfl,rfl,rfl,.inr ⟨rfl,_,_,rfl,rfl,rfl,rfl⟩⟩,⟨rfl,rfl,rfl,rfl,rfl,.inl ⟨rfl,rfl⟩⟩,trivial⟩
    ·obtain⟨hgS,hd18⟩:=Qoj hq;have hposQ:0<(digs BW (n/1000000000000000000)).length:=List.length_pos_iff.2 (mt (Qa4 BW_2).1 hq);have p2:((0:Int)<((digs BW (n/1000000000000000000)).length:Int))=True:=eq_true (by omega);have hrp:=Qsf (18-(decDigits (n%1000000000000000000)).length) (by omega);have w1:IntKind.i64.wrap (18-((decDigits (n%1000000000000000000)).length:Int))=((18-(decDigits (n%1000000000000000000)).length:Nat):Int):=by rw [Qai (by omega) (by omega)];omega
     have ha:=Qk1 (List.replicate (18-(decDigits (n%1000000000000000000)).length) 48) (decDigits (n%1000000000000000000)) (by rw [List.length_replicate];omega);rw [←hgS]at ha;have hbl:=Qbz (decDigits (n%1000000000000000000));generalize decDigits (n%1000000000000000000)=D at*;generalize n%1000000000000000000=R at*;generalize n/1000000000000000000=Q at*;generalize grpS n=S at*;repeat (first|(simp -implicitDefEqProofs only [go_sem,seval,dw,List.length_map,p1,p2,w1,ha,hbl,hgm,hok,k1,k2])|((with_reducible refine Qaa hsm ?_ ?_ ?_);rfl;rfl)|((with_reducible refine Qaa hfm ?_ ?_ ?_);rfl;rfl)|((with_reducible refine Qaa hrp ?_ ?_ ?_);rfl;rfl))
     refine⟨⟨(Q,g++[S]),hinv,by omega⟩,by simp only;omega,?_⟩;simp only [hmp,hln];refine Qa0 (θ:=[(0,0),(7,1303)]) rfl ?_ ?_
     ·simp [Qag,lkp,ren1,ren0,Qbv,dw]
     ·exact⟨⟨rfl,rfl,rfl,rfl,rfl,.inr ⟨rfl,_,_,rfl,rfl,rfl,rfl⟩⟩,⟨rfl,rfl,rfl,rfl,rfl,.inl ⟨rfl,rfl⟩⟩,trivial⟩
   subst h0;have hge:g=grps m:=by rw [←hg,Qe4,List.append_nil]
   have p1:((0:Int)<(0:Int))=False:=by simp
   have hgm:(g.map bs_).length=g.length:=List.length_map ..;have hok:=Qsg g;have k1:((g.length+1)*16≤140737488355328)=True:=eq_true (by omega);have k2:(g.length+1≤maxLen)=True:=eq_true (by unfold maxLen;omega);have hmp:(g++[[45]]).map bs_=g.map bs_++[.str ⟨#[45]⟩]:=by rw [List.map_append];rfl
   have hln:(g++[[45]]).length=g.length+1:=by simp
   have hrv:=Qlx (g++[[45]]) (by rw [hln];omega);rw [hmp,hln]at hrv;have hfl2:(g++[[45]]).reverse.flatten=txt true m:=by rw [hge];simpa using hfl
   have hjn:=Q8d (g++[[45]]).reverse (by simp) (by rw [List.length_reverse,hln];omega) (by
    rw [hfl2,txt,if_neg (by omega),if_pos rfl,List.length_cons];omega)
   rw [hfl2]at hjn;have htk:((g++[[45]]).reverse.map bs_).take (g.length+1)=(g++[[45]]).reverse.map bs_:=List.take_of_length_le (by simp);have hlr:((g++[[45]]).reverse.map bs_).length=g.length+1:=by simp
   change Qaf Tryz.prog 39 [.slc ((g++[[45]]).reverse.map bs_),.str ⟨#[]⟩] _ at hjn;generalize (g++[[45]]).reverse.map bs_=GR at*;repeat (first|(simp -implicitDefEqProofs only [go_sem,seval,dw,Qan,List.map_nil,List.length_nil,p1,hgm,htk,hlr,hok,k1,k2,Int.natCast_zero,Nat.le_refl,decide_true])|((with_reducible refine Qp8 hrv ?_ ?_ ?_ ?_);rfl;rfl;rfl)|((with_reducible refine Qaa hjn ?_ ?_ ?_);rfl;rfl))
end Go.Proofs.YtapjnenbofmliaaGreatDoor
