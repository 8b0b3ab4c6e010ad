/-
  OW17, De4, OW18, OW21, OW22, OW19, OW24, OW20, De5, OW25 (merged for the claim).
-/
import Derived.Test.YtnohfmdlaajpbaaGreatDe3
import Derived.Test.YtnohfmdlaajpbaaGreatULD
set_option linter.unusedSimpArgs false
set_option linter.unusedVariables false
namespace Go.Proofs.YtnohfmdlaajpbaaGreat
open Go.Vl Go.RowKit Go.Dg
theorem Qv9 (a b:Nat):Int.tdiv (a:Int) (b:Int)=((a/b:Nat):Int):=rfl
theorem Zzw (a b:Nat):Int.tmod (a:Int) (b:Int)=((a%b:Nat):Int):=rfl
theorem Zvj (y:Nat):y<2^blen y:=by
 rcases Nat.lt_or_ge y (2^blen y)with h|h
 ·exact h
 ·have:=Ql0 _ _ h;omega
theorem Zvk {y:Nat} (h:0<y):2^(blen y-1)≤y∧0<blen y:=by
 have h0:0<blen y:=Ql0 0 y (by rw [Nat.pow_zero];omega);refine⟨?_,h0⟩;rcases Nat.lt_or_ge y (2^(blen y-1))with h1|h1
 ·have:=Qd2 _ _ h1;omega
 ·exact h1
attribute [local go_sem high] Zmm
theorem Qb2 (n:Int):IntKind.u64.wrap n=n%18446744073709551616:=by simp [IntKind.wrap,IntKind.bits,IntKind.signed]
theorem Qmu {n:Nat} (h:n<18446744073709551616):IntKind.u64.wrap (n:Int)=n:=by rw [Qdp,Nat.mod_eq_of_lt h]
theorem Zb2 (u y:Nat) (h:u<18446744073709551616):IntKind.u64.wrap ((u:Int)-IntKind.u64.wrap (((u/y:Nat):Int)*(y:Int)))=((u%y:Nat):Int):=by
 have h:=Nat.div_add_mod u y;rw [←Int.natCast_mul,Nat.mul_comm (u/_)];generalize y*(u/y)=p at*;generalize u%y=r at*;rw [Qb2,Qb2];omega
theorem Qyn (u d Y:Nat) (hY:0<Y) (h2:Y<18446744073709551616):IntKind.u64.wrap (IntKind.u64.wrap (IntKind.u64.wrap ((u:Int)*4294967296)+(d:Int))-IntKind.u64.wrap ((((u*4294967296+d)/Y:Nat):Int)*(Y:Int)))=(((u*4294967296+d)%Y:Nat):Int):=by
 have h:=Nat.div_add_mod (u*4294967296+d) Y;have hm:=Nat.mod_lt (u*4294967296+d) hY;rw [←Int.natCast_mul,Nat.mul_comm ((u*4294967296+d)/Y)];generalize Y*((u*4294967296+d)/Y)=p at*;generalize (u*4294967296+d)%Y=r at*;rw [Qb2,Qb2,Qb2,Qb2];omega
theorem Zmf {p q:Nat} (hp:p<4294967296) (hq:q<4294967296):IntKind.u64.wrap (IntKind.u64.wrap ((p:Int)*4294967296)+(q:Int))=((p*4294967296+q:Nat):Int):=by
 rw [Qb2,Qb2];omega
theorem Qez {p q:Nat} (hp:p<4294967296) (hq:q<4294967296):IntKind.u64.wrap ((p:Int)*(q:Int))=((p*q:Nat):Int):=by
 have:p*q≤4294967295*4294967295:=Nat.mul_le_mul (by omega) (by omega);rw [←Int.natCast_mul,Qb2];generalize p*q=n at*;omega
theorem Qql {r:Nat} (hr:r<4294967296):IntKind.u64.wrap (4294967296*(r:Int))=((r*4294967296:Nat):Int):=by rw [Qb2];omega
theorem Qlq {r d:Nat} (hr:r<4294967296) (hd:d<4294967296):IntKind.u64.wrap (((r*4294967296:Nat):Int)+(d:Int))=((r*4294967296+d:Nat):Int):=by rw [Qb2];omega
theorem Qqm {q:Nat} (h0:0<q) (h:q≤4294967297):IntKind.u64.wrap ((q:Int)-1)=((q-1:Nat):Int):=by rw [Qb2];omega
theorem Qqn {r y:Nat} (h0:r<4294967296) (h:y<4294967296):IntKind.u64.wrap ((r:Int)+(y:Int))=((r+y:Nat):Int):=by rw [Qb2];omega
theorem m32:(2:Nat)^min 32 64=4294967296:=rfl
set_option maxHeartbeats 2000000 in
theorem Zb3 (hi lo y:Nat) (hy:hi<y) (hyl:y<18446744073709551616) (hlo:lo<18446744073709551616):Qaf Tryz.prog 146 [.int .u64 (hi:Int),.int .u64 (lo:Int),.int .u64 (y:Int)] (.tup [.int .u64 (((hi*18446744073709551616+lo)/y:Nat):Int),.int .u64 (((hi*18446744073709551616+lo)%y:Nat):Int)]):=by
 have g1:(((y:Nat):Int)==0)=false:=by simp only [beq_eq_false_iff_ne,ne_eq];omega
 have g2:(((y:Nat):Int)≤((hi:Nat):Int))=False:=by simp only [eq_iff_iff,iff_false];omega
 have g3:(((y:Nat):Int)=0)=False:=by simp only [eq_iff_iff,iff_false];omega
 by_cases h0:hi=0
 ·subst h0;have g4:((((0:Nat):Nat):Int)==0)=true:=rfl;have g5:IntKind.u64.wrap (((lo/y:Nat):Int))=((lo/y:Nat):Int):=by rw [Qdp,Nat.mod_eq_of_lt (Nat.lt_of_le_of_lt (Nat.div_le_self _ _) hlo)]
  rw [Nat.zero_mul,Nat.zero_add];refine Qab (tb:=[]) 135 [.tmp 6,.tmp 7] [0,1,2,6,7,8,9,10,11,12,13,14,15,16,17,18,20,24,27,78,85,113,120] mixed Tryz.func146 rfl (by kernel_rfl) ?_;simp -implicitDefEqProofs only [go_sem,Nat.reduceAdd,Nat.reduceMul,Nat.reduceEqDiff,Nat.reduceLT,Nat.reduceLeDiff,reduceCtorEq,g1,g2,g3,g4,Qv9,Zzw,g5];exact Qad _ _ (by kernel_rfl)
 ·have g4:(((hi:Nat):Int)==0)=false:=by simp only [beq_eq_false_iff_ne,ne_eq];omega
  obtain⟨b1,b2⟩:=Zvk (show 0<y by omega);have b3:=Zvj y;have b4:=Qd2 64 y hyl;obtain⟨s,hs⟩: ∃s,s=64-blen y:=⟨_,rfl⟩;have hs64:s<64:=by omega
  have hmin:min s 64=s:=by omega
  have hmin2:min (64-s) 64=64-s:=by omega
  obtain⟨D1,D2⟩:=Qzq (hi:=hi) (lo:=lo) (y:=y) (s:=s) (by omega) hlo hy (by omega);have hY1:9223372036854775808≤y*2^s:=by
   have:=Nat.mul_le_mul_right (2^s) b1;rw [←Nat.pow_add,show blen y-1+s=63 by omega]at this;exact this
  have hY2:y*2^s<18446744073709551616:=by
   have:=Nat.mul_lt_mul_of_pos_right b3 (show 0<2^s from Nat.pow_pos (by decide));rw [←Nat.pow_add,show blen y+s=64 by omega]at this;exact this
  have hu:hi*2^s+lo/2^(64-s)<y*2^s:=by
   have h1:lo/2^(64-s)<2^s:=by
    have:=Qex s (by omega);simp only [WB]at this;rw [this,Nat.mul_comm]at hlo;exact Nat.div_lt_of_lt_mul hlo
   have h2:hi*2^s+2^s≤y*2^s:=by rw [←Nat.succ_mul];exact Nat.mul_le_mul_right _ hy
   omega
  have hor:(hi*2^s%18446744073709551616%18446744073709551616 ||| lo/2^(64-s)%18446744073709551616)=hi*2^s+lo/2^(64-s):=by
   have h1:lo/2^(64-s)<2^s:=by
    have:=Qex s (by omega);simp only [WB]at this;rw [this,Nat.mul_comm]at hlo;exact Nat.div_lt_of_lt_mul hlo
   rw [Nat.mod_mod,Nat.mod_eq_of_lt (Nat.lt_of_le_of_lt (Nat.le_trans (Nat.le_add_right _ _) (Nat.le_of_lt hu)) hY2),Nat.mod_eq_of_lt (Nat.lt_of_le_of_lt (Nat.le_trans (Nat.le_add_left _ _) (Nat.le_of_lt hu)) hY2),Nat.mul_comm hi,Nat.two_pow_add_eq_or_of_lt h1]
  have k1:((((s:Nat):Int))<0)=False:=by simp only [eq_iff_iff,iff_false];omega
  have k2:IntKind.u64.wrap (64-((s:Nat):Int))=((64-s:Nat):Int):=by
   rw [show(64:Int)-((s:Nat):Int)=((64-s:Nat):Int)by omega,Qdp,Nat.mod_eq_of_lt (by omega)]
  have k3:((((64-s:Nat):Nat):Int)<0)=False:=by simp only [eq_iff_iff,iff_false];omega
  have k4:IntKind.u64.wrap (((64-blen y:Nat):Int))=((s:Nat):Int):=by rw [←hs,Qdp,Nat.mod_eq_of_lt (by omega)]
  have hyt:(((y*2^s/4294967296:Nat):Int)=0)=False:=by simp only [eq_iff_iff,iff_false];omega
  have k5:y*2^s%18446744073709551616=y*2^s:=Nat.mod_eq_of_lt hY2;refine Qab (tb:=[]) 135 [.tmp 6,.tmp 7] [0,1,2,6,7,8,9,10,11,12,13,14,15,16,17,18,20,24,27,78,85,113,120] mixed Tryz.func146 rfl (by kernel_rfl) ?_;simp -implicitDefEqProofs only [go_sem,Nat.reduceAdd,Nat.reduceMul,Nat.reduceEqDiff,Nat.reduceLT,Nat.reduceLeDiff,reduceCtorEq,g1,g2,g4];refine Qak _ _ _ _ _ _ _ _ _ (Zb7 y hyl) ?_;simp -implicitDefEqProofs only [go_sem,Nat.reduceAdd,Nat.reduceMul,Nat.reduceEqDiff,Nat.reduceLT,Nat.reduceLeDiff,reduceCtorEq,Int.reduceLT,Int.reduceToNat,k4,k1,k2,k3,hmin,hmin2,Int.toNat_natCast,Qmw,Qi0,m32,Znz,k5,hor,Qv9,hyt];clear g1 g2 g3 g4 k4 k5 hor b1 b2 b3 b4 hs;generalize hi*2^s+lo/2^(64-s)=u at*;generalize y*2^s=Y at*;have htl:lo*2^s%18446744073709551616<18446744073709551616:=Nat.mod_lt _ (by decide);generalize lo*2^s%18446744073709551616=t at*;have hd1:t/4294967296<4294967296:=by omega
  have hd0:t%4294967296<4294967296:=by omega
  generalize t/4294967296=d1 at*;generalize t%4294967296=d0 at*;have i5:=Qmu (n:=u/(Y/4294967296)) (Nat.lt_of_le_of_lt (Nat.div_le_self _ _) (Nat.lt_trans hu hY2));have i6:=Zb2 u (Y/4294967296) (Nat.lt_trans hu hY2);have l4:=Qyn u d1 Y (by omega) hY2;obtain⟨v,hvd⟩: ∃v,v=(u*4294967296+d1)%Y:=⟨_,rfl⟩;have hv:v<Y:=by rw [hvd];exact Nat.mod_lt _ (by omega)
  rw [←hvd]at D1 D2 l4;have l5:=Qmu (n:=v/(Y/4294967296)) (Nat.lt_of_le_of_lt (Nat.div_le_self _ _) (Nat.lt_trans hv hY2));have l6:=Zb2 v (Y/4294967296) (Nat.lt_trans hv hY2);have f1:=Zmf (Qjq hu hd1) (Qjq hv hd0);have f2:=Qyn v d0 Y (by omega) hY2;simp only [i5,i6];clear hvd i5 i6;refine Qas mixed (fun p:{p:Nat×Nat // Kn Y u d1 p.1 p.2}=>St.of [(2,.int .u64 ((Y:Nat):Int)),(8,.int .u64 ((s:Nat):Int)),(9,.int .u64 ((Y/4294967296:Nat):Int)),(10,.int .u64 ((Y%4294967296:Nat):Int)),(11,.int .u64 ((u:Nat):Int)),(13,.int .u64 ((d1:Nat):Int)),(14,.int .u64 ((d0:Nat):Int)),(15,.int .u64 ((p.1.1:Nat):Int)),(16,.int .u64 ((p.1.2:Nat):Int))] []) (fun p=>p.1.1) ⟨(u/(Y/4294967296),u%(Y/4294967296)),Qlg hY1 hY2 hu hd1⟩ ?_ ?_
  ·exact Qa0 (by simp [Qac,lkp,ren1,ren0])
  ·rintro⟨⟨q,r⟩,hK⟩;have hq:=kn_q hY1 hY2 hu hK;have hr:r<4294967296:=hK.small;have ht:=Qpq hK;simp only at hq hr ht hK ⊢;have hy1:Y/4294967296<4294967296:=by omega
   have hy0:Y%4294967296<4294967296:=by omega
   have e5:=Qqn hr hy1;have w1:=Qql hr;have w2:=Qlq hr hd1;by_cases hc:u*4294967296+d1<q*Y
   ·obtain⟨hq0,hG⟩:=Qpr hY1 hu hK hc;have e4:=Qqm hq0 hq;have hbig:(4294967296:Int)≤((q:Nat):Int)∨((4294967296:Int)≤((q:Nat):Int))=False∧IntKind.u64.wrap (((q:Nat):Int)*((Y%4294967296:Nat):Int))=((q*(Y%4294967296):Nat):Int):=by
     by_cases h:4294967296≤q
     ·left;omega
     ·right;exact⟨by simp only [eq_iff_iff,iff_false];omega,Qez (by omega) hy0⟩
    have w3:(((r*4294967296+d1:Nat):Int)<((q*(Y%4294967296):Nat):Int))=True:=by
     simp only [eq_iff_iff,iff_true];have:=ht.2 hc;omega
    by_cases hbr:4294967296≤r+Y/4294967296
    ·have hbr':((4294967296:Int)≤((r+Y/4294967296:Nat):Int))=True:=by simp only [eq_iff_iff,iff_true];omega
     have hQ:=Qlh hY1 hu hd1 hG hbr;rcases hbig with h|⟨h,w0⟩
     ·have h':((4294967296:Int)≤((q:Nat):Int))=True:=by simp only [eq_iff_iff,iff_true];exact h
      rw [hQ]at e4;simp -implicitDefEqProofs only [go_sem,Nat.reduceAdd,Nat.reduceMul,Nat.reduceEqDiff,Nat.reduceLT,Nat.reduceLeDiff,reduceCtorEq,h',e4,e5,hbr'];simp -implicitDefEqProofs only [go_sem,Nat.reduceAdd,Nat.reduceMul,Nat.reduceEqDiff,Nat.reduceLT,Nat.reduceLeDiff,reduceCtorEq,l4,Qv9,hyt,l5,l6];refine Qas mixed (fun p:{p:Nat×Nat // Kn Y v d0 p.1 p.2}=>St.of [(2,.int .u64 ((Y:Nat):Int)),(8,.int .u64 ((s:Nat):Int)),(9,.int .u64 ((Y/4294967296:Nat):Int)),(10,.int .u64 ((Y%4294967296:Nat):Int)),(14,.int .u64 ((d0:Nat):Int)),(15,.int .u64 (((u*4294967296+d1)/Y:Nat):Int)),(17,.int .u64 ((v:Nat):Int)),(18,.int .u64 ((p.1.1:Nat):Int)),(16,.int .u64 ((p.1.2:Nat):Int))] []) (fun p=>p.1.1) ⟨(v/(Y/4294967296),v%(Y/4294967296)),Qlg hY1 hY2 hv hd0⟩ ?_ ?_
      ·exact Qa0 (by simp [Qac,lkp,ren1,ren0])
      ·rintro⟨⟨q,r⟩,hK⟩;have hq:=kn_q hY1 hY2 hv hK;have hr:r<4294967296:=hK.small;have ht:=Qpq hK;simp only at hq hr ht hK ⊢;have hy1:Y/4294967296<4294967296:=by omega
       have hy0:Y%4294967296<4294967296:=by omega
       have e5:=Qqn hr hy1;have w1:=Qql hr;have w2:=Qlq hr hd0;by_cases hc:v*4294967296+d0<q*Y
       ·obtain⟨hq0,hG⟩:=Qpr hY1 hv hK hc;have e4:=Qqm hq0 hq;have hbig:(4294967296:Int)≤((q:Nat):Int)∨((4294967296:Int)≤((q:Nat):Int))=False∧IntKind.u64.wrap (((q:Nat):Int)*((Y%4294967296:Nat):Int))=((q*(Y%4294967296):Nat):Int):=by
         by_cases h:4294967296≤q
         ·left;omega
         ·right;exact⟨by simp only [eq_iff_iff,iff_false];omega,Qez (by omega) hy0⟩
        have w3:(((r*4294967296+d0:Nat):Int)<((q*(Y%4294967296):Nat):Int))=True:=by
         simp only [eq_iff_iff,iff_true];have:=ht.2 hc;omega
        by_cases hbr:4294967296≤r+Y/4294967296
        ·have hbr':((4294967296:Int)≤((r+Y/4294967296:Nat):Int))=True:=by simp only [eq_iff_iff,iff_true];omega
         have hQ:=Qlh hY1 hv hd0 hG hbr;rcases hbig with h|⟨h,w0⟩
         ·have h':((4294967296:Int)≤((q:Nat):Int))=True:=by simp only [eq_iff_iff,iff_true];exact h
          rw [hQ]at e4;simp -implicitDefEqProofs only [go_sem,Nat.reduceAdd,Nat.reduceMul,Nat.reduceEqDiff,Nat.reduceLT,Nat.reduceLeDiff,reduceCtorEq,h',e4,e5,hbr'];simp -implicitDefEqProofs only [go_sem,Nat.reduceAdd,Nat.reduceEqDiff,Nat.reduceLT,reduceCtorEq,f1,f2,k1,hmin,Qi0];rw [←D1,←D2]
         ·rw [hQ]at e4;simp -implicitDefEqProofs only [go_sem,Nat.reduceAdd,Nat.reduceMul,Nat.reduceEqDiff,Nat.reduceLT,Nat.reduceLeDiff,reduceCtorEq,h,w0,w1,w2,w3,e4,e5,hbr'];simp -implicitDefEqProofs only [go_sem,Nat.reduceAdd,Nat.reduceEqDiff,Nat.reduceLT,reduceCtorEq,f1,f2,k1,hmin,Qi0];rw [←D1,←D2]
        ·have hbr':((4294967296:Int)≤((r+Y/4294967296:Nat):Int))=False:=by simp only [eq_iff_iff,iff_false];omega
         have next: ∃y:{p:Nat×Nat // Kn Y v d0 p.1 p.2},y.1.1<q∧y.1=(q-1,r+Y/4294967296):=⟨⟨(q-1,r+Y/4294967296),hG,by simp only;omega⟩,by simp only;omega,rfl⟩
         obtain⟨y,y1,y2⟩:=next
         rcases hbig with h|⟨h,w0⟩
         ·have h':((4294967296:Int)≤((q:Nat):Int))=True:=by simp only [eq_iff_iff,iff_true];exact h
          simp -implicitDefEqProofs only [go_sem,Nat.reduceAdd,Nat.reduceMul,Nat.reduceEqDiff,Nat.reduceLT,Nat.reduceLeDiff,reduceCtorEq,h',e4,e5,hbr'];refine⟨y,y1,Qa0 ?_⟩;simp [Qac,lkp,ren1,ren0,y2]
         ·simp -implicitDefEqProofs only [go_sem,Nat.reduceAdd,Nat.reduceMul,Nat.reduceEqDiff,Nat.reduceLT,Nat.reduceLeDiff,reduceCtorEq,h,w0,w1,w2,w3,e4,e5,hbr'];refine⟨y,y1,Qa0 ?_⟩;simp [Qac,lkp,ren1,ren0,y2]
       ·have hQ:=Qps hY1 hK hc;have hq2:q<4294967296:=by rw [hQ];exact Qjq hv hd0
        have h:((4294967296:Int)≤((q:Nat):Int))=False:=by simp only [eq_iff_iff,iff_false];omega
        have w0:=Qez hq2 hy0;have w3:(((r*4294967296+d0:Nat):Int)<((q*(Y%4294967296):Nat):Int))=False:=by
         simp only [eq_iff_iff,iff_false];have:=mt ht.1 hc;omega
        simp -implicitDefEqProofs only [go_sem,Nat.reduceAdd,Nat.reduceMul,Nat.reduceEqDiff,Nat.reduceLT,Nat.reduceLeDiff,reduceCtorEq,h,w0,w1,w2,w3];clear hK hq hr ht e5 hc hq2 h w0 w1 w2 w3;subst hQ;simp -implicitDefEqProofs only [go_sem,Nat.reduceAdd,Nat.reduceEqDiff,Nat.reduceLT,reduceCtorEq,f1,f2,k1,hmin,Qi0];rw [←D1,←D2]
     ·rw [hQ]at e4;simp -implicitDefEqProofs only [go_sem,Nat.reduceAdd,Nat.reduceMul,Nat.reduceEqDiff,Nat.reduceLT,Nat.reduceLeDiff,reduceCtorEq,h,w0,w1,w2,w3,e4,e5,hbr'];simp -implicitDefEqProofs only [go_sem,Nat.reduceAdd,Nat.reduceMul,Nat.reduceEqDiff,Nat.reduceLT,Nat.reduceLeDiff,reduceCtorEq,l4,Qv9,hyt,l5,l6];refine Qas mixed (fun p:{p:Nat×Nat // Kn Y v d0 p.1 p.2}=>St.of [(2,.int .u64 ((Y:Nat):Int)),(8,.int .u64 ((s:Nat):Int)),(9,.int .u64 ((Y/4294967296:Nat):Int)),(10,.int .u64 ((Y%4294967296:Nat):Int)),(14,.int .u64 ((d0:Nat):Int)),(15,.int .u64 (((u*4294967296+d1)/Y:Nat):Int)),(17,.int .u64 ((v:Nat):Int)),(18,.int .u64 ((p.1.1:Nat):Int)),(16,.int .u64 ((p.1.2:Nat):Int))] []) (fun p=>p.1.1) ⟨(v/(Y/4294967296),v%(Y/4294967296)),Qlg hY1 hY2 hv hd0⟩ ?_ ?_
      ·exact Qa0 (by simp [Qac,lkp,ren1,ren0])
      ·rintro⟨⟨q,r⟩,hK⟩;have hq:=kn_q hY1 hY2 hv hK;have hr:r<4294967296:=hK.small;have ht:=Qpq hK;simp only at hq hr ht hK ⊢;have hy1:Y/4294967296<4294967296:=by omega
       have hy0:Y%4294967296<4294967296:=by omega
       have e5:=Qqn hr hy1;have w1:=Qql hr;have w2:=Qlq hr hd0;by_cases hc:v*4294967296+d0<q*Y
       ·obtain⟨hq0,hG⟩:=Qpr hY1 hv hK hc;have e4:=Qqm hq0 hq;have hbig:(4294967296:Int)≤((q:Nat):Int)∨((4294967296:Int)≤((q:Nat):Int))=False∧IntKind.u64.wrap (((q:Nat):Int)*((Y%4294967296:Nat):Int))=((q*(Y%4294967296):Nat):Int):=by
         by_cases h:4294967296≤q
         ·left;omega
         ·right;exact⟨by simp only [eq_iff_iff,iff_false];omega,Qez (by omega) hy0⟩
        have w3:(((r*4294967296+d0:Nat):Int)<((q*(Y%4294967296):Nat):Int))=True:=by
         simp only [eq_iff_iff,iff_true];have:=ht.2 hc;omega
        by_cases hbr:4294967296≤r+Y/4294967296
        ·have hbr':((4294967296:Int)≤((r+Y/4294967296:Nat):Int))=True:=by simp only [eq_iff_iff,iff_true];omega
         have hQ:=Qlh hY1 hv hd0 hG hbr;rcases hbig with h|⟨h,w0⟩
         ·have h':((4294967296:Int)≤((q:Nat):Int))=True:=by simp only [eq_iff_iff,iff_true];exact h
          rw [hQ]at e4;simp -implicitDefEqProofs only [go_sem,Nat.reduceAdd,Nat.reduceMul,Nat.reduceEqDiff,Nat.reduceLT,Nat.reduceLeDiff,reduceCtorEq,h',e4,e5,hbr'];simp -implicitDefEqProofs only [go_sem,Nat.reduceAdd,Nat.reduceEqDiff,Nat.reduceLT,reduceCtorEq,f1,f2,k1,hmin,Qi0];rw [←D1,←D2]
         ·rw [hQ]at e4;simp -implicitDefEqProofs only [go_sem,Nat.reduceAdd,Nat.reduceMul,Nat.reduceEqDiff,Nat.reduceLT,Nat.reduceLeDiff,reduceCtorEq,h,w0,w1,w2,w3,e4,e5,hbr'];simp -implicitDefEqProofs only [go_sem,Nat.reduceAdd,Nat.reduceEqDiff,Nat.reduceLT,reduceCtorEq,f1,f2,k1,hmin,Qi0];rw [←D1,←D2]
        ·have hbr':((4294967296:Int)≤((r+Y/4294967296:Nat):Int))=False:=by simp only [eq_iff_iff,iff_false];omega
         have next: ∃y:{p:Nat×Nat // Kn Y v d0 p.1 p.2},y.1.1<q∧y.1=(q-1,r+Y/4294967296):=⟨⟨(q-1,r+Y/4294967296),hG,by simp only;omega⟩,by simp only;omega,rfl⟩
         obtain⟨y,y1,y2⟩:=next
         rcases hbig with h|⟨h,w0⟩
         ·have h':((4294967296:Int)≤((q:Nat):Int))=True:=by simp only [eq_iff_iff,iff_true];exact h
          simp -implicitDefEqProofs only [go_sem,Nat.reduceAdd,Nat.reduceMul,Nat.reduceEqDiff,Nat.reduceLT,Nat.reduceLeDiff,reduceCtorEq,h',e4,e5,hbr'];refine⟨y,y1,Qa0 ?_⟩;simp [Qac,lkp,ren1,ren0,y2]
         ·simp -implicitDefEqProofs only [go_sem,Nat.reduceAdd,Nat.reduceMul,Nat.reduceEqDiff,Nat.reduceLT,Nat.reduceLeDiff,reduceCtorEq,h,w0,w1,w2,w3,e4,e5,hbr'];refine⟨y,y1,Qa0 ?_⟩;simp [Qac,lkp,ren1,ren0,y2]
       ·have hQ:=Qps hY1 hK hc;have hq2:q<4294967296:=by rw [hQ];exact Qjq hv hd0
        have h:((4294967296:Int)≤((q:Nat):Int))=False:=by simp only [eq_iff_iff,iff_false];omega
        have w0:=Qez hq2 hy0;have w3:(((r*4294967296+d0:Nat):Int)<((q*(Y%4294967296):Nat):Int))=False:=by
         simp only [eq_iff_iff,iff_false];have:=mt ht.1 hc;omega
        simp -implicitDefEqProofs only [go_sem,Nat.reduceAdd,Nat.reduceMul,Nat.reduceEqDiff,Nat.reduceLT,Nat.reduceLeDiff,reduceCtorEq,h,w0,w1,w2,w3];clear hK hq hr ht e5 hc hq2 h w0 w1 w2 w3;subst hQ;simp -implicitDefEqProofs only [go_sem,Nat.reduceAdd,Nat.reduceEqDiff,Nat.reduceLT,reduceCtorEq,f1,f2,k1,hmin,Qi0];rw [←D1,←D2]
    ·have hbr':((4294967296:Int)≤((r+Y/4294967296:Nat):Int))=False:=by simp only [eq_iff_iff,iff_false];omega
     have next: ∃y:{p:Nat×Nat // Kn Y u d1 p.1 p.2},y.1.1<q∧y.1=(q-1,r+Y/4294967296):=⟨⟨(q-1,r+Y/4294967296),hG,by simp only;omega⟩,by simp only;omega,rfl⟩
     obtain⟨y,y1,y2⟩:=next
     rcases hbig with h|⟨h,w0⟩
     ·have h':((4294967296:Int)≤((q:Nat):Int))=True:=by simp only [eq_iff_iff,iff_true];exact h
      simp -implicitDefEqProofs only [go_sem,Nat.reduceAdd,Nat.reduceMul,Nat.reduceEqDiff,Nat.reduceLT,Nat.reduceLeDiff,reduceCtorEq,h',e4,e5,hbr'];refine⟨y,y1,Qa0 ?_⟩;simp [Qac,lkp,ren1,ren0,y2]
     ·simp -implicitDefEqProofs only [go_sem,Nat.reduceAdd,Nat.reduceMul,Nat.reduceEqDiff,Nat.reduceLT,Nat.reduceLeDiff,reduceCtorEq,h,w0,w1,w2,w3,e4,e5,hbr'];refine⟨y,y1,Qa0 ?_⟩;simp [Qac,lkp,ren1,ren0,y2]
   ·have hQ:=Qps hY1 hK hc;have hq2:q<4294967296:=by rw [hQ];exact Qjq hu hd1
    have h:((4294967296:Int)≤((q:Nat):Int))=False:=by simp only [eq_iff_iff,iff_false];omega
    have w0:=Qez hq2 hy0;have w3:(((r*4294967296+d1:Nat):Int)<((q*(Y%4294967296):Nat):Int))=False:=by
     simp only [eq_iff_iff,iff_false];have:=mt ht.1 hc;omega
    simp -implicitDefEqProofs only [go_sem,Nat.reduceAdd,Nat.reduceMul,Nat.reduceEqDiff,Nat.reduceLT,Nat.reduceLeDiff,reduceCtorEq,h,w0,w1,w2,w3];clear hK hq hr ht e5 hc hq2 h w0 w1 w2 w3;subst hQ;simp -implicitDefEqProofs only [go_sem,Nat.reduceAdd,Nat.reduceMul,Nat.reduceEqDiff,Nat.reduceLT,Nat.reduceLeDiff,reduceCtorEq,l4,Qv9,hyt,l5,l6];refine Qas mixed (fun p:{p:Nat×Nat // Kn Y v d0 p.1 p.2}=>St.of [(2,.int .u64 ((Y:Nat):Int)),(8,.int .u64 ((s:Nat):Int)),(9,.int .u64 ((Y/4294967296:Nat):Int)),(10,.int .u64 ((Y%4294967296:Nat):Int)),(14,.int .u64 ((d0:Nat):Int)),(15,.int .u64 (((u*4294967296+d1)/Y:Nat):Int)),(17,.int .u64 ((v:Nat):Int)),(18,.int .u64 ((p.1.1:Nat):Int)),(16,.int .u64 ((p.1.2:Nat):Int))] []) (fun p=>p.1.1) ⟨(v/(Y/4294967296),v%(Y/4294967296)),Qlg hY1 hY2 hv hd0⟩ ?_ ?_
    ·exact Qa0 (by simp [Qac,lkp,ren1,ren0])
    ·rintro⟨⟨q,r⟩,hK⟩;have hq:=kn_q hY1 hY2 hv hK;have hr:r<4294967296:=hK.small;have ht:=Qpq hK;simp only at hq hr ht hK ⊢;have hy1:Y/4294967296<4294967296:=by omega
     have hy0:Y%4294967296<4294967296:=by omega
     have e5:=Qqn hr hy1;have w1:=Qql hr;have w2:=Qlq hr hd0;by_cases hc:v*4294967296+d0<q*Y
     ·obtain⟨hq0,hG⟩:=Qpr hY1 hv hK hc;have e4:=Qqm hq0 hq;have hbig:(4294967296:Int)≤((q:Nat):Int)∨((4294967296:Int)≤((q:Nat):Int))=False∧IntKind.u64.wrap (((q:Nat):Int)*((Y%4294967296:Nat):Int))=((q*(Y%4294967296):Nat):Int):=by
       by_cases h:4294967296≤q
       ·left;omega
       ·right;exact⟨by simp only [eq_iff_iff,iff_false];omega,Qez (by omega) hy0⟩
      have w3:(((r*4294967296+d0:Nat):Int)<((q*(Y%4294967296):Nat):Int))=True:=by
       simp only [eq_iff_iff,iff_true];have:=ht.2 hc;omega
      by_cases hbr:4294967296≤r+Y/4294967296
      ·have hbr':((4294967296:Int)≤((r+Y/4294967296:Nat):Int))=True:=by simp only [eq_iff_iff,iff_true];omega
       have hQ:=Qlh hY1 hv hd0 hG hbr;rcases hbig with h|⟨h,w0⟩
       ·have h':((4294967296:Int)≤((q:Nat):Int))=True:=by simp only [eq_iff_iff,iff_true];exact h
        rw [hQ]at e4;simp -implicitDefEqProofs only [go_sem,Nat.reduceAdd,Nat.reduceMul,Nat.reduceEqDiff,Nat.reduceLT,Nat.reduceLeDiff,reduceCtorEq,h',e4,e5,hbr'];simp -implicitDefEqProofs only [go_sem,Nat.reduceAdd,Nat.reduceEqDiff,Nat.reduceLT,reduceCtorEq,f1,f2,k1,hmin,Qi0];rw [←D1,←D2]
       ·rw [hQ]at e4;simp -implicitDefEqProofs only [go_sem,Nat.reduceAdd,Nat.reduceMul,Nat.reduceEqDiff,Nat.reduceLT,Nat.reduceLeDiff,reduceCtorEq,h,w0,w1,w2,w3,e4,e5,hbr'];simp -implicitDefEqProofs only [go_sem,Nat.reduceAdd,Nat.reduceEqDiff,Nat.reduceLT,reduceCtorEq,f1,f2,k1,hmin,Qi0];rw [←D1,←D2]
      ·have hbr':((4294967296:Int)≤((r+Y/4294967296:Nat):Int))=False:=by simp only [eq_iff_iff,iff_false];omega
       have next: ∃y:{p:Nat×Nat // Kn Y v d0 p.1 p.2},y.1.1<q∧y.1=(q-1,r+Y/4294967296):=⟨⟨(q-1,r+Y/4294967296),hG,by simp only;omega⟩,by simp only;omega,rfl⟩
       obtain⟨y,y1,y2⟩:=next
       rcases hbig with h|⟨h,w0⟩
       ·have h':((4294967296:Int)≤((q:Nat):Int))=True:=by simp only [eq_iff_iff,iff_true];exact h
        simp -implicitDefEqProofs only [go_sem,Nat.reduceAdd,Nat.reduceMul,Nat.reduceEqDiff,Nat.reduceLT,Nat.reduceLeDiff,reduceCtorEq,h',e4,e5,hbr'];refine⟨y,y1,Qa0 ?_⟩;simp [Qac,lkp,ren1,ren0,y2]
       ·simp -implicitDefEqProofs only [go_sem,Nat.reduceAdd,Nat.reduceMul,Nat.reduceEqDiff,Nat.reduceLT,Nat.reduceLeDiff,reduceCtorEq,h,w0,w1,w2,w3,e4,e5,hbr'];refine⟨y,y1,Qa0 ?_⟩;simp [Qac,lkp,ren1,ren0,y2]
     ·have hQ:=Qps hY1 hK hc;have hq2:q<4294967296:=by rw [hQ];exact Qjq hv hd0
      have h:((4294967296:Int)≤((q:Nat):Int))=False:=by simp only [eq_iff_iff,iff_false];omega
      have w0:=Qez hq2 hy0;have w3:(((r*4294967296+d0:Nat):Int)<((q*(Y%4294967296):Nat):Int))=False:=by
       simp only [eq_iff_iff,iff_false];have:=mt ht.1 hc;omega
      simp -implicitDefEqProofs only [go_sem,Nat.reduceAdd,Nat.reduceMul,Nat.reduceEqDiff,Nat.reduceLT,Nat.reduceLeDiff,reduceCtorEq,h,w0,w1,w2,w3];clear hK hq hr ht e5 hc hq2 h w0 w1 w2 w3;subst hQ;simp -implicitDefEqProofs only [go_sem,Nat.reduceAdd,Nat.reduceEqDiff,Nat.reduceLT,reduceCtorEq,f1,f2,k1,hmin,Qi0];rw [←D1,←D2]
end Go.Proofs.YtnohfmdlaajpbaaGreat

namespace Go.Dg
theorem Qzr (A d B:Nat) (hB:0<B) (hd:0<d):(A/B%d*B+A%B)/d=A/d%B∧(A/B%d*B+A%B)%d=A%d:=by
 have h1:=Nat.div_add_mod A B;have h2:=Nat.div_add_mod (A/B) d;have hr:A/B%d<d:=Nat.mod_lt _ hd;have hl:A%B<B:=Nat.mod_lt _ hB;generalize A/B%d=r at*;generalize A/B/d=Q at*;generalize A%B=l at*;have e:A=d*(Q*B)+(r*B+l):=by
  rw [←h1,←h2,Nat.mul_add,Nat.mul_comm B r,Nat.mul_comm B,Nat.mul_assoc];omega
 have hlt:r*B+l<d*B:=by
  have:=Nat.mul_le_mul_right B (show r+1≤d from hr);rw [Nat.add_mul]at this;omega
 have hq:(r*B+l)/d<B:=by rw [Nat.div_lt_iff_lt_mul hd,Nat.mul_comm B];exact hlt
 constructor
 ·rw [e,Nat.mul_add_div hd,Nat.mul_add_mod_self_right,Nat.mod_eq_of_lt hq]
 ·rw [e,Nat.mul_add_mod]
theorem Qpt (B V S N:Nat):mix B V S N N=lows B V N:=by
 apply List.map_congr_left;intro j hj;rw [if_pos (by simpa using hj)]
theorem Qzs (a w r i:Nat) (hr:r≤64):shlV a w r i/WB^(i+w)%WB=shlC a r i:=by
 rw [Qlf,Nat.mod_eq_of_lt (Nat.lt_of_lt_of_le (Ql1 a r i) (Nat.pow_le_pow_right (n:=2) (by decide) hr))]
end Go.Dg

namespace Go.Proofs.YtnohfmdlaajpbaaGreat
open Go.Vl Go.RowKit Go.Dg
theorem Zmg (a d:Nat) (hd:0<d) (hdl:d<18446744073709551616) (ha:(digs BW a).length≤1000000000):Qaf Tryz.prog 143 [dw (digs BW a),.int .u64 (d:Int)] (.tup [dw (digs BW (a/d)),.int .u64 ((a%d:Nat):Int)]):=by
 refine Qab (tb:=[]) 35 [.tmp 4,.tmp 5] [0,1,4,5,6,7,8,16] mixed Tryz.func143 rfl (by kernel_rfl) ?_;have hn0:((0:Int)≤((digs BW a).length:Int))=True:=by simp
 have hn1:((8:Nat):Int)*((digs BW a).length:Int)≤281474976710656:=by omega
 have hn2:((digs BW a).length:Int)≤9223372036854775807:=by omega
 have hlt:a<BW^(digs BW a).length:=Qbg BW_2 a;have hw:IntKind.i64.wrap (((digs BW a).length:Int)-1)=((digs BW a).length:Int)-1:=Qag (by omega) (by omega);simp -implicitDefEqProofs only [go_sem,Nat.reduceAdd,Nat.reduceMul,Nat.reduceEqDiff,Nat.reduceLT,Nat.reduceLeDiff,reduceCtorEq,dw,List.length_map,hn0,hn1,hn2,Int.toNat_natCast,hw];generalize hN:(digs BW a).length=N at*;have hrep:List.replicate N (PV.int .u64 0)=(mix BW 0 (a/d) N N).map fW:=by rw [Qpt,Qeg];simp
 rw [hrep];refine Qas mixed (fun i:{i:Nat // i≤N}=>St.of [(0,dw (digs BW a)),(1,.int .u64 (d:Int)),(4,.nilS),(5,.int .u64 0),(6,.bs 102 1 0 N),(7,.int .u64 ((a/BW^i.1%d:Nat):Int)),(8,.int .i64 ((i.1:Int)-1))]
  [(102,{els:=(mix BW 0 (a/d) N i.1).map fW,esz:=1,ety:=169,fro:=0,live:=true,arr:=true})]) (fun i=>i.1) ⟨N,Nat.le_refl _⟩ ?_ ?_
 ·refine Qaj (θ:=[(102,102)]) rfl ?_ ?_
  ·simp [Qac,lkp,ren1,ren0,dw,Nat.div_eq_of_lt hlt]
  ·simp [Qaz,lkp,Box.renames]
 ·rintro⟨i,hi⟩;cases i with
  |zero=>
   have h1:((0:Int)≤((0:Nat):Int)-1)=False:=by simp
   have hll:=Qam (B:=BW) (a/d) N;have htk:((lows BW (a/d) N).map fW).take N=(lows BW (a/d) N).map fW:=List.take_of_length_le (by simp [hll]);simp -implicitDefEqProofs only [go_sem,Nat.reduceAdd,Nat.reduceMul,Nat.reduceEqDiff,Nat.reduceLT,Nat.reduceLeDiff,reduceIte,reduceCtorEq,h1,Qlj,List.length_map,hll,htk];refine Qak _ _ _ _ _ _ _ _ _ (Qde (lows BW (a/d) N) (by rw [hll];simp [maxLen];omega)) ?_;have e:a/BW^0%d=a%d:=by rw [Nat.pow_zero,Nat.div_one]
   simp -implicitDefEqProofs only [go_sem,Nat.reduceAdd,Nat.reduceEqDiff,Nat.reduceLT,reduceCtorEq,dw,e];rw [Qb8 BW_2,Nat.mod_eq_of_lt (Nat.lt_of_le_of_lt (Nat.div_le_self _ _) hlt)]
  |succ i=>
   have hs:(((i+1:Nat):Int)-1)=(i:Int):=by omega
   have h1:((0:Int)≤(i:Int))=True:=by simp
   have h2:((i:Int)<(N:Int))=True:=by simp;omega
   have hga:=Qax BW_2 (show i<(digs BW a).length by omega);have hml:=Qbn (B:=BW) 0 (a/d) N (i+1);obtain⟨e,hgo⟩: ∃e:Nat,((mix BW 0 (a/d) N (i+1)).map fW)[i]? =some (PV.int .u64 (e:Int)):=⟨_,by rw [List.getElem?_map,Qdj _ _ _ _ _ (by omega)];rfl⟩;have e0:a/BW^(i+1)=a/BW^i/BW:=by rw [Nat.pow_succ,Nat.div_div_eq_div_mul]
   obtain⟨s1,s2⟩:=Qzr (a/BW^i) d BW (by decide) hd;have e1:a/BW^i/d=a/d/BW^i:=by rw [Nat.div_div_eq_div_mul,Nat.div_div_eq_div_mul,Nat.mul_comm]
   have hc:=Zb3 (a/BW^(i+1)%d) (a/BW^i%BW) d (Nat.mod_lt _ hd) hdl (Nat.mod_lt _ (by decide));rw [e0,s1,s2,e1]at hc;have hset:=Qxy (B:=BW) (V:=0) (S:=a/d) (N:=N) (i:=i) (d:=a/d/BW^i%BW) (by omega) rfl;have w4:IntKind.i64.wrap ((i:Int)-1)=(i:Int)-1:=Qag (by omega) (by omega);simp -implicitDefEqProofs only [go_sem,Nat.reduceAdd,Nat.reduceMul,Nat.reduceEqDiff,Nat.reduceLT,Nat.reduceLeDiff,reduceCtorEq,dw,hs,h1,Qch,hga,Int.toNat_natCast,e0];refine Qak _ _ _ _ _ _ _ _ _ hc ?_;simp -implicitDefEqProofs only [go_sem,Nat.reduceAdd,Nat.reduceMul,Nat.reduceEqDiff,Nat.reduceLT,Nat.reduceLeDiff,reduceIte,reduceCtorEq,h1,h2,hgo,Int.toNat_natCast,w4];refine⟨⟨i,by omega⟩,by simp only;omega,Qaj (θ:=[(102,102)]) rfl ?_ ?_⟩
   ·simp [Qac,lkp,ren1,ren0,dw]
   ·rw [Qc3,hset];simp [Qaz,lkp,Box.renames]
abbrev wB (E:List Nat):Box:={els:=E.map fW,esz:=1,ety:=169,fro:=0,live:=true,arr:=true}
theorem Qyo (E:List Nat) (off n:Nat) (hn:off+n≤E.length) (hE:E.length≤maxLen):
  Qbv Tryz.prog 125 [.bs 1000000 1 off n] [(1000000,wB E)] (.bs 1000000 1 off (Qf4 ((E.drop off).take n)).length) [(1000000,wB E)]:=by
 have hm:=Qse;refine Qbc (tb:=[]) 21 [.tmp 2] [0,2,14] mixed Tryz.func125 rfl (by kernel_rfl) (by kernel_rfl) (by kernel_rfl) (by kernel_rfl) (by rfl) ?_;simp -implicitDefEqProofs only [go_sem,seval];refine Qas mixed (fun k:{k:Nat // k≤n∧Qf4 ((E.drop off).take k)=Qf4 ((E.drop off).take n)}=>St.of [(0,.bs 1000000 1 off k.1),(2,.nilS)] [(1000000,wB E)]) (fun k=>k.1) ⟨n,Nat.le_refl _,rfl⟩ ?_ ?_
 ·refine Qaj (θ:=[(1000000,1000000)]) rfl ?_ ?_
  ·simp [Qac,lkp,ren1,ren0]
  ·simp [Qaz,lkp,Box.renames]
 ·rintro⟨k,hk,ht⟩;cases k with
  |zero=>
   have h1:((0:Int)<((0:Nat):Int))=False:=by simp
   simp -implicitDefEqProofs only [go_sem,seval,h1];rw [←ht];refine Qa2 (.inl rfl) ?_;simp -implicitDefEqProofs only [go_sem,seval];refine Qaj (θ:=[(1000000,1000000)]) rfl ?_ ?_
   ·simp [Qac,lkp,ren1,ren0,Qf4]
   ·simp [Qaz,lkp,Box.renames]
  |succ k=>
   have h1:((0:Int)<((k+1:Nat):Int))=True:=by simp
   have h2:(0≤(k:Int))=True:=by simp
   have hw:=Qsd (n:=k) (by omega);have hlt:off+k<E.length:=by omega
   have hget:(E.map fW)[off+k]? =some (.int .u64 (E[off+k]:Int)):=by simp [hlt]
   have hcut:(E.drop off).take (k+1)=(E.drop off).take k++[E[off+k]]:=by
    rw [List.take_add_one,List.getElem?_drop,List.getElem?_eq_getElem hlt];rfl
   have h4:((k:Int)<((k+1:Nat):Int))=True:=by simp;omega
   cases hd:((E[off+k]:Int)==0)with
   |true=>
    have hd0:E[off+k]=0:=by simpa using hd
    have h3:((k:Int)≤((k+1:Nat):Int))=True:=by simp;omega
    simp -implicitDefEqProofs only [go_sem,seval,h1,h2,hw,hget,hd,Int.toNat_natCast,h3,h4,wB];refine⟨⟨k,by omega,?_⟩,by simp,?_⟩
    ·rw [←ht,hcut,hd0,Qei]
    ·refine Qaj (θ:=[(1000000,1000000)]) rfl ?_ ?_
     ·simp [Qac,lkp,ren1,ren0]
     ·simp [Qaz,lkp,Box.renames]
   |false=>
    have hd0:E[off+k]≠0:=by simpa using hd
    simp -implicitDefEqProofs only [go_sem,seval,h1,h2,hw,hget,hd,Int.toNat_natCast,h4,wB];rw [←ht,hcut,Qjr _ hd0];refine Qa2 (.inl rfl) ?_;simp -implicitDefEqProofs only [go_sem,seval];refine Qaj (θ:=[(1000000,1000000)]) rfl ?_ ?_
    ·simp [Qac,lkp,ren1,ren0];omega
    ·simp [Qaz,lkp,Box.renames]
theorem Zvl (E:List Nat) (off a b:Nat) (hba:b≤a) (hE:(E.drop off).take (digs BW a).length=digs BW a) (hEl:off+(digs BW a).length≤E.length) (ha:(digs BW a).length≤1000000000):
  Qbv Tryz.prog 129 [.bs 1000000 1 off (digs BW a).length,dw (digs BW b)] [(1000000,wB E)] (.bs 102 1 0 (digs BW (a-b)).length) [(1000000,wB E),(102,wB (lows BW (a-b) (digs BW a).length))]:=by

 refine Qbc (tb:=[(1101,[(1000000,102)],[])]) 41 [.tmp 4] [0,1,4,5,6,7,8,13,14,15,20] mixed Tryz.func129 rfl (by kernel_rfl) (by kernel_rfl) (by kernel_rfl) (by kernel_rfl) (by rfl) ?_;have hn0:((0:Int)≤((digs BW a).length:Int))=True:=by simp
 have hn1:((8:Nat):Int)*((digs BW a).length:Int)≤281474976710656:=by omega
 have hn2:((digs BW a).length:Int)≤9223372036854775807:=by omega
 simp -implicitDefEqProofs only [go_sem,Nat.reduceAdd,Nat.reduceMul,Nat.reduceEqDiff,Nat.reduceLT,Nat.reduceLeDiff,reduceCtorEq,dw,wB,hn0,hn1,hn2,Int.toNat_natCast];generalize hN:(digs BW a).length=N at*;rw [Qiz (a-b) N];refine Qas mixed (fun i:{i:Nat // i≤N}=>St.of [(0,.bs 1000000 1 off N),(1,dw (digs BW b)),(4,.nilS),(5,.bs 102 1 0 N),(6,.int .u64 (bor BW a b i.1:Int)),(13,.int .i64 (N:Int)),(14,.int .i64 (i.1:Int))]
  [(1000000,wB E),(102,{els:=(mix BW (a-b) 0 N i.1).map fW,esz:=1,ety:=169,fro:=0,live:=true,arr:=true})]) (fun i=>N-i.1) ⟨0,Nat.zero_le _⟩ ?_ ?_
 ·refine Qaj (θ:=[(1000000,1000000),(102,102)]) rfl ?_ ?_
  ·simp [Qac,lkp,ren1,ren0,dw,Qxr]
  ·simp [Qaz,lkp,Box.renames]
 ·rintro⟨i,hi⟩;have hml:=Qbn (B:=BW) (a-b) 0 N i;by_cases hA:i<N
  ·have hA':((i:Int)<(N:Int))=True:=by simp;omega
   have h0:(0≤(i:Int))=True:=by simp
   have hga:=Qax BW_2 (show i<(digs BW a).length by omega);have hgE:(E.map fW)[off+i]? =some (PV.int .u64 ((a/BW^i%BW:Nat):Int)):=by
    rw [List.getElem?_map,←List.getElem?_drop,←List.getElem?_take_of_lt (show i<N by omega),hE,hga];rfl
   have hwk:=Qa7 (a:=i) (by omega);have hbl:=Qxs (B:=BW) a b i;have hbl2:=Qxs (B:=BW) a b (i+1);have hst:=Qxt BW_2 hba i;have hx:a/BW^i%BW<BW:=Nat.mod_lt _ (by decide);have hy:b/BW^i%BW<BW:=Nat.mod_lt _ (by decide);have hz:(a-b)/BW^i%BW<BW:=Nat.mod_lt _ (by decide);have hset:=Qej (B:=BW) (V:=a-b) (W:=a-b) (S:=0) (n:=N) (m:=i) (d:=(a-b)/BW^i%BW) (by decide) hA rfl rfl;have hy0: ¬i<(digs BW b).length→b/BW^i%BW=0:=fun h=>by rw [Qck BW_2 (Nat.le_of_not_lt h),Nat.zero_mod]
   have hgb:i<(digs BW b).length→(digs BW b)[i]? =some (b/BW^i%BW):=fun h=>Qax BW_2 h;obtain⟨e,hgo⟩: ∃e:Nat,((mix BW (a-b) 0 N i).map fW)[i]? =some (PV.int .u64 (e:Int)):=⟨_,by rw [List.getElem?_map,Qdj _ _ _ _ _ hA];rfl⟩;generalize a/BW^i%BW=x at*;generalize b/BW^i%BW=y at*;generalize (a-b)/BW^i%BW=z at*;have s1:(x+18446744073709551616-y-bor BW a b i)%18446744073709551616=z:=by simp only [BW]at*;omega
   have s2:(if x<y+bor BW a b i then 1 else 0)=bor BW a b (i+1):=by
    simp only [BW]at*;split<;>omega
   have hc:=Zbz x y (bor BW a b i) hbl;rw [s1,s2]at hc;by_cases hB:i<(digs BW b).length
   ·have hB':((i:Int)<((digs BW b).length:Int))=True:=by simp;omega
    have hgb:=hgb hB;simp -implicitDefEqProofs only [go_sem,Nat.reduceAdd,Nat.reduceMul,Nat.reduceEqDiff,Nat.reduceLT,Nat.reduceLeDiff,reduceCtorEq,dw,List.length_map,hA',hB',h0,Qch,hgE,wB,hgb,Int.toNat_natCast];refine Qak _ _ _ _ _ _ _ _ _ hc ?_;simp -implicitDefEqProofs only [go_sem,Nat.reduceAdd,Nat.reduceMul,Nat.reduceEqDiff,Nat.reduceLT,Nat.reduceLeDiff,reduceIte,reduceCtorEq,hA',h0,Int.toNat_natCast,hwk,hgo];refine⟨⟨i+1,hA⟩,by simp only;omega,?_⟩;refine Qaj (θ:=[(1000000,1000000),(102,102)]) rfl ?_ ?_
    ·simp [Qac,lkp,ren1,ren0,dw]
    ·rw [Qc3,hset];simp [Qaz,lkp,Box.renames]
   ·have hB':((i:Int)<((digs BW b).length:Int))=False:=by simp;omega
    obtain rfl:=hy0 hB;simp -implicitDefEqProofs only [go_sem,Nat.reduceAdd,Nat.reduceMul,Nat.reduceEqDiff,Nat.reduceLT,Nat.reduceLeDiff,reduceCtorEq,dw,List.length_map,hA',hB',h0,hgE,wB,Int.toNat_natCast];refine Qak _ _ _ _ _ _ _ _ _ hc ?_;simp -implicitDefEqProofs only [go_sem,Nat.reduceAdd,Nat.reduceMul,Nat.reduceEqDiff,Nat.reduceLT,Nat.reduceLeDiff,reduceIte,reduceCtorEq,hA',h0,Int.toNat_natCast,hwk,hgo];refine⟨⟨i+1,hA⟩,by simp only;omega,?_⟩;refine Qaj (θ:=[(1000000,1000000),(102,102)]) rfl ?_ ?_
    ·simp [Qac,lkp,ren1,ren0,dw]
    ·rw [Qc3,hset];simp [Qaz,lkp,Box.renames]
  ·have hA':((i:Int)<(N:Int))=False:=by simp;omega
   obtain rfl:i=N:=by omega
   have hll:=Qam (B:=BW) (a-b) i;have hlt:a<BW^i:=by rw [←hN];exact Qbg BW_2 a
   have hm:mix BW (a-b) 0 i i=lows BW (a-b) i:=Qf8 (by decide) (by rw [Nat.div_eq_of_lt (Nat.lt_of_le_of_lt (Nat.sub_le _ _) hlt),Nat.zero_div]);have hq:Qf4 (((lows BW (a-b) i).drop 0).take i)=digs BW (a-b):=by
    rw [List.drop_zero,List.take_of_length_le (by rw [hll];exact Nat.le_refl _),Qb8 BW_2,Nat.mod_eq_of_lt (Nat.lt_of_le_of_lt (Nat.sub_le _ _) hlt)]
   have hc:=Qyo (lows BW (a-b) i) 0 i (by rw [hll];omega) (by rw [hll];simp [maxLen];omega);rw [hq]at hc;simp -implicitDefEqProofs only [go_sem,Nat.reduceAdd,Nat.reduceMul,Nat.reduceEqDiff,Nat.reduceLT,Nat.reduceLeDiff,reduceCtorEq,hA',wB,hm];refine Qcb _ _ _ _ _ _ _ _ _ hc ?_;simp -implicitDefEqProofs only [go_sem,Nat.reduceAdd,Nat.reduceEqDiff,Nat.reduceLT,reduceCtorEq,wB];refine Qa2 (.inl rfl) ?_;simp -implicitDefEqProofs only [go_sem,Nat.reduceEqDiff,reduceCtorEq];refine Qaj (θ:=[(1000000,1000000),(102,102)]) rfl ?_ ?_
   ·simp [Qac,lkp,ren1,ren0]
   ·simp [Qaz,lkp,Box.renames]
attribute [local go_sem high] Zmm
theorem Zox (n:Nat):Int.tdiv (n:Int) 64=((n/64:Nat):Int):=Qv9 n 64
theorem Zoy (n:Nat):Int.tmod (n:Int) 64=((n%64:Nat):Int):=Zzw n 64
theorem Zoz (a k:Nat) (ha:(digs BW a).length≤1000000000) (hk:k≤1000000000):Qaf Tryz.prog 145 [dw (digs BW a),.int .i64 (k:Int)] (dw (digs BW (a*2^k))):=by
 refine Qab (tb:=[]) 56 [.tmp 4] [0,1,4,5,6,7,8,9,12,23,24,25,26,42] mixed Tryz.func145 rfl (by kernel_rfl) ?_;by_cases h0:a=0
 ·subst h0;have h1:(((0:Nat):Int)==0)=true:=rfl;rw [Nat.zero_mul,Qbi];simp -implicitDefEqProofs only [go_sem,Nat.reduceAdd,Nat.reduceMul,Nat.reduceEqDiff,Nat.reduceLT,Nat.reduceLeDiff,reduceCtorEq,dw,List.map_nil,List.length_nil,h1]
 have hp:0<(digs BW a).length:=List.length_pos_iff.2 (mt (Qbm BW_2).1 h0);have h1:(((digs BW a).length:Int)==0)=false:=by simp only [beq_eq_false_iff_ne,ne_eq];omega
 have hlt:a<BW^(digs BW a).length:=Qbg BW_2 a;obtain⟨W,hW⟩: ∃W,W=k/64:=⟨_,rfl⟩;obtain⟨r,hr⟩: ∃r,r=k%64:=⟨_,rfl⟩;have hr64:r<64:=by rw [hr];exact Nat.mod_lt _ (by decide)
 have hkr:k=64*W+r:=by omega
 have d1:Int.tdiv (k:Int) 64=(W:Int):=by rw [Zox,hW]
 have d2:Int.tmod (k:Int) 64=(r:Int):=by rw [Zoy,hr]
 have hWl:W≤1000000000:=by omega
 clear hW hr;generalize hN:(digs BW a).length=N at*;have q1:=wrapn (n:=W) (by omega);have q2:=Qg5 (a:=N) (b:=W) (by omega);have q3:=Qa7 (a:=N+W) (by omega);have hn0:((0:Int)≤((N+W+1:Nat):Int))=True:=by simp only [eq_iff_iff,iff_true];omega
 have hn1:((8:Nat):Int)*((N+W+1:Nat):Int)≤281474976710656:=by omega
 have hn2:((N+W+1:Nat):Int)≤9223372036854775807:=by omega
 simp -implicitDefEqProofs only [go_sem,Nat.reduceAdd,Nat.reduceMul,Nat.reduceEqDiff,Nat.reduceLT,Nat.reduceLeDiff,reduceCtorEq,Int.reduceEq,dw,List.length_map,hN,h1,d1,d2,q1,q2,q3,hn0,hn1,hn2,Int.toNat_natCast];have hrep:List.replicate (N+W+1) (PV.int .u64 0)=(lows BW (shlV a W r 0) (N+W+1)).map fW:=by rw [Q3x,Qeg];simp
 rw [hrep];have k1:(((r:Nat):Int)<0)=False:=by simp only [eq_iff_iff,iff_false];omega
 have k2:min r 64=r:=by omega
 have k3:IntKind.i64.wrap (64-((r:Nat):Int))=((64-r:Nat):Int):=by rw [Qag (by omega) (by omega)];omega
 have k4:((((64-r:Nat):Nat):Int)<0)=False:=by simp only [eq_iff_iff,iff_false];omega
 have k5:min (64-r) 64=64-r:=by omega
 refine Qas mixed (fun i:{i:Nat // i≤N}=>St.of [(4,.nilS),(5,.int .i64 (W:Int)),(6,.int .i64 (r:Int)),(7,.bs 405 1 0 (N+W+1)),(23,dw (digs BW a)),(24,.int .i64 (N:Int)),(25,.int .i64 (i.1:Int))]
  [(405,{els:=(lows BW (shlV a W r i.1) (N+W+1)).map fW,esz:=1,ety:=169,fro:=0,live:=true,arr:=true})]) (fun i=>N-i.1) ⟨0,Nat.zero_le _⟩ ?_ ?_
 ·refine Qaj (θ:=[(405,405)]) rfl ?_ ?_
  ·simp [Qac,lkp,ren1,ren0,dw]
  ·simp [Qaz,lkp,Box.renames]
 ·rintro⟨i,hi⟩;have hll:=Qam (B:=BW) (shlV a W r i) (N+W+1);by_cases hA:i<N
  ·have hA':((i:Int)<(N:Int))=True:=by simp;omega
   have hi0:(0≤(i:Int))=True:=by simp
   have hga:=Qax BW_2 (show i<(digs BW a).length by omega);have hwk:=Qa7 (a:=i) (by omega);have w1:=Qg5 (a:=i) (b:=W) (by omega);have w2:=Qa7 (a:=i+W) (by omega);have b1:(0≤((i+W:Nat):Int))=True:=by simp only [eq_iff_iff,iff_true];omega
   have b2:(((i+W:Nat):Int)<((N+W+1:Nat):Int))=True:=by simp only [eq_iff_iff,iff_true];omega
   have b3:(0≤((i+W+1:Nat):Int))=True:=by simp only [eq_iff_iff,iff_true];omega
   have b4:(((i+W+1:Nat):Int)<((N+W+1:Nat):Int))=True:=by simp only [eq_iff_iff,iff_true];omega
   have hgo:((lows BW (shlV a W r i) (N+W+1)).map fW)[i+W]? =some (PV.int .u64 ((shlC a r i:Nat):Int)):=by
    rw [List.getElem?_map,Qbw _ _ _ (by omega),Qzs a W r i (by omega)];rfl
   have hc2:shlC a r i%18446744073709551616=shlC a r i:=Nat.mod_eq_of_lt (Nat.lt_of_lt_of_le (Ql1 a r i) (show 2^r≤18446744073709551616 from Nat.pow_le_pow_right (n:=2) (by decide) (show r≤64 by omega)));by_cases hr0:r=0
   ·subst hr0;have g0:((0:Int)<(((0:Nat):Nat):Int))=False:=by simp
    have hset:=Zd5 a W i (N+W+1) (by omega);have hc0:shlC a 0 i=0:=by have:=Ql1 a 0 i;simp at this;exact this
    have hval:(0 ||| a/BW^i%BW*2^0%18446744073709551616)=a/BW^i%BW:=by
     rw [Nat.zero_or,Nat.pow_zero,Nat.mul_one,show(18446744073709551616:Nat)=BW from rfl,Nat.mod_mod]
    simp -implicitDefEqProofs only [go_sem,Nat.reduceAdd,Nat.reduceMul,Nat.reduceEqDiff,Nat.reduceLT,Nat.reduceLeDiff,reduceIte,reduceCtorEq,dw,hA',hi0,Qch,hga,Int.toNat_natCast,w1,b1,b2,hgo,k1,k2,g0,hc0,Qmw,hwk,Nat.mod_mod,Nat.zero_mod];refine⟨Qad _ _ (by kernel_rfl),⟨i+1,hA⟩,by simp only;omega,Qaj (θ:=[(405,405)]) rfl ?_ ?_⟩
    ·simp [Qac,lkp,ren1,ren0,dw]
    ·rw [hval,Qc3,hset];simp [Qaz,lkp,Box.renames]
   ·have g0:((0:Int)<((r:Nat):Int))=True:=by simp only [eq_iff_iff,iff_true];omega
    have hset:=Zd6 a W r i (N+W+1) (by omega) (by omega);obtain⟨e,hgo2⟩: ∃e:Nat,(((lows BW (shlV a W r i) (N+W+1)).map fW).set (i+W) (.int .u64 ((shlC a r i ||| (a/BW^i%BW*2^r%18446744073709551616):Nat):Int)))[i+W+1]? =some (PV.int .u64 (e:Int)):=by
     rw [Qc3,List.getElem?_map];refine⟨_,by rw [List.getElem?_set_ne (by omega),Qbw _ _ _ (by omega)];rfl⟩
    simp -implicitDefEqProofs only [go_sem,Nat.reduceAdd,Nat.reduceMul,Nat.reduceEqDiff,Nat.reduceLT,Nat.reduceLeDiff,reduceIte,reduceCtorEq,dw,hA',hi0,Qch,hga,Int.toNat_natCast,w1,w2,b1,b2,b3,b4,hgo,k1,k2,k3,k4,k5,g0,hc2,Qmw,Qi0,hwk,hgo2,Nat.mod_mod];refine⟨Qad _ _ (by kernel_rfl),⟨i+1,hA⟩,by simp only;omega,Qaj (θ:=[(405,405)]) rfl ?_ ?_⟩
    ·simp [Qac,lkp,ren1,ren0,dw]
    ·rw [Qc3,Qc3,hset];simp [Qaz,lkp,Box.renames]
  ·have hA':((i:Int)<(N:Int))=False:=by simp;omega
   obtain rfl:i=N:=by omega
   have hV:=Q3y a W r i hlt;rw [←hkr]at hV;rw [hV]at hll;have htk:((lows BW (a*2^k) (i+W+1)).map fW).take (i+W+1)=(lows BW (a*2^k) (i+W+1)).map fW:=List.take_of_length_le (by simp [hll]);simp -implicitDefEqProofs only [go_sem,Nat.reduceAdd,Nat.reduceMul,Nat.reduceEqDiff,Nat.reduceLT,Nat.reduceLeDiff,reduceIte,reduceCtorEq,hA',hV,List.length_map,hll,htk];refine Qak _ _ _ _ _ _ _ _ _ (Qde (lows BW (a*2^k) (i+W+1)) (by rw [hll];simp [maxLen];omega)) ?_;simp -implicitDefEqProofs only [go_sem,Nat.reduceAdd,Nat.reduceEqDiff,Nat.reduceLT,reduceCtorEq,dw];rw [Qb8 BW_2,Nat.mod_eq_of_lt];rw [Nat.add_assoc,Nat.pow_add];have h2:2^k<BW^(W+1):=by
    rw [show BW=2^64 from rfl,←Nat.pow_mul];exact Nat.pow_lt_pow_right (by decide) (by omega)
   exact Nat.lt_of_lt_of_le (Nat.mul_lt_mul_of_pos_right hlt (Nat.pow_pos (by decide))) (Nat.mul_le_mul_left _ (Nat.le_of_lt h2))
end Go.Proofs.YtnohfmdlaajpbaaGreat

namespace Go.Proofs.YtnohfmdlaajpbaaGreat
open Go.Vl Go.RowKit Go.Dg
theorem Z2j (l:List Nat):((l.map fW).all fun e=>e.cells.length==1&&e.cells.all PV.okCell)=true:=by
 rw [List.all_map,List.all_eq_true];intro _ _;rfl
theorem Zmh (l:List Nat) (hl:0<l.length) (hl2:l.length≤1000000000):Qbv Tryz.prog 158 [dw l] [] (.bs 302 1 0 l.length) [(302,wB l)]:=by
 have h0:l.isEmpty=false:=by cases l with|nil=>simp at hl|cons=>rfl
 have h1:(l.length*8≤140737488355328)=True:=by simp only [eq_iff_iff,iff_true];omega
 have h2:(l.length≤maxLen)=True:=by simp only [eq_iff_iff,iff_true];unfold maxLen;omega
 refine Qbc (tb:=[]) 8 [.tmp 2] [0,2,4] mixed Tryz.func158 rfl (by kernel_rfl) (by kernel_rfl) (by kernel_rfl) (by kernel_rfl) (by rfl) ?_;simp -implicitDefEqProofs only [go_sem,seval,dw,h0,List.length_map,h1,h2,Z2j];refine Qa2 (.inl rfl) ?_;simp -implicitDefEqProofs only [go_sem,seval];refine Qaj (θ:=[(302,302)]) rfl ?_ ?_
 ·simp [Qac,lkp,ren1,ren0]
 ·simp [Qaz,lkp,Box.renames]
attribute [local go_sem high] Zmm
theorem Zzy (a k:Nat) (ha:(digs BW a).length≤1000000000) (hk:k≤1000000000):Qaf Tryz.prog 148 [dw (digs BW a),.int .i64 (k:Int)] (dw (digs BW (a/2^k))):=by
 have hlt:a<BW^(digs BW a).length:=Qbg BW_2 a;obtain⟨W,hW⟩: ∃W,W=k/64:=⟨_,rfl⟩;obtain⟨r,hr⟩: ∃r,r=k%64:=⟨_,rfl⟩;have hr64:r<64:=by rw [hr];exact Nat.mod_lt _ (by decide)
 have hkr:k=64*W+r:=by omega
 have d1:Int.tdiv (k:Int) 64=(W:Int):=by rw [Zox,hW]
 have d2:Int.tmod (k:Int) 64=(r:Int):=by rw [Zoy,hr]
 have hWl:W≤1000000000:=by omega
 clear hW hr;have q1:=wrapn (n:=W) (by omega);have hpk:2^k=BW^W*2^r:=by rw [hkr,Nat.pow_add,Nat.pow_mul]
 have hq:a/2^k=a/BW^W/2^r:=by rw [hpk,Nat.div_div_eq_div_mul]

 refine Qab (tb:=[(403,[],[(302,403)])]) 59 [.tmp 4] [0,1,4,5,6,7,8,16,22,24,25,26,39] mixed Tryz.func148 rfl (by kernel_rfl) ?_;by_cases hN:(digs BW a).length≤W
 ·have g1:(((digs BW a).length:Int)≤(W:Int))=True:=by simp only [eq_iff_iff,iff_true];omega
  have e:digs BW (a/2^k)=[]:=by
   rw [hq,Qck BW_2 hN,Nat.zero_div,Qbi]
  rw [e];simp -implicitDefEqProofs only [go_sem,seval,dw,List.length_map,d1,d2,q1,g1,List.map_nil]
 have g1:(((digs BW a).length:Int)≤(W:Int))=False:=by simp only [eq_iff_iff,iff_false];omega
 have hA0: ∀j,a/BW^(W+j)=a/BW^W/BW^j:=fun j=>by rw [Nat.pow_add,Nat.div_div_eq_div_mul]
 have hn0:(0≤(W:Int))=True:=by simp
 have hn1:((W:Int)≤((digs BW a).length:Int))=True:=by simp only [eq_iff_iff,iff_true];omega
 have hsl:(((digs BW a).map fW).take (digs BW a).length).drop W=(lows BW (a/BW^W) ((digs BW a).length-W)).map fW:=by
  rw [List.take_of_length_le (by simp),←List.map_drop];congr 1;apply List.ext_getElem?;intro j;rw [List.getElem?_drop];by_cases hj:W+j<(digs BW a).length
  ·rw [Qax BW_2 hj,Qbw _ _ _ (by omega),hA0]
  ·rw [List.getElem?_eq_none (by omega),List.getElem?_eq_none (by rw [Qam];omega)]
 have hcell:=Zo0 (digs BW a);have hAlt:a/BW^W<BW^((digs BW a).length-W):=by
  refine Nat.div_lt_of_lt_mul ?_;rw [←Nat.pow_add,show W+((digs BW a).length-W)=(digs BW a).length by omega];exact hlt
 have hll:=Qam (B:=BW) (a/BW^W) ((digs BW a).length-W);simp -implicitDefEqProofs only [go_sem,seval,dw,List.length_map,d1,d2,q1,g1,hn0,hn1,Int.toNat_natCast,hsl,hcell];refine Qcb _ _ _ _ _ _ _ _ _ (Zmh (lows BW (a/BW^W) ((digs BW a).length-W)) (by rw [hll];omega) (by rw [hll];omega)) ?_;rw [hll];by_cases hr0:r=0
 ·subst hr0;have g0:((0:Int)<(((0:Nat):Nat):Int))=False:=by simp
  have htk:((lows BW (a/BW^W) ((digs BW a).length-W)).map fW).take ((digs BW a).length-W)=(lows BW (a/BW^W) ((digs BW a).length-W)).map fW:=List.take_of_length_le (by simp [hll]);simp -implicitDefEqProofs only [go_sem,seval,wB,g0,List.length_map,hll,htk];refine Qak _ _ _ _ _ _ _ _ _ (Qde (lows BW (a/BW^W) ((digs BW a).length-W)) (by rw [hll];simp [maxLen];omega)) ?_;simp -implicitDefEqProofs only [go_sem,seval,dw];rw [Qb8 BW_2,Nat.mod_eq_of_lt hAlt,hq,Nat.pow_zero,Nat.div_one]
 ·have g0:((0:Int)<((r:Nat):Int))=True:=by simp only [eq_iff_iff,iff_true];omega
  simp -implicitDefEqProofs only [go_sem,seval,wB,g0];have hdig:=fun(j:Nat) (h:W+j<(digs BW a).length)=>Qax (n:=a) BW_2 h;generalize hn:(digs BW a).length-W=n at*;have hNn:(digs BW a).length=W+n:=by omega
  have k1:(((r:Nat):Int)<0)=False:=by simp only [eq_iff_iff,iff_false];omega
  have k2:min r 64=r:=by omega
  have k3:IntKind.i64.wrap (64-((r:Nat):Int))=((64-r:Nat):Int):=by rw [Qag (by omega) (by omega)];omega
  have k4:((((64-r:Nat):Nat):Int)<0)=False:=by simp only [eq_iff_iff,iff_false];omega
  have k5:min (64-r) 64=64-r:=by omega
  rw [hq];generalize hAA:a/BW^W=A at*;refine Qas mixed (fun i:{i:Nat // i≤n}=>St.of [(0,dw (digs BW a)),(4,.nilS),(5,.int .i64 (W:Int)),(6,.int .i64 (r:Int)),(7,.bs 403 1 0 n),(24,.int .i64 (n:Int)),(25,.int .i64 (i.1:Int))]
   [(403,wB (mix BW (A/2^r) A n i.1))]) (fun i=>n-i.1) ⟨0,Nat.zero_le _⟩ ?_ ?_
  ·refine Qaj (θ:=[(403,403)]) rfl ?_ ?_
   ·simp [Qac,lkp,ren1,ren0,dw]
   ·simp [Qaz,lkp,Box.renames,Qlj]
  ·rintro⟨i,hi⟩;have hml:=Qbn (B:=BW) (A/2^r) A n i;by_cases hA:i<n
   ·have hA':((i:Int)<(n:Int))=True:=by simp;omega
    have hi0:(0≤(i:Int))=True:=by simp
    have hwk:=Qa7 (a:=i) (by omega);have hgo:((mix BW (A/2^r) A n i).map fW)[i]? =some (PV.int .u64 ((A/BW^i%BW:Nat):Int)):=by
     rw [List.getElem?_map,Qdj _ _ _ _ _ hA,if_neg (Nat.lt_irrefl _)];rfl
    by_cases hB:i+1<n
    ·have hB':(((i+1:Nat):Int)<(n:Int))=True:=by simp only [eq_iff_iff,iff_true];omega
     have hsd:=Q31 A i r (by omega) hr64;have hset:=Qej (B:=BW) (V:=A/2^r) (W:=A/2^r) (S:=A) (n:=n) (m:=i) (by decide) hA rfl rfl;have hga:(digs BW a)[W+i+1]? =some (A/BW^(i+1)%BW):=by
      have h:=hdig (i+1) (by omega);rw [hA0 (i+1)]at h;exact h
     have w1:=Qg5 (a:=W) (b:=i) (by omega);have w2:=Qa7 (a:=W+i) (by omega);have b1:(0≤((W+i+1:Nat):Int))=True:=by simp only [eq_iff_iff,iff_true];omega
     have hgo2:(((mix BW (A/2^r) A n i).map fW).set i (.int .u64 ((A/BW^i%BW/2^r:Nat):Int)))[i]? =some (PV.int .u64 ((A/BW^i%BW/2^r:Nat):Int)):=by
      rw [List.getElem?_set_self (by rw [List.length_map,hml];exact hA)]
     have e1:A/BW^i%BW/2^r%18446744073709551616=A/BW^i%BW/2^r:=Nat.mod_eq_of_lt (Nat.lt_of_le_of_lt (Nat.div_le_self _ _) (Nat.mod_lt _ (by decide)));simp -implicitDefEqProofs only [go_sem,seval,wB,dw,hA',hi0,Int.toNat_natCast,hgo,k1,k2,Qi0,hwk,hB',hgo2,w1,w2,b1,Qch,hga,k3,k4,k5,Qmw,Nat.mod_mod,e1,List.set_set];refine⟨Qad _ _ (by kernel_rfl),⟨i+1,hA⟩,by simp only;omega,Qaj (θ:=[(403,403)]) rfl ?_ ?_⟩
     ·simp [Qac,lkp,ren1,ren0,dw]
     ·simp only [WB]at hsd;rw [Qc3,hsd,hset];simp [Qaz,lkp,Box.renames]
    ·have hB':(((i+1:Nat):Int)<(n:Int))=False:=by simp only [eq_iff_iff,iff_false];omega
     have hsd:=Zpd A i r (by rw [show i+1=n by omega];exact Nat.div_eq_of_lt hAlt);have hset:=Qej (B:=BW) (V:=A/2^r) (W:=A/2^r) (S:=A) (n:=n) (m:=i) (by decide) hA rfl rfl;simp -implicitDefEqProofs only [go_sem,seval,wB,dw,hA',hi0,Int.toNat_natCast,hgo,k1,k2,Qi0,hwk,hB'];refine⟨⟨i+1,hA⟩,by simp only;omega,Qaj (θ:=[(403,403)]) rfl ?_ ?_⟩
     ·simp [Qac,lkp,ren1,ren0,dw]
     ·simp only [WB]at hsd;rw [Qc3,hsd,hset];simp [Qaz,lkp,Box.renames]
   ·have hA':((i:Int)<(n:Int))=False:=by simp;omega
    obtain rfl:i=n:=by omega
    have hm:mix BW (A/2^r) A i i=lows BW (A/2^r) i:=Qpt _ _ _ _;have hl2:=Qam (B:=BW) (A/2^r) i;have htk:((lows BW (A/2^r) i).map fW).take i=(lows BW (A/2^r) i).map fW:=List.take_of_length_le (by simp [hl2]);simp -implicitDefEqProofs only [go_sem,seval,wB,hA',hm,List.length_map,hl2,htk];refine Qak _ _ _ _ _ _ _ _ _ (Qde (lows BW (A/2^r) i) (by rw [hl2];simp [maxLen];omega)) ?_;simp -implicitDefEqProofs only [go_sem,seval,dw];rw [Qb8 BW_2,Nat.mod_eq_of_lt (Nat.lt_of_le_of_lt (Nat.div_le_self _ _) hAlt)]
end Go.Proofs.YtnohfmdlaajpbaaGreat

namespace Go.Proofs.YtnohfmdlaajpbaaGreat
open Go.Vl Go.RowKit Go.Dg
theorem Qix {d:Nat} (h:d<BW):Qf4 [d]=digs BW d:=by
 rw [Qxq BW_2 [d] (by simpa using h)];simp [val]
theorem Q2c {m:Nat} (h:m<18446744073709551616):blen m≤64:=Qd2 64 m h
theorem Qhd (n:Int):IntKind.u64.wrap n=n%18446744073709551616:=by simp [IntKind.wrap,IntKind.bits,IntKind.signed]
theorem Qiy (n:Int) (h1: -9223372036854775808≤n) (h2:n≤9223372036854775807):Qaf Tryz.prog 102 [.int .i64 n] (wPV n):=by
 obtain⟨m,hm⟩: ∃m:Nat,m=n.natAbs:=⟨_,rfl⟩;have hml:m<18446744073709551616:=by omega
 have ht:=Qde [m] (by simp [maxLen]);rw [Qix hml]at ht;have hL:(digs BW m).length≤1000000:=Nat.le_trans ((Qaw BW_2 m 1).2 (by simpa using hml)) (by decide);have hw:=fun neg=>Qj2 neg m hL;have hb:blen n.natAbs≤64:=by rw [←hm];exact Q2c hml
 by_cases hn:n<0
 ·have hn':(n<0)=True:=by simp [hn]
  have e1:IntKind.u64.wrap n=((18446744073709551616-m:Nat):Int):=by rw [Qhd];omega
  have e2:IntKind.u64.wrap (0-((18446744073709551616-m:Nat):Int))=(m:Int):=by rw [Qhd];omega
  have hw1:=hw true;have e3:sv true m=n:=by simp [sv];omega
  rw [e3,Qh0,if_neg (by omega)]at hw1;refine Qab (tb:=[]) 23 [.cell 2 125] [0,2,3,4,9] mixed Tryz.func102 rfl (by kernel_rfl) ?_;repeat (first|simp -implicitDefEqProofs only [go_sem,seval,hn',e1,e2,dw,wPV,List.map_cons,List.map_nil]|(with_reducible refine Qaa ht ?_ ?_ ?_);rfl;rfl|(with_reducible refine Qaa hw1 ?_ ?_ ?_);rfl;rfl)
 ·have hn':(n<0)=False:=by simp [hn]
  have e1:IntKind.u64.wrap n=(m:Int):=by rw [Qhd];omega
  have hw1:=hw false;have e3:sv false m=n:=by simp [sv];omega
  rw [e3,Qh0,if_neg (by omega)]at hw1;refine Qab (tb:=[]) 23 [.cell 2 125] [0,2,3,4,9] mixed Tryz.func102 rfl (by kernel_rfl) ?_;repeat (first|simp -implicitDefEqProofs only [go_sem,seval,hn',e1,dw,wPV,List.map_cons,List.map_nil]|(with_reducible refine Qaa ht ?_ ?_ ?_);rfl;rfl|(with_reducible refine Qaa hw1 ?_ ?_ ?_);rfl;rfl)
def Qfk (n:Int):PV:=if -9223372036854775808≤n∧n≤9223372036854775807 then .tup [.int .i64 n,.int .i64 0]else .tup [.int .i64 0,.int .i64 3]
theorem Zzx (neg:Bool) (s:ByteArray) (h:Qb0 neg s.data.toList=true) (hs:s.size≤100000):Qaf Tryz.prog 57 [.agg [.bool neg,.str s]] (Qfk (wnum neg s)):=by
 have hv:=Qqp neg s;rw [h]at hv;have ho:=Qqk neg s h (by omega);have hL:=Qgf s hs;unfold wnum;generalize bnum s.data.toList=m at*;by_cases h0:m=0
 ·subst h0;have e:Qfk (sv neg 0)= .tup [.int .i64 0,.int .i64 0]:=by cases neg<;>rfl
  have h1:(((0:Nat):Int)==0)=true:=rfl;rw [e];refine Qab (tb:=[]) 53 [.tmp 2,.tmp 3] [0,1,2,3,4,7,10,15,39] mixed Tryz.func57 rfl (by kernel_rfl) ?_;repeat (first|simp -implicitDefEqProofs only [go_sem,seval,nP,dw,Qbi,List.map_nil,List.length_nil,h1]|(with_reducible refine Qaa hv ?_ ?_ ?_);rfl;rfl|(with_reducible refine Qaa ho ?_ ?_ ?_);rfl;rfl)
 ·have hp:0<(digs BW m).length:=List.length_pos_iff.2 (mt (Qbm BW_2).1 h0);have h1:(((digs BW m).length:Int)==0)=false:=by simp only [beq_eq_false_iff_ne,ne_eq];omega
  have hlen:=Qaw BW_2 m 1;rw [Nat.pow_one]at hlen;have hg:=Qax BW_2 hp;rw [Nat.pow_zero,Nat.div_one]at hg;by_cases hl:m<BW
  ·have hl1:((1:Int)<((digs BW m).length:Int))=False:=by have:=hlen.2 hl;simp only [eq_iff_iff,iff_false];omega
   rw [Nat.mod_eq_of_lt hl]at hg;simp only [BW]at hl;cases neg with
   |false=>
    by_cases hbig:9223372036854775808≤m
    ·have g1:((9223372036854775808:Int)≤(m:Int))=True:=by simp only [eq_iff_iff,iff_true];omega
     have e:Qfk (sv false m)= .tup [.int .i64 0,.int .i64 3]:=by rw [Qfk,if_neg];simp [sv];omega
     rw [e];refine Qab (tb:=[]) 53 [.tmp 2,.tmp 3] [0,1,2,3,4,7,10,15,39] mixed Tryz.func57 rfl (by kernel_rfl) ?_;repeat (first|simp -implicitDefEqProofs only [go_sem,seval,nP,dw,List.length_map,h1,hl1,Qch,hg,g1]|(with_reducible refine Qaa hv ?_ ?_ ?_);rfl;rfl|(with_reducible refine Qaa ho ?_ ?_ ?_);rfl;rfl)
    ·have g1:((9223372036854775808:Int)≤(m:Int))=False:=by simp only [eq_iff_iff,iff_false];omega
     have g2:((9223372036854775808:Int)<(m:Int))=False:=by simp only [eq_iff_iff,iff_false];omega
     have e:Qfk (sv false m)= .tup [.int .i64 (m:Int),.int .i64 0]:=by rw [Qfk,if_pos (by simp [sv];omega)];rfl
     have w1:=wrapn (n:=m) (by omega);rw [e];refine Qab (tb:=[]) 53 [.tmp 2,.tmp 3] [0,1,2,3,4,7,10,15,39] mixed Tryz.func57 rfl (by kernel_rfl) ?_;repeat (first|simp -implicitDefEqProofs only [go_sem,seval,nP,dw,List.length_map,h1,hl1,Qch,hg,g1,g2,w1]|(with_reducible refine Qaa hv ?_ ?_ ?_);rfl;rfl|(with_reducible refine Qaa ho ?_ ?_ ?_);rfl;rfl)
   |true=>
    by_cases hbig:9223372036854775808<m
    ·have g2:((9223372036854775808:Int)<(m:Int))=True:=by simp only [eq_iff_iff,iff_true];omega
     have e:Qfk (sv true m)= .tup [.int .i64 0,.int .i64 3]:=by rw [Qfk,if_neg];simp [sv];omega
     rw [e];refine Qab (tb:=[]) 53 [.tmp 2,.tmp 3] [0,1,2,3,4,7,10,15,39] mixed Tryz.func57 rfl (by kernel_rfl) ?_;repeat (first|simp -implicitDefEqProofs only [go_sem,seval,nP,dw,List.length_map,h1,hl1,Qch,hg,g2]|(with_reducible refine Qaa hv ?_ ?_ ?_);rfl;rfl|(with_reducible refine Qaa ho ?_ ?_ ?_);rfl;rfl)
    ·have g2:((9223372036854775808:Int)<(m:Int))=False:=by simp only [eq_iff_iff,iff_false];omega
     have e:Qfk (sv true m)= .tup [.int .i64 (-(m:Int)),.int .i64 0]:=by rw [Qfk,if_pos (by simp [sv];omega)];rfl
     have w1:IntKind.i64.wrap (IntKind.u64.wrap (0-(m:Int)))= -(m:Int):=by
      rw [Qhd];simp [IntKind.wrap,IntKind.bits,IntKind.signed];omega
     rw [e];refine Qab (tb:=[]) 53 [.tmp 2,.tmp 3] [0,1,2,3,4,7,10,15,39] mixed Tryz.func57 rfl (by kernel_rfl) ?_;repeat (first|simp -implicitDefEqProofs only [go_sem,seval,nP,dw,List.length_map,h1,hl1,Qch,hg,g2,w1]|(with_reducible refine Qaa hv ?_ ?_ ?_);rfl;rfl|(with_reducible refine Qaa ho ?_ ?_ ?_);rfl;rfl)
  ·have hl1:((1:Int)<((digs BW m).length:Int))=True:=by
    have:=mt hlen.1 hl;simp only [eq_iff_iff,iff_true];omega
   simp only [BW]at hl;have e:Qfk (sv neg m)= .tup [.int .i64 0,.int .i64 3]:=by rw [Qfk,if_neg];cases neg<;>simp [sv]<;>omega
   rw [e];refine Qab (tb:=[]) 53 [.tmp 2,.tmp 3] [0,1,2,3,4,7,10,15,39] mixed Tryz.func57 rfl (by kernel_rfl) ?_;repeat (first|simp -implicitDefEqProofs only [go_sem,seval,nP,dw,List.length_map,h1,hl1]|(with_reducible refine Qaa hv ?_ ?_ ?_);rfl;rfl|(with_reducible refine Qaa ho ?_ ?_ ?_);rfl;rfl)
theorem Q2d (an bn:Bool) (a b:ByteArray) (h1:Qb0 an a.data.toList=true) (h2:Qb0 bn b.data.toList=true) (ha:a.size≤100000) (hb:b.size≤100000):
  Qaf Tryz.prog 155 [.agg [.bool an,.str a],.agg [.bool bn,.str b]] (.int .i64 (wnum an a-wnum bn b).sign):=by
 have hv:=Qsx an bn a b;rw [h1,h2]at hv;have hL1:=Qgf a ha;have hL2:=Qgf b hb;have hoa:=Qqk an a h1 (by omega);have hob:=Qqk bn b h2 (by omega);have hn:=Z0a bn (bnum b.data.toList);obtain⟨n,m,hs,e,hm⟩:=Zo3 an (!bn) (bnum a.data.toList) (bnum b.data.toList) (by omega) (by omega);have hg:=Zvo n m;have e2:sv (!bn) (bnum b.data.toList)= -(sv bn (bnum b.data.toList)):=by cases bn<;>simp [sv]
 have e3:sv n m=wnum an a-wnum bn b:=by rw [e,e2,wnum,wnum,Int.sub_eq_add_neg]
 rw [e3]at hg;rw [Bool.true_and]at hv;refine Qab (tb:=[]) 16 [.tmp 4] [0,1,2,3,4,8] mixed Tryz.func155 rfl (by kernel_rfl) ?_;repeat (first|simp -implicitDefEqProofs only [go_sem,seval,nP,dw]|(with_reducible refine Qaa hv ?_ ?_ ?_);rfl;rfl|(with_reducible refine Qaa hoa ?_ ?_ ?_);rfl;rfl|(with_reducible refine Qaa hob ?_ ?_ ?_);rfl;rfl|(with_reducible refine Qaa hn ?_ ?_ ?_);rfl;rfl|(with_reducible refine Qaa hs ?_ ?_ ?_);rfl;rfl|(with_reducible refine Qaa hg ?_ ?_ ?_);rfl;rfl|(with_reducible exact Qad _ _ (by kernel_rfl)))
end Go.Proofs.YtnohfmdlaajpbaaGreat

namespace Go.Dg
theorem Qzt {α:Type} (E L:List α) (i n:Nat) (z:α) (hL:L.length≤n) (hi:i+n≤E.length):
  (E.take i++List.replicate n z++E.drop (i+n)).take i++L++(E.take i++List.replicate n z++E.drop (i+n)).drop (i+L.length)=E.take i++(L++List.replicate (n-L.length) z)++E.drop (i+n):=by
 have hl:(E.take i).length=i:=by simp;omega
 rw [List.append_assoc (E.take i) (List.replicate n z)];generalize hT:E.take i=T at*;generalize E.drop (i+n)=D;have e1:(T++(List.replicate n z++D)).take i=T:=by rw [←hl];exact List.take_left
 have e2:(T++(List.replicate n z++D)).drop (i+L.length)=List.replicate (n-L.length) z++D:=by
  rw [←List.drop_drop,←hl,List.drop_left,List.drop_append];simp only [List.drop_replicate,List.length_replicate];rw [show L.length-n=0 by omega,List.drop_zero]
 rw [e1,e2];simp only [List.append_assoc]
theorem Zwq {b:Nat} (hb:b≠0):
  (digs WB (b*2^(64-blen (b/WB^((digs WB b).length-1))))).length=(digs WB b).length:=by
 have hp:0<(digs WB b).length:=List.length_pos_iff.2 (mt (Qbm (by decide)).1 hb);have ht:=Qdu (B:=WB) (by decide) hb;obtain⟨K,hK⟩: ∃K,(digs WB b).length=K+1:=⟨(digs WB b).length-1,by omega⟩;rw [hK,Nat.add_sub_cancel]at ht ⊢;have h64:=Qd2 64 _ ht.2;have hlt:b/WB^K<2^blen (b/WB^K):=by
  rcases Nat.lt_or_ge (b/WB^K) (2^blen (b/WB^K))with h|h
  ·exact h
  ·have:=Ql0 _ _ h;omega
 apply Nat.le_antisymm
 ·refine(Qaw (by decide) _ _).2 ?_;have h1:b<2^blen (b/WB^K)*WB^K:=(Nat.div_lt_iff_lt_mul (WBp K)).1 hlt;have h2:=Nat.mul_lt_mul_of_pos_right h1 (show 0<2^(64-blen (b/WB^K))from Nat.pow_pos (by decide));rw [Nat.mul_right_comm,←Nat.pow_add,show blen (b/WB^K)+(64-blen (b/WB^K))=64 by omega]at h2;rw [Nat.pow_succ,Nat.mul_comm (WB^K)];exact h2
 ·have h3:K<(digs WB b).length:=by omega
  have h4:=(Qc7 (by decide) b K).1 h3;refine(Qc7 (by decide) _ K).2 ?_;have h5:b/WB^K≤b*2^(64-blen (b/WB^K))/WB^K:=Nat.div_le_div_right (Nat.le_mul_of_pos_right b (Nat.pow_pos (by decide)));exact Nat.ne_of_gt (Nat.lt_of_lt_of_le (Nat.pos_of_ne_zero h4) h5)
end Go.Dg

namespace Go.Proofs.YtnohfmdlaajpbaaGreat
open Go.Vl Go.RowKit Go.Dg
theorem Zvm (a b:Nat) (h:a<b) (ha:(digs BW a).length≤100000000) (hbl:(digs BW b).length≤100000000):Qaf Tryz.prog 127 [dw (digs BW a),dw (digs BW b)] (.tup [dw (digs BW (a/b)),dw (digs BW (a%b))]):=by
 have hc:=Qdl a b (by omega) (by omega);have g1:(cmpW a b<0)=True:=by simp only [eq_iff_iff,iff_true];exact(Qd6 a b).2 h
 rw [Nat.div_eq_of_lt h,Nat.mod_eq_of_lt h,Qbi];refine Qab (tb:=[]) 145 [.tmp 4,.tmp 5] [0,1,4,5,6,7,8,9,10,11,12,13,14,15,16,17,21,25,68,82,121] mixed Tryz.func127 rfl (by kernel_rfl) ?_;repeat (first|simp -implicitDefEqProofs only [go_sem,seval,dw,g1,List.map_nil]|(with_reducible refine Qaa hc ?_ ?_ ?_);rfl;rfl)
theorem Zmi (a b:Nat) (h:b≤a) (hb:0<b) (h1:b<18446744073709551616) (ha:(digs BW a).length≤100000000):Qaf Tryz.prog 127 [dw (digs BW a),dw (digs BW b)] (.tup [dw (digs BW (a/b)),dw (digs BW (a%b))]):=by
 have hd:digs BW b=[b]:=by rw [Qf7 BW_2 (by omega),Nat.mod_eq_of_lt h1,Nat.div_eq_of_lt h1,Qbi]
 have hc:=Qdl a b (by omega) (by rw [hd];simp);have g1:(cmpW a b<0)=False:=by simp only [eq_iff_iff,iff_false];rw [Qd6];omega
 have hs:=Zmg a b hb h1 (by omega);have hr:a%b<BW:=Nat.lt_trans (Nat.mod_lt _ hb) h1;have ht:=Qde [a%b] (by simp [maxLen]);rw [Qix hr]at ht;rw [hd]at hc ⊢;have z1:(((0+1:Nat):Int)==1)=true:=rfl;have z2:(((1:Nat):Int)==1)=true:=rfl;refine Qab (tb:=[]) 145 [.tmp 4,.tmp 5] [0,1,4,5,6,7,8,9,10,11,12,13,14,15,16,17,21,25,68,82,121] mixed Tryz.func127 rfl (by kernel_rfl) ?_;repeat (first|simp -implicitDefEqProofs only [go_sem,seval,dw,g1,List.map_nil,List.map_cons,z1]|(with_reducible refine Qaa hc ?_ ?_ ?_);rfl;rfl|(with_reducible refine Qaa hs ?_ ?_ ?_);rfl;rfl|(with_reducible refine Qaa ht ?_ ?_ ?_);rfl;rfl)
end Go.Proofs.YtnohfmdlaajpbaaGreat
