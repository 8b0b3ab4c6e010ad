/-
  HW3, HW4, HW5, HW6, HW7, HW8, Dl, HW9, HW10, HW11, HW12, HW13, HW14, HW15 (merged for the claim).
-/
import Derived.Test.YtciddhkfbgkejaaGreatDoorHW2
set_option linter.unusedSimpArgs false
set_option linter.unusedVariables false
namespace Go.Proofs.YtciddhkfbgkejaaGreatDoor
open Go.Vl Go.RowKit Go.Dg
theorem Qc7 (l:List Nat) (i:Nat) (d:Nat):(l.map fW).set i (PV.int .u64 (d:Int))=(l.set i d).map fW:=(List.map_set (f:=fW)).symm
theorem Qej (B n:Nat):lows B 0 n=List.replicate n 0:=by
 apply List.ext_getElem?
 intro k
 by_cases h:k<n
 ·rw [Qbv _ _ _ h];simp [h]
 ·rw [List.getElem?_eq_none (by rw [Qai];omega),List.getElem?_eq_none (by simp;omega)]
theorem Qi1 (V n:Nat):List.replicate n (PV.int .u64 0)=(mix BW V 0 n 0).map fW:=by
 rw [Qg8,Qej];simp
theorem Qsg (a b:Nat) (hba:b≤a) (ha:(digs BW a).length≤1000000000):Qad Tryz.prog 193 [dw (digs BW a),dw (digs BW b)] (dw (digs BW (a-b))):=by
 refine Qac (tb:=[]) 41 [.tmp 4] [0,1,4,5,6,7,8,13,14,15,20] mixed Tryz.func193 rfl (by kernel_rfl) (by kernel_rfl) (by kernel_rfl) (by kernel_rfl) ?_
 have hn0:((0:Int)≤((digs BW a).length:Int))=True:=by simp
 have hn1:((8:Nat):Int)*((digs BW a).length:Int)≤281474976710656:=by omega
 have hn2:((digs BW a).length:Int)≤9223372036854775807:=by omega
 simp -implicitDefEqProofs only [go_sem,Nat.reduceAdd,Nat.reduceMul,Nat.reduceEqDiff,Nat.reduceLT,Nat.reduceLeDiff,reduceCtorEq,dw,List.length_map,hn0,hn1,hn2,Int.toNat_natCast]
 generalize hN:(digs BW a).length=N at*
 rw [Qi1 (a-b) N]
 refine Qar mixed (fun i:{i:Nat // i≤N}=>St.of [(0,dw (digs BW a)),(1,dw (digs BW b)),(4,.nilS),(5,.bs 102 1 0 N),(6,.int .u64 (bor BW a b i.1:Int)),(13,.int .i64 (N:Int)),(14,.int .i64 (i.1:Int))]
  [(102,{els:=(mix BW (a-b) 0 N i.1).map fW,esz:=1,ety:=162,fro:=0,live:=true,arr:=true})]) (fun i=>N-i.1) ⟨0,Nat.zero_le _⟩ ?_ ?_
 ·refine Qak (θ:=[(102,102)]) rfl ?_ ?_
  ·simp [Qaf,lkp,ren1,ren0,dw,Qpk]
  ·simp [Qam,lkp,Box.renames]
 ·rintro⟨i,hi⟩
  have hml:=Qbf (B:=BW) (a-b) 0 N i
  by_cases hA:i<N
  ·have hA':((i:Int)<(N:Int))=True:=by simp;omega
   have h0:(0≤(i:Int))=True:=by simp
   have hga:=Qao BW_2 (show i<(digs BW a).length by omega)
   have hwk:=Qaj (a:=i) (by omega)
   have hbl:=Qob (B:=BW) a b i
   have hbl2:=Qob (B:=BW) a b (i+1)
   have hst:=Qpl BW_2 hba i
   have hx:a/BW^i%BW<BW:=Nat.mod_lt _ (by decide)
   have hy:b/BW^i%BW<BW:=Nat.mod_lt _ (by decide)
   have hz:(a-b)/BW^i%BW<BW:=Nat.mod_lt _ (by decide)
   have hset:=Qd4 (B:=BW) (V:=a-b) (W:=a-b) (S:=0) (n:=N) (m:=i) (d:=(a-b)/BW^i%BW) (by decide) hA rfl rfl
   have hy0: ¬i<(digs BW b).length→b/BW^i%BW=0:=fun h=>by rw [Qba BW_2 (Nat.le_of_not_lt h),Nat.zero_mod]
   have hgb:i<(digs BW b).length→(digs BW b)[i]? =some (b/BW^i%BW):=fun h=>Qao BW_2 h
   obtain⟨e,hgo⟩: ∃e:Nat,((mix BW (a-b) 0 N i).map fW)[i]? =some (PV.int .u64 (e:Int)):=⟨_,by rw [List.getElem?_map,Qcx _ _ _ _ _ hA];rfl⟩
   generalize a/BW^i%BW=x at*
   generalize b/BW^i%BW=y at*
   generalize (a-b)/BW^i%BW=z at*
   have s1:(x+18446744073709551616-y-bor BW a b i)%18446744073709551616=z:=by simp only [BW]at*;omega
   have s2:(if x<y+bor BW a b i then 1 else 0)=bor BW a b (i+1):=by
    simp only [BW]at*
    split<;>omega
   have hc:=Q7e x y (bor BW a b i) hbl
   rw [s1,s2]at hc
   by_cases hB:i<(digs BW b).length
   ·have hB':((i:Int)<((digs BW b).length:Int))=True:=by simp;omega
    have hgb:=hgb hB
    simp -implicitDefEqProofs only [go_sem,Nat.reduceAdd,Nat.reduceMul,Nat.reduceEqDiff,Nat.reduceLT,Nat.reduceLeDiff,reduceCtorEq,dw,List.length_map,hA',hB',h0,Qcd,hga,hgb,Int.toNat_natCast]
    refine Qag _ _ _ _ _ _ _ _ _ hc ?_
    simp -implicitDefEqProofs only [go_sem,Nat.reduceAdd,Nat.reduceMul,Nat.reduceEqDiff,Nat.reduceLT,Nat.reduceLeDiff,reduceIte,reduceCtorEq,hA',h0,Int.toNat_natCast,hwk,hgo,List.length_map,hml]
    refine⟨⟨i+1,hA⟩,by simp only;omega,?_⟩
    refine Qak (θ:=[(102,102)]) rfl ?_ ?_
    ·simp [Qaf,lkp,ren1,ren0,dw]
    ·rw [Qc7,hset]
     simp [Qam,lkp,Box.renames]
   ·have hB':((i:Int)<((digs BW b).length:Int))=False:=by simp;omega
    obtain rfl:=hy0 hB
    simp -implicitDefEqProofs only [go_sem,Nat.reduceAdd,Nat.reduceMul,Nat.reduceEqDiff,Nat.reduceLT,Nat.reduceLeDiff,reduceCtorEq,dw,List.length_map,hA',hB',h0,Qcd,hga,Int.toNat_natCast]
    refine Qag _ _ _ _ _ _ _ _ _ hc ?_
    simp -implicitDefEqProofs only [go_sem,Nat.reduceAdd,Nat.reduceMul,Nat.reduceEqDiff,Nat.reduceLT,Nat.reduceLeDiff,reduceIte,reduceCtorEq,hA',h0,Int.toNat_natCast,hwk,hgo,List.length_map,hml]
    refine⟨⟨i+1,hA⟩,by simp only;omega,?_⟩
    refine Qak (θ:=[(102,102)]) rfl ?_ ?_
    ·simp [Qaf,lkp,ren1,ren0,dw]
    ·rw [Qc7,hset]
     simp [Qam,lkp,Box.renames]
  ·have hA':((i:Int)<(N:Int))=False:=by simp;omega
   obtain rfl:i=N:=by omega
   have htk:((lows BW (a-b) i).map fW).take i=(lows BW (a-b) i).map fW:=List.take_of_length_le (by simp [Qai])
   have hll:=Qai (B:=BW) (a-b) i
   have hlt:a<BW^i:=by rw [←hN];exact Qav BW_2 a
   have hm:mix BW (a-b) 0 i i=lows BW (a-b) i:=Qem (by decide) (by rw [Nat.div_eq_of_lt (Nat.lt_of_le_of_lt (Nat.sub_le _ _) hlt),Nat.zero_div])
   simp -implicitDefEqProofs only [go_sem,Nat.reduceAdd,Nat.reduceMul,Nat.reduceEqDiff,Nat.reduceLT,Nat.reduceLeDiff,reduceIte,reduceCtorEq,hA',List.length_map,hll,htk,hm]
   refine Qag _ _ _ _ _ _ _ _ _ (Qdh (lows BW (a-b) i) (by rw [Qai];simp [maxLen];omega)) ?_
   simp -implicitDefEqProofs only [go_sem,Nat.reduceAdd,Nat.reduceEqDiff,Nat.reduceLT,reduceCtorEq,dw,List.length_map]
   rw [Qbo BW_2,Nat.mod_eq_of_lt (Nat.lt_of_le_of_lt (Nat.sub_le _ _) hlt)]
end Go.Proofs.YtciddhkfbgkejaaGreatDoor

namespace Go.Proofs.YtciddhkfbgkejaaGreatDoor
open Go.Vl Go.RowKit Go.Dg
theorem Zh7 (a b:Nat) (ha:(digs BW a).length≤1000000000) (hb:(digs BW b).length≤1000000000):Qad Tryz.prog 192 [dw (digs BW a),dw (digs BW b)] (dw (digs BW (a+b))):=by
 refine Qac (tb:=[]) 54 [.tmp 4] [0,1,4,5,6,7,8,13,21,22,23,28] mixed Tryz.func192 rfl (by kernel_rfl) (by kernel_rfl) (by kernel_rfl) (by kernel_rfl) ?_
 by_cases hab:(digs BW a).length<(digs BW b).length
 ·have hab':(((digs BW a).length:Int)<((digs BW b).length:Int))=True:=by simp;omega
  have hPQ:(digs BW a).length≤(digs BW b).length:=by omega
  rw [Nat.add_comm a b]
  have hn0:((0:Int)≤(((digs BW b).length+1:Nat):Int))=True:=by simp only [eq_iff_iff,iff_true];omega
  have hn1:((8:Nat):Int)*(((digs BW b).length+1:Nat):Int)≤281474976710656:=by omega
  have hn2:(((digs BW b).length+1:Nat):Int)≤9223372036854775807:=by omega
  have hw1:=Qaj (a:=(digs BW b).length) (by omega)
  simp -implicitDefEqProofs only [go_sem,Nat.reduceAdd,Nat.reduceMul,Nat.reduceEqDiff,Nat.reduceLT,Nat.reduceLeDiff,reduceCtorEq,dw,List.length_map,hab',hw1,hn0,hn1,hn2,Int.toNat_natCast]
  have hlt:b<BW^(digs BW b).length:=Qav BW_2 b
  have hlt2:a<BW^(digs BW b).length:=(Qal BW_2 a _).1 hPQ
  generalize hN:(digs BW b).length=N at*
  rw [Qi1 (b+a) (N+1)]
  refine Qar mixed (fun i:{i:Nat // i≤N}=>St.of [(0,dw (digs BW b)),(1,dw (digs BW a)),(4,.nilS),(5,.bs 303 1 0 (N+1)),(6,.int .u64 (carry BW b a i.1:Int)),(21,.int .i64 (N:Int)),(22,.int .i64 (i.1:Int))]
   [(303,{els:=(mix BW (b+a) 0 (N+1) i.1).map fW,esz:=1,ety:=162,fro:=0,live:=true,arr:=true})]) (fun i=>N-i.1) ⟨0,Nat.zero_le _⟩ ?_ ?_
  ·refine Qak (θ:=[(303,303)]) rfl ?_ ?_
   ·simp [Qaf,lkp,ren1,ren0,dw,Qjo]
   ·simp [Qam,lkp,Box.renames]
  ·rintro⟨i,hi⟩
   have hml:=Qbf (B:=BW) (b+a) 0 (N+1) i
   have hset:=Qd4 (B:=BW) (V:=b+a) (W:=b+a) (S:=0) (n:=N+1) (m:=i) (d:=(b+a)/BW^i%BW) (by decide) (by omega) rfl rfl
   obtain⟨e,hgo⟩: ∃e:Nat,((mix BW (b+a) 0 (N+1) i).map fW)[i]? =some (PV.int .u64 (e:Int)):=⟨_,by rw [List.getElem?_map,Qcx _ _ _ _ _ (by omega)];rfl⟩
   have h0:(0≤(i:Int))=True:=by simp
   have hiN:((i:Int)<((N+1:Nat):Int))=True:=by simp only [eq_iff_iff,iff_true];omega
   by_cases hA:i<N
   ·have hA':((i:Int)<(N:Int))=True:=by simp;omega
    have hga:=Qao BW_2 (show i<(digs BW b).length by omega)
    have hwk:=Qaj (a:=i) (by omega)
    have hcl:=Qpn (B:=BW) (by decide) b a i
    obtain⟨s1,s2⟩:(b/BW^i%BW+a/BW^i%BW+carry BW b a i)%18446744073709551616=(b+a)/BW^i%BW∧(b/BW^i%BW+a/BW^i%BW+carry BW b a i)/18446744073709551616=carry BW b a (i+1):=Qpo (B:=BW) (by decide) b a i
    have hy0: ¬i<(digs BW a).length→a/BW^i%BW=0:=fun h=>by rw [Qba BW_2 (Nat.le_of_not_lt h),Nat.zero_mod]
    have hgb:i<(digs BW a).length→(digs BW a)[i]? =some (a/BW^i%BW):=fun h=>Qao BW_2 h
    have hc:=Qqc (b/BW^i%BW) (a/BW^i%BW) (carry BW b a i) hcl
    rw [s1,s2]at hc
    generalize b/BW^i%BW=x at*
    generalize a/BW^i%BW=y at*
    generalize (b+a)/BW^i%BW=z at*
    by_cases hB:i<(digs BW a).length
    ·have hB':((i:Int)<((digs BW a).length:Int))=True:=by simp;omega
     have hgb:=hgb hB
     simp -implicitDefEqProofs only [go_sem,Nat.reduceAdd,Nat.reduceMul,Nat.reduceEqDiff,Nat.reduceLT,Nat.reduceLeDiff,reduceCtorEq,dw,List.length_map,hA',hB',h0,Qcd,hga,hgb,Int.toNat_natCast]
     refine Qag _ _ _ _ _ _ _ _ _ hc ?_
     simp -implicitDefEqProofs only [go_sem,Nat.reduceAdd,Nat.reduceMul,Nat.reduceEqDiff,Nat.reduceLT,Nat.reduceLeDiff,reduceIte,reduceCtorEq,hA',h0,hiN,Int.toNat_natCast,hwk,hgo,List.length_map,hml]
     refine⟨⟨i+1,hA⟩,by simp only;omega,?_⟩
     refine Qak (θ:=[(303,303)]) rfl ?_ ?_
     ·simp [Qaf,lkp,ren1,ren0,dw]
     ·rw [Qc7,hset]
      simp [Qam,lkp,Box.renames]
    ·have hB':((i:Int)<((digs BW a).length:Int))=False:=by simp;omega
     obtain rfl:=hy0 hB
     simp -implicitDefEqProofs only [go_sem,Nat.reduceAdd,Nat.reduceMul,Nat.reduceEqDiff,Nat.reduceLT,Nat.reduceLeDiff,reduceCtorEq,dw,List.length_map,hA',hB',h0,Qcd,hga,Int.toNat_natCast]
     refine Qag _ _ _ _ _ _ _ _ _ hc ?_
     simp -implicitDefEqProofs only [go_sem,Nat.reduceAdd,Nat.reduceMul,Nat.reduceEqDiff,Nat.reduceLT,Nat.reduceLeDiff,reduceIte,reduceCtorEq,hA',h0,hiN,Int.toNat_natCast,hwk,hgo,List.length_map,hml]
     refine⟨⟨i+1,hA⟩,by simp only;omega,?_⟩
     refine Qak (θ:=[(303,303)]) rfl ?_ ?_
     ·simp [Qaf,lkp,ren1,ren0,dw]
     ·rw [Qc7,hset]
      simp [Qam,lkp,Box.renames]
   ·have hA':((i:Int)<(N:Int))=False:=by simp;omega
    obtain rfl:i=N:=by omega
    have hsum:(b+a)/BW^i<2:=Nat.div_lt_of_lt_mul (by omega)
    have hcN:carry BW b a i=(b+a)/BW^i%BW:=by
     rw [carry,Nat.mod_eq_of_lt hlt,Nat.mod_eq_of_lt hlt2,Nat.mod_eq_of_lt (Nat.lt_trans hsum (by decide))]
    have hm:mix BW (b+a) 0 (i+1) (i+1)=lows BW (b+a) (i+1):=Qem (by decide) (by rw [Nat.pow_succ,←Nat.div_div_eq_div_mul,Nat.div_eq_of_lt (Nat.lt_trans hsum (by decide)),Nat.zero_div])
    rw [hm]at hset
    have htk:((lows BW (b+a) (i+1)).map fW).take (i+1)=(lows BW (b+a) (i+1)).map fW:=List.take_of_length_le (by simp [Qai])
    have hll:=Qai (B:=BW) (b+a) (i+1)
    have hbig:b+a<BW^(i+1):=by
     rw [Nat.pow_succ]
     have:BW^i*2≤BW^i*BW:=Nat.mul_le_mul_left _ (by decide)
     omega
    rw [hcN]
    simp -implicitDefEqProofs only [go_sem,Nat.reduceAdd,Nat.reduceMul,Nat.reduceEqDiff,Nat.reduceLT,Nat.reduceLeDiff,reduceIte,reduceCtorEq,dw,hA',h0,hiN,hN,Int.toNat_natCast,hgo,List.length_map,hml,Qc7,hset,hll,htk]
    refine Qag _ _ _ _ _ _ _ _ _ (Qdh (lows BW (b+a) (i+1)) (by rw [Qai];simp [maxLen];omega)) ?_
    simp -implicitDefEqProofs only [go_sem,Nat.reduceAdd,Nat.reduceEqDiff,Nat.reduceLT,reduceCtorEq,dw,List.length_map]
    rw [Qbo BW_2,Nat.mod_eq_of_lt hbig]
 ·have hab':(((digs BW a).length:Int)<((digs BW b).length:Int))=False:=by simp;omega
  have hPQ:(digs BW b).length≤(digs BW a).length:=by omega
  have hn0:((0:Int)≤(((digs BW a).length+1:Nat):Int))=True:=by simp only [eq_iff_iff,iff_true];omega
  have hn1:((8:Nat):Int)*(((digs BW a).length+1:Nat):Int)≤281474976710656:=by omega
  have hn2:(((digs BW a).length+1:Nat):Int)≤9223372036854775807:=by omega
  have hw1:=Qaj (a:=(digs BW a).length) (by omega)
  simp -implicitDefEqProofs only [go_sem,Nat.reduceAdd,Nat.reduceMul,Nat.reduceEqDiff,Nat.reduceLT,Nat.reduceLeDiff,reduceCtorEq,dw,List.length_map,hab',hw1,hn0,hn1,hn2,Int.toNat_natCast]
  have hlt:a<BW^(digs BW a).length:=Qav BW_2 a
  have hlt2:b<BW^(digs BW a).length:=(Qal BW_2 b _).1 hPQ
  generalize hN:(digs BW a).length=N at*
  rw [Qi1 (a+b) (N+1)]
  refine Qar mixed (fun i:{i:Nat // i≤N}=>St.of [(0,dw (digs BW a)),(1,dw (digs BW b)),(4,.nilS),(5,.bs 303 1 0 (N+1)),(6,.int .u64 (carry BW a b i.1:Int)),(21,.int .i64 (N:Int)),(22,.int .i64 (i.1:Int))]
   [(303,{els:=(mix BW (a+b) 0 (N+1) i.1).map fW,esz:=1,ety:=162,fro:=0,live:=true,arr:=true})]) (fun i=>N-i.1) ⟨0,Nat.zero_le _⟩ ?_ ?_
  ·refine Qak (θ:=[(303,303)]) rfl ?_ ?_
   ·simp [Qaf,lkp,ren1,ren0,dw,Qjo]
   ·simp [Qam,lkp,Box.renames]
  ·rintro⟨i,hi⟩
   have hml:=Qbf (B:=BW) (a+b) 0 (N+1) i
   have hset:=Qd4 (B:=BW) (V:=a+b) (W:=a+b) (S:=0) (n:=N+1) (m:=i) (d:=(a+b)/BW^i%BW) (by decide) (by omega) rfl rfl
   obtain⟨e,hgo⟩: ∃e:Nat,((mix BW (a+b) 0 (N+1) i).map fW)[i]? =some (PV.int .u64 (e:Int)):=⟨_,by rw [List.getElem?_map,Qcx _ _ _ _ _ (by omega)];rfl⟩
   have h0:(0≤(i:Int))=True:=by simp
   have hiN:((i:Int)<((N+1:Nat):Int))=True:=by simp only [eq_iff_iff,iff_true];omega
   by_cases hA:i<N
   ·have hA':((i:Int)<(N:Int))=True:=by simp;omega
    have hga:=Qao BW_2 (show i<(digs BW a).length by omega)
    have hwk:=Qaj (a:=i) (by omega)
    have hcl:=Qpn (B:=BW) (by decide) a b i
    obtain⟨s1,s2⟩:(a/BW^i%BW+b/BW^i%BW+carry BW a b i)%18446744073709551616=(a+b)/BW^i%BW∧(a/BW^i%BW+b/BW^i%BW+carry BW a b i)/18446744073709551616=carry BW a b (i+1):=Qpo (B:=BW) (by decide) a b i
    have hy0: ¬i<(digs BW b).length→b/BW^i%BW=0:=fun h=>by rw [Qba BW_2 (Nat.le_of_not_lt h),Nat.zero_mod]
    have hgb:i<(digs BW b).length→(digs BW b)[i]? =some (b/BW^i%BW):=fun h=>Qao BW_2 h
    have hc:=Qqc (a/BW^i%BW) (b/BW^i%BW) (carry BW a b i) hcl
    rw [s1,s2]at hc
    generalize a/BW^i%BW=x at*
    generalize b/BW^i%BW=y at*
    generalize (a+b)/BW^i%BW=z at*
    by_cases hB:i<(digs BW b).length
    ·have hB':((i:Int)<((digs BW b).length:Int))=True:=by simp;omega
     have hgb:=hgb hB
     simp -implicitDefEqProofs only [go_sem,Nat.reduceAdd,Nat.reduceMul,Nat.reduceEqDiff,Nat.reduceLT,Nat.reduceLeDiff,reduceCtorEq,dw,List.length_map,hA',hB',h0,Qcd,hga,hgb,Int.toNat_natCast]
     refine Qag _ _ _ _ _ _ _ _ _ hc ?_
     simp -implicitDefEqProofs only [go_sem,Nat.reduceAdd,Nat.reduceMul,Nat.reduceEqDiff,Nat.reduceLT,Nat.reduceLeDiff,reduceIte,reduceCtorEq,hA',h0,hiN,Int.toNat_natCast,hwk,hgo,List.length_map,hml]
     refine⟨⟨i+1,hA⟩,by simp only;omega,?_⟩
     refine Qak (θ:=[(303,303)]) rfl ?_ ?_
     ·simp [Qaf,lkp,ren1,ren0,dw]
     ·rw [Qc7,hset]
      simp [Qam,lkp,Box.renames]
    ·have hB':((i:Int)<((digs BW b).length:Int))=False:=by simp;omega
     obtain rfl:=hy0 hB
     simp -implicitDefEqProofs only [go_sem,Nat.reduceAdd,Nat.reduceMul,Nat.reduceEqDiff,Nat.reduceLT,Nat.reduceLeDiff,reduceCtorEq,dw,List.length_map,hA',hB',h0,Qcd,hga,Int.toNat_natCast]
     refine Qag _ _ _ _ _ _ _ _ _ hc ?_
     simp -implicitDefEqProofs only [go_sem,Nat.reduceAdd,Nat.reduceMul,Nat.reduceEqDiff,Nat.reduceLT,Nat.reduceLeDiff,reduceIte,reduceCtorEq,hA',h0,hiN,Int.toNat_natCast,hwk,hgo,List.length_map,hml]
     refine⟨⟨i+1,hA⟩,by simp only;omega,?_⟩
     refine Qak (θ:=[(303,303)]) rfl ?_ ?_
     ·simp [Qaf,lkp,ren1,ren0,dw]
     ·rw [Qc7,hset]
      simp [Qam,lkp,Box.renames]
   ·have hA':((i:Int)<(N:Int))=False:=by simp;omega
    obtain rfl:i=N:=by omega
    have hsum:(a+b)/BW^i<2:=Nat.div_lt_of_lt_mul (by omega)
    have hcN:carry BW a b i=(a+b)/BW^i%BW:=by
     rw [carry,Nat.mod_eq_of_lt hlt,Nat.mod_eq_of_lt hlt2,Nat.mod_eq_of_lt (Nat.lt_trans hsum (by decide))]
    have hm:mix BW (a+b) 0 (i+1) (i+1)=lows BW (a+b) (i+1):=Qem (by decide) (by rw [Nat.pow_succ,←Nat.div_div_eq_div_mul,Nat.div_eq_of_lt (Nat.lt_trans hsum (by decide)),Nat.zero_div])
    rw [hm]at hset
    have htk:((lows BW (a+b) (i+1)).map fW).take (i+1)=(lows BW (a+b) (i+1)).map fW:=List.take_of_length_le (by simp [Qai])
    have hll:=Qai (B:=BW) (a+b) (i+1)
    have hbig:a+b<BW^(i+1):=by
     rw [Nat.pow_succ]
     have:BW^i*2≤BW^i*BW:=Nat.mul_le_mul_left _ (by decide)
     omega
    rw [hcN]
    simp -implicitDefEqProofs only [go_sem,Nat.reduceAdd,Nat.reduceMul,Nat.reduceEqDiff,Nat.reduceLT,Nat.reduceLeDiff,reduceIte,reduceCtorEq,dw,hA',h0,hiN,hN,Int.toNat_natCast,hgo,List.length_map,hml,Qc7,hset,hll,htk]
    refine Qag _ _ _ _ _ _ _ _ _ (Qdh (lows BW (a+b) (i+1)) (by rw [Qai];simp [maxLen];omega)) ?_
    simp -implicitDefEqProofs only [go_sem,Nat.reduceAdd,Nat.reduceEqDiff,Nat.reduceLT,reduceCtorEq,dw,List.length_map]
    rw [Qbo BW_2,Nat.mod_eq_of_lt hbig]
end Go.Proofs.YtciddhkfbgkejaaGreatDoor

namespace Go.Proofs.YtciddhkfbgkejaaGreatDoor
open Go.Vl Go.RowKit Go.Dg
def nP (neg:Bool) (m:Nat):PV:= .agg [.bool neg,dw (digs BW m)]
def sv (neg:Bool) (m:Nat):Int:=if neg then -(m:Int)else m
theorem Zqz (neg:Bool) (m:Nat):Qad Tryz.prog 167 [nP neg m] (nP (!neg) m):=by
 refine Qac (tb:=[]) 9 [.cell 2 160] [0,1,2] mixed Tryz.func167 rfl (by kernel_rfl) (by kernel_rfl) (by kernel_rfl) (by kernel_rfl) ?_
 simp -implicitDefEqProofs only [go_sem,Nat.reduceAdd,Nat.reduceMul,Nat.reduceEqDiff,Nat.reduceLT,Nat.reduceLeDiff,reduceCtorEq,nP,dw]
theorem Q7p (neg:Bool) (m:Nat):Qad Tryz.prog 168 [nP neg m] (.int .i64 (sv neg m).sign):=by
 refine Qac (tb:=[]) 11 [.tmp 2] [0,1,2,3,8] mixed Tryz.func168 rfl (by kernel_rfl) (by kernel_rfl) (by kernel_rfl) (by kernel_rfl) ?_
 by_cases h0:m=0
 ·subst h0
  have h1:(((0:Nat):Int)==0)=true:=rfl
  have e:(sv neg 0).sign=0:=by cases neg<;>rfl
  rw [e]
  simp -implicitDefEqProofs only [go_sem,Nat.reduceAdd,Nat.reduceMul,Nat.reduceEqDiff,Nat.reduceLT,Nat.reduceLeDiff,reduceCtorEq,Int.reduceNeg,nP,dw,Qay,List.map_nil,List.length_nil,h1]
 ·have h1:(((digs BW m).length:Int)==0)=false:=by
   have:=List.length_pos_iff.2 (mt (Qbj BW_2).1 h0)
   simp only [beq_eq_false_iff_ne,ne_eq];omega
  cases neg with
  |true=>
   have e:(sv true m).sign= -1:=Int.sign_eq_neg_one_of_neg (by simp [sv];omega)
   rw [e]
   simp -implicitDefEqProofs only [go_sem,Nat.reduceAdd,Nat.reduceMul,Nat.reduceEqDiff,Nat.reduceLT,Nat.reduceLeDiff,reduceCtorEq,Int.reduceNeg,nP,dw,List.length_map,h1]
  |false=>
   have e:(sv false m).sign=1:=Int.sign_eq_one_of_pos (by simp [sv];omega)
   rw [e]
   simp -implicitDefEqProofs only [go_sem,Nat.reduceAdd,Nat.reduceMul,Nat.reduceEqDiff,Nat.reduceLT,Nat.reduceLeDiff,reduceCtorEq,Int.reduceNeg,nP,dw,List.length_map,h1]
theorem Q7q (xn yn:Bool) (x y:Nat) (hx:(digs BW x).length≤1000000000) (hy:(digs BW y).length≤1000000000):
  ∃(n:Bool) (m:Nat),Qad Tryz.prog 159 [nP xn x,nP yn y] (nP n m)∧sv n m=sv xn x+sv yn y∧m≤x+y:=by
 cases hs:(xn==yn)with
 |true=>
  obtain rfl:xn=yn:=by simpa using hs
  refine⟨xn,x+y,?_,by cases xn<;>simp [sv]<;>omega,Nat.le_refl _⟩
  refine Qac (tb:=[]) 42 [.cell 4 160] [0,1,2,3,4,5,19] mixed Tryz.func159 rfl (by kernel_rfl) (by kernel_rfl) (by kernel_rfl) (by kernel_rfl) ?_
  simp -implicitDefEqProofs only [go_sem,Nat.reduceAdd,Nat.reduceMul,Nat.reduceEqDiff,Nat.reduceLT,Nat.reduceLeDiff,reduceCtorEq,nP,dw,hs]
  refine Qag _ _ _ _ _ _ _ _ _ (Zh7 x y hx hy) ?_
  simp -implicitDefEqProofs only [go_sem,Nat.reduceAdd,Nat.reduceEqDiff,Nat.reduceLT,Nat.reduceLeDiff,reduceCtorEq,nP,dw]
  exact Qaa _ _ (by kernel_rfl)
 |false=>
  have hne:yn= !xn:=by cases xn<;>cases yn<;>simp at hs ⊢
  by_cases hc:y≤x
  ·refine⟨xn,x-y,?_,by subst hne;cases xn<;>simp [sv]<;>omega,by omega⟩
   have h1:(0≤cmpW x y)=True:=by simp only [eq_iff_iff,iff_true];have:=Qec x y;omega
   refine Qac (tb:=[]) 42 [.cell 4 160] [0,1,2,3,4,5,19] mixed Tryz.func159 rfl (by kernel_rfl) (by kernel_rfl) (by kernel_rfl) (by kernel_rfl) ?_
   simp -implicitDefEqProofs only [go_sem,Nat.reduceAdd,Nat.reduceMul,Nat.reduceEqDiff,Nat.reduceLT,Nat.reduceLeDiff,reduceCtorEq,nP,dw,hs]
   refine Qag _ _ _ _ _ _ _ _ _ (Qdo x y hx hy) ?_
   simp -implicitDefEqProofs only [go_sem,Nat.reduceAdd,Nat.reduceMul,Nat.reduceEqDiff,Nat.reduceLT,Nat.reduceLeDiff,reduceCtorEq,h1]
   refine Qag _ _ _ _ _ _ _ _ _ (Qsg x y hc hx) ?_
   simp -implicitDefEqProofs only [go_sem,Nat.reduceAdd,Nat.reduceEqDiff,Nat.reduceLT,Nat.reduceLeDiff,reduceCtorEq,nP,dw]
   exact Qaa _ _ (by kernel_rfl)
  ·refine⟨yn,y-x,?_,by subst hne;cases xn<;>simp [sv]<;>omega,by omega⟩
   have h1:(0≤cmpW x y)=False:=by simp only [eq_iff_iff,iff_false];have:=Qec x y;omega
   refine Qac (tb:=[]) 42 [.cell 4 160] [0,1,2,3,4,5,19] mixed Tryz.func159 rfl (by kernel_rfl) (by kernel_rfl) (by kernel_rfl) (by kernel_rfl) ?_
   simp -implicitDefEqProofs only [go_sem,Nat.reduceAdd,Nat.reduceMul,Nat.reduceEqDiff,Nat.reduceLT,Nat.reduceLeDiff,reduceCtorEq,nP,dw,hs]
   refine Qag _ _ _ _ _ _ _ _ _ (Qdo x y hx hy) ?_
   simp -implicitDefEqProofs only [go_sem,Nat.reduceAdd,Nat.reduceMul,Nat.reduceEqDiff,Nat.reduceLT,Nat.reduceLeDiff,reduceCtorEq,h1]
   refine Qag _ _ _ _ _ _ _ _ _ (Qsg y x (by omega) hy) ?_
   simp -implicitDefEqProofs only [go_sem,Nat.reduceAdd,Nat.reduceEqDiff,Nat.reduceLT,Nat.reduceLeDiff,reduceCtorEq,nP,dw]
   exact Qaa _ _ (by kernel_rfl)
def Qbl (neg:Bool) (l:List UInt8):Bool:=match l with
 | []=> !neg
 |b::_=>decide (l.length≤8192)&&b != 0
theorem Znt {s:ByteArray} {b:UInt8} {r:List UInt8} (h:s.data.toList=b::r):s[0]? =some b:=by
 rw [Qra s 0 (by rw [h];simp)]
 simp only [h,List.getElem_cons_zero]
theorem Quw (b:UInt8):((b.toNat:Int) != 0)=(b != 0):=by
 by_cases h:b=0
 ·subst h;rfl
 ·have:b.toNat≠0:=fun e=>h (UInt8.toNat_inj.1 (by simpa using e))
  have h1:((b.toNat:Int) != 0)=true:=by simp;omega
  have h2:(b != 0)=true:=by simp [h]
  rw [h1,h2]
end Go.Proofs.YtciddhkfbgkejaaGreatDoor

namespace Go.Proofs.YtciddhkfbgkejaaGreatDoor
open Go.Vl Go.RowKit Go.Dg
theorem Qlm (neg:Bool) (s:ByteArray):Qad Tryz.prog 110 [.agg [.bool neg,.str s]] (.bool (Qbl neg s.data.toList)):=by
 have hz:=Qlv s
 cases h:s.data.toList with
 |nil=>
  have h1:(([]:List UInt8)== [])=true:=rfl
  refine Qac (tb:=[]) 19 [.tmp 2] [0,1,2,5] mixed Tryz.func110 rfl (by kernel_rfl) (by kernel_rfl) (by kernel_rfl) (by kernel_rfl) ?_
  simp -implicitDefEqProofs only [go_sem,Nat.reduceAdd,Nat.reduceMul,Nat.reduceEqDiff,Nat.reduceLT,Nat.reduceLeDiff,reduceCtorEq,Qbl,h,h1]
 |cons b r=>
  have h0:=Znt h
  have hne:(b::r== [])=false:=rfl
  rw [h]at hz
  refine Qac (tb:=[]) 19 [.tmp 2] [0,1,2,5] mixed Tryz.func110 rfl (by kernel_rfl) (by kernel_rfl) (by kernel_rfl) (by kernel_rfl) ?_
  by_cases hb:(b != 0)=true
  ·by_cases h2:(b::r).length≤8192
   ·have h2':((s.size:Int)≤8192)=True:=by rw [hz];simp only [eq_iff_iff,iff_true];omega
    have e:Qbl neg (b::r)=true:=by simp only [Qbl,h2,decide_true,Bool.true_and,hb]
    rw [e]
    simp -implicitDefEqProofs only [go_sem,Nat.reduceAdd,Nat.reduceMul,Nat.reduceEqDiff,Nat.reduceLT,Nat.reduceLeDiff,reduceCtorEq,h,hne,h2',h0,Quw,hb]
   ·have h2':((s.size:Int)≤8192)=False:=by rw [hz];simp only [eq_iff_iff,iff_false];omega
    have e:Qbl neg (b::r)=false:=by simp only [Qbl,h2,decide_false,Bool.false_and]
    rw [e]
    simp -implicitDefEqProofs only [go_sem,Nat.reduceAdd,Nat.reduceMul,Nat.reduceEqDiff,Nat.reduceLT,Nat.reduceLeDiff,reduceCtorEq,h,hne,h2',h0,Quw,hb]
  ·have hb':(b != 0)=false:=by simpa using hb
   have e:Qbl neg (b::r)=false:=by simp only [Qbl,hb',Bool.and_false]
   rw [e]
   simp -implicitDefEqProofs only [go_sem,Nat.reduceAdd,Nat.reduceMul,Nat.reduceEqDiff,Nat.reduceLT,Nat.reduceLeDiff,reduceCtorEq,h,hne,h0,Quw,hb']
theorem Qmt (an bn:Bool) (a b:ByteArray):Qad Tryz.prog 157 [.agg [.bool an,.str a],.agg [.bool bn,.str b]] (.bool (Qbl an a.data.toList&&Qbl bn b.data.toList)):=by
 refine Qac (tb:=[]) 11 [.tmp 4] [0,1,2,3,4] mixed Tryz.func157 rfl (by kernel_rfl) (by kernel_rfl) (by kernel_rfl) (by kernel_rfl) ?_
 simp -implicitDefEqProofs only [go_sem,Nat.reduceAdd,Nat.reduceMul,Nat.reduceEqDiff,Nat.reduceLT,Nat.reduceLeDiff,reduceCtorEq]
 refine Qag _ _ _ _ _ _ _ _ _ (Qlm an a) ?_
 cases h:Qbl an a.data.toList with
 |true=>
  simp -implicitDefEqProofs only [go_sem,Nat.reduceAdd,Nat.reduceEqDiff,Nat.reduceLT,reduceCtorEq,Bool.true_and]
  refine Qag _ _ _ _ _ _ _ _ _ (Qlm bn b) ?_
  simp -implicitDefEqProofs only [go_sem,Nat.reduceAdd,Nat.reduceEqDiff,Nat.reduceLT,reduceCtorEq]
 |false=>
  simp -implicitDefEqProofs only [go_sem,Nat.reduceAdd,Nat.reduceEqDiff,Nat.reduceLT,reduceCtorEq,Bool.false_and]
end Go.Proofs.YtciddhkfbgkejaaGreatDoor

namespace Go.Proofs.YtciddhkfbgkejaaGreatDoor
open Go.Vl Go.RowKit Go.Dg
def Qqk (T:List UInt8):Bool:=(List.range 256).all fun x=>match T[x]? with
 |some t=>decide (x<2^t.toNat)&&(decide (x=0∧t.toNat=0)||decide (2^(t.toNat-1)≤x∧0<t.toNat))
 |none=>false
theorem Qd1 {s:ByteArray} (h:Qqk s.data.toList=true) {x:Nat} (hx:x<256): ∃t:UInt8,s[x]? =some t∧t.toNat=blen x:=by
 have h1:=List.all_eq_true.1 h x (by simpa using hx)
 cases ht:s.data.toList[x]? with
 |none=>rw [ht]at h1;cases h1
 |some t=>
  rw [ht]at h1
  simp only [Bool.and_eq_true,Bool.or_eq_true,decide_eq_true_eq]at h1
  have hl:=(List.getElem?_eq_some_iff.1 ht)
  refine⟨t,by rw [Qra s x hl.1];rw [←List.getElem?_eq_getElem hl.1,ht],?_⟩
  obtain⟨h1,h2⟩:=h1
  have:=Qde _ _ h1
  rcases h2 with⟨rfl,h2⟩|⟨h2,h3⟩
  ·rw [h2,Qgm]
  ·have:=Qlw _ _ h2
   omega
theorem Qi2 (n k:Nat):(n:Int).fdiv (2^k)=((n/2^k:Nat):Int):=by
 rw [Int.fdiv_eq_ediv_of_nonneg _ (Int.pow_nonneg (by decide))]
 simp
theorem Qkk (n:Nat):(n:Int).fdiv (2^min 16 64)=((n/65536:Nat):Int):=by
 rw [Int.fdiv_eq_ediv_of_nonneg _ (by decide)];rfl
theorem Qsh (n:Nat):(n:Int).fdiv (2^min 8 64)=((n/256:Nat):Int):=by
 rw [Int.fdiv_eq_ediv_of_nonneg _ (by decide)];rfl
theorem Znu (x:Nat) (hx:x<18446744073709551616):Qad Tryz.prog 188 [.int .u64 (x:Int)] (.int .i64 (blen x:Int)):=by
 have wc8:IntKind.i64.wrap 8=8:=rfl
 have wc16:IntKind.i64.wrap 16=16:=rfl
 have wc24:IntKind.i64.wrap 24=24:=rfl
 have wc32:IntKind.i64.wrap 32=32:=rfl
 have wc40:IntKind.i64.wrap 40=40:=rfl
 have wc48:IntKind.i64.wrap 48=48:=rfl
 have wc56:IntKind.i64.wrap 56=56:=rfl
 by_cases q32:4294967296≤x
 ·have h32:(4294967296≤((x:Nat):Int))=True:=by simp only [eq_iff_iff,iff_true];omega
  by_cases q16:65536≤x/4294967296
  ·have h16:(65536≤((x/4294967296:Nat):Int))=True:=by simp only [eq_iff_iff,iff_true];omega
   by_cases q8:256≤(x/4294967296)/65536
   ·have h8:(256≤(((x/4294967296)/65536:Nat):Int))=True:=by simp only [eq_iff_iff,iff_true];omega
    have hx8:((x/4294967296)/65536)/256<256:=by omega
    have hw:=Qfx hx8
    have h0:(0≤((((x/4294967296)/65536)/256:Nat):Int))=True:=by simp only [eq_iff_iff,iff_true];exact Int.natCast_nonneg _
    have hb:blen x=blen (((x/4294967296)/65536)/256)+56:=by have:=Qd9 56 x (by simp only [Nat.reducePow];omega);simp only [Nat.reducePow]at this;rw [this,show((x/4294967296)/65536)/256=x/72057594037927936 by omega]
    refine Qac (tb:=[]) 25 [.tmp 2] [0,2,4,8,14] mixed Tryz.func188 rfl (by kernel_rfl) (by kernel_rfl) (by kernel_rfl) (by kernel_rfl) ?_
    simp -implicitDefEqProofs only [go_sem,Nat.reduceAdd,Nat.reduceMul,Nat.reduceEqDiff,Nat.reduceLT,Nat.reduceLeDiff,reduceCtorEq,Int.reduceLT,Int.reduceToNat,Int.reduceAdd,h32,h16,h8,Qii,Qkk,Qsh,hw,h0,Int.toNat_natCast,wc8,wc16,wc24,wc32,wc40,wc48,wc56]
    generalize hT:ByteArray.mk _=T
    have hok:Qqk T.data.toList=true:=by rw [←hT];kernel_rfl
    obtain⟨t,ht,htb⟩:=Qd1 hok hx8
    clear hT
    have hw2:IntKind.i64.wrap (t.toNat:Int)=(t.toNat:Int):=wrapn (by have:=t.toNat_lt;omega)
    have hw3:IntKind.i64.wrap (56+(t.toNat:Int))=((blen x:Nat):Int):=by rw [Qah (by have:=t.toNat_lt;omega) (by have:=t.toNat_lt;omega),hb,←htb];omega
    rw [htb]at hw2 hw3
    simp -implicitDefEqProofs only [go_sem,Nat.reduceAdd,Nat.reduceEqDiff,Nat.reduceLT,reduceCtorEq,ht,hw2,hw3,htb,wc8,wc16,wc24,wc32,wc40,wc48,wc56]
   ·have h8:(256≤(((x/4294967296)/65536:Nat):Int))=False:=by simp only [eq_iff_iff,iff_false];omega
    have hx8:(x/4294967296)/65536<256:=by omega
    have hw:=Qfx hx8
    have h0:(0≤(((x/4294967296)/65536:Nat):Int))=True:=by simp only [eq_iff_iff,iff_true];exact Int.natCast_nonneg _
    have hb:blen x=blen ((x/4294967296)/65536)+48:=by have:=Qd9 48 x (by simp only [Nat.reducePow];omega);simp only [Nat.reducePow]at this;rw [this,show(x/4294967296)/65536=x/281474976710656 by omega]
    refine Qac (tb:=[]) 25 [.tmp 2] [0,2,4,8,14] mixed Tryz.func188 rfl (by kernel_rfl) (by kernel_rfl) (by kernel_rfl) (by kernel_rfl) ?_
    simp -implicitDefEqProofs only [go_sem,Nat.reduceAdd,Nat.reduceMul,Nat.reduceEqDiff,Nat.reduceLT,Nat.reduceLeDiff,reduceCtorEq,Int.reduceLT,Int.reduceToNat,Int.reduceAdd,h32,h16,h8,Qii,Qkk,Qsh,hw,h0,Int.toNat_natCast,wc8,wc16,wc24,wc32,wc40,wc48,wc56]
    generalize hT:ByteArray.mk _=T
    have hok:Qqk T.data.toList=true:=by rw [←hT];kernel_rfl
    obtain⟨t,ht,htb⟩:=Qd1 hok hx8
    clear hT
    have hw2:IntKind.i64.wrap (t.toNat:Int)=(t.toNat:Int):=wrapn (by have:=t.toNat_lt;omega)
    have hw3:IntKind.i64.wrap (48+(t.toNat:Int))=((blen x:Nat):Int):=by rw [Qah (by have:=t.toNat_lt;omega) (by have:=t.toNat_lt;omega),hb,←htb];omega
    rw [htb]at hw2 hw3
    simp -implicitDefEqProofs only [go_sem,Nat.reduceAdd,Nat.reduceEqDiff,Nat.reduceLT,reduceCtorEq,ht,hw2,hw3,htb,wc8,wc16,wc24,wc32,wc40,wc48,wc56]
  ·have h16:(65536≤((x/4294967296:Nat):Int))=False:=by simp only [eq_iff_iff,iff_false];omega
   by_cases q8:256≤x/4294967296
   ·have h8:(256≤((x/4294967296:Nat):Int))=True:=by simp only [eq_iff_iff,iff_true];omega
    have hx8:(x/4294967296)/256<256:=by omega
    have hw:=Qfx hx8
    have h0:(0≤(((x/4294967296)/256:Nat):Int))=True:=by simp only [eq_iff_iff,iff_true];exact Int.natCast_nonneg _
    have hb:blen x=blen ((x/4294967296)/256)+40:=by have:=Qd9 40 x (by simp only [Nat.reducePow];omega);simp only [Nat.reducePow]at this;rw [this,show(x/4294967296)/256=x/1099511627776 by omega]
    refine Qac (tb:=[]) 25 [.tmp 2] [0,2,4,8,14] mixed Tryz.func188 rfl (by kernel_rfl) (by kernel_rfl) (by kernel_rfl) (by kernel_rfl) ?_
    simp -implicitDefEqProofs only [go_sem,Nat.reduceAdd,Nat.reduceMul,Nat.reduceEqDiff,Nat.reduceLT,Nat.reduceLeDiff,reduceCtorEq,Int.reduceLT,Int.reduceToNat,Int.reduceAdd,h32,h16,h8,Qii,Qkk,Qsh,hw,h0,Int.toNat_natCast,wc8,wc16,wc24,wc32,wc40,wc48,wc56]
    generalize hT:ByteArray.mk _=T
    have hok:Qqk T.data.toList=true:=by rw [←hT];kernel_rfl
    obtain⟨t,ht,htb⟩:=Qd1 hok hx8
    clear hT
    have hw2:IntKind.i64.wrap (t.toNat:Int)=(t.toNat:Int):=wrapn (by have:=t.toNat_lt;omega)
    have hw3:IntKind.i64.wrap (40+(t.toNat:Int))=((blen x:Nat):Int):=by rw [Qah (by have:=t.toNat_lt;omega) (by have:=t.toNat_lt;omega),hb,←htb];omega
    rw [htb]at hw2 hw3
    simp -implicitDefEqProofs only [go_sem,Nat.reduceAdd,Nat.reduceEqDiff,Nat.reduceLT,reduceCtorEq,ht,hw2,hw3,htb,wc8,wc16,wc24,wc32,wc40,wc48,wc56]
   ·have h8:(256≤((x/4294967296:Nat):Int))=False:=by simp only [eq_iff_iff,iff_false];omega
    have hx8:x/4294967296<256:=by omega
    have hw:=Qfx hx8
    have h0:(0≤((x/4294967296:Nat):Int))=True:=by simp only [eq_iff_iff,iff_true];exact Int.natCast_nonneg _
    have hb:blen x=blen (x/4294967296)+32:=by have:=Qd9 32 x (by simp only [Nat.reducePow];omega);simp only [Nat.reducePow]at this;rw [this,show x/4294967296=x/4294967296 by omega]
    refine Qac (tb:=[]) 25 [.tmp 2] [0,2,4,8,14] mixed Tryz.func188 rfl (by kernel_rfl) (by kernel_rfl) (by kernel_rfl) (by kernel_rfl) ?_
    simp -implicitDefEqProofs only [go_sem,Nat.reduceAdd,Nat.reduceMul,Nat.reduceEqDiff,Nat.reduceLT,Nat.reduceLeDiff,reduceCtorEq,Int.reduceLT,Int.reduceToNat,h32,h16,h8,Qii,Qkk,Qsh,hw,h0,Int.toNat_natCast,wc8,wc16,wc24,wc32,wc40,wc48,wc56]
    generalize hT:ByteArray.mk _=T
    have hok:Qqk T.data.toList=true:=by rw [←hT];kernel_rfl
    obtain⟨t,ht,htb⟩:=Qd1 hok hx8
    clear hT
    have hw2:IntKind.i64.wrap (t.toNat:Int)=(t.toNat:Int):=wrapn (by have:=t.toNat_lt;omega)
    have hw3:IntKind.i64.wrap (32+(t.toNat:Int))=((blen x:Nat):Int):=by rw [Qah (by have:=t.toNat_lt;omega) (by have:=t.toNat_lt;omega),hb,←htb];omega
    rw [htb]at hw2 hw3
    simp -implicitDefEqProofs only [go_sem,Nat.reduceAdd,Nat.reduceEqDiff,Nat.reduceLT,reduceCtorEq,ht,hw2,hw3,htb,wc8,wc16,wc24,wc32,wc40,wc48,wc56]
 ·have h32:(4294967296≤((x:Nat):Int))=False:=by simp only [eq_iff_iff,iff_false];omega
  by_cases q16:65536≤x
  ·have h16:(65536≤((x:Nat):Int))=True:=by simp only [eq_iff_iff,iff_true];omega
   by_cases q8:256≤x/65536
   ·have h8:(256≤((x/65536:Nat):Int))=True:=by simp only [eq_iff_iff,iff_true];omega
    have hx8:(x/65536)/256<256:=by omega
    have hw:=Qfx hx8
    have h0:(0≤(((x/65536)/256:Nat):Int))=True:=by simp only [eq_iff_iff,iff_true];exact Int.natCast_nonneg _
    have hb:blen x=blen ((x/65536)/256)+24:=by have:=Qd9 24 x (by simp only [Nat.reducePow];omega);simp only [Nat.reducePow]at this;rw [this,show(x/65536)/256=x/16777216 by omega]
    refine Qac (tb:=[]) 25 [.tmp 2] [0,2,4,8,14] mixed Tryz.func188 rfl (by kernel_rfl) (by kernel_rfl) (by kernel_rfl) (by kernel_rfl) ?_
    simp -implicitDefEqProofs only [go_sem,Nat.reduceAdd,Nat.reduceMul,Nat.reduceEqDiff,Nat.reduceLT,Nat.reduceLeDiff,reduceCtorEq,Int.reduceLT,Int.reduceToNat,Int.reduceAdd,h32,h16,h8,Qii,Qkk,Qsh,hw,h0,Int.toNat_natCast,wc8,wc16,wc24,wc32,wc40,wc48,wc56]
    generalize hT:ByteArray.mk _=T
    have hok:Qqk T.data.toList=true:=by rw [←hT];kernel_rfl
    obtain⟨t,ht,htb⟩:=Qd1 hok hx8
    clear hT
    have hw2:IntKind.i64.wrap (t.toNat:Int)=(t.toNat:Int):=wrapn (by have:=t.toNat_lt;omega)
    have hw3:IntKind.i64.wrap (24+(t.toNat:Int))=((blen x:Nat):Int):=by rw [Qah (by have:=t.toNat_lt;omega) (by have:=t.toNat_lt;omega),hb,←htb];omega
    rw [htb]at hw2 hw3
    simp -implicitDefEqProofs only [go_sem,Nat.reduceAdd,Nat.reduceEqDiff,Nat.reduceLT,reduceCtorEq,ht,hw2,hw3,htb,wc8,wc16,wc24,wc32,wc40,wc48,wc56]
   ·have h8:(256≤((x/65536:Nat):Int))=False:=by simp only [eq_iff_iff,iff_false];omega
    have hx8:x/65536<256:=by omega
    have hw:=Qfx hx8
    have h0:(0≤((x/65536:Nat):Int))=True:=by simp only [eq_iff_iff,iff_true];exact Int.natCast_nonneg _
    have hb:blen x=blen (x/65536)+16:=by have:=Qd9 16 x (by simp only [Nat.reducePow];omega);simp only [Nat.reducePow]at this;rw [this,show x/65536=x/65536 by omega]
    refine Qac (tb:=[]) 25 [.tmp 2] [0,2,4,8,14] mixed Tryz.func188 rfl (by kernel_rfl) (by kernel_rfl) (by kernel_rfl) (by kernel_rfl) ?_
    simp -implicitDefEqProofs only [go_sem,Nat.reduceAdd,Nat.reduceMul,Nat.reduceEqDiff,Nat.reduceLT,Nat.reduceLeDiff,reduceCtorEq,Int.reduceLT,Int.reduceToNat,Int.reduceAdd,h32,h16,h8,Qii,Qkk,Qsh,hw,h0,Int.toNat_natCast,wc8,wc16,wc24,wc32,wc40,wc48,wc56]
    generalize hT:ByteArray.mk _=T
    have hok:Qqk T.data.toList=true:=by rw [←hT];kernel_rfl
    obtain⟨t,ht,htb⟩:=Qd1 hok hx8
    clear hT
    have hw2:IntKind.i64.wrap (t.toNat:Int)=(t.toNat:Int):=wrapn (by have:=t.toNat_lt;omega)
    have hw3:IntKind.i64.wrap (16+(t.toNat:Int))=((blen x:Nat):Int):=by rw [Qah (by have:=t.toNat_lt;omega) (by have:=t.toNat_lt;omega),hb,←htb];omega
    rw [htb]at hw2 hw3
    simp -implicitDefEqProofs only [go_sem,Nat.reduceAdd,Nat.reduceEqDiff,Nat.reduceLT,reduceCtorEq,ht,hw2,hw3,htb,wc8,wc16,wc24,wc32,wc40,wc48,wc56]
  ·have h16:(65536≤((x:Nat):Int))=False:=by simp only [eq_iff_iff,iff_false];omega
   by_cases q8:256≤x
   ·have h8:(256≤((x:Nat):Int))=True:=by simp only [eq_iff_iff,iff_true];omega
    have hx8:x/256<256:=by omega
    have hw:=Qfx hx8
    have h0:(0≤((x/256:Nat):Int))=True:=by simp only [eq_iff_iff,iff_true];exact Int.natCast_nonneg _
    have hb:blen x=blen (x/256)+8:=by have:=Qd9 8 x (by simp only [Nat.reducePow];omega);simp only [Nat.reducePow]at this;rw [this,show x/256=x/256 by omega]
    refine Qac (tb:=[]) 25 [.tmp 2] [0,2,4,8,14] mixed Tryz.func188 rfl (by kernel_rfl) (by kernel_rfl) (by kernel_rfl) (by kernel_rfl) ?_
    simp -implicitDefEqProofs only [go_sem,Nat.reduceAdd,Nat.reduceMul,Nat.reduceEqDiff,Nat.reduceLT,Nat.reduceLeDiff,reduceCtorEq,Int.reduceLT,Int.reduceToNat,Int.reduceAdd,h32,h16,h8,Qii,Qkk,Qsh,hw,h0,Int.toNat_natCast,wc8,wc16,wc24,wc32,wc40,wc48,wc56]
    generalize hT:ByteArray.mk _=T
    have hok:Qqk T.data.toList=true:=by rw [←hT];kernel_rfl
    obtain⟨t,ht,htb⟩:=Qd1 hok hx8
    clear hT
    have hw2:IntKind.i64.wrap (t.toNat:Int)=(t.toNat:Int):=wrapn (by have:=t.toNat_lt;omega)
    have hw3:IntKind.i64.wrap (8+(t.toNat:Int))=((blen x:Nat):Int):=by rw [Qah (by have:=t.toNat_lt;omega) (by have:=t.toNat_lt;omega),hb,←htb];omega
    rw [htb]at hw2 hw3
    simp -implicitDefEqProofs only [go_sem,Nat.reduceAdd,Nat.reduceEqDiff,Nat.reduceLT,reduceCtorEq,ht,hw2,hw3,htb,wc8,wc16,wc24,wc32,wc40,wc48,wc56]
   ·have h8:(256≤((x:Nat):Int))=False:=by simp only [eq_iff_iff,iff_false];omega
    have hx8:x<256:=by omega
    have hw:=Qfx hx8
    have h0:(0≤((x:Nat):Int))=True:=by simp only [eq_iff_iff,iff_true];exact Int.natCast_nonneg _
    have hb:blen x=blen (x)+0:=by rfl
    refine Qac (tb:=[]) 25 [.tmp 2] [0,2,4,8,14] mixed Tryz.func188 rfl (by kernel_rfl) (by kernel_rfl) (by kernel_rfl) (by kernel_rfl) ?_
    simp -implicitDefEqProofs only [go_sem,Nat.reduceAdd,Nat.reduceMul,Nat.reduceEqDiff,Nat.reduceLT,Nat.reduceLeDiff,reduceCtorEq,h32,h16,h8,Qii,Qkk,Qsh,hw,h0,Int.toNat_natCast,wc8,wc16,wc24,wc32,wc40,wc48,wc56]
    generalize hT:ByteArray.mk _=T
    have hok:Qqk T.data.toList=true:=by rw [←hT];kernel_rfl
    obtain⟨t,ht,htb⟩:=Qd1 hok hx8
    clear hT
    have hw2:IntKind.i64.wrap (t.toNat:Int)=(t.toNat:Int):=wrapn (by have:=t.toNat_lt;omega)
    have hw3:IntKind.i64.wrap (0+(t.toNat:Int))=((blen x:Nat):Int):=by rw [Qah (by have:=t.toNat_lt;omega) (by have:=t.toNat_lt;omega),hb,←htb];omega
    rw [htb]at hw2 hw3
    simp -implicitDefEqProofs only [go_sem,Nat.reduceAdd,Nat.reduceEqDiff,Nat.reduceLT,reduceCtorEq,ht,hw2,hw3,htb,wc8,wc16,wc24,wc32,wc40,wc48,wc56]
end Go.Proofs.YtciddhkfbgkejaaGreatDoor

namespace Go.Proofs.YtciddhkfbgkejaaGreatDoor
open Go.Vl Go.RowKit Go.Dg
theorem Q7r (x:Nat) (hx:x<18446744073709551616):Qad Tryz.prog 204 [.int .u64 (x:Int)] (.int .i64 ((64-blen x:Nat):Int)):=by
 have hb:=Qde 64 x hx
 have hw:IntKind.i64.wrap (64-((blen x:Nat):Int))=((64-blen x:Nat):Int):=by rw [Qah (by omega) (by omega)];omega
 refine Qac (tb:=[]) 6 [.tmp 2] [0,2] mixed Tryz.func204 rfl (by kernel_rfl) (by kernel_rfl) (by kernel_rfl) (by kernel_rfl) ?_
 simp -implicitDefEqProofs only [go_sem,Nat.reduceAdd,Nat.reduceMul,Nat.reduceEqDiff,Nat.reduceLT,Nat.reduceLeDiff,reduceCtorEq]
 refine Qag _ _ _ _ _ _ _ _ _ (Znu x hx) ?_
 simp -implicitDefEqProofs only [go_sem,Nat.reduceAdd,Nat.reduceEqDiff,Nat.reduceLT,reduceCtorEq,hw]
theorem Q7s (m:Nat) (hl:(digs BW m).length≤1000000000):Qad Tryz.prog 176 [dw (digs BW m)] (.int .i64 (blen m:Int)):=by
 refine Qac (tb:=[]) 17 [.tmp 2] [0,2,5] mixed Tryz.func176 rfl (by kernel_rfl) (by kernel_rfl) (by kernel_rfl) (by kernel_rfl) ?_
 by_cases h0:m=0
 ·subst h0
  have h1:(((0:Nat):Int)==0)=true:=rfl
  simp -implicitDefEqProofs only [go_sem,Nat.reduceAdd,Nat.reduceMul,Nat.reduceEqDiff,Nat.reduceLT,Nat.reduceLeDiff,reduceCtorEq,dw,Qay,List.map_nil,List.length_nil,h1,Qgm]
  rfl
 ·have hp:0<(digs BW m).length:=List.length_pos_iff.2 (mt (Qbj BW_2).1 h0)
  have h1:(((digs BW m).length:Int)==0)=false:=by simp only [beq_eq_false_iff_ne,ne_eq];omega
  have ht:=Qdz BW_2 h0
  have hg:=Qao (n:=m) (k:=(digs BW m).length-1) BW_2 (by omega)
  rw [Nat.mod_eq_of_lt ht.2]at hg
  have hb:blen m=blen (m/BW^((digs BW m).length-1))+64*((digs BW m).length-1):=Qvs h0 64 (by decide)
  generalize m/BW^((digs BW m).length-1)=t at*
  have htl:=Qde 64 t ht.2
  generalize hL:(digs BW m).length=L at*
  have hw1:IntKind.i64.wrap ((L:Int)*64)=((L*64:Nat):Int):=by rw [Qah (by omega) (by omega)];omega
  have hw2:IntKind.i64.wrap ((L:Int)-1)=((L-1:Nat):Int):=by rw [Qah (by omega) (by omega)];omega
  have hw3:IntKind.i64.wrap (((L*64:Nat):Int)-((64-blen t:Nat):Int))=((blen m:Nat):Int):=by rw [Qah (by omega) (by omega),hb];omega
  have h2:(0≤((L-1:Nat):Int))=True:=by simp only [eq_iff_iff,iff_true];exact Int.natCast_nonneg _
  simp -implicitDefEqProofs only [go_sem,Nat.reduceAdd,Nat.reduceMul,Nat.reduceEqDiff,Nat.reduceLT,Nat.reduceLeDiff,reduceCtorEq,dw,List.length_map,hL,h1,hw1,hw2,h2,Qcd,hg,Int.toNat_natCast]
  refine Qag _ _ _ _ _ _ _ _ _ (Q7r t ht.2) ?_
  simp -implicitDefEqProofs only [go_sem,Nat.reduceAdd,Nat.reduceEqDiff,Nat.reduceLT,reduceCtorEq,hw3]
end Go.Proofs.YtciddhkfbgkejaaGreatDoor

namespace Go.Dg
abbrev WB:Nat:=18446744073709551616
theorem Zo3 (m:Nat) (hm:m<8):WB=256^(m+1)*256^(7-m):=by
 rw [←Nat.pow_add,show m+1+(7-m)=8 by omega]
theorem Qpi (T b m j:Nat):256^(8*j+m+1)*T+b*256^(8*j+m)=WB^j*(256^(m+1)*T+b*256^m):=by
 have e:WB^j=256^(8*j):=by rw [Nat.pow_mul]
 rw [e,Nat.mul_add,←Nat.mul_assoc,←Nat.pow_add,Nat.mul_left_comm (256^(8*j)) b,←Nat.pow_add,Nat.add_assoc]
theorem Qn9 (T b m j:Nat) (hb:b<256) (hm:m<8):
  (256^(8*j+m+1)*T+b*256^(8*j+m))/WB^j%WB=256^(m+1)*(T%256^(7-m))+b*256^m:=by
 have hp:0<256^m:=Nat.pow_pos (by decide)
 have hlt:b*256^m<256^(m+1):=by rw [Nat.pow_succ,Nat.mul_comm];exact Nat.mul_lt_mul_of_pos_left hb hp
 rw [Qpi,Nat.mul_div_cancel_left _ (Nat.pow_pos (by decide)),Zo3 m hm]
 generalize b*256^m=r at*
 generalize 256^(m+1)=A at*
 generalize 256^(7-m)=q at*
 have hA:0<A:=by omega
 rw [Nat.mod_mul,Nat.mul_add_mod,Nat.mod_eq_of_lt hlt,Nat.mul_add_div hA,Nat.div_eq_of_lt hlt,Nat.add_zero,Nat.add_comm]
theorem Qto (T b m j i:Nat) (hb:b<256) (hm:m<8) (hi:i≠j):
  (256^(8*j+m+1)*T+b*256^(8*j+m))/WB^i%WB=(256^(8*j+m+1)*T)/WB^i%WB:=by
 have hp:0<256^m:=Nat.pow_pos (by decide)
 have hlt:b*256^m<256^(m+1):=by rw [Nat.pow_succ,Nat.mul_comm];exact Nat.mul_lt_mul_of_pos_left hb hp
 have e2:=Qpi T 0 m j
 rw [Nat.zero_mul,Nat.add_zero,Nat.zero_mul,Nat.add_zero]at e2
 rw [Qpi,e2]
 rcases Nat.lt_or_gt_of_ne hi with h|h
 ·obtain⟨d,rfl⟩:=Nat.exists_eq_add_of_lt h
  have e: ∀X:Nat,WB^(i+d+1)*X/WB^i%WB=0:=by
   intro X
   rw [show i+d+1=i+(d+1)by omega,Nat.pow_add,Nat.mul_assoc,Nat.mul_div_cancel_left _ (Nat.pow_pos (by decide)),Nat.pow_succ,Nat.mul_comm (WB^d),Nat.mul_assoc,Nat.mul_mod_right]
  rw [e,e]
 ·obtain⟨d,rfl⟩:=Nat.exists_eq_add_of_lt h
  have e: ∀X:Nat,WB^j*X/WB^(j+d+1)=X/WB/WB^d:=by
   intro X
   rw [show j+d+1=j+(1+d)by omega,Nat.pow_add,Nat.mul_div_mul_left _ _ (Nat.pow_pos (by decide)),Nat.pow_add,Nat.pow_one,Nat.div_div_eq_div_mul]
  rw [e,e]
  congr 2
  rw [Zo3 m hm]
  generalize b*256^m=r at*
  generalize 256^(m+1)=A at*
  generalize 256^(7-m)=q at*
  have hA:0<A:=by omega
  rw [←Nat.div_div_eq_div_mul,←Nat.div_div_eq_div_mul,Nat.mul_add_div hA,Nat.div_eq_of_lt hlt,Nat.add_zero,Nat.add_zero,Nat.mul_div_cancel_left _ hA]
end Go.Dg

namespace Go.Proofs.YtciddhkfbgkejaaGreatDoor
open Go.Vl Go.RowKit Go.Dg
theorem Zf9 {P:Program} {t:TypeId} (x y:Nat):Qbz .or t P (.int .u64 (x:Int)) (.int .u64 (y:Int))=some (.int .u64 (((x%18446744073709551616) ||| (y%18446744073709551616):Nat):Int)):=by
 rw [b_or]
 have h:(BitVec.ofInt IntKind.u64.bits (x:Int) ||| BitVec.ofInt IntKind.u64.bits (y:Int)).toNat=(x%18446744073709551616) ||| (y%18446744073709551616):=by
  rw [BitVec.toNat_or]
  have h1: ∀n:Nat,(BitVec.ofInt IntKind.u64.bits (n:Int)).toNat=n%18446744073709551616:=by intro n;show(BitVec.ofInt 64 (n:Int)).toNat=_;simp
  rw [h1,h1]
 rw [h,Qdt,Nat.mod_eq_of_lt (Nat.or_lt_two_pow (n:=64) (Nat.mod_lt _ (by decide)) (Nat.mod_lt _ (by decide)))]
theorem Qmu (x k:Nat):IntKind.u64.wrap ((x:Int)*2^k)=((x*2^k%18446744073709551616:Nat):Int):=by
 rw [←Qdt];congr 1
theorem Zga (n:Nat):Int.tdiv (n:Int) 8=((n/8:Nat):Int):=by
 rw [Int.tdiv_eq_ediv_of_nonneg (by omega)];rfl
theorem Zq0 (n:Nat):Int.tmod (n:Int) 8=((n%8:Nat):Int):=by
 rw [Int.tmod_eq_emod_of_nonneg (by omega)];rfl
theorem Qzu (T b m j:Nat) (hb:b<256) (hm:m<8):
  ((256^(8*j+m+1)*T/WB^j%WB) ||| (b*2^(m*8)%18446744073709551616))=(256^(8*j+m+1)*T+b*256^(8*j+m))/WB^j%WB:=by
 have h0:=Qn9 T 0 m j (by decide) hm
 rw [Nat.zero_mul,Nat.add_zero,Nat.zero_mul,Nat.add_zero]at h0
 rw [Qn9 T b m j hb hm,h0]
 have e8: ∀k,(256:Nat)^k=2^(k*8):=fun k=>by rw [Nat.mul_comm,Nat.pow_mul]
 have hp:0<256^m:=Nat.pow_pos (by decide)
 have hlt:b*256^m<256^(m+1):=by rw [Nat.pow_succ,Nat.mul_comm];exact Nat.mul_lt_mul_of_pos_left hb hp
 have hle:256^(m+1)≤18446744073709551616:=Nat.pow_le_pow_right (n:=256) (by decide) (show m+1≤8 by omega)
 rw [←e8 m,Nat.mod_eq_of_lt (Nat.lt_of_lt_of_le hlt hle)]
 rw [e8 (m+1)]at hlt ⊢
 exact(Nat.two_pow_add_eq_or_of_lt hlt _).symm
attribute [local go_sem high] Zf9
def pre (l:List UInt8) (i:Nat):Nat:=bnum (l.take i)*256^(l.length-i)
theorem Qux (s:ByteArray) (hs:s.size≤1000000):Qad Tryz.prog 156 [.str s] (dw (lows BW (bnum s.data.toList) ((s.data.toList.length+7)/8))):=by
 rw [Qlv]at hs
 have hsz:=Qlv s
 have hget:=Qra s
 generalize s.data.toList=l at*
 have w1:IntKind.i64.wrap ((l.length:Int)+7)=((l.length+7:Nat):Int):=by rw [Qah (by omega) (by omega)];omega
 have w2:=wrapn (n:=(l.length+7)/8) (by omega)
 have hn0:((0:Int)≤(((l.length+7)/8:Nat):Int))=True:=by simp only [eq_iff_iff,iff_true];exact Int.natCast_nonneg _
 have hn1:((8:Nat):Int)*(((l.length+7)/8:Nat):Int)≤281474976710656:=by omega
 have hn2:(((l.length+7)/8:Nat):Int)≤9223372036854775807:=by omega
 refine Qac (tb:=[]) 38 [.tmp 2] [0,2,3,4,5,12,13,14] mixed Tryz.func156 rfl (by kernel_rfl) (by kernel_rfl) (by kernel_rfl) (by kernel_rfl) ?_
 simp -implicitDefEqProofs only [go_sem,Nat.reduceAdd,Nat.reduceMul,Nat.reduceEqDiff,Nat.reduceLT,Nat.reduceLeDiff,reduceCtorEq,Int.reduceEq,hsz,w1,w2,Zga,hn0,hn1,hn2,Int.toNat_natCast]
 have hst:List.replicate ((l.length+7)/8) (PV.int .u64 0)=(lows BW (pre l 0) ((l.length+7)/8)).map fW:=by
  rw [pre,List.take_zero,show bnum []=0 from rfl,Nat.zero_mul,Qej];simp
 rw [hst]
 generalize hW:(l.length+7)/8=W at*
 refine Qar mixed (fun i:{i:Nat // i≤l.length}=>St.of [(0,.str s),(2,.nilS),(3,.bs 104 1 0 W),(12,.int .i64 (l.length:Int)),(13,.int .i64 (i.1:Int))]
   [(104,{els:=(lows BW (pre l i.1) W).map fW,esz:=1,ety:=162,fro:=0,live:=true,arr:=true})]) (fun i=>l.length-i.1) ⟨0,Nat.zero_le _⟩ ?_ ?_
 ·refine Qak (θ:=[(104,104)]) rfl ?_ ?_
  ·simp [Qaf,lkp,ren1,ren0]
  ·simp [Qam,lkp,Box.renames]
 ·rintro⟨i,hi⟩
  by_cases hA:i<l.length
  ·have hA':((i:Int)<(l.length:Int))=True:=by simp;omega
   have h0:(0≤(i:Int))=True:=by simp
   have hg:=hget i hA
   have hwk:=Qaj (a:=i) (by omega)
   have v1:IntKind.i64.wrap ((l.length:Int)-1)=((l.length-1:Nat):Int):=by rw [Qah (by omega) (by omega)];omega
   have v2:IntKind.i64.wrap (((l.length-1:Nat):Int)-(i:Int))=((l.length-1-i:Nat):Int):=by rw [Qah (by omega) (by omega)];omega
   have htk:l.take (i+1)=l.take i++[l[i]]:=by rw [List.take_add_one];simp [hA]
   have hb:l[i].toNat<256:=l[i].toNat_lt
   generalize hk:l.length-1-i=k at*
   have hkj:k=8*(k/8)+k%8:=by omega
   have hm:k%8<8:=Nat.mod_lt _ (by decide)
   have hjW:k/8<W:=by omega
   have p0:pre l i=256^(8*(k/8)+k%8+1)*bnum (l.take i):=by
    rw [pre,Nat.mul_comm,show l.length-i=8*(k/8)+k%8+1 by omega]
   have p1:pre l (i+1)=256^(8*(k/8)+k%8+1)*bnum (l.take i)+l[i].toNat*256^(8*(k/8)+k%8):=by
    rw [pre,htk,Qlu,show l.length-(i+1)=8*(k/8)+k%8 by omega,Nat.add_mul,Nat.pow_succ,Nat.mul_assoc,Nat.mul_comm (bnum _),Nat.mul_comm 256]
   have hpw:=Qzu (bnum (l.take i)) l[i].toNat (k%8) (k/8) hb hm
   have hoth:=fun c hc=>Qto (bnum (l.take i)) l[i].toNat (k%8) (k/8) c hb hm hc
   rw [←p1,←p0]at hpw
   rw [←p1,←p0]at hoth
   have hgo:((lows BW (pre l i) W).map fW)[k/8]? =some (PV.int .u64 ((pre l i/BW^(k/8)%BW:Nat):Int)):=by rw [List.getElem?_map,Qbv _ _ _ hjW];rfl
   have hset:(lows BW (pre l i) W).set (k/8) (pre l (i+1)/BW^(k/8)%BW)=lows BW (pre l (i+1)) W:=by
    apply List.ext_getElem?
    intro c
    rw [List.getElem?_set,Qai]
    by_cases hc:c<W
    ·rw [Qbv _ _ _ hc,Qbv _ _ _ hc]
     by_cases e:k/8=c
     ·subst e;simp [hjW]
     ·simp only [e,if_false]
      rw [hoth c (fun h=>e h.symm)]
    ·rw [List.getElem?_eq_none (by rw [Qai];omega),List.getElem?_eq_none (by rw [Qai];omega)]
     simp;omega
   have hll:=Qai (B:=BW) (pre l i) W
   have u1:IntKind.i64.wrap (((k/8:Nat):Int))=((k/8:Nat):Int):=wrapn (by omega)
   have u2:IntKind.i64.wrap (((k%8:Nat):Int)*8)=((k%8*8:Nat):Int):=by rw [Qah (by omega) (by omega)];omega
   have u3:(((k%8*8:Nat):Int)<0)=False:=by simp only [eq_iff_iff,iff_false];omega
   have u4:min (k%8*8) 64=k%8*8:=by omega
   have u5:(0≤((k/8:Nat):Int))=True:=by simp only [eq_iff_iff,iff_true];exact Int.natCast_nonneg _
   have u6:(((k/8:Nat):Int)<(W:Int))=True:=by simp only [eq_iff_iff,iff_true];omega
   have u7:l[i].toNat%18446744073709551616=l[i].toNat:=Nat.mod_eq_of_lt (by omega)
   have u8:pre l i/BW^(k/8)%BW%18446744073709551616=pre l i/BW^(k/8)%BW:=Nat.mod_mod _ _
   simp -implicitDefEqProofs only [go_sem,Nat.reduceAdd,Nat.reduceMul,Nat.reduceEqDiff,Nat.reduceLT,Nat.reduceLeDiff,reduceIte,reduceCtorEq,Int.reduceEq,hA',h0,hg,hsz,v1,v2,Zga,Zq0,u1,u2,u3,u4,u5,u6,Int.toNat_natCast,hgo,Qdt,u7,Qmu,List.length_map,hll]
   refine⟨Qaa _ _ (by kernel_rfl),⟨i+1,hA⟩,by simp only;omega,?_⟩
   rw [u8,Nat.mod_mod,hpw,Qc7,hset,hwk]
   refine Qak (θ:=[(104,104)]) rfl ?_ ?_
   ·simp [Qaf,lkp,ren1,ren0]
   ·simp [Qam,lkp,Box.renames]
  ·have hA':((i:Int)<(l.length:Int))=False:=by simp;omega
   have e:pre l i=bnum l:=by rw [pre,List.take_of_length_le (by omega),show l.length-i=0 by omega,Nat.pow_zero,Nat.mul_one]
   have hll:=Qai (B:=BW) (bnum l) W
   have htk:((lows BW (bnum l) W).map fW).take W=(lows BW (bnum l) W).map fW:=List.take_of_length_le (by simp [hll])
   simp -implicitDefEqProofs only [go_sem,Nat.reduceAdd,Nat.reduceMul,Nat.reduceEqDiff,Nat.reduceLT,Nat.reduceLeDiff,reduceIte,reduceCtorEq,hA',e,List.length_map,hll,htk,dw]
end Go.Proofs.YtciddhkfbgkejaaGreatDoor

namespace Go.Proofs.YtciddhkfbgkejaaGreatDoor
open Go.Vl Go.RowKit Go.Dg
theorem Qse (m k:Nat):m/BW^(k/8)%BW/2^(k%8*8)%256=m/256^k%256:=by
 have hm:k%8<8:=Nat.mod_lt _ (by decide)
 have e8: ∀k,(256:Nat)^k=2^(k*8):=fun k=>by rw [Nat.mul_comm,Nat.pow_mul]
 have hk:k=8*(k/8)+k%8:=by omega
 have e1:(256:Nat)^k=BW^(k/8)*256^(k%8):=by
  conv=>lhs;rw [hk,Nat.pow_add,Nat.pow_mul]
 rw [←e8,e1,←Nat.div_div_eq_div_mul]
 generalize m/BW^(k/8)=v
 have e2:BW=256^(k%8)*(256*256^(7-k%8)):=by
  rw [←Nat.mul_assoc,←Nat.pow_succ,←Nat.pow_add,show k%8+1+(7-k%8)=8 by omega]
 rw [e2,Nat.mod_mul_right_div_self,Nat.mod_mul_right_mod]
def stp (m D i:Nat):List Nat:=(List.range D).map fun c=>if c<i then m/256^(D-1-c)%256 else 0
theorem Qei (m D i:Nat):(stp m D i).length=D:=by simp [stp]
theorem Qmn (m D i c:Nat) (h:c<D):(stp m D i)[c]? =some (if c<i then m/256^(D-1-c)%256 else 0):=by simp [stp,h]
theorem Zfy (m D:Nat):List.replicate D (PV.int .u8 0)=(stp m D 0).map f8:=by
 apply List.ext_getElem?
 intro c
 by_cases hc:c<D
 ·rw [List.getElem?_map,Qmn _ _ _ _ hc];simp [hc]
 ·rw [List.getElem?_eq_none (by simp;omega),List.getElem?_eq_none (by simp [Qei];omega)]
theorem Znk (m D i:Nat) (hi:i<D):(stp m D i).set i (m/256^(D-1-i)%256)=stp m D (i+1):=by
 apply List.ext_getElem?
 intro c
 rw [List.getElem?_set,Qei]
 by_cases hc:c<D
 ·rw [Qmn _ _ _ _ hc,Qmn _ _ _ _ hc]
  by_cases e:i=c
  ·subst e;simp [hi]
  ·simp only [e,if_false]
   by_cases hlt:c<i
   ·rw [if_pos hlt,if_pos (by omega)]
   ·rw [if_neg hlt,if_neg (by omega)]
 ·rw [List.getElem?_eq_none (by rw [Qei];omega),List.getElem?_eq_none (by rw [Qei];omega)]
  simp;omega
theorem Zfz (m:Nat):stp m (digs 256 m).length (digs 256 m).length=(digs 256 m).reverse:=by
 apply List.ext_getElem?
 intro c
 by_cases hc:c<(digs 256 m).length
 ·rw [Qmn _ _ _ _ hc,if_pos hc,List.getElem?_reverse hc,Qao (by decide) (by omega)]
 ·rw [List.getElem?_eq_none (by rw [Qei];omega),List.getElem?_eq_none (by simp;omega)]
theorem Zqp (l:List Nat) (i:Nat) (d:Nat):(l.map f8).set i (PV.int .u8 (d:Int))=(l.set i d).map f8:=(List.map_set (f:=f8)).symm
theorem Zf0 (n:Nat):IntKind.u8.wrap (n:Int)=((n%256:Nat):Int):=by
 simp [IntKind.wrap,IntKind.signed,IntKind.bits]
theorem Qwv (m:Nat) (hl:(digs BW m).length≤1000000):Qad Tryz.prog 177 [dw (digs BW m)] (.str ⟨(magL m).toArray⟩):=by
 have hbl:(blen m+7)/8=(digs 256 m).length:=by
  by_cases h0:m=0
  ·subst h0;rw [Qgm,Qay];rfl
  ·have ht:=Qdz (B:=256) (by decide) h0
   have hb:blen m=blen (m/256^((digs 256 m).length-1))+8*((digs 256 m).length-1):=Qvs h0 8 (by decide)
   have h1:=Qde 8 _ ht.2
   have h2:=Qgn ht.1
   have hp:0<(digs 256 m).length:=List.length_pos_iff.2 (mt (Qbj (by decide)).1 h0)
   omega
 have hbm:blen m≤64*(digs BW m).length:=Qde _ _ (by rw [Nat.pow_mul];exact Qav BW_2 m)
 have w1:IntKind.i64.wrap ((blen m:Int)+7)=((blen m+7:Nat):Int):=by rw [Qah (by omega) (by omega)];omega
 have w2:=wrapn (n:=(blen m+7)/8) (by omega)
 generalize hD:(digs 256 m).length=D at*
 have hD2:D≤9000000:=by omega
 have hn0:((0:Int)≤((D:Nat):Int))=True:=by simp
 have hn1:((1:Nat):Int)*(D:Int)≤281474976710656:=by omega
 have hn2:(D:Int)≤9223372036854775807:=by omega
 rw [hbl]at w2
 refine Qac (tb:=[]) 37 [.tmp 2] [0,2,3,4,5,12,13,14] mixed Tryz.func177 rfl (by kernel_rfl) (by kernel_rfl) (by kernel_rfl) (by kernel_rfl) ?_
 simp -implicitDefEqProofs only [go_sem,Nat.reduceAdd,Nat.reduceMul,Nat.reduceEqDiff,Nat.reduceLT,Nat.reduceLeDiff,reduceCtorEq,dw]
 refine Qag _ _ _ _ _ _ _ _ _ (Q7s m (by omega)) ?_
 simp -implicitDefEqProofs only [go_sem,Nat.reduceAdd,Nat.reduceMul,Nat.reduceEqDiff,Nat.reduceLT,Nat.reduceLeDiff,reduceCtorEq,Int.reduceEq,w1,Zga,hbl,w2,hn0,hn1,hn2,Int.toNat_natCast]
 have hfull:=Zfz m
 rw [hD]at hfull
 rw [Zfy m D]
 refine Qar mixed (fun i:{i:Nat // i≤D}=>St.of [(0,dw (digs BW m)),(2,.str ⟨#[]⟩),(3,.bs 104 1 0 D),(12,.int .i64 (D:Int)),(13,.int .i64 (i.1:Int))]
   [(104,{els:=(stp m D i.1).map f8,esz:=1,ety:=5,fro:=0,live:=true,arr:=true})]) (fun i=>D-i.1) ⟨0,Nat.zero_le _⟩ ?_ ?_
 ·refine Qak (θ:=[(104,104)]) rfl ?_ ?_
  ·simp [Qaf,lkp,ren1,ren0,dw]
  ·simp [Qam,lkp,Box.renames]
 ·rintro⟨i,hi⟩
  by_cases hA:i<D
  ·have hA':((i:Int)<(D:Int))=True:=by simp;omega
   have h0:(0≤(i:Int))=True:=by simp
   have hwk:=Qaj (a:=i) (by omega)
   have v1:IntKind.i64.wrap ((D:Int)-1)=((D-1:Nat):Int):=by rw [Qah (by omega) (by omega)];omega
   have v2:IntKind.i64.wrap (((D-1:Nat):Int)-(i:Int))=((D-1-i:Nat):Int):=by rw [Qah (by omega) (by omega)];omega
   have hset:=Znk m D i hA
   have hne:m/256^(D-1-i)≠0:=(Qce (by decide) m _).1 (by omega)
   generalize hk:D-1-i=k at*
   have hbw:=Qse m k
   have hwne:m/BW^(k/8)≠0:=by
    intro h
    apply hne
    have e1:(256:Nat)^k=BW^(k/8)*256^(k%8):=by
     conv=>lhs;rw [show k=8*(k/8)+k%8 by omega,Nat.pow_add,Nat.pow_mul]
    rw [e1,←Nat.div_div_eq_div_mul,h,Nat.zero_div]
   have hgw:=Qao (n:=m) (k:=k/8) BW_2 ((Qce BW_2 m _).2 hwne)
   generalize m/BW^(k/8)%BW=q at*
   have u1:IntKind.i64.wrap (((k/8:Nat):Int))=((k/8:Nat):Int):=wrapn (by omega)
   have u2:IntKind.i64.wrap (((k%8:Nat):Int)*8)=((k%8*8:Nat):Int):=by rw [Qah (by omega) (by omega)];omega
   have u3:(((k%8*8:Nat):Int)<0)=False:=by simp only [eq_iff_iff,iff_false];omega
   have u4:min (k%8*8) 64=k%8*8:=by omega
   have u5:(0≤((k/8:Nat):Int))=True:=by simp only [eq_iff_iff,iff_true];exact Int.natCast_nonneg _
   obtain⟨e,hgo⟩: ∃e:Nat,((stp m D i).map f8)[i]? =some (PV.int .u8 (e:Int)):=⟨_,by rw [List.getElem?_map,Qmn _ _ _ _ hA];rfl⟩
   have hsl:=Qei m D i
   simp -implicitDefEqProofs only [go_sem,Nat.reduceAdd,Nat.reduceMul,Nat.reduceEqDiff,Nat.reduceLT,Nat.reduceLeDiff,reduceIte,reduceCtorEq,Int.reduceEq,dw,hA',h0,v1,v2,Zga,Zq0,u1,u2,u3,u4,u5,Int.toNat_natCast,Qcd,hgw,Qi2,Zf0,hbw,hgo,List.length_map,hsl,hwk]
   refine⟨⟨i+1,hA⟩,by simp only;omega,?_⟩
   refine Qak (θ:=[(104,104)]) rfl ?_ ?_
   ·simp [Qaf,lkp,ren1,ren0,dw]
   ·rw [Zqp,hset]
    simp [Qam,lkp,Box.renames]
  ·have hA':((i:Int)<(D:Int))=False:=by simp;omega
   obtain rfl:i=D:=by omega
   rw [hfull]
   have hrl:(digs 256 m).reverse.length=i:=by simp [hD]
   have htk:((digs 256 m).reverse.map f8).take i=(digs 256 m).reverse.map f8:=List.take_of_length_le (by simp [hD])
   simp -implicitDefEqProofs only [go_sem,Nat.reduceAdd,Nat.reduceMul,Nat.reduceEqDiff,Nat.reduceLT,Nat.reduceLeDiff,reduceIte,reduceCtorEq,hA',List.length_map,hrl,htk,Qoh]
   rfl
end Go.Proofs.YtciddhkfbgkejaaGreatDoor

namespace Go.Proofs.YtciddhkfbgkejaaGreatDoor
open Go.Vl Go.RowKit Go.Dg
theorem Qf0 (neg:Bool) (m:Nat) (hl:(digs BW m).length≤1000000):Qad Tryz.prog 148 [nP neg m] (Qe8 (sv neg m)):=by
 have hna:(sv neg m).natAbs=m:=by cases neg<;>simp [sv]
 have hneg:decide (sv neg m<0)=(neg&&decide (0<m)):=by
  cases neg
  ·simp [sv]
  ·simp [sv]
 unfold Qe8
 rw [hna]
 refine Qac (tb:=[]) 21 [.cell 2 71,.tmp 3] [0,1,2,3,7] mixed Tryz.func148 rfl (by kernel_rfl) (by kernel_rfl) (by kernel_rfl) (by kernel_rfl) ?_
 simp -implicitDefEqProofs only [go_sem,Nat.reduceAdd,Nat.reduceMul,Nat.reduceEqDiff,Nat.reduceLT,Nat.reduceLeDiff,reduceCtorEq,nP,dw]
 refine Qag _ _ _ _ _ _ _ _ _ (Q7s m (by omega)) ?_
 by_cases h:65536<blen m
 ·have h':((65536:Int)<(blen m:Int))=True:=by simp only [eq_iff_iff,iff_true];omega
  rw [if_pos h,Qv8]
  simp -implicitDefEqProofs only [go_sem,Nat.reduceAdd,Nat.reduceMul,Nat.reduceEqDiff,Nat.reduceLT,Nat.reduceLeDiff,reduceCtorEq,h']
 ·have h':((65536:Int)<(blen m:Int))=False:=by simp only [eq_iff_iff,iff_false];omega
  rw [if_neg h]
  have hlen:decide ((0:Int)<((digs BW m).length:Int))=decide (0<m):=by
   simp only [decide_eq_decide]
   have:=mt (Qbj BW_2 (n:=m)).2
   by_cases h0:m=0
   ·subst h0;simp [Qay]
   ·have:=List.length_pos_iff.2 (mt (Qbj BW_2).1 h0)
    constructor<;>intro _<;>omega
  cases neg with
  |true=>
   simp -implicitDefEqProofs only [go_sem,Nat.reduceAdd,Nat.reduceMul,Nat.reduceEqDiff,Nat.reduceLT,Nat.reduceLeDiff,reduceCtorEq,h',nP,dw,List.length_map]
   refine Qag _ _ _ _ _ _ _ _ _ (Qwv m hl) ?_
   simp -implicitDefEqProofs only [go_sem,Nat.reduceAdd,Nat.reduceEqDiff,Nat.reduceLT,Nat.reduceLeDiff,reduceCtorEq,wPV,hna,hneg,hlen,Bool.true_and]
   exact Qaa _ _ (by kernel_rfl)
  |false=>
   simp -implicitDefEqProofs only [go_sem,Nat.reduceAdd,Nat.reduceMul,Nat.reduceEqDiff,Nat.reduceLT,Nat.reduceLeDiff,reduceCtorEq,h',nP,dw,List.length_map]
   refine Qag _ _ _ _ _ _ _ _ _ (Qwv m hl) ?_
   simp -implicitDefEqProofs only [go_sem,Nat.reduceAdd,Nat.reduceEqDiff,Nat.reduceLT,Nat.reduceLeDiff,reduceCtorEq,wPV,hna,hneg,Bool.false_and]
   exact Qaa _ _ (by kernel_rfl)
end Go.Proofs.YtciddhkfbgkejaaGreatDoor

namespace Go.Proofs.YtciddhkfbgkejaaGreatDoor
open Go.Vl Go.RowKit Go.Dg
theorem bfold (r:List UInt8): ∀a:Nat,r.foldl (fun n b=>n*256+b.toNat) a=a*256^r.length+bnum r:=by
 induction r with
 |nil=>intro a;simp [bnum]
 |cons b r ih=>
  intro a
  have h0:bnum (b::r)=b.toNat*256^r.length+bnum r:=by
   have h:=ih (0*256+b.toNat)
   rw [Nat.zero_mul,Nat.zero_add]at h
   rw [←h,bnum,List.foldl_cons,Nat.zero_mul,Nat.zero_add]
  rw [List.foldl_cons,ih,h0,List.length_cons,Nat.pow_succ,Nat.add_mul,Nat.mul_assoc,Nat.mul_comm 256]
  omega
theorem Qmo (b:UInt8) (r:List UInt8):bnum (b::r)=b.toNat*256^r.length+bnum r:=by
 have h:=bfold r (0*256+b.toNat)
 rw [Nat.zero_mul,Nat.zero_add]at h
 rw [←h,bnum,List.foldl_cons,Nat.zero_mul,Nat.zero_add]
theorem Qmp {neg:Bool} {l:List UInt8} (h:Qbl neg l=true):lows BW (bnum l) ((l.length+7)/8)=digs BW (bnum l):=by
 refine Ql6 BW_2 ?_ ?_
 ·refine Nat.lt_of_lt_of_le (Qtg _ l rfl) ?_
  rw [show BW=256^8 from rfl,←Nat.pow_mul]
  exact Nat.pow_le_pow_right (by decide) (by omega)
 ·intro j hj
  cases l with
  |nil=>simp at hj
  |cons b r=>
   have hb:b.toNat≠0:=by
    intro e
    have:b=0:=UInt8.toNat_inj.1 (by simpa using e)
    subst this
    simp [Qbl]at h
   have hge:256^r.length≤bnum (b::r):=by
    rw [Qmo]
    have:=Nat.mul_le_mul_right (256^r.length) (Nat.pos_of_ne_zero hb)
    omega
   have hle:BW^j≤256^r.length:=by
    rw [show BW=256^8 from rfl,←Nat.pow_mul]
    exact Nat.pow_le_pow_right (by decide) (by simp at hj;omega)
   have:=Nat.div_pos (Nat.le_trans hle hge) (Nat.pow_pos (n:=j) (show 0<BW by decide))
   omega
theorem Qez (neg:Bool) (s:ByteArray) (h:Qbl neg s.data.toList=true) (hs:s.size≤1000000):Qad Tryz.prog 111 [.agg [.bool neg,.str s]] (nP neg (bnum s.data.toList)):=by
 have hl:=Qux s hs
 rw [Qmp h]at hl
 refine Qac (tb:=[]) 9 [.cell 2 160] [0,1,2] mixed Tryz.func111 rfl (by kernel_rfl) (by kernel_rfl) (by kernel_rfl) (by kernel_rfl) ?_
 simp -implicitDefEqProofs only [go_sem,Nat.reduceAdd,Nat.reduceMul,Nat.reduceEqDiff,Nat.reduceLT,Nat.reduceLeDiff,reduceCtorEq]
 refine Qag _ _ _ _ _ _ _ _ _ hl ?_
 simp -implicitDefEqProofs only [go_sem,Nat.reduceAdd,Nat.reduceEqDiff,Nat.reduceLT,Nat.reduceLeDiff,reduceCtorEq,nP,dw]
 exact Qaa _ _ (by kernel_rfl)
end Go.Proofs.YtciddhkfbgkejaaGreatDoor

namespace Go.Proofs.YtciddhkfbgkejaaGreatDoor
open Go.Vl Go.RowKit Go.Dg
def wnum (neg:Bool) (s:ByteArray):Int:=sv neg (bnum s.data.toList)
theorem Qcg (s:ByteArray) (hs:s.size≤100000):(digs BW (bnum s.data.toList)).length≤100000:=by
 rw [Qlv]at hs
 refine Nat.le_trans ((Qal BW_2 _ s.data.toList.length).2 ?_) hs
 exact Nat.lt_of_lt_of_le (Qtg _ _ rfl) (Nat.pow_le_pow_left (by decide) _)
theorem Zhz (a b m k:Nat) (hm:m≤a+b) (h1:(digs BW a).length≤k) (h2:(digs BW b).length≤k):(digs BW m).length≤k+1:=by
 rw [Qal BW_2]at h1 h2 ⊢
 rw [Nat.pow_succ]
 generalize BW^k=K at*
 simp only [BW]
 omega
def outN (n:Int):Int:=if 65536<blen n.natAbs then 0 else n
def outE (n:Int):Int:=if 65536<blen n.natAbs then 7 else 0
theorem Qe2 (n:Int):Qe8 n= .tup [wPV (outN n),.int .i64 (outE n)]:=by
 unfold Qe8 outN outE;split<;>rfl
theorem Qbp (n:Int) (k:Nat) (h:n.natAbs<256^k):(digs E9 n.natAbs).length≤k∧(digs 256 n.natAbs).length≤k:=
 ⟨(Qal E9_2 _ k).2 (Nat.lt_of_lt_of_le h (Nat.pow_le_pow_left (by decide) k)),(Qal (by decide) _ k).2 h⟩
theorem Zh0 {x y:Int} {k:Nat} (hx:x.natAbs<256^k) (hy:y.natAbs<256^k):(x+y).natAbs<256^(k+1):=by
 rw [Nat.pow_succ];generalize 256^k=K at*;omega
theorem Qww {x y:Int} {k:Nat} (hk:k≤1000000) (hx:x.natAbs<256^k) (hy:y.natAbs<256^k):(digs E9 (x.natAbs+y.natAbs)).length≤1000000000:=by
 refine Nat.le_trans ((Qal E9_2 _ (k+1)).2 ?_) (show k+1≤1000000000 by omega)
 have h:(256:Nat)^k≤E9^k:=Nat.pow_le_pow_left (by decide) k
 rw [Nat.pow_succ]
 generalize 256^k=K at*
 generalize E9^k=M at*
 simp only [E9]
 omega
theorem Zqq (an bn:Bool) (a b:ByteArray) (h1:Qbl an a.data.toList=true) (h2:Qbl bn b.data.toList=true) (ha:a.size≤100000) (hb:b.size≤100000):Qad Tryz.prog 113 [.agg [.bool an,.str a],.agg [.bool bn,.str b]] (Qe8 (wnum an a+wnum bn b)):=by
 have hL1:=Qcg a ha
 have hL2:=Qcg b hb
 have h:(Qbl an a.data.toList&&Qbl bn b.data.toList)=true:=by rw [h1,h2];rfl
 obtain⟨n,m,hs,e,hm⟩:=Q7q an bn (bnum a.data.toList) (bnum b.data.toList) (by omega) (by omega)
 have hLm:(digs BW m).length≤1000000:=by
  exact Nat.le_trans (Zhz _ _ _ _ hm hL1 hL2) (by decide)
 rw [wnum,wnum,←e]
 refine Qac (tb:=[]) 19 [.cell 4 71,.tmp 5] [0,1,2,3,4,5,9] mixed Tryz.func113 rfl (by kernel_rfl) (by kernel_rfl) (by kernel_rfl) (by kernel_rfl) ?_
 simp -implicitDefEqProofs only [go_sem,Nat.reduceAdd,Nat.reduceMul,Nat.reduceEqDiff,Nat.reduceLT,Nat.reduceLeDiff,reduceCtorEq]
 refine Qag _ _ _ _ _ _ _ _ _ (Qmt an bn a b) ?_
 simp -implicitDefEqProofs only [go_sem,Nat.reduceAdd,Nat.reduceMul,Nat.reduceEqDiff,Nat.reduceLT,Nat.reduceLeDiff,reduceCtorEq,h]
 refine Qag _ _ _ _ _ _ _ _ _ (Qez an a h1 (by omega)) ?_
 simp -implicitDefEqProofs only [go_sem,Nat.reduceAdd,Nat.reduceEqDiff,Nat.reduceLT,reduceCtorEq,nP,dw]
 refine Qag _ _ _ _ _ _ _ _ _ (Qez bn b h2 (by omega)) ?_
 simp -implicitDefEqProofs only [go_sem,Nat.reduceAdd,Nat.reduceEqDiff,Nat.reduceLT,reduceCtorEq,nP,dw]
 refine Qag _ _ _ _ _ _ _ _ _ hs ?_
 simp -implicitDefEqProofs only [go_sem,Nat.reduceAdd,Nat.reduceEqDiff,Nat.reduceLT,reduceCtorEq,nP,dw]
 refine Qag _ _ _ _ _ _ _ _ _ (Qf0 n m hLm) ?_
 unfold Qe8
 split
 ·simp -implicitDefEqProofs only [go_sem,Nat.reduceAdd,Nat.reduceEqDiff,Nat.reduceLT,reduceCtorEq,Int.reduceLT,wPV]
  exact Qaa _ _ (by kernel_rfl)
 ·simp -implicitDefEqProofs only [go_sem,Nat.reduceAdd,Nat.reduceEqDiff,Nat.reduceLT,reduceCtorEq,wPV]
  exact Qaa _ _ (by kernel_rfl)
end Go.Proofs.YtciddhkfbgkejaaGreatDoor

namespace Go.Proofs.YtciddhkfbgkejaaGreatDoor
open Go.Vl Go.RowKit Go.Dg
end Go.Proofs.YtciddhkfbgkejaaGreatDoor

namespace Go.Proofs.YtciddhkfbgkejaaGreatDoor
open Go.Vl Go.RowKit Go.Dg
end Go.Proofs.YtciddhkfbgkejaaGreatDoor
