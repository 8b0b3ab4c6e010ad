/-
  HW3, HW4, HW5, HW6, HW7, HW8, Dl, HW9, HW10, HW11, HW12, HW13, HW14, HW15 (merged for the claim).
-/
import Derived.Test.YtciddhkfbgkejaaGreatDoorHW2
set_option linter.unusedSimpArgs false
set_option linter.unusedVariables false
namespace Go.Proofs.YtciddhkfbgkejaaGreatDoor
open Go.Vl Go.RowKit Go.Dg
theorem Qco (l:List Nat) (i:Nat) (d:Nat):(l.map fW).set i (PV.int .u64 (d:Int))=(l.set i d).map fW:=(List.map_set (f:=fW)).symm
theorem Qdt (B n:Nat):lows B 0 n=List.replicate n 0:=by
 apply List.ext_getElem?
 intro k
 by_cases h:k<n
 ·rw [Qbp _ _ _ h];simp [h]
 ·rw [List.getElem?_eq_none (by rw [Qah];omega),List.getElem?_eq_none (by simp;omega)]
theorem Qhf (V n:Nat):List.replicate n (PV.int .u64 0)=(mix BW V 0 n 0).map fW:=by
 rw [Qje,Qdt];simp
theorem Qpe (a b:Nat) (hba:b≤a) (ha:(digs BW a).length≤1000000000):Qag Tryz.prog 193 [dw (digs BW a),dw (digs BW b)] (dw (digs BW (a-b))):=by
 refine Qad (tb:=[]) 41 [.tmp 4] [0,1,4,5,6,7,8,13,14,15,20] mixed Tryz.func193 rfl (by kernel_rfl) (by kernel_rfl) (by kernel_rfl) (by kernel_rfl) ?_
 have hn0:((0:Int)≤((digs BW a).length:Int))=True:=by simp
 have hn1:((8:Nat):Int)*((digs BW a).length:Int)≤281474976710656:=by omega
 have hn2:((digs BW a).length:Int)≤9223372036854775807:=by omega
 simp -implicitDefEqProofs only [go_sem,Nat.reduceAdd,Nat.reduceMul,Nat.reduceEqDiff,Nat.reduceLT,Nat.reduceLeDiff,reduceCtorEq,dw,List.length_map,hn0,hn1,hn2,Int.toNat_natCast]
 generalize hN:(digs BW a).length=N at*
 rw [Qhf (a-b) N]
 refine Qa0 mixed (fun i:{i:Nat // i≤N}=>St.of [(0,dw (digs BW a)),(1,dw (digs BW b)),(4,.nilS),(5,.bs 102 1 0 N),(6,.int .u64 (bor BW a b i.1:Int)),(13,.int .i64 (N:Int)),(14,.int .i64 (i.1:Int))]
  [(102,{els:=(mix BW (a-b) 0 N i.1).map fW,esz:=1,ety:=162,fro:=0,live:=true,arr:=true})]) (fun i=>N-i.1) ⟨0,Nat.zero_le _⟩ ?_ ?_
 ·refine Qan (θ:=[(102,102)]) rfl ?_ ?_
  ·simp [Qae,lkp,ren1,ren0,dw,Qsk]
  ·simp [Qaq,lkp,Box.renames]
 ·rintro⟨i,hi⟩
  have hml:=Qbd (B:=BW) (a-b) 0 N i
  by_cases hA:i<N
  ·have hA':((i:Int)<(N:Int))=True:=by simp;omega
   have h0:(0≤(i:Int))=True:=by simp
   have hga:=Qas BW_2 (show i<(digs BW a).length by omega)
   have hwk:=Qak (a:=i) (by omega)
   have hbl:=Qsl (B:=BW) a b i
   have hbl2:=Qsl (B:=BW) a b (i+1)
   have hst:=Qsm BW_2 hba i
   have hx:a/BW^i%BW<BW:=Nat.mod_lt _ (by decide)
   have hy:b/BW^i%BW<BW:=Nat.mod_lt _ (by decide)
   have hz:(a-b)/BW^i%BW<BW:=Nat.mod_lt _ (by decide)
   have hset:=Qdw (B:=BW) (V:=a-b) (W:=a-b) (S:=0) (n:=N) (m:=i) (d:=(a-b)/BW^i%BW) (by decide) hA rfl rfl
   have hy0: ¬i<(digs BW b).length→b/BW^i%BW=0:=fun h=>by rw [Qb7 BW_2 (Nat.le_of_not_lt h),Nat.zero_mod]
   have hgb:i<(digs BW b).length→(digs BW b)[i]? =some (b/BW^i%BW):=fun h=>Qas BW_2 h
   obtain⟨e,hgo⟩: ∃e:Nat,((mix BW (a-b) 0 N i).map fW)[i]? =some (PV.int .u64 (e:Int)):=⟨_,by rw [List.getElem?_map,Qc1 _ _ _ _ _ hA];rfl⟩
   generalize a/BW^i%BW=x at*
   generalize b/BW^i%BW=y at*
   generalize (a-b)/BW^i%BW=z at*
   have s1:(x+18446744073709551616-y-bor BW a b i)%18446744073709551616=z:=by simp only [BW]at*;omega
   have s2:(if x<y+bor BW a b i then 1 else 0)=bor BW a b (i+1):=by
    simp only [BW]at*
    split<;>omega
   have hc:=Q17 x y (bor BW a b i) hbl
   rw [s1,s2]at hc
   by_cases hB:i<(digs BW b).length
   ·have hB':((i:Int)<((digs BW b).length:Int))=True:=by simp;omega
    have hgb:=hgb hB
    simp -implicitDefEqProofs only [go_sem,Nat.reduceAdd,Nat.reduceMul,Nat.reduceEqDiff,Nat.reduceLT,Nat.reduceLeDiff,reduceCtorEq,dw,List.length_map,hA',hB',h0,Qb4,hga,hgb,Int.toNat_natCast]
    refine Qaf _ _ _ _ _ _ _ _ _ hc ?_
    simp -implicitDefEqProofs only [go_sem,Nat.reduceAdd,Nat.reduceMul,Nat.reduceEqDiff,Nat.reduceLT,Nat.reduceLeDiff,reduceIte,reduceCtorEq,hA',h0,Int.toNat_natCast,hwk,hgo,List.length_map,hml]
    refine⟨⟨i+1,hA⟩,by simp only;omega,?_⟩
    refine Qan (θ:=[(102,102)]) rfl ?_ ?_
    ·simp [Qae,lkp,ren1,ren0,dw]
    ·rw [Qco,hset]
     simp [Qaq,lkp,Box.renames]
   ·have hB':((i:Int)<((digs BW b).length:Int))=False:=by simp;omega
    obtain rfl:=hy0 hB
    simp -implicitDefEqProofs only [go_sem,Nat.reduceAdd,Nat.reduceMul,Nat.reduceEqDiff,Nat.reduceLT,Nat.reduceLeDiff,reduceCtorEq,dw,List.length_map,hA',hB',h0,Qb4,hga,Int.toNat_natCast]
    refine Qaf _ _ _ _ _ _ _ _ _ hc ?_
    simp -implicitDefEqProofs only [go_sem,Nat.reduceAdd,Nat.reduceMul,Nat.reduceEqDiff,Nat.reduceLT,Nat.reduceLeDiff,reduceIte,reduceCtorEq,hA',h0,Int.toNat_natCast,hwk,hgo,List.length_map,hml]
    refine⟨⟨i+1,hA⟩,by simp only;omega,?_⟩
    refine Qan (θ:=[(102,102)]) rfl ?_ ?_
    ·simp [Qae,lkp,ren1,ren0,dw]
    ·rw [Qco,hset]
     simp [Qaq,lkp,Box.renames]
  ·have hA':((i:Int)<(N:Int))=False:=by simp;omega
   obtain rfl:i=N:=by omega
   have htk:((lows BW (a-b) i).map fW).take i=(lows BW (a-b) i).map fW:=List.take_of_length_le (by simp [Qah])
   have hll:=Qah (B:=BW) (a-b) i
   have hlt:a<BW^i:=by rw [←hN];exact Qa5 BW_2 a
   have hm:mix BW (a-b) 0 i i=lows BW (a-b) i:=Qfc (by decide) (by rw [Nat.div_eq_of_lt (Nat.lt_of_le_of_lt (Nat.sub_le _ _) hlt),Nat.zero_div])
   simp -implicitDefEqProofs only [go_sem,Nat.reduceAdd,Nat.reduceMul,Nat.reduceEqDiff,Nat.reduceLT,Nat.reduceLeDiff,reduceIte,reduceCtorEq,hA',List.length_map,hll,htk,hm]
   refine Qaf _ _ _ _ _ _ _ _ _ (Qcw (lows BW (a-b) i) (by rw [Qah];simp [maxLen];omega)) ?_
   simp -implicitDefEqProofs only [go_sem,Nat.reduceAdd,Nat.reduceEqDiff,Nat.reduceLT,reduceCtorEq,dw,List.length_map]
   rw [Qby BW_2,Nat.mod_eq_of_lt (Nat.lt_of_le_of_lt (Nat.sub_le _ _) hlt)]
end Go.Proofs.YtciddhkfbgkejaaGreatDoor

namespace Go.Proofs.YtciddhkfbgkejaaGreatDoor
open Go.Vl Go.RowKit Go.Dg
theorem Za4 (a b:Nat) (ha:(digs BW a).length≤1000000000) (hb:(digs BW b).length≤1000000000):Qag Tryz.prog 192 [dw (digs BW a),dw (digs BW b)] (dw (digs BW (a+b))):=by
 refine Qad (tb:=[]) 54 [.tmp 4] [0,1,4,5,6,7,8,13,21,22,23,28] mixed Tryz.func192 rfl (by kernel_rfl) (by kernel_rfl) (by kernel_rfl) (by kernel_rfl) ?_
 by_cases hab:(digs BW a).length<(digs BW b).length
 ·have hab':(((digs BW a).length:Int)<((digs BW b).length:Int))=True:=by simp;omega
  have hPQ:(digs BW a).length≤(digs BW b).length:=by omega
  rw [Nat.add_comm a b]
  have hn0:((0:Int)≤(((digs BW b).length+1:Nat):Int))=True:=by simp only [eq_iff_iff,iff_true];omega
  have hn1:((8:Nat):Int)*(((digs BW b).length+1:Nat):Int)≤281474976710656:=by omega
  have hn2:(((digs BW b).length+1:Nat):Int)≤9223372036854775807:=by omega
  have hw1:=Qak (a:=(digs BW b).length) (by omega)
  simp -implicitDefEqProofs only [go_sem,Nat.reduceAdd,Nat.reduceMul,Nat.reduceEqDiff,Nat.reduceLT,Nat.reduceLeDiff,reduceCtorEq,dw,List.length_map,hab',hw1,hn0,hn1,hn2,Int.toNat_natCast]
  have hlt:b<BW^(digs BW b).length:=Qa5 BW_2 b
  have hlt2:a<BW^(digs BW b).length:=(Qar BW_2 a _).1 hPQ
  generalize hN:(digs BW b).length=N at*
  rw [Qhf (b+a) (N+1)]
  refine Qa0 mixed (fun i:{i:Nat // i≤N}=>St.of [(0,dw (digs BW b)),(1,dw (digs BW a)),(4,.nilS),(5,.bs 303 1 0 (N+1)),(6,.int .u64 (carry BW b a i.1:Int)),(21,.int .i64 (N:Int)),(22,.int .i64 (i.1:Int))]
   [(303,{els:=(mix BW (b+a) 0 (N+1) i.1).map fW,esz:=1,ety:=162,fro:=0,live:=true,arr:=true})]) (fun i=>N-i.1) ⟨0,Nat.zero_le _⟩ ?_ ?_
  ·refine Qan (θ:=[(303,303)]) rfl ?_ ?_
   ·simp [Qae,lkp,ren1,ren0,dw,Qlu]
   ·simp [Qaq,lkp,Box.renames]
  ·rintro⟨i,hi⟩
   have hml:=Qbd (B:=BW) (b+a) 0 (N+1) i
   have hset:=Qdw (B:=BW) (V:=b+a) (W:=b+a) (S:=0) (n:=N+1) (m:=i) (d:=(b+a)/BW^i%BW) (by decide) (by omega) rfl rfl
   obtain⟨e,hgo⟩: ∃e:Nat,((mix BW (b+a) 0 (N+1) i).map fW)[i]? =some (PV.int .u64 (e:Int)):=⟨_,by rw [List.getElem?_map,Qc1 _ _ _ _ _ (by omega)];rfl⟩
   have h0:(0≤(i:Int))=True:=by simp
   have hiN:((i:Int)<((N+1:Nat):Int))=True:=by simp only [eq_iff_iff,iff_true];omega
   by_cases hA:i<N
   ·have hA':((i:Int)<(N:Int))=True:=by simp;omega
    have hga:=Qas BW_2 (show i<(digs BW b).length by omega)
    have hwk:=Qak (a:=i) (by omega)
    have hcl:=Qso (B:=BW) (by decide) b a i
    obtain⟨s1,s2⟩:(b/BW^i%BW+a/BW^i%BW+carry BW b a i)%18446744073709551616=(b+a)/BW^i%BW∧(b/BW^i%BW+a/BW^i%BW+carry BW b a i)/18446744073709551616=carry BW b a (i+1):=Qsp (B:=BW) (by decide) b a i
    have hy0: ¬i<(digs BW a).length→a/BW^i%BW=0:=fun h=>by rw [Qb7 BW_2 (Nat.le_of_not_lt h),Nat.zero_mod]
    have hgb:i<(digs BW a).length→(digs BW a)[i]? =some (a/BW^i%BW):=fun h=>Qas BW_2 h
    have hc:=Qnf (b/BW^i%BW) (a/BW^i%BW) (carry BW b a i) hcl
    rw [s1,s2]at hc
    generalize b/BW^i%BW=x at*
    generalize a/BW^i%BW=y at*
    generalize (b+a)/BW^i%BW=z at*
    by_cases hB:i<(digs BW a).length
    ·have hB':((i:Int)<((digs BW a).length:Int))=True:=by simp;omega
     have hgb:=hgb hB
     simp -implicitDefEqProofs only [go_sem,Nat.reduceAdd,Nat.reduceMul,Nat.reduceEqDiff,Nat.reduceLT,Nat.reduceLeDiff,reduceCtorEq,dw,List.length_map,hA',hB',h0,Qb4,hga,hgb,Int.toNat_natCast]
     refine Qaf _ _ _ _ _ _ _ _ _ hc ?_
     simp -implicitDefEqProofs only [go_sem,Nat.reduceAdd,Nat.reduceMul,Nat.reduceEqDiff,Nat.reduceLT,Nat.reduceLeDiff,reduceIte,reduceCtorEq,hA',h0,hiN,Int.toNat_natCast,hwk,hgo,List.length_map,hml]
     refine⟨⟨i+1,hA⟩,by simp only;omega,?_⟩
     refine Qan (θ:=[(303,303)]) rfl ?_ ?_
     ·simp [Qae,lkp,ren1,ren0,dw]
     ·rw [Qco,hset]
      simp [Qaq,lkp,Box.renames]
    ·have hB':((i:Int)<((digs BW a).length:Int))=False:=by simp;omega
     obtain rfl:=hy0 hB
     simp -implicitDefEqProofs only [go_sem,Nat.reduceAdd,Nat.reduceMul,Nat.reduceEqDiff,Nat.reduceLT,Nat.reduceLeDiff,reduceCtorEq,dw,List.length_map,hA',hB',h0,Qb4,hga,Int.toNat_natCast]
     refine Qaf _ _ _ _ _ _ _ _ _ hc ?_
     simp -implicitDefEqProofs only [go_sem,Nat.reduceAdd,Nat.reduceMul,Nat.reduceEqDiff,Nat.reduceLT,Nat.reduceLeDiff,reduceIte,reduceCtorEq,hA',h0,hiN,Int.toNat_natCast,hwk,hgo,List.length_map,hml]
     refine⟨⟨i+1,hA⟩,by simp only;omega,?_⟩
     refine Qan (θ:=[(303,303)]) rfl ?_ ?_
     ·simp [Qae,lkp,ren1,ren0,dw]
     ·rw [Qco,hset]
      simp [Qaq,lkp,Box.renames]
   ·have hA':((i:Int)<(N:Int))=False:=by simp;omega
    obtain rfl:i=N:=by omega
    have hsum:(b+a)/BW^i<2:=Nat.div_lt_of_lt_mul (by omega)
    have hcN:carry BW b a i=(b+a)/BW^i%BW:=by
     rw [carry,Nat.mod_eq_of_lt hlt,Nat.mod_eq_of_lt hlt2,Nat.mod_eq_of_lt (Nat.lt_trans hsum (by decide))]
    have hm:mix BW (b+a) 0 (i+1) (i+1)=lows BW (b+a) (i+1):=Qfc (by decide) (by rw [Nat.pow_succ,←Nat.div_div_eq_div_mul,Nat.div_eq_of_lt (Nat.lt_trans hsum (by decide)),Nat.zero_div])
    rw [hm]at hset
    have htk:((lows BW (b+a) (i+1)).map fW).take (i+1)=(lows BW (b+a) (i+1)).map fW:=List.take_of_length_le (by simp [Qah])
    have hll:=Qah (B:=BW) (b+a) (i+1)
    have hbig:b+a<BW^(i+1):=by
     rw [Nat.pow_succ]
     have:BW^i*2≤BW^i*BW:=Nat.mul_le_mul_left _ (by decide)
     omega
    rw [hcN]
    simp -implicitDefEqProofs only [go_sem,Nat.reduceAdd,Nat.reduceMul,Nat.reduceEqDiff,Nat.reduceLT,Nat.reduceLeDiff,reduceIte,reduceCtorEq,dw,hA',h0,hiN,hN,Int.toNat_natCast,hgo,List.length_map,hml,Qco,hset,hll,htk]
    refine Qaf _ _ _ _ _ _ _ _ _ (Qcw (lows BW (b+a) (i+1)) (by rw [Qah];simp [maxLen];omega)) ?_
    simp -implicitDefEqProofs only [go_sem,Nat.reduceAdd,Nat.reduceEqDiff,Nat.reduceLT,reduceCtorEq,dw,List.length_map]
    rw [Qby BW_2,Nat.mod_eq_of_lt hbig]
 ·have hab':(((digs BW a).length:Int)<((digs BW b).length:Int))=False:=by simp;omega
  have hPQ:(digs BW b).length≤(digs BW a).length:=by omega
  have hn0:((0:Int)≤(((digs BW a).length+1:Nat):Int))=True:=by simp only [eq_iff_iff,iff_true];omega
  have hn1:((8:Nat):Int)*(((digs BW a).length+1:Nat):Int)≤281474976710656:=by omega
  have hn2:(((digs BW a).length+1:Nat):Int)≤9223372036854775807:=by omega
  have hw1:=Qak (a:=(digs BW a).length) (by omega)
  simp -implicitDefEqProofs only [go_sem,Nat.reduceAdd,Nat.reduceMul,Nat.reduceEqDiff,Nat.reduceLT,Nat.reduceLeDiff,reduceCtorEq,dw,List.length_map,hab',hw1,hn0,hn1,hn2,Int.toNat_natCast]
  have hlt:a<BW^(digs BW a).length:=Qa5 BW_2 a
  have hlt2:b<BW^(digs BW a).length:=(Qar BW_2 b _).1 hPQ
  generalize hN:(digs BW a).length=N at*
  rw [Qhf (a+b) (N+1)]
  refine Qa0 mixed (fun i:{i:Nat // i≤N}=>St.of [(0,dw (digs BW a)),(1,dw (digs BW b)),(4,.nilS),(5,.bs 303 1 0 (N+1)),(6,.int .u64 (carry BW a b i.1:Int)),(21,.int .i64 (N:Int)),(22,.int .i64 (i.1:Int))]
   [(303,{els:=(mix BW (a+b) 0 (N+1) i.1).map fW,esz:=1,ety:=162,fro:=0,live:=true,arr:=true})]) (fun i=>N-i.1) ⟨0,Nat.zero_le _⟩ ?_ ?_
  ·refine Qan (θ:=[(303,303)]) rfl ?_ ?_
   ·simp [Qae,lkp,ren1,ren0,dw,Qlu]
   ·simp [Qaq,lkp,Box.renames]
  ·rintro⟨i,hi⟩
   have hml:=Qbd (B:=BW) (a+b) 0 (N+1) i
   have hset:=Qdw (B:=BW) (V:=a+b) (W:=a+b) (S:=0) (n:=N+1) (m:=i) (d:=(a+b)/BW^i%BW) (by decide) (by omega) rfl rfl
   obtain⟨e,hgo⟩: ∃e:Nat,((mix BW (a+b) 0 (N+1) i).map fW)[i]? =some (PV.int .u64 (e:Int)):=⟨_,by rw [List.getElem?_map,Qc1 _ _ _ _ _ (by omega)];rfl⟩
   have h0:(0≤(i:Int))=True:=by simp
   have hiN:((i:Int)<((N+1:Nat):Int))=True:=by simp only [eq_iff_iff,iff_true];omega
   by_cases hA:i<N
   ·have hA':((i:Int)<(N:Int))=True:=by simp;omega
    have hga:=Qas BW_2 (show i<(digs BW a).length by omega)
    have hwk:=Qak (a:=i) (by omega)
    have hcl:=Qso (B:=BW) (by decide) a b i
    obtain⟨s1,s2⟩:(a/BW^i%BW+b/BW^i%BW+carry BW a b i)%18446744073709551616=(a+b)/BW^i%BW∧(a/BW^i%BW+b/BW^i%BW+carry BW a b i)/18446744073709551616=carry BW a b (i+1):=Qsp (B:=BW) (by decide) a b i
    have hy0: ¬i<(digs BW b).length→b/BW^i%BW=0:=fun h=>by rw [Qb7 BW_2 (Nat.le_of_not_lt h),Nat.zero_mod]
    have hgb:i<(digs BW b).length→(digs BW b)[i]? =some (b/BW^i%BW):=fun h=>Qas BW_2 h
    have hc:=Qnf (a/BW^i%BW) (b/BW^i%BW) (carry BW a b i) hcl
    rw [s1,s2]at hc
    generalize a/BW^i%BW=x at*
    generalize b/BW^i%BW=y at*
    generalize (a+b)/BW^i%BW=z at*
    by_cases hB:i<(digs BW b).length
    ·have hB':((i:Int)<((digs BW b).length:Int))=True:=by simp;omega
     have hgb:=hgb hB
     simp -implicitDefEqProofs only [go_sem,Nat.reduceAdd,Nat.reduceMul,Nat.reduceEqDiff,Nat.reduceLT,Nat.reduceLeDiff,reduceCtorEq,dw,List.length_map,hA',hB',h0,Qb4,hga,hgb,Int.toNat_natCast]
     refine Qaf _ _ _ _ _ _ _ _ _ hc ?_
     simp -implicitDefEqProofs only [go_sem,Nat.reduceAdd,Nat.reduceMul,Nat.reduceEqDiff,Nat.reduceLT,Nat.reduceLeDiff,reduceIte,reduceCtorEq,hA',h0,hiN,Int.toNat_natCast,hwk,hgo,List.length_map,hml]
     refine⟨⟨i+1,hA⟩,by simp only;omega,?_⟩
     refine Qan (θ:=[(303,303)]) rfl ?_ ?_
     ·simp [Qae,lkp,ren1,ren0,dw]
     ·rw [Qco,hset]
      simp [Qaq,lkp,Box.renames]
    ·have hB':((i:Int)<((digs BW b).length:Int))=False:=by simp;omega
     obtain rfl:=hy0 hB
     simp -implicitDefEqProofs only [go_sem,Nat.reduceAdd,Nat.reduceMul,Nat.reduceEqDiff,Nat.reduceLT,Nat.reduceLeDiff,reduceCtorEq,dw,List.length_map,hA',hB',h0,Qb4,hga,Int.toNat_natCast]
     refine Qaf _ _ _ _ _ _ _ _ _ hc ?_
     simp -implicitDefEqProofs only [go_sem,Nat.reduceAdd,Nat.reduceMul,Nat.reduceEqDiff,Nat.reduceLT,Nat.reduceLeDiff,reduceIte,reduceCtorEq,hA',h0,hiN,Int.toNat_natCast,hwk,hgo,List.length_map,hml]
     refine⟨⟨i+1,hA⟩,by simp only;omega,?_⟩
     refine Qan (θ:=[(303,303)]) rfl ?_ ?_
     ·simp [Qae,lkp,ren1,ren0,dw]
     ·rw [Qco,hset]
      simp [Qaq,lkp,Box.renames]
   ·have hA':((i:Int)<(N:Int))=False:=by simp;omega
    obtain rfl:i=N:=by omega
    have hsum:(a+b)/BW^i<2:=Nat.div_lt_of_lt_mul (by omega)
    have hcN:carry BW a b i=(a+b)/BW^i%BW:=by
     rw [carry,Nat.mod_eq_of_lt hlt,Nat.mod_eq_of_lt hlt2,Nat.mod_eq_of_lt (Nat.lt_trans hsum (by decide))]
    have hm:mix BW (a+b) 0 (i+1) (i+1)=lows BW (a+b) (i+1):=Qfc (by decide) (by rw [Nat.pow_succ,←Nat.div_div_eq_div_mul,Nat.div_eq_of_lt (Nat.lt_trans hsum (by decide)),Nat.zero_div])
    rw [hm]at hset
    have htk:((lows BW (a+b) (i+1)).map fW).take (i+1)=(lows BW (a+b) (i+1)).map fW:=List.take_of_length_le (by simp [Qah])
    have hll:=Qah (B:=BW) (a+b) (i+1)
    have hbig:a+b<BW^(i+1):=by
     rw [Nat.pow_succ]
     have:BW^i*2≤BW^i*BW:=Nat.mul_le_mul_left _ (by decide)
     omega
    rw [hcN]
    simp -implicitDefEqProofs only [go_sem,Nat.reduceAdd,Nat.reduceMul,Nat.reduceEqDiff,Nat.reduceLT,Nat.reduceLeDiff,reduceIte,reduceCtorEq,dw,hA',h0,hiN,hN,Int.toNat_natCast,hgo,List.length_map,hml,Qco,hset,hll,htk]
    refine Qaf _ _ _ _ _ _ _ _ _ (Qcw (lows BW (a+b) (i+1)) (by rw [Qah];simp [maxLen];omega)) ?_
    simp -implicitDefEqProofs only [go_sem,Nat.reduceAdd,Nat.reduceEqDiff,Nat.reduceLT,reduceCtorEq,dw,List.length_map]
    rw [Qby BW_2,Nat.mod_eq_of_lt hbig]
end Go.Proofs.YtciddhkfbgkejaaGreatDoor

namespace Go.Proofs.YtciddhkfbgkejaaGreatDoor
open Go.Vl Go.RowKit Go.Dg
def nP (neg:Bool) (m:Nat):PV:= .agg [.bool neg,dw (digs BW m)]
def sv (neg:Bool) (m:Nat):Int:=if neg then -(m:Int)else m
theorem Ziq (neg:Bool) (m:Nat):Qag Tryz.prog 167 [nP neg m] (nP (!neg) m):=by
 refine Qad (tb:=[]) 9 [.cell 2 160] [0,1,2] mixed Tryz.func167 rfl (by kernel_rfl) (by kernel_rfl) (by kernel_rfl) (by kernel_rfl) ?_
 simp -implicitDefEqProofs only [go_sem,Nat.reduceAdd,Nat.reduceMul,Nat.reduceEqDiff,Nat.reduceLT,Nat.reduceLeDiff,reduceCtorEq,nP,dw]
theorem Zfl (neg:Bool) (m:Nat):Qag Tryz.prog 168 [nP neg m] (.int .i64 (sv neg m).sign):=by
 refine Qad (tb:=[]) 11 [.tmp 2] [0,1,2,3,8] mixed Tryz.func168 rfl (by kernel_rfl) (by kernel_rfl) (by kernel_rfl) (by kernel_rfl) ?_
 by_cases h0:m=0
 ·subst h0
  have h1:(((0:Nat):Int)==0)=true:=rfl
  have e:(sv neg 0).sign=0:=by cases neg<;>rfl
  rw [e]
  simp -implicitDefEqProofs only [go_sem,Nat.reduceAdd,Nat.reduceMul,Nat.reduceEqDiff,Nat.reduceLT,Nat.reduceLeDiff,reduceCtorEq,Int.reduceNeg,nP,dw,Qa8,List.map_nil,List.length_nil,h1]
 ·have h1:(((digs BW m).length:Int)==0)=false:=by
   have:=List.length_pos_iff.2 (mt (Qbc BW_2).1 h0)
   simp only [beq_eq_false_iff_ne,ne_eq];omega
  cases neg with
  |true=>
   have e:(sv true m).sign= -1:=Int.sign_eq_neg_one_of_neg (by simp [sv];omega)
   rw [e]
   simp -implicitDefEqProofs only [go_sem,Nat.reduceAdd,Nat.reduceMul,Nat.reduceEqDiff,Nat.reduceLT,Nat.reduceLeDiff,reduceCtorEq,Int.reduceNeg,nP,dw,List.length_map,h1]
  |false=>
   have e:(sv false m).sign=1:=Int.sign_eq_one_of_pos (by simp [sv];omega)
   rw [e]
   simp -implicitDefEqProofs only [go_sem,Nat.reduceAdd,Nat.reduceMul,Nat.reduceEqDiff,Nat.reduceLT,Nat.reduceLeDiff,reduceCtorEq,Int.reduceNeg,nP,dw,List.length_map,h1]
theorem Za5 (xn yn:Bool) (x y:Nat) (hx:(digs BW x).length≤1000000000) (hy:(digs BW y).length≤1000000000):
  ∃(n:Bool) (m:Nat),Qag Tryz.prog 159 [nP xn x,nP yn y] (nP n m)∧sv n m=sv xn x+sv yn y∧m≤x+y:=by
 cases hs:(xn==yn)with
 |true=>
  obtain rfl:xn=yn:=by simpa using hs
  refine⟨xn,x+y,?_,by cases xn<;>simp [sv]<;>omega,Nat.le_refl _⟩
  refine Qad (tb:=[]) 42 [.cell 4 160] [0,1,2,3,4,5,19] mixed Tryz.func159 rfl (by kernel_rfl) (by kernel_rfl) (by kernel_rfl) (by kernel_rfl) ?_
  simp -implicitDefEqProofs only [go_sem,Nat.reduceAdd,Nat.reduceMul,Nat.reduceEqDiff,Nat.reduceLT,Nat.reduceLeDiff,reduceCtorEq,nP,dw,hs]
  refine Qaf _ _ _ _ _ _ _ _ _ (Za4 x y hx hy) ?_
  simp -implicitDefEqProofs only [go_sem,Nat.reduceAdd,Nat.reduceEqDiff,Nat.reduceLT,Nat.reduceLeDiff,reduceCtorEq,nP,dw]
  exact Qaa _ _ (by kernel_rfl)
 |false=>
  have hne:yn= !xn:=by cases xn<;>cases yn<;>simp at hs ⊢
  by_cases hc:y≤x
  ·refine⟨xn,x-y,?_,by subst hne;cases xn<;>simp [sv]<;>omega,by omega⟩
   have h1:(0≤cmpW x y)=True:=by simp only [eq_iff_iff,iff_true];have:=Qdo x y;omega
   refine Qad (tb:=[]) 42 [.cell 4 160] [0,1,2,3,4,5,19] mixed Tryz.func159 rfl (by kernel_rfl) (by kernel_rfl) (by kernel_rfl) (by kernel_rfl) ?_
   simp -implicitDefEqProofs only [go_sem,Nat.reduceAdd,Nat.reduceMul,Nat.reduceEqDiff,Nat.reduceLT,Nat.reduceLeDiff,reduceCtorEq,nP,dw,hs]
   refine Qaf _ _ _ _ _ _ _ _ _ (Qc4 x y hx hy) ?_
   simp -implicitDefEqProofs only [go_sem,Nat.reduceAdd,Nat.reduceMul,Nat.reduceEqDiff,Nat.reduceLT,Nat.reduceLeDiff,reduceCtorEq,h1]
   refine Qaf _ _ _ _ _ _ _ _ _ (Qpe x y hc hx) ?_
   simp -implicitDefEqProofs only [go_sem,Nat.reduceAdd,Nat.reduceEqDiff,Nat.reduceLT,Nat.reduceLeDiff,reduceCtorEq,nP,dw]
   exact Qaa _ _ (by kernel_rfl)
  ·refine⟨yn,y-x,?_,by subst hne;cases xn<;>simp [sv]<;>omega,by omega⟩
   have h1:(0≤cmpW x y)=False:=by simp only [eq_iff_iff,iff_false];have:=Qdo x y;omega
   refine Qad (tb:=[]) 42 [.cell 4 160] [0,1,2,3,4,5,19] mixed Tryz.func159 rfl (by kernel_rfl) (by kernel_rfl) (by kernel_rfl) (by kernel_rfl) ?_
   simp -implicitDefEqProofs only [go_sem,Nat.reduceAdd,Nat.reduceMul,Nat.reduceEqDiff,Nat.reduceLT,Nat.reduceLeDiff,reduceCtorEq,nP,dw,hs]
   refine Qaf _ _ _ _ _ _ _ _ _ (Qc4 x y hx hy) ?_
   simp -implicitDefEqProofs only [go_sem,Nat.reduceAdd,Nat.reduceMul,Nat.reduceEqDiff,Nat.reduceLT,Nat.reduceLeDiff,reduceCtorEq,h1]
   refine Qaf _ _ _ _ _ _ _ _ _ (Qpe y x (by omega) hy) ?_
   simp -implicitDefEqProofs only [go_sem,Nat.reduceAdd,Nat.reduceEqDiff,Nat.reduceLT,Nat.reduceLeDiff,reduceCtorEq,nP,dw]
   exact Qaa _ _ (by kernel_rfl)
def Qbq (neg:Bool) (l:List UInt8):Bool:=match l with
 | []=> !neg
 |b::_=>decide (l.length≤8192)&&b != 0
theorem Zfm {s:ByteArray} {b:UInt8} {r:List UInt8} (h:s.data.toList=b::r):s[0]? =some b:=by
 rw [Qoe s 0 (by rw [h];simp)]
 simp only [h,List.getElem_cons_zero]
theorem Qrj (b:UInt8):((b.toNat:Int) != 0)=(b != 0):=by
 by_cases h:b=0
 ·subst h;rfl
 ·have:b.toNat≠0:=fun e=>h (UInt8.toNat_inj.1 (by simpa using e))
  have h1:((b.toNat:Int) != 0)=true:=by simp;omega
  have h2:(b != 0)=true:=by simp [h]
  rw [h1,h2]
end Go.Proofs.YtciddhkfbgkejaaGreatDoor

namespace Go.Proofs.YtciddhkfbgkejaaGreatDoor
open Go.Vl Go.RowKit Go.Dg
theorem Qnl (neg:Bool) (s:ByteArray):Qag Tryz.prog 110 [.agg [.bool neg,.str s]] (.bool (Qbq neg s.data.toList)):=by
 have hz:=Qjx s
 cases h:s.data.toList with
 |nil=>
  have h1:(([]:List UInt8)== [])=true:=rfl
  refine Qad (tb:=[]) 19 [.tmp 2] [0,1,2,5] mixed Tryz.func110 rfl (by kernel_rfl) (by kernel_rfl) (by kernel_rfl) (by kernel_rfl) ?_
  simp -implicitDefEqProofs only [go_sem,Nat.reduceAdd,Nat.reduceMul,Nat.reduceEqDiff,Nat.reduceLT,Nat.reduceLeDiff,reduceCtorEq,Qbq,h,h1]
 |cons b r=>
  have h0:=Zfm h
  have hne:(b::r== [])=false:=rfl
  rw [h]at hz
  refine Qad (tb:=[]) 19 [.tmp 2] [0,1,2,5] mixed Tryz.func110 rfl (by kernel_rfl) (by kernel_rfl) (by kernel_rfl) (by kernel_rfl) ?_
  by_cases hb:(b != 0)=true
  ·by_cases h2:(b::r).length≤8192
   ·have h2':((s.size:Int)≤8192)=True:=by rw [hz];simp only [eq_iff_iff,iff_true];omega
    have e:Qbq neg (b::r)=true:=by simp only [Qbq,h2,decide_true,Bool.true_and,hb]
    rw [e]
    simp -implicitDefEqProofs only [go_sem,Nat.reduceAdd,Nat.reduceMul,Nat.reduceEqDiff,Nat.reduceLT,Nat.reduceLeDiff,reduceCtorEq,h,hne,h2',h0,Qrj,hb]
   ·have h2':((s.size:Int)≤8192)=False:=by rw [hz];simp only [eq_iff_iff,iff_false];omega
    have e:Qbq neg (b::r)=false:=by simp only [Qbq,h2,decide_false,Bool.false_and]
    rw [e]
    simp -implicitDefEqProofs only [go_sem,Nat.reduceAdd,Nat.reduceMul,Nat.reduceEqDiff,Nat.reduceLT,Nat.reduceLeDiff,reduceCtorEq,h,hne,h2',h0,Qrj,hb]
  ·have hb':(b != 0)=false:=by simpa using hb
   have e:Qbq neg (b::r)=false:=by simp only [Qbq,hb',Bool.and_false]
   rw [e]
   simp -implicitDefEqProofs only [go_sem,Nat.reduceAdd,Nat.reduceMul,Nat.reduceEqDiff,Nat.reduceLT,Nat.reduceLeDiff,reduceCtorEq,h,hne,h0,Qrj,hb']
theorem Qpf (an bn:Bool) (a b:ByteArray):Qag Tryz.prog 157 [.agg [.bool an,.str a],.agg [.bool bn,.str b]] (.bool (Qbq an a.data.toList&&Qbq bn b.data.toList)):=by
 refine Qad (tb:=[]) 11 [.tmp 4] [0,1,2,3,4] mixed Tryz.func157 rfl (by kernel_rfl) (by kernel_rfl) (by kernel_rfl) (by kernel_rfl) ?_
 simp -implicitDefEqProofs only [go_sem,Nat.reduceAdd,Nat.reduceMul,Nat.reduceEqDiff,Nat.reduceLT,Nat.reduceLeDiff,reduceCtorEq]
 refine Qaf _ _ _ _ _ _ _ _ _ (Qnl an a) ?_
 cases h:Qbq an a.data.toList with
 |true=>
  simp -implicitDefEqProofs only [go_sem,Nat.reduceAdd,Nat.reduceEqDiff,Nat.reduceLT,reduceCtorEq,Bool.true_and]
  refine Qaf _ _ _ _ _ _ _ _ _ (Qnl bn b) ?_
  simp -implicitDefEqProofs only [go_sem,Nat.reduceAdd,Nat.reduceEqDiff,Nat.reduceLT,reduceCtorEq]
 |false=>
  simp -implicitDefEqProofs only [go_sem,Nat.reduceAdd,Nat.reduceEqDiff,Nat.reduceLT,reduceCtorEq,Bool.false_and]
end Go.Proofs.YtciddhkfbgkejaaGreatDoor

namespace Go.Proofs.YtciddhkfbgkejaaGreatDoor
open Go.Vl Go.RowKit Go.Dg
def Qnm (T:List UInt8):Bool:=(List.range 256).all fun x=>match T[x]? with
 |some t=>decide (x<2^t.toNat)&&(decide (x=0∧t.toNat=0)||decide (2^(t.toNat-1)≤x∧0<t.toNat))
 |none=>false
theorem Qde {s:ByteArray} (h:Qnm s.data.toList=true) {x:Nat} (hx:x<256): ∃t:UInt8,s[x]? =some t∧t.toNat=blen x:=by
 have h1:=List.all_eq_true.1 h x (by simpa using hx)
 cases ht:s.data.toList[x]? with
 |none=>rw [ht]at h1;cases h1
 |some t=>
  rw [ht]at h1
  simp only [Bool.and_eq_true,Bool.or_eq_true,decide_eq_true_eq]at h1
  have hl:=(List.getElem?_eq_some_iff.1 ht)
  refine⟨t,by rw [Qoe s x hl.1];rw [←List.getElem?_eq_getElem hl.1,ht],?_⟩
  obtain⟨h1,h2⟩:=h1
  have:=Qdh _ _ h1
  rcases h2 with⟨rfl,h2⟩|⟨h2,h3⟩
  ·rw [h2,Qe9]
  ·have:=Qjy _ _ h2
   omega
theorem Qhg (n k:Nat):(n:Int).fdiv (2^k)=((n/2^k:Nat):Int):=by
 rw [Int.fdiv_eq_ediv_of_nonneg _ (Int.pow_nonneg (by decide))]
 simp
theorem Qip (n:Nat):(n:Int).fdiv (2^min 16 64)=((n/65536:Nat):Int):=by
 rw [Int.fdiv_eq_ediv_of_nonneg _ (by decide)];rfl
theorem Qpg (n:Nat):(n:Int).fdiv (2^min 8 64)=((n/256:Nat):Int):=by
 rw [Int.fdiv_eq_ediv_of_nonneg _ (by decide)];rfl
theorem Q2f (x:Nat) (hx:x<18446744073709551616):Qag Tryz.prog 188 [.int .u64 (x:Int)] (.int .i64 (blen x:Int)):=by
 have wc8:IntKind.i64.wrap 8=8:=rfl
 have wc16:IntKind.i64.wrap 16=16:=rfl
 have wc24:IntKind.i64.wrap 24=24:=rfl
 have wc32:IntKind.i64.wrap 32=32:=rfl
 have wc40:IntKind.i64.wrap 40=40:=rfl
 have wc48:IntKind.i64.wrap 48=48:=rfl
 have wc56:IntKind.i64.wrap 56=56:=rfl
 by_cases q32:4294967296≤x
 ·have h32:(4294967296≤((x:Nat):Int))=True:=by simp only [eq_iff_iff,iff_true];omega
  by_cases q16:65536≤x/4294967296
  ·have h16:(65536≤((x/4294967296:Nat):Int))=True:=by simp only [eq_iff_iff,iff_true];omega
   by_cases q8:256≤(x/4294967296)/65536
   ·have h8:(256≤(((x/4294967296)/65536:Nat):Int))=True:=by simp only [eq_iff_iff,iff_true];omega
    have hx8:((x/4294967296)/65536)/256<256:=by omega
    have hw:=Qfg hx8
    have h0:(0≤((((x/4294967296)/65536)/256:Nat):Int))=True:=by simp only [eq_iff_iff,iff_true];exact Int.natCast_nonneg _
    have hb:blen x=blen (((x/4294967296)/65536)/256)+56:=by have:=Qdm 56 x (by simp only [Nat.reducePow];omega);simp only [Nat.reducePow]at this;rw [this,show((x/4294967296)/65536)/256=x/72057594037927936 by omega]
    refine Qad (tb:=[]) 25 [.tmp 2] [0,2,4,8,14] mixed Tryz.func188 rfl (by kernel_rfl) (by kernel_rfl) (by kernel_rfl) (by kernel_rfl) ?_
    simp -implicitDefEqProofs only [go_sem,Nat.reduceAdd,Nat.reduceMul,Nat.reduceEqDiff,Nat.reduceLT,Nat.reduceLeDiff,reduceCtorEq,Int.reduceLT,Int.reduceToNat,Int.reduceAdd,h32,h16,h8,Qgt,Qip,Qpg,hw,h0,Int.toNat_natCast,wc8,wc16,wc24,wc32,wc40,wc48,wc56]
    generalize hT:ByteArray.mk _=T
    have hok:Qnm T.data.toList=true:=by rw [←hT];kernel_rfl
    obtain⟨t,ht,htb⟩:=Qde hok hx8
    clear hT
    have hw2:IntKind.i64.wrap (t.toNat:Int)=(t.toNat:Int):=wrapn (by have:=t.toNat_lt;omega)
    have hw3:IntKind.i64.wrap (56+(t.toNat:Int))=((blen x:Nat):Int):=by rw [Qai (by have:=t.toNat_lt;omega) (by have:=t.toNat_lt;omega),hb,←htb];omega
    rw [htb]at hw2 hw3
    simp -implicitDefEqProofs only [go_sem,Nat.reduceAdd,Nat.reduceEqDiff,Nat.reduceLT,reduceCtorEq,ht,hw2,hw3,htb,wc8,wc16,wc24,wc32,wc40,wc48,wc56]
   ·have h8:(256≤(((x/4294967296)/65536:Nat):Int))=False:=by simp only [eq_iff_iff,iff_false];omega
    have hx8:(x/4294967296)/65536<256:=by omega
    have hw:=Qfg hx8
    have h0:(0≤(((x/4294967296)/65536:Nat):Int))=True:=by simp only [eq_iff_iff,iff_true];exact Int.natCast_nonneg _
    have hb:blen x=blen ((x/4294967296)/65536)+48:=by have:=Qdm 48 x (by simp only [Nat.reducePow];omega);simp only [Nat.reducePow]at this;rw [this,show(x/4294967296)/65536=x/281474976710656 by omega]
    refine Qad (tb:=[]) 25 [.tmp 2] [0,2,4,8,14] mixed Tryz.func188 rfl (by kernel_rfl) (by kernel_rfl) (by kernel_rfl) (by kernel_rfl) ?_
    simp -implicitDefEqProofs only [go_sem,Nat.reduceAdd,Nat.reduceMul,Nat.reduceEqDiff,Nat.reduceLT,Nat.reduceLeDiff,reduceCtorEq,Int.reduceLT,Int.reduceToNat,Int.reduceAdd,h32,h16,h8,Qgt,Qip,Qpg,hw,h0,Int.toNat_natCast,wc8,wc16,wc24,wc32,wc40,wc48,wc56]
    generalize hT:ByteArray.mk _=T
    have hok:Qnm T.data.toList=true:=by rw [←hT];kernel_rfl
    obtain⟨t,ht,htb⟩:=Qde hok hx8
    clear hT
    have hw2:IntKind.i64.wrap (t.toNat:Int)=(t.toNat:Int):=wrapn (by have:=t.toNat_lt;omega)
    have hw3:IntKind.i64.wrap (48+(t.toNat:Int))=((blen x:Nat):Int):=by rw [Qai (by have:=t.toNat_lt;omega) (by have:=t.toNat_lt;omega),hb,←htb];omega
    rw [htb]at hw2 hw3
    simp -implicitDefEqProofs only [go_sem,Nat.reduceAdd,Nat.reduceEqDiff,Nat.reduceLT,reduceCtorEq,ht,hw2,hw3,htb,wc8,wc16,wc24,wc32,wc40,wc48,wc56]
  ·have h16:(65536≤((x/4294967296:Nat):Int))=False:=by simp only [eq_iff_iff,iff_false];omega
   by_cases q8:256≤x/4294967296
   ·have h8:(256≤((x/4294967296:Nat):Int))=True:=by simp only [eq_iff_iff,iff_true];omega
    have hx8:(x/4294967296)/256<256:=by omega
    have hw:=Qfg hx8
    have h0:(0≤(((x/4294967296)/256:Nat):Int))=True:=by simp only [eq_iff_iff,iff_true];exact Int.natCast_nonneg _
    have hb:blen x=blen ((x/4294967296)/256)+40:=by have:=Qdm 40 x (by simp only [Nat.reducePow];omega);simp only [Nat.reducePow]at this;rw [this,show(x/4294967296)/256=x/1099511627776 by omega]
    refine Qad (tb:=[]) 25 [.tmp 2] [0,2,4,8,14] mixed Tryz.func188 rfl (by kernel_rfl) (by kernel_rfl) (by kernel_rfl) (by kernel_rfl) ?_
    simp -implicitDefEqProofs only [go_sem,Nat.reduceAdd,Nat.reduceMul,Nat.reduceEqDiff,Nat.reduceLT,Nat.reduceLeDiff,reduceCtorEq,Int.reduceLT,Int.reduceToNat,Int.reduceAdd,h32,h16,h8,Qgt,Qip,Qpg,hw,h0,Int.toNat_natCast,wc8,wc16,wc24,wc32,wc40,wc48,wc56]
    generalize hT:ByteArray.mk _=T
    have hok:Qnm T.data.toList=true:=by rw [←hT];kernel_rfl
    obtain⟨t,ht,htb⟩:=Qde hok hx8
    clear hT
    have hw2:IntKind.i64.wrap (t.toNat:Int)=(t.toNat:Int):=wrapn (by have:=t.toNat_lt;omega)
    have hw3:IntKind.i64.wrap (40+(t.toNat:Int))=((blen x:Nat):Int):=by rw [Qai (by have:=t.toNat_lt;omega) (by have:=t.toNat_lt;omega),hb,←htb];omega
    rw [htb]at hw2 hw3
    simp -implicitDefEqProofs only [go_sem,Nat.reduceAdd,Nat.reduceEqDiff,Nat.reduceLT,reduceCtorEq,ht,hw2,hw3,htb,wc8,wc16,wc24,wc32,wc40,wc48,wc56]
   ·have h8:(256≤((x/4294967296:Nat):Int))=False:=by simp only [eq_iff_iff,iff_false];omega
    have hx8:x/4294967296<256:=by omega
    have hw:=Qfg hx8
    have h0:(0≤((x/4294967296:Nat):Int))=True:=by simp only [eq_iff_iff,iff_true];exact Int.natCast_nonneg _
    have hb:blen x=blen (x/4294967296)+32:=by have:=Qdm 32 x (by simp only [Nat.reducePow];omega);simp only [Nat.reducePow]at this;rw [this,show x/4294967296=x/4294967296 by omega]
    refine Qad (tb:=[]) 25 [.tmp 2] [0,2,4,8,14] mixed Tryz.func188 rfl (by kernel_rfl) (by kernel_rfl) (by kernel_rfl) (by kernel_rfl) ?_
    simp -implicitDefEqProofs only [go_sem,Nat.reduceAdd,Nat.reduceMul,Nat.reduceEqDiff,Nat.reduceLT,Nat.reduceLeDiff,reduceCtorEq,Int.reduceLT,Int.reduceToNat,h32,h16,h8,Qgt,Qip,Qpg,hw,h0,Int.toNat_natCast,wc8,wc16,wc24,wc32,wc40,wc48,wc56]
    generalize hT:ByteArray.mk _=T
    have hok:Qnm T.data.toList=true:=by rw [←hT];kernel_rfl
    obtain⟨t,ht,htb⟩:=Qde hok hx8
    clear hT
    have hw2:IntKind.i64.wrap (t.toNat:Int)=(t.toNat:Int):=wrapn (by have:=t.toNat_lt;omega)
    have hw3:IntKind.i64.wrap (32+(t.toNat:Int))=((blen x:Nat):Int):=by rw [Qai (by have:=t.toNat_lt;omega) (by have:=t.toNat_lt;omega),hb,←htb];omega
    rw [htb]at hw2 hw3
    simp -implicitDefEqProofs only [go_sem,Nat.reduceAdd,Nat.reduceEqDiff,Nat.reduceLT,reduceCtorEq,ht,hw2,hw3,htb,wc8,wc16,wc24,wc32,wc40,wc48,wc56]
 ·have h32:(4294967296≤((x:Nat):Int))=False:=by simp only [eq_iff_iff,iff_false];omega
  by_cases q16:65536≤x
  ·have h16:(65536≤((x:Nat):Int))=True:=by simp only [eq_iff_iff,iff_true];omega
   by_cases q8:256≤x/65536
   ·have h8:(256≤((x/65536:Nat):Int))=True:=by simp only [eq_iff_iff,iff_true];omega
    have hx8:(x/65536)/256<256:=by omega
    have hw:=Qfg hx8
    have h0:(0≤(((x/65536)/256:Nat):Int))=True:=by simp only [eq_iff_iff,iff_true];exact Int.natCast_nonneg _
    have hb:blen x=blen ((x/65536)/256)+24:=by have:=Qdm 24 x (by simp only [Nat.reducePow];omega);simp only [Nat.reducePow]at this;rw [this,show(x/65536)/256=x/16777216 by omega]
    refine Qad (tb:=[]) 25 [.tmp 2] [0,2,4,8,14] mixed Tryz.func188 rfl (by kernel_rfl) (by kernel_rfl) (by kernel_rfl) (by kernel_rfl) ?_
    simp -implicitDefEqProofs only [go_sem,Nat.reduceAdd,Nat.reduceMul,Nat.reduceEqDiff,Nat.reduceLT,Nat.reduceLeDiff,reduceCtorEq,Int.reduceLT,Int.reduceToNat,Int.reduceAdd,h32,h16,h8,Qgt,Qip,Qpg,hw,h0,Int.toNat_natCast,wc8,wc16,wc24,wc32,wc40,wc48,wc56]
    generalize hT:ByteArray.mk _=T
    have hok:Qnm T.data.toList=true:=by rw [←hT];kernel_rfl
    obtain⟨t,ht,htb⟩:=Qde hok hx8
    clear hT
    have hw2:IntKind.i64.wrap (t.toNat:Int)=(t.toNat:Int):=wrapn (by have:=t.toNat_lt;omega)
    have hw3:IntKind.i64.wrap (24+(t.toNat:Int))=((blen x:Nat):Int):=by rw [Qai (by have:=t.toNat_lt;omega) (by have:=t.toNat_lt;omega),hb,←htb];omega
    rw [htb]at hw2 hw3
    simp -implicitDefEqProofs only [go_sem,Nat.reduceAdd,Nat.reduceEqDiff,Nat.reduceLT,reduceCtorEq,ht,hw2,hw3,htb,wc8,wc16,wc24,wc32,wc40,wc48,wc56]
   ·have h8:(256≤((x/65536:Nat):Int))=False:=by simp only [eq_iff_iff,iff_false];omega
    have hx8:x/65536<256:=by omega
    have hw:=Qfg hx8
    have h0:(0≤((x/65536:Nat):Int))=True:=by simp only [eq_iff_iff,iff_true];exact Int.natCast_nonneg _
    have hb:blen x=blen (x/65536)+16:=by have:=Qdm 16 x (by simp only [Nat.reducePow];omega);simp only [Nat.reducePow]at this;rw [this,show x/65536=x/65536 by omega]
    refine Qad (tb:=[]) 25 [.tmp 2] [0,2,4,8,14] mixed Tryz.func188 rfl (by kernel_rfl) (by kernel_rfl) (by kernel_rfl) (by kernel_rfl) ?_
    simp -implicitDefEqProofs only [go_sem,Nat.reduceAdd,Nat.reduceMul,Nat.reduceEqDiff,Nat.reduceLT,Nat.reduceLeDiff,reduceCtorEq,Int.reduceLT,Int.reduceToNat,Int.reduceAdd,h32,h16,h8,Qgt,Qip,Qpg,hw,h0,Int.toNat_natCast,wc8,wc16,wc24,wc32,wc40,wc48,wc56]
    generalize hT:ByteArray.mk _=T
    have hok:Qnm T.data.toList=true:=by rw [←hT];kernel_rfl
    obtain⟨t,ht,htb⟩:=Qde hok hx8
    clear hT
    have hw2:IntKind.i64.wrap (t.toNat:Int)=(t.toNat:Int):=wrapn (by have:=t.toNat_lt;omega)
    have hw3:IntKind.i64.wrap (16+(t.toNat:Int))=((blen x:Nat):Int):=by rw [Qai (by have:=t.toNat_lt;omega) (by have:=t.toNat_lt;omega),hb,←htb];omega
    rw [htb]at hw2 hw3
    simp -implicitDefEqProofs only [go_sem,Nat.reduceAdd,Nat.reduceEqDiff,Nat.reduceLT,reduceCtorEq,ht,hw2,hw3,htb,wc8,wc16,wc24,wc32,wc40,wc48,wc56]
  ·have h16:(65536≤((x:Nat):Int))=False:=by simp only [eq_iff_iff,iff_false];omega
   by_cases q8:256≤x
   ·have h8:(256≤((x:Nat):Int))=True:=by simp only [eq_iff_iff,iff_true];omega
    have hx8:x/256<256:=by omega
    have hw:=Qfg hx8
    have h0:(0≤((x/256:Nat):Int))=True:=by simp only [eq_iff_iff,iff_true];exact Int.natCast_nonneg _
    have hb:blen x=blen (x/256)+8:=by have:=Qdm 8 x (by simp only [Nat.reducePow];omega);simp only [Nat.reducePow]at this;rw [this,show x/256=x/256 by omega]
    refine Qad (tb:=[]) 25 [.tmp 2] [0,2,4,8,14] mixed Tryz.func188 rfl (by kernel_rfl) (by kernel_rfl) (by kernel_rfl) (by kernel_rfl) ?_
    simp -implicitDefEqProofs only [go_sem,Nat.reduceAdd,Nat.reduceMul,Nat.reduceEqDiff,Nat.reduceLT,Nat.reduceLeDiff,reduceCtorEq,Int.reduceLT,Int.reduceToNat,Int.reduceAdd,h32,h16,h8,Qgt,Qip,Qpg,hw,h0,Int.toNat_natCast,wc8,wc16,wc24,wc32,wc40,wc48,wc56]
    generalize hT:ByteArray.mk _=T
    have hok:Qnm T.data.toList=true:=by rw [←hT];kernel_rfl
    obtain⟨t,ht,htb⟩:=Qde hok hx8
    clear hT
    have hw2:IntKind.i64.wrap (t.toNat:Int)=(t.toNat:Int):=wrapn (by have:=t.toNat_lt;omega)
    have hw3:IntKind.i64.wrap (8+(t.toNat:Int))=((blen x:Nat):Int):=by rw [Qai (by have:=t.toNat_lt;omega) (by have:=t.toNat_lt;omega),hb,←htb];omega
    rw [htb]at hw2 hw3
    simp -implicitDefEqProofs only [go_sem,Nat.reduceAdd,Nat.reduceEqDiff,Nat.reduceLT,reduceCtorEq,ht,hw2,hw3,htb,wc8,wc16,wc24,wc32,wc40,wc48,wc56]
   ·have h8:(256≤((x:Nat):Int))=False:=by simp only [eq_iff_iff,iff_false];omega
    have hx8:x<256:=by omega
    have hw:=Qfg hx8
    have h0:(0≤((x:Nat):Int))=True:=by simp only [eq_iff_iff,iff_true];exact Int.natCast_nonneg _
    have hb:blen x=blen (x)+0:=by rfl
    refine Qad (tb:=[]) 25 [.tmp 2] [0,2,4,8,14] mixed Tryz.func188 rfl (by kernel_rfl) (by kernel_rfl) (by kernel_rfl) (by kernel_rfl) ?_
    simp -implicitDefEqProofs only [go_sem,Nat.reduceAdd,Nat.reduceMul,Nat.reduceEqDiff,Nat.reduceLT,Nat.reduceLeDiff,reduceCtorEq,h32,h16,h8,Qgt,Qip,Qpg,hw,h0,Int.toNat_natCast,wc8,wc16,wc24,wc32,wc40,wc48,wc56]
    generalize hT:ByteArray.mk _=T
    have hok:Qnm T.data.toList=true:=by rw [←hT];kernel_rfl
    obtain⟨t,ht,htb⟩:=Qde hok hx8
    clear hT
    have hw2:IntKind.i64.wrap (t.toNat:Int)=(t.toNat:Int):=wrapn (by have:=t.toNat_lt;omega)
    have hw3:IntKind.i64.wrap (0+(t.toNat:Int))=((blen x:Nat):Int):=by rw [Qai (by have:=t.toNat_lt;omega) (by have:=t.toNat_lt;omega),hb,←htb];omega
    rw [htb]at hw2 hw3
    simp -implicitDefEqProofs only [go_sem,Nat.reduceAdd,Nat.reduceEqDiff,Nat.reduceLT,reduceCtorEq,ht,hw2,hw3,htb,wc8,wc16,wc24,wc32,wc40,wc48,wc56]
end Go.Proofs.YtciddhkfbgkejaaGreatDoor

namespace Go.Proofs.YtciddhkfbgkejaaGreatDoor
open Go.Vl Go.RowKit Go.Dg
theorem Q2g (x:Nat) (hx:x<18446744073709551616):Qag Tryz.prog 204 [.int .u64 (x:Int)] (.int .i64 ((64-blen x:Nat):Int)):=by
 have hb:=Qdh 64 x hx
 have hw:IntKind.i64.wrap (64-((blen x:Nat):Int))=((64-blen x:Nat):Int):=by rw [Qai (by omega) (by omega)];omega
 refine Qad (tb:=[]) 6 [.tmp 2] [0,2] mixed Tryz.func204 rfl (by kernel_rfl) (by kernel_rfl) (by kernel_rfl) (by kernel_rfl) ?_
 simp -implicitDefEqProofs only [go_sem,Nat.reduceAdd,Nat.reduceMul,Nat.reduceEqDiff,Nat.reduceLT,Nat.reduceLeDiff,reduceCtorEq]
 refine Qaf _ _ _ _ _ _ _ _ _ (Q2f x hx) ?_
 simp -implicitDefEqProofs only [go_sem,Nat.reduceAdd,Nat.reduceEqDiff,Nat.reduceLT,reduceCtorEq,hw]
theorem Q2h (m:Nat) (hl:(digs BW m).length≤1000000000):Qag Tryz.prog 176 [dw (digs BW m)] (.int .i64 (blen m:Int)):=by
 refine Qad (tb:=[]) 17 [.tmp 2] [0,2,5] mixed Tryz.func176 rfl (by kernel_rfl) (by kernel_rfl) (by kernel_rfl) (by kernel_rfl) ?_
 by_cases h0:m=0
 ·subst h0
  have h1:(((0:Nat):Int)==0)=true:=rfl
  simp -implicitDefEqProofs only [go_sem,Nat.reduceAdd,Nat.reduceMul,Nat.reduceEqDiff,Nat.reduceLT,Nat.reduceLeDiff,reduceCtorEq,dw,Qa8,List.map_nil,List.length_nil,h1,Qe9]
  rfl
 ·have hp:0<(digs BW m).length:=List.length_pos_iff.2 (mt (Qbc BW_2).1 h0)
  have h1:(((digs BW m).length:Int)==0)=false:=by simp only [beq_eq_false_iff_ne,ne_eq];omega
  have ht:=Qdb BW_2 h0
  have hg:=Qas (n:=m) (k:=(digs BW m).length-1) BW_2 (by omega)
  rw [Nat.mod_eq_of_lt ht.2]at hg
  have hb:blen m=blen (m/BW^((digs BW m).length-1))+64*((digs BW m).length-1):=Qsf h0 64 (by decide)
  generalize m/BW^((digs BW m).length-1)=t at*
  have htl:=Qdh 64 t ht.2
  generalize hL:(digs BW m).length=L at*
  have hw1:IntKind.i64.wrap ((L:Int)*64)=((L*64:Nat):Int):=by rw [Qai (by omega) (by omega)];omega
  have hw2:IntKind.i64.wrap ((L:Int)-1)=((L-1:Nat):Int):=by rw [Qai (by omega) (by omega)];omega
  have hw3:IntKind.i64.wrap (((L*64:Nat):Int)-((64-blen t:Nat):Int))=((blen m:Nat):Int):=by rw [Qai (by omega) (by omega),hb];omega
  have h2:(0≤((L-1:Nat):Int))=True:=by simp only [eq_iff_iff,iff_true];exact Int.natCast_nonneg _
  simp -implicitDefEqProofs only [go_sem,Nat.reduceAdd,Nat.reduceMul,Nat.reduceEqDiff,Nat.reduceLT,Nat.reduceLeDiff,reduceCtorEq,dw,List.length_map,hL,h1,hw1,hw2,h2,Qb4,hg,Int.toNat_natCast]
  refine Qaf _ _ _ _ _ _ _ _ _ (Q2g t ht.2) ?_
  simp -implicitDefEqProofs only [go_sem,Nat.reduceAdd,Nat.reduceEqDiff,Nat.reduceLT,reduceCtorEq,hw3]
end Go.Proofs.YtciddhkfbgkejaaGreatDoor

namespace Go.Dg
abbrev WB:Nat:=18446744073709551616
theorem Zgj (m:Nat) (hm:m<8):WB=256^(m+1)*256^(7-m):=by
 rw [←Nat.pow_add,show m+1+(7-m)=8 by omega]
theorem Qmu (T b m j:Nat):256^(8*j+m+1)*T+b*256^(8*j+m)=WB^j*(256^(m+1)*T+b*256^m):=by
 have e:WB^j=256^(8*j):=by rw [Nat.pow_mul]
 rw [e,Nat.mul_add,←Nat.mul_assoc,←Nat.pow_add,Nat.mul_left_comm (256^(8*j)) b,←Nat.pow_add,Nat.add_assoc]
theorem Qlt (T b m j:Nat) (hb:b<256) (hm:m<8):
  (256^(8*j+m+1)*T+b*256^(8*j+m))/WB^j%WB=256^(m+1)*(T%256^(7-m))+b*256^m:=by
 have hp:0<256^m:=Nat.pow_pos (by decide)
 have hlt:b*256^m<256^(m+1):=by rw [Nat.pow_succ,Nat.mul_comm];exact Nat.mul_lt_mul_of_pos_left hb hp
 rw [Qmu,Nat.mul_div_cancel_left _ (Nat.pow_pos (by decide)),Zgj m hm]
 generalize b*256^m=r at*
 generalize 256^(m+1)=A at*
 generalize 256^(7-m)=q at*
 have hA:0<A:=by omega
 rw [Nat.mod_mul,Nat.mul_add_mod,Nat.mod_eq_of_lt hlt,Nat.mul_add_div hA,Nat.div_eq_of_lt hlt,Nat.add_zero,Nat.add_comm]
theorem Qqm (T b m j i:Nat) (hb:b<256) (hm:m<8) (hi:i≠j):
  (256^(8*j+m+1)*T+b*256^(8*j+m))/WB^i%WB=(256^(8*j+m+1)*T)/WB^i%WB:=by
 have hp:0<256^m:=Nat.pow_pos (by decide)
 have hlt:b*256^m<256^(m+1):=by rw [Nat.pow_succ,Nat.mul_comm];exact Nat.mul_lt_mul_of_pos_left hb hp
 have e2:=Qmu T 0 m j
 rw [Nat.zero_mul,Nat.add_zero,Nat.zero_mul,Nat.add_zero]at e2
 rw [Qmu,e2]
 rcases Nat.lt_or_gt_of_ne hi with h|h
 ·obtain⟨d,rfl⟩:=Nat.exists_eq_add_of_lt h
  have e: ∀X:Nat,WB^(i+d+1)*X/WB^i%WB=0:=by
   intro X
   rw [show i+d+1=i+(d+1)by omega,Nat.pow_add,Nat.mul_assoc,Nat.mul_div_cancel_left _ (Nat.pow_pos (by decide)),Nat.pow_succ,Nat.mul_comm (WB^d),Nat.mul_assoc,Nat.mul_mod_right]
  rw [e,e]
 ·obtain⟨d,rfl⟩:=Nat.exists_eq_add_of_lt h
  have e: ∀X:Nat,WB^j*X/WB^(j+d+1)=X/WB/WB^d:=by
   intro X
   rw [show j+d+1=j+(1+d)by omega,Nat.pow_add,Nat.mul_div_mul_left _ _ (Nat.pow_pos (by decide)),Nat.pow_add,Nat.pow_one,Nat.div_div_eq_div_mul]
  rw [e,e]
  congr 2
  rw [Zgj m hm]
  generalize b*256^m=r at*
  generalize 256^(m+1)=A at*
  generalize 256^(7-m)=q at*
  have hA:0<A:=by omega
  rw [←Nat.div_div_eq_div_mul,←Nat.div_div_eq_div_mul,Nat.mul_add_div hA,Nat.div_eq_of_lt hlt,Nat.add_zero,Nat.add_zero,Nat.mul_div_cancel_left _ hA]
end Go.Dg

namespace Go.Proofs.YtciddhkfbgkejaaGreatDoor
open Go.Vl Go.RowKit Go.Dg
theorem Q9l {P:Program} {t:TypeId} (x y:Nat):Qbr .or t P (.int .u64 (x:Int)) (.int .u64 (y:Int))=some (.int .u64 (((x%18446744073709551616) ||| (y%18446744073709551616):Nat):Int)):=by
 rw [b_or]
 have h:(BitVec.ofInt IntKind.u64.bits (x:Int) ||| BitVec.ofInt IntKind.u64.bits (y:Int)).toNat=(x%18446744073709551616) ||| (y%18446744073709551616):=by
  rw [BitVec.toNat_or]
  have h1: ∀n:Nat,(BitVec.ofInt IntKind.u64.bits (n:Int)).toNat=n%18446744073709551616:=by intro n;show(BitVec.ofInt 64 (n:Int)).toNat=_;simp
  rw [h1,h1]
 rw [h,Qc6,Nat.mod_eq_of_lt (Nat.or_lt_two_pow (n:=64) (Nat.mod_lt _ (by decide)) (Nat.mod_lt _ (by decide)))]
theorem Qkk (x k:Nat):IntKind.u64.wrap ((x:Int)*2^k)=((x*2^k%18446744073709551616:Nat):Int):=by
 rw [←Qc6];congr 1
theorem Q9m (n:Nat):Int.tdiv (n:Int) 8=((n/8:Nat):Int):=by
 rw [Int.tdiv_eq_ediv_of_nonneg (by omega)];rfl
theorem Zir (n:Nat):Int.tmod (n:Int) 8=((n%8:Nat):Int):=by
 rw [Int.tmod_eq_emod_of_nonneg (by omega)];rfl
theorem Qvq (T b m j:Nat) (hb:b<256) (hm:m<8):
  ((256^(8*j+m+1)*T/WB^j%WB) ||| (b*2^(m*8)%18446744073709551616))=(256^(8*j+m+1)*T+b*256^(8*j+m))/WB^j%WB:=by
 have h0:=Qlt T 0 m j (by decide) hm
 rw [Nat.zero_mul,Nat.add_zero,Nat.zero_mul,Nat.add_zero]at h0
 rw [Qlt T b m j hb hm,h0]
 have e8: ∀k,(256:Nat)^k=2^(k*8):=fun k=>by rw [Nat.mul_comm,Nat.pow_mul]
 have hp:0<256^m:=Nat.pow_pos (by decide)
 have hlt:b*256^m<256^(m+1):=by rw [Nat.pow_succ,Nat.mul_comm];exact Nat.mul_lt_mul_of_pos_left hb hp
 have hle:256^(m+1)≤18446744073709551616:=Nat.pow_le_pow_right (n:=256) (by decide) (show m+1≤8 by omega)
 rw [←e8 m,Nat.mod_eq_of_lt (Nat.lt_of_lt_of_le hlt hle)]
 rw [e8 (m+1)]at hlt ⊢
 exact(Nat.two_pow_add_eq_or_of_lt hlt _).symm
attribute [local go_sem high] Q9l
def pre (l:List UInt8) (i:Nat):Nat:=bnum (l.take i)*256^(l.length-i)
theorem Qrk (s:ByteArray) (hs:s.size≤1000000):Qag Tryz.prog 156 [.str s] (dw (lows BW (bnum s.data.toList) ((s.data.toList.length+7)/8))):=by
 rw [Qjx]at hs
 have hsz:=Qjx s
 have hget:=Qoe s
 generalize s.data.toList=l at*
 have w1:IntKind.i64.wrap ((l.length:Int)+7)=((l.length+7:Nat):Int):=by rw [Qai (by omega) (by omega)];omega
 have w2:=wrapn (n:=(l.length+7)/8) (by omega)
 have hn0:((0:Int)≤(((l.length+7)/8:Nat):Int))=True:=by simp only [eq_iff_iff,iff_true];exact Int.natCast_nonneg _
 have hn1:((8:Nat):Int)*(((l.length+7)/8:Nat):Int)≤281474976710656:=by omega
 have hn2:(((l.length+7)/8:Nat):Int)≤9223372036854775807:=by omega
 refine Qad (tb:=[]) 38 [.tmp 2] [0,2,3,4,5,12,13,14] mixed Tryz.func156 rfl (by kernel_rfl) (by kernel_rfl) (by kernel_rfl) (by kernel_rfl) ?_
 simp -implicitDefEqProofs only [go_sem,Nat.reduceAdd,Nat.reduceMul,Nat.reduceEqDiff,Nat.reduceLT,Nat.reduceLeDiff,reduceCtorEq,Int.reduceEq,hsz,w1,w2,Q9m,hn0,hn1,hn2,Int.toNat_natCast]
 have hst:List.replicate ((l.length+7)/8) (PV.int .u64 0)=(lows BW (pre l 0) ((l.length+7)/8)).map fW:=by
  rw [pre,List.take_zero,show bnum []=0 from rfl,Nat.zero_mul,Qdt];simp
 rw [hst]
 generalize hW:(l.length+7)/8=W at*
 refine Qa0 mixed (fun i:{i:Nat // i≤l.length}=>St.of [(0,.str s),(2,.nilS),(3,.bs 104 1 0 W),(12,.int .i64 (l.length:Int)),(13,.int .i64 (i.1:Int))]
   [(104,{els:=(lows BW (pre l i.1) W).map fW,esz:=1,ety:=162,fro:=0,live:=true,arr:=true})]) (fun i=>l.length-i.1) ⟨0,Nat.zero_le _⟩ ?_ ?_
 ·refine Qan (θ:=[(104,104)]) rfl ?_ ?_
  ·simp [Qae,lkp,ren1,ren0]
  ·simp [Qaq,lkp,Box.renames]
 ·rintro⟨i,hi⟩
  by_cases hA:i<l.length
  ·have hA':((i:Int)<(l.length:Int))=True:=by simp;omega
   have h0:(0≤(i:Int))=True:=by simp
   have hg:=hget i hA
   have hwk:=Qak (a:=i) (by omega)
   have v1:IntKind.i64.wrap ((l.length:Int)-1)=((l.length-1:Nat):Int):=by rw [Qai (by omega) (by omega)];omega
   have v2:IntKind.i64.wrap (((l.length-1:Nat):Int)-(i:Int))=((l.length-1-i:Nat):Int):=by rw [Qai (by omega) (by omega)];omega
   have htk:l.take (i+1)=l.take i++[l[i]]:=by rw [List.take_add_one];simp [hA]
   have hb:l[i].toNat<256:=l[i].toNat_lt
   generalize hk:l.length-1-i=k at*
   have hkj:k=8*(k/8)+k%8:=by omega
   have hm:k%8<8:=Nat.mod_lt _ (by decide)
   have hjW:k/8<W:=by omega
   have p0:pre l i=256^(8*(k/8)+k%8+1)*bnum (l.take i):=by
    rw [pre,Nat.mul_comm,show l.length-i=8*(k/8)+k%8+1 by omega]
   have p1:pre l (i+1)=256^(8*(k/8)+k%8+1)*bnum (l.take i)+l[i].toNat*256^(8*(k/8)+k%8):=by
    rw [pre,htk,Qjw,show l.length-(i+1)=8*(k/8)+k%8 by omega,Nat.add_mul,Nat.pow_succ,Nat.mul_assoc,Nat.mul_comm (bnum _),Nat.mul_comm 256]
   have hpw:=Qvq (bnum (l.take i)) l[i].toNat (k%8) (k/8) hb hm
   have hoth:=fun c hc=>Qqm (bnum (l.take i)) l[i].toNat (k%8) (k/8) c hb hm hc
   rw [←p1,←p0]at hpw
   rw [←p1,←p0]at hoth
   have hgo:((lows BW (pre l i) W).map fW)[k/8]? =some (PV.int .u64 ((pre l i/BW^(k/8)%BW:Nat):Int)):=by rw [List.getElem?_map,Qbp _ _ _ hjW];rfl
   have hset:(lows BW (pre l i) W).set (k/8) (pre l (i+1)/BW^(k/8)%BW)=lows BW (pre l (i+1)) W:=by
    apply List.ext_getElem?
    intro c
    rw [List.getElem?_set,Qah]
    by_cases hc:c<W
    ·rw [Qbp _ _ _ hc,Qbp _ _ _ hc]
     by_cases e:k/8=c
     ·subst e;simp [hjW]
     ·simp only [e,if_false]
      rw [hoth c (fun h=>e h.symm)]
    ·rw [List.getElem?_eq_none (by rw [Qah];omega),List.getElem?_eq_none (by rw [Qah];omega)]
     simp;omega
   have hll:=Qah (B:=BW) (pre l i) W
   have u1:IntKind.i64.wrap (((k/8:Nat):Int))=((k/8:Nat):Int):=wrapn (by omega)
   have u2:IntKind.i64.wrap (((k%8:Nat):Int)*8)=((k%8*8:Nat):Int):=by rw [Qai (by omega) (by omega)];omega
   have u3:(((k%8*8:Nat):Int)<0)=False:=by simp only [eq_iff_iff,iff_false];omega
   have u4:min (k%8*8) 64=k%8*8:=by omega
   have u5:(0≤((k/8:Nat):Int))=True:=by simp only [eq_iff_iff,iff_true];exact Int.natCast_nonneg _
   have u6:(((k/8:Nat):Int)<(W:Int))=True:=by simp only [eq_iff_iff,iff_true];omega
   have u7:l[i].toNat%18446744073709551616=l[i].toNat:=Nat.mod_eq_of_lt (by omega)
   have u8:pre l i/BW^(k/8)%BW%18446744073709551616=pre l i/BW^(k/8)%BW:=Nat.mod_mod _ _
   simp -implicitDefEqProofs only [go_sem,Nat.reduceAdd,Nat.reduceMul,Nat.reduceEqDiff,Nat.reduceLT,Nat.reduceLeDiff,reduceIte,reduceCtorEq,Int.reduceEq,hA',h0,hg,hsz,v1,v2,Q9m,Zir,u1,u2,u3,u4,u5,u6,Int.toNat_natCast,hgo,Qc6,u7,Qkk,List.length_map,hll]
   refine⟨Qaa _ _ (by kernel_rfl),⟨i+1,hA⟩,by simp only;omega,?_⟩
   rw [u8,Nat.mod_mod,hpw,Qco,hset,hwk]
   refine Qan (θ:=[(104,104)]) rfl ?_ ?_
   ·simp [Qae,lkp,ren1,ren0]
   ·simp [Qaq,lkp,Box.renames]
  ·have hA':((i:Int)<(l.length:Int))=False:=by simp;omega
   have e:pre l i=bnum l:=by rw [pre,List.take_of_length_le (by omega),show l.length-i=0 by omega,Nat.pow_zero,Nat.mul_one]
   have hll:=Qah (B:=BW) (bnum l) W
   have htk:((lows BW (bnum l) W).map fW).take W=(lows BW (bnum l) W).map fW:=List.take_of_length_le (by simp [hll])
   simp -implicitDefEqProofs only [go_sem,Nat.reduceAdd,Nat.reduceMul,Nat.reduceEqDiff,Nat.reduceLT,Nat.reduceLeDiff,reduceIte,reduceCtorEq,hA',e,List.length_map,hll,htk,dw]
end Go.Proofs.YtciddhkfbgkejaaGreatDoor

namespace Go.Proofs.YtciddhkfbgkejaaGreatDoor
open Go.Vl Go.RowKit Go.Dg
theorem Qpb (m k:Nat):m/BW^(k/8)%BW/2^(k%8*8)%256=m/256^k%256:=by
 have hm:k%8<8:=Nat.mod_lt _ (by decide)
 have e8: ∀k,(256:Nat)^k=2^(k*8):=fun k=>by rw [Nat.mul_comm,Nat.pow_mul]
 have hk:k=8*(k/8)+k%8:=by omega
 have e1:(256:Nat)^k=BW^(k/8)*256^(k%8):=by
  conv=>lhs;rw [hk,Nat.pow_add,Nat.pow_mul]
 rw [←e8,e1,←Nat.div_div_eq_div_mul]
 generalize m/BW^(k/8)=v
 have e2:BW=256^(k%8)*(256*256^(7-k%8)):=by
  rw [←Nat.mul_assoc,←Nat.pow_succ,←Nat.pow_add,show k%8+1+(7-k%8)=8 by omega]
 rw [e2,Nat.mod_mul_right_div_self,Nat.mod_mul_right_mod]
def stp (m D i:Nat):List Nat:=(List.range D).map fun c=>if c<i then m/256^(D-1-c)%256 else 0
theorem Qds (m D i:Nat):(stp m D i).length=D:=by simp [stp]
theorem Qkh (m D i c:Nat) (h:c<D):(stp m D i)[c]? =some (if c<i then m/256^(D-1-c)%256 else 0):=by simp [stp,h]
theorem Q9b (m D:Nat):List.replicate D (PV.int .u8 0)=(stp m D 0).map f8:=by
 apply List.ext_getElem?
 intro c
 by_cases hc:c<D
 ·rw [List.getElem?_map,Qkh _ _ _ _ hc];simp [hc]
 ·rw [List.getElem?_eq_none (by simp;omega),List.getElem?_eq_none (by simp [Qds];omega)]
theorem Zfe (m D i:Nat) (hi:i<D):(stp m D i).set i (m/256^(D-1-i)%256)=stp m D (i+1):=by
 apply List.ext_getElem?
 intro c
 rw [List.getElem?_set,Qds]
 by_cases hc:c<D
 ·rw [Qkh _ _ _ _ hc,Qkh _ _ _ _ hc]
  by_cases e:i=c
  ·subst e;simp [hi]
  ·simp only [e,if_false]
   by_cases hlt:c<i
   ·rw [if_pos hlt,if_pos (by omega)]
   ·rw [if_neg hlt,if_neg (by omega)]
 ·rw [List.getElem?_eq_none (by rw [Qds];omega),List.getElem?_eq_none (by rw [Qds];omega)]
  simp;omega
theorem Q9c (m:Nat):stp m (digs 256 m).length (digs 256 m).length=(digs 256 m).reverse:=by
 apply List.ext_getElem?
 intro c
 by_cases hc:c<(digs 256 m).length
 ·rw [Qkh _ _ _ _ hc,if_pos hc,List.getElem?_reverse hc,Qas (by decide) (by omega)]
 ·rw [List.getElem?_eq_none (by rw [Qds];omega),List.getElem?_eq_none (by simp;omega)]
theorem Zh9 (l:List Nat) (i:Nat) (d:Nat):(l.map f8).set i (PV.int .u8 (d:Int))=(l.set i d).map f8:=(List.map_set (f:=f8)).symm
theorem Q9d (n:Nat):IntKind.u8.wrap (n:Int)=((n%256:Nat):Int):=by
 simp [IntKind.wrap,IntKind.signed,IntKind.bits]
theorem Qs6 (m:Nat) (hl:(digs BW m).length≤1000000):Qag Tryz.prog 177 [dw (digs BW m)] (.str ⟨(magL m).toArray⟩):=by
 have hbl:(blen m+7)/8=(digs 256 m).length:=by
  by_cases h0:m=0
  ·subst h0;rw [Qe9,Qa8];rfl
  ·have ht:=Qdb (B:=256) (by decide) h0
   have hb:blen m=blen (m/256^((digs 256 m).length-1))+8*((digs 256 m).length-1):=Qsf h0 8 (by decide)
   have h1:=Qdh 8 _ ht.2
   have h2:=Qfa ht.1
   have hp:0<(digs 256 m).length:=List.length_pos_iff.2 (mt (Qbc (by decide)).1 h0)
   omega
 have hbm:blen m≤64*(digs BW m).length:=Qdh _ _ (by rw [Nat.pow_mul];exact Qa5 BW_2 m)
 have w1:IntKind.i64.wrap ((blen m:Int)+7)=((blen m+7:Nat):Int):=by rw [Qai (by omega) (by omega)];omega
 have w2:=wrapn (n:=(blen m+7)/8) (by omega)
 generalize hD:(digs 256 m).length=D at*
 have hD2:D≤9000000:=by omega
 have hn0:((0:Int)≤((D:Nat):Int))=True:=by simp
 have hn1:((1:Nat):Int)*(D:Int)≤281474976710656:=by omega
 have hn2:(D:Int)≤9223372036854775807:=by omega
 rw [hbl]at w2
 refine Qad (tb:=[]) 37 [.tmp 2] [0,2,3,4,5,12,13,14] mixed Tryz.func177 rfl (by kernel_rfl) (by kernel_rfl) (by kernel_rfl) (by kernel_rfl) ?_
 simp -implicitDefEqProofs only [go_sem,Nat.reduceAdd,Nat.reduceMul,Nat.reduceEqDiff,Nat.reduceLT,Nat.reduceLeDiff,reduceCtorEq,dw]
 refine Qaf _ _ _ _ _ _ _ _ _ (Q2h m (by omega)) ?_
 simp -implicitDefEqProofs only [go_sem,Nat.reduceAdd,Nat.reduceMul,Nat.reduceEqDiff,Nat.reduceLT,Nat.reduceLeDiff,reduceCtorEq,Int.reduceEq,w1,Q9m,hbl,w2,hn0,hn1,hn2,Int.toNat_natCast]
 have hfull:=Q9c m
 rw [hD]at hfull
 rw [Q9b m D]
 refine Qa0 mixed (fun i:{i:Nat // i≤D}=>St.of [(0,dw (digs BW m)),(2,.str ⟨#[]⟩),(3,.bs 104 1 0 D),(12,.int .i64 (D:Int)),(13,.int .i64 (i.1:Int))]
   [(104,{els:=(stp m D i.1).map f8,esz:=1,ety:=5,fro:=0,live:=true,arr:=true})]) (fun i=>D-i.1) ⟨0,Nat.zero_le _⟩ ?_ ?_
 ·refine Qan (θ:=[(104,104)]) rfl ?_ ?_
  ·simp [Qae,lkp,ren1,ren0,dw]
  ·simp [Qaq,lkp,Box.renames]
 ·rintro⟨i,hi⟩
  by_cases hA:i<D
  ·have hA':((i:Int)<(D:Int))=True:=by simp;omega
   have h0:(0≤(i:Int))=True:=by simp
   have hwk:=Qak (a:=i) (by omega)
   have v1:IntKind.i64.wrap ((D:Int)-1)=((D-1:Nat):Int):=by rw [Qai (by omega) (by omega)];omega
   have v2:IntKind.i64.wrap (((D-1:Nat):Int)-(i:Int))=((D-1-i:Nat):Int):=by rw [Qai (by omega) (by omega)];omega
   have hset:=Zfe m D i hA
   have hne:m/256^(D-1-i)≠0:=(Qcr (by decide) m _).1 (by omega)
   generalize hk:D-1-i=k at*
   have hbw:=Qpb m k
   have hwne:m/BW^(k/8)≠0:=by
    intro h
    apply hne
    have e1:(256:Nat)^k=BW^(k/8)*256^(k%8):=by
     conv=>lhs;rw [show k=8*(k/8)+k%8 by omega,Nat.pow_add,Nat.pow_mul]
    rw [e1,←Nat.div_div_eq_div_mul,h,Nat.zero_div]
   have hgw:=Qas (n:=m) (k:=k/8) BW_2 ((Qcr BW_2 m _).2 hwne)
   generalize m/BW^(k/8)%BW=q at*
   have u1:IntKind.i64.wrap (((k/8:Nat):Int))=((k/8:Nat):Int):=wrapn (by omega)
   have u2:IntKind.i64.wrap (((k%8:Nat):Int)*8)=((k%8*8:Nat):Int):=by rw [Qai (by omega) (by omega)];omega
   have u3:(((k%8*8:Nat):Int)<0)=False:=by simp only [eq_iff_iff,iff_false];omega
   have u4:min (k%8*8) 64=k%8*8:=by omega
   have u5:(0≤((k/8:Nat):Int))=True:=by simp only [eq_iff_iff,iff_true];exact Int.natCast_nonneg _
   obtain⟨e,hgo⟩: ∃e:Nat,((stp m D i).map f8)[i]? =some (PV.int .u8 (e:Int)):=⟨_,by rw [List.getElem?_map,Qkh _ _ _ _ hA];rfl⟩
   have hsl:=Qds m D i
   simp -implicitDefEqProofs only [go_sem,Nat.reduceAdd,Nat.reduceMul,Nat.reduceEqDiff,Nat.reduceLT,Nat.reduceLeDiff,reduceIte,reduceCtorEq,Int.reduceEq,dw,hA',h0,v1,v2,Q9m,Zir,u1,u2,u3,u4,u5,Int.toNat_natCast,Qb4,hgw,Qhg,Q9d,hbw,hgo,List.length_map,hsl,hwk]
   refine⟨⟨i+1,hA⟩,by simp only;omega,?_⟩
   refine Qan (θ:=[(104,104)]) rfl ?_ ?_
   ·simp [Qae,lkp,ren1,ren0,dw]
   ·rw [Zh9,hset]
    simp [Qaq,lkp,Box.renames]
  ·have hA':((i:Int)<(D:Int))=False:=by simp;omega
   obtain rfl:i=D:=by omega
   rw [hfull]
   have hrl:(digs 256 m).reverse.length=i:=by simp [hD]
   have htk:((digs 256 m).reverse.map f8).take i=(digs 256 m).reverse.map f8:=List.take_of_length_le (by simp [hD])
   simp -implicitDefEqProofs only [go_sem,Nat.reduceAdd,Nat.reduceMul,Nat.reduceEqDiff,Nat.reduceLT,Nat.reduceLeDiff,reduceIte,reduceCtorEq,hA',List.length_map,hrl,htk,Que]
   rfl
end Go.Proofs.YtciddhkfbgkejaaGreatDoor

namespace Go.Proofs.YtciddhkfbgkejaaGreatDoor
open Go.Vl Go.RowKit Go.Dg
theorem Qh8 (neg:Bool) (m:Nat) (hl:(digs BW m).length≤1000000):Qag Tryz.prog 148 [nP neg m] (Qgn (sv neg m)):=by
 have hna:(sv neg m).natAbs=m:=by cases neg<;>simp [sv]
 have hneg:decide (sv neg m<0)=(neg&&decide (0<m)):=by
  cases neg
  ·simp [sv]
  ·simp [sv]
 unfold Qgn
 rw [hna]
 refine Qad (tb:=[]) 21 [.cell 2 71,.tmp 3] [0,1,2,3,7] mixed Tryz.func148 rfl (by kernel_rfl) (by kernel_rfl) (by kernel_rfl) (by kernel_rfl) ?_
 simp -implicitDefEqProofs only [go_sem,Nat.reduceAdd,Nat.reduceMul,Nat.reduceEqDiff,Nat.reduceLT,Nat.reduceLeDiff,reduceCtorEq,nP,dw]
 refine Qaf _ _ _ _ _ _ _ _ _ (Q2h m (by omega)) ?_
 by_cases h:65536<blen m
 ·have h':((65536:Int)<(blen m:Int))=True:=by simp only [eq_iff_iff,iff_true];omega
  rw [if_pos h,Q4h]
  simp -implicitDefEqProofs only [go_sem,Nat.reduceAdd,Nat.reduceMul,Nat.reduceEqDiff,Nat.reduceLT,Nat.reduceLeDiff,reduceCtorEq,h']
 ·have h':((65536:Int)<(blen m:Int))=False:=by simp only [eq_iff_iff,iff_false];omega
  rw [if_neg h]
  have hlen:decide ((0:Int)<((digs BW m).length:Int))=decide (0<m):=by
   simp only [decide_eq_decide]
   have:=mt (Qbc BW_2 (n:=m)).2
   by_cases h0:m=0
   ·subst h0;simp [Qa8]
   ·have:=List.length_pos_iff.2 (mt (Qbc BW_2).1 h0)
    constructor<;>intro _<;>omega
  cases neg with
  |true=>
   simp -implicitDefEqProofs only [go_sem,Nat.reduceAdd,Nat.reduceMul,Nat.reduceEqDiff,Nat.reduceLT,Nat.reduceLeDiff,reduceCtorEq,h',nP,dw,List.length_map]
   refine Qaf _ _ _ _ _ _ _ _ _ (Qs6 m hl) ?_
   simp -implicitDefEqProofs only [go_sem,Nat.reduceAdd,Nat.reduceEqDiff,Nat.reduceLT,Nat.reduceLeDiff,reduceCtorEq,wPV,hna,hneg,hlen,Bool.true_and]
   exact Qaa _ _ (by kernel_rfl)
  |false=>
   simp -implicitDefEqProofs only [go_sem,Nat.reduceAdd,Nat.reduceMul,Nat.reduceEqDiff,Nat.reduceLT,Nat.reduceLeDiff,reduceCtorEq,h',nP,dw,List.length_map]
   refine Qaf _ _ _ _ _ _ _ _ _ (Qs6 m hl) ?_
   simp -implicitDefEqProofs only [go_sem,Nat.reduceAdd,Nat.reduceEqDiff,Nat.reduceLT,Nat.reduceLeDiff,reduceCtorEq,wPV,hna,hneg,Bool.false_and]
   exact Qaa _ _ (by kernel_rfl)
end Go.Proofs.YtciddhkfbgkejaaGreatDoor

namespace Go.Proofs.YtciddhkfbgkejaaGreatDoor
open Go.Vl Go.RowKit Go.Dg
theorem bfold (r:List UInt8): ∀a:Nat,r.foldl (fun n b=>n*256+b.toNat) a=a*256^r.length+bnum r:=by
 induction r with
 |nil=>intro a;simp [bnum]
 |cons b r ih=>
  intro a
  have h0:bnum (b::r)=b.toNat*256^r.length+bnum r:=by
   have h:=ih (0*256+b.toNat)
   rw [Nat.zero_mul,Nat.zero_add]at h
   rw [←h,bnum,List.foldl_cons,Nat.zero_mul,Nat.zero_add]
  rw [List.foldl_cons,ih,h0,List.length_cons,Nat.pow_succ,Nat.add_mul,Nat.mul_assoc,Nat.mul_comm 256]
  omega
theorem Qpc (b:UInt8) (r:List UInt8):bnum (b::r)=b.toNat*256^r.length+bnum r:=by
 have h:=bfold r (0*256+b.toNat)
 rw [Nat.zero_mul,Nat.zero_add]at h
 rw [←h,bnum,List.foldl_cons,Nat.zero_mul,Nat.zero_add]
theorem Qki {neg:Bool} {l:List UInt8} (h:Qbq neg l=true):lows BW (bnum l) ((l.length+7)/8)=digs BW (bnum l):=by
 refine Qw2 BW_2 ?_ ?_
 ·refine Nat.lt_of_lt_of_le (Qqh _ l rfl) ?_
  rw [show BW=256^8 from rfl,←Nat.pow_mul]
  exact Nat.pow_le_pow_right (by decide) (by omega)
 ·intro j hj
  cases l with
  |nil=>simp at hj
  |cons b r=>
   have hb:b.toNat≠0:=by
    intro e
    have:b=0:=UInt8.toNat_inj.1 (by simpa using e)
    subst this
    simp [Qbq]at h
   have hge:256^r.length≤bnum (b::r):=by
    rw [Qpc]
    have:=Nat.mul_le_mul_right (256^r.length) (Nat.pos_of_ne_zero hb)
    omega
   have hle:BW^j≤256^r.length:=by
    rw [show BW=256^8 from rfl,←Nat.pow_mul]
    exact Nat.pow_le_pow_right (by decide) (by simp at hj;omega)
   have:=Nat.div_pos (Nat.le_trans hle hge) (Nat.pow_pos (n:=j) (show 0<BW by decide))
   omega
theorem Qng (neg:Bool) (s:ByteArray) (h:Qbq neg s.data.toList=true) (hs:s.size≤1000000):Qag Tryz.prog 111 [.agg [.bool neg,.str s]] (nP neg (bnum s.data.toList)):=by
 have hl:=Qrk s hs
 rw [Qki h]at hl
 refine Qad (tb:=[]) 9 [.cell 2 160] [0,1,2] mixed Tryz.func111 rfl (by kernel_rfl) (by kernel_rfl) (by kernel_rfl) (by kernel_rfl) ?_
 simp -implicitDefEqProofs only [go_sem,Nat.reduceAdd,Nat.reduceMul,Nat.reduceEqDiff,Nat.reduceLT,Nat.reduceLeDiff,reduceCtorEq]
 refine Qaf _ _ _ _ _ _ _ _ _ hl ?_
 simp -implicitDefEqProofs only [go_sem,Nat.reduceAdd,Nat.reduceEqDiff,Nat.reduceLT,Nat.reduceLeDiff,reduceCtorEq,nP,dw]
 exact Qaa _ _ (by kernel_rfl)
end Go.Proofs.YtciddhkfbgkejaaGreatDoor

namespace Go.Proofs.YtciddhkfbgkejaaGreatDoor
open Go.Vl Go.RowKit Go.Dg
def wnum (neg:Bool) (s:ByteArray):Int:=sv neg (bnum s.data.toList)
theorem Qfj (s:ByteArray) (hs:s.size≤100000):(digs BW (bnum s.data.toList)).length≤100000:=by
 rw [Qjx]at hs
 refine Nat.le_trans ((Qar BW_2 _ s.data.toList.length).2 ?_) hs
 exact Nat.lt_of_lt_of_le (Qqh _ _ rfl) (Nat.pow_le_pow_left (by decide) _)
theorem Zia (a b m k:Nat) (hm:m≤a+b) (h1:(digs BW a).length≤k) (h2:(digs BW b).length≤k):(digs BW m).length≤k+1:=by
 rw [Qar BW_2]at h1 h2 ⊢
 rw [Nat.pow_succ]
 generalize BW^k=K at*
 simp only [BW]
 omega
def outN (n:Int):Int:=if 65536<blen n.natAbs then 0 else n
def outE (n:Int):Int:=if 65536<blen n.natAbs then 7 else 0
theorem Qf3 (n:Int):Qgn n= .tup [wPV (outN n),.int .i64 (outE n)]:=by
 unfold Qgn outN outE;split<;>rfl
theorem Zib (an bn:Bool) (a b:ByteArray) (h1:Qbq an a.data.toList=true) (h2:Qbq bn b.data.toList=true) (ha:a.size≤100000) (hb:b.size≤100000):Qag Tryz.prog 113 [.agg [.bool an,.str a],.agg [.bool bn,.str b]] (Qgn (wnum an a+wnum bn b)):=by
 have hL1:=Qfj a ha
 have hL2:=Qfj b hb
 have h:(Qbq an a.data.toList&&Qbq bn b.data.toList)=true:=by rw [h1,h2];rfl
 obtain⟨n,m,hs,e,hm⟩:=Za5 an bn (bnum a.data.toList) (bnum b.data.toList) (by omega) (by omega)
 have hLm:(digs BW m).length≤1000000:=by
  exact Nat.le_trans (Zia _ _ _ _ hm hL1 hL2) (by decide)
 rw [wnum,wnum,←e]
 refine Qad (tb:=[]) 19 [.cell 4 71,.tmp 5] [0,1,2,3,4,5,9] mixed Tryz.func113 rfl (by kernel_rfl) (by kernel_rfl) (by kernel_rfl) (by kernel_rfl) ?_
 simp -implicitDefEqProofs only [go_sem,Nat.reduceAdd,Nat.reduceMul,Nat.reduceEqDiff,Nat.reduceLT,Nat.reduceLeDiff,reduceCtorEq]
 refine Qaf _ _ _ _ _ _ _ _ _ (Qpf an bn a b) ?_
 simp -implicitDefEqProofs only [go_sem,Nat.reduceAdd,Nat.reduceMul,Nat.reduceEqDiff,Nat.reduceLT,Nat.reduceLeDiff,reduceCtorEq,h]
 refine Qaf _ _ _ _ _ _ _ _ _ (Qng an a h1 (by omega)) ?_
 simp -implicitDefEqProofs only [go_sem,Nat.reduceAdd,Nat.reduceEqDiff,Nat.reduceLT,reduceCtorEq,nP,dw]
 refine Qaf _ _ _ _ _ _ _ _ _ (Qng bn b h2 (by omega)) ?_
 simp -implicitDefEqProofs only [go_sem,Nat.reduceAdd,Nat.reduceEqDiff,Nat.reduceLT,reduceCtorEq,nP,dw]
 refine Qaf _ _ _ _ _ _ _ _ _ hs ?_
 simp -implicitDefEqProofs only [go_sem,Nat.reduceAdd,Nat.reduceEqDiff,Nat.reduceLT,reduceCtorEq,nP,dw]
 refine Qaf _ _ _ _ _ _ _ _ _ (Qh8 n m hLm) ?_
 unfold Qgn
 split
 ·simp -implicitDefEqProofs only [go_sem,Nat.reduceAdd,Nat.reduceEqDiff,Nat.reduceLT,reduceCtorEq,Int.reduceLT,wPV]
  exact Qaa _ _ (by kernel_rfl)
 ·simp -implicitDefEqProofs only [go_sem,Nat.reduceAdd,Nat.reduceEqDiff,Nat.reduceLT,reduceCtorEq,wPV]
  exact Qaa _ _ (by kernel_rfl)
end Go.Proofs.YtciddhkfbgkejaaGreatDoor

namespace Go.Proofs.YtciddhkfbgkejaaGreatDoor
open Go.Vl Go.RowKit Go.Dg
end Go.Proofs.YtciddhkfbgkejaaGreatDoor

namespace Go.Proofs.YtciddhkfbgkejaaGreatDoor
open Go.Vl Go.RowKit Go.Dg
end Go.Proofs.YtciddhkfbgkejaaGreatDoor
