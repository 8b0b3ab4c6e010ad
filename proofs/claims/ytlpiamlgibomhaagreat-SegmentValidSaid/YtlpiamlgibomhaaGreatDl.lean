/-
  SW3, SW4, SW5, SW6, SW7, SW8, Dl (merged for the claim).
-/
import Derived.Test.YtlpiamlgibomhaaGreatSW2
set_option linter.unusedSimpArgs false
set_option linter.unusedVariables false
namespace Go.Proofs.YtlpiamlgibomhaaGreat
open Go.Vl Go.RowKit Go.Dg
theorem Qcs (l:List Nat) (i:Nat) (d:Nat):(l.map fW).set i (PV.int .u64 (d:Int))=(l.set i d).map fW:=(List.map_set (f:=fW)).symm
theorem Qd9 (B n:Nat):lows B 0 n=List.replicate n 0:=by
 apply List.ext_getElem?
 intro k
 by_cases h:k<n
 ·rw [Qbp _ _ _ h];simp [h]
 ·rw [List.getElem?_eq_none (by rw [Qai];omega),List.getElem?_eq_none (by simp;omega)]
theorem Qhv (V n:Nat):List.replicate n (PV.int .u64 0)=(mix BW V 0 n 0).map fW:=by
 rw [Qg3,Qd9];simp
theorem Qpy (a b:Nat) (hba:b≤a) (ha:(digs BW a).length≤1000000000):Qag Tryz.prog 162 [dw (digs BW a),dw (digs BW b)] (dw (digs BW (a-b))):=by
 refine Qac (tb:=[]) 41 [.tmp 4] [0,1,4,5,6,7,8,13,14,15,20] mixed Tryz.func162 rfl (by kernel_rfl) (by kernel_rfl) (by kernel_rfl) (by kernel_rfl) ?_
 have hn0:((0:Int)≤((digs BW a).length:Int))=True:=by simp
 have hn1:((8:Nat):Int)*((digs BW a).length:Int)≤281474976710656:=by omega
 have hn2:((digs BW a).length:Int)≤9223372036854775807:=by omega
 simp -implicitDefEqProofs only [go_sem,Nat.reduceAdd,Nat.reduceMul,Nat.reduceEqDiff,Nat.reduceLT,Nat.reduceLeDiff,reduceCtorEq,dw,List.length_map,hn0,hn1,hn2,Int.toNat_natCast]
 generalize hN:(digs BW a).length=N at*
 rw [Qhv (a-b) N]
 refine Qas mixed (fun i:{i:Nat // i≤N}=>St.of [(0,dw (digs BW a)),(1,dw (digs BW b)),(4,.nilS),(5,.bs 102 1 0 N),(6,.int .u64 (bor BW a b i.1:Int)),(13,.int .i64 (N:Int)),(14,.int .i64 (i.1:Int))]
  [(102,{els:=(mix BW (a-b) 0 N i.1).map fW,esz:=1,ety:=122,fro:=0,live:=true,arr:=true})]) (fun i=>N-i.1) ⟨0,Nat.zero_le _⟩ ?_ ?_
 ·refine Qal (θ:=[(102,102)]) rfl ?_ ?_
  ·simp [Qad,lkp,ren1,ren0,dw,Qpo]
  ·simp [Qak,lkp,Box.renames]
 ·rintro⟨i,hi⟩
  have hml:=Qbf (B:=BW) (a-b) 0 N i
  by_cases hA:i<N
  ·have hA':((i:Int)<(N:Int))=True:=by simp;omega
   have h0:(0≤(i:Int))=True:=by simp
   have hga:=Qao BW_2 (show i<(digs BW a).length by omega)
   have hwk:=Qaj (a:=i) (by omega)
   have hbl:=Qn3 (B:=BW) a b i
   have hbl2:=Qn3 (B:=BW) a b (i+1)
   have hst:=Qpp BW_2 hba i
   have hx:a/BW^i%BW<BW:=Nat.mod_lt _ (by decide)
   have hy:b/BW^i%BW<BW:=Nat.mod_lt _ (by decide)
   have hz:(a-b)/BW^i%BW<BW:=Nat.mod_lt _ (by decide)
   have hset:=Qdx (B:=BW) (V:=a-b) (W:=a-b) (S:=0) (n:=N) (m:=i) (d:=(a-b)/BW^i%BW) (by decide) hA rfl rfl
   have hy0: ¬i<(digs BW b).length→b/BW^i%BW=0:=fun h=>by rw [Qa7 BW_2 (Nat.le_of_not_lt h),Nat.zero_mod]
   have hgb:i<(digs BW b).length→(digs BW b)[i]? =some (b/BW^i%BW):=fun h=>Qao BW_2 h
   obtain⟨e,hgo⟩: ∃e:Nat,((mix BW (a-b) 0 N i).map fW)[i]? =some (PV.int .u64 (e:Int)):=⟨_,by rw [List.getElem?_map,Qcn _ _ _ _ _ hA];rfl⟩
   generalize a/BW^i%BW=x at*
   generalize b/BW^i%BW=y at*
   generalize (a-b)/BW^i%BW=z at*
   have s1:(x+18446744073709551616-y-bor BW a b i)%18446744073709551616=z:=by simp only [BW]at*;omega
   have s2:(if x<y+bor BW a b i then 1 else 0)=bor BW a b (i+1):=by
    simp only [BW]at*
    split<;>omega
   have hc:=Q4m x y (bor BW a b i) hbl
   rw [s1,s2]at hc
   by_cases hB:i<(digs BW b).length
   ·have hB':((i:Int)<((digs BW b).length:Int))=True:=by simp;omega
    have hgb:=hgb hB
    simp -implicitDefEqProofs only [go_sem,Nat.reduceAdd,Nat.reduceMul,Nat.reduceEqDiff,Nat.reduceLT,Nat.reduceLeDiff,reduceCtorEq,dw,List.length_map,hA',hB',h0,Qb8,hga,hgb,Int.toNat_natCast]
    refine Qaf _ _ _ _ _ _ _ _ _ hc ?_
    simp -implicitDefEqProofs only [go_sem,Nat.reduceAdd,Nat.reduceMul,Nat.reduceEqDiff,Nat.reduceLT,Nat.reduceLeDiff,reduceIte,reduceCtorEq,hA',h0,Int.toNat_natCast,hwk,hgo,List.length_map,hml]
    refine⟨⟨i+1,hA⟩,by simp only;omega,?_⟩
    refine Qal (θ:=[(102,102)]) rfl ?_ ?_
    ·simp [Qad,lkp,ren1,ren0,dw]
    ·rw [Qcs,hset]
     simp [Qak,lkp,Box.renames]
   ·have hB':((i:Int)<((digs BW b).length:Int))=False:=by simp;omega
    obtain rfl:=hy0 hB
    simp -implicitDefEqProofs only [go_sem,Nat.reduceAdd,Nat.reduceMul,Nat.reduceEqDiff,Nat.reduceLT,Nat.reduceLeDiff,reduceCtorEq,dw,List.length_map,hA',hB',h0,Qb8,hga,Int.toNat_natCast]
    refine Qaf _ _ _ _ _ _ _ _ _ hc ?_
    simp -implicitDefEqProofs only [go_sem,Nat.reduceAdd,Nat.reduceMul,Nat.reduceEqDiff,Nat.reduceLT,Nat.reduceLeDiff,reduceIte,reduceCtorEq,hA',h0,Int.toNat_natCast,hwk,hgo,List.length_map,hml]
    refine⟨⟨i+1,hA⟩,by simp only;omega,?_⟩
    refine Qal (θ:=[(102,102)]) rfl ?_ ?_
    ·simp [Qad,lkp,ren1,ren0,dw]
    ·rw [Qcs,hset]
     simp [Qak,lkp,Box.renames]
  ·have hA':((i:Int)<(N:Int))=False:=by simp;omega
   obtain rfl:i=N:=by omega
   have htk:((lows BW (a-b) i).map fW).take i=(lows BW (a-b) i).map fW:=List.take_of_length_le (by simp [Qai])
   have hll:=Qai (B:=BW) (a-b) i
   have hlt:a<BW^i:=by rw [←hN];exact Qaz BW_2 a
   have hm:mix BW (a-b) 0 i i=lows BW (a-b) i:=Qem (by decide) (by rw [Nat.div_eq_of_lt (Nat.lt_of_le_of_lt (Nat.sub_le _ _) hlt),Nat.zero_div])
   simp -implicitDefEqProofs only [go_sem,Nat.reduceAdd,Nat.reduceMul,Nat.reduceEqDiff,Nat.reduceLT,Nat.reduceLeDiff,reduceCtorEq,hA',List.length_map,hll,htk,hm]
   refine Qaf _ _ _ _ _ _ _ _ _ (Qc6 (lows BW (a-b) i) (by rw [Qai];simp [maxLen];omega)) ?_
   simp -implicitDefEqProofs only [go_sem,Nat.reduceAdd,Nat.reduceEqDiff,Nat.reduceLT,reduceCtorEq,dw,List.length_map]
   rw [Qbk BW_2,Nat.mod_eq_of_lt (Nat.lt_of_le_of_lt (Nat.sub_le _ _) hlt)]
end Go.Proofs.YtlpiamlgibomhaaGreat

namespace Go.Proofs.YtlpiamlgibomhaaGreat
open Go.Vl Go.RowKit Go.Dg
theorem Zdt (a b:Nat) (ha:(digs BW a).length≤1000000000) (hb:(digs BW b).length≤1000000000):Qag Tryz.prog 160 [dw (digs BW a),dw (digs BW b)] (dw (digs BW (a+b))):=by
 refine Qac (tb:=[]) 54 [.tmp 4] [0,1,4,5,6,7,8,13,21,22,23,28] mixed Tryz.func160 rfl (by kernel_rfl) (by kernel_rfl) (by kernel_rfl) (by kernel_rfl) ?_
 by_cases hab:(digs BW a).length<(digs BW b).length
 ·have hab':(((digs BW a).length:Int)<((digs BW b).length:Int))=True:=by simp;omega
  have hPQ:(digs BW a).length≤(digs BW b).length:=by omega
  rw [Nat.add_comm a b]
  have hn0:((0:Int)≤(((digs BW b).length+1:Nat):Int))=True:=by simp only [eq_iff_iff,iff_true];omega
  have hn1:((8:Nat):Int)*(((digs BW b).length+1:Nat):Int)≤281474976710656:=by omega
  have hn2:(((digs BW b).length+1:Nat):Int)≤9223372036854775807:=by omega
  have hw1:=Qaj (a:=(digs BW b).length) (by omega)
  simp -implicitDefEqProofs only [go_sem,Nat.reduceAdd,Nat.reduceMul,Nat.reduceEqDiff,Nat.reduceLT,Nat.reduceLeDiff,reduceCtorEq,dw,List.length_map,hab',hw1,hn0,hn1,hn2,Int.toNat_natCast]
  have hlt:b<BW^(digs BW b).length:=Qaz BW_2 b
  have hlt2:a<BW^(digs BW b).length:=(Qam BW_2 a _).1 hPQ
  generalize hN:(digs BW b).length=N at*
  rw [Qhv (b+a) (N+1)]
  refine Qas mixed (fun i:{i:Nat // i≤N}=>St.of [(0,dw (digs BW b)),(1,dw (digs BW a)),(4,.nilS),(5,.bs 303 1 0 (N+1)),(6,.int .u64 (carry BW b a i.1:Int)),(21,.int .i64 (N:Int)),(22,.int .i64 (i.1:Int))]
   [(303,{els:=(mix BW (b+a) 0 (N+1) i.1).map fW,esz:=1,ety:=122,fro:=0,live:=true,arr:=true})]) (fun i=>N-i.1) ⟨0,Nat.zero_le _⟩ ?_ ?_
  ·refine Qal (θ:=[(303,303)]) rfl ?_ ?_
   ·simp [Qad,lkp,ren1,ren0,dw,Qi3]
   ·simp [Qak,lkp,Box.renames]
  ·rintro⟨i,hi⟩
   have hml:=Qbf (B:=BW) (b+a) 0 (N+1) i
   have hset:=Qdx (B:=BW) (V:=b+a) (W:=b+a) (S:=0) (n:=N+1) (m:=i) (d:=(b+a)/BW^i%BW) (by decide) (by omega) rfl rfl
   obtain⟨e,hgo⟩: ∃e:Nat,((mix BW (b+a) 0 (N+1) i).map fW)[i]? =some (PV.int .u64 (e:Int)):=⟨_,by rw [List.getElem?_map,Qcn _ _ _ _ _ (by omega)];rfl⟩
   have h0:(0≤(i:Int))=True:=by simp
   have hiN:((i:Int)<((N+1:Nat):Int))=True:=by simp only [eq_iff_iff,iff_true];omega
   by_cases hA:i<N
   ·have hA':((i:Int)<(N:Int))=True:=by simp;omega
    have hga:=Qao BW_2 (show i<(digs BW b).length by omega)
    have hwk:=Qaj (a:=i) (by omega)
    have hcl:=Qod (B:=BW) (by decide) b a i
    obtain⟨s1,s2⟩:(b/BW^i%BW+a/BW^i%BW+carry BW b a i)%18446744073709551616=(b+a)/BW^i%BW∧(b/BW^i%BW+a/BW^i%BW+carry BW b a i)/18446744073709551616=carry BW b a (i+1):=Qoe (B:=BW) (by decide) b a i
    have hy0: ¬i<(digs BW a).length→a/BW^i%BW=0:=fun h=>by rw [Qa7 BW_2 (Nat.le_of_not_lt h),Nat.zero_mod]
    have hgb:i<(digs BW a).length→(digs BW a)[i]? =some (a/BW^i%BW):=fun h=>Qao BW_2 h
    have hc:=Qow (b/BW^i%BW) (a/BW^i%BW) (carry BW b a i) hcl
    rw [s1,s2]at hc
    generalize b/BW^i%BW=x at*
    generalize a/BW^i%BW=y at*
    generalize (b+a)/BW^i%BW=z at*
    by_cases hB:i<(digs BW a).length
    ·have hB':((i:Int)<((digs BW a).length:Int))=True:=by simp;omega
     have hgb:=hgb hB
     simp -implicitDefEqProofs only [go_sem,Nat.reduceAdd,Nat.reduceMul,Nat.reduceEqDiff,Nat.reduceLT,Nat.reduceLeDiff,reduceCtorEq,dw,List.length_map,hA',hB',h0,Qb8,hga,hgb,Int.toNat_natCast]
     refine Qaf _ _ _ _ _ _ _ _ _ hc ?_
     simp -implicitDefEqProofs only [go_sem,Nat.reduceAdd,Nat.reduceMul,Nat.reduceEqDiff,Nat.reduceLT,Nat.reduceLeDiff,reduceIte,reduceCtorEq,hA',h0,hiN,Int.toNat_natCast,hwk,hgo,List.length_map,hml]
     refine⟨⟨i+1,hA⟩,by simp only;omega,?_⟩
     refine Qal (θ:=[(303,303)]) rfl ?_ ?_
     ·simp [Qad,lkp,ren1,ren0,dw]
     ·rw [Qcs,hset]
      simp [Qak,lkp,Box.renames]
    ·have hB':((i:Int)<((digs BW a).length:Int))=False:=by simp;omega
     obtain rfl:=hy0 hB
     simp -implicitDefEqProofs only [go_sem,Nat.reduceAdd,Nat.reduceMul,Nat.reduceEqDiff,Nat.reduceLT,Nat.reduceLeDiff,reduceCtorEq,dw,List.length_map,hA',hB',h0,Qb8,hga,Int.toNat_natCast]
     refine Qaf _ _ _ _ _ _ _ _ _ hc ?_
     simp -implicitDefEqProofs only [go_sem,Nat.reduceAdd,Nat.reduceMul,Nat.reduceEqDiff,Nat.reduceLT,Nat.reduceLeDiff,reduceIte,reduceCtorEq,hA',h0,hiN,Int.toNat_natCast,hwk,hgo,List.length_map,hml]
     refine⟨⟨i+1,hA⟩,by simp only;omega,?_⟩
     refine Qal (θ:=[(303,303)]) rfl ?_ ?_
     ·simp [Qad,lkp,ren1,ren0,dw]
     ·rw [Qcs,hset]
      simp [Qak,lkp,Box.renames]
   ·have hA':((i:Int)<(N:Int))=False:=by simp;omega
    obtain rfl:i=N:=by omega
    have hsum:(b+a)/BW^i<2:=Nat.div_lt_of_lt_mul (by omega)
    have hcN:carry BW b a i=(b+a)/BW^i%BW:=by
     rw [carry,Nat.mod_eq_of_lt hlt,Nat.mod_eq_of_lt hlt2,Nat.mod_eq_of_lt (Nat.lt_trans hsum (by decide))]
    have hm:mix BW (b+a) 0 (i+1) (i+1)=lows BW (b+a) (i+1):=Qem (by decide) (by rw [Nat.pow_succ,←Nat.div_div_eq_div_mul,Nat.div_eq_of_lt (Nat.lt_trans hsum (by decide)),Nat.zero_div])
    rw [hm]at hset
    have htk:((lows BW (b+a) (i+1)).map fW).take (i+1)=(lows BW (b+a) (i+1)).map fW:=List.take_of_length_le (by simp [Qai])
    have hll:=Qai (B:=BW) (b+a) (i+1)
    have hbig:b+a<BW^(i+1):=by
     rw [Nat.pow_succ]
     have:BW^i*2≤BW^i*BW:=Nat.mul_le_mul_left _ (by decide)
     omega
    rw [hcN]
    simp -implicitDefEqProofs only [go_sem,Nat.reduceAdd,Nat.reduceMul,Nat.reduceEqDiff,Nat.reduceLT,Nat.reduceLeDiff,reduceIte,reduceCtorEq,dw,hA',h0,hiN,hN,Int.toNat_natCast,hgo,List.length_map,hml,Qcs,hset,hll,htk]
    refine Qaf _ _ _ _ _ _ _ _ _ (Qc6 (lows BW (b+a) (i+1)) (by rw [Qai];simp [maxLen];omega)) ?_
    simp -implicitDefEqProofs only [go_sem,Nat.reduceAdd,Nat.reduceEqDiff,Nat.reduceLT,reduceCtorEq,dw,List.length_map]
    rw [Qbk BW_2,Nat.mod_eq_of_lt hbig]
 ·have hab':(((digs BW a).length:Int)<((digs BW b).length:Int))=False:=by simp;omega
  have hPQ:(digs BW b).length≤(digs BW a).length:=by omega
  have hn0:((0:Int)≤(((digs BW a).length+1:Nat):Int))=True:=by simp only [eq_iff_iff,iff_true];omega
  have hn1:((8:Nat):Int)*(((digs BW a).length+1:Nat):Int)≤281474976710656:=by omega
  have hn2:(((digs BW a).length+1:Nat):Int)≤9223372036854775807:=by omega
  have hw1:=Qaj (a:=(digs BW a).length) (by omega)
  simp -implicitDefEqProofs only [go_sem,Nat.reduceAdd,Nat.reduceMul,Nat.reduceEqDiff,Nat.reduceLT,Nat.reduceLeDiff,reduceCtorEq,dw,List.length_map,hab',hw1,hn0,hn1,hn2,Int.toNat_natCast]
  have hlt:a<BW^(digs BW a).length:=Qaz BW_2 a
  have hlt2:b<BW^(digs BW a).length:=(Qam BW_2 b _).1 hPQ
  generalize hN:(digs BW a).length=N at*
  rw [Qhv (a+b) (N+1)]
  refine Qas mixed (fun i:{i:Nat // i≤N}=>St.of [(0,dw (digs BW a)),(1,dw (digs BW b)),(4,.nilS),(5,.bs 303 1 0 (N+1)),(6,.int .u64 (carry BW a b i.1:Int)),(21,.int .i64 (N:Int)),(22,.int .i64 (i.1:Int))]
   [(303,{els:=(mix BW (a+b) 0 (N+1) i.1).map fW,esz:=1,ety:=122,fro:=0,live:=true,arr:=true})]) (fun i=>N-i.1) ⟨0,Nat.zero_le _⟩ ?_ ?_
  ·refine Qal (θ:=[(303,303)]) rfl ?_ ?_
   ·simp [Qad,lkp,ren1,ren0,dw,Qi3]
   ·simp [Qak,lkp,Box.renames]
  ·rintro⟨i,hi⟩
   have hml:=Qbf (B:=BW) (a+b) 0 (N+1) i
   have hset:=Qdx (B:=BW) (V:=a+b) (W:=a+b) (S:=0) (n:=N+1) (m:=i) (d:=(a+b)/BW^i%BW) (by decide) (by omega) rfl rfl
   obtain⟨e,hgo⟩: ∃e:Nat,((mix BW (a+b) 0 (N+1) i).map fW)[i]? =some (PV.int .u64 (e:Int)):=⟨_,by rw [List.getElem?_map,Qcn _ _ _ _ _ (by omega)];rfl⟩
   have h0:(0≤(i:Int))=True:=by simp
   have hiN:((i:Int)<((N+1:Nat):Int))=True:=by simp only [eq_iff_iff,iff_true];omega
   by_cases hA:i<N
   ·have hA':((i:Int)<(N:Int))=True:=by simp;omega
    have hga:=Qao BW_2 (show i<(digs BW a).length by omega)
    have hwk:=Qaj (a:=i) (by omega)
    have hcl:=Qod (B:=BW) (by decide) a b i
    obtain⟨s1,s2⟩:(a/BW^i%BW+b/BW^i%BW+carry BW a b i)%18446744073709551616=(a+b)/BW^i%BW∧(a/BW^i%BW+b/BW^i%BW+carry BW a b i)/18446744073709551616=carry BW a b (i+1):=Qoe (B:=BW) (by decide) a b i
    have hy0: ¬i<(digs BW b).length→b/BW^i%BW=0:=fun h=>by rw [Qa7 BW_2 (Nat.le_of_not_lt h),Nat.zero_mod]
    have hgb:i<(digs BW b).length→(digs BW b)[i]? =some (b/BW^i%BW):=fun h=>Qao BW_2 h
    have hc:=Qow (a/BW^i%BW) (b/BW^i%BW) (carry BW a b i) hcl
    rw [s1,s2]at hc
    generalize a/BW^i%BW=x at*
    generalize b/BW^i%BW=y at*
    generalize (a+b)/BW^i%BW=z at*
    by_cases hB:i<(digs BW b).length
    ·have hB':((i:Int)<((digs BW b).length:Int))=True:=by simp;omega
     have hgb:=hgb hB
     simp -implicitDefEqProofs only [go_sem,Nat.reduceAdd,Nat.reduceMul,Nat.reduceEqDiff,Nat.reduceLT,Nat.reduceLeDiff,reduceCtorEq,dw,List.length_map,hA',hB',h0,Qb8,hga,hgb,Int.toNat_natCast]
     refine Qaf _ _ _ _ _ _ _ _ _ hc ?_
     simp -implicitDefEqProofs only [go_sem,Nat.reduceAdd,Nat.reduceMul,Nat.reduceEqDiff,Nat.reduceLT,Nat.reduceLeDiff,reduceIte,reduceCtorEq,hA',h0,hiN,Int.toNat_natCast,hwk,hgo,List.length_map,hml]
     refine⟨⟨i+1,hA⟩,by simp only;omega,?_⟩
     refine Qal (θ:=[(303,303)]) rfl ?_ ?_
     ·simp [Qad,lkp,ren1,ren0,dw]
     ·rw [Qcs,hset]
      simp [Qak,lkp,Box.renames]
    ·have hB':((i:Int)<((digs BW b).length:Int))=False:=by simp;omega
     obtain rfl:=hy0 hB
     simp -implicitDefEqProofs only [go_sem,Nat.reduceAdd,Nat.reduceMul,Nat.reduceEqDiff,Nat.reduceLT,Nat.reduceLeDiff,reduceCtorEq,dw,List.length_map,hA',hB',h0,Qb8,hga,Int.toNat_natCast]
     refine Qaf _ _ _ _ _ _ _ _ _ hc ?_
     simp -implicitDefEqProofs only [go_sem,Nat.reduceAdd,Nat.reduceMul,Nat.reduceEqDiff,Nat.reduceLT,Nat.reduceLeDiff,reduceIte,reduceCtorEq,hA',h0,hiN,Int.toNat_natCast,hwk,hgo,List.length_map,hml]
     refine⟨⟨i+1,hA⟩,by simp only;omega,?_⟩
     refine Qal (θ:=[(303,303)]) rfl ?_ ?_
     ·simp [Qad,lkp,ren1,ren0,dw]
     ·rw [Qcs,hset]
      simp [Qak,lkp,Box.renames]
   ·have hA':((i:Int)<(N:Int))=False:=by simp;omega
    obtain rfl:i=N:=by omega
    have hsum:(a+b)/BW^i<2:=Nat.div_lt_of_lt_mul (by omega)
    have hcN:carry BW a b i=(a+b)/BW^i%BW:=by
     rw [carry,Nat.mod_eq_of_lt hlt,Nat.mod_eq_of_lt hlt2,Nat.mod_eq_of_lt (Nat.lt_trans hsum (by decide))]
    have hm:mix BW (a+b) 0 (i+1) (i+1)=lows BW (a+b) (i+1):=Qem (by decide) (by rw [Nat.pow_succ,←Nat.div_div_eq_div_mul,Nat.div_eq_of_lt (Nat.lt_trans hsum (by decide)),Nat.zero_div])
    rw [hm]at hset
    have htk:((lows BW (a+b) (i+1)).map fW).take (i+1)=(lows BW (a+b) (i+1)).map fW:=List.take_of_length_le (by simp [Qai])
    have hll:=Qai (B:=BW) (a+b) (i+1)
    have hbig:a+b<BW^(i+1):=by
     rw [Nat.pow_succ]
     have:BW^i*2≤BW^i*BW:=Nat.mul_le_mul_left _ (by decide)
     omega
    rw [hcN]
    simp -implicitDefEqProofs only [go_sem,Nat.reduceAdd,Nat.reduceMul,Nat.reduceEqDiff,Nat.reduceLT,Nat.reduceLeDiff,reduceIte,reduceCtorEq,dw,hA',h0,hiN,hN,Int.toNat_natCast,hgo,List.length_map,hml,Qcs,hset,hll,htk]
    refine Qaf _ _ _ _ _ _ _ _ _ (Qc6 (lows BW (a+b) (i+1)) (by rw [Qai];simp [maxLen];omega)) ?_
    simp -implicitDefEqProofs only [go_sem,Nat.reduceAdd,Nat.reduceEqDiff,Nat.reduceLT,reduceCtorEq,dw,List.length_map]
    rw [Qbk BW_2,Nat.mod_eq_of_lt hbig]
end Go.Proofs.YtlpiamlgibomhaaGreat

namespace Go.Proofs.YtlpiamlgibomhaaGreat
open Go.Vl Go.RowKit Go.Dg
def nP (neg:Bool) (m:Nat):PV:= .agg [.bool neg,dw (digs BW m)]
def sv (neg:Bool) (m:Nat):Int:=if neg then -(m:Int)else m
theorem Zk5 (neg:Bool) (m:Nat):Qag Tryz.prog 129 [nP neg m] (nP (!neg) m):=by
 refine Qac (tb:=[]) 9 [.cell 2 128] [0,1,2] mixed Tryz.func129 rfl (by kernel_rfl) (by kernel_rfl) (by kernel_rfl) (by kernel_rfl) ?_
 simp -implicitDefEqProofs only [go_sem,Nat.reduceAdd,Nat.reduceMul,Nat.reduceEqDiff,Nat.reduceLT,Nat.reduceLeDiff,reduceCtorEq,nP,dw]
theorem Qy5 (neg:Bool) (m:Nat):Qag Tryz.prog 130 [nP neg m] (.int .i64 (sv neg m).sign):=by
 refine Qac (tb:=[]) 11 [.tmp 2] [0,1,2,3,8] mixed Tryz.func130 rfl (by kernel_rfl) (by kernel_rfl) (by kernel_rfl) (by kernel_rfl) ?_
 by_cases h0:m=0
 ·subst h0
  have h1:(((0:Nat):Int)==0)=true:=rfl
  have e:(sv neg 0).sign=0:=by cases neg<;>rfl
  rw [e]
  simp -implicitDefEqProofs only [go_sem,Nat.reduceAdd,Nat.reduceMul,Nat.reduceEqDiff,Nat.reduceLT,Nat.reduceLeDiff,reduceCtorEq,Int.reduceNeg,nP,dw,Qax,List.map_nil,List.length_nil,h1]
 ·have h1:(((digs BW m).length:Int)==0)=false:=by
   have:=List.length_pos_iff.2 (mt (Qbh BW_2).1 h0)
   simp only [beq_eq_false_iff_ne,ne_eq];omega
  cases neg with
  |true=>
   have e:(sv true m).sign= -1:=Int.sign_eq_neg_one_of_neg (by simp [sv];omega)
   rw [e]
   simp -implicitDefEqProofs only [go_sem,Nat.reduceAdd,Nat.reduceMul,Nat.reduceEqDiff,Nat.reduceLT,Nat.reduceLeDiff,reduceCtorEq,Int.reduceNeg,nP,dw,List.length_map,h1]
  |false=>
   have e:(sv false m).sign=1:=Int.sign_eq_one_of_pos (by simp [sv];omega)
   rw [e]
   simp -implicitDefEqProofs only [go_sem,Nat.reduceAdd,Nat.reduceMul,Nat.reduceEqDiff,Nat.reduceLT,Nat.reduceLeDiff,reduceCtorEq,Int.reduceNeg,nP,dw,List.length_map,h1]
theorem Zdu (xn yn:Bool) (x y:Nat) (hx:(digs BW x).length≤1000000000) (hy:(digs BW y).length≤1000000000):
  ∃(n:Bool) (m:Nat),Qag Tryz.prog 128 [nP xn x,nP yn y] (nP n m)∧sv n m=sv xn x+sv yn y∧m≤x+y:=by
 cases hs:(xn==yn)with
 |true=>
  obtain rfl:xn=yn:=by simpa using hs
  refine⟨xn,x+y,?_,by cases xn<;>simp [sv]<;>omega,Nat.le_refl _⟩
  refine Qac (tb:=[]) 42 [.cell 4 128] [0,1,2,3,4,5,19] mixed Tryz.func128 rfl (by kernel_rfl) (by kernel_rfl) (by kernel_rfl) (by kernel_rfl) ?_
  simp -implicitDefEqProofs only [go_sem,Nat.reduceAdd,Nat.reduceMul,Nat.reduceEqDiff,Nat.reduceLT,Nat.reduceLeDiff,reduceCtorEq,nP,dw,hs]
  refine Qaf _ _ _ _ _ _ _ _ _ (Zdt x y hx hy) ?_
  simp -implicitDefEqProofs only [go_sem,Nat.reduceAdd,Nat.reduceEqDiff,Nat.reduceLT,Nat.reduceLeDiff,reduceCtorEq,nP,dw]
  exact Qaa _ _ (by kernel_rfl)
 |false=>
  have hne:yn= !xn:=by cases xn<;>cases yn<;>simp at hs ⊢
  by_cases hc:y≤x
  ·refine⟨xn,x-y,?_,by subst hne;cases xn<;>simp [sv]<;>omega,by omega⟩
   have h1:(0≤cmpW x y)=True:=by simp only [eq_iff_iff,iff_true];have:=Qd3 x y;omega
   refine Qac (tb:=[]) 42 [.cell 4 128] [0,1,2,3,4,5,19] mixed Tryz.func128 rfl (by kernel_rfl) (by kernel_rfl) (by kernel_rfl) (by kernel_rfl) ?_
   simp -implicitDefEqProofs only [go_sem,Nat.reduceAdd,Nat.reduceMul,Nat.reduceEqDiff,Nat.reduceLT,Nat.reduceLeDiff,reduceCtorEq,nP,dw,hs]
   refine Qaf _ _ _ _ _ _ _ _ _ (Qdg x y hx hy) ?_
   simp -implicitDefEqProofs only [go_sem,Nat.reduceAdd,Nat.reduceMul,Nat.reduceEqDiff,Nat.reduceLT,Nat.reduceLeDiff,reduceCtorEq,h1]
   refine Qaf _ _ _ _ _ _ _ _ _ (Qpy x y hc hx) ?_
   simp -implicitDefEqProofs only [go_sem,Nat.reduceAdd,Nat.reduceEqDiff,Nat.reduceLT,Nat.reduceLeDiff,reduceCtorEq,nP,dw]
   exact Qaa _ _ (by kernel_rfl)
  ·refine⟨yn,y-x,?_,by subst hne;cases xn<;>simp [sv]<;>omega,by omega⟩
   have h1:(0≤cmpW x y)=False:=by simp only [eq_iff_iff,iff_false];have:=Qd3 x y;omega
   refine Qac (tb:=[]) 42 [.cell 4 128] [0,1,2,3,4,5,19] mixed Tryz.func128 rfl (by kernel_rfl) (by kernel_rfl) (by kernel_rfl) (by kernel_rfl) ?_
   simp -implicitDefEqProofs only [go_sem,Nat.reduceAdd,Nat.reduceMul,Nat.reduceEqDiff,Nat.reduceLT,Nat.reduceLeDiff,reduceCtorEq,nP,dw,hs]
   refine Qaf _ _ _ _ _ _ _ _ _ (Qdg x y hx hy) ?_
   simp -implicitDefEqProofs only [go_sem,Nat.reduceAdd,Nat.reduceMul,Nat.reduceEqDiff,Nat.reduceLT,Nat.reduceLeDiff,reduceCtorEq,h1]
   refine Qaf _ _ _ _ _ _ _ _ _ (Qpy y x (by omega) hy) ?_
   simp -implicitDefEqProofs only [go_sem,Nat.reduceAdd,Nat.reduceEqDiff,Nat.reduceLT,Nat.reduceLeDiff,reduceCtorEq,nP,dw]
   exact Qaa _ _ (by kernel_rfl)
def Qbg (neg:Bool) (l:List UInt8):Bool:=match l with
 | []=> !neg
 |b::_=>decide (l.length≤8192)&&b != 0
theorem Ze0 {s:ByteArray} {b:UInt8} {r:List UInt8} (h:s.data.toList=b::r):s[0]? =some b:=by
 rw [Qqn s 0 (by rw [h];simp)]
 simp only [h,List.getElem_cons_zero]
theorem Qru (b:UInt8):((b.toNat:Int) != 0)=(b != 0):=by
 by_cases h:b=0
 ·subst h;rfl
 ·have:b.toNat≠0:=fun e=>h (UInt8.toNat_inj.1 (by simpa using e))
  have h1:((b.toNat:Int) != 0)=true:=by simp;omega
  have h2:(b != 0)=true:=by simp [h]
  rw [h1,h2]
end Go.Proofs.YtlpiamlgibomhaaGreat

namespace Go.Proofs.YtlpiamlgibomhaaGreat
open Go.Vl Go.RowKit Go.Dg
theorem Qfb (neg:Bool) (s:ByteArray):Qag Tryz.prog 100 [.agg [.bool neg,.str s]] (.bool (Qbg neg s.data.toList)):=by
 have hz:=Qhi s
 cases h:s.data.toList with
 |nil=>
  have h1:(([]:List UInt8)== [])=true:=rfl
  refine Qac (tb:=[]) 19 [.tmp 2] [0,1,2,5] mixed Tryz.func100 rfl (by kernel_rfl) (by kernel_rfl) (by kernel_rfl) (by kernel_rfl) ?_
  simp -implicitDefEqProofs only [go_sem,Nat.reduceAdd,Nat.reduceMul,Nat.reduceEqDiff,Nat.reduceLT,Nat.reduceLeDiff,reduceCtorEq,Qbg,h,h1]
 |cons b r=>
  have h0:=Ze0 h
  have hne:(b::r== [])=false:=rfl
  rw [h]at hz
  refine Qac (tb:=[]) 19 [.tmp 2] [0,1,2,5] mixed Tryz.func100 rfl (by kernel_rfl) (by kernel_rfl) (by kernel_rfl) (by kernel_rfl) ?_
  by_cases hb:(b != 0)=true
  ·by_cases h2:(b::r).length≤8192
   ·have h2':((s.size:Int)≤8192)=True:=by rw [hz];simp only [eq_iff_iff,iff_true];omega
    have e:Qbg neg (b::r)=true:=by simp only [Qbg,h2,decide_true,Bool.true_and,hb]
    rw [e]
    simp -implicitDefEqProofs only [go_sem,Nat.reduceAdd,Nat.reduceMul,Nat.reduceEqDiff,Nat.reduceLT,Nat.reduceLeDiff,reduceCtorEq,h,hne,h2',h0,Qru,hb]
   ·have h2':((s.size:Int)≤8192)=False:=by rw [hz];simp only [eq_iff_iff,iff_false];omega
    have e:Qbg neg (b::r)=false:=by simp only [Qbg,h2,decide_false,Bool.false_and]
    rw [e]
    simp -implicitDefEqProofs only [go_sem,Nat.reduceAdd,Nat.reduceMul,Nat.reduceEqDiff,Nat.reduceLT,Nat.reduceLeDiff,reduceCtorEq,h,hne,h2',h0,Qru,hb]
  ·have hb':(b != 0)=false:=by simpa using hb
   have e:Qbg neg (b::r)=false:=by simp only [Qbg,hb',Bool.and_false]
   rw [e]
   simp -implicitDefEqProofs only [go_sem,Nat.reduceAdd,Nat.reduceMul,Nat.reduceEqDiff,Nat.reduceLT,Nat.reduceLeDiff,reduceCtorEq,h,hne,h0,Qru,hb']
theorem Qpz (an bn:Bool) (a b:ByteArray):Qag Tryz.prog 127 [.agg [.bool an,.str a],.agg [.bool bn,.str b]] (.bool (Qbg an a.data.toList&&Qbg bn b.data.toList)):=by
 refine Qac (tb:=[]) 11 [.tmp 4] [0,1,2,3,4] mixed Tryz.func127 rfl (by kernel_rfl) (by kernel_rfl) (by kernel_rfl) (by kernel_rfl) ?_
 simp -implicitDefEqProofs only [go_sem,Nat.reduceAdd,Nat.reduceMul,Nat.reduceEqDiff,Nat.reduceLT,Nat.reduceLeDiff,reduceCtorEq]
 refine Qaf _ _ _ _ _ _ _ _ _ (Qfb an a) ?_
 cases h:Qbg an a.data.toList with
 |true=>
  simp -implicitDefEqProofs only [go_sem,Nat.reduceAdd,Nat.reduceEqDiff,Nat.reduceLT,reduceCtorEq,Bool.true_and]
  refine Qaf _ _ _ _ _ _ _ _ _ (Qfb bn b) ?_
  simp -implicitDefEqProofs only [go_sem,Nat.reduceAdd,Nat.reduceEqDiff,Nat.reduceLT,reduceCtorEq]
 |false=>
  simp -implicitDefEqProofs only [go_sem,Nat.reduceAdd,Nat.reduceEqDiff,Nat.reduceLT,reduceCtorEq,Bool.false_and]
end Go.Proofs.YtlpiamlgibomhaaGreat

namespace Go.Proofs.YtlpiamlgibomhaaGreat
open Go.Vl Go.RowKit Go.Dg
def Qn9 (T:List UInt8):Bool:=(List.range 256).all fun x=>match T[x]? with
 |some t=>decide (x<2^t.toNat)&&(decide (x=0∧t.toNat=0)||decide (2^(t.toNat-1)≤x∧0<t.toNat))
 |none=>false
theorem Qdo {s:ByteArray} (h:Qn9 s.data.toList=true) {x:Nat} (hx:x<256): ∃t:UInt8,s[x]? =some t∧t.toNat=blen x:=by
 have h1:=List.all_eq_true.1 h x (by simpa using hx)
 cases ht:s.data.toList[x]? with
 |none=>rw [ht]at h1;cases h1
 |some t=>
  rw [ht]at h1
  simp only [Bool.and_eq_true,Bool.or_eq_true,decide_eq_true_eq]at h1
  have hl:=(List.getElem?_eq_some_iff.1 ht)
  refine⟨t,by rw [Qqn s x hl.1];rw [←List.getElem?_eq_getElem hl.1,ht],?_⟩
  obtain⟨h1,h2⟩:=h1
  have:=Qde _ _ h1
  rcases h2 with⟨rfl,h2⟩|⟨h2,h3⟩
  ·rw [h2,Qf5]
  ·have:=Qlg _ _ h2
   omega
theorem Qhw (n k:Nat):(n:Int).fdiv (2^k)=((n/2^k:Nat):Int):=by
 rw [Int.fdiv_eq_ediv_of_nonneg _ (Int.pow_nonneg (by decide))]
 simp
theorem Qjl (n:Nat):(n:Int).fdiv (2^min 16 64)=((n/65536:Nat):Int):=by
 rw [Int.fdiv_eq_ediv_of_nonneg _ (by decide)];rfl
theorem Qp0 (n:Nat):(n:Int).fdiv (2^min 8 64)=((n/256:Nat):Int):=by
 rw [Int.fdiv_eq_ediv_of_nonneg _ (by decide)];rfl
theorem Ze1 (x:Nat) (hx:x<18446744073709551616):Qag Tryz.prog 157 [.int .u64 (x:Int)] (.int .i64 (blen x:Int)):=by
 have wc8:IntKind.i64.wrap 8=8:=rfl
 have wc16:IntKind.i64.wrap 16=16:=rfl
 have wc24:IntKind.i64.wrap 24=24:=rfl
 have wc32:IntKind.i64.wrap 32=32:=rfl
 have wc40:IntKind.i64.wrap 40=40:=rfl
 have wc48:IntKind.i64.wrap 48=48:=rfl
 have wc56:IntKind.i64.wrap 56=56:=rfl
 by_cases q32:4294967296≤x
 ·have h32:(4294967296≤((x:Nat):Int))=True:=by simp only [eq_iff_iff,iff_true];omega
  by_cases q16:65536≤x/4294967296
  ·have h16:(65536≤((x/4294967296:Nat):Int))=True:=by simp only [eq_iff_iff,iff_true];omega
   by_cases q8:256≤(x/4294967296)/65536
   ·have h8:(256≤(((x/4294967296)/65536:Nat):Int))=True:=by simp only [eq_iff_iff,iff_true];omega
    have hx8:((x/4294967296)/65536)/256<256:=by omega
    have hw:=Qfh hx8
    have h0:(0≤((((x/4294967296)/65536)/256:Nat):Int))=True:=by simp only [eq_iff_iff,iff_true];exact Int.natCast_nonneg _
    have hb:blen x=blen (((x/4294967296)/65536)/256)+56:=by have:=Qd2 56 x (by simp only [Nat.reducePow];omega);simp only [Nat.reducePow]at this;rw [this,show((x/4294967296)/65536)/256=x/72057594037927936 by omega]
    refine Qac (tb:=[]) 25 [.tmp 2] [0,2,4,8,14] mixed Tryz.func157 rfl (by kernel_rfl) (by kernel_rfl) (by kernel_rfl) (by kernel_rfl) ?_
    simp -implicitDefEqProofs only [go_sem,Nat.reduceAdd,Nat.reduceMul,Nat.reduceEqDiff,Nat.reduceLT,Nat.reduceLeDiff,reduceCtorEq,Int.reduceLT,Int.reduceToNat,Int.reduceAdd,h32,h16,h8,Qib,Qjl,Qp0,hw,h0,Int.toNat_natCast,wc8,wc16,wc24,wc32,wc40,wc48,wc56]
    generalize hT:ByteArray.mk _=T
    have hok:Qn9 T.data.toList=true:=by rw [←hT];kernel_rfl
    obtain⟨t,ht,htb⟩:=Qdo hok hx8
    clear hT
    have hw2:IntKind.i64.wrap (t.toNat:Int)=(t.toNat:Int):=wrapn (by have:=t.toNat_lt;omega)
    have hw3:IntKind.i64.wrap (56+(t.toNat:Int))=((blen x:Nat):Int):=by rw [Qah (by have:=t.toNat_lt;omega) (by have:=t.toNat_lt;omega),hb,←htb];omega
    rw [htb]at hw2 hw3
    simp -implicitDefEqProofs only [go_sem,Nat.reduceAdd,Nat.reduceEqDiff,Nat.reduceLT,reduceCtorEq,ht,hw2,hw3,htb,wc8,wc16,wc24,wc32,wc40,wc48,wc56]
   ·have h8:(256≤(((x/4294967296)/65536:Nat):Int))=False:=by simp only [eq_iff_iff,iff_false];omega
    have hx8:(x/4294967296)/65536<256:=by omega
    have hw:=Qfh hx8
    have h0:(0≤(((x/4294967296)/65536:Nat):Int))=True:=by simp only [eq_iff_iff,iff_true];exact Int.natCast_nonneg _
    have hb:blen x=blen ((x/4294967296)/65536)+48:=by have:=Qd2 48 x (by simp only [Nat.reducePow];omega);simp only [Nat.reducePow]at this;rw [this,show(x/4294967296)/65536=x/281474976710656 by omega]
    refine Qac (tb:=[]) 25 [.tmp 2] [0,2,4,8,14] mixed Tryz.func157 rfl (by kernel_rfl) (by kernel_rfl) (by kernel_rfl) (by kernel_rfl) ?_
    simp -implicitDefEqProofs only [go_sem,Nat.reduceAdd,Nat.reduceMul,Nat.reduceEqDiff,Nat.reduceLT,Nat.reduceLeDiff,reduceCtorEq,Int.reduceLT,Int.reduceToNat,Int.reduceAdd,h32,h16,h8,Qib,Qjl,Qp0,hw,h0,Int.toNat_natCast,wc8,wc16,wc24,wc32,wc40,wc48,wc56]
    generalize hT:ByteArray.mk _=T
    have hok:Qn9 T.data.toList=true:=by rw [←hT];kernel_rfl
    obtain⟨t,ht,htb⟩:=Qdo hok hx8
    clear hT
    have hw2:IntKind.i64.wrap (t.toNat:Int)=(t.toNat:Int):=wrapn (by have:=t.toNat_lt;omega)
    have hw3:IntKind.i64.wrap (48+(t.toNat:Int))=((blen x:Nat):Int):=by rw [Qah (by have:=t.toNat_lt;omega) (by have:=t.toNat_lt;omega),hb,←htb];omega
    rw [htb]at hw2 hw3
    simp -implicitDefEqProofs only [go_sem,Nat.reduceAdd,Nat.reduceEqDiff,Nat.reduceLT,reduceCtorEq,ht,hw2,hw3,htb,wc8,wc16,wc24,wc32,wc40,wc48,wc56]
  ·have h16:(65536≤((x/4294967296:Nat):Int))=False:=by simp only [eq_iff_iff,iff_false];omega
   by_cases q8:256≤x/4294967296
   ·have h8:(256≤((x/4294967296:Nat):Int))=True:=by simp only [eq_iff_iff,iff_true];omega
    have hx8:(x/4294967296)/256<256:=by omega
    have hw:=Qfh hx8
    have h0:(0≤(((x/4294967296)/256:Nat):Int))=True:=by simp only [eq_iff_iff,iff_true];exact Int.natCast_nonneg _
    have hb:blen x=blen ((x/4294967296)/256)+40:=by have:=Qd2 40 x (by simp only [Nat.reducePow];omega);simp only [Nat.reducePow]at this;rw [this,show(x/4294967296)/256=x/1099511627776 by omega]
    refine Qac (tb:=[]) 25 [.tmp 2] [0,2,4,8,14] mixed Tryz.func157 rfl (by kernel_rfl) (by kernel_rfl) (by kernel_rfl) (by kernel_rfl) ?_
    simp -implicitDefEqProofs only [go_sem,Nat.reduceAdd,Nat.reduceMul,Nat.reduceEqDiff,Nat.reduceLT,Nat.reduceLeDiff,reduceCtorEq,Int.reduceLT,Int.reduceToNat,Int.reduceAdd,h32,h16,h8,Qib,Qjl,Qp0,hw,h0,Int.toNat_natCast,wc8,wc16,wc24,wc32,wc40,wc48,wc56]
    generalize hT:ByteArray.mk _=T
    have hok:Qn9 T.data.toList=true:=by rw [←hT];kernel_rfl
    obtain⟨t,ht,htb⟩:=Qdo hok hx8
    clear hT
    have hw2:IntKind.i64.wrap (t.toNat:Int)=(t.toNat:Int):=wrapn (by have:=t.toNat_lt;omega)
    have hw3:IntKind.i64.wrap (40+(t.toNat:Int))=((blen x:Nat):Int):=by rw [Qah (by have:=t.toNat_lt;omega) (by have:=t.toNat_lt;omega),hb,←htb];omega
    rw [htb]at hw2 hw3
    simp -implicitDefEqProofs only [go_sem,Nat.reduceAdd,Nat.reduceEqDiff,Nat.reduceLT,reduceCtorEq,ht,hw2,hw3,htb,wc8,wc16,wc24,wc32,wc40,wc48,wc56]
   ·have h8:(256≤((x/4294967296:Nat):Int))=False:=by simp only [eq_iff_iff,iff_false];omega
    have hx8:x/4294967296<256:=by omega
    have hw:=Qfh hx8
    have h0:(0≤((x/4294967296:Nat):Int))=True:=by simp only [eq_iff_iff,iff_true];exact Int.natCast_nonneg _
    have hb:blen x=blen (x/4294967296)+32:=by have:=Qd2 32 x (by simp only [Nat.reducePow];omega);simp only [Nat.reducePow]at this;rw [this,show x/4294967296=x/4294967296 by omega]
    refine Qac (tb:=[]) 25 [.tmp 2] [0,2,4,8,14] mixed Tryz.func157 rfl (by kernel_rfl) (by kernel_rfl) (by kernel_rfl) (by kernel_rfl) ?_
    simp -implicitDefEqProofs only [go_sem,Nat.reduceAdd,Nat.reduceMul,Nat.reduceEqDiff,Nat.reduceLT,Nat.reduceLeDiff,reduceCtorEq,Int.reduceLT,Int.reduceToNat,h32,h16,h8,Qib,Qjl,Qp0,hw,h0,Int.toNat_natCast,wc8,wc16,wc24,wc32,wc40,wc48,wc56]
    generalize hT:ByteArray.mk _=T
    have hok:Qn9 T.data.toList=true:=by rw [←hT];kernel_rfl
    obtain⟨t,ht,htb⟩:=Qdo hok hx8
    clear hT
    have hw2:IntKind.i64.wrap (t.toNat:Int)=(t.toNat:Int):=wrapn (by have:=t.toNat_lt;omega)
    have hw3:IntKind.i64.wrap (32+(t.toNat:Int))=((blen x:Nat):Int):=by rw [Qah (by have:=t.toNat_lt;omega) (by have:=t.toNat_lt;omega),hb,←htb];omega
    rw [htb]at hw2 hw3
    simp -implicitDefEqProofs only [go_sem,Nat.reduceAdd,Nat.reduceEqDiff,Nat.reduceLT,reduceCtorEq,ht,hw2,hw3,htb,wc8,wc16,wc24,wc32,wc40,wc48,wc56]
 ·have h32:(4294967296≤((x:Nat):Int))=False:=by simp only [eq_iff_iff,iff_false];omega
  by_cases q16:65536≤x
  ·have h16:(65536≤((x:Nat):Int))=True:=by simp only [eq_iff_iff,iff_true];omega
   by_cases q8:256≤x/65536
   ·have h8:(256≤((x/65536:Nat):Int))=True:=by simp only [eq_iff_iff,iff_true];omega
    have hx8:(x/65536)/256<256:=by omega
    have hw:=Qfh hx8
    have h0:(0≤(((x/65536)/256:Nat):Int))=True:=by simp only [eq_iff_iff,iff_true];exact Int.natCast_nonneg _
    have hb:blen x=blen ((x/65536)/256)+24:=by have:=Qd2 24 x (by simp only [Nat.reducePow];omega);simp only [Nat.reducePow]at this;rw [this,show(x/65536)/256=x/16777216 by omega]
    refine Qac (tb:=[]) 25 [.tmp 2] [0,2,4,8,14] mixed Tryz.func157 rfl (by kernel_rfl) (by kernel_rfl) (by kernel_rfl) (by kernel_rfl) ?_
    simp -implicitDefEqProofs only [go_sem,Nat.reduceAdd,Nat.reduceMul,Nat.reduceEqDiff,Nat.reduceLT,Nat.reduceLeDiff,reduceCtorEq,Int.reduceLT,Int.reduceToNat,Int.reduceAdd,h32,h16,h8,Qib,Qjl,Qp0,hw,h0,Int.toNat_natCast,wc8,wc16,wc24,wc32,wc40,wc48,wc56]
    generalize hT:ByteArray.mk _=T
    have hok:Qn9 T.data.toList=true:=by rw [←hT];kernel_rfl
    obtain⟨t,ht,htb⟩:=Qdo hok hx8
    clear hT
    have hw2:IntKind.i64.wrap (t.toNat:Int)=(t.toNat:Int):=wrapn (by have:=t.toNat_lt;omega)
    have hw3:IntKind.i64.wrap (24+(t.toNat:Int))=((blen x:Nat):Int):=by rw [Qah (by have:=t.toNat_lt;omega) (by have:=t.toNat_lt;omega),hb,←htb];omega
    rw [htb]at hw2 hw3
    simp -implicitDefEqProofs only [go_sem,Nat.reduceAdd,Nat.reduceEqDiff,Nat.reduceLT,reduceCtorEq,ht,hw2,hw3,htb,wc8,wc16,wc24,wc32,wc40,wc48,wc56]
   ·have h8:(256≤((x/65536:Nat):Int))=False:=by simp only [eq_iff_iff,iff_false];omega
    have hx8:x/65536<256:=by omega
    have hw:=Qfh hx8
    have h0:(0≤((x/65536:Nat):Int))=True:=by simp only [eq_iff_iff,iff_true];exact Int.natCast_nonneg _
    have hb:blen x=blen (x/65536)+16:=by have:=Qd2 16 x (by simp only [Nat.reducePow];omega);simp only [Nat.reducePow]at this;rw [this,show x/65536=x/65536 by omega]
    refine Qac (tb:=[]) 25 [.tmp 2] [0,2,4,8,14] mixed Tryz.func157 rfl (by kernel_rfl) (by kernel_rfl) (by kernel_rfl) (by kernel_rfl) ?_
    simp -implicitDefEqProofs only [go_sem,Nat.reduceAdd,Nat.reduceMul,Nat.reduceEqDiff,Nat.reduceLT,Nat.reduceLeDiff,reduceCtorEq,Int.reduceLT,Int.reduceToNat,Int.reduceAdd,h32,h16,h8,Qib,Qjl,Qp0,hw,h0,Int.toNat_natCast,wc8,wc16,wc24,wc32,wc40,wc48,wc56]
    generalize hT:ByteArray.mk _=T
    have hok:Qn9 T.data.toList=true:=by rw [←hT];kernel_rfl
    obtain⟨t,ht,htb⟩:=Qdo hok hx8
    clear hT
    have hw2:IntKind.i64.wrap (t.toNat:Int)=(t.toNat:Int):=wrapn (by have:=t.toNat_lt;omega)
    have hw3:IntKind.i64.wrap (16+(t.toNat:Int))=((blen x:Nat):Int):=by rw [Qah (by have:=t.toNat_lt;omega) (by have:=t.toNat_lt;omega),hb,←htb];omega
    rw [htb]at hw2 hw3
    simp -implicitDefEqProofs only [go_sem,Nat.reduceAdd,Nat.reduceEqDiff,Nat.reduceLT,reduceCtorEq,ht,hw2,hw3,htb,wc8,wc16,wc24,wc32,wc40,wc48,wc56]
  ·have h16:(65536≤((x:Nat):Int))=False:=by simp only [eq_iff_iff,iff_false];omega
   by_cases q8:256≤x
   ·have h8:(256≤((x:Nat):Int))=True:=by simp only [eq_iff_iff,iff_true];omega
    have hx8:x/256<256:=by omega
    have hw:=Qfh hx8
    have h0:(0≤((x/256:Nat):Int))=True:=by simp only [eq_iff_iff,iff_true];exact Int.natCast_nonneg _
    have hb:blen x=blen (x/256)+8:=by have:=Qd2 8 x (by simp only [Nat.reducePow];omega);simp only [Nat.reducePow]at this;rw [this,show x/256=x/256 by omega]
    refine Qac (tb:=[]) 25 [.tmp 2] [0,2,4,8,14] mixed Tryz.func157 rfl (by kernel_rfl) (by kernel_rfl) (by kernel_rfl) (by kernel_rfl) ?_
    simp -implicitDefEqProofs only [go_sem,Nat.reduceAdd,Nat.reduceMul,Nat.reduceEqDiff,Nat.reduceLT,Nat.reduceLeDiff,reduceCtorEq,Int.reduceLT,Int.reduceToNat,Int.reduceAdd,h32,h16,h8,Qib,Qjl,Qp0,hw,h0,Int.toNat_natCast,wc8,wc16,wc24,wc32,wc40,wc48,wc56]
    generalize hT:ByteArray.mk _=T
    have hok:Qn9 T.data.toList=true:=by rw [←hT];kernel_rfl
    obtain⟨t,ht,htb⟩:=Qdo hok hx8
    clear hT
    have hw2:IntKind.i64.wrap (t.toNat:Int)=(t.toNat:Int):=wrapn (by have:=t.toNat_lt;omega)
    have hw3:IntKind.i64.wrap (8+(t.toNat:Int))=((blen x:Nat):Int):=by rw [Qah (by have:=t.toNat_lt;omega) (by have:=t.toNat_lt;omega),hb,←htb];omega
    rw [htb]at hw2 hw3
    simp -implicitDefEqProofs only [go_sem,Nat.reduceAdd,Nat.reduceEqDiff,Nat.reduceLT,reduceCtorEq,ht,hw2,hw3,htb,wc8,wc16,wc24,wc32,wc40,wc48,wc56]
   ·have h8:(256≤((x:Nat):Int))=False:=by simp only [eq_iff_iff,iff_false];omega
    have hx8:x<256:=by omega
    have hw:=Qfh hx8
    have h0:(0≤((x:Nat):Int))=True:=by simp only [eq_iff_iff,iff_true];exact Int.natCast_nonneg _
    have hb:blen x=blen (x)+0:=by rfl
    refine Qac (tb:=[]) 25 [.tmp 2] [0,2,4,8,14] mixed Tryz.func157 rfl (by kernel_rfl) (by kernel_rfl) (by kernel_rfl) (by kernel_rfl) ?_
    simp -implicitDefEqProofs only [go_sem,Nat.reduceAdd,Nat.reduceMul,Nat.reduceEqDiff,Nat.reduceLT,Nat.reduceLeDiff,reduceCtorEq,h32,h16,h8,Qib,Qjl,Qp0,hw,h0,Int.toNat_natCast,wc8,wc16,wc24,wc32,wc40,wc48,wc56]
    generalize hT:ByteArray.mk _=T
    have hok:Qn9 T.data.toList=true:=by rw [←hT];kernel_rfl
    obtain⟨t,ht,htb⟩:=Qdo hok hx8
    clear hT
    have hw2:IntKind.i64.wrap (t.toNat:Int)=(t.toNat:Int):=wrapn (by have:=t.toNat_lt;omega)
    have hw3:IntKind.i64.wrap (0+(t.toNat:Int))=((blen x:Nat):Int):=by rw [Qah (by have:=t.toNat_lt;omega) (by have:=t.toNat_lt;omega),hb,←htb];omega
    rw [htb]at hw2 hw3
    simp -implicitDefEqProofs only [go_sem,Nat.reduceAdd,Nat.reduceEqDiff,Nat.reduceLT,reduceCtorEq,ht,hw2,hw3,htb,wc8,wc16,wc24,wc32,wc40,wc48,wc56]
end Go.Proofs.YtlpiamlgibomhaaGreat

namespace Go.Proofs.YtlpiamlgibomhaaGreat
open Go.Vl Go.RowKit Go.Dg
theorem Qy6 (x:Nat) (hx:x<18446744073709551616):Qag Tryz.prog 158 [.int .u64 (x:Int)] (.int .i64 ((64-blen x:Nat):Int)):=by
 have hb:=Qde 64 x hx
 have hw:IntKind.i64.wrap (64-((blen x:Nat):Int))=((64-blen x:Nat):Int):=by rw [Qah (by omega) (by omega)];omega
 refine Qac (tb:=[]) 6 [.tmp 2] [0,2] mixed Tryz.func158 rfl (by kernel_rfl) (by kernel_rfl) (by kernel_rfl) (by kernel_rfl) ?_
 simp -implicitDefEqProofs only [go_sem,Nat.reduceAdd,Nat.reduceMul,Nat.reduceEqDiff,Nat.reduceLT,Nat.reduceLeDiff,reduceCtorEq]
 refine Qaf _ _ _ _ _ _ _ _ _ (Ze1 x hx) ?_
 simp -implicitDefEqProofs only [go_sem,Nat.reduceAdd,Nat.reduceEqDiff,Nat.reduceLT,reduceCtorEq,hw]
theorem Qrv (m:Nat) (hl:(digs BW m).length≤1000000000):Qag Tryz.prog 124 [dw (digs BW m)] (.int .i64 (blen m:Int)):=by
 refine Qac (tb:=[]) 17 [.tmp 2] [0,2,5] mixed Tryz.func124 rfl (by kernel_rfl) (by kernel_rfl) (by kernel_rfl) (by kernel_rfl) ?_
 by_cases h0:m=0
 ·subst h0
  have h1:(((0:Nat):Int)==0)=true:=rfl
  simp -implicitDefEqProofs only [go_sem,Nat.reduceAdd,Nat.reduceMul,Nat.reduceEqDiff,Nat.reduceLT,Nat.reduceLeDiff,reduceCtorEq,dw,Qax,List.map_nil,List.length_nil,h1,Qf5]
  rfl
 ·have hp:0<(digs BW m).length:=List.length_pos_iff.2 (mt (Qbh BW_2).1 h0)
  have h1:(((digs BW m).length:Int)==0)=false:=by simp only [beq_eq_false_iff_ne,ne_eq];omega
  have ht:=Qdq BW_2 h0
  have hg:=Qao (n:=m) (k:=(digs BW m).length-1) BW_2 (by omega)
  rw [Nat.mod_eq_of_lt ht.2]at hg
  have hb:blen m=blen (m/BW^((digs BW m).length-1))+64*((digs BW m).length-1):=Quy h0 64 (by decide)
  generalize m/BW^((digs BW m).length-1)=t at*
  have htl:=Qde 64 t ht.2
  generalize hL:(digs BW m).length=L at*
  have hw1:IntKind.i64.wrap ((L:Int)*64)=((L*64:Nat):Int):=by rw [Qah (by omega) (by omega)];omega
  have hw2:IntKind.i64.wrap ((L:Int)-1)=((L-1:Nat):Int):=by rw [Qah (by omega) (by omega)];omega
  have hw3:IntKind.i64.wrap (((L*64:Nat):Int)-((64-blen t:Nat):Int))=((blen m:Nat):Int):=by rw [Qah (by omega) (by omega),hb];omega
  have h2:(0≤((L-1:Nat):Int))=True:=by simp only [eq_iff_iff,iff_true];exact Int.natCast_nonneg _
  simp -implicitDefEqProofs only [go_sem,Nat.reduceAdd,Nat.reduceMul,Nat.reduceEqDiff,Nat.reduceLT,Nat.reduceLeDiff,reduceCtorEq,dw,List.length_map,hL,h1,hw1,hw2,h2,Qb8,hg,Int.toNat_natCast]
  refine Qaf _ _ _ _ _ _ _ _ _ (Qy6 t ht.2) ?_
  simp -implicitDefEqProofs only [go_sem,Nat.reduceAdd,Nat.reduceEqDiff,Nat.reduceLT,reduceCtorEq,hw3]
end Go.Proofs.YtlpiamlgibomhaaGreat

namespace Go.Dg
abbrev WB:Nat:=18446744073709551616
theorem Zk6 (m:Nat) (hm:m<8):WB=256^(m+1)*256^(7-m):=by
 rw [←Nat.pow_add,show m+1+(7-m)=8 by omega]
theorem Qoa (T b m j:Nat):256^(8*j+m+1)*T+b*256^(8*j+m)=WB^j*(256^(m+1)*T+b*256^m):=by
 have e:WB^j=256^(8*j):=by rw [Nat.pow_mul]
 rw [e,Nat.mul_add,←Nat.mul_assoc,←Nat.pow_add,Nat.mul_left_comm (256^(8*j)) b,←Nat.pow_add,Nat.add_assoc]
theorem Qm2 (T b m j:Nat) (hb:b<256) (hm:m<8):
  (256^(8*j+m+1)*T+b*256^(8*j+m))/WB^j%WB=256^(m+1)*(T%256^(7-m))+b*256^m:=by
 have hp:0<256^m:=Nat.pow_pos (by decide)
 have hlt:b*256^m<256^(m+1):=by rw [Nat.pow_succ,Nat.mul_comm];exact Nat.mul_lt_mul_of_pos_left hb hp
 rw [Qoa,Nat.mul_div_cancel_left _ (Nat.pow_pos (by decide)),Zk6 m hm]
 generalize b*256^m=r at*
 generalize 256^(m+1)=A at*
 generalize 256^(7-m)=q at*
 have hA:0<A:=by omega
 rw [Nat.mod_mul,Nat.mul_add_mod,Nat.mod_eq_of_lt hlt,Nat.mul_add_div hA,Nat.div_eq_of_lt hlt,Nat.add_zero,Nat.add_comm]
theorem Qrw (T b m j i:Nat) (hb:b<256) (hm:m<8) (hi:i≠j):
  (256^(8*j+m+1)*T+b*256^(8*j+m))/WB^i%WB=(256^(8*j+m+1)*T)/WB^i%WB:=by
 have hp:0<256^m:=Nat.pow_pos (by decide)
 have hlt:b*256^m<256^(m+1):=by rw [Nat.pow_succ,Nat.mul_comm];exact Nat.mul_lt_mul_of_pos_left hb hp
 have e2:=Qoa T 0 m j
 rw [Nat.zero_mul,Nat.add_zero,Nat.zero_mul,Nat.add_zero]at e2
 rw [Qoa,e2]
 rcases Nat.lt_or_gt_of_ne hi with h|h
 ·obtain⟨d,rfl⟩:=Nat.exists_eq_add_of_lt h
  have e: ∀X:Nat,WB^(i+d+1)*X/WB^i%WB=0:=by
   intro X
   rw [show i+d+1=i+(d+1)by omega,Nat.pow_add,Nat.mul_assoc,Nat.mul_div_cancel_left _ (Nat.pow_pos (by decide)),Nat.pow_succ,Nat.mul_comm (WB^d),Nat.mul_assoc,Nat.mul_mod_right]
  rw [e,e]
 ·obtain⟨d,rfl⟩:=Nat.exists_eq_add_of_lt h
  have e: ∀X:Nat,WB^j*X/WB^(j+d+1)=X/WB/WB^d:=by
   intro X
   rw [show j+d+1=j+(1+d)by omega,Nat.pow_add,Nat.mul_div_mul_left _ _ (Nat.pow_pos (by decide)),Nat.pow_add,Nat.pow_one,Nat.div_div_eq_div_mul]
  rw [e,e]
  congr 2
  rw [Zk6 m hm]
  generalize b*256^m=r at*
  generalize 256^(m+1)=A at*
  generalize 256^(7-m)=q at*
  have hA:0<A:=by omega
  rw [←Nat.div_div_eq_div_mul,←Nat.div_div_eq_div_mul,Nat.mul_add_div hA,Nat.div_eq_of_lt hlt,Nat.add_zero,Nat.add_zero,Nat.mul_div_cancel_left _ hA]
end Go.Dg
