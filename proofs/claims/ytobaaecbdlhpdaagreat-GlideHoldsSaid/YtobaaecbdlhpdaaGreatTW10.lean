/-
  TW3, TW4, TW5, TW6, TW7, TW8, Dl, TW9, TW10 (merged for the claim).
-/
import Derived.Test.YtobaaecbdlhpdaaGreatTW2
set_option linter.unusedSimpArgs false
set_option linter.unusedVariables false
namespace Go.Proofs.YtobaaecbdlhpdaaGreat
open Go.Vl Go.RowKit Go.Dg
theorem Qcv (l:List Nat) (i:Nat) (d:Nat):(l.map fW).set i (PV.int .u64 (d:Int))=(l.set i d).map fW:=(List.map_set (f:=fW)).symm
theorem Qea (B n:Nat):lows B 0 n=List.replicate n 0:=by
 apply List.ext_getElem?;intro k;by_cases h:k<n
 ·rw [Qbq _ _ _ h];simp [h]
 ·rw [List.getElem?_eq_none (by rw [Qai];omega),List.getElem?_eq_none (by simp;omega)]
theorem Qiq (V n:Nat):List.replicate n (PV.int .u64 0)=(mix BW V 0 n 0).map fW:=by
 rw [Qk4,Qea];simp
theorem Qr0 (a b:Nat) (hba:b≤a) (ha:(digs BW a).length≤1000000000):Qaf Tryz.prog 93 [dw (digs BW a),dw (digs BW b)] (dw (digs BW (a-b))):=by
 refine Qac (tb:=[]) 41 [.tmp 4] [0,1,4,5,6,7,8,13,14,15,20] mixed Tryz.func93 rfl (by kernel_rfl) (by kernel_rfl) (by kernel_rfl) (by kernel_rfl) ?_;have hn0:((0:Int)≤((digs BW a).length:Int))=True:=by simp
 have hn1:((8:Nat):Int)*((digs BW a).length:Int)≤281474976710656:=by omega
 have hn2:((digs BW a).length:Int)≤9223372036854775807:=by omega
 simp -implicitDefEqProofs only [go_sem,Nat.reduceAdd,Nat.reduceMul,Nat.reduceEqDiff,Nat.reduceLT,Nat.reduceLeDiff,Nat.reduceSub,Nat.reduceBEq,reduceIte,reduceCtorEq,Int.reduceEq,Int.reduceNe,Nat.reduceBneDiff,Int.reduceLE,Int.reduceLT,Int.reduceToNat,Int.reduceAdd,Int.reduceSub,Int.reduceMul,Int.reduceNeg,dw,List.length_map,hn0,hn1,hn2,Int.toNat_natCast];generalize hN:(digs BW a).length=N at*;rw [Qiq (a-b) N];refine Qa4 mixed (fun i:{i:Nat // i≤N}=>St.of [(0,dw (digs BW a)),(1,dw (digs BW b)),(4,.nilS),(5,.bs 102 1 0 N),(6,.int .u64 (bor BW a b i.1:Int)),(13,.int .i64 (N:Int)),(14,.int .i64 (i.1:Int))]
  [(102,{els:=(mix BW (a-b) 0 N i.1).map fW,esz:=1,ety:=82,fro:=0,live:=true,arr:=true})]) (fun i=>N-i.1) ⟨0,Nat.zero_le _⟩ ?_ ?_
 ·refine Qas (θ:=[(102,102)]) rfl ?_ ?_
  ·simp [Qae,lkp,ren1,ren0,dw,Qwa]
  ·simp [Qar,lkp,Box.renames]
 ·rintro⟨i,hi⟩;have hml:=Qbj (B:=BW) (a-b) 0 N i;by_cases hA:i<N
  ·have hA':((i:Int)<(N:Int))=True:=by simp;omega
   have h0:(0≤(i:Int))=True:=by simp
   have hga:=Qav BW_2 (show i<(digs BW a).length by omega);have hwk:=Qak (a:=i) (by omega);have hbl:=Qwb (B:=BW) a b i;have hbl2:=Qwb (B:=BW) a b (i+1);have hst:=Qwc BW_2 hba i;have hx:a/BW^i%BW<BW:=Nat.mod_lt _ (by decide);have hy:b/BW^i%BW<BW:=Nat.mod_lt _ (by decide);have hz:(a-b)/BW^i%BW<BW:=Nat.mod_lt _ (by decide);have hset:=Qed (B:=BW) (V:=a-b) (W:=a-b) (S:=0) (n:=N) (m:=i) (d:=(a-b)/BW^i%BW) (by decide) hA rfl rfl;have hy0: ¬i<(digs BW b).length→b/BW^i%BW=0:=fun h=>by rw [Qcd BW_2 (Nat.le_of_not_lt h),Nat.zero_mod]
   have hgb:i<(digs BW b).length→(digs BW b)[i]? =some (b/BW^i%BW):=fun h=>Qav BW_2 h;obtain⟨e,hgo⟩: ∃e:Nat,((mix BW (a-b) 0 N i).map fW)[i]? =some (PV.int .u64 (e:Int)):=⟨_,by rw [List.getElem?_map,Qdc _ _ _ _ _ hA];rfl⟩;generalize a/BW^i%BW=x at*;generalize b/BW^i%BW=y at*;generalize (a-b)/BW^i%BW=z at*;have s1:(x+18446744073709551616-y-bor BW a b i)%18446744073709551616=z:=by simp only [BW]at*;omega
   have s2:(if x<y+bor BW a b i then 1 else 0)=bor BW a b (i+1):=by
    simp only [BW]at*;split<;>omega
   have hc:=Q49 x y (bor BW a b i) hbl;rw [s1,s2]at hc;by_cases hB:i<(digs BW b).length
   ·have hB':((i:Int)<((digs BW b).length:Int))=True:=by simp;omega
    have hgb:=hgb hB;simp -implicitDefEqProofs only [go_sem,Nat.reduceAdd,Nat.reduceMul,Nat.reduceEqDiff,Nat.reduceLT,Nat.reduceLeDiff,Nat.reduceSub,Nat.reduceBEq,reduceIte,reduceCtorEq,Int.reduceEq,Int.reduceNe,Nat.reduceBneDiff,Int.reduceLE,Int.reduceLT,Int.reduceToNat,Int.reduceAdd,Int.reduceSub,Int.reduceMul,Int.reduceNeg,dw,List.length_map,hA',hB',h0,Qb8,hga,hgb,Int.toNat_natCast];refine Qag _ _ _ _ _ _ _ _ _ hc ?_;simp -implicitDefEqProofs only [go_sem,Nat.reduceAdd,Nat.reduceMul,Nat.reduceEqDiff,Nat.reduceLT,Nat.reduceLeDiff,Nat.reduceSub,Nat.reduceBEq,reduceIte,reduceCtorEq,Int.reduceEq,Int.reduceNe,Nat.reduceBneDiff,Int.reduceLE,Int.reduceLT,Int.reduceToNat,Int.reduceAdd,Int.reduceSub,Int.reduceMul,Int.reduceNeg,hA',h0,Int.toNat_natCast,hwk,hgo,List.length_map,hml];refine⟨⟨i+1,hA⟩,by simp only;omega,?_⟩;refine Qas (θ:=[(102,102)]) rfl ?_ ?_
    ·simp [Qae,lkp,ren1,ren0,dw]
    ·rw [Qcv,hset];simp [Qar,lkp,Box.renames]
   ·have hB':((i:Int)<((digs BW b).length:Int))=False:=by simp;omega
    obtain rfl:=hy0 hB;simp -implicitDefEqProofs only [go_sem,Nat.reduceAdd,Nat.reduceMul,Nat.reduceEqDiff,Nat.reduceLT,Nat.reduceLeDiff,Nat.reduceSub,Nat.reduceBEq,reduceIte,reduceCtorEq,Int.reduceEq,Int.reduceNe,Nat.reduceBneDiff,Int.reduceLE,Int.reduceLT,Int.reduceToNat,Int.reduceAdd,Int.reduceSub,Int.reduceMul,Int.reduceNeg,dw,List.length_map,hA',hB',h0,Qb8,hga,Int.toNat_natCast];refine Qag _ _ _ _ _ _ _ _ _ hc ?_;simp -implicitDefEqProofs only [go_sem,Nat.reduceAdd,Nat.reduceMul,Nat.reduceEqDiff,Nat.reduceLT,Nat.reduceLeDiff,Nat.reduceSub,Nat.reduceBEq,reduceIte,reduceCtorEq,Int.reduceEq,Int.reduceNe,Nat.reduceBneDiff,Int.reduceLE,Int.reduceLT,Int.reduceToNat,Int.reduceAdd,Int.reduceSub,Int.reduceMul,Int.reduceNeg,hA',h0,Int.toNat_natCast,hwk,hgo,List.length_map,hml];refine⟨⟨i+1,hA⟩,by simp only;omega,?_⟩;refine Qas (θ:=[(102,102)]) rfl ?_ ?_
    ·simp [Qae,lkp,ren1,ren0,dw]
    ·rw [Qcv,hset];simp [Qar,lkp,Box.renames]
  ·have hA':((i:Int)<(N:Int))=False:=by simp;omega
   obtain rfl:i=N:=by omega
   have htk:((lows BW (a-b) i).map fW).take i=(lows BW (a-b) i).map fW:=List.take_of_length_le (by simp [Qai]);have hll:=Qai (B:=BW) (a-b) i;have hlt:a<BW^i:=by rw [←hN];exact Qbb BW_2 a
   have hm:mix BW (a-b) 0 i i=lows BW (a-b) i:=Qf9 (by decide) (by rw [Nat.div_eq_of_lt (Nat.lt_of_le_of_lt (Nat.sub_le _ _) hlt),Nat.zero_div]);simp -implicitDefEqProofs only [go_sem,Nat.reduceAdd,Nat.reduceMul,Nat.reduceEqDiff,Nat.reduceLT,Nat.reduceLeDiff,Nat.reduceSub,Nat.reduceBEq,reduceIte,reduceCtorEq,Int.reduceEq,Int.reduceNe,Nat.reduceBneDiff,Int.reduceLE,Int.reduceLT,Int.reduceToNat,Int.reduceAdd,Int.reduceSub,Int.reduceMul,Int.reduceNeg,hA',List.length_map,hll,htk,hm];refine Qag _ _ _ _ _ _ _ _ _ (Qc8 (lows BW (a-b) i) (by rw [Qai];simp [maxLen];omega)) ?_;simp -implicitDefEqProofs only [go_sem,Nat.reduceAdd,Nat.reduceMul,Nat.reduceEqDiff,Nat.reduceLT,Nat.reduceLeDiff,Nat.reduceSub,Nat.reduceBEq,reduceIte,reduceCtorEq,Int.reduceEq,Int.reduceNe,Nat.reduceBneDiff,Int.reduceLE,Int.reduceLT,Int.reduceToNat,Int.reduceAdd,Int.reduceSub,Int.reduceMul,Int.reduceNeg,dw,List.length_map];rw [Qb1 BW_2,Nat.mod_eq_of_lt (Nat.lt_of_le_of_lt (Nat.sub_le _ _) hlt)]
end Go.Proofs.YtobaaecbdlhpdaaGreat

namespace Go.Proofs.YtobaaecbdlhpdaaGreat
open Go.Vl Go.RowKit Go.Dg
theorem Zfd (a b:Nat) (ha:(digs BW a).length≤1000000000) (hb:(digs BW b).length≤1000000000):Qaf Tryz.prog 91 [dw (digs BW a),dw (digs BW b)] (dw (digs BW (a+b))):=by
 refine Qac (tb:=[]) 54 [.tmp 4] [0,1,4,5,6,7,8,13,21,22,23,28] mixed Tryz.func91 rfl (by kernel_rfl) (by kernel_rfl) (by kernel_rfl) (by kernel_rfl) ?_;by_cases hab:(digs BW a).length<(digs BW b).length
 ·have hab':(((digs BW a).length:Int)<((digs BW b).length:Int))=True:=by simp;omega
  have hPQ:(digs BW a).length≤(digs BW b).length:=by omega
  rw [Nat.add_comm a b];have hn0:((0:Int)≤(((digs BW b).length+1:Nat):Int))=True:=by simp only [eq_iff_iff,iff_true];omega
  have hn1:((8:Nat):Int)*(((digs BW b).length+1:Nat):Int)≤281474976710656:=by omega
  have hn2:(((digs BW b).length+1:Nat):Int)≤9223372036854775807:=by omega
  have hw1:=Qak (a:=(digs BW b).length) (by omega);simp -implicitDefEqProofs only [go_sem,Nat.reduceAdd,Nat.reduceMul,Nat.reduceEqDiff,Nat.reduceLT,Nat.reduceLeDiff,Nat.reduceSub,Nat.reduceBEq,reduceIte,reduceCtorEq,Int.reduceEq,Int.reduceNe,Nat.reduceBneDiff,Int.reduceLE,Int.reduceLT,Int.reduceToNat,Int.reduceAdd,Int.reduceSub,Int.reduceMul,Int.reduceNeg,dw,List.length_map,hab',hw1,hn0,hn1,hn2,Int.toNat_natCast];have hlt:b<BW^(digs BW b).length:=Qbb BW_2 b;have hlt2:a<BW^(digs BW b).length:=(Qau BW_2 a _).1 hPQ;generalize hN:(digs BW b).length=N at*;rw [Qiq (b+a) (N+1)];refine Qa4 mixed (fun i:{i:Nat // i≤N}=>St.of [(0,dw (digs BW b)),(1,dw (digs BW a)),(4,.nilS),(5,.bs 303 1 0 (N+1)),(6,.int .u64 (carry BW b a i.1:Int)),(21,.int .i64 (N:Int)),(22,.int .i64 (i.1:Int))]
   [(303,{els:=(mix BW (b+a) 0 (N+1) i.1).map fW,esz:=1,ety:=82,fro:=0,live:=true,arr:=true})]) (fun i=>N-i.1) ⟨0,Nat.zero_le _⟩ ?_ ?_
  ·refine Qas (θ:=[(303,303)]) rfl ?_ ?_
   ·simp [Qae,lkp,ren1,ren0,dw,Qn7]
   ·simp [Qar,lkp,Box.renames]
  ·rintro⟨i,hi⟩;have hml:=Qbj (B:=BW) (b+a) 0 (N+1) i;have hset:=Qed (B:=BW) (V:=b+a) (W:=b+a) (S:=0) (n:=N+1) (m:=i) (d:=(b+a)/BW^i%BW) (by decide) (by omega) rfl rfl;obtain⟨e,hgo⟩: ∃e:Nat,((mix BW (b+a) 0 (N+1) i).map fW)[i]? =some (PV.int .u64 (e:Int)):=⟨_,by rw [List.getElem?_map,Qdc _ _ _ _ _ (by omega)];rfl⟩;have h0:(0≤(i:Int))=True:=by simp
   have hiN:((i:Int)<((N+1:Nat):Int))=True:=by simp only [eq_iff_iff,iff_true];omega
   by_cases hA:i<N
   ·have hA':((i:Int)<(N:Int))=True:=by simp;omega
    have hga:=Qav BW_2 (show i<(digs BW b).length by omega);have hwk:=Qak (a:=i) (by omega);have hcl:=Qwe (B:=BW) (by decide) b a i;obtain⟨s1,s2⟩:(b/BW^i%BW+a/BW^i%BW+carry BW b a i)%18446744073709551616=(b+a)/BW^i%BW∧(b/BW^i%BW+a/BW^i%BW+carry BW b a i)/18446744073709551616=carry BW b a (i+1):=Qwf (B:=BW) (by decide) b a i;have hy0: ¬i<(digs BW a).length→a/BW^i%BW=0:=fun h=>by rw [Qcd BW_2 (Nat.le_of_not_lt h),Nat.zero_mod]
    have hgb:i<(digs BW a).length→(digs BW a)[i]? =some (a/BW^i%BW):=fun h=>Qav BW_2 h;have hc:=Qpw (b/BW^i%BW) (a/BW^i%BW) (carry BW b a i) hcl;rw [s1,s2]at hc;generalize b/BW^i%BW=x at*;generalize a/BW^i%BW=y at*;generalize (b+a)/BW^i%BW=z at*;by_cases hB:i<(digs BW a).length
    ·have hB':((i:Int)<((digs BW a).length:Int))=True:=by simp;omega
     have hgb:=hgb hB;simp -implicitDefEqProofs only [go_sem,Nat.reduceAdd,Nat.reduceMul,Nat.reduceEqDiff,Nat.reduceLT,Nat.reduceLeDiff,Nat.reduceSub,Nat.reduceBEq,reduceIte,reduceCtorEq,Int.reduceEq,Int.reduceNe,Nat.reduceBneDiff,Int.reduceLE,Int.reduceLT,Int.reduceToNat,Int.reduceAdd,Int.reduceSub,Int.reduceMul,Int.reduceNeg,dw,List.length_map,hA',hB',h0,Qb8,hga,hgb,Int.toNat_natCast];refine Qag _ _ _ _ _ _ _ _ _ hc ?_;simp -implicitDefEqProofs only [go_sem,Nat.reduceAdd,Nat.reduceMul,Nat.reduceEqDiff,Nat.reduceLT,Nat.reduceLeDiff,Nat.reduceSub,Nat.reduceBEq,reduceIte,reduceCtorEq,Int.reduceEq,Int.reduceNe,Nat.reduceBneDiff,Int.reduceLE,Int.reduceLT,Int.reduceToNat,Int.reduceAdd,Int.reduceSub,Int.reduceMul,Int.reduceNeg,hA',h0,hiN,Int.toNat_natCast,hwk,hgo,List.length_map,hml];refine⟨⟨i+1,hA⟩,by simp only;omega,?_⟩;refine Qas (θ:=[(303,303)]) rfl ?_ ?_
     ·simp [Qae,lkp,ren1,ren0,dw]
     ·rw [Qcv,hset];simp [Qar,lkp,Box.renames]
    ·have hB':((i:Int)<((digs BW a).length:Int))=False:=by simp;omega
     obtain rfl:=hy0 hB;simp -implicitDefEqProofs only [go_sem,Nat.reduceAdd,Nat.reduceMul,Nat.reduceEqDiff,Nat.reduceLT,Nat.reduceLeDiff,Nat.reduceSub,Nat.reduceBEq,reduceIte,reduceCtorEq,Int.reduceEq,Int.reduceNe,Nat.reduceBneDiff,Int.reduceLE,Int.reduceLT,Int.reduceToNat,Int.reduceAdd,Int.reduceSub,Int.reduceMul,Int.reduceNeg,dw,List.length_map,hA',hB',h0,Qb8,hga,Int.toNat_natCast];refine Qag _ _ _ _ _ _ _ _ _ hc ?_;simp -implicitDefEqProofs only [go_sem,Nat.reduceAdd,Nat.reduceMul,Nat.reduceEqDiff,Nat.reduceLT,Nat.reduceLeDiff,Nat.reduceSub,Nat.reduceBEq,reduceIte,reduceCtorEq,Int.reduceEq,Int.reduceNe,Nat.reduceBneDiff,Int.reduceLE,Int.reduceLT,Int.reduceToNat,Int.reduceAdd,Int.reduceSub,Int.reduceMul,Int.reduceNeg,hA',h0,hiN,Int.toNat_natCast,hwk,hgo,List.length_map,hml];refine⟨⟨i+1,hA⟩,by simp only;omega,?_⟩;refine Qas (θ:=[(303,303)]) rfl ?_ ?_
     ·simp [Qae,lkp,ren1,ren0,dw]
     ·rw [Qcv,hset];simp [Qar,lkp,Box.renames]
   ·have hA':((i:Int)<(N:Int))=False:=by simp;omega
    obtain rfl:i=N:=by omega
    have hsum:(b+a)/BW^i<2:=Nat.div_lt_of_lt_mul (by omega);have hcN:carry BW b a i=(b+a)/BW^i%BW:=by
     rw [carry,Nat.mod_eq_of_lt hlt,Nat.mod_eq_of_lt hlt2,Nat.mod_eq_of_lt (Nat.lt_trans hsum (by decide))]
    have hm:mix BW (b+a) 0 (i+1) (i+1)=lows BW (b+a) (i+1):=Qf9 (by decide) (by rw [Nat.pow_succ,←Nat.div_div_eq_div_mul,Nat.div_eq_of_lt (Nat.lt_trans hsum (by decide)),Nat.zero_div]);rw [hm]at hset;have htk:((lows BW (b+a) (i+1)).map fW).take (i+1)=(lows BW (b+a) (i+1)).map fW:=List.take_of_length_le (by simp [Qai]);have hll:=Qai (B:=BW) (b+a) (i+1);have hbig:b+a<BW^(i+1):=by
     rw [Nat.pow_succ];have:BW^i*2≤BW^i*BW:=Nat.mul_le_mul_left _ (by decide);omega
    rw [hcN];simp -implicitDefEqProofs only [go_sem,Nat.reduceAdd,Nat.reduceMul,Nat.reduceEqDiff,Nat.reduceLT,Nat.reduceLeDiff,Nat.reduceSub,Nat.reduceBEq,reduceIte,reduceCtorEq,Int.reduceEq,Int.reduceNe,Nat.reduceBneDiff,Int.reduceLE,Int.reduceLT,Int.reduceToNat,Int.reduceAdd,Int.reduceSub,Int.reduceMul,Int.reduceNeg,dw,hA',h0,hiN,hN,Int.toNat_natCast,hgo,List.length_map,hml,Qcv,hset,hll,htk];refine Qag _ _ _ _ _ _ _ _ _ (Qc8 (lows BW (b+a) (i+1)) (by rw [Qai];simp [maxLen];omega)) ?_;simp -implicitDefEqProofs only [go_sem,Nat.reduceAdd,Nat.reduceMul,Nat.reduceEqDiff,Nat.reduceLT,Nat.reduceLeDiff,Nat.reduceSub,Nat.reduceBEq,reduceIte,reduceCtorEq,Int.reduceEq,Int.reduceNe,Nat.reduceBneDiff,Int.reduceLE,Int.reduceLT,Int.reduceToNat,Int.reduceAdd,Int.reduceSub,Int.reduceMul,Int.reduceNeg,dw,List.length_map];rw [Qb1 BW_2,Nat.mod_eq_of_lt hbig]
 ·have hab':(((digs BW a).length:Int)<((digs BW b).length:Int))=False:=by simp;omega
  have hPQ:(digs BW b).length≤(digs BW a).length:=by omega
  have hn0:((0:Int)≤(((digs BW a).length+1:Nat):Int))=True:=by simp only [eq_iff_iff,iff_true];omega
  have hn1:((8:Nat):Int)*(((digs BW a).length+1:Nat):Int)≤281474976710656:=by omega
  have hn2:(((digs BW a).length+1:Nat):Int)≤9223372036854775807:=by omega
  have hw1:=Qak (a:=(digs BW a).length) (by omega);simp -implicitDefEqProofs only [go_sem,Nat.reduceAdd,Nat.reduceMul,Nat.reduceEqDiff,Nat.reduceLT,Nat.reduceLeDiff,Nat.reduceSub,Nat.reduceBEq,reduceIte,reduceCtorEq,Int.reduceEq,Int.reduceNe,Nat.reduceBneDiff,Int.reduceLE,Int.reduceLT,Int.reduceToNat,Int.reduceAdd,Int.reduceSub,Int.reduceMul,Int.reduceNeg,dw,List.length_map,hab',hw1,hn0,hn1,hn2,Int.toNat_natCast];have hlt:a<BW^(digs BW a).length:=Qbb BW_2 a;have hlt2:b<BW^(digs BW a).length:=(Qau BW_2 b _).1 hPQ;generalize hN:(digs BW a).length=N at*;rw [Qiq (a+b) (N+1)];refine Qa4 mixed (fun i:{i:Nat // i≤N}=>St.of [(0,dw (digs BW a)),(1,dw (digs BW b)),(4,.nilS),(5,.bs 303 1 0 (N+1)),(6,.int .u64 (carry BW a b i.1:Int)),(21,.int .i64 (N:Int)),(22,.int .i64 (i.1:Int))]
   [(303,{els:=(mix BW (a+b) 0 (N+1) i.1).map fW,esz:=1,ety:=82,fro:=0,live:=true,arr:=true})]) (fun i=>N-i.1) ⟨0,Nat.zero_le _⟩ ?_ ?_
  ·refine Qas (θ:=[(303,303)]) rfl ?_ ?_
   ·simp [Qae,lkp,ren1,ren0,dw,Qn7]
   ·simp [Qar,lkp,Box.renames]
  ·rintro⟨i,hi⟩;have hml:=Qbj (B:=BW) (a+b) 0 (N+1) i;have hset:=Qed (B:=BW) (V:=a+b) (W:=a+b) (S:=0) (n:=N+1) (m:=i) (d:=(a+b)/BW^i%BW) (by decide) (by omega) rfl rfl;obtain⟨e,hgo⟩: ∃e:Nat,((mix BW (a+b) 0 (N+1) i).map fW)[i]? =some (PV.int .u64 (e:Int)):=⟨_,by rw [List.getElem?_map,Qdc _ _ _ _ _ (by omega)];rfl⟩;have h0:(0≤(i:Int))=True:=by simp
   have hiN:((i:Int)<((N+1:Nat):Int))=True:=by simp only [eq_iff_iff,iff_true];omega
   by_cases hA:i<N
   ·have hA':((i:Int)<(N:Int))=True:=by simp;omega
    have hga:=Qav BW_2 (show i<(digs BW a).length by omega);have hwk:=Qak (a:=i) (by omega);have hcl:=Qwe (B:=BW) (by decide) a b i;obtain⟨s1,s2⟩:(a/BW^i%BW+b/BW^i%BW+carry BW a b i)%18446744073709551616=(a+b)/BW^i%BW∧(a/BW^i%BW+b/BW^i%BW+carry BW a b i)/18446744073709551616=carry BW a b (i+1):=Qwf (B:=BW) (by decide) a b i;have hy0: ¬i<(digs BW b).length→b/BW^i%BW=0:=fun h=>by rw [Qcd BW_2 (Nat.le_of_not_lt h),Nat.zero_mod]
    have hgb:i<(digs BW b).length→(digs BW b)[i]? =some (b/BW^i%BW):=fun h=>Qav BW_2 h;have hc:=Qpw (a/BW^i%BW) (b/BW^i%BW) (carry BW a b i) hcl;rw [s1,s2]at hc;generalize a/BW^i%BW=x at*;generalize b/BW^i%BW=y at*;generalize (a+b)/BW^i%BW=z at*;by_cases hB:i<(digs BW b).length
    ·have hB':((i:Int)<((digs BW b).length:Int))=True:=by simp;omega
     have hgb:=hgb hB;simp -implicitDefEqProofs only [go_sem,Nat.reduceAdd,Nat.reduceMul,Nat.reduceEqDiff,Nat.reduceLT,Nat.reduceLeDiff,Nat.reduceSub,Nat.reduceBEq,reduceIte,reduceCtorEq,Int.reduceEq,Int.reduceNe,Nat.reduceBneDiff,Int.reduceLE,Int.reduceLT,Int.reduceToNat,Int.reduceAdd,Int.reduceSub,Int.reduceMul,Int.reduceNeg,dw,List.length_map,hA',hB',h0,Qb8,hga,hgb,Int.toNat_natCast];refine Qag _ _ _ _ _ _ _ _ _ hc ?_;simp -implicitDefEqProofs only [go_sem,Nat.reduceAdd,Nat.reduceMul,Nat.reduceEqDiff,Nat.reduceLT,Nat.reduceLeDiff,Nat.reduceSub,Nat.reduceBEq,reduceIte,reduceCtorEq,Int.reduceEq,Int.reduceNe,Nat.reduceBneDiff,Int.reduceLE,Int.reduceLT,Int.reduceToNat,Int.reduceAdd,Int.reduceSub,Int.reduceMul,Int.reduceNeg,hA',h0,hiN,Int.toNat_natCast,hwk,hgo,List.length_map,hml];refine⟨⟨i+1,hA⟩,by simp only;omega,?_⟩;refine Qas (θ:=[(303,303)]) rfl ?_ ?_
     ·simp [Qae,lkp,ren1,ren0,dw]
     ·rw [Qcv,hset];simp [Qar,lkp,Box.renames]
    ·have hB':((i:Int)<((digs BW b).length:Int))=False:=by simp;omega
     obtain rfl:=hy0 hB;simp -implicitDefEqProofs only [go_sem,Nat.reduceAdd,Nat.reduceMul,Nat.reduceEqDiff,Nat.reduceLT,Nat.reduceLeDiff,Nat.reduceSub,Nat.reduceBEq,reduceIte,reduceCtorEq,Int.reduceEq,Int.reduceNe,Nat.reduceBneDiff,Int.reduceLE,Int.reduceLT,Int.reduceToNat,Int.reduceAdd,Int.reduceSub,Int.reduceMul,Int.reduceNeg,dw,List.length_map,hA',hB',h0,Qb8,hga,Int.toNat_natCast];refine Qag _ _ _ _ _ _ _ _ _ hc ?_;simp -implicitDefEqProofs only [go_sem,Nat.reduceAdd,Nat.reduceMul,Nat.reduceEqDiff,Nat.reduceLT,Nat.reduceLeDiff,Nat.reduceSub,Nat.reduceBEq,reduceIte,reduceCtorEq,Int.reduceEq,Int.reduceNe,Nat.reduceBneDiff,Int.reduceLE,Int.reduceLT,Int.reduceToNat,Int.reduceAdd,Int.reduceSub,Int.reduceMul,Int.reduceNeg,hA',h0,hiN,Int.toNat_natCast,hwk,hgo,List.length_map,hml];refine⟨⟨i+1,hA⟩,by simp only;omega,?_⟩;refine Qas (θ:=[(303,303)]) rfl ?_ ?_
     ·simp [Qae,lkp,ren1,ren0,dw]
     ·rw [Qcv,hset];simp [Qar,lkp,Box.renames]
   ·have hA':((i:Int)<(N:Int))=False:=by simp;omega
    obtain rfl:i=N:=by omega
    have hsum:(a+b)/BW^i<2:=Nat.div_lt_of_lt_mul (by omega);have hcN:carry BW a b i=(a+b)/BW^i%BW:=by
     rw [carry,Nat.mod_eq_of_lt hlt,Nat.mod_eq_of_lt hlt2,Nat.mod_eq_of_lt (Nat.lt_trans hsum (by decide))]
    have hm:mix BW (a+b) 0 (i+1) (i+1)=lows BW (a+b) (i+1):=Qf9 (by decide) (by rw [Nat.pow_succ,←Nat.div_div_eq_div_mul,Nat.div_eq_of_lt (Nat.lt_trans hsum (by decide)),Nat.zero_div]);rw [hm]at hset;have htk:((lows BW (a+b) (i+1)).map fW).take (i+1)=(lows BW (a+b) (i+1)).map fW:=List.take_of_length_le (by simp [Qai]);have hll:=Qai (B:=BW) (a+b) (i+1);have hbig:a+b<BW^(i+1):=by
     rw [Nat.pow_succ];have:BW^i*2≤BW^i*BW:=Nat.mul_le_mul_left _ (by decide);omega
    rw [hcN];simp -implicitDefEqProofs only [go_sem,Nat.reduceAdd,Nat.reduceMul,Nat.reduceEqDiff,Nat.reduceLT,Nat.reduceLeDiff,Nat.reduceSub,Nat.reduceBEq,reduceIte,reduceCtorEq,Int.reduceEq,Int.reduceNe,Nat.reduceBneDiff,Int.reduceLE,Int.reduceLT,Int.reduceToNat,Int.reduceAdd,Int.reduceSub,Int.reduceMul,Int.reduceNeg,dw,hA',h0,hiN,hN,Int.toNat_natCast,hgo,List.length_map,hml,Qcv,hset,hll,htk];refine Qag _ _ _ _ _ _ _ _ _ (Qc8 (lows BW (a+b) (i+1)) (by rw [Qai];simp [maxLen];omega)) ?_;simp -implicitDefEqProofs only [go_sem,Nat.reduceAdd,Nat.reduceMul,Nat.reduceEqDiff,Nat.reduceLT,Nat.reduceLeDiff,Nat.reduceSub,Nat.reduceBEq,reduceIte,reduceCtorEq,Int.reduceEq,Int.reduceNe,Nat.reduceBneDiff,Int.reduceLE,Int.reduceLT,Int.reduceToNat,Int.reduceAdd,Int.reduceSub,Int.reduceMul,Int.reduceNeg,dw,List.length_map];rw [Qb1 BW_2,Nat.mod_eq_of_lt hbig]
end Go.Proofs.YtobaaecbdlhpdaaGreat

namespace Go.Proofs.YtobaaecbdlhpdaaGreat
open Go.Vl Go.RowKit Go.Dg
def nP (neg:Bool) (m:Nat):PV:= .agg [.bool neg,dw (digs BW m)]
def sv (neg:Bool) (m:Nat):Int:=if neg then -(m:Int)else m
theorem Zo0 (neg:Bool) (m:Nat):Qaf Tryz.prog 73 [nP neg m] (nP (!neg) m):=by
 refine Qac (tb:=[]) 9 [.cell 2 105] [0,1,2] mixed Tryz.func73 rfl (by kernel_rfl) (by kernel_rfl) (by kernel_rfl) (by kernel_rfl) ?_;simp -implicitDefEqProofs only [go_sem,Nat.reduceAdd,Nat.reduceMul,Nat.reduceEqDiff,Nat.reduceLT,Nat.reduceLeDiff,Nat.reduceSub,Nat.reduceBEq,reduceIte,reduceCtorEq,Int.reduceEq,Int.reduceNe,Nat.reduceBneDiff,Int.reduceLE,Int.reduceLT,Int.reduceToNat,Int.reduceAdd,Int.reduceSub,Int.reduceMul,Int.reduceNeg,nP,dw]
theorem Q5j (neg:Bool) (m:Nat):Qaf Tryz.prog 74 [nP neg m] (.int .i64 (sv neg m).sign):=by
 refine Qac (tb:=[]) 11 [.tmp 2] [0,1,2,3,8] mixed Tryz.func74 rfl (by kernel_rfl) (by kernel_rfl) (by kernel_rfl) (by kernel_rfl) ?_;by_cases h0:m=0
 ·subst h0;have h1:(((0:Nat):Int)==0)=true:=rfl;have e:(sv neg 0).sign=0:=by cases neg<;>rfl
  rw [e];simp -implicitDefEqProofs only [go_sem,Nat.reduceAdd,Nat.reduceMul,Nat.reduceEqDiff,Nat.reduceLT,Nat.reduceLeDiff,Nat.reduceSub,Nat.reduceBEq,reduceIte,reduceCtorEq,Int.reduceEq,Int.reduceNe,Nat.reduceBneDiff,Int.reduceLE,Int.reduceLT,Int.reduceToNat,Int.reduceAdd,Int.reduceSub,Int.reduceMul,Int.reduceNeg,nP,dw,Qbd,List.map_nil,List.length_nil,h1]
 ·have h1:(((digs BW m).length:Int)==0)=false:=by
   have:=List.length_pos_iff.2 (mt (Qbi BW_2).1 h0);simp only [beq_eq_false_iff_ne,ne_eq];omega
  cases neg with
  |true=>
   have e:(sv true m).sign= -1:=Int.sign_eq_neg_one_of_neg (by simp [sv];omega);rw [e];simp -implicitDefEqProofs only [go_sem,Nat.reduceAdd,Nat.reduceMul,Nat.reduceEqDiff,Nat.reduceLT,Nat.reduceLeDiff,Nat.reduceSub,Nat.reduceBEq,reduceIte,reduceCtorEq,Int.reduceEq,Int.reduceNe,Nat.reduceBneDiff,Int.reduceLE,Int.reduceLT,Int.reduceToNat,Int.reduceAdd,Int.reduceSub,Int.reduceMul,Int.reduceNeg,nP,dw,List.length_map,h1]
  |false=>
   have e:(sv false m).sign=1:=Int.sign_eq_one_of_pos (by simp [sv];omega);rw [e];simp -implicitDefEqProofs only [go_sem,Nat.reduceAdd,Nat.reduceMul,Nat.reduceEqDiff,Nat.reduceLT,Nat.reduceLeDiff,Nat.reduceSub,Nat.reduceBEq,reduceIte,reduceCtorEq,Int.reduceEq,Int.reduceNe,Nat.reduceBneDiff,Int.reduceLE,Int.reduceLT,Int.reduceToNat,Int.reduceAdd,Int.reduceSub,Int.reduceMul,Int.reduceNeg,nP,dw,List.length_map,h1]
theorem Zfe (xn yn:Bool) (x y:Nat) (hx:(digs BW x).length≤1000000000) (hy:(digs BW y).length≤1000000000):
  ∃(n:Bool) (m:Nat),Qaf Tryz.prog 72 [nP xn x,nP yn y] (nP n m)∧sv n m=sv xn x+sv yn y∧m≤x+y:=by
 cases hs:(xn==yn)with
 |true=>
  obtain rfl:xn=yn:=by simpa using hs
  refine⟨xn,x+y,?_,by cases xn<;>simp [sv]<;>omega,Nat.le_refl _⟩;refine Qac (tb:=[]) 42 [.cell 4 105] [0,1,2,3,4,5,19] mixed Tryz.func72 rfl (by kernel_rfl) (by kernel_rfl) (by kernel_rfl) (by kernel_rfl) ?_;simp -implicitDefEqProofs only [go_sem,Nat.reduceAdd,Nat.reduceMul,Nat.reduceEqDiff,Nat.reduceLT,Nat.reduceLeDiff,Nat.reduceSub,Nat.reduceBEq,reduceIte,reduceCtorEq,Int.reduceEq,Int.reduceNe,Nat.reduceBneDiff,Int.reduceLE,Int.reduceLT,Int.reduceToNat,Int.reduceAdd,Int.reduceSub,Int.reduceMul,Int.reduceNeg,nP,dw,hs];refine Qag _ _ _ _ _ _ _ _ _ (Zfd x y hx hy) ?_;simp -implicitDefEqProofs only [go_sem,Nat.reduceAdd,Nat.reduceMul,Nat.reduceEqDiff,Nat.reduceLT,Nat.reduceLeDiff,Nat.reduceSub,Nat.reduceBEq,reduceIte,reduceCtorEq,Int.reduceEq,Int.reduceNe,Nat.reduceBneDiff,Int.reduceLE,Int.reduceLT,Int.reduceToNat,Int.reduceAdd,Int.reduceSub,Int.reduceMul,Int.reduceNeg,nP,dw];exact Qaa _ _ (by kernel_rfl)
 |false=>
  have hne:yn= !xn:=by cases xn<;>cases yn<;>simp at hs ⊢
  by_cases hc:y≤x
  ·refine⟨xn,x-y,?_,by subst hne;cases xn<;>simp [sv]<;>omega,by omega⟩;have h1:(0≤cmpW x y)=True:=by simp only [eq_iff_iff,iff_true];have:=Qd4 x y;omega
   refine Qac (tb:=[]) 42 [.cell 4 105] [0,1,2,3,4,5,19] mixed Tryz.func72 rfl (by kernel_rfl) (by kernel_rfl) (by kernel_rfl) (by kernel_rfl) ?_;simp -implicitDefEqProofs only [go_sem,Nat.reduceAdd,Nat.reduceMul,Nat.reduceEqDiff,Nat.reduceLT,Nat.reduceLeDiff,Nat.reduceSub,Nat.reduceBEq,reduceIte,reduceCtorEq,Int.reduceEq,Int.reduceNe,Nat.reduceBneDiff,Int.reduceLE,Int.reduceLT,Int.reduceToNat,Int.reduceAdd,Int.reduceSub,Int.reduceMul,Int.reduceNeg,nP,dw,hs];refine Qag _ _ _ _ _ _ _ _ _ (Qdg x y hx hy) ?_;simp -implicitDefEqProofs only [go_sem,Nat.reduceAdd,Nat.reduceMul,Nat.reduceEqDiff,Nat.reduceLT,Nat.reduceLeDiff,Nat.reduceSub,Nat.reduceBEq,reduceIte,reduceCtorEq,Int.reduceEq,Int.reduceNe,Nat.reduceBneDiff,Int.reduceLE,Int.reduceLT,Int.reduceToNat,Int.reduceAdd,Int.reduceSub,Int.reduceMul,Int.reduceNeg,h1];refine Qag _ _ _ _ _ _ _ _ _ (Qr0 x y hc hx) ?_;simp -implicitDefEqProofs only [go_sem,Nat.reduceAdd,Nat.reduceMul,Nat.reduceEqDiff,Nat.reduceLT,Nat.reduceLeDiff,Nat.reduceSub,Nat.reduceBEq,reduceIte,reduceCtorEq,Int.reduceEq,Int.reduceNe,Nat.reduceBneDiff,Int.reduceLE,Int.reduceLT,Int.reduceToNat,Int.reduceAdd,Int.reduceSub,Int.reduceMul,Int.reduceNeg,nP,dw];exact Qaa _ _ (by kernel_rfl)
  ·refine⟨yn,y-x,?_,by subst hne;cases xn<;>simp [sv]<;>omega,by omega⟩;have h1:(0≤cmpW x y)=False:=by simp only [eq_iff_iff,iff_false];have:=Qd4 x y;omega
   refine Qac (tb:=[]) 42 [.cell 4 105] [0,1,2,3,4,5,19] mixed Tryz.func72 rfl (by kernel_rfl) (by kernel_rfl) (by kernel_rfl) (by kernel_rfl) ?_;simp -implicitDefEqProofs only [go_sem,Nat.reduceAdd,Nat.reduceMul,Nat.reduceEqDiff,Nat.reduceLT,Nat.reduceLeDiff,Nat.reduceSub,Nat.reduceBEq,reduceIte,reduceCtorEq,Int.reduceEq,Int.reduceNe,Nat.reduceBneDiff,Int.reduceLE,Int.reduceLT,Int.reduceToNat,Int.reduceAdd,Int.reduceSub,Int.reduceMul,Int.reduceNeg,nP,dw,hs];refine Qag _ _ _ _ _ _ _ _ _ (Qdg x y hx hy) ?_;simp -implicitDefEqProofs only [go_sem,Nat.reduceAdd,Nat.reduceMul,Nat.reduceEqDiff,Nat.reduceLT,Nat.reduceLeDiff,Nat.reduceSub,Nat.reduceBEq,reduceIte,reduceCtorEq,Int.reduceEq,Int.reduceNe,Nat.reduceBneDiff,Int.reduceLE,Int.reduceLT,Int.reduceToNat,Int.reduceAdd,Int.reduceSub,Int.reduceMul,Int.reduceNeg,h1];refine Qag _ _ _ _ _ _ _ _ _ (Qr0 y x (by omega) hy) ?_;simp -implicitDefEqProofs only [go_sem,Nat.reduceAdd,Nat.reduceMul,Nat.reduceEqDiff,Nat.reduceLT,Nat.reduceLeDiff,Nat.reduceSub,Nat.reduceBEq,reduceIte,reduceCtorEq,Int.reduceEq,Int.reduceNe,Nat.reduceBneDiff,Int.reduceLE,Int.reduceLT,Int.reduceToNat,Int.reduceAdd,Int.reduceSub,Int.reduceMul,Int.reduceNeg,nP,dw];exact Qaa _ _ (by kernel_rfl)
def Qbe (neg:Bool) (l:List UInt8):Bool:=match l with
 | []=> !neg
 |b::_=>decide (l.length≤8192)&&b != 0
theorem Zk1 {s:ByteArray} {b:UInt8} {r:List UInt8} (h:s.data.toList=b::r):s[0]? =some b:=by
 rw [Qq4 s 0 (by rw [h];simp)];simp only [h,List.getElem_cons_zero]
theorem Qut (b:UInt8):((b.toNat:Int) != 0)=(b != 0):=by
 by_cases h:b=0
 ·subst h;rfl
 ·have:b.toNat≠0:=fun e=>h (UInt8.toNat_inj.1 (by simpa using e));have h1:((b.toNat:Int) != 0)=true:=by simp;omega
  have h2:(b != 0)=true:=by simp [h]
  rw [h1,h2]
end Go.Proofs.YtobaaecbdlhpdaaGreat

namespace Go.Proofs.YtobaaecbdlhpdaaGreat
open Go.Vl Go.RowKit Go.Dg
theorem Qfi (neg:Bool) (s:ByteArray):Qaf Tryz.prog 56 [.agg [.bool neg,.str s]] (.bool (Qbe neg s.data.toList)):=by
 have hz:=Qhr s;cases h:s.data.toList with
 |nil=>
  have h1:(([]:List UInt8)== [])=true:=rfl;refine Qac (tb:=[]) 19 [.tmp 2] [0,1,2,5] mixed Tryz.func56 rfl (by kernel_rfl) (by kernel_rfl) (by kernel_rfl) (by kernel_rfl) ?_;simp -implicitDefEqProofs only [go_sem,Nat.reduceAdd,Nat.reduceMul,Nat.reduceEqDiff,Nat.reduceLT,Nat.reduceLeDiff,Nat.reduceSub,Nat.reduceBEq,reduceIte,reduceCtorEq,Int.reduceEq,Int.reduceNe,Nat.reduceBneDiff,Int.reduceLE,Int.reduceLT,Int.reduceToNat,Int.reduceAdd,Int.reduceSub,Int.reduceMul,Int.reduceNeg,Qbe,h,h1]
 |cons b r=>
  have h0:=Zk1 h;have hne:(b::r== [])=false:=rfl;rw [h]at hz;refine Qac (tb:=[]) 19 [.tmp 2] [0,1,2,5] mixed Tryz.func56 rfl (by kernel_rfl) (by kernel_rfl) (by kernel_rfl) (by kernel_rfl) ?_;by_cases hb:(b != 0)=true
  ·by_cases h2:(b::r).length≤8192
   ·have h2':((s.size:Int)≤8192)=True:=by rw [hz];simp only [eq_iff_iff,iff_true];omega
    have e:Qbe neg (b::r)=true:=by simp only [Qbe,h2,decide_true,Bool.true_and,hb]
    rw [e];simp -implicitDefEqProofs only [go_sem,Nat.reduceAdd,Nat.reduceMul,Nat.reduceEqDiff,Nat.reduceLT,Nat.reduceLeDiff,Nat.reduceSub,Nat.reduceBEq,reduceIte,reduceCtorEq,Int.reduceEq,Int.reduceNe,Nat.reduceBneDiff,Int.reduceLE,Int.reduceLT,Int.reduceToNat,Int.reduceAdd,Int.reduceSub,Int.reduceMul,Int.reduceNeg,h,hne,h2',h0,Qut,hb]
   ·have h2':((s.size:Int)≤8192)=False:=by rw [hz];simp only [eq_iff_iff,iff_false];omega
    have e:Qbe neg (b::r)=false:=by simp only [Qbe,h2,decide_false,Bool.false_and]
    rw [e];simp -implicitDefEqProofs only [go_sem,Nat.reduceAdd,Nat.reduceMul,Nat.reduceEqDiff,Nat.reduceLT,Nat.reduceLeDiff,Nat.reduceSub,Nat.reduceBEq,reduceIte,reduceCtorEq,Int.reduceEq,Int.reduceNe,Nat.reduceBneDiff,Int.reduceLE,Int.reduceLT,Int.reduceToNat,Int.reduceAdd,Int.reduceSub,Int.reduceMul,Int.reduceNeg,h,hne,h2',h0,Qut,hb]
  ·have hb':(b != 0)=false:=by simpa using hb
   have e:Qbe neg (b::r)=false:=by simp only [Qbe,hb',Bool.and_false]
   rw [e];simp -implicitDefEqProofs only [go_sem,Nat.reduceAdd,Nat.reduceMul,Nat.reduceEqDiff,Nat.reduceLT,Nat.reduceLeDiff,Nat.reduceSub,Nat.reduceBEq,reduceIte,reduceCtorEq,Int.reduceEq,Int.reduceNe,Nat.reduceBneDiff,Int.reduceLE,Int.reduceLT,Int.reduceToNat,Int.reduceAdd,Int.reduceSub,Int.reduceMul,Int.reduceNeg,h,hne,h0,Qut,hb']
theorem Qr1 (an bn:Bool) (a b:ByteArray):Qaf Tryz.prog 71 [.agg [.bool an,.str a],.agg [.bool bn,.str b]] (.bool (Qbe an a.data.toList&&Qbe bn b.data.toList)):=by
 refine Qac (tb:=[]) 11 [.tmp 4] [0,1,2,3,4] mixed Tryz.func71 rfl (by kernel_rfl) (by kernel_rfl) (by kernel_rfl) (by kernel_rfl) ?_;simp -implicitDefEqProofs only [go_sem,Nat.reduceAdd,Nat.reduceMul,Nat.reduceEqDiff,Nat.reduceLT,Nat.reduceLeDiff,Nat.reduceSub,Nat.reduceBEq,reduceIte,reduceCtorEq,Int.reduceEq,Int.reduceNe,Nat.reduceBneDiff,Int.reduceLE,Int.reduceLT,Int.reduceToNat,Int.reduceAdd,Int.reduceSub,Int.reduceMul,Int.reduceNeg];refine Qag _ _ _ _ _ _ _ _ _ (Qfi an a) ?_;cases h:Qbe an a.data.toList with
 |true=>
  simp -implicitDefEqProofs only [go_sem,Nat.reduceAdd,Nat.reduceMul,Nat.reduceEqDiff,Nat.reduceLT,Nat.reduceLeDiff,Nat.reduceSub,Nat.reduceBEq,reduceIte,reduceCtorEq,Int.reduceEq,Int.reduceNe,Nat.reduceBneDiff,Int.reduceLE,Int.reduceLT,Int.reduceToNat,Int.reduceAdd,Int.reduceSub,Int.reduceMul,Int.reduceNeg,Bool.true_and];refine Qag _ _ _ _ _ _ _ _ _ (Qfi bn b) ?_;simp -implicitDefEqProofs only [go_sem,Nat.reduceAdd,Nat.reduceMul,Nat.reduceEqDiff,Nat.reduceLT,Nat.reduceLeDiff,Nat.reduceSub,Nat.reduceBEq,reduceIte,reduceCtorEq,Int.reduceEq,Int.reduceNe,Nat.reduceBneDiff,Int.reduceLE,Int.reduceLT,Int.reduceToNat,Int.reduceAdd,Int.reduceSub,Int.reduceMul,Int.reduceNeg]
 |false=>
  simp -implicitDefEqProofs only [go_sem,Nat.reduceAdd,Nat.reduceMul,Nat.reduceEqDiff,Nat.reduceLT,Nat.reduceLeDiff,Nat.reduceSub,Nat.reduceBEq,reduceIte,reduceCtorEq,Int.reduceEq,Int.reduceNe,Nat.reduceBneDiff,Int.reduceLE,Int.reduceLT,Int.reduceToNat,Int.reduceAdd,Int.reduceSub,Int.reduceMul,Int.reduceNeg,Bool.false_and]
end Go.Proofs.YtobaaecbdlhpdaaGreat

namespace Go.Proofs.YtobaaecbdlhpdaaGreat
open Go.Vl Go.RowKit Go.Dg
def Qp1 (T:List UInt8):Bool:=(List.range 256).all fun x=>match T[x]? with
 |some t=>decide (x<2^t.toNat)&&(decide (x=0∧t.toNat=0)||decide (2^(t.toNat-1)≤x∧0<t.toNat))
 |none=>false
theorem Qdq {s:ByteArray} (h:Qp1 s.data.toList=true) {x:Nat} (hx:x<256): ∃t:UInt8,s[x]? =some t∧t.toNat=blen x:=by
 have h1:=List.all_eq_true.1 h x (by simpa using hx);cases ht:s.data.toList[x]? with
 |none=>rw [ht]at h1;cases h1
 |some t=>
  rw [ht]at h1;simp only [Bool.and_eq_true,Bool.or_eq_true,decide_eq_true_eq]at h1;have hl:=(List.getElem?_eq_some_iff.1 ht);refine⟨t,by rw [Qq4 s x hl.1];rw [←List.getElem?_eq_getElem hl.1,ht],?_⟩;obtain⟨h1,h2⟩:=h1;have:=Qdb _ _ h1;rcases h2 with⟨rfl,h2⟩|⟨h2,h3⟩
  ·rw [h2,Qf5]
  ·have:=Qlk _ _ h2;omega
theorem Qir (n k:Nat):(n:Int).fdiv (2^k)=((n/2^k:Nat):Int):=by
 rw [Int.fdiv_eq_ediv_of_nonneg _ (Int.pow_nonneg (by decide))];simp
theorem Qj7 (n:Nat):(n:Int).fdiv (2^min 16 64)=((n/65536:Nat):Int):=by
 rw [Int.fdiv_eq_ediv_of_nonneg _ (by decide)];rfl
theorem Qr2 (n:Nat):(n:Int).fdiv (2^min 8 64)=((n/256:Nat):Int):=by
 rw [Int.fdiv_eq_ediv_of_nonneg _ (by decide)];rfl
theorem Zk2 (x:Nat) (hx:x<18446744073709551616):Qaf Tryz.prog 102 [.int .u64 (x:Int)] (.int .i64 (blen x:Int)):=by
 have wc8:IntKind.i64.wrap 8=8:=rfl;have wc16:IntKind.i64.wrap 16=16:=rfl;have wc24:IntKind.i64.wrap 24=24:=rfl;have wc32:IntKind.i64.wrap 32=32:=rfl;have wc40:IntKind.i64.wrap 40=40:=rfl;have wc48:IntKind.i64.wrap 48=48:=rfl;have wc56:IntKind.i64.wrap 56=56:=rfl;by_cases q32:4294967296≤x
 ·have h32:(4294967296≤((x:Nat):Int))=True:=by simp only [eq_iff_iff,iff_true];omega
  by_cases q16:65536≤x/4294967296
  ·have h16:(65536≤((x/4294967296:Nat):Int))=True:=by simp only [eq_iff_iff,iff_true];omega
   by_cases q8:256≤(x/4294967296)/65536
   ·have h8:(256≤(((x/4294967296)/65536:Nat):Int))=True:=by simp only [eq_iff_iff,iff_true];omega
    have hx8:((x/4294967296)/65536)/256<256:=by omega
    have hw:=Qgd hx8;have h0:(0≤((((x/4294967296)/65536)/256:Nat):Int))=True:=by simp only [eq_iff_iff,iff_true];exact Int.natCast_nonneg _
    have hb:blen x=blen (((x/4294967296)/65536)/256)+56:=by have:=Qd0 56 x (by simp only [Nat.reducePow];omega);simp only [Nat.reducePow]at this;rw [this,show((x/4294967296)/65536)/256=x/72057594037927936 by omega]
    refine Qac (tb:=[]) 25 [.tmp 2] [0,2,4,8,14] mixed Tryz.func102 rfl (by kernel_rfl) (by kernel_rfl) (by kernel_rfl) (by kernel_rfl) ?_;simp -implicitDefEqProofs only [go_sem,Nat.reduceAdd,Nat.reduceMul,Nat.reduceEqDiff,Nat.reduceLT,Nat.reduceLeDiff,Nat.reduceSub,Nat.reduceBEq,reduceIte,reduceCtorEq,Int.reduceEq,Int.reduceNe,Nat.reduceBneDiff,Int.reduceLE,Int.reduceLT,Int.reduceToNat,Int.reduceAdd,Int.reduceSub,Int.reduceMul,Int.reduceNeg,h32,h16,h8,Qh7,Qj7,Qr2,hw,h0,Int.toNat_natCast,wc8,wc16,wc24,wc32,wc40,wc48,wc56];generalize hT:ByteArray.mk _=T;have hok:Qp1 T.data.toList=true:=by rw [←hT];kernel_rfl
    obtain⟨t,ht,htb⟩:=Qdq hok hx8;clear hT;have hw2:IntKind.i64.wrap (t.toNat:Int)=(t.toNat:Int):=wrapn (by have:=t.toNat_lt;omega);have hw3:IntKind.i64.wrap (56+(t.toNat:Int))=((blen x:Nat):Int):=by rw [Qah (by have:=t.toNat_lt;omega) (by have:=t.toNat_lt;omega),hb,←htb];omega
    rw [htb]at hw2 hw3;simp -implicitDefEqProofs only [go_sem,Nat.reduceAdd,Nat.reduceMul,Nat.reduceEqDiff,Nat.reduceLT,Nat.reduceLeDiff,Nat.reduceSub,Nat.reduceBEq,reduceIte,reduceCtorEq,Int.reduceEq,Int.reduceNe,Nat.reduceBneDiff,Int.reduceLE,Int.reduceLT,Int.reduceToNat,Int.reduceAdd,Int.reduceSub,Int.reduceMul,Int.reduceNeg,ht,hw2,hw3,htb,wc8,wc16,wc24,wc32,wc40,wc48,wc56]
   ·have h8:(256≤(((x/4294967296)/65536:Nat):Int))=False:=by simp only [eq_iff_iff,iff_false];omega
    have hx8:(x/4294967296)/65536<256:=by omega
    have hw:=Qgd hx8;have h0:(0≤(((x/4294967296)/65536:Nat):Int))=True:=by simp only [eq_iff_iff,iff_true];exact Int.natCast_nonneg _
    have hb:blen x=blen ((x/4294967296)/65536)+48:=by have:=Qd0 48 x (by simp only [Nat.reducePow];omega);simp only [Nat.reducePow]at this;rw [this,show(x/4294967296)/65536=x/281474976710656 by omega]
    refine Qac (tb:=[]) 25 [.tmp 2] [0,2,4,8,14] mixed Tryz.func102 rfl (by kernel_rfl) (by kernel_rfl) (by kernel_rfl) (by kernel_rfl) ?_;simp -implicitDefEqProofs only [go_sem,Nat.reduceAdd,Nat.reduceMul,Nat.reduceEqDiff,Nat.reduceLT,Nat.reduceLeDiff,Nat.reduceSub,Nat.reduceBEq,reduceIte,reduceCtorEq,Int.reduceEq,Int.reduceNe,Nat.reduceBneDiff,Int.reduceLE,Int.reduceLT,Int.reduceToNat,Int.reduceAdd,Int.reduceSub,Int.reduceMul,Int.reduceNeg,h32,h16,h8,Qh7,Qj7,Qr2,hw,h0,Int.toNat_natCast,wc8,wc16,wc24,wc32,wc40,wc48,wc56];generalize hT:ByteArray.mk _=T;have hok:Qp1 T.data.toList=true:=by rw [←hT];kernel_rfl
    obtain⟨t,ht,htb⟩:=Qdq hok hx8;clear hT;have hw2:IntKind.i64.wrap (t.toNat:Int)=(t.toNat:Int):=wrapn (by have:=t.toNat_lt;omega);have hw3:IntKind.i64.wrap (48+(t.toNat:Int))=((blen x:Nat):Int):=by rw [Qah (by have:=t.toNat_lt;omega) (by have:=t.toNat_lt;omega),hb,←htb];omega
    rw [htb]at hw2 hw3;simp -implicitDefEqProofs only [go_sem,Nat.reduceAdd,Nat.reduceMul,Nat.reduceEqDiff,Nat.reduceLT,Nat.reduceLeDiff,Nat.reduceSub,Nat.reduceBEq,reduceIte,reduceCtorEq,Int.reduceEq,Int.reduceNe,Nat.reduceBneDiff,Int.reduceLE,Int.reduceLT,Int.reduceToNat,Int.reduceAdd,Int.reduceSub,Int.reduceMul,Int.reduceNeg,ht,hw2,hw3,htb,wc8,wc16,wc24,wc32,wc40,wc48,wc56]
  ·have h16:(65536≤((x/4294967296:Nat):Int))=False:=by simp only [eq_iff_iff,iff_false];omega
   by_cases q8:256≤x/4294967296
   ·have h8:(256≤((x/4294967296:Nat):Int))=True:=by simp only [eq_iff_iff,iff_true];omega
    have hx8:(x/4294967296)/256<256:=by omega
    have hw:=Qgd hx8;have h0:(0≤(((x/4294967296)/256:Nat):Int))=True:=by simp only [eq_iff_iff,iff_true];exact Int.natCast_nonneg _
    have hb:blen x=blen ((x/4294967296)/256)+40:=by have:=Qd0 40 x (by simp only [Nat.reducePow];omega);simp only [Nat.reducePow]at this;rw [this,show(x/4294967296)/256=x/1099511627776 by omega]
    refine Qac (tb:=[]) 25 [.tmp 2] [0,2,4,8,14] mixed Tryz.func102 rfl (by kernel_rfl) (by kernel_rfl) (by kernel_rfl) (by kernel_rfl) ?_;simp -implicitDefEqProofs only [go_sem,Nat.reduceAdd,Nat.reduceMul,Nat.reduceEqDiff,Nat.reduceLT,Nat.reduceLeDiff,Nat.reduceSub,Nat.reduceBEq,reduceIte,reduceCtorEq,Int.reduceEq,Int.reduceNe,Nat.reduceBneDiff,Int.reduceLE,Int.reduceLT,Int.reduceToNat,Int.reduceAdd,Int.reduceSub,Int.reduceMul,Int.reduceNeg,h32,h16,h8,Qh7,Qj7,Qr2,hw,h0,Int.toNat_natCast,wc8,wc16,wc24,wc32,wc40,wc48,wc56];generalize hT:ByteArray.mk _=T;have hok:Qp1 T.data.toList=true:=by rw [←hT];kernel_rfl
    obtain⟨t,ht,htb⟩:=Qdq hok hx8;clear hT;have hw2:IntKind.i64.wrap (t.toNat:Int)=(t.toNat:Int):=wrapn (by have:=t.toNat_lt;omega);have hw3:IntKind.i64.wrap (40+(t.toNat:Int))=((blen x:Nat):Int):=by rw [Qah (by have:=t.toNat_lt;omega) (by have:=t.toNat_lt;omega),hb,←htb];omega
    rw [htb]at hw2 hw3;simp -implicitDefEqProofs only [go_sem,Nat.reduceAdd,Nat.reduceMul,Nat.reduceEqDiff,Nat.reduceLT,Nat.reduceLeDiff,Nat.reduceSub,Nat.reduceBEq,reduceIte,reduceCtorEq,Int.reduceEq,Int.reduceNe,Nat.reduceBneDiff,Int.reduceLE,Int.reduceLT,Int.reduceToNat,Int.reduceAdd,Int.reduceSub,Int.reduceMul,Int.reduceNeg,ht,hw2,hw3,htb,wc8,wc16,wc24,wc32,wc40,wc48,wc56]
   ·have h8:(256≤((x/4294967296:Nat):Int))=False:=by simp only [eq_iff_iff,iff_false];omega
    have hx8:x/4294967296<256:=by omega
    have hw:=Qgd hx8;have h0:(0≤((x/4294967296:Nat):Int))=True:=by simp only [eq_iff_iff,iff_true];exact Int.natCast_nonneg _
    have hb:blen x=blen (x/4294967296)+32:=by have:=Qd0 32 x (by simp only [Nat.reducePow];omega);simp only [Nat.reducePow]at this;rw [this,show x/4294967296=x/4294967296 by omega]
    refine Qac (tb:=[]) 25 [.tmp 2] [0,2,4,8,14] mixed Tryz.func102 rfl (by kernel_rfl) (by kernel_rfl) (by kernel_rfl) (by kernel_rfl) ?_;simp -implicitDefEqProofs only [go_sem,Nat.reduceAdd,Nat.reduceMul,Nat.reduceEqDiff,Nat.reduceLT,Nat.reduceLeDiff,Nat.reduceSub,Nat.reduceBEq,reduceIte,reduceCtorEq,Int.reduceEq,Int.reduceNe,Nat.reduceBneDiff,Int.reduceLE,Int.reduceLT,Int.reduceToNat,Int.reduceAdd,Int.reduceSub,Int.reduceMul,Int.reduceNeg,h32,h16,h8,Qh7,Qj7,Qr2,hw,h0,Int.toNat_natCast,wc8,wc16,wc24,wc32,wc40,wc48,wc56];generalize hT:ByteArray.mk _=T;have hok:Qp1 T.data.toList=true:=by rw [←hT];kernel_rfl
    obtain⟨t,ht,htb⟩:=Qdq hok hx8;clear hT;have hw2:IntKind.i64.wrap (t.toNat:Int)=(t.toNat:Int):=wrapn (by have:=t.toNat_lt;omega);have hw3:IntKind.i64.wrap (32+(t.toNat:Int))=((blen x:Nat):Int):=by rw [Qah (by have:=t.toNat_lt;omega) (by have:=t.toNat_lt;omega),hb,←htb];omega
    rw [htb]at hw2 hw3;simp -implicitDefEqProofs only [go_sem,Nat.reduceAdd,Nat.reduceMul,Nat.reduceEqDiff,Nat.reduceLT,Nat.reduceLeDiff,Nat.reduceSub,Nat.reduceBEq,reduceIte,reduceCtorEq,Int.reduceEq,Int.reduceNe,Nat.reduceBneDiff,Int.reduceLE,Int.reduceLT,Int.reduceToNat,Int.reduceAdd,Int.reduceSub,Int.reduceMul,Int.reduceNeg,ht,hw2,hw3,htb,wc8,wc16,wc24,wc32,wc40,wc48,wc56]
 ·have h32:(4294967296≤((x:Nat):Int))=False:=by simp only [eq_iff_iff,iff_false];omega
  by_cases q16:65536≤x
  ·have h16:(65536≤((x:Nat):Int))=True:=by simp only [eq_iff_iff,iff_true];omega
   by_cases q8:256≤x/65536
   ·have h8:(256≤((x/65536:Nat):Int))=True:=by simp only [eq_iff_iff,iff_true];omega
    have hx8:(x/65536)/256<256:=by omega
    have hw:=Qgd hx8;have h0:(0≤(((x/65536)/256:Nat):Int))=True:=by simp only [eq_iff_iff,iff_true];exact Int.natCast_nonneg _
    have hb:blen x=blen ((x/65536)/256)+24:=by have:=Qd0 24 x (by simp only [Nat.reducePow];omega);simp only [Nat.reducePow]at this;rw [this,show(x/65536)/256=x/16777216 by omega]
    refine Qac (tb:=[]) 25 [.tmp 2] [0,2,4,8,14] mixed Tryz.func102 rfl (by kernel_rfl) (by kernel_rfl) (by kernel_rfl) (by kernel_rfl) ?_;simp -implicitDefEqProofs only [go_sem,Nat.reduceAdd,Nat.reduceMul,Nat.reduceEqDiff,Nat.reduceLT,Nat.reduceLeDiff,Nat.reduceSub,Nat.reduceBEq,reduceIte,reduceCtorEq,Int.reduceEq,Int.reduceNe,Nat.reduceBneDiff,Int.reduceLE,Int.reduceLT,Int.reduceToNat,Int.reduceAdd,Int.reduceSub,Int.reduceMul,Int.reduceNeg,h32,h16,h8,Qh7,Qj7,Qr2,hw,h0,Int.toNat_natCast,wc8,wc16,wc24,wc32,wc40,wc48,wc56];generalize hT:ByteArray.mk _=T;have hok:Qp1 T.data.toList=true:=by rw [←hT];kernel_rfl
    obtain⟨t,ht,htb⟩:=Qdq hok hx8;clear hT;have hw2:IntKind.i64.wrap (t.toNat:Int)=(t.toNat:Int):=wrapn (by have:=t.toNat_lt;omega);have hw3:IntKind.i64.wrap (24+(t.toNat:Int))=((blen x:Nat):Int):=by rw [Qah (by have:=t.toNat_lt;omega) (by have:=t.toNat_lt;omega),hb,←htb];omega
    rw [htb]at hw2 hw3;simp -implicitDefEqProofs only [go_sem,Nat.reduceAdd,Nat.reduceMul,Nat.reduceEqDiff,Nat.reduceLT,Nat.reduceLeDiff,Nat.reduceSub,Nat.reduceBEq,reduceIte,reduceCtorEq,Int.reduceEq,Int.reduceNe,Nat.reduceBneDiff,Int.reduceLE,Int.reduceLT,Int.reduceToNat,Int.reduceAdd,Int.reduceSub,Int.reduceMul,Int.reduceNeg,ht,hw2,hw3,htb,wc8,wc16,wc24,wc32,wc40,wc48,wc56]
   ·have h8:(256≤((x/65536:Nat):Int))=False:=by simp only [eq_iff_iff,iff_false];omega
    have hx8:x/65536<256:=by omega
    have hw:=Qgd hx8;have h0:(0≤((x/65536:Nat):Int))=True:=by simp only [eq_iff_iff,iff_true];exact Int.natCast_nonneg _
    have hb:blen x=blen (x/65536)+16:=by have:=Qd0 16 x (by simp only [Nat.reducePow];omega);simp only [Nat.reducePow]at this;rw [this,show x/65536=x/65536 by omega]
    refine Qac (tb:=[]) 25 [.tmp 2] [0,2,4,8,14] mixed Tryz.func102 rfl (by kernel_rfl) (by kernel_rfl) (by kernel_rfl) (by kernel_rfl) ?_;simp -implicitDefEqProofs only [go_sem,Nat.reduceAdd,Nat.reduceMul,Nat.reduceEqDiff,Nat.reduceLT,Nat.reduceLeDiff,Nat.reduceSub,Nat.reduceBEq,reduceIte,reduceCtorEq,Int.reduceEq,Int.reduceNe,Nat.reduceBneDiff,Int.reduceLE,Int.reduceLT,Int.reduceToNat,Int.reduceAdd,Int.reduceSub,Int.reduceMul,Int.reduceNeg,h32,h16,h8,Qh7,Qj7,Qr2,hw,h0,Int.toNat_natCast,wc8,wc16,wc24,wc32,wc40,wc48,wc56];generalize hT:ByteArray.mk _=T;have hok:Qp1 T.data.toList=true:=by rw [←hT];kernel_rfl
    obtain⟨t,ht,htb⟩:=Qdq hok hx8;clear hT;have hw2:IntKind.i64.wrap (t.toNat:Int)=(t.toNat:Int):=wrapn (by have:=t.toNat_lt;omega);have hw3:IntKind.i64.wrap (16+(t.toNat:Int))=((blen x:Nat):Int):=by rw [Qah (by have:=t.toNat_lt;omega) (by have:=t.toNat_lt;omega),hb,←htb];omega
    rw [htb]at hw2 hw3;simp -implicitDefEqProofs only [go_sem,Nat.reduceAdd,Nat.reduceMul,Nat.reduceEqDiff,Nat.reduceLT,Nat.reduceLeDiff,Nat.reduceSub,Nat.reduceBEq,reduceIte,reduceCtorEq,Int.reduceEq,Int.reduceNe,Nat.reduceBneDiff,Int.reduceLE,Int.reduceLT,Int.reduceToNat,Int.reduceAdd,Int.reduceSub,Int.reduceMul,Int.reduceNeg,ht,hw2,hw3,htb,wc8,wc16,wc24,wc32,wc40,wc48,wc56]
  ·have h16:(65536≤((x:Nat):Int))=False:=by simp only [eq_iff_iff,iff_false];omega
   by_cases q8:256≤x
   ·have h8:(256≤((x:Nat):Int))=True:=by simp only [eq_iff_iff,iff_true];omega
    have hx8:x/256<256:=by omega
    have hw:=Qgd hx8;have h0:(0≤((x/256:Nat):Int))=True:=by simp only [eq_iff_iff,iff_true];exact Int.natCast_nonneg _
    have hb:blen x=blen (x/256)+8:=by have:=Qd0 8 x (by simp only [Nat.reducePow];omega);simp only [Nat.reducePow]at this;rw [this,show x/256=x/256 by omega]
    refine Qac (tb:=[]) 25 [.tmp 2] [0,2,4,8,14] mixed Tryz.func102 rfl (by kernel_rfl) (by kernel_rfl) (by kernel_rfl) (by kernel_rfl) ?_;simp -implicitDefEqProofs only [go_sem,Nat.reduceAdd,Nat.reduceMul,Nat.reduceEqDiff,Nat.reduceLT,Nat.reduceLeDiff,Nat.reduceSub,Nat.reduceBEq,reduceIte,reduceCtorEq,Int.reduceEq,Int.reduceNe,Nat.reduceBneDiff,Int.reduceLE,Int.reduceLT,Int.reduceToNat,Int.reduceAdd,Int.reduceSub,Int.reduceMul,Int.reduceNeg,h32,h16,h8,Qh7,Qj7,Qr2,hw,h0,Int.toNat_natCast,wc8,wc16,wc24,wc32,wc40,wc48,wc56];generalize hT:ByteArray.mk _=T;have hok:Qp1 T.data.toList=true:=by rw [←hT];kernel_rfl
    obtain⟨t,ht,htb⟩:=Qdq hok hx8;clear hT;have hw2:IntKind.i64.wrap (t.toNat:Int)=(t.toNat:Int):=wrapn (by have:=t.toNat_lt;omega);have hw3:IntKind.i64.wrap (8+(t.toNat:Int))=((blen x:Nat):Int):=by rw [Qah (by have:=t.toNat_lt;omega) (by have:=t.toNat_lt;omega),hb,←htb];omega
    rw [htb]at hw2 hw3;simp -implicitDefEqProofs only [go_sem,Nat.reduceAdd,Nat.reduceMul,Nat.reduceEqDiff,Nat.reduceLT,Nat.reduceLeDiff,Nat.reduceSub,Nat.reduceBEq,reduceIte,reduceCtorEq,Int.reduceEq,Int.reduceNe,Nat.reduceBneDiff,Int.reduceLE,Int.reduceLT,Int.reduceToNat,Int.reduceAdd,Int.reduceSub,Int.reduceMul,Int.reduceNeg,ht,hw2,hw3,htb,wc8,wc16,wc24,wc32,wc40,wc48,wc56]
   ·have h8:(256≤((x:Nat):Int))=False:=by simp only [eq_iff_iff,iff_false];omega
    have hx8:x<256:=by omega
    have hw:=Qgd hx8;have h0:(0≤((x:Nat):Int))=True:=by simp only [eq_iff_iff,iff_true];exact Int.natCast_nonneg _
    have hb:blen x=blen (x)+0:=by rfl
    refine Qac (tb:=[]) 25 [.tmp 2] [0,2,4,8,14] mixed Tryz.func102 rfl (by kernel_rfl) (by kernel_rfl) (by kernel_rfl) (by kernel_rfl) ?_;simp -implicitDefEqProofs only [go_sem,Nat.reduceAdd,Nat.reduceMul,Nat.reduceEqDiff,Nat.reduceLT,Nat.reduceLeDiff,Nat.reduceSub,Nat.reduceBEq,reduceIte,reduceCtorEq,Int.reduceEq,Int.reduceNe,Nat.reduceBneDiff,Int.reduceLE,Int.reduceLT,Int.reduceToNat,Int.reduceAdd,Int.reduceSub,Int.reduceMul,Int.reduceNeg,h32,h16,h8,Qh7,Qj7,Qr2,hw,h0,Int.toNat_natCast,wc8,wc16,wc24,wc32,wc40,wc48,wc56];generalize hT:ByteArray.mk _=T;have hok:Qp1 T.data.toList=true:=by rw [←hT];kernel_rfl
    obtain⟨t,ht,htb⟩:=Qdq hok hx8;clear hT;have hw2:IntKind.i64.wrap (t.toNat:Int)=(t.toNat:Int):=wrapn (by have:=t.toNat_lt;omega);have hw3:IntKind.i64.wrap (0+(t.toNat:Int))=((blen x:Nat):Int):=by rw [Qah (by have:=t.toNat_lt;omega) (by have:=t.toNat_lt;omega),hb,←htb];omega
    rw [htb]at hw2 hw3;simp -implicitDefEqProofs only [go_sem,Nat.reduceAdd,Nat.reduceMul,Nat.reduceEqDiff,Nat.reduceLT,Nat.reduceLeDiff,Nat.reduceSub,Nat.reduceBEq,reduceIte,reduceCtorEq,Int.reduceEq,Int.reduceNe,Nat.reduceBneDiff,Int.reduceLE,Int.reduceLT,Int.reduceToNat,Int.reduceAdd,Int.reduceSub,Int.reduceMul,Int.reduceNeg,ht,hw2,hw3,htb,wc8,wc16,wc24,wc32,wc40,wc48,wc56]
end Go.Proofs.YtobaaecbdlhpdaaGreat

namespace Go.Proofs.YtobaaecbdlhpdaaGreat
open Go.Vl Go.RowKit Go.Dg
theorem Q5k (x:Nat) (hx:x<18446744073709551616):Qaf Tryz.prog 97 [.int .u64 (x:Int)] (.int .i64 ((64-blen x:Nat):Int)):=by
 have hb:=Qdb 64 x hx;have hw:IntKind.i64.wrap (64-((blen x:Nat):Int))=((64-blen x:Nat):Int):=by rw [Qah (by omega) (by omega)];omega
 refine Qac (tb:=[]) 6 [.tmp 2] [0,2] mixed Tryz.func97 rfl (by kernel_rfl) (by kernel_rfl) (by kernel_rfl) (by kernel_rfl) ?_;simp -implicitDefEqProofs only [go_sem,Nat.reduceAdd,Nat.reduceMul,Nat.reduceEqDiff,Nat.reduceLT,Nat.reduceLeDiff,Nat.reduceSub,Nat.reduceBEq,reduceIte,reduceCtorEq,Int.reduceEq,Int.reduceNe,Nat.reduceBneDiff,Int.reduceLE,Int.reduceLT,Int.reduceToNat,Int.reduceAdd,Int.reduceSub,Int.reduceMul,Int.reduceNeg];refine Qag _ _ _ _ _ _ _ _ _ (Zk2 x hx) ?_;simp -implicitDefEqProofs only [go_sem,Nat.reduceAdd,Nat.reduceMul,Nat.reduceEqDiff,Nat.reduceLT,Nat.reduceLeDiff,Nat.reduceSub,Nat.reduceBEq,reduceIte,reduceCtorEq,Int.reduceEq,Int.reduceNe,Nat.reduceBneDiff,Int.reduceLE,Int.reduceLT,Int.reduceToNat,Int.reduceAdd,Int.reduceSub,Int.reduceMul,Int.reduceNeg,hw]
theorem Quu (m:Nat) (hl:(digs BW m).length≤1000000000):Qaf Tryz.prog 83 [dw (digs BW m)] (.int .i64 (blen m:Int)):=by
 refine Qac (tb:=[]) 17 [.tmp 2] [0,2,5] mixed Tryz.func83 rfl (by kernel_rfl) (by kernel_rfl) (by kernel_rfl) (by kernel_rfl) ?_;by_cases h0:m=0
 ·subst h0;have h1:(((0:Nat):Int)==0)=true:=rfl;simp -implicitDefEqProofs only [go_sem,Nat.reduceAdd,Nat.reduceMul,Nat.reduceEqDiff,Nat.reduceLT,Nat.reduceLeDiff,Nat.reduceSub,Nat.reduceBEq,reduceIte,reduceCtorEq,Int.reduceEq,Int.reduceNe,Nat.reduceBneDiff,Int.reduceLE,Int.reduceLT,Int.reduceToNat,Int.reduceAdd,Int.reduceSub,Int.reduceMul,Int.reduceNeg,dw,Qbd,List.map_nil,List.length_nil,h1,Qf5];rfl
 ·have hp:0<(digs BW m).length:=List.length_pos_iff.2 (mt (Qbi BW_2).1 h0);have h1:(((digs BW m).length:Int)==0)=false:=by simp only [beq_eq_false_iff_ne,ne_eq];omega
  have ht:=Qdn BW_2 h0;have hg:=Qav (n:=m) (k:=(digs BW m).length-1) BW_2 (by omega);rw [Nat.mod_eq_of_lt ht.2]at hg;have hb:blen m=blen (m/BW^((digs BW m).length-1))+64*((digs BW m).length-1):=Qv0 h0 64 (by decide);generalize m/BW^((digs BW m).length-1)=t at*;have htl:=Qdb 64 t ht.2;generalize hL:(digs BW m).length=L at*;have hw1:IntKind.i64.wrap ((L:Int)*64)=((L*64:Nat):Int):=by rw [Qah (by omega) (by omega)];omega
  have hw2:IntKind.i64.wrap ((L:Int)-1)=((L-1:Nat):Int):=by rw [Qah (by omega) (by omega)];omega
  have hw3:IntKind.i64.wrap (((L*64:Nat):Int)-((64-blen t:Nat):Int))=((blen m:Nat):Int):=by rw [Qah (by omega) (by omega),hb];omega
  have h2:(0≤((L-1:Nat):Int))=True:=by simp only [eq_iff_iff,iff_true];exact Int.natCast_nonneg _
  simp -implicitDefEqProofs only [go_sem,Nat.reduceAdd,Nat.reduceMul,Nat.reduceEqDiff,Nat.reduceLT,Nat.reduceLeDiff,Nat.reduceSub,Nat.reduceBEq,reduceIte,reduceCtorEq,Int.reduceEq,Int.reduceNe,Nat.reduceBneDiff,Int.reduceLE,Int.reduceLT,Int.reduceToNat,Int.reduceAdd,Int.reduceSub,Int.reduceMul,Int.reduceNeg,dw,List.length_map,hL,h1,hw1,hw2,h2,Qb8,hg,Int.toNat_natCast];refine Qag _ _ _ _ _ _ _ _ _ (Q5k t ht.2) ?_;simp -implicitDefEqProofs only [go_sem,Nat.reduceAdd,Nat.reduceMul,Nat.reduceEqDiff,Nat.reduceLT,Nat.reduceLeDiff,Nat.reduceSub,Nat.reduceBEq,reduceIte,reduceCtorEq,Int.reduceEq,Int.reduceNe,Nat.reduceBneDiff,Int.reduceLE,Int.reduceLT,Int.reduceToNat,Int.reduceAdd,Int.reduceSub,Int.reduceMul,Int.reduceNeg,hw3]
end Go.Proofs.YtobaaecbdlhpdaaGreat

namespace Go.Dg
abbrev WB:Nat:=18446744073709551616
theorem Zmn (m:Nat) (hm:m<8):WB=256^(m+1)*256^(7-m):=by
 rw [←Nat.pow_add,show m+1+(7-m)=8 by omega]
theorem Qpg (T b m j:Nat):256^(8*j+m+1)*T+b*256^(8*j+m)=WB^j*(256^(m+1)*T+b*256^m):=by
 have e:WB^j=256^(8*j):=by rw [Nat.pow_mul]
 rw [e,Nat.mul_add,←Nat.mul_assoc,←Nat.pow_add,Nat.mul_left_comm (256^(8*j)) b,←Nat.pow_add,Nat.add_assoc]
theorem Qn6 (T b m j:Nat) (hb:b<256) (hm:m<8):
  (256^(8*j+m+1)*T+b*256^(8*j+m))/WB^j%WB=256^(m+1)*(T%256^(7-m))+b*256^m:=by
 have hp:0<256^m:=Nat.pow_pos (by decide);have hlt:b*256^m<256^(m+1):=by rw [Nat.pow_succ,Nat.mul_comm];exact Nat.mul_lt_mul_of_pos_left hb hp
 rw [Qpg,Nat.mul_div_cancel_left _ (Nat.pow_pos (by decide)),Zmn m hm];generalize b*256^m=r at*;generalize 256^(m+1)=A at*;generalize 256^(7-m)=q at*;have hA:0<A:=by omega
 rw [Nat.mod_mul,Nat.mul_add_mod,Nat.mod_eq_of_lt hlt,Nat.mul_add_div hA,Nat.div_eq_of_lt hlt,Nat.add_zero,Nat.add_comm]
theorem Qts (T b m j i:Nat) (hb:b<256) (hm:m<8) (hi:i≠j):
  (256^(8*j+m+1)*T+b*256^(8*j+m))/WB^i%WB=(256^(8*j+m+1)*T)/WB^i%WB:=by
 have hp:0<256^m:=Nat.pow_pos (by decide);have hlt:b*256^m<256^(m+1):=by rw [Nat.pow_succ,Nat.mul_comm];exact Nat.mul_lt_mul_of_pos_left hb hp
 have e2:=Qpg T 0 m j;rw [Nat.zero_mul,Nat.add_zero,Nat.zero_mul,Nat.add_zero]at e2;rw [Qpg,e2];rcases Nat.lt_or_gt_of_ne hi with h|h
 ·obtain⟨d,rfl⟩:=Nat.exists_eq_add_of_lt h;have e: ∀X:Nat,WB^(i+d+1)*X/WB^i%WB=0:=by
   intro X;rw [show i+d+1=i+(d+1)by omega,Nat.pow_add,Nat.mul_assoc,Nat.mul_div_cancel_left _ (Nat.pow_pos (by decide)),Nat.pow_succ,Nat.mul_comm (WB^d),Nat.mul_assoc,Nat.mul_mod_right]
  rw [e,e]
 ·obtain⟨d,rfl⟩:=Nat.exists_eq_add_of_lt h;have e: ∀X:Nat,WB^j*X/WB^(j+d+1)=X/WB/WB^d:=by
   intro X;rw [show j+d+1=j+(1+d)by omega,Nat.pow_add,Nat.mul_div_mul_left _ _ (Nat.pow_pos (by decide)),Nat.pow_add,Nat.pow_one,Nat.div_div_eq_div_mul]
  rw [e,e];congr 2;rw [Zmn m hm];generalize b*256^m=r at*;generalize 256^(m+1)=A at*;generalize 256^(7-m)=q at*;have hA:0<A:=by omega
  rw [←Nat.div_div_eq_div_mul,←Nat.div_div_eq_div_mul,Nat.mul_add_div hA,Nat.div_eq_of_lt hlt,Nat.add_zero,Nat.add_zero,Nat.mul_div_cancel_left _ hA]
end Go.Dg

namespace Go.Proofs.YtobaaecbdlhpdaaGreat
open Go.Vl Go.RowKit Go.Dg
theorem Zdd {P:Program} {t:TypeId} (x y:Nat):Qbr .or t P (.int .u64 (x:Int)) (.int .u64 (y:Int))=some (.int .u64 (((x%18446744073709551616) ||| (y%18446744073709551616):Nat):Int)):=by
 rw [b_or];have h:(BitVec.ofInt IntKind.u64.bits (x:Int) ||| BitVec.ofInt IntKind.u64.bits (y:Int)).toNat=(x%18446744073709551616) ||| (y%18446744073709551616):=by
  rw [BitVec.toNat_or];have h1: ∀n:Nat,(BitVec.ofInt IntKind.u64.bits (n:Int)).toNat=n%18446744073709551616:=by intro n;show(BitVec.ofInt 64 (n:Int)).toNat=_;simp
  rw [h1,h1]
 rw [h,Qdi,Nat.mod_eq_of_lt (Nat.or_lt_two_pow (n:=64) (Nat.mod_lt _ (by decide)) (Nat.mod_lt _ (by decide)))]
theorem Qmh (x k:Nat):IntKind.u64.wrap ((x:Int)*2^k)=((x*2^k%18446744073709551616:Nat):Int):=by
 rw [←Qdi];congr 1
theorem Zde (n:Nat):Int.tdiv (n:Int) 8=((n/8:Nat):Int):=by
 rw [Int.tdiv_eq_ediv_of_nonneg (by omega)];rfl
theorem Zo1 (n:Nat):Int.tmod (n:Int) 8=((n%8:Nat):Int):=by
 rw [Int.tmod_eq_emod_of_nonneg (by omega)];rfl
theorem Qzp (T b m j:Nat) (hb:b<256) (hm:m<8):
  ((256^(8*j+m+1)*T/WB^j%WB) ||| (b*2^(m*8)%18446744073709551616))=(256^(8*j+m+1)*T+b*256^(8*j+m))/WB^j%WB:=by
 have h0:=Qn6 T 0 m j (by decide) hm;rw [Nat.zero_mul,Nat.add_zero,Nat.zero_mul,Nat.add_zero]at h0;rw [Qn6 T b m j hb hm,h0];have e8: ∀k,(256:Nat)^k=2^(k*8):=fun k=>by rw [Nat.mul_comm,Nat.pow_mul]
 have hp:0<256^m:=Nat.pow_pos (by decide);have hlt:b*256^m<256^(m+1):=by rw [Nat.pow_succ,Nat.mul_comm];exact Nat.mul_lt_mul_of_pos_left hb hp
 have hle:256^(m+1)≤18446744073709551616:=Nat.pow_le_pow_right (n:=256) (by decide) (show m+1≤8 by omega);rw [←e8 m,Nat.mod_eq_of_lt (Nat.lt_of_lt_of_le hlt hle)];rw [e8 (m+1)]at hlt ⊢;exact(Nat.two_pow_add_eq_or_of_lt hlt _).symm
attribute [local go_sem high] Zdd
def pre (l:List UInt8) (i:Nat):Nat:=bnum (l.take i)*256^(l.length-i)
theorem Qp2 (s:ByteArray) (hs:s.size≤1000000):Qaf Tryz.prog 85 [.str s] (dw (lows BW (bnum s.data.toList) ((s.data.toList.length+7)/8))):=by
 rw [Qhr]at hs;have hsz:=Qhr s;have hget:=Qq4 s;generalize s.data.toList=l at*;have w1:IntKind.i64.wrap ((l.length:Int)+7)=((l.length+7:Nat):Int):=by rw [Qah (by omega) (by omega)];omega
 have w2:=wrapn (n:=(l.length+7)/8) (by omega);have hn0:((0:Int)≤(((l.length+7)/8:Nat):Int))=True:=by simp only [eq_iff_iff,iff_true];exact Int.natCast_nonneg _
 have hn1:((8:Nat):Int)*(((l.length+7)/8:Nat):Int)≤281474976710656:=by omega
 have hn2:(((l.length+7)/8:Nat):Int)≤9223372036854775807:=by omega
 refine Qac (tb:=[]) 38 [.tmp 2] [0,2,3,4,5,12,13,14] mixed Tryz.func85 rfl (by kernel_rfl) (by kernel_rfl) (by kernel_rfl) (by kernel_rfl) ?_;simp -implicitDefEqProofs only [go_sem,Nat.reduceAdd,Nat.reduceMul,Nat.reduceEqDiff,Nat.reduceLT,Nat.reduceLeDiff,Nat.reduceSub,Nat.reduceBEq,reduceIte,reduceCtorEq,Int.reduceEq,Int.reduceNe,Nat.reduceBneDiff,Int.reduceLE,Int.reduceLT,Int.reduceToNat,Int.reduceAdd,Int.reduceSub,Int.reduceMul,Int.reduceNeg,hsz,w1,w2,Zde,hn0,hn1,hn2,Int.toNat_natCast];have hst:List.replicate ((l.length+7)/8) (PV.int .u64 0)=(lows BW (pre l 0) ((l.length+7)/8)).map fW:=by
  rw [pre,List.take_zero,show bnum []=0 from rfl,Nat.zero_mul,Qea];simp
 rw [hst];generalize hW:(l.length+7)/8=W at*;refine Qa4 mixed (fun i:{i:Nat // i≤l.length}=>St.of [(0,.str s),(2,.nilS),(3,.bs 104 1 0 W),(12,.int .i64 (l.length:Int)),(13,.int .i64 (i.1:Int))]
   [(104,{els:=(lows BW (pre l i.1) W).map fW,esz:=1,ety:=82,fro:=0,live:=true,arr:=true})]) (fun i=>l.length-i.1) ⟨0,Nat.zero_le _⟩ ?_ ?_
 ·refine Qas (θ:=[(104,104)]) rfl ?_ ?_
  ·simp [Qae,lkp,ren1,ren0]
  ·simp [Qar,lkp,Box.renames]
 ·rintro⟨i,hi⟩;by_cases hA:i<l.length
  ·have hA':((i:Int)<(l.length:Int))=True:=by simp;omega
   have h0:(0≤(i:Int))=True:=by simp
   have hg:=hget i hA;have hwk:=Qak (a:=i) (by omega);have v1:IntKind.i64.wrap ((l.length:Int)-1)=((l.length-1:Nat):Int):=by rw [Qah (by omega) (by omega)];omega
   have v2:IntKind.i64.wrap (((l.length-1:Nat):Int)-(i:Int))=((l.length-1-i:Nat):Int):=by rw [Qah (by omega) (by omega)];omega
   have htk:l.take (i+1)=l.take i++[l[i]]:=by rw [List.take_add_one];simp [hA]
   have hb:l[i].toNat<256:=l[i].toNat_lt;generalize hk:l.length-1-i=k at*;have hkj:k=8*(k/8)+k%8:=by omega
   have hm:k%8<8:=Nat.mod_lt _ (by decide);have hjW:k/8<W:=by omega
   have p0:pre l i=256^(8*(k/8)+k%8+1)*bnum (l.take i):=by
    rw [pre,Nat.mul_comm,show l.length-i=8*(k/8)+k%8+1 by omega]
   have p1:pre l (i+1)=256^(8*(k/8)+k%8+1)*bnum (l.take i)+l[i].toNat*256^(8*(k/8)+k%8):=by
    rw [pre,htk,Qlj,show l.length-(i+1)=8*(k/8)+k%8 by omega,Nat.add_mul,Nat.pow_succ,Nat.mul_assoc,Nat.mul_comm (bnum _),Nat.mul_comm 256]
   have hpw:=Qzp (bnum (l.take i)) l[i].toNat (k%8) (k/8) hb hm;have hoth:=fun c hc=>Qts (bnum (l.take i)) l[i].toNat (k%8) (k/8) c hb hm hc;rw [←p1,←p0]at hpw;rw [←p1,←p0]at hoth;have hgo:((lows BW (pre l i) W).map fW)[k/8]? =some (PV.int .u64 ((pre l i/BW^(k/8)%BW:Nat):Int)):=by rw [List.getElem?_map,Qbq _ _ _ hjW];rfl
   have hset:(lows BW (pre l i) W).set (k/8) (pre l (i+1)/BW^(k/8)%BW)=lows BW (pre l (i+1)) W:=by
    apply List.ext_getElem?;intro c;rw [List.getElem?_set,Qai];by_cases hc:c<W
    ·rw [Qbq _ _ _ hc,Qbq _ _ _ hc];by_cases e:k/8=c
     ·subst e;simp [hjW]
     ·simp only [e,if_false];rw [hoth c (fun h=>e h.symm)]
    ·rw [List.getElem?_eq_none (by rw [Qai];omega),List.getElem?_eq_none (by rw [Qai];omega)];simp;omega
   have hll:=Qai (B:=BW) (pre l i) W;have u1:IntKind.i64.wrap (((k/8:Nat):Int))=((k/8:Nat):Int):=wrapn (by omega);have u2:IntKind.i64.wrap (((k%8:Nat):Int)*8)=((k%8*8:Nat):Int):=by rw [Qah (by omega) (by omega)];omega
   have u3:(((k%8*8:Nat):Int)<0)=False:=by simp only [eq_iff_iff,iff_false];omega
   have u4:min (k%8*8) 64=k%8*8:=by omega
   have u5:(0≤((k/8:Nat):Int))=True:=by simp only [eq_iff_iff,iff_true];exact Int.natCast_nonneg _
   have u6:(((k/8:Nat):Int)<(W:Int))=True:=by simp only [eq_iff_iff,iff_true];omega
   have u7:l[i].toNat%18446744073709551616=l[i].toNat:=Nat.mod_eq_of_lt (by omega);have u8:pre l i/BW^(k/8)%BW%18446744073709551616=pre l i/BW^(k/8)%BW:=Nat.mod_mod _ _;simp -implicitDefEqProofs only [go_sem,Nat.reduceAdd,Nat.reduceMul,Nat.reduceEqDiff,Nat.reduceLT,Nat.reduceLeDiff,Nat.reduceSub,Nat.reduceBEq,reduceIte,reduceCtorEq,Int.reduceEq,Int.reduceNe,Nat.reduceBneDiff,Int.reduceLE,Int.reduceLT,Int.reduceToNat,Int.reduceAdd,Int.reduceSub,Int.reduceMul,Int.reduceNeg,hA',h0,hg,hsz,v1,v2,Zde,Zo1,u1,u2,u3,u4,u5,u6,Int.toNat_natCast,hgo,Qdi,u7,Qmh,List.length_map,hll];refine⟨Qaa _ _ (by kernel_rfl),⟨i+1,hA⟩,by simp only;omega,?_⟩;rw [u8,Nat.mod_mod,hpw,Qcv,hset,hwk];refine Qas (θ:=[(104,104)]) rfl ?_ ?_
   ·simp [Qae,lkp,ren1,ren0]
   ·simp [Qar,lkp,Box.renames]
  ·have hA':((i:Int)<(l.length:Int))=False:=by simp;omega
   have e:pre l i=bnum l:=by rw [pre,List.take_of_length_le (by omega),show l.length-i=0 by omega,Nat.pow_zero,Nat.mul_one]
   have hll:=Qai (B:=BW) (bnum l) W;have htk:((lows BW (bnum l) W).map fW).take W=(lows BW (bnum l) W).map fW:=List.take_of_length_le (by simp [hll]);simp -implicitDefEqProofs only [go_sem,Nat.reduceAdd,Nat.reduceMul,Nat.reduceEqDiff,Nat.reduceLT,Nat.reduceLeDiff,Nat.reduceSub,Nat.reduceBEq,reduceIte,reduceCtorEq,Int.reduceEq,Int.reduceNe,Nat.reduceBneDiff,Int.reduceLE,Int.reduceLT,Int.reduceToNat,Int.reduceAdd,Int.reduceSub,Int.reduceMul,Int.reduceNeg,hA',e,List.length_map,hll,htk,dw]
end Go.Proofs.YtobaaecbdlhpdaaGreat

namespace Go.Proofs.YtobaaecbdlhpdaaGreat
open Go.Vl Go.RowKit Go.Dg
theorem Qrz (m k:Nat):m/BW^(k/8)%BW/2^(k%8*8)%256=m/256^k%256:=by
 have hm:k%8<8:=Nat.mod_lt _ (by decide);have e8: ∀k,(256:Nat)^k=2^(k*8):=fun k=>by rw [Nat.mul_comm,Nat.pow_mul]
 have hk:k=8*(k/8)+k%8:=by omega
 have e1:(256:Nat)^k=BW^(k/8)*256^(k%8):=by
  conv=>lhs;rw [hk,Nat.pow_add,Nat.pow_mul]
 rw [←e8,e1,←Nat.div_div_eq_div_mul];generalize m/BW^(k/8)=v;have e2:BW=256^(k%8)*(256*256^(7-k%8)):=by
  rw [←Nat.mul_assoc,←Nat.pow_succ,←Nat.pow_add,show k%8+1+(7-k%8)=8 by omega]
 rw [e2,Nat.mod_mul_right_div_self,Nat.mod_mul_right_mod]
def stp (m D i:Nat):List Nat:=(List.range D).map fun c=>if c<i then m/256^(D-1-c)%256 else 0
theorem Qd9 (m D i:Nat):(stp m D i).length=D:=by simp [stp]
theorem Qmc (m D i c:Nat) (h:c<D):(stp m D i)[c]? =some (if c<i then m/256^(D-1-c)%256 else 0):=by simp [stp,h]
theorem Zc1 (m D:Nat):List.replicate D (PV.int .u8 0)=(stp m D 0).map f8:=by
 apply List.ext_getElem?;intro c;by_cases hc:c<D
 ·rw [List.getElem?_map,Qmc _ _ _ _ hc];simp [hc]
 ·rw [List.getElem?_eq_none (by simp;omega),List.getElem?_eq_none (by simp [Qd9];omega)]
theorem Zku (m D i:Nat) (hi:i<D):(stp m D i).set i (m/256^(D-1-i)%256)=stp m D (i+1):=by
 apply List.ext_getElem?;intro c;rw [List.getElem?_set,Qd9];by_cases hc:c<D
 ·rw [Qmc _ _ _ _ hc,Qmc _ _ _ _ hc];by_cases e:i=c
  ·subst e;simp [hi]
  ·simp only [e,if_false];by_cases hlt:c<i
   ·rw [if_pos hlt,if_pos (by omega)]
   ·rw [if_neg hlt,if_neg (by omega)]
 ·rw [List.getElem?_eq_none (by rw [Qd9];omega),List.getElem?_eq_none (by rw [Qd9];omega)];simp;omega
theorem Zc2 (m:Nat):stp m (digs 256 m).length (digs 256 m).length=(digs 256 m).reverse:=by
 apply List.ext_getElem?;intro c;by_cases hc:c<(digs 256 m).length
 ·rw [Qmc _ _ _ _ hc,if_pos hc,List.getElem?_reverse hc,Qav (by decide) (by omega)]
 ·rw [List.getElem?_eq_none (by rw [Qd9];omega),List.getElem?_eq_none (by simp;omega)]
theorem Zoi (l:List Nat) (i:Nat) (d:Nat):(l.map f8).set i (PV.int .u8 (d:Int))=(l.set i d).map f8:=(List.map_set (f:=f8)).symm
theorem Zc3 (n:Nat):IntKind.u8.wrap (n:Int)=((n%256:Nat):Int):=by
 simp [IntKind.wrap,IntKind.signed,IntKind.bits]
theorem Qwv (m:Nat) (hl:(digs BW m).length≤1000000):Qaf Tryz.prog 84 [dw (digs BW m)] (.str ⟨(magL m).toArray⟩):=by
 have hbl:(blen m+7)/8=(digs 256 m).length:=by
  by_cases h0:m=0
  ·subst h0;rw [Qf5,Qbd];rfl
  ·have ht:=Qdn (B:=256) (by decide) h0;have hb:blen m=blen (m/256^((digs 256 m).length-1))+8*((digs 256 m).length-1):=Qv0 h0 8 (by decide);have h1:=Qdb 8 _ ht.2;have h2:=Qf6 ht.1;have hp:0<(digs 256 m).length:=List.length_pos_iff.2 (mt (Qbi (by decide)).1 h0);omega
 have hbm:blen m≤64*(digs BW m).length:=Qdb _ _ (by rw [Nat.pow_mul];exact Qbb BW_2 m);have w1:IntKind.i64.wrap ((blen m:Int)+7)=((blen m+7:Nat):Int):=by rw [Qah (by omega) (by omega)];omega
 have w2:=wrapn (n:=(blen m+7)/8) (by omega);generalize hD:(digs 256 m).length=D at*;have hD2:D≤9000000:=by omega
 have hn0:((0:Int)≤((D:Nat):Int))=True:=by simp
 have hn1:((1:Nat):Int)*(D:Int)≤281474976710656:=by omega
 have hn2:(D:Int)≤9223372036854775807:=by omega
 rw [hbl]at w2;refine Qac (tb:=[]) 37 [.tmp 2] [0,2,3,4,5,12,13,14] mixed Tryz.func84 rfl (by kernel_rfl) (by kernel_rfl) (by kernel_rfl) (by kernel_rfl) ?_;simp -implicitDefEqProofs only [go_sem,Nat.reduceAdd,Nat.reduceMul,Nat.reduceEqDiff,Nat.reduceLT,Nat.reduceLeDiff,Nat.reduceSub,Nat.reduceBEq,reduceIte,reduceCtorEq,Int.reduceEq,Int.reduceNe,Nat.reduceBneDiff,Int.reduceLE,Int.reduceLT,Int.reduceToNat,Int.reduceAdd,Int.reduceSub,Int.reduceMul,Int.reduceNeg,dw];refine Qag _ _ _ _ _ _ _ _ _ (Quu m (by omega)) ?_;simp -implicitDefEqProofs only [go_sem,Nat.reduceAdd,Nat.reduceMul,Nat.reduceEqDiff,Nat.reduceLT,Nat.reduceLeDiff,Nat.reduceSub,Nat.reduceBEq,reduceIte,reduceCtorEq,Int.reduceEq,Int.reduceNe,Nat.reduceBneDiff,Int.reduceLE,Int.reduceLT,Int.reduceToNat,Int.reduceAdd,Int.reduceSub,Int.reduceMul,Int.reduceNeg,w1,Zde,hbl,w2,hn0,hn1,hn2,Int.toNat_natCast];have hfull:=Zc2 m;rw [hD]at hfull;rw [Zc1 m D];refine Qa4 mixed (fun i:{i:Nat // i≤D}=>St.of [(0,dw (digs BW m)),(2,.str ⟨#[]⟩),(3,.bs 104 1 0 D),(12,.int .i64 (D:Int)),(13,.int .i64 (i.1:Int))]
   [(104,{els:=(stp m D i.1).map f8,esz:=1,ety:=5,fro:=0,live:=true,arr:=true})]) (fun i=>D-i.1) ⟨0,Nat.zero_le _⟩ ?_ ?_
 ·refine Qas (θ:=[(104,104)]) rfl ?_ ?_
  ·simp [Qae,lkp,ren1,ren0,dw]
  ·simp [Qar,lkp,Box.renames]
 ·rintro⟨i,hi⟩;by_cases hA:i<D
  ·have hA':((i:Int)<(D:Int))=True:=by simp;omega
   have h0:(0≤(i:Int))=True:=by simp
   have hwk:=Qak (a:=i) (by omega);have v1:IntKind.i64.wrap ((D:Int)-1)=((D-1:Nat):Int):=by rw [Qah (by omega) (by omega)];omega
   have v2:IntKind.i64.wrap (((D-1:Nat):Int)-(i:Int))=((D-1-i:Nat):Int):=by rw [Qah (by omega) (by omega)];omega
   have hset:=Zku m D i hA;have hne:m/256^(D-1-i)≠0:=(Qcz (by decide) m _).1 (by omega);generalize hk:D-1-i=k at*;have hbw:=Qrz m k;have hwne:m/BW^(k/8)≠0:=by
    intro h;apply hne;have e1:(256:Nat)^k=BW^(k/8)*256^(k%8):=by
     conv=>lhs;rw [show k=8*(k/8)+k%8 by omega,Nat.pow_add,Nat.pow_mul]
    rw [e1,←Nat.div_div_eq_div_mul,h,Nat.zero_div]
   have hgw:=Qav (n:=m) (k:=k/8) BW_2 ((Qcz BW_2 m _).2 hwne);generalize m/BW^(k/8)%BW=q at*;have u1:IntKind.i64.wrap (((k/8:Nat):Int))=((k/8:Nat):Int):=wrapn (by omega);have u2:IntKind.i64.wrap (((k%8:Nat):Int)*8)=((k%8*8:Nat):Int):=by rw [Qah (by omega) (by omega)];omega
   have u3:(((k%8*8:Nat):Int)<0)=False:=by simp only [eq_iff_iff,iff_false];omega
   have u4:min (k%8*8) 64=k%8*8:=by omega
   have u5:(0≤((k/8:Nat):Int))=True:=by simp only [eq_iff_iff,iff_true];exact Int.natCast_nonneg _
   obtain⟨e,hgo⟩: ∃e:Nat,((stp m D i).map f8)[i]? =some (PV.int .u8 (e:Int)):=⟨_,by rw [List.getElem?_map,Qmc _ _ _ _ hA];rfl⟩;have hsl:=Qd9 m D i;simp -implicitDefEqProofs only [go_sem,Nat.reduceAdd,Nat.reduceMul,Nat.reduceEqDiff,Nat.reduceLT,Nat.reduceLeDiff,Nat.reduceSub,Nat.reduceBEq,reduceIte,reduceCtorEq,Int.reduceEq,Int.reduceNe,Nat.reduceBneDiff,Int.reduceLE,Int.reduceLT,Int.reduceToNat,Int.reduceAdd,Int.reduceSub,Int.reduceMul,Int.reduceNeg,dw,hA',h0,v1,v2,Zde,Zo1,u1,u2,u3,u4,u5,Int.toNat_natCast,Qb8,hgw,Qir,Zc3,hbw,hgo,List.length_map,hsl,hwk];refine⟨⟨i+1,hA⟩,by simp only;omega,?_⟩;refine Qas (θ:=[(104,104)]) rfl ?_ ?_
   ·simp [Qae,lkp,ren1,ren0,dw]
   ·rw [Zoi,hset];simp [Qar,lkp,Box.renames]
  ·have hA':((i:Int)<(D:Int))=False:=by simp;omega
   obtain rfl:i=D:=by omega
   rw [hfull];have hrl:(digs 256 m).reverse.length=i:=by simp [hD]
   have htk:((digs 256 m).reverse.map f8).take i=(digs 256 m).reverse.map f8:=List.take_of_length_le (by simp [hD]);simp -implicitDefEqProofs only [go_sem,Nat.reduceAdd,Nat.reduceMul,Nat.reduceEqDiff,Nat.reduceLT,Nat.reduceLeDiff,Nat.reduceSub,Nat.reduceBEq,reduceIte,reduceCtorEq,Int.reduceEq,Int.reduceNe,Nat.reduceBneDiff,Int.reduceLE,Int.reduceLT,Int.reduceToNat,Int.reduceAdd,Int.reduceSub,Int.reduceMul,Int.reduceNeg,hA',List.length_map,hrl,htk,Qyf];rfl
end Go.Proofs.YtobaaecbdlhpdaaGreat
