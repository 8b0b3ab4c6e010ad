/-
  TW18, TW21, TW22, TW19, TW24, US3, TW20, De5, TW25 (merged for the claim).
-/
import Derived.Test.YtobaaecbdlhpdaaGreatDe4
import Derived.Test.YtobaaecbdlhpdaaGreatTW2
set_option linter.unusedSimpArgs false
set_option linter.unusedVariables false
namespace Go.Proofs.YtobaaecbdlhpdaaGreat
open Go.Vl Go.RowKit Go.Dg
theorem Zc6 (a d:Nat) (hd:0<d) (hdl:d<18446744073709551616) (ha:(digs BW a).length≤1000000000):Qaf Tryz.prog 103 [dw (digs BW a),.int .u64 (d:Int)] (.tup [dw (digs BW (a/d)),.int .u64 ((a%d:Nat):Int)]):=by
 refine Qac (tb:=[]) 35 [.tmp 4,.tmp 5] [0,1,4,5,6,7,8,16] mixed Tryz.func103 rfl (by kernel_rfl) (by kernel_rfl) (by kernel_rfl) (by kernel_rfl) ?_;have hn0:((0:Int)≤((digs BW a).length:Int))=True:=by simp
 have hn1:((8:Nat):Int)*((digs BW a).length:Int)≤281474976710656:=by omega
 have hn2:((digs BW a).length:Int)≤9223372036854775807:=by omega
 have hlt:a<BW^(digs BW a).length:=Qbb BW_2 a;have hw:IntKind.i64.wrap (((digs BW a).length:Int)-1)=((digs BW a).length:Int)-1:=Qah (by omega) (by omega);simp -implicitDefEqProofs only [go_sem,Nat.reduceAdd,Nat.reduceMul,Nat.reduceEqDiff,Nat.reduceLT,Nat.reduceLeDiff,Nat.reduceSub,Nat.reduceBEq,reduceIte,reduceCtorEq,Int.reduceEq,Int.reduceNe,Nat.reduceBneDiff,Int.reduceLE,Int.reduceLT,Int.reduceToNat,Int.reduceAdd,Int.reduceSub,Int.reduceMul,Int.reduceNeg,dw,List.length_map,hn0,hn1,hn2,Int.toNat_natCast,hw];generalize hN:(digs BW a).length=N at*;have hrep:List.replicate N (PV.int .u64 0)=(mix BW 0 (a/d) N N).map fW:=by rw [Qo6,Qea];simp
 rw [hrep];refine Qa4 mixed (fun i:{i:Nat // i≤N}=>St.of [(0,dw (digs BW a)),(1,.int .u64 (d:Int)),(4,.nilS),(5,.int .u64 0),(6,.bs 102 1 0 N),(7,.int .u64 ((a/BW^i.1%d:Nat):Int)),(8,.int .i64 ((i.1:Int)-1))]
  [(102,{els:=(mix BW 0 (a/d) N i.1).map fW,esz:=1,ety:=82,fro:=0,live:=true,arr:=true})]) (fun i=>i.1) ⟨N,Nat.le_refl _⟩ ?_ ?_
 ·refine Qas (θ:=[(102,102)]) rfl ?_ ?_
  ·simp [Qae,lkp,ren1,ren0,dw,Nat.div_eq_of_lt hlt]
  ·simp [Qar,lkp,Box.renames]
 ·rintro⟨i,hi⟩;cases i with
  |zero=>
   have h1:((0:Int)≤((0:Nat):Int)-1)=False:=by simp
   have hll:=Qai (B:=BW) (a/d) N;have htk:((lows BW (a/d) N).map fW).take N=(lows BW (a/d) N).map fW:=List.take_of_length_le (by simp [hll]);simp -implicitDefEqProofs only [go_sem,Nat.reduceAdd,Nat.reduceMul,Nat.reduceEqDiff,Nat.reduceLT,Nat.reduceLeDiff,Nat.reduceSub,Nat.reduceBEq,reduceIte,reduceCtorEq,Int.reduceEq,Int.reduceNe,Nat.reduceBneDiff,Int.reduceLE,Int.reduceLT,Int.reduceToNat,Int.reduceAdd,Int.reduceSub,Int.reduceMul,Int.reduceNeg,h1,Qk4,List.length_map,hll,htk];refine Qag _ _ _ _ _ _ _ _ _ (Qc8 (lows BW (a/d) N) (by rw [hll];simp [maxLen];omega)) ?_;have e:a/BW^0%d=a%d:=by rw [Nat.pow_zero,Nat.div_one]
   simp -implicitDefEqProofs only [go_sem,Nat.reduceAdd,Nat.reduceMul,Nat.reduceEqDiff,Nat.reduceLT,Nat.reduceLeDiff,Nat.reduceSub,Nat.reduceBEq,reduceIte,reduceCtorEq,Int.reduceEq,Int.reduceNe,Nat.reduceBneDiff,Int.reduceLE,Int.reduceLT,Int.reduceToNat,Int.reduceAdd,Int.reduceSub,Int.reduceMul,Int.reduceNeg,dw,e];rw [Qb1 BW_2,Nat.mod_eq_of_lt (Nat.lt_of_le_of_lt (Nat.div_le_self _ _) hlt)]
  |succ i=>
   have hs:(((i+1:Nat):Int)-1)=(i:Int):=by omega
   have h1:((0:Int)≤(i:Int))=True:=by simp
   have h2:((i:Int)<(N:Int))=True:=by simp;omega
   have hga:=Qav BW_2 (show i<(digs BW a).length by omega);have hml:=Qbj (B:=BW) 0 (a/d) N (i+1);obtain⟨e,hgo⟩: ∃e:Nat,((mix BW 0 (a/d) N (i+1)).map fW)[i]? =some (PV.int .u64 (e:Int)):=⟨_,by rw [List.getElem?_map,Qdc _ _ _ _ _ (by omega)];rfl⟩;have e0:a/BW^(i+1)=a/BW^i/BW:=by rw [Nat.pow_succ,Nat.div_div_eq_div_mul]
   obtain⟨s1,s2⟩:=Qx0 (a/BW^i) d BW (by decide) hd;have e1:a/BW^i/d=a/d/BW^i:=by rw [Nat.div_div_eq_div_mul,Nat.div_div_eq_div_mul,Nat.mul_comm]
   have hc:=Q5d (a/BW^(i+1)%d) (a/BW^i%BW) d (Nat.mod_lt _ hd) hdl (Nat.mod_lt _ (by decide));rw [e0,s1,s2,e1]at hc;have hset:=Qwk (B:=BW) (V:=0) (S:=a/d) (N:=N) (i:=i) (d:=a/d/BW^i%BW) (by omega) rfl;have w4:IntKind.i64.wrap ((i:Int)-1)=(i:Int)-1:=Qah (by omega) (by omega);simp -implicitDefEqProofs only [go_sem,Nat.reduceAdd,Nat.reduceMul,Nat.reduceEqDiff,Nat.reduceLT,Nat.reduceLeDiff,Nat.reduceSub,Nat.reduceBEq,reduceIte,reduceCtorEq,Int.reduceEq,Int.reduceNe,Nat.reduceBneDiff,Int.reduceLE,Int.reduceLT,Int.reduceToNat,Int.reduceAdd,Int.reduceSub,Int.reduceMul,Int.reduceNeg,dw,hs,h1,h2,Qb8,hga,Int.toNat_natCast,e0];refine Qag _ _ _ _ _ _ _ _ _ hc ?_;simp -implicitDefEqProofs only [go_sem,Nat.reduceAdd,Nat.reduceMul,Nat.reduceEqDiff,Nat.reduceLT,Nat.reduceLeDiff,Nat.reduceSub,Nat.reduceBEq,reduceIte,reduceCtorEq,Int.reduceEq,Int.reduceNe,Nat.reduceBneDiff,Int.reduceLE,Int.reduceLT,Int.reduceToNat,Int.reduceAdd,Int.reduceSub,Int.reduceMul,Int.reduceNeg,h1,h2,List.length_map,hml,hgo,Int.toNat_natCast,w4];refine⟨⟨i,by omega⟩,by simp only;omega,Qas (θ:=[(102,102)]) rfl ?_ ?_⟩
   ·simp [Qae,lkp,ren1,ren0,dw]
   ·rw [Qcv,hset];simp [Qar,lkp,Box.renames]
end Go.Proofs.YtobaaecbdlhpdaaGreat

namespace Go.Proofs.YtobaaecbdlhpdaaGreat
open Go.Vl Go.RowKit Go.Dg
abbrev wB (E:List Nat):Box:={els:=E.map fW,esz:=1,ety:=82,fro:=0,live:=true,arr:=true}
theorem Qwx (E:List Nat) (off n:Nat) (hn:off+n≤E.length) (hE:E.length≤maxLen):
  Qdt Tryz.prog 51 [.bs 1000000 1 off n] [(1000000,wB E)] (.bs 1000000 1 off (Qe2 ((E.drop off).take n)).length) [(1000000,wB E)]:=by
 have hm:=Qro;refine Qdv (tb:=[]) 21 [.tmp 2] [0,2,14] mixed Tryz.func51 rfl (by kernel_rfl) (by kernel_rfl) (by kernel_rfl) (by kernel_rfl) (by rfl) ?_;simp -implicitDefEqProofs only [go_sem,Nat.reduceAdd,Nat.reduceMul,Nat.reduceEqDiff,Nat.reduceLT,Nat.reduceLeDiff,Nat.reduceSub,Nat.reduceBEq,reduceIte,reduceCtorEq,Int.reduceEq,Int.reduceNe,Nat.reduceBneDiff,Int.reduceLE,Int.reduceLT,Int.reduceToNat,Int.reduceAdd,Int.reduceSub,Int.reduceMul,Int.reduceNeg];refine Qa4 mixed (fun k:{k:Nat // k≤n∧Qe2 ((E.drop off).take k)=Qe2 ((E.drop off).take n)}=>St.of [(0,.bs 1000000 1 off k.1),(2,.nilS)] [(1000000,wB E)]) (fun k=>k.1) ⟨n,Nat.le_refl _,rfl⟩ ?_ ?_
 ·refine Qas (θ:=[(1000000,1000000)]) rfl ?_ ?_
  ·simp [Qae,lkp,ren1,ren0]
  ·simp [Qar,lkp,Box.renames]
 ·rintro⟨k,hk,ht⟩;cases k with
  |zero=>
   have h1:((0:Int)<((0:Nat):Int))=False:=by simp
   simp -implicitDefEqProofs only [go_sem,Nat.reduceAdd,Nat.reduceMul,Nat.reduceEqDiff,Nat.reduceLT,Nat.reduceLeDiff,Nat.reduceSub,Nat.reduceBEq,reduceIte,reduceCtorEq,Int.reduceEq,Int.reduceNe,Nat.reduceBneDiff,Int.reduceLE,Int.reduceLT,Int.reduceToNat,Int.reduceAdd,Int.reduceSub,Int.reduceMul,Int.reduceNeg,h1];rw [←ht];refine Qct (.inl rfl) ?_;simp -implicitDefEqProofs only [go_sem,Nat.reduceAdd,Nat.reduceMul,Nat.reduceEqDiff,Nat.reduceLT,Nat.reduceLeDiff,Nat.reduceSub,Nat.reduceBEq,reduceIte,reduceCtorEq,Int.reduceEq,Int.reduceNe,Nat.reduceBneDiff,Int.reduceLE,Int.reduceLT,Int.reduceToNat,Int.reduceAdd,Int.reduceSub,Int.reduceMul,Int.reduceNeg];refine Qas (θ:=[(1000000,1000000)]) rfl ?_ ?_
   ·simp [Qae,lkp,ren1,ren0,Qe2]
   ·simp [Qar,lkp,Box.renames]
  |succ k=>
   have h1:((0:Int)<((k+1:Nat):Int))=True:=by simp
   have h2:(0≤(k:Int))=True:=by simp
   have hw:=Qrn (n:=k) (by omega);have hlt:off+k<E.length:=by omega
   have hget:(E.map fW)[off+k]? =some (.int .u64 (E[off+k]:Int)):=by simp [hlt]
   have hcut:(E.drop off).take (k+1)=(E.drop off).take k++[E[off+k]]:=by
    rw [List.take_add_one,List.getElem?_drop,List.getElem?_eq_getElem hlt];rfl
   have h4:((k:Int)<((k+1:Nat):Int))=True:=by simp;omega
   cases hd:((E[off+k]:Int)==0)with
   |true=>
    have hd0:E[off+k]=0:=by simpa using hd
    have h3:((k:Int)≤((k+1:Nat):Int))=True:=by simp;omega
    simp -implicitDefEqProofs only [go_sem,Nat.reduceAdd,Nat.reduceMul,Nat.reduceEqDiff,Nat.reduceLT,Nat.reduceLeDiff,Nat.reduceSub,Nat.reduceBEq,reduceIte,reduceCtorEq,Int.reduceEq,Int.reduceNe,Nat.reduceBneDiff,Int.reduceLE,Int.reduceLT,Int.reduceToNat,Int.reduceAdd,Int.reduceSub,Int.reduceMul,Int.reduceNeg,h1,h2,hw,hget,hd,Int.toNat_natCast,h3,h4,wB];refine⟨⟨k,by omega,?_⟩,by simp,?_⟩
    ·rw [←ht,hcut,hd0,Qec]
    ·refine Qas (θ:=[(1000000,1000000)]) rfl ?_ ?_
     ·simp [Qae,lkp,ren1,ren0]
     ·simp [Qar,lkp,Box.renames]
   |false=>
    have hd0:E[off+k]≠0:=by simpa using hd
    simp -implicitDefEqProofs only [go_sem,Nat.reduceAdd,Nat.reduceMul,Nat.reduceEqDiff,Nat.reduceLT,Nat.reduceLeDiff,Nat.reduceSub,Nat.reduceBEq,reduceIte,reduceCtorEq,Int.reduceEq,Int.reduceNe,Nat.reduceBneDiff,Int.reduceLE,Int.reduceLT,Int.reduceToNat,Int.reduceAdd,Int.reduceSub,Int.reduceMul,Int.reduceNeg,h1,h2,hw,hget,hd,Int.toNat_natCast,h4,wB];rw [←ht,hcut,Qgz _ hd0];refine Qct (.inl rfl) ?_;simp -implicitDefEqProofs only [go_sem,Nat.reduceAdd,Nat.reduceMul,Nat.reduceEqDiff,Nat.reduceLT,Nat.reduceLeDiff,Nat.reduceSub,Nat.reduceBEq,reduceIte,reduceCtorEq,Int.reduceEq,Int.reduceNe,Nat.reduceBneDiff,Int.reduceLE,Int.reduceLT,Int.reduceToNat,Int.reduceAdd,Int.reduceSub,Int.reduceMul,Int.reduceNeg];refine Qas (θ:=[(1000000,1000000)]) rfl ?_ ?_
    ·simp [Qae,lkp,ren1,ren0];omega
    ·simp [Qar,lkp,Box.renames]
end Go.Proofs.YtobaaecbdlhpdaaGreat

namespace Go.Proofs.YtobaaecbdlhpdaaGreat
open Go.Vl Go.RowKit Go.Dg
theorem Zky (E:List Nat) (off a b:Nat) (hba:b≤a) (hE:(E.drop off).take (digs BW a).length=digs BW a) (hEl:off+(digs BW a).length≤E.length) (ha:(digs BW a).length≤1000000000):
  Qdt Tryz.prog 93 [.bs 1000000 1 off (digs BW a).length,dw (digs BW b)] [(1000000,wB E)] (.bs 102 1 0 (digs BW (a-b)).length) [(1000000,wB E),(102,wB (lows BW (a-b) (digs BW a).length))]:=by

 refine Qdv (tb:=[(1101,[(1000000,102)],[])]) 41 [.tmp 4] [0,1,4,5,6,7,8,13,14,15,20] mixed Tryz.func93 rfl (by kernel_rfl) (by kernel_rfl) (by kernel_rfl) (by kernel_rfl) (by rfl) ?_;have hn0:((0:Int)≤((digs BW a).length:Int))=True:=by simp
 have hn1:((8:Nat):Int)*((digs BW a).length:Int)≤281474976710656:=by omega
 have hn2:((digs BW a).length:Int)≤9223372036854775807:=by omega
 simp -implicitDefEqProofs only [go_sem,Nat.reduceAdd,Nat.reduceMul,Nat.reduceEqDiff,Nat.reduceLT,Nat.reduceLeDiff,Nat.reduceSub,Nat.reduceBEq,reduceIte,reduceCtorEq,Int.reduceEq,Int.reduceNe,Nat.reduceBneDiff,Int.reduceLE,Int.reduceLT,Int.reduceToNat,Int.reduceAdd,Int.reduceSub,Int.reduceMul,Int.reduceNeg,dw,wB,List.length_map,hn0,hn1,hn2,Int.toNat_natCast];generalize hN:(digs BW a).length=N at*;rw [Qiq (a-b) N];refine Qa4 mixed (fun i:{i:Nat // i≤N}=>St.of [(0,.bs 1000000 1 off N),(1,dw (digs BW b)),(4,.nilS),(5,.bs 102 1 0 N),(6,.int .u64 (bor BW a b i.1:Int)),(13,.int .i64 (N:Int)),(14,.int .i64 (i.1:Int))]
  [(1000000,wB E),(102,{els:=(mix BW (a-b) 0 N i.1).map fW,esz:=1,ety:=82,fro:=0,live:=true,arr:=true})]) (fun i=>N-i.1) ⟨0,Nat.zero_le _⟩ ?_ ?_
 ·refine Qas (θ:=[(1000000,1000000),(102,102)]) rfl ?_ ?_
  ·simp [Qae,lkp,ren1,ren0,dw,Qwa]
  ·simp [Qar,lkp,Box.renames]
 ·rintro⟨i,hi⟩;have hml:=Qbj (B:=BW) (a-b) 0 N i;by_cases hA:i<N
  ·have hA':((i:Int)<(N:Int))=True:=by simp;omega
   have h0:(0≤(i:Int))=True:=by simp
   have hga:=Qav BW_2 (show i<(digs BW a).length by omega);have hgE:(E.map fW)[off+i]? =some (PV.int .u64 ((a/BW^i%BW:Nat):Int)):=by
    rw [List.getElem?_map,←List.getElem?_drop,←List.getElem?_take_of_lt (show i<N by omega),hE,hga];rfl
   have hwk:=Qak (a:=i) (by omega);have hbl:=Qwb (B:=BW) a b i;have hbl2:=Qwb (B:=BW) a b (i+1);have hst:=Qwc BW_2 hba i;have hx:a/BW^i%BW<BW:=Nat.mod_lt _ (by decide);have hy:b/BW^i%BW<BW:=Nat.mod_lt _ (by decide);have hz:(a-b)/BW^i%BW<BW:=Nat.mod_lt _ (by decide);have hset:=Qed (B:=BW) (V:=a-b) (W:=a-b) (S:=0) (n:=N) (m:=i) (d:=(a-b)/BW^i%BW) (by decide) hA rfl rfl;have hy0: ¬i<(digs BW b).length→b/BW^i%BW=0:=fun h=>by rw [Qcd BW_2 (Nat.le_of_not_lt h),Nat.zero_mod]
   have hgb:i<(digs BW b).length→(digs BW b)[i]? =some (b/BW^i%BW):=fun h=>Qav BW_2 h;obtain⟨e,hgo⟩: ∃e:Nat,((mix BW (a-b) 0 N i).map fW)[i]? =some (PV.int .u64 (e:Int)):=⟨_,by rw [List.getElem?_map,Qdc _ _ _ _ _ hA];rfl⟩;generalize a/BW^i%BW=x at*;generalize b/BW^i%BW=y at*;generalize (a-b)/BW^i%BW=z at*;have s1:(x+18446744073709551616-y-bor BW a b i)%18446744073709551616=z:=by simp only [BW]at*;omega
   have s2:(if x<y+bor BW a b i then 1 else 0)=bor BW a b (i+1):=by
    simp only [BW]at*;split<;>omega
   have hc:=Q49 x y (bor BW a b i) hbl;rw [s1,s2]at hc;by_cases hB:i<(digs BW b).length
   ·have hB':((i:Int)<((digs BW b).length:Int))=True:=by simp;omega
    have hgb:=hgb hB;simp -implicitDefEqProofs only [go_sem,Nat.reduceAdd,Nat.reduceMul,Nat.reduceEqDiff,Nat.reduceLT,Nat.reduceLeDiff,Nat.reduceSub,Nat.reduceBEq,reduceIte,reduceCtorEq,Int.reduceEq,Int.reduceNe,Nat.reduceBneDiff,Int.reduceLE,Int.reduceLT,Int.reduceToNat,Int.reduceAdd,Int.reduceSub,Int.reduceMul,Int.reduceNeg,dw,List.length_map,hA',hB',h0,Qb8,hgE,wB,hgb,Int.toNat_natCast];refine Qag _ _ _ _ _ _ _ _ _ hc ?_;simp -implicitDefEqProofs only [go_sem,Nat.reduceAdd,Nat.reduceMul,Nat.reduceEqDiff,Nat.reduceLT,Nat.reduceLeDiff,Nat.reduceSub,Nat.reduceBEq,reduceIte,reduceCtorEq,Int.reduceEq,Int.reduceNe,Nat.reduceBneDiff,Int.reduceLE,Int.reduceLT,Int.reduceToNat,Int.reduceAdd,Int.reduceSub,Int.reduceMul,Int.reduceNeg,hA',h0,Int.toNat_natCast,hwk,hgo,List.length_map,hml];refine⟨⟨i+1,hA⟩,by simp only;omega,?_⟩;refine Qas (θ:=[(1000000,1000000),(102,102)]) rfl ?_ ?_
    ·simp [Qae,lkp,ren1,ren0,dw]
    ·rw [Qcv,hset];simp [Qar,lkp,Box.renames]
   ·have hB':((i:Int)<((digs BW b).length:Int))=False:=by simp;omega
    obtain rfl:=hy0 hB;simp -implicitDefEqProofs only [go_sem,Nat.reduceAdd,Nat.reduceMul,Nat.reduceEqDiff,Nat.reduceLT,Nat.reduceLeDiff,Nat.reduceSub,Nat.reduceBEq,reduceIte,reduceCtorEq,Int.reduceEq,Int.reduceNe,Nat.reduceBneDiff,Int.reduceLE,Int.reduceLT,Int.reduceToNat,Int.reduceAdd,Int.reduceSub,Int.reduceMul,Int.reduceNeg,dw,List.length_map,hA',hB',h0,Qb8,hgE,wB,Int.toNat_natCast];refine Qag _ _ _ _ _ _ _ _ _ hc ?_;simp -implicitDefEqProofs only [go_sem,Nat.reduceAdd,Nat.reduceMul,Nat.reduceEqDiff,Nat.reduceLT,Nat.reduceLeDiff,Nat.reduceSub,Nat.reduceBEq,reduceIte,reduceCtorEq,Int.reduceEq,Int.reduceNe,Nat.reduceBneDiff,Int.reduceLE,Int.reduceLT,Int.reduceToNat,Int.reduceAdd,Int.reduceSub,Int.reduceMul,Int.reduceNeg,hA',h0,Int.toNat_natCast,hwk,hgo,List.length_map,hml];refine⟨⟨i+1,hA⟩,by simp only;omega,?_⟩;refine Qas (θ:=[(1000000,1000000),(102,102)]) rfl ?_ ?_
    ·simp [Qae,lkp,ren1,ren0,dw]
    ·rw [Qcv,hset];simp [Qar,lkp,Box.renames]
  ·have hA':((i:Int)<(N:Int))=False:=by simp;omega
   obtain rfl:i=N:=by omega
   have hll:=Qai (B:=BW) (a-b) i;have hlt:a<BW^i:=by rw [←hN];exact Qbb BW_2 a
   have hm:mix BW (a-b) 0 i i=lows BW (a-b) i:=Qf9 (by decide) (by rw [Nat.div_eq_of_lt (Nat.lt_of_le_of_lt (Nat.sub_le _ _) hlt),Nat.zero_div]);have hq:Qe2 (((lows BW (a-b) i).drop 0).take i)=digs BW (a-b):=by
    rw [List.drop_zero,List.take_of_length_le (by rw [hll];exact Nat.le_refl _),Qb1 BW_2,Nat.mod_eq_of_lt (Nat.lt_of_le_of_lt (Nat.sub_le _ _) hlt)]
   have hc:=Qwx (lows BW (a-b) i) 0 i (by rw [hll];omega) (by rw [hll];simp [maxLen];omega);rw [hq]at hc;simp -implicitDefEqProofs only [go_sem,Nat.reduceAdd,Nat.reduceMul,Nat.reduceEqDiff,Nat.reduceLT,Nat.reduceLeDiff,Nat.reduceSub,Nat.reduceBEq,reduceIte,reduceCtorEq,Int.reduceEq,Int.reduceNe,Nat.reduceBneDiff,Int.reduceLE,Int.reduceLT,Int.reduceToNat,Int.reduceAdd,Int.reduceSub,Int.reduceMul,Int.reduceNeg,hA',wB,hm];refine Qb6 _ _ _ _ _ _ _ _ _ hc ?_;simp -implicitDefEqProofs only [go_sem,Nat.reduceAdd,Nat.reduceMul,Nat.reduceEqDiff,Nat.reduceLT,Nat.reduceLeDiff,Nat.reduceSub,Nat.reduceBEq,reduceIte,reduceCtorEq,Int.reduceEq,Int.reduceNe,Nat.reduceBneDiff,Int.reduceLE,Int.reduceLT,Int.reduceToNat,Int.reduceAdd,Int.reduceSub,Int.reduceMul,Int.reduceNeg,wB];refine Qct (.inl rfl) ?_;simp -implicitDefEqProofs only [go_sem,Nat.reduceAdd,Nat.reduceMul,Nat.reduceEqDiff,Nat.reduceLT,Nat.reduceLeDiff,Nat.reduceSub,Nat.reduceBEq,reduceIte,reduceCtorEq,Int.reduceEq,Int.reduceNe,Nat.reduceBneDiff,Int.reduceLE,Int.reduceLT,Int.reduceToNat,Int.reduceAdd,Int.reduceSub,Int.reduceMul,Int.reduceNeg];refine Qas (θ:=[(1000000,1000000),(102,102)]) rfl ?_ ?_
   ·simp [Qae,lkp,ren1,ren0]
   ·simp [Qar,lkp,Box.renames]
end Go.Proofs.YtobaaecbdlhpdaaGreat

namespace Go.Proofs.YtobaaecbdlhpdaaGreat
open Go.Vl Go.RowKit Go.Dg
attribute [local go_sem high] Zdd
theorem Ze8 (n:Nat):Int.tdiv (n:Int) 64=((n/64:Nat):Int):=Qur n 64
theorem Ze9 (n:Nat):Int.tmod (n:Int) 64=((n%64:Nat):Int):=Zol n 64
theorem Zfa (a k:Nat) (ha:(digs BW a).length≤1000000000) (hk:k≤1000000000):Qaf Tryz.prog 104 [dw (digs BW a),.int .i64 (k:Int)] (dw (digs BW (a*2^k))):=by
 refine Qac (tb:=[]) 56 [.tmp 4] [0,1,4,5,6,7,8,9,12,23,24,25,26,42] mixed Tryz.func104 rfl (by kernel_rfl) (by kernel_rfl) (by kernel_rfl) (by kernel_rfl) ?_;by_cases h0:a=0
 ·subst h0;have h1:(((0:Nat):Int)==0)=true:=rfl;rw [Nat.zero_mul,Qbd];simp -implicitDefEqProofs only [go_sem,Nat.reduceAdd,Nat.reduceMul,Nat.reduceEqDiff,Nat.reduceLT,Nat.reduceLeDiff,Nat.reduceSub,Nat.reduceBEq,reduceIte,reduceCtorEq,Int.reduceEq,Int.reduceNe,Nat.reduceBneDiff,Int.reduceLE,Int.reduceLT,Int.reduceToNat,Int.reduceAdd,Int.reduceSub,Int.reduceMul,Int.reduceNeg,dw,List.map_nil,List.length_nil,h1]
 have hp:0<(digs BW a).length:=List.length_pos_iff.2 (mt (Qbi BW_2).1 h0);have h1:(((digs BW a).length:Int)==0)=false:=by simp only [beq_eq_false_iff_ne,ne_eq];omega
 have hlt:a<BW^(digs BW a).length:=Qbb BW_2 a;obtain⟨W,hW⟩: ∃W,W=k/64:=⟨_,rfl⟩;obtain⟨r,hr⟩: ∃r,r=k%64:=⟨_,rfl⟩;have hr64:r<64:=by rw [hr];exact Nat.mod_lt _ (by decide)
 have hkr:k=64*W+r:=by omega
 have d1:Int.tdiv (k:Int) 64=(W:Int):=by rw [Ze8,hW]
 have d2:Int.tmod (k:Int) 64=(r:Int):=by rw [Ze9,hr]
 have hWl:W≤1000000000:=by omega
 clear hW hr;generalize hN:(digs BW a).length=N at*;have q1:=wrapn (n:=W) (by omega);have q2:=Qg5 (a:=N) (b:=W) (by omega);have q3:=Qak (a:=N+W) (by omega);have hn0:((0:Int)≤((N+W+1:Nat):Int))=True:=by simp only [eq_iff_iff,iff_true];omega
 have hn1:((8:Nat):Int)*((N+W+1:Nat):Int)≤281474976710656:=by omega
 have hn2:((N+W+1:Nat):Int)≤9223372036854775807:=by omega
 simp -implicitDefEqProofs only [go_sem,Nat.reduceAdd,Nat.reduceMul,Nat.reduceEqDiff,Nat.reduceLT,Nat.reduceLeDiff,Nat.reduceSub,Nat.reduceBEq,reduceIte,reduceCtorEq,Int.reduceEq,Int.reduceNe,Nat.reduceBneDiff,Int.reduceLE,Int.reduceLT,Int.reduceToNat,Int.reduceAdd,Int.reduceSub,Int.reduceMul,Int.reduceNeg,dw,List.length_map,hN,h1,d1,d2,q1,q2,q3,hn0,hn1,hn2,Int.toNat_natCast];have hrep:List.replicate (N+W+1) (PV.int .u64 0)=(lows BW (shlV a W r 0) (N+W+1)).map fW:=by rw [Q02,Qea];simp
 rw [hrep];have k1:(((r:Nat):Int)<0)=False:=by simp only [eq_iff_iff,iff_false];omega
 have k2:min r 64=r:=by omega
 have k3:IntKind.i64.wrap (64-((r:Nat):Int))=((64-r:Nat):Int):=by rw [Qah (by omega) (by omega)];omega
 have k4:((((64-r:Nat):Nat):Int)<0)=False:=by simp only [eq_iff_iff,iff_false];omega
 have k5:min (64-r) 64=64-r:=by omega
 refine Qa4 mixed (fun i:{i:Nat // i≤N}=>St.of [(4,.nilS),(5,.int .i64 (W:Int)),(6,.int .i64 (r:Int)),(7,.bs 405 1 0 (N+W+1)),(23,dw (digs BW a)),(24,.int .i64 (N:Int)),(25,.int .i64 (i.1:Int))]
  [(405,{els:=(lows BW (shlV a W r i.1) (N+W+1)).map fW,esz:=1,ety:=82,fro:=0,live:=true,arr:=true})]) (fun i=>N-i.1) ⟨0,Nat.zero_le _⟩ ?_ ?_
 ·refine Qas (θ:=[(405,405)]) rfl ?_ ?_
  ·simp [Qae,lkp,ren1,ren0,dw]
  ·simp [Qar,lkp,Box.renames]
 ·rintro⟨i,hi⟩;have hll:=Qai (B:=BW) (shlV a W r i) (N+W+1);by_cases hA:i<N
  ·have hA':((i:Int)<(N:Int))=True:=by simp;omega
   have hi0:(0≤(i:Int))=True:=by simp
   have hga:=Qav BW_2 (show i<(digs BW a).length by omega);have hwk:=Qak (a:=i) (by omega);have w1:=Qg5 (a:=i) (b:=W) (by omega);have w2:=Qak (a:=i+W) (by omega);have b1:(0≤((i+W:Nat):Int))=True:=by simp only [eq_iff_iff,iff_true];omega
   have b2:(((i+W:Nat):Int)<((N+W+1:Nat):Int))=True:=by simp only [eq_iff_iff,iff_true];omega
   have b3:(0≤((i+W+1:Nat):Int))=True:=by simp only [eq_iff_iff,iff_true];omega
   have b4:(((i+W+1:Nat):Int)<((N+W+1:Nat):Int))=True:=by simp only [eq_iff_iff,iff_true];omega
   have hgo:((lows BW (shlV a W r i) (N+W+1)).map fW)[i+W]? =some (PV.int .u64 ((shlC a r i:Nat):Int)):=by
    rw [List.getElem?_map,Qbq _ _ _ (by omega),Qx1 a W r i (by omega)];rfl
   have hc2:shlC a r i%18446744073709551616=shlC a r i:=Nat.mod_eq_of_lt (Nat.lt_of_lt_of_le (Qln a r i) (show 2^r≤18446744073709551616 from Nat.pow_le_pow_right (n:=2) (by decide) (show r≤64 by omega)));by_cases hr0:r=0
   ·subst hr0;have g0:((0:Int)<(((0:Nat):Nat):Int))=False:=by simp
    have hset:=Q7o a W i (N+W+1) (by omega);have hc0:shlC a 0 i=0:=by have:=Qln a 0 i;simp at this;exact this
    have hval:(0 ||| a/BW^i%BW*2^0%18446744073709551616)=a/BW^i%BW:=by
     rw [Nat.zero_or,Nat.pow_zero,Nat.mul_one,show(18446744073709551616:Nat)=BW from rfl,Nat.mod_mod]
    simp -implicitDefEqProofs only [go_sem,Nat.reduceAdd,Nat.reduceMul,Nat.reduceEqDiff,Nat.reduceLT,Nat.reduceLeDiff,Nat.reduceSub,Nat.reduceBEq,reduceIte,reduceCtorEq,Int.reduceEq,Int.reduceNe,Nat.reduceBneDiff,Int.reduceLE,Int.reduceLT,Int.reduceToNat,Int.reduceAdd,Int.reduceSub,Int.reduceMul,Int.reduceNeg,dw,hA',hi0,Qb8,hga,Int.toNat_natCast,w1,w2,b1,b2,hgo,k1,k2,g0,List.length_map,hll,hc0,Qmh,hwk,Nat.mod_mod,Nat.zero_mod];refine⟨Qaa _ _ (by kernel_rfl),⟨i+1,hA⟩,by simp only;omega,Qas (θ:=[(405,405)]) rfl ?_ ?_⟩
    ·simp [Qae,lkp,ren1,ren0,dw]
    ·rw [hval,Qcv,hset];simp [Qar,lkp,Box.renames]
   ·have g0:((0:Int)<((r:Nat):Int))=True:=by simp only [eq_iff_iff,iff_true];omega
    have hset:=Q7p a W r i (N+W+1) (by omega) (by omega);obtain⟨e,hgo2⟩: ∃e:Nat,(((lows BW (shlV a W r i) (N+W+1)).map fW).set (i+W) (.int .u64 ((shlC a r i ||| (a/BW^i%BW*2^r%18446744073709551616):Nat):Int)))[i+W+1]? =some (PV.int .u64 (e:Int)):=by
     rw [Qcv,List.getElem?_map];refine⟨_,by rw [List.getElem?_set_ne (by omega),Qbq _ _ _ (by omega)];rfl⟩
    simp -implicitDefEqProofs only [go_sem,Nat.reduceAdd,Nat.reduceMul,Nat.reduceEqDiff,Nat.reduceLT,Nat.reduceLeDiff,Nat.reduceSub,Nat.reduceBEq,reduceIte,reduceCtorEq,Int.reduceEq,Int.reduceNe,Nat.reduceBneDiff,Int.reduceLE,Int.reduceLT,Int.reduceToNat,Int.reduceAdd,Int.reduceSub,Int.reduceMul,Int.reduceNeg,dw,hA',hi0,Qb8,hga,Int.toNat_natCast,w1,w2,b1,b2,b3,b4,hgo,k1,k2,k3,k4,k5,g0,List.length_map,hll,hc2,Qmh,Qir,hwk,List.length_set,hgo2,Nat.mod_mod];refine⟨Qaa _ _ (by kernel_rfl),⟨i+1,hA⟩,by simp only;omega,Qas (θ:=[(405,405)]) rfl ?_ ?_⟩
    ·simp [Qae,lkp,ren1,ren0,dw]
    ·rw [Qcv,Qcv,hset];simp [Qar,lkp,Box.renames]
  ·have hA':((i:Int)<(N:Int))=False:=by simp;omega
   obtain rfl:i=N:=by omega
   have hV:=Q03 a W r i hlt;rw [←hkr]at hV;rw [hV]at hll;have htk:((lows BW (a*2^k) (i+W+1)).map fW).take (i+W+1)=(lows BW (a*2^k) (i+W+1)).map fW:=List.take_of_length_le (by simp [hll]);simp -implicitDefEqProofs only [go_sem,Nat.reduceAdd,Nat.reduceMul,Nat.reduceEqDiff,Nat.reduceLT,Nat.reduceLeDiff,Nat.reduceSub,Nat.reduceBEq,reduceIte,reduceCtorEq,Int.reduceEq,Int.reduceNe,Nat.reduceBneDiff,Int.reduceLE,Int.reduceLT,Int.reduceToNat,Int.reduceAdd,Int.reduceSub,Int.reduceMul,Int.reduceNeg,hA',hV,List.length_map,hll,htk];refine Qag _ _ _ _ _ _ _ _ _ (Qc8 (lows BW (a*2^k) (i+W+1)) (by rw [hll];simp [maxLen];omega)) ?_;simp -implicitDefEqProofs only [go_sem,Nat.reduceAdd,Nat.reduceMul,Nat.reduceEqDiff,Nat.reduceLT,Nat.reduceLeDiff,Nat.reduceSub,Nat.reduceBEq,reduceIte,reduceCtorEq,Int.reduceEq,Int.reduceNe,Nat.reduceBneDiff,Int.reduceLE,Int.reduceLT,Int.reduceToNat,Int.reduceAdd,Int.reduceSub,Int.reduceMul,Int.reduceNeg,dw];rw [Qb1 BW_2,Nat.mod_eq_of_lt];rw [Nat.add_assoc,Nat.pow_add];have h2:2^k<BW^(W+1):=by
    rw [show BW=2^64 from rfl,←Nat.pow_mul];exact Nat.pow_lt_pow_right (by decide) (by omega)
   exact Nat.lt_of_lt_of_le (Nat.mul_lt_mul_of_pos_right hlt (Nat.pow_pos (by decide))) (Nat.mul_le_mul_left _ (Nat.le_of_lt h2))
end Go.Proofs.YtobaaecbdlhpdaaGreat

namespace Go.Proofs.YtobaaecbdlhpdaaGreat
open Go.Vl Go.RowKit Go.Dg
theorem Zqr (l:List Nat):((l.map fW).all fun e=>e.cells.length==1&&e.cells.all PV.okCell)=true:=by
 rw [List.all_map,List.all_eq_true];intro _ _;rfl
theorem Zc9 (l:List Nat) (hl:0<l.length) (hl2:l.length≤1000000000):Qdt Tryz.prog 108 [dw l] [] (.bs 302 1 0 l.length) [(302,wB l)]:=by
 have h0:l.isEmpty=false:=by cases l with|nil=>simp at hl|cons=>rfl
 have h1:(l.length*8≤140737488355328)=True:=by simp only [eq_iff_iff,iff_true];omega
 have h2:(l.length≤maxLen)=True:=by simp only [eq_iff_iff,iff_true];unfold maxLen;omega
 refine Qdv (tb:=[]) 8 [.tmp 2] [0,2,4] mixed Tryz.func108 rfl (by kernel_rfl) (by kernel_rfl) (by kernel_rfl) (by kernel_rfl) (by rfl) ?_;simp -implicitDefEqProofs only [go_sem,Nat.reduceAdd,Nat.reduceMul,Nat.reduceEqDiff,Nat.reduceLT,Nat.reduceLeDiff,Nat.reduceSub,Nat.reduceBEq,reduceIte,reduceCtorEq,Int.reduceEq,Int.reduceNe,Nat.reduceBneDiff,Int.reduceLE,Int.reduceLT,Int.reduceToNat,Int.reduceAdd,Int.reduceSub,Int.reduceMul,Int.reduceNeg,dw,h0,List.length_map,h1,h2,Zqr];refine Qct (.inl rfl) ?_;simp -implicitDefEqProofs only [go_sem,Nat.reduceAdd,Nat.reduceMul,Nat.reduceEqDiff,Nat.reduceLT,Nat.reduceLeDiff,Nat.reduceSub,Nat.reduceBEq,reduceIte,reduceCtorEq,Int.reduceEq,Int.reduceNe,Nat.reduceBneDiff,Int.reduceLE,Int.reduceLT,Int.reduceToNat,Int.reduceAdd,Int.reduceSub,Int.reduceMul,Int.reduceNeg,List.length_map];refine Qas (θ:=[(302,302)]) rfl ?_ ?_
 ·simp [Qae,lkp,ren1,ren0]
 ·simp [Qar,lkp,Box.renames]
attribute [local go_sem high] Zdd
theorem Zoo (a k:Nat) (ha:(digs BW a).length≤1000000000) (hk:k≤1000000000):Qaf Tryz.prog 107 [dw (digs BW a),.int .i64 (k:Int)] (dw (digs BW (a/2^k))):=by
 have hlt:a<BW^(digs BW a).length:=Qbb BW_2 a;obtain⟨W,hW⟩: ∃W,W=k/64:=⟨_,rfl⟩;obtain⟨r,hr⟩: ∃r,r=k%64:=⟨_,rfl⟩;have hr64:r<64:=by rw [hr];exact Nat.mod_lt _ (by decide)
 have hkr:k=64*W+r:=by omega
 have d1:Int.tdiv (k:Int) 64=(W:Int):=by rw [Ze8,hW]
 have d2:Int.tmod (k:Int) 64=(r:Int):=by rw [Ze9,hr]
 have hWl:W≤1000000000:=by omega
 clear hW hr;have q1:=wrapn (n:=W) (by omega);have hpk:2^k=BW^W*2^r:=by rw [hkr,Nat.pow_add,Nat.pow_mul]
 have hq:a/2^k=a/BW^W/2^r:=by rw [hpk,Nat.div_div_eq_div_mul]

 refine Qac (tb:=[(403,[],[(302,403)])]) 59 [.tmp 4] [0,1,4,5,6,7,8,16,22,24,25,26,39] mixed Tryz.func107 rfl (by kernel_rfl) (by kernel_rfl) (by kernel_rfl) (by kernel_rfl) ?_;by_cases hN:(digs BW a).length≤W
 ·have g1:(((digs BW a).length:Int)≤(W:Int))=True:=by simp only [eq_iff_iff,iff_true];omega
  have e:digs BW (a/2^k)=[]:=by
   rw [hq,Qcd BW_2 hN,Nat.zero_div,Qbd]
  rw [e];simp -implicitDefEqProofs only [go_sem,Nat.reduceAdd,Nat.reduceMul,Nat.reduceEqDiff,Nat.reduceLT,Nat.reduceLeDiff,Nat.reduceSub,Nat.reduceBEq,reduceIte,reduceCtorEq,Int.reduceEq,Int.reduceNe,Nat.reduceBneDiff,Int.reduceLE,Int.reduceLT,Int.reduceToNat,Int.reduceAdd,Int.reduceSub,Int.reduceMul,Int.reduceNeg,dw,List.length_map,d1,d2,q1,g1,List.map_nil]
 have g1:(((digs BW a).length:Int)≤(W:Int))=False:=by simp only [eq_iff_iff,iff_false];omega
 have hA0: ∀j,a/BW^(W+j)=a/BW^W/BW^j:=fun j=>by rw [Nat.pow_add,Nat.div_div_eq_div_mul]
 have hn0:(0≤(W:Int))=True:=by simp
 have hn1:((W:Int)≤((digs BW a).length:Int))=True:=by simp only [eq_iff_iff,iff_true];omega
 have hsl:(((digs BW a).map fW).take (digs BW a).length).drop W=(lows BW (a/BW^W) ((digs BW a).length-W)).map fW:=by
  rw [List.take_of_length_le (by simp),←List.map_drop];congr 1;apply List.ext_getElem?;intro j;rw [List.getElem?_drop];by_cases hj:W+j<(digs BW a).length
  ·rw [Qav BW_2 hj,Qbq _ _ _ (by omega),hA0]
  ·rw [List.getElem?_eq_none (by omega),List.getElem?_eq_none (by rw [Qai];omega)]
 have hcell:=Zfb (digs BW a);have hAlt:a/BW^W<BW^((digs BW a).length-W):=by
  refine Nat.div_lt_of_lt_mul ?_;rw [←Nat.pow_add,show W+((digs BW a).length-W)=(digs BW a).length by omega];exact hlt
 have hll:=Qai (B:=BW) (a/BW^W) ((digs BW a).length-W);simp -implicitDefEqProofs only [go_sem,Nat.reduceAdd,Nat.reduceMul,Nat.reduceEqDiff,Nat.reduceLT,Nat.reduceLeDiff,Nat.reduceSub,Nat.reduceBEq,reduceIte,reduceCtorEq,Int.reduceEq,Int.reduceNe,Nat.reduceBneDiff,Int.reduceLE,Int.reduceLT,Int.reduceToNat,Int.reduceAdd,Int.reduceSub,Int.reduceMul,Int.reduceNeg,dw,List.length_map,d1,d2,q1,g1,hn0,hn1,Int.toNat_natCast,hsl,hcell];refine Qb6 _ _ _ _ _ _ _ _ _ (Zc9 (lows BW (a/BW^W) ((digs BW a).length-W)) (by rw [hll];omega) (by rw [hll];omega)) ?_;rw [hll];by_cases hr0:r=0
 ·subst hr0;have g0:((0:Int)<(((0:Nat):Nat):Int))=False:=by simp
  have htk:((lows BW (a/BW^W) ((digs BW a).length-W)).map fW).take ((digs BW a).length-W)=(lows BW (a/BW^W) ((digs BW a).length-W)).map fW:=List.take_of_length_le (by simp [hll]);simp -implicitDefEqProofs only [go_sem,Nat.reduceAdd,Nat.reduceMul,Nat.reduceEqDiff,Nat.reduceLT,Nat.reduceLeDiff,Nat.reduceSub,Nat.reduceBEq,reduceIte,reduceCtorEq,Int.reduceEq,Int.reduceNe,Nat.reduceBneDiff,Int.reduceLE,Int.reduceLT,Int.reduceToNat,Int.reduceAdd,Int.reduceSub,Int.reduceMul,Int.reduceNeg,wB,g0,List.length_map,hll,htk];refine Qag _ _ _ _ _ _ _ _ _ (Qc8 (lows BW (a/BW^W) ((digs BW a).length-W)) (by rw [hll];simp [maxLen];omega)) ?_;simp -implicitDefEqProofs only [go_sem,Nat.reduceAdd,Nat.reduceMul,Nat.reduceEqDiff,Nat.reduceLT,Nat.reduceLeDiff,Nat.reduceSub,Nat.reduceBEq,reduceIte,reduceCtorEq,Int.reduceEq,Int.reduceNe,Nat.reduceBneDiff,Int.reduceLE,Int.reduceLT,Int.reduceToNat,Int.reduceAdd,Int.reduceSub,Int.reduceMul,Int.reduceNeg,dw];rw [Qb1 BW_2,Nat.mod_eq_of_lt hAlt,hq,Nat.pow_zero,Nat.div_one]
 ·have g0:((0:Int)<((r:Nat):Int))=True:=by simp only [eq_iff_iff,iff_true];omega
  simp -implicitDefEqProofs only [go_sem,Nat.reduceAdd,Nat.reduceMul,Nat.reduceEqDiff,Nat.reduceLT,Nat.reduceLeDiff,Nat.reduceSub,Nat.reduceBEq,reduceIte,reduceCtorEq,Int.reduceEq,Int.reduceNe,Nat.reduceBneDiff,Int.reduceLE,Int.reduceLT,Int.reduceToNat,Int.reduceAdd,Int.reduceSub,Int.reduceMul,Int.reduceNeg,wB,g0];have hdig:=fun(j:Nat) (h:W+j<(digs BW a).length)=>Qav (n:=a) BW_2 h;generalize hn:(digs BW a).length-W=n at*;have hNn:(digs BW a).length=W+n:=by omega
  have k1:(((r:Nat):Int)<0)=False:=by simp only [eq_iff_iff,iff_false];omega
  have k2:min r 64=r:=by omega
  have k3:IntKind.i64.wrap (64-((r:Nat):Int))=((64-r:Nat):Int):=by rw [Qah (by omega) (by omega)];omega
  have k4:((((64-r:Nat):Nat):Int)<0)=False:=by simp only [eq_iff_iff,iff_false];omega
  have k5:min (64-r) 64=64-r:=by omega
  rw [hq];generalize hAA:a/BW^W=A at*;refine Qa4 mixed (fun i:{i:Nat // i≤n}=>St.of [(0,dw (digs BW a)),(4,.nilS),(5,.int .i64 (W:Int)),(6,.int .i64 (r:Int)),(7,.bs 403 1 0 n),(24,.int .i64 (n:Int)),(25,.int .i64 (i.1:Int))]
   [(403,wB (mix BW (A/2^r) A n i.1))]) (fun i=>n-i.1) ⟨0,Nat.zero_le _⟩ ?_ ?_
  ·refine Qas (θ:=[(403,403)]) rfl ?_ ?_
   ·simp [Qae,lkp,ren1,ren0,dw]
   ·simp [Qar,lkp,Box.renames,Qk4]
  ·rintro⟨i,hi⟩;have hml:=Qbj (B:=BW) (A/2^r) A n i;by_cases hA:i<n
   ·have hA':((i:Int)<(n:Int))=True:=by simp;omega
    have hi0:(0≤(i:Int))=True:=by simp
    have hwk:=Qak (a:=i) (by omega);have hgo:((mix BW (A/2^r) A n i).map fW)[i]? =some (PV.int .u64 ((A/BW^i%BW:Nat):Int)):=by
     rw [List.getElem?_map,Qdc _ _ _ _ _ hA,if_neg (Nat.lt_irrefl _)];rfl
    by_cases hB:i+1<n
    ·have hB':(((i+1:Nat):Int)<(n:Int))=True:=by simp only [eq_iff_iff,iff_true];omega
     have hsd:=Q06 A i r (by omega) hr64;have hset:=Qed (B:=BW) (V:=A/2^r) (W:=A/2^r) (S:=A) (n:=n) (m:=i) (by decide) hA rfl rfl;have hga:(digs BW a)[W+i+1]? =some (A/BW^(i+1)%BW):=by
      have h:=hdig (i+1) (by omega);rw [hA0 (i+1)]at h;exact h
     have w1:=Qg5 (a:=W) (b:=i) (by omega);have w2:=Qak (a:=W+i) (by omega);have b1:(0≤((W+i+1:Nat):Int))=True:=by simp only [eq_iff_iff,iff_true];omega
     have hgo2:(((mix BW (A/2^r) A n i).map fW).set i (.int .u64 ((A/BW^i%BW/2^r:Nat):Int)))[i]? =some (PV.int .u64 ((A/BW^i%BW/2^r:Nat):Int)):=by
      rw [List.getElem?_set_self (by rw [List.length_map,hml];exact hA)]
     have e1:A/BW^i%BW/2^r%18446744073709551616=A/BW^i%BW/2^r:=Nat.mod_eq_of_lt (Nat.lt_of_le_of_lt (Nat.div_le_self _ _) (Nat.mod_lt _ (by decide)));simp -implicitDefEqProofs only [go_sem,Nat.reduceAdd,Nat.reduceMul,Nat.reduceEqDiff,Nat.reduceLT,Nat.reduceLeDiff,Nat.reduceSub,Nat.reduceBEq,reduceIte,reduceCtorEq,Int.reduceEq,Int.reduceNe,Nat.reduceBneDiff,Int.reduceLE,Int.reduceLT,Int.reduceToNat,Int.reduceAdd,Int.reduceSub,Int.reduceMul,Int.reduceNeg,wB,dw,hA',hi0,Int.toNat_natCast,List.length_map,hml,hgo,k1,k2,Qir,hwk,hB',List.length_set,hgo2,w1,w2,b1,Qb8,hga,k3,k4,k5,Qmh,Nat.mod_mod,e1,List.set_set];refine⟨Qaa _ _ (by kernel_rfl),⟨i+1,hA⟩,by simp only;omega,Qas (θ:=[(403,403)]) rfl ?_ ?_⟩
     ·simp [Qae,lkp,ren1,ren0,dw]
     ·simp only [WB]at hsd;rw [Qcv,hsd,hset];simp [Qar,lkp,Box.renames]
    ·have hB':(((i+1:Nat):Int)<(n:Int))=False:=by simp only [eq_iff_iff,iff_false];omega
     have hsd:=Zfo A i r (by rw [show i+1=n by omega];exact Nat.div_eq_of_lt hAlt);have hset:=Qed (B:=BW) (V:=A/2^r) (W:=A/2^r) (S:=A) (n:=n) (m:=i) (by decide) hA rfl rfl;simp -implicitDefEqProofs only [go_sem,Nat.reduceAdd,Nat.reduceMul,Nat.reduceEqDiff,Nat.reduceLT,Nat.reduceLeDiff,Nat.reduceSub,Nat.reduceBEq,reduceIte,reduceCtorEq,Int.reduceEq,Int.reduceNe,Nat.reduceBneDiff,Int.reduceLE,Int.reduceLT,Int.reduceToNat,Int.reduceAdd,Int.reduceSub,Int.reduceMul,Int.reduceNeg,wB,dw,hA',hi0,Int.toNat_natCast,List.length_map,hml,hgo,k1,k2,Qir,hwk,hB',List.length_set];refine⟨⟨i+1,hA⟩,by simp only;omega,Qas (θ:=[(403,403)]) rfl ?_ ?_⟩
     ·simp [Qae,lkp,ren1,ren0,dw]
     ·simp only [WB]at hsd;rw [Qcv,hsd,hset];simp [Qar,lkp,Box.renames]
   ·have hA':((i:Int)<(n:Int))=False:=by simp;omega
    obtain rfl:i=n:=by omega
    have hm:mix BW (A/2^r) A i i=lows BW (A/2^r) i:=Qo6 _ _ _ _;have hl2:=Qai (B:=BW) (A/2^r) i;have htk:((lows BW (A/2^r) i).map fW).take i=(lows BW (A/2^r) i).map fW:=List.take_of_length_le (by simp [hl2]);simp -implicitDefEqProofs only [go_sem,Nat.reduceAdd,Nat.reduceMul,Nat.reduceEqDiff,Nat.reduceLT,Nat.reduceLeDiff,Nat.reduceSub,Nat.reduceBEq,reduceIte,reduceCtorEq,Int.reduceEq,Int.reduceNe,Nat.reduceBneDiff,Int.reduceLE,Int.reduceLT,Int.reduceToNat,Int.reduceAdd,Int.reduceSub,Int.reduceMul,Int.reduceNeg,wB,hA',hm,List.length_map,hl2,htk];refine Qag _ _ _ _ _ _ _ _ _ (Qc8 (lows BW (A/2^r) i) (by rw [hl2];simp [maxLen];omega)) ?_;simp -implicitDefEqProofs only [go_sem,Nat.reduceAdd,Nat.reduceMul,Nat.reduceEqDiff,Nat.reduceLT,Nat.reduceLeDiff,Nat.reduceSub,Nat.reduceBEq,reduceIte,reduceCtorEq,Int.reduceEq,Int.reduceNe,Nat.reduceBneDiff,Int.reduceLE,Int.reduceLT,Int.reduceToNat,Int.reduceAdd,Int.reduceSub,Int.reduceMul,Int.reduceNeg,dw];rw [Qb1 BW_2,Nat.mod_eq_of_lt (Nat.lt_of_le_of_lt (Nat.div_le_self _ _) hAlt)]
end Go.Proofs.YtobaaecbdlhpdaaGreat

namespace Go.Vl
open Go.RowKit
variable {P:Program} {tb:Tab} {nt:Nat} {ks:List Nat} {ops:Array Oper} {base i:Nat} {rest:List Oper} {accs:List Acc} {draw:Bool} {k:List It} {Q:Exit→St→Prop} {st:St}
theorem Qab {dst:Option Tmp} {f f':FuncId} {args args':List PV} {es:List Eff} {l:Acc} {r:PV} (hs:Qaf P f' args' r) (hf:f'=f) (ha:args'=args)
  (h:gops P tb nt ks ops base (i+1) rest (l::accs) draw k Q ((Qaj (if Qf1 r then []else es) st).put dst r)):gcall P tb nt ks f args es l ops base i dst rest accs draw k Q st:=by
 subst hf;subst ha;exact⟨r,hs,h⟩
end Go.Vl

namespace Go.Proofs.YtobaaecbdlhpdaaGreat
open Go.Vl Go.RowKit Go.Dg
theorem Qip {d:Nat} (h:d<BW):Qe2 [d]=digs BW d:=by
 rw [Qo8 BW_2 [d] (by simpa using h)];simp [val]
theorem Qzm {m:Nat} (h:m<18446744073709551616):blen m≤64:=Qdb 64 m h
theorem Qg9 (n:Int):IntKind.u64.wrap n=n%18446744073709551616:=by simp [IntKind.wrap,IntKind.bits,IntKind.signed]
theorem Qez (n:Int) (h1: -9223372036854775808≤n) (h2:n≤9223372036854775807):Qaf Tryz.prog 26 [.int .i64 n] (wPV n):=by
 obtain⟨m,hm⟩: ∃m:Nat,m=n.natAbs:=⟨_,rfl⟩;have hml:m<18446744073709551616:=by omega
 have ht:=Qc8 [m] (by simp [maxLen]);rw [Qip hml]at ht;have hL:(digs BW m).length≤1000000:=Nat.le_trans ((Qau BW_2 m 1).2 (by simpa using hml)) (by decide);have hw:=fun neg=>Qjk neg m hL;have hb:blen n.natAbs≤64:=by rw [←hm];exact Qzm hml
 by_cases hn:n<0
 ·have hn':(n<0)=True:=by simp [hn]
  have e1:IntKind.u64.wrap n=((18446744073709551616-m:Nat):Int):=by rw [Qg9];omega
  have e2:IntKind.u64.wrap (0-((18446744073709551616-m:Nat):Int))=(m:Int):=by rw [Qg9];omega
  have hw1:=hw true;have e3:sv true m=n:=by simp [sv];omega
  rw [e3,Qhy,if_neg (by omega)]at hw1;refine Qac (tb:=[]) 23 [.cell 2 66] [0,2,3,4,9] mixed Tryz.func26 rfl (by kernel_rfl) (by kernel_rfl) (by kernel_rfl) (by kernel_rfl) ?_;repeat (first|(simp -implicitDefEqProofs only [go_sem,Nat.reduceAdd,Nat.reduceMul,Nat.reduceEqDiff,Nat.reduceLT,Nat.reduceLeDiff,Nat.reduceSub,Nat.reduceBEq,reduceIte,reduceCtorEq,Int.reduceEq,Int.reduceNe,Nat.reduceBneDiff,Int.reduceLE,Int.reduceLT,Int.reduceToNat,Int.reduceAdd,Int.reduceSub,Int.reduceMul,Int.reduceNeg,hn',e1,e2,nP,dw,wPV,List.map_cons,List.map_nil])|((with_reducible refine Qab ht ?_ ?_ ?_);rfl;rfl)|((with_reducible refine Qab hw1 ?_ ?_ ?_);rfl;rfl))
 ·have hn':(n<0)=False:=by simp [hn]
  have e1:IntKind.u64.wrap n=(m:Int):=by rw [Qg9];omega
  have hw1:=hw false;have e3:sv false m=n:=by simp [sv];omega
  rw [e3,Qhy,if_neg (by omega)]at hw1;refine Qac (tb:=[]) 23 [.cell 2 66] [0,2,3,4,9] mixed Tryz.func26 rfl (by kernel_rfl) (by kernel_rfl) (by kernel_rfl) (by kernel_rfl) ?_;repeat (first|(simp -implicitDefEqProofs only [go_sem,Nat.reduceAdd,Nat.reduceMul,Nat.reduceEqDiff,Nat.reduceLT,Nat.reduceLeDiff,Nat.reduceSub,Nat.reduceBEq,reduceIte,reduceCtorEq,Int.reduceEq,Int.reduceNe,Nat.reduceBneDiff,Int.reduceLE,Int.reduceLT,Int.reduceToNat,Int.reduceAdd,Int.reduceSub,Int.reduceMul,Int.reduceNeg,hn',e1,nP,dw,wPV,List.map_cons,List.map_nil])|((with_reducible refine Qab ht ?_ ?_ ?_);rfl;rfl)|((with_reducible refine Qab hw1 ?_ ?_ ?_);rfl;rfl))
def Qdh (n:Int):PV:=if -9223372036854775808≤n∧n≤9223372036854775807 then .tup [.int .i64 n,.int .i64 0]else .tup [.int .i64 0,.int .i64 3]
theorem Zom (neg:Bool) (s:ByteArray) (h:Qbe neg s.data.toList=true) (hs:s.size≤100000):Qaf Tryz.prog 28 [.agg [.bool neg,.str s]] (Qdh (wnum neg s)):=by
 have hv:=Qfi neg s;rw [h]at hv;have ho:=Qnj neg s h (by omega);have hL:=Qf0 s hs;unfold wnum;generalize bnum s.data.toList=m at*;by_cases h0:m=0
 ·subst h0;have e:Qdh (sv neg 0)= .tup [.int .i64 0,.int .i64 0]:=by cases neg<;>rfl
  have h1:(((0:Nat):Int)==0)=true:=rfl;rw [e];refine Qac (tb:=[]) 53 [.tmp 2,.tmp 3] [0,1,2,3,4,7,10,15,39] mixed Tryz.func28 rfl (by kernel_rfl) (by kernel_rfl) (by kernel_rfl) (by kernel_rfl) ?_;repeat (first|(simp -implicitDefEqProofs only [go_sem,Nat.reduceAdd,Nat.reduceMul,Nat.reduceEqDiff,Nat.reduceLT,Nat.reduceLeDiff,Nat.reduceSub,Nat.reduceBEq,reduceIte,reduceCtorEq,Int.reduceEq,Int.reduceNe,Nat.reduceBneDiff,Int.reduceLE,Int.reduceLT,Int.reduceToNat,Int.reduceAdd,Int.reduceSub,Int.reduceMul,Int.reduceNeg,nP,dw,Qbd,List.map_nil,List.length_nil,h1])|((with_reducible refine Qab hv ?_ ?_ ?_);rfl;rfl)|((with_reducible refine Qab ho ?_ ?_ ?_);rfl;rfl))
 ·have hp:0<(digs BW m).length:=List.length_pos_iff.2 (mt (Qbi BW_2).1 h0);have h1:(((digs BW m).length:Int)==0)=false:=by simp only [beq_eq_false_iff_ne,ne_eq];omega
  have hlen:=Qau BW_2 m 1;rw [Nat.pow_one]at hlen;have hg:=Qav BW_2 hp;rw [Nat.pow_zero,Nat.div_one]at hg;by_cases hl:m<BW
  ·have hl1:((1:Int)<((digs BW m).length:Int))=False:=by have:=hlen.2 hl;simp only [eq_iff_iff,iff_false];omega
   rw [Nat.mod_eq_of_lt hl]at hg;simp only [BW]at hl;cases neg with
   |false=>
    by_cases hbig:9223372036854775808≤m
    ·have g1:((9223372036854775808:Int)≤(m:Int))=True:=by simp only [eq_iff_iff,iff_true];omega
     have e:Qdh (sv false m)= .tup [.int .i64 0,.int .i64 3]:=by rw [Qdh,if_neg];simp [sv];omega
     rw [e];refine Qac (tb:=[]) 53 [.tmp 2,.tmp 3] [0,1,2,3,4,7,10,15,39] mixed Tryz.func28 rfl (by kernel_rfl) (by kernel_rfl) (by kernel_rfl) (by kernel_rfl) ?_;repeat (first|(simp -implicitDefEqProofs only [go_sem,Nat.reduceAdd,Nat.reduceMul,Nat.reduceEqDiff,Nat.reduceLT,Nat.reduceLeDiff,Nat.reduceSub,Nat.reduceBEq,reduceIte,reduceCtorEq,Int.reduceEq,Int.reduceNe,Nat.reduceBneDiff,Int.reduceLE,Int.reduceLT,Int.reduceToNat,Int.reduceAdd,Int.reduceSub,Int.reduceMul,Int.reduceNeg,nP,dw,List.length_map,h1,hl1,Qb8,hg,g1])|((with_reducible refine Qab hv ?_ ?_ ?_);rfl;rfl)|((with_reducible refine Qab ho ?_ ?_ ?_);rfl;rfl))
    ·have g1:((9223372036854775808:Int)≤(m:Int))=False:=by simp only [eq_iff_iff,iff_false];omega
     have g2:((9223372036854775808:Int)<(m:Int))=False:=by simp only [eq_iff_iff,iff_false];omega
     have e:Qdh (sv false m)= .tup [.int .i64 (m:Int),.int .i64 0]:=by rw [Qdh,if_pos (by simp [sv];omega)];rfl
     have w1:=wrapn (n:=m) (by omega);rw [e];refine Qac (tb:=[]) 53 [.tmp 2,.tmp 3] [0,1,2,3,4,7,10,15,39] mixed Tryz.func28 rfl (by kernel_rfl) (by kernel_rfl) (by kernel_rfl) (by kernel_rfl) ?_;repeat (first|(simp -implicitDefEqProofs only [go_sem,Nat.reduceAdd,Nat.reduceMul,Nat.reduceEqDiff,Nat.reduceLT,Nat.reduceLeDiff,Nat.reduceSub,Nat.reduceBEq,reduceIte,reduceCtorEq,Int.reduceEq,Int.reduceNe,Nat.reduceBneDiff,Int.reduceLE,Int.reduceLT,Int.reduceToNat,Int.reduceAdd,Int.reduceSub,Int.reduceMul,Int.reduceNeg,nP,dw,List.length_map,h1,hl1,Qb8,hg,g1,g2,w1])|((with_reducible refine Qab hv ?_ ?_ ?_);rfl;rfl)|((with_reducible refine Qab ho ?_ ?_ ?_);rfl;rfl))
   |true=>
    by_cases hbig:9223372036854775808<m
    ·have g2:((9223372036854775808:Int)<(m:Int))=True:=by simp only [eq_iff_iff,iff_true];omega
     have e:Qdh (sv true m)= .tup [.int .i64 0,.int .i64 3]:=by rw [Qdh,if_neg];simp [sv];omega
     rw [e];refine Qac (tb:=[]) 53 [.tmp 2,.tmp 3] [0,1,2,3,4,7,10,15,39] mixed Tryz.func28 rfl (by kernel_rfl) (by kernel_rfl) (by kernel_rfl) (by kernel_rfl) ?_;repeat (first|(simp -implicitDefEqProofs only [go_sem,Nat.reduceAdd,Nat.reduceMul,Nat.reduceEqDiff,Nat.reduceLT,Nat.reduceLeDiff,Nat.reduceSub,Nat.reduceBEq,reduceIte,reduceCtorEq,Int.reduceEq,Int.reduceNe,Nat.reduceBneDiff,Int.reduceLE,Int.reduceLT,Int.reduceToNat,Int.reduceAdd,Int.reduceSub,Int.reduceMul,Int.reduceNeg,nP,dw,List.length_map,h1,hl1,Qb8,hg,g2])|((with_reducible refine Qab hv ?_ ?_ ?_);rfl;rfl)|((with_reducible refine Qab ho ?_ ?_ ?_);rfl;rfl))
    ·have g2:((9223372036854775808:Int)<(m:Int))=False:=by simp only [eq_iff_iff,iff_false];omega
     have e:Qdh (sv true m)= .tup [.int .i64 (-(m:Int)),.int .i64 0]:=by rw [Qdh,if_pos (by simp [sv];omega)];rfl
     have w1:IntKind.i64.wrap (IntKind.u64.wrap (0-(m:Int)))= -(m:Int):=by
      rw [Qg9];simp [IntKind.wrap,IntKind.bits,IntKind.signed];omega
     rw [e];refine Qac (tb:=[]) 53 [.tmp 2,.tmp 3] [0,1,2,3,4,7,10,15,39] mixed Tryz.func28 rfl (by kernel_rfl) (by kernel_rfl) (by kernel_rfl) (by kernel_rfl) ?_;repeat (first|(simp -implicitDefEqProofs only [go_sem,Nat.reduceAdd,Nat.reduceMul,Nat.reduceEqDiff,Nat.reduceLT,Nat.reduceLeDiff,Nat.reduceSub,Nat.reduceBEq,reduceIte,reduceCtorEq,Int.reduceEq,Int.reduceNe,Nat.reduceBneDiff,Int.reduceLE,Int.reduceLT,Int.reduceToNat,Int.reduceAdd,Int.reduceSub,Int.reduceMul,Int.reduceNeg,nP,dw,List.length_map,h1,hl1,Qb8,hg,g2,w1])|((with_reducible refine Qab hv ?_ ?_ ?_);rfl;rfl)|((with_reducible refine Qab ho ?_ ?_ ?_);rfl;rfl))
  ·have hl1:((1:Int)<((digs BW m).length:Int))=True:=by
    have:=mt hlen.1 hl;simp only [eq_iff_iff,iff_true];omega
   simp only [BW]at hl;have e:Qdh (sv neg m)= .tup [.int .i64 0,.int .i64 3]:=by rw [Qdh,if_neg];cases neg<;>simp [sv]<;>omega
   rw [e];refine Qac (tb:=[]) 53 [.tmp 2,.tmp 3] [0,1,2,3,4,7,10,15,39] mixed Tryz.func28 rfl (by kernel_rfl) (by kernel_rfl) (by kernel_rfl) (by kernel_rfl) ?_;repeat (first|(simp -implicitDefEqProofs only [go_sem,Nat.reduceAdd,Nat.reduceMul,Nat.reduceEqDiff,Nat.reduceLT,Nat.reduceLeDiff,Nat.reduceSub,Nat.reduceBEq,reduceIte,reduceCtorEq,Int.reduceEq,Int.reduceNe,Nat.reduceBneDiff,Int.reduceLE,Int.reduceLT,Int.reduceToNat,Int.reduceAdd,Int.reduceSub,Int.reduceMul,Int.reduceNeg,nP,dw,List.length_map,h1,hl1])|((with_reducible refine Qab hv ?_ ?_ ?_);rfl;rfl)|((with_reducible refine Qab ho ?_ ?_ ?_);rfl;rfl))
theorem Q5e (neg:Bool) (s:ByteArray) (h:Qbe neg s.data.toList=true) (hs:s.size≤100000):Qaf Tryz.prog 77 [.agg [.bool neg,.str s]] (.int .i64 (wnum neg s).sign):=by
 have hv:=Qfi neg s;rw [h]at hv;have ho:=Qnj neg s h (by omega);have hg:=Q5j neg (bnum s.data.toList);refine Qac (tb:=[]) 9 [.tmp 2] [0,1,2,5] mixed Tryz.func77 rfl (by kernel_rfl) (by kernel_rfl) (by kernel_rfl) (by kernel_rfl) ?_;repeat (first|(simp -implicitDefEqProofs only [go_sem,Nat.reduceAdd,Nat.reduceMul,Nat.reduceEqDiff,Nat.reduceLT,Nat.reduceLeDiff,Nat.reduceSub,Nat.reduceBEq,reduceIte,reduceCtorEq,Int.reduceEq,Int.reduceNe,Nat.reduceBneDiff,Int.reduceLE,Int.reduceLT,Int.reduceToNat,Int.reduceAdd,Int.reduceSub,Int.reduceMul,Int.reduceNeg,nP,dw])|((with_reducible refine Qab hv ?_ ?_ ?_);rfl;rfl)|((with_reducible refine Qab ho ?_ ?_ ?_);rfl;rfl)|((with_reducible refine Qab hg ?_ ?_ ?_);rfl;rfl))
 rfl
theorem Zon (neg:Bool) (s:ByteArray) (h:Qbe neg s.data.toList=true) (hs:s.size≤100000):Qaf Tryz.prog 94 [.agg [.bool neg,.str s]] (.int .i64 (blen (bnum s.data.toList):Int)):=by
 have hv:=Qfi neg s;rw [h]at hv;have ho:=Qp2 s (by omega);rw [Qio h]at ho;have hg:=Quu (bnum s.data.toList) (Nat.le_trans (Qf0 s hs) (by decide));refine Qac (tb:=[]) 10 [.tmp 2] [0,1,2,5] mixed Tryz.func94 rfl (by kernel_rfl) (by kernel_rfl) (by kernel_rfl) (by kernel_rfl) ?_;repeat (first|(simp -implicitDefEqProofs only [go_sem,Nat.reduceAdd,Nat.reduceMul,Nat.reduceEqDiff,Nat.reduceLT,Nat.reduceLeDiff,Nat.reduceSub,Nat.reduceBEq,reduceIte,reduceCtorEq,Int.reduceEq,Int.reduceNe,Nat.reduceBneDiff,Int.reduceLE,Int.reduceLT,Int.reduceToNat,Int.reduceAdd,Int.reduceSub,Int.reduceMul,Int.reduceNeg,dw])|((with_reducible refine Qab hv ?_ ?_ ?_);rfl;rfl)|((with_reducible refine Qab ho ?_ ?_ ?_);rfl;rfl)|((with_reducible refine Qab hg ?_ ?_ ?_);rfl;rfl))
theorem Qzn (an bn:Bool) (a b:ByteArray) (h1:Qbe an a.data.toList=true) (h2:Qbe bn b.data.toList=true) (ha:a.size≤100000) (hb:b.size≤100000):
  Qaf Tryz.prog 45 [.agg [.bool an,.str a],.agg [.bool bn,.str b]] (.int .i64 (wnum an a-wnum bn b).sign):=by
 have hv:=Qr1 an bn a b;rw [h1,h2]at hv;have hL1:=Qf0 a ha;have hL2:=Qf0 b hb;have hoa:=Qnj an a h1 (by omega);have hob:=Qnj bn b h2 (by omega);have hn:=Zo0 bn (bnum b.data.toList);obtain⟨n,m,hs,e,hm⟩:=Zfe an (!bn) (bnum a.data.toList) (bnum b.data.toList) (by omega) (by omega);have hg:=Q5j n m;have e2:sv (!bn) (bnum b.data.toList)= -(sv bn (bnum b.data.toList)):=by cases bn<;>simp [sv]
 have e3:sv n m=wnum an a-wnum bn b:=by rw [e,e2,wnum,wnum,Int.sub_eq_add_neg]
 rw [e3]at hg;rw [Bool.true_and]at hv;refine Qac (tb:=[]) 16 [.tmp 4] [0,1,2,3,4,8] mixed Tryz.func45 rfl (by kernel_rfl) (by kernel_rfl) (by kernel_rfl) (by kernel_rfl) ?_;repeat (first|(simp -implicitDefEqProofs only [go_sem,Nat.reduceAdd,Nat.reduceMul,Nat.reduceEqDiff,Nat.reduceLT,Nat.reduceLeDiff,Nat.reduceSub,Nat.reduceBEq,reduceIte,reduceCtorEq,Int.reduceEq,Int.reduceNe,Nat.reduceBneDiff,Int.reduceLE,Int.reduceLT,Int.reduceToNat,Int.reduceAdd,Int.reduceSub,Int.reduceMul,Int.reduceNeg,nP,dw])|((with_reducible refine Qab hv ?_ ?_ ?_);rfl;rfl)|((with_reducible refine Qab hoa ?_ ?_ ?_);rfl;rfl)|((with_reducible refine Qab hob ?_ ?_ ?_);rfl;rfl)|((with_reducible refine Qab hn ?_ ?_ ?_);rfl;rfl)|((with_reducible refine Qab hs ?_ ?_ ?_);rfl;rfl)|((with_reducible refine Qab hg ?_ ?_ ?_);rfl;rfl)|(with_reducible exact Qaa _ _ (by kernel_rfl))|(with_reducible refine And.intro (Qaa _ _ (by kernel_rfl)) ?_))
end Go.Proofs.YtobaaecbdlhpdaaGreat

namespace Go.Dg
theorem Qx2 {α:Type} (E L:List α) (i n:Nat) (z:α) (hL:L.length≤n) (hi:i+n≤E.length):
  (E.take i++List.replicate n z++E.drop (i+n)).take i++L++(E.take i++List.replicate n z++E.drop (i+n)).drop (i+L.length)=E.take i++(L++List.replicate (n-L.length) z)++E.drop (i+n):=by
 have hl:(E.take i).length=i:=by simp;omega
 rw [List.append_assoc (E.take i) (List.replicate n z)];generalize hT:E.take i=T at*;generalize E.drop (i+n)=D;have e1:(T++(List.replicate n z++D)).take i=T:=by rw [←hl];exact List.take_left
 have e2:(T++(List.replicate n z++D)).drop (i+L.length)=List.replicate (n-L.length) z++D:=by
  rw [←List.drop_drop,←hl,List.drop_left,List.drop_append];simp only [List.drop_replicate,List.length_replicate];rw [show L.length-n=0 by omega,List.drop_zero]
 rw [e1,e2];simp only [List.append_assoc]
theorem Zme {b:Nat} (hb:b≠0):
  (digs WB (b*2^(64-blen (b/WB^((digs WB b).length-1))))).length=(digs WB b).length:=by
 have hp:0<(digs WB b).length:=List.length_pos_iff.2 (mt (Qbi (by decide)).1 hb);have ht:=Qdn (B:=WB) (by decide) hb;obtain⟨K,hK⟩: ∃K,(digs WB b).length=K+1:=⟨(digs WB b).length-1,by omega⟩;rw [hK,Nat.add_sub_cancel]at ht ⊢;have h64:=Qdb 64 _ ht.2;have hlt:b/WB^K<2^blen (b/WB^K):=by
  rcases Nat.lt_or_ge (b/WB^K) (2^blen (b/WB^K))with h|h
  ·exact h
  ·have:=Qlk _ _ h;omega
 apply Nat.le_antisymm
 ·refine(Qau (by decide) _ _).2 ?_;have h1:b<2^blen (b/WB^K)*WB^K:=(Nat.div_lt_iff_lt_mul (WBp K)).1 hlt;have h2:=Nat.mul_lt_mul_of_pos_right h1 (show 0<2^(64-blen (b/WB^K))from Nat.pow_pos (by decide));rw [Nat.mul_right_comm,←Nat.pow_add,show blen (b/WB^K)+(64-blen (b/WB^K))=64 by omega]at h2;rw [Nat.pow_succ,Nat.mul_comm (WB^K)];exact h2
 ·have h3:K<(digs WB b).length:=by omega
  have h4:=(Qcz (by decide) b K).1 h3;refine(Qcz (by decide) _ K).2 ?_;have h5:b/WB^K≤b*2^(64-blen (b/WB^K))/WB^K:=Nat.div_le_div_right (Nat.le_mul_of_pos_right b (Nat.pow_pos (by decide)));exact Nat.ne_of_gt (Nat.lt_of_lt_of_le (Nat.pos_of_ne_zero h4) h5)
end Go.Dg

namespace Go.Proofs.YtobaaecbdlhpdaaGreat
open Go.Vl Go.RowKit Go.Dg
theorem Zkz (a b:Nat) (h:a<b) (ha:(digs BW a).length≤100000000) (hbl:(digs BW b).length≤100000000):Qaf Tryz.prog 98 [dw (digs BW a),dw (digs BW b)] (.tup [dw (digs BW (a/b)),dw (digs BW (a%b))]):=by
 have hc:=Qdg a b (by omega) (by omega);have g1:(cmpW a b<0)=True:=by simp only [eq_iff_iff,iff_true];exact(Qd4 a b).2 h
 rw [Nat.div_eq_of_lt h,Nat.mod_eq_of_lt h,Qbd];refine Qac (tb:=[]) 145 [.tmp 4,.tmp 5] [0,1,4,5,6,7,8,9,10,11,12,13,14,15,16,17,21,25,68,82,121] mixed Tryz.func98 rfl (by kernel_rfl) (by kernel_rfl) (by kernel_rfl) (by kernel_rfl) ?_;repeat (first|(simp -implicitDefEqProofs only [go_sem,Nat.reduceAdd,Nat.reduceMul,Nat.reduceEqDiff,Nat.reduceLT,Nat.reduceLeDiff,Nat.reduceSub,Nat.reduceBEq,reduceIte,reduceCtorEq,Int.reduceEq,Int.reduceNe,Nat.reduceBneDiff,Int.reduceLE,Int.reduceLT,Int.reduceToNat,Int.reduceAdd,Int.reduceSub,Int.reduceMul,Int.reduceNeg,dw,g1,List.map_nil])|((with_reducible refine Qab hc ?_ ?_ ?_);rfl;rfl)|(with_reducible exact Qaa _ _ (by kernel_rfl))|(with_reducible refine And.intro (Qaa _ _ (by kernel_rfl)) ?_))
theorem Zda (a b:Nat) (h:b≤a) (hb:0<b) (h1:b<18446744073709551616) (ha:(digs BW a).length≤100000000):Qaf Tryz.prog 98 [dw (digs BW a),dw (digs BW b)] (.tup [dw (digs BW (a/b)),dw (digs BW (a%b))]):=by
 have hd:digs BW b=[b]:=by rw [Qf7 BW_2 (by omega),Nat.mod_eq_of_lt h1,Nat.div_eq_of_lt h1,Qbd]
 have hc:=Qdg a b (by omega) (by rw [hd];simp);have g1:(cmpW a b<0)=False:=by simp only [eq_iff_iff,iff_false];rw [Qd4];omega
 have hs:=Zc6 a b hb h1 (by omega);have hr:a%b<BW:=Nat.lt_trans (Nat.mod_lt _ hb) h1;have ht:=Qc8 [a%b] (by simp [maxLen]);rw [Qip hr]at ht;rw [hd]at hc ⊢;have z1:(((0+1:Nat):Int)==1)=true:=rfl;have z2:(((1:Nat):Int)==1)=true:=rfl;refine Qac (tb:=[]) 145 [.tmp 4,.tmp 5] [0,1,4,5,6,7,8,9,10,11,12,13,14,15,16,17,21,25,68,82,121] mixed Tryz.func98 rfl (by kernel_rfl) (by kernel_rfl) (by kernel_rfl) (by kernel_rfl) ?_;repeat (first|(simp -implicitDefEqProofs only [go_sem,Nat.reduceAdd,Nat.reduceMul,Nat.reduceEqDiff,Nat.reduceLT,Nat.reduceLeDiff,Nat.reduceSub,Nat.reduceBEq,reduceIte,reduceCtorEq,Int.reduceEq,Int.reduceNe,Nat.reduceBneDiff,Int.reduceLE,Int.reduceLT,Int.reduceToNat,Int.reduceAdd,Int.reduceSub,Int.reduceMul,Int.reduceNeg,dw,g1,List.map_nil,List.map_cons,z1,z2])|((with_reducible refine Qab hc ?_ ?_ ?_);rfl;rfl)|((with_reducible refine Qab hs ?_ ?_ ?_);rfl;rfl)|((with_reducible refine Qab ht ?_ ?_ ?_);rfl;rfl)|(with_reducible exact Qaa _ _ (by kernel_rfl))|(with_reducible refine And.intro (Qaa _ _ (by kernel_rfl)) ?_))
end Go.Proofs.YtobaaecbdlhpdaaGreat
