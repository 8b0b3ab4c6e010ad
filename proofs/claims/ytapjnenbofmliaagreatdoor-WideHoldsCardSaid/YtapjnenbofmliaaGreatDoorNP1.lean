/-
  NW21, NW22, NW19, NW24, De5, NW25, NW26, NW27, NW23, NW28, NW29, Dp, NW30, NW31, NW32, NA11, NA12, NA13, Dq, NP1 (merged for the claim).
-/
import Derived.Test.YtapjnenbofmliaaGreatDoorNT4
import Derived.Test.YtapjnenbofmliaaGreatDoorNR30
import Derived.Test.YtapjnenbofmliaaGreatDoorNA4
import Derived.Test.YtapjnenbofmliaaGreatDoorNW4
import Derived.Test.YtapjnenbofmliaaGreatDoorDe3
set_option linter.unusedSimpArgs false
set_option linter.unusedVariables false
namespace Go.Proofs.YtapjnenbofmliaaGreatDoor
open Go.Vl Go.RowKit Go.Dg
abbrev wB (E:List Nat):Box:={els:=E.map fW,esz:=1,ety:=66,fro:=0,live:=true,arr:=true}
theorem Qsn (E:List Nat) (off n:Nat) (hn:off+n≤E.length) (hE:E.length≤maxLen):
  Qdy Tryz.prog 50 [.bs 1000000 1 off n] [(1000000,wB E)] (.bs 1000000 1 off (Qcf ((E.drop off).take n)).length) [(1000000,wB E)]:=by
 have hm:=Qd4;refine Qfn (tb:=[]) 21 [.tmp 2] [0,2,14] mixed Tryz.func50 rfl (by kernel_rfl) (by kernel_rfl) (by kernel_rfl) (by kernel_rfl) (by rfl) ?_;simp -implicitDefEqProofs only [go_sem,seval];refine Qa7 mixed (fun k:{k:Nat // k≤n∧Qcf ((E.drop off).take k)=Qcf ((E.drop off).take n)}=>St.of [(0,.bs 1000000 1 off k.1),(2,.nilS)] [(1000000,wB E)]) (fun k=>k.1) ⟨n,Nat.le_refl _,rfl⟩ ?_ ?_
 ·refine Qa0 (θ:=[(1000000,1000000)]) rfl ?_ ?_
  ·simp [Qag,lkp,ren1,ren0]
  ·simp [Qal,lkp,Box.renames]
 ·rintro⟨k,hk,ht⟩;cases k with
  |zero=>
   have h1:((0:Int)<((0:Nat):Int))=False:=by simp
   simp -implicitDefEqProofs only [go_sem,seval,h1];rw [←ht];refine Qcn (.inl rfl) ?_;simp -implicitDefEqProofs only [go_sem,seval];refine Qa0 (θ:=[(1000000,1000000)]) rfl ?_ ?_
   ·simp [Qag,lkp,ren1,ren0,Qcf]
   ·simp [Qal,lkp,Box.renames]
  |succ k=>
   have h1:((0:Int)<((k+1:Nat):Int))=True:=by simp
   have h2:(0≤(k:Int))=True:=by simp
   have hw:=Qgp (n:=k) (by omega);have hlt:off+k<E.length:=by omega
   have hget:(E.map fW)[off+k]? =some (.int .u64 (E[off+k]:Int)):=by simp [hlt]
   have hcut:(E.drop off).take (k+1)=(E.drop off).take k++[E[off+k]]:=by
    rw [List.take_add_one,List.getElem?_drop,List.getElem?_eq_getElem hlt];rfl
   have h4:((k:Int)<((k+1:Nat):Int))=True:=by simp;omega
   cases hd:((E[off+k]:Int)==0)with
   |true=>
    have hd0:E[off+k]=0:=by simpa using hd
    have h3:((k:Int)≤((k+1:Nat):Int))=True:=by simp;omega
    simp -implicitDefEqProofs only [go_sem,seval,h1,h2,hw,hget,hd,Int.toNat_natCast,h3,h4,wB];refine⟨⟨k,by omega,?_⟩,by simp,?_⟩
    ·rw [←ht,hcut,hd0,Qb1]
    ·refine Qa0 (θ:=[(1000000,1000000)]) rfl ?_ ?_
     ·simp [Qag,lkp,ren1,ren0]
     ·simp [Qal,lkp,Box.renames]
   |false=>
    have hd0:E[off+k]≠0:=by simpa using hd
    simp -implicitDefEqProofs only [go_sem,seval,h1,h2,hw,hget,hd,Int.toNat_natCast,h4,wB];rw [←ht,hcut,Qdd _ hd0];refine Qcn (.inl rfl) ?_;simp -implicitDefEqProofs only [go_sem,seval];refine Qa0 (θ:=[(1000000,1000000)]) rfl ?_ ?_
    ·simp [Qag,lkp,ren1,ren0];omega
    ·simp [Qal,lkp,Box.renames]
theorem Zav (E:List Nat) (off a b:Nat) (hba:b≤a) (hE:(E.drop off).take (digs BW a).length=digs BW a) (hEl:off+(digs BW a).length≤E.length) (ha:(digs BW a).length≤1000000000):
  Qdy Tryz.prog 85 [.bs 1000000 1 off (digs BW a).length,dw (digs BW b)] [(1000000,wB E)] (.bs 102 1 0 (digs BW (a-b)).length) [(1000000,wB E),(102,wB (lows BW (a-b) (digs BW a).length))]:=by

 refine Qfn (tb:=[(1101,[(1000000,102)],[])]) 41 [.tmp 4] [0,1,4,5,6,7,8,13,14,15,20] mixed Tryz.func85 rfl (by kernel_rfl) (by kernel_rfl) (by kernel_rfl) (by kernel_rfl) (by rfl) ?_;have hn0:((0:Int)≤((digs BW a).length:Int))=True:=by simp
 have hn1:((8:Nat):Int)*((digs BW a).length:Int)≤281474976710656:=by omega
 have hn2:((digs BW a).length:Int)≤9223372036854775807:=by omega
 simp -implicitDefEqProofs only [go_sem,Nat.reduceAdd,Nat.reduceMul,Nat.reduceEqDiff,Nat.reduceLT,Nat.reduceLeDiff,reduceCtorEq,dw,wB,hn0,hn1,hn2,Int.toNat_natCast];generalize hN:(digs BW a).length=N at*;rw [Qgz (a-b) N];refine Qa7 mixed (fun i:{i:Nat // i≤N}=>St.of [(0,.bs 1000000 1 off N),(1,dw (digs BW b)),(4,.nilS),(5,.bs 102 1 0 N),(6,.int .u64 (bor BW a b i.1:Int)),(13,.int .i64 (N:Int)),(14,.int .i64 (i.1:Int))]
  [(1000000,wB E),(102,{els:=(mix BW (a-b) 0 N i.1).map fW,esz:=1,ety:=66,fro:=0,live:=true,arr:=true})]) (fun i=>N-i.1) ⟨0,Nat.zero_le _⟩ ?_ ?_
 ·refine Qa0 (θ:=[(1000000,1000000),(102,102)]) rfl ?_ ?_
  ·simp [Qag,lkp,ren1,ren0,dw,Qmn]
  ·simp [Qal,lkp,Box.renames]
 ·rintro⟨i,hi⟩;have hml:=Qba (B:=BW) (a-b) 0 N i;by_cases hA:i<N
  ·have hA':((i:Int)<(N:Int))=True:=by simp;omega
   have h0:(0≤(i:Int))=True:=by simp
   have hga:=Qam BW_2 (show i<(digs BW a).length by omega);have hgE:(E.map fW)[off+i]? =some (PV.int .u64 ((a/BW^i%BW:Nat):Int)):=by
    rw [List.getElem?_map,←List.getElem?_drop,←List.getElem?_take_of_lt (show i<N by omega),hE,hga];rfl
   have hwk:=Qay (a:=i) (by omega);have hbl:=Qls (B:=BW) a b i;have hbl2:=Qls (B:=BW) a b (i+1);have hst:=Qmo BW_2 hba i;have hx:a/BW^i%BW<BW:=Nat.mod_lt _ (by decide);have hy:b/BW^i%BW<BW:=Nat.mod_lt _ (by decide);have hz:(a-b)/BW^i%BW<BW:=Nat.mod_lt _ (by decide);have hset:=Qcz (B:=BW) (V:=a-b) (W:=a-b) (S:=0) (n:=N) (m:=i) (d:=(a-b)/BW^i%BW) (by decide) hA rfl rfl;have hy0: ¬i<(digs BW b).length→b/BW^i%BW=0:=fun h=>by rw [Qa3 BW_2 (Nat.le_of_not_lt h),Nat.zero_mod]
   have hgb:i<(digs BW b).length→(digs BW b)[i]? =some (b/BW^i%BW):=fun h=>Qam BW_2 h;obtain⟨e,hgo⟩: ∃e:Nat,((mix BW (a-b) 0 N i).map fW)[i]? =some (PV.int .u64 (e:Int)):=⟨_,by rw [List.getElem?_map,Qcd _ _ _ _ _ hA];rfl⟩;generalize a/BW^i%BW=x at*;generalize b/BW^i%BW=y at*;generalize (a-b)/BW^i%BW=z at*;have s1:(x+18446744073709551616-y-bor BW a b i)%18446744073709551616=z:=by simp only [BW]at*;omega
   have s2:(if x<y+bor BW a b i then 1 else 0)=bor BW a b (i+1):=by
    simp only [BW]at*;split<;>omega
   have hc:=Qqz x y (bor BW a b i) hbl;rw [s1,s2]at hc;by_cases hB:i<(digs BW b).length
   ·have hB':((i:Int)<((digs BW b).length:Int))=True:=by simp;omega
    have hgb:=hgb hB;simp -implicitDefEqProofs only [go_sem,Nat.reduceAdd,Nat.reduceMul,Nat.reduceEqDiff,Nat.reduceLT,Nat.reduceLeDiff,reduceCtorEq,dw,List.length_map,hA',hB',h0,Qb2,hgE,wB,hgb,Int.toNat_natCast];refine Qab _ _ _ _ _ _ _ _ _ hc ?_;simp -implicitDefEqProofs only [go_sem,Nat.reduceAdd,Nat.reduceMul,Nat.reduceEqDiff,Nat.reduceLT,Nat.reduceLeDiff,reduceIte,reduceCtorEq,hA',h0,Int.toNat_natCast,hwk,hgo];refine⟨⟨i+1,hA⟩,by simp only;omega,?_⟩;refine Qa0 (θ:=[(1000000,1000000),(102,102)]) rfl ?_ ?_
    ·simp [Qag,lkp,ren1,ren0,dw]
    ·rw [Qb8,hset];simp [Qal,lkp,Box.renames]
   ·have hB':((i:Int)<((digs BW b).length:Int))=False:=by simp;omega
    obtain rfl:=hy0 hB;simp -implicitDefEqProofs only [go_sem,Nat.reduceAdd,Nat.reduceMul,Nat.reduceEqDiff,Nat.reduceLT,Nat.reduceLeDiff,reduceCtorEq,dw,List.length_map,hA',hB',h0,hgE,wB,Int.toNat_natCast];refine Qab _ _ _ _ _ _ _ _ _ hc ?_;simp -implicitDefEqProofs only [go_sem,Nat.reduceAdd,Nat.reduceMul,Nat.reduceEqDiff,Nat.reduceLT,Nat.reduceLeDiff,reduceIte,reduceCtorEq,hA',h0,Int.toNat_natCast,hwk,hgo];refine⟨⟨i+1,hA⟩,by simp only;omega,?_⟩;refine Qa0 (θ:=[(1000000,1000000),(102,102)]) rfl ?_ ?_
    ·simp [Qag,lkp,ren1,ren0,dw]
    ·rw [Qb8,hset];simp [Qal,lkp,Box.renames]
  ·have hA':((i:Int)<(N:Int))=False:=by simp;omega
   obtain rfl:i=N:=by omega
   have hll:=Qae (B:=BW) (a-b) i;have hlt:a<BW^i:=by rw [←hN];exact Qaw BW_2 a
   have hm:mix BW (a-b) 0 i i=lows BW (a-b) i:=Qdi (by decide) (by rw [Nat.div_eq_of_lt (Nat.lt_of_le_of_lt (Nat.sub_le _ _) hlt),Nat.zero_div]);have hq:Qcf (((lows BW (a-b) i).drop 0).take i)=digs BW (a-b):=by
    rw [List.drop_zero,List.take_of_length_le (by rw [hll];exact Nat.le_refl _),Qbb BW_2,Nat.mod_eq_of_lt (Nat.lt_of_le_of_lt (Nat.sub_le _ _) hlt)]
   have hc:=Qsn (lows BW (a-b) i) 0 i (by rw [hll];omega) (by rw [hll];simp [maxLen];omega);rw [hq]at hc;simp -implicitDefEqProofs only [go_sem,Nat.reduceAdd,Nat.reduceMul,Nat.reduceEqDiff,Nat.reduceLT,Nat.reduceLeDiff,reduceCtorEq,hA',wB,hm];refine Qbk _ _ _ _ _ _ _ _ _ hc ?_;simp -implicitDefEqProofs only [go_sem,Nat.reduceAdd,Nat.reduceEqDiff,Nat.reduceLT,reduceCtorEq,wB];refine Qcn (.inl rfl) ?_;simp -implicitDefEqProofs only [go_sem,Nat.reduceEqDiff,reduceCtorEq];refine Qa0 (θ:=[(1000000,1000000),(102,102)]) rfl ?_ ?_
   ·simp [Qag,lkp,ren1,ren0]
   ·simp [Qal,lkp,Box.renames]
attribute [local go_sem high] Q62
theorem Q8g (n:Nat):Int.tdiv (n:Int) 64=((n/64:Nat):Int):=Qu0 n 64
theorem Q8h (n:Nat):Int.tmod (n:Int) 64=((n%64:Nat):Int):=Zdc n 64
theorem Q8i (a k:Nat) (ha:(digs BW a).length≤1000000000) (hk:k≤1000000000):Qaf Tryz.prog 64 [dw (digs BW a),.int .i64 (k:Int)] (dw (digs BW (a*2^k))):=by
 refine Qac (tb:=[]) 56 [.tmp 4] [0,1,4,5,6,7,8,9,12,23,24,25,26,42] mixed Tryz.func64 rfl (by kernel_rfl) (by kernel_rfl) (by kernel_rfl) (by kernel_rfl) ?_;by_cases h0:a=0
 ·subst h0;have h1:(((0:Nat):Int)==0)=true:=rfl;rw [Nat.zero_mul,Qan];simp -implicitDefEqProofs only [go_sem,Nat.reduceAdd,Nat.reduceMul,Nat.reduceEqDiff,Nat.reduceLT,Nat.reduceLeDiff,reduceCtorEq,dw,List.map_nil,List.length_nil,h1]
 have hp:0<(digs BW a).length:=List.length_pos_iff.2 (mt (Qa4 BW_2).1 h0);have h1:(((digs BW a).length:Int)==0)=false:=by simp only [beq_eq_false_iff_ne,ne_eq];omega
 have hlt:a<BW^(digs BW a).length:=Qaw BW_2 a;obtain⟨W,hW⟩: ∃W,W=k/64:=⟨_,rfl⟩;obtain⟨r,hr⟩: ∃r,r=k%64:=⟨_,rfl⟩;have hr64:r<64:=by rw [hr];exact Nat.mod_lt _ (by decide)
 have hkr:k=64*W+r:=by omega
 have d1:Int.tdiv (k:Int) 64=(W:Int):=by rw [Q8g,hW]
 have d2:Int.tmod (k:Int) 64=(r:Int):=by rw [Q8h,hr]
 have hWl:W≤1000000000:=by omega
 clear hW hr;generalize hN:(digs BW a).length=N at*;have q1:=wrapn (n:=W) (by omega);have q2:=Qbx (a:=N) (b:=W) (by omega);have q3:=Qay (a:=N+W) (by omega);have hn0:((0:Int)≤((N+W+1:Nat):Int))=True:=by simp only [eq_iff_iff,iff_true];omega
 have hn1:((8:Nat):Int)*((N+W+1:Nat):Int)≤281474976710656:=by omega
 have hn2:((N+W+1:Nat):Int)≤9223372036854775807:=by omega
 simp -implicitDefEqProofs only [go_sem,Nat.reduceAdd,Nat.reduceMul,Nat.reduceEqDiff,Nat.reduceLT,Nat.reduceLeDiff,reduceCtorEq,Int.reduceEq,dw,List.length_map,hN,h1,d1,d2,q1,q2,q3,hn0,hn1,hn2,Int.toNat_natCast];have hrep:List.replicate (N+W+1) (PV.int .u64 0)=(lows BW (shlV a W r 0) (N+W+1)).map fW:=by rw [Qwa,Qdf];simp
 rw [hrep];have k1:(((r:Nat):Int)<0)=False:=by simp only [eq_iff_iff,iff_false];omega
 have k2:min r 64=r:=by omega
 have k3:IntKind.i64.wrap (64-((r:Nat):Int))=((64-r:Nat):Int):=by rw [Qai (by omega) (by omega)];omega
 have k4:((((64-r:Nat):Nat):Int)<0)=False:=by simp only [eq_iff_iff,iff_false];omega
 have k5:min (64-r) 64=64-r:=by omega
 refine Qa7 mixed (fun i:{i:Nat // i≤N}=>St.of [(4,.nilS),(5,.int .i64 (W:Int)),(6,.int .i64 (r:Int)),(7,.bs 405 1 0 (N+W+1)),(23,dw (digs BW a)),(24,.int .i64 (N:Int)),(25,.int .i64 (i.1:Int))]
  [(405,{els:=(lows BW (shlV a W r i.1) (N+W+1)).map fW,esz:=1,ety:=66,fro:=0,live:=true,arr:=true})]) (fun i=>N-i.1) ⟨0,Nat.zero_le _⟩ ?_ ?_
 ·refine Qa0 (θ:=[(405,405)]) rfl ?_ ?_
  ·simp [Qag,lkp,ren1,ren0,dw]
  ·simp [Qal,lkp,Box.renames]
 ·rintro⟨i,hi⟩;have hll:=Qae (B:=BW) (shlV a W r i) (N+W+1);by_cases hA:i<N
  ·have hA':((i:Int)<(N:Int))=True:=by simp;omega
   have hi0:(0≤(i:Int))=True:=by simp
   have hga:=Qam BW_2 (show i<(digs BW a).length by omega);have hwk:=Qay (a:=i) (by omega);have w1:=Qbx (a:=i) (b:=W) (by omega);have w2:=Qay (a:=i+W) (by omega);have b1:(0≤((i+W:Nat):Int))=True:=by simp only [eq_iff_iff,iff_true];omega
   have b2:(((i+W:Nat):Int)<((N+W+1:Nat):Int))=True:=by simp only [eq_iff_iff,iff_true];omega
   have b3:(0≤((i+W+1:Nat):Int))=True:=by simp only [eq_iff_iff,iff_true];omega
   have b4:(((i+W+1:Nat):Int)<((N+W+1:Nat):Int))=True:=by simp only [eq_iff_iff,iff_true];omega
   have hgo:((lows BW (shlV a W r i) (N+W+1)).map fW)[i+W]? =some (PV.int .u64 ((shlC a r i:Nat):Int)):=by
    rw [List.getElem?_map,Qbe _ _ _ (by omega),Qts a W r i (by omega)];rfl
   have hc2:shlC a r i%18446744073709551616=shlC a r i:=Nat.mod_eq_of_lt (Nat.lt_of_lt_of_le (Qjl a r i) (show 2^r≤18446744073709551616 from Nat.pow_le_pow_right (n:=2) (by decide) (show r≤64 by omega)));by_cases hr0:r=0
   ·subst hr0;have g0:((0:Int)<(((0:Nat):Nat):Int))=False:=by simp
    have hset:=Q18 a W i (N+W+1) (by omega);have hc0:shlC a 0 i=0:=by have:=Qjl a 0 i;simp at this;exact this
    have hval:(0 ||| a/BW^i%BW*2^0%18446744073709551616)=a/BW^i%BW:=by
     rw [Nat.zero_or,Nat.pow_zero,Nat.mul_one,show(18446744073709551616:Nat)=BW from rfl,Nat.mod_mod]
    simp -implicitDefEqProofs only [go_sem,Nat.reduceAdd,Nat.reduceMul,Nat.reduceEqDiff,Nat.reduceLT,Nat.reduceLeDiff,reduceIte,reduceCtorEq,dw,hA',hi0,Qb2,hga,Int.toNat_natCast,w1,b1,b2,hgo,k1,k2,g0,hc0,Qj2,hwk,Nat.mod_mod,Nat.zero_mod];refine⟨Qah _ _ (by kernel_rfl),⟨i+1,hA⟩,by simp only;omega,Qa0 (θ:=[(405,405)]) rfl ?_ ?_⟩
    ·simp [Qag,lkp,ren1,ren0,dw]
    ·rw [hval,Qb8,hset];simp [Qal,lkp,Box.renames]
   ·have g0:((0:Int)<((r:Nat):Int))=True:=by simp only [eq_iff_iff,iff_true];omega
    have hset:=Q19 a W r i (N+W+1) (by omega) (by omega);obtain⟨e,hgo2⟩: ∃e:Nat,(((lows BW (shlV a W r i) (N+W+1)).map fW).set (i+W) (.int .u64 ((shlC a r i ||| (a/BW^i%BW*2^r%18446744073709551616):Nat):Int)))[i+W+1]? =some (PV.int .u64 (e:Int)):=by
     rw [Qb8,List.getElem?_map];refine⟨_,by rw [List.getElem?_set_ne (by omega),Qbe _ _ _ (by omega)];rfl⟩
    simp -implicitDefEqProofs only [go_sem,Nat.reduceAdd,Nat.reduceMul,Nat.reduceEqDiff,Nat.reduceLT,Nat.reduceLeDiff,reduceIte,reduceCtorEq,dw,hA',hi0,Qb2,hga,Int.toNat_natCast,w1,w2,b1,b2,b3,b4,hgo,k1,k2,k3,k4,k5,g0,hc2,Qj2,Qg1,hwk,hgo2,Nat.mod_mod];refine⟨Qah _ _ (by kernel_rfl),⟨i+1,hA⟩,by simp only;omega,Qa0 (θ:=[(405,405)]) rfl ?_ ?_⟩
    ·simp [Qag,lkp,ren1,ren0,dw]
    ·rw [Qb8,Qb8,hset];simp [Qal,lkp,Box.renames]
  ·have hA':((i:Int)<(N:Int))=False:=by simp;omega
   obtain rfl:i=N:=by omega
   have hV:=Qwb a W r i hlt;rw [←hkr]at hV;rw [hV]at hll;have htk:((lows BW (a*2^k) (i+W+1)).map fW).take (i+W+1)=(lows BW (a*2^k) (i+W+1)).map fW:=List.take_of_length_le (by simp [hll]);simp -implicitDefEqProofs only [go_sem,Nat.reduceAdd,Nat.reduceMul,Nat.reduceEqDiff,Nat.reduceLT,Nat.reduceLeDiff,reduceIte,reduceCtorEq,hA',hV,List.length_map,hll,htk];refine Qab _ _ _ _ _ _ _ _ _ (Qce (lows BW (a*2^k) (i+W+1)) (by rw [hll];simp [maxLen];omega)) ?_;simp -implicitDefEqProofs only [go_sem,Nat.reduceAdd,Nat.reduceEqDiff,Nat.reduceLT,reduceCtorEq,dw];rw [Qbb BW_2,Nat.mod_eq_of_lt];rw [Nat.add_assoc,Nat.pow_add];have h2:2^k<BW^(W+1):=by
    rw [show BW=2^64 from rfl,←Nat.pow_mul];exact Nat.pow_lt_pow_right (by decide) (by omega)
   exact Nat.lt_of_lt_of_le (Nat.mul_lt_mul_of_pos_right hlt (Nat.pow_pos (by decide))) (Nat.mul_le_mul_left _ (Nat.le_of_lt h2))
end Go.Proofs.YtapjnenbofmliaaGreatDoor

namespace Go.Proofs.YtapjnenbofmliaaGreatDoor
open Go.Vl Go.RowKit Go.Dg
theorem Zev (l:List Nat):((l.map fW).all fun e=>e.cells.length==1&&e.cells.all PV.okCell)=true:=by
 rw [List.all_map,List.all_eq_true];intro _ _;rfl
theorem Q6v (l:List Nat) (hl:0<l.length) (hl2:l.length≤1000000000):Qdy Tryz.prog 116 [dw l] [] (.bs 302 1 0 l.length) [(302,wB l)]:=by
 have h0:l.isEmpty=false:=by cases l with|nil=>simp at hl|cons=>rfl
 have h1:(l.length*8≤140737488355328)=True:=by simp only [eq_iff_iff,iff_true];omega
 have h2:(l.length≤maxLen)=True:=by simp only [eq_iff_iff,iff_true];unfold maxLen;omega
 refine Qfn (tb:=[]) 8 [.tmp 2] [0,2,4] mixed Tryz.func116 rfl (by kernel_rfl) (by kernel_rfl) (by kernel_rfl) (by kernel_rfl) (by rfl) ?_;simp -implicitDefEqProofs only [go_sem,seval,dw,h0,List.length_map,h1,h2,Zev];refine Qcn (.inl rfl) ?_;simp -implicitDefEqProofs only [go_sem,seval];refine Qa0 (θ:=[(302,302)]) rfl ?_ ?_
 ·simp [Qag,lkp,ren1,ren0]
 ·simp [Qal,lkp,Box.renames]
attribute [local go_sem high] Q62
theorem Zdd (a k:Nat) (ha:(digs BW a).length≤1000000000) (hk:k≤1000000000):Qaf Tryz.prog 104 [dw (digs BW a),.int .i64 (k:Int)] (dw (digs BW (a/2^k))):=by
 have hlt:a<BW^(digs BW a).length:=Qaw BW_2 a;obtain⟨W,hW⟩: ∃W,W=k/64:=⟨_,rfl⟩;obtain⟨r,hr⟩: ∃r,r=k%64:=⟨_,rfl⟩;have hr64:r<64:=by rw [hr];exact Nat.mod_lt _ (by decide)
 have hkr:k=64*W+r:=by omega
 have d1:Int.tdiv (k:Int) 64=(W:Int):=by rw [Q8g,hW]
 have d2:Int.tmod (k:Int) 64=(r:Int):=by rw [Q8h,hr]
 have hWl:W≤1000000000:=by omega
 clear hW hr;have q1:=wrapn (n:=W) (by omega);have hpk:2^k=BW^W*2^r:=by rw [hkr,Nat.pow_add,Nat.pow_mul]
 have hq:a/2^k=a/BW^W/2^r:=by rw [hpk,Nat.div_div_eq_div_mul]

 refine Qac (tb:=[(403,[],[(302,403)])]) 59 [.tmp 4] [0,1,4,5,6,7,8,16,22,24,25,26,39] mixed Tryz.func104 rfl (by kernel_rfl) (by kernel_rfl) (by kernel_rfl) (by kernel_rfl) ?_;by_cases hN:(digs BW a).length≤W
 ·have g1:(((digs BW a).length:Int)≤(W:Int))=True:=by simp only [eq_iff_iff,iff_true];omega
  have e:digs BW (a/2^k)=[]:=by
   rw [hq,Qa3 BW_2 hN,Nat.zero_div,Qan]
  rw [e];simp -implicitDefEqProofs only [go_sem,seval,dw,List.length_map,d1,d2,q1,g1,List.map_nil]
 have g1:(((digs BW a).length:Int)≤(W:Int))=False:=by simp only [eq_iff_iff,iff_false];omega
 have hA0: ∀j,a/BW^(W+j)=a/BW^W/BW^j:=fun j=>by rw [Nat.pow_add,Nat.div_div_eq_div_mul]
 have hn0:(0≤(W:Int))=True:=by simp
 have hn1:((W:Int)≤((digs BW a).length:Int))=True:=by simp only [eq_iff_iff,iff_true];omega
 have hsl:(((digs BW a).map fW).take (digs BW a).length).drop W=(lows BW (a/BW^W) ((digs BW a).length-W)).map fW:=by
  rw [List.take_of_length_le (by simp),←List.map_drop];congr 1;apply List.ext_getElem?;intro j;rw [List.getElem?_drop];by_cases hj:W+j<(digs BW a).length
  ·rw [Qam BW_2 hj,Qbe _ _ _ (by omega),hA0]
  ·rw [List.getElem?_eq_none (by omega),List.getElem?_eq_none (by rw [Qae];omega)]
 have hcell:=Q8j (digs BW a);have hAlt:a/BW^W<BW^((digs BW a).length-W):=by
  refine Nat.div_lt_of_lt_mul ?_;rw [←Nat.pow_add,show W+((digs BW a).length-W)=(digs BW a).length by omega];exact hlt
 have hll:=Qae (B:=BW) (a/BW^W) ((digs BW a).length-W);simp -implicitDefEqProofs only [go_sem,seval,dw,List.length_map,d1,d2,q1,g1,hn0,hn1,Int.toNat_natCast,hsl,hcell];refine Qbk _ _ _ _ _ _ _ _ _ (Q6v (lows BW (a/BW^W) ((digs BW a).length-W)) (by rw [hll];omega) (by rw [hll];omega)) ?_;rw [hll];by_cases hr0:r=0
 ·subst hr0;have g0:((0:Int)<(((0:Nat):Nat):Int))=False:=by simp
  have htk:((lows BW (a/BW^W) ((digs BW a).length-W)).map fW).take ((digs BW a).length-W)=(lows BW (a/BW^W) ((digs BW a).length-W)).map fW:=List.take_of_length_le (by simp [hll]);simp -implicitDefEqProofs only [go_sem,seval,wB,g0,List.length_map,hll,htk];refine Qab _ _ _ _ _ _ _ _ _ (Qce (lows BW (a/BW^W) ((digs BW a).length-W)) (by rw [hll];simp [maxLen];omega)) ?_;simp -implicitDefEqProofs only [go_sem,seval,dw];rw [Qbb BW_2,Nat.mod_eq_of_lt hAlt,hq,Nat.pow_zero,Nat.div_one]
 ·have g0:((0:Int)<((r:Nat):Int))=True:=by simp only [eq_iff_iff,iff_true];omega
  simp -implicitDefEqProofs only [go_sem,seval,wB,g0];have hdig:=fun(j:Nat) (h:W+j<(digs BW a).length)=>Qam (n:=a) BW_2 h;generalize hn:(digs BW a).length-W=n at*;have hNn:(digs BW a).length=W+n:=by omega
  have k1:(((r:Nat):Int)<0)=False:=by simp only [eq_iff_iff,iff_false];omega
  have k2:min r 64=r:=by omega
  have k3:IntKind.i64.wrap (64-((r:Nat):Int))=((64-r:Nat):Int):=by rw [Qai (by omega) (by omega)];omega
  have k4:((((64-r:Nat):Nat):Int)<0)=False:=by simp only [eq_iff_iff,iff_false];omega
  have k5:min (64-r) 64=64-r:=by omega
  rw [hq];generalize hAA:a/BW^W=A at*;refine Qa7 mixed (fun i:{i:Nat // i≤n}=>St.of [(0,dw (digs BW a)),(4,.nilS),(5,.int .i64 (W:Int)),(6,.int .i64 (r:Int)),(7,.bs 403 1 0 n),(24,.int .i64 (n:Int)),(25,.int .i64 (i.1:Int))]
   [(403,wB (mix BW (A/2^r) A n i.1))]) (fun i=>n-i.1) ⟨0,Nat.zero_le _⟩ ?_ ?_
  ·refine Qa0 (θ:=[(403,403)]) rfl ?_ ?_
   ·simp [Qag,lkp,ren1,ren0,dw]
   ·simp [Qal,lkp,Box.renames,Qgo]
  ·rintro⟨i,hi⟩;have hml:=Qba (B:=BW) (A/2^r) A n i;by_cases hA:i<n
   ·have hA':((i:Int)<(n:Int))=True:=by simp;omega
    have hi0:(0≤(i:Int))=True:=by simp
    have hwk:=Qay (a:=i) (by omega);have hgo:((mix BW (A/2^r) A n i).map fW)[i]? =some (PV.int .u64 ((A/BW^i%BW:Nat):Int)):=by
     rw [List.getElem?_map,Qcd _ _ _ _ _ hA,if_neg (Nat.lt_irrefl _)];rfl
    by_cases hB:i+1<n
    ·have hB':(((i+1:Nat):Int)<(n:Int))=True:=by simp only [eq_iff_iff,iff_true];omega
     have hsd:=Qwe A i r (by omega) hr64;have hset:=Qcz (B:=BW) (V:=A/2^r) (W:=A/2^r) (S:=A) (n:=n) (m:=i) (by decide) hA rfl rfl;have hga:(digs BW a)[W+i+1]? =some (A/BW^(i+1)%BW):=by
      have h:=hdig (i+1) (by omega);rw [hA0 (i+1)]at h;exact h
     have w1:=Qbx (a:=W) (b:=i) (by omega);have w2:=Qay (a:=W+i) (by omega);have b1:(0≤((W+i+1:Nat):Int))=True:=by simp only [eq_iff_iff,iff_true];omega
     have hgo2:(((mix BW (A/2^r) A n i).map fW).set i (.int .u64 ((A/BW^i%BW/2^r:Nat):Int)))[i]? =some (PV.int .u64 ((A/BW^i%BW/2^r:Nat):Int)):=by
      rw [List.getElem?_set_self (by rw [List.length_map,hml];exact hA)]
     have e1:A/BW^i%BW/2^r%18446744073709551616=A/BW^i%BW/2^r:=Nat.mod_eq_of_lt (Nat.lt_of_le_of_lt (Nat.div_le_self _ _) (Nat.mod_lt _ (by decide)));simp -implicitDefEqProofs only [go_sem,seval,wB,dw,hA',hi0,Int.toNat_natCast,hgo,k1,k2,Qg1,hwk,hB',hgo2,w1,w2,b1,Qb2,hga,k3,k4,k5,Qj2,Nat.mod_mod,e1,List.set_set];refine⟨Qah _ _ (by kernel_rfl),⟨i+1,hA⟩,by simp only;omega,Qa0 (θ:=[(403,403)]) rfl ?_ ?_⟩
     ·simp [Qag,lkp,ren1,ren0,dw]
     ·simp only [WB]at hsd;rw [Qb8,hsd,hset];simp [Qal,lkp,Box.renames]
    ·have hB':(((i+1:Nat):Int)<(n:Int))=False:=by simp only [eq_iff_iff,iff_false];omega
     have hsd:=Q8t A i r (by rw [show i+1=n by omega];exact Nat.div_eq_of_lt hAlt);have hset:=Qcz (B:=BW) (V:=A/2^r) (W:=A/2^r) (S:=A) (n:=n) (m:=i) (by decide) hA rfl rfl;simp -implicitDefEqProofs only [go_sem,seval,wB,dw,hA',hi0,Int.toNat_natCast,hgo,k1,k2,Qg1,hwk,hB'];refine⟨⟨i+1,hA⟩,by simp only;omega,Qa0 (θ:=[(403,403)]) rfl ?_ ?_⟩
     ·simp [Qag,lkp,ren1,ren0,dw]
     ·simp only [WB]at hsd;rw [Qb8,hsd,hset];simp [Qal,lkp,Box.renames]
   ·have hA':((i:Int)<(n:Int))=False:=by simp;omega
    obtain rfl:i=n:=by omega
    have hm:mix BW (A/2^r) A i i=lows BW (A/2^r) i:=Qmk _ _ _ _;have hl2:=Qae (B:=BW) (A/2^r) i;have htk:((lows BW (A/2^r) i).map fW).take i=(lows BW (A/2^r) i).map fW:=List.take_of_length_le (by simp [hl2]);simp -implicitDefEqProofs only [go_sem,seval,wB,hA',hm,List.length_map,hl2,htk];refine Qab _ _ _ _ _ _ _ _ _ (Qce (lows BW (A/2^r) i) (by rw [hl2];simp [maxLen];omega)) ?_;simp -implicitDefEqProofs only [go_sem,seval,dw];rw [Qbb BW_2,Nat.mod_eq_of_lt (Nat.lt_of_le_of_lt (Nat.div_le_self _ _) hAlt)]
end Go.Proofs.YtapjnenbofmliaaGreatDoor

namespace Go.Dg
theorem Qtt {α:Type} (E L:List α) (i n:Nat) (z:α) (hL:L.length≤n) (hi:i+n≤E.length):
  (E.take i++List.replicate n z++E.drop (i+n)).take i++L++(E.take i++List.replicate n z++E.drop (i+n)).drop (i+L.length)=E.take i++(L++List.replicate (n-L.length) z)++E.drop (i+n):=by
 have hl:(E.take i).length=i:=by simp;omega
 rw [List.append_assoc (E.take i) (List.replicate n z)];generalize hT:E.take i=T at*;generalize E.drop (i+n)=D;have e1:(T++(List.replicate n z++D)).take i=T:=by rw [←hl];exact List.take_left
 have e2:(T++(List.replicate n z++D)).drop (i+L.length)=List.replicate (n-L.length) z++D:=by
  rw [←List.drop_drop,←hl,List.drop_left,List.drop_append];simp only [List.drop_replicate,List.length_replicate];rw [show L.length-n=0 by omega,List.drop_zero]
 rw [e1,e2];simp only [List.append_assoc]
theorem Zb0 {b:Nat} (hb:b≠0):
  (digs WB (b*2^(64-blen (b/WB^((digs WB b).length-1))))).length=(digs WB b).length:=by
 have hp:0<(digs WB b).length:=List.length_pos_iff.2 (mt (Qa4 (by decide)).1 hb);have ht:=Qcs (B:=WB) (by decide) hb;obtain⟨K,hK⟩: ∃K,(digs WB b).length=K+1:=⟨(digs WB b).length-1,by omega⟩;rw [hK,Nat.add_sub_cancel]at ht ⊢;have h64:=Qcy 64 _ ht.2;have hlt:b/WB^K<2^blen (b/WB^K):=by
  rcases Nat.lt_or_ge (b/WB^K) (2^blen (b/WB^K))with h|h
  ·exact h
  ·have:=Qjk _ _ h;omega
 apply Nat.le_antisymm
 ·refine(Qaj (by decide) _ _).2 ?_;have h1:b<2^blen (b/WB^K)*WB^K:=(Nat.div_lt_iff_lt_mul (WBp K)).1 hlt;have h2:=Nat.mul_lt_mul_of_pos_right h1 (show 0<2^(64-blen (b/WB^K))from Nat.pow_pos (by decide));rw [Nat.mul_right_comm,←Nat.pow_add,show blen (b/WB^K)+(64-blen (b/WB^K))=64 by omega]at h2;rw [Nat.pow_succ,Nat.mul_comm (WB^K)];exact h2
 ·have h3:K<(digs WB b).length:=by omega
  have h4:=(Qbr (by decide) b K).1 h3;refine(Qbr (by decide) _ K).2 ?_;have h5:b/WB^K≤b*2^(64-blen (b/WB^K))/WB^K:=Nat.div_le_div_right (Nat.le_mul_of_pos_right b (Nat.pow_pos (by decide)));exact Nat.ne_of_gt (Nat.lt_of_lt_of_le (Nat.pos_of_ne_zero h4) h5)
end Go.Dg

namespace Go.Proofs.YtapjnenbofmliaaGreatDoor
open Go.Vl Go.RowKit Go.Dg
theorem Zaw (a b:Nat) (h:a<b) (ha:(digs BW a).length≤100000000) (hbl:(digs BW b).length≤100000000):Qaf Tryz.prog 86 [dw (digs BW a),dw (digs BW b)] (.tup [dw (digs BW (a/b)),dw (digs BW (a%b))]):=by
 have hc:=Qck a b (by omega) (by omega);have g1:(cmpW a b<0)=True:=by simp only [eq_iff_iff,iff_true];exact(Qc8 a b).2 h
 rw [Nat.div_eq_of_lt h,Nat.mod_eq_of_lt h,Qan];refine Qac (tb:=[]) 145 [.tmp 4,.tmp 5] [0,1,4,5,6,7,8,9,10,11,12,13,14,15,16,17,21,25,68,82,121] mixed Tryz.func86 rfl (by kernel_rfl) (by kernel_rfl) (by kernel_rfl) (by kernel_rfl) ?_;repeat (first|(simp -implicitDefEqProofs only [go_sem,seval,dw,g1,List.map_nil])|((with_reducible refine Qaa hc ?_ ?_ ?_);rfl;rfl))
theorem Q6w (a b:Nat) (h:b≤a) (hb:0<b) (h1:b<18446744073709551616) (ha:(digs BW a).length≤100000000):Qaf Tryz.prog 86 [dw (digs BW a),dw (digs BW b)] (.tup [dw (digs BW (a/b)),dw (digs BW (a%b))]):=by
 have hd:digs BW b=[b]:=by rw [Qdh BW_2 (by omega),Nat.mod_eq_of_lt h1,Nat.div_eq_of_lt h1,Qan]
 have hc:=Qck a b (by omega) (by rw [hd];simp);have g1:(cmpW a b<0)=False:=by simp only [eq_iff_iff,iff_false];rw [Qc8];omega
 have hs:=Qm5 a b hb h1 (by omega);have hr:a%b<BW:=Nat.lt_trans (Nat.mod_lt _ hb) h1;have ht:=Qce [a%b] (by simp [maxLen]);rw [Qd5 hr]at ht;rw [hd]at hc ⊢;have z1:(((0+1:Nat):Int)==1)=true:=rfl;have z2:(((1:Nat):Int)==1)=true:=rfl;refine Qac (tb:=[]) 145 [.tmp 4,.tmp 5] [0,1,4,5,6,7,8,9,10,11,12,13,14,15,16,17,21,25,68,82,121] mixed Tryz.func86 rfl (by kernel_rfl) (by kernel_rfl) (by kernel_rfl) (by kernel_rfl) ?_;repeat (first|(simp -implicitDefEqProofs only [go_sem,seval,dw,g1,List.map_nil,List.map_cons,z1])|((with_reducible refine Qaa hc ?_ ?_ ?_);rfl;rfl)|((with_reducible refine Qaa hs ?_ ?_ ?_);rfl;rfl)|((with_reducible refine Qaa ht ?_ ?_ ?_);rfl;rfl))
theorem Qz7 (l:List Nat):((l.map fW).all fun e=>e.cells.length==1&&e.cells.all flatc)=true:=by
 rw [List.all_map,List.all_eq_true];intro _ _;rfl
set_option maxHeartbeats 4000000 in
theorem Qz8 (a b:Nat) (h:b≤a) (hb1:2≤(digs BW b).length) (ha:(digs BW a).length≤100000000):Qaf Tryz.prog 86 [dw (digs BW a),dw (digs BW b)] (.tup [dw (digs BW (a/b)),dw (digs BW (a%b))]):=by
 have hb0:b≠0:=by rintro rfl;rw [Qan]at hb1;simp at hb1
 have hkN:(digs BW b).length≤(digs BW a).length:=(Qaj BW_2 b _).2 (Nat.lt_of_le_of_lt h (Qaw BW_2 a));have hc:=Qck a b (by omega) (by omega);have g1:(cmpW a b<0)=False:=by simp only [eq_iff_iff,iff_false];rw [Qc8];omega
 have htop:=Qcs BW_2 hb0;have hga:=Qam (n:=b) (k:=(digs BW b).length-1) BW_2 (by omega);rw [Nat.mod_eq_of_lt htop.2]at hga;have hdk:=Zb0 hb0;have hlz:=Q0c (b/BW^((digs BW b).length-1)) htop.2;have hs64:64-blen (b/BW^((digs BW b).length-1))≤64:=by omega
 obtain⟨s,hs⟩: ∃s,s=64-blen (b/BW^((digs BW b).length-1)):=⟨_,rfl⟩;simp only [WB]at hdk;simp only [BW]at hs hlz hdk;rw [←hs]at hlz hdk hs64;have hsb:=Q8i b s (by omega) (by omega);have hsa:=Q8i a s (by omega) (by omega);have hR0:a*2^s<BW^((digs BW a).length+1):=by
  rw [Nat.pow_succ];exact Nat.mul_lt_mul_of_lt_of_le (Qaw BW_2 a) (Nat.pow_le_pow_right (n:=2) (by decide) hs64) (by decide)
 have hL0:(digs BW (a*2^s)).length≤(digs BW a).length+1:=(Qaj BW_2 _ _).2 hR0;have hbk:BW^((digs BW b).length-1)≤b:=by
  have:=(Qbr BW_2 b ((digs BW b).length-1)).1 (by omega);rcases Nat.lt_or_ge b (BW^((digs BW b).length-1))with h'|h'
  ·exact absurd (Nat.div_eq_of_lt h') this
  ·exact h'
 have hRd:a*2^s<b*2^s*BW^((digs BW a).length+1-(digs BW b).length):=by
  have e:BW^(digs BW a).length=BW^((digs BW b).length-1)*BW^((digs BW a).length+1-(digs BW b).length):=by
   rw [←Nat.pow_add];congr 1;omega
  have h1:=Qaw BW_2 a;rw [e]at h1;have h2:=Nat.lt_of_lt_of_le h1 (Nat.mul_le_mul_right _ hbk);rw [Nat.mul_right_comm];exact Nat.mul_lt_mul_of_pos_right h2 (Nat.pow_pos (by decide))
 have hq:a/b=a*2^s/(b*2^s):=(Nat.mul_div_mul_right a b (Nat.pow_pos (by decide))).symm;have hm:a%b*2^s=a*2^s%(b*2^s):=(Nat.mul_mod_mul_right _ a b).symm;have hd0:0<b*2^s:=Nat.mul_pos (by omega) (Nat.pow_pos (by decide));have hpad:=Qgm BW_2 (a*2^s) ((digs BW a).length+1) hL0;generalize hRR:a*2^s=R0 at*;generalize hdd:b*2^s=d at*;generalize hN:(digs BW a).length=N at*;generalize hkk:(digs BW b).length=k at*;obtain⟨nq,hnq⟩: ∃nq,nq=N+1-k:=⟨_,rfl⟩;rw [←hnq]at hRd;have z1:((k:Int)==1)=false:=by simp only [beq_eq_false_iff_ne,ne_eq];omega
 have z2:IntKind.i64.wrap ((k:Int)-1)=((k-1:Nat):Int):=by rw [Qai (by omega) (by omega)];omega
 have z3:(0≤((k-1:Nat):Int))=True:=by simp only [eq_iff_iff,iff_true];exact Int.natCast_nonneg _
 have z4:=Qay (a:=N) (by omega);have z5:((0:Int)≤((N+1:Nat):Int))=True:=by simp only [eq_iff_iff,iff_true];omega
 have z6:((8:Nat):Int)*((N+1:Nat):Int)≤281474976710656:=by omega
 have z7:((N+1:Nat):Int)≤9223372036854775807:=by omega
 have z8:IntKind.i64.wrap (((N+1:Nat):Int)-(k:Int))=(nq:Int):=by rw [Qai (by omega) (by omega)];omega
 have z9:((0:Int)≤(nq:Int))=True:=by simp only [eq_iff_iff,iff_true];omega
 have z10:((8:Nat):Int)*(nq:Int)≤281474976710656:=by omega
 have z11:(nq:Int)≤9223372036854775807:=by omega
 have z12:IntKind.i64.wrap ((nq:Int)-1)=(nq:Int)-1:=Qai (by omega) (by omega);have z13:Nat.ble 0 0=true:=rfl;have z14:Nat.ble (digs BW R0).length (N+1)=true:=Nat.ble_eq_true_of_le hL0;have z15:min (digs BW R0).length (N+1)=(digs BW R0).length:=Nat.min_eq_left hL0

 refine Qac (tb:=[(1901,[(1000000,706)],[]),(2201,[(1000000,706)],[]),(2203,[(1000000,706)],[(102,2203)])]) 145 [.tmp 4,.tmp 5] [0,1,4,5,6,7,8,9,10,11,12,13,14,15,16,17,21,25,68,82,121] mixed Tryz.func86 rfl (by kernel_rfl) (by kernel_rfl) (by kernel_rfl) (by kernel_rfl) ?_;simp -implicitDefEqProofs only [go_sem,Nat.reduceAdd,Nat.reduceMul,Nat.reduceEqDiff,Nat.reduceLT,Nat.reduceLeDiff,reduceCtorEq,dw];refine Qab _ _ _ _ _ _ _ _ _ hc ?_;simp -implicitDefEqProofs only [go_sem,Nat.reduceAdd,Nat.reduceMul,Nat.reduceEqDiff,Nat.reduceLT,Nat.reduceLeDiff,reduceCtorEq,g1,List.length_map,hkk,z1,z2,z3,Qb2,hga,Int.toNat_natCast];refine Qab _ _ _ _ _ _ _ _ _ hlz ?_;simp -implicitDefEqProofs only [go_sem,Nat.reduceAdd,Nat.reduceMul,Nat.reduceEqDiff,Nat.reduceLT,Nat.reduceLeDiff,reduceCtorEq];refine Qab _ _ _ _ _ _ _ _ _ hsb ?_;simp -implicitDefEqProofs only [go_sem,Nat.reduceAdd,Nat.reduceMul,Nat.reduceEqDiff,Nat.reduceLT,Nat.reduceLeDiff,reduceCtorEq,dw,List.length_map,hN,z4,z5,z6,z7,Int.toNat_natCast];refine⟨Qah _ _ (by kernel_rfl),?_⟩;refine Qab _ _ _ _ _ _ _ _ _ hsa ?_;have hfl:=Qz7 (digs BW R0);have htk0:((digs BW R0).map fW).take (digs BW R0).length=(digs BW R0).map fW:=List.take_of_length_le (by simp);have hcp:(digs BW R0).map fW++(List.replicate (N+1) (PV.int .u64 0)).drop (digs BW R0).length=(lows BW R0 (N+1)).map fW:=by
  rw [←hpad,List.map_append,List.drop_replicate,List.map_replicate];rfl
 have hrep:List.replicate nq (PV.int .u64 0)=(mix BW 0 (R0/d) nq nq).map fW:=by rw [Qmk,Qdf];simp
 simp -implicitDefEqProofs only [go_sem,Nat.reduceAdd,Nat.reduceMul,Nat.reduceEqDiff,Nat.reduceLT,Nat.reduceLeDiff,reduceCtorEq,dw,List.length_map,hfl,z13,z14,z15,htk0,hcp,List.length_replicate,hdk,z8,z9,z10,z11,z12,Int.toNat_natCast];rw [hrep];have hst:R0%(d*BW^nq)=R0:=Nat.mod_eq_of_lt hRd;refine Qa7 mixed (fun i:{i:Nat // i≤nq}=>St.of [(8,.int .i64 (s:Int)),(9,dw (digs BW d)),(10,.bs 706 1 0 (N+1)),(11,.int .i64 (k:Int)),(12,.bs 1004 1 0 nq),(13,.int .i64 ((i.1:Int)-1))]
  [(706,wB (lows BW (R0%(d*BW^i.1)) (N+1))),(1004,wB (mix BW 0 (R0/d) nq i.1))]) (fun i=>i.1) ⟨nq,Nat.le_refl _⟩ ?_ ?_
 ·refine Qa0 (θ:=[(706,706),(1004,1004)]) rfl ?_ ?_
  ·simp [Qag,lkp,ren1,ren0,dw]
  ·simp [Qal,lkp,Box.renames,hst]
 ·rintro⟨i,hi⟩;cases i with
  |zero=>
   have h1:((0:Int)≤((0:Nat):Int)-1)=False:=by simp
   have e0:R0%(d*BW^0)=R0%d:=by rw [Nat.pow_zero,Nat.mul_one]
   have hll:=Qae (B:=BW) (R0/d) nq;have htk:=List.take_of_length_le (l:=(lows BW (R0/d) nq).map fW) (i:=nq) (by simp [hll]);have hll2:=Qae (B:=BW) (R0%d) (N+1);have htk2:=List.take_of_length_le (l:=(lows BW (R0%d) (N+1)).map fW) (i:=N+1) (by simp [hll2]);have ht1:=Qce (lows BW (R0/d) nq) (by rw [hll];unfold maxLen;omega);have ht2:=Qce (lows BW (R0%d) (N+1)) (by rw [hll2];unfold maxLen;omega);rw [Qbb BW_2,Nat.mod_eq_of_lt (Nat.div_lt_of_lt_mul hRd)]at ht1;rw [Qbb BW_2,Nat.mod_eq_of_lt (Nat.lt_of_le_of_lt (Nat.mod_le _ _) hR0)]at ht2;have hL3:(digs BW (a%b*2^s)).length≤N+1:=(Qaj BW_2 _ _).2 (by rw [hm];exact Nat.lt_of_le_of_lt (Nat.mod_le _ _) hR0);have hsr:=Zdd (a%b*2^s) s (by omega) (by omega);rw [Nat.mul_div_cancel _ (Nat.pow_pos (by decide)),hm]at hsr;rw [hq];repeat (first|(simp -implicitDefEqProofs only [go_sem,Nat.reduceAdd,Nat.reduceMul,Nat.reduceEqDiff,Nat.reduceLT,Nat.reduceLeDiff,reduceIte,reduceCtorEq,h1,e0,wB,Qgo,List.length_map,hll,htk,hll2,htk2,dw])|((with_reducible refine Qaa ht1 ?_ ?_ ?_);rfl;rfl)|((with_reducible refine Qaa ht2 ?_ ?_ ?_);rfl;rfl)|((with_reducible refine Qaa hsr ?_ ?_ ?_);rfl;rfl))
  |succ i=>
   have hs1:(((i+1:Nat):Int)-1)=(i:Int):=by omega
   have i0:((0:Int)≤(i:Int))=True:=by simp
   have hik:i+k≤N:=by omega
   obtain⟨S,hS⟩: ∃S,S=R0%(d*BW^(i+1)):=⟨_,rfl⟩;obtain⟨W,hW⟩: ∃W,W=S/BW^i:=⟨_,rfl⟩;obtain⟨Q,hQ⟩: ∃Q,Q=R0/d/BW^i%BW:=⟨_,rfl⟩;have hdg:=Q2a (B:=BW) (by decide) R0 d i hd0;rw [←hS,←hW,←hQ]at hdg;have hQB:Q<BW:=by rw [hQ];exact Nat.mod_lt _ (by decide)
   have hdk2:d<BW^k:=by rw [←hdk];exact Qaw BW_2 d
   have hWd:W<d*BW:=by
    rw [hW];refine Nat.div_lt_of_lt_mul ?_;rw [hS,Nat.mul_comm (BW^i),Nat.mul_assoc,Nat.mul_comm BW,←Nat.pow_succ];exact Nat.mod_lt _ (Nat.mul_pos hd0 (Nat.pow_pos (by decide)))
   have hWk:W<BW^(k+1):=by
    rw [Nat.pow_succ];exact Nat.lt_trans hWd (Nat.mul_lt_mul_of_pos_right hdk2 (by decide))
   have hll:=Qae (B:=BW) S (N+1);have hSW: ∀j,S/BW^(i+j)=W/BW^j:=fun j=>by rw [hW,Nat.pow_add,Nat.div_div_eq_div_mul]
   have hQle:d*Q≤W:=by rw [←hdg];exact Nat.mul_div_le W d
   have hQmax: ∀p,d*p≤W→p≤Q:=fun p hp=>by rw [←hdg,Nat.le_div_iff_mul_le hd0,Nat.mul_comm];exact hp
   have hLd: ∀p,p<BW→(digs BW (d*p)).length≤1000000000:=fun p hp=>by
    refine Nat.le_trans ((Qaj BW_2 _ (k+1)).2 ?_) (show k+1≤1000000000 by omega);rw [Nat.pow_succ];exact Nat.mul_lt_mul_of_lt_of_le hdk2 (Nat.le_of_lt hp) (by decide)
   have hLW:(digs BW W).length≤k+1:=(Qaj BW_2 _ _).2 hWk;have hwin:((lows BW S (N+1)).drop i).take (k+1)=lows BW W (k+1):=by rw [Qjm _ _ _ _ _ (by omega),←hW]
   have htB:=Qsn (lows BW S (N+1)) i (k+1) (by rw [hll];omega) (by rw [hll];unfold maxLen;omega);rw [hwin,Qbb BW_2,Nat.mod_eq_of_lt hWk]at htB;have hwd2:((lows BW S (N+1)).drop i).take (digs BW W).length=digs BW W:=by
    rw [Qjm _ _ _ _ _ (by omega),←hW,Qe2 BW_2]
   have hesc:(((lows BW S (N+1)).map fW).drop i).take (digs BW W).length=(digs BW W).map fW:=by
    rw [←List.map_drop,←List.map_take,hwd2]
   have b7:(i+(digs BW W).length≤N+1)=True:=by simp only [eq_iff_iff,iff_true];omega
   have hg1:((lows BW S (N+1)).map fW)[i+k]? =some (PV.int .u64 ((W/BW^k:Nat):Int)):=by
    have h5:W/BW^k<BW:=Nat.div_lt_of_lt_mul (by rw [←Nat.pow_succ];exact hWk);rw [List.getElem?_map,Qbe _ _ _ (by omega),hSW,Nat.mod_eq_of_lt h5];rfl
   have hg2:((lows BW S (N+1)).map fW)[i+k-1]? =some (PV.int .u64 ((W/BW^(k-1)%BW:Nat):Int)):=by
    rw [List.getElem?_map,show i+k-1=i+(k-1)by omega,Qbe _ _ _ (by omega),hSW];rfl
   have htd:=Qcs BW_2 (show d≠0 by omega);rw [hdk]at htd;have hgd:=Qam (n:=d) (k:=k-1) BW_2 (by rw [hdk];omega);rw [Nat.mod_eq_of_lt htd.2]at hgd;have wik:=Qbx (a:=i) (b:=k) (by omega);have wik1:=Qay (a:=i+k) (by omega);have wikm:IntKind.i64.wrap (((i+k:Nat):Int)-1)=((i+k-1:Nat):Int):=by rw [Qai (by omega) (by omega)];omega
   have b1:(0≤((i+k:Nat):Int))=True:=by simp only [eq_iff_iff,iff_true];exact Int.natCast_nonneg _
   have b2:(((i+k:Nat):Int)<((N+1:Nat):Int))=True:=by simp only [eq_iff_iff,iff_true];omega
   have b2a:(0≤((i+k-1:Nat):Int))=True:=by simp only [eq_iff_iff,iff_true];exact Int.natCast_nonneg _
   have b2b:(((i+k-1:Nat):Int)<((N+1:Nat):Int))=True:=by simp only [eq_iff_iff,iff_true];omega
   have b3:((i:Int)≤((i+k+1:Nat):Int))=True:=by simp only [eq_iff_iff,iff_true];omega
   have b4:(((i+k+1:Nat):Int)≤((N+1:Nat):Int))=True:=by simp only [eq_iff_iff,iff_true];omega
   have b5:(i<i+k+1)=True:=by simp only [eq_iff_iff,iff_true];omega
   have hsub:i+k+1-i=k+1:=by omega
   have hsB:=Zav (lows BW S (N+1)) i W (d*Q) hQle hwd2 (by rw [hll];omega) (by omega);have b8:Nat.ble 0 i=true:=Nat.ble_eq_true_of_le (Nat.zero_le _);have b9:Nat.ble (i+(k+1)) (N+1)=true:=Nat.ble_eq_true_of_le (by omega);have hWQ:W-d*Q<d:=by
    have h5:=Nat.mod_lt W hd0;have h6:=Nat.div_add_mod W d;rw [hdg]at h6;generalize d*Q=dq at*;omega
   have hLq:(digs BW (W-d*Q)).length≤k:=(Qaj BW_2 _ _).2 (Nat.lt_trans hWQ hdk2);have hLq2:(digs BW (W-d*Q)).length≤(digs BW W).length:=(Qaj BW_2 _ _).2 (Nat.lt_of_le_of_lt (Nat.sub_le _ _) (Qaw BW_2 W));have hmn:min (digs BW (W-d*Q)).length (k+1)=(digs BW (W-d*Q)).length:=Nat.min_eq_left (by omega);have hllf:=Qae (B:=BW) (W-d*Q) (digs BW W).length;have b11:((digs BW (W-d*Q)).length≤(digs BW W).length)=True:=by simp only [eq_iff_iff,iff_true];exact hLq2
   have hlft:((lows BW (W-d*Q) (digs BW W).length).map fW).take (digs BW (W-d*Q)).length=(digs BW (W-d*Q)).map fW:=by
    rw [←List.map_take,Qoe _ _ _ hLq2,Qe2 BW_2]
   have hfl3:=Qz7 (digs BW (W-d*Q));have htk3:((digs BW (W-d*Q)).map fW).take (digs BW (W-d*Q)).length=(digs BW (W-d*Q)).map fW:=List.take_of_length_le (by simp);have hlen3:(((lows BW S (N+1)).map fW).take i++List.replicate (k+1) (PV.int .u64 0)++((lows BW S (N+1)).map fW).drop (i+(k+1))).length=N+1:=by simp [hll];omega
   have b12:Nat.ble (i+(digs BW (W-d*Q)).length) (N+1)=true:=Nat.ble_eq_true_of_le (by omega);have b10:Nat.ble 0 0=true:=rfl;have hinq:((i:Int)<(nq:Int))=True:=by simp only [eq_iff_iff,iff_true];omega
   have hmlq:=Qba (B:=BW) 0 (R0/d) nq (i+1);obtain⟨e,hgoq⟩: ∃e:Nat,((mix BW 0 (R0/d) nq (i+1)).map fW)[i]? =some (PV.int .u64 (e:Int)):=⟨_,by rw [List.getElem?_map,Qcd _ _ _ _ _ (by omega)];rfl⟩;have hsetq:=Qms (B:=BW) (V:=0) (S:=R0/d) (N:=nq) (i:=i) (d:=Q) (by omega) hQ.symm;have w4:IntKind.i64.wrap ((i:Int)-1)=(i:Int)-1:=Qai (by omega) (by omega);obtain⟨S',hS'⟩: ∃S',S'=R0%(d*BW^i):=⟨_,rfl⟩;have hnx:S%(d*BW^i)=S':=by rw [hS,hS'];exact Q8u R0 d i
   have hup:S'/BW^i=W-d*Q:=by
    rw [←hnx,Q2b (by decide) S d i hd0,←hW];have h6:=Nat.div_add_mod W d;rw [hdg]at h6;omega
   have hlo:S%BW^i=S'%BW^i:=by rw [←hnx,Q2c (by decide)]
   have hpad2:=Qgm BW_2 (W-d*Q) (k+1) (Nat.le_succ_of_le hLq);have hz1:S/BW^(i+(k+1))=0:=by rw [hSW];exact Nat.div_eq_of_lt hWk
   have hz2:S'/BW^(i+(k+1))=0:=by
    rw [Nat.pow_add,←Nat.div_div_eq_div_mul,hup];exact Nat.div_eq_of_lt (Nat.lt_of_le_of_lt (Nat.sub_le _ _) hWk)
   have hov2:=Qwf (B:=BW) (V:=S) (W:=S') (n:=N+1) (j:=i) (x:=lows BW (W-d*Q) (k+1)) (by decide) (by rw [Qae];omega) hlo (by rw [Qae,hup]) (by rw [Qae,hz1,hz2]);rw [Qae,←hpad2]at hov2;have hfin:(((lows BW S (N+1)).map fW).take i++List.replicate (k+1) (PV.int .u64 0)++((lows BW S (N+1)).map fW).drop (i+(k+1))).take i++(digs BW (W-d*Q)).map fW++
     (((lows BW S (N+1)).map fW).take i++List.replicate (k+1) (PV.int .u64 0)++((lows BW S (N+1)).map fW).drop (i+(k+1))).drop (i+(digs BW (W-d*Q)).length)=(lows BW (R0%(d*BW^i)) (N+1)).map fW:=by
    have h7:=Qtt ((lows BW S (N+1)).map fW) ((digs BW (W-d*Q)).map fW) i (k+1) (PV.int .u64 0) (by rw [List.length_map];omega) (by rw [List.length_map,hll];omega);rw [List.length_map]at h7;rw [h7,←hS',←hov2,List.map_append,List.map_append,List.map_append,List.map_take,List.map_drop,List.map_replicate];rfl
   by_cases hcase:W/BW^k<d/BW^(k-1)
   ·have g5:(((W/BW^k:Nat):Int)<((d/BW^(k-1):Nat):Int))=True:=by simp only [eq_iff_iff,iff_true];omega
    have hdv:=Qz5 (W/BW^k) (W/BW^(k-1)%BW) (d/BW^(k-1)) hcase htd.2 (Nat.mod_lt _ (by decide));have htt:=Q8v (B:=BW) (by decide) W (k-1);rw [show k-1+1=k by omega]at htt;simp only [BW]at hdv htt;rw [←htt]at hdv;have hov:=Qtp (B:=BW) (by decide) W d (k-1) (Nat.pos_of_ne_zero htd.1);rw [hdg]at hov;have hgB':W/BW^(k-1)/(d/BW^(k-1))<BW:=by
     rw [Nat.div_lt_iff_lt_mul (Nat.pos_of_ne_zero htd.1)];simp only [BW];rw [htt];have h6:=Nat.mul_le_mul_right BW (show W/BW^k+1≤d/BW^(k-1)from hcase);have h7:W/BW^(k-1)%BW<BW:=Nat.mod_lt _ (by decide);simp only [BW]at h6 h7;rw [Nat.add_mul,Nat.one_mul]at h6;rw [Nat.mul_comm 18446744073709551616];omega
    simp -implicitDefEqProofs only [go_sem,Nat.reduceAdd,Nat.reduceMul,Nat.reduceEqDiff,Nat.reduceLT,Nat.reduceLeDiff,reduceCtorEq,dw,wB,hs1,i0,wik,wikm,b1,b2,b2a,b2b,z2,z3,Int.toNat_natCast,←hS,hg1,hg2,Qb2,hgd,g5];refine⟨Qah _ _ (by kernel_rfl),?_⟩;refine Qab _ _ _ _ _ _ _ _ _ hdv ?_;simp only [BW]at hov hgB';generalize W/18446744073709551616^(k-1)/(d/18446744073709551616^(k-1))=g at*;have hgQ:Q≤g:=hov;have hgB:g<BW:=hgB';have htg:=Qce [g] (by simp [maxLen]);rw [Qd5 hgB]at htg;have hmg:=Qot d g (by rw [hdk];have:=(Qaj BW_2 g 1).2 (by simpa using hgB);omega);simp -implicitDefEqProofs only [go_sem,Nat.reduceAdd,Nat.reduceMul,Nat.reduceEqDiff,Nat.reduceLT,Nat.reduceLeDiff,reduceCtorEq];refine⟨Qah _ _ (by kernel_rfl),?_⟩;simp -implicitDefEqProofs only [go_sem,Nat.reduceAdd,Nat.reduceMul,Nat.reduceEqDiff,Nat.reduceLT,Nat.reduceLeDiff,reduceIte,reduceCtorEq,i0,b3,b4,b5,wik,wik1,Int.toNat_natCast,hsub,Nat.zero_add];refine Qab _ _ _ _ _ _ _ _ _ htg ?_;simp -implicitDefEqProofs only [go_sem,Nat.reduceAdd,Nat.reduceEqDiff,Nat.reduceLT,dw];refine Qab _ _ _ _ _ _ _ _ _ hmg ?_;simp -implicitDefEqProofs only [go_sem,Nat.reduceAdd,Nat.reduceEqDiff,Nat.reduceLT,reduceCtorEq,dw];refine Qa7 mixed (fun p:{p:Nat // Q≤p∧p<BW}=>St.of [(8,.int .i64 (s:Int)),(9,dw (digs BW d)),(10,.bs 706 1 0 (N+1)),(11,.int .i64 (k:Int)),(12,.bs 1004 1 0 nq),(13,.int .i64 (i:Int)),(14,.int .u64 (p.1:Int)),(15,.bs 706 1 i (k+1)),(16,dw (digs BW (d*p.1)))]
     [(706,wB (lows BW S (N+1))),(1004,wB (mix BW 0 (R0/d) nq (i+1)))]) (fun p=>p.1) ⟨g,hgQ,hgB⟩ ?_ ?_
    ·refine Qa0 (θ:=[(706,706),(1004,1004)]) rfl ?_ ?_
     ·simp [Qag,lkp,ren1,ren0,dw]
     ·simp [Qal,lkp,Box.renames]
    ·rintro⟨p,hp1,hp2⟩;simp only at hp1 hp2 ⊢;have hlp:(digs BW (d*p)).length≤1000000000:=hLd p hp2;have hcm:=Qck W (d*p) (by omega) hlp;simp -implicitDefEqProofs only [go_sem,Nat.reduceAdd,Nat.reduceMul,Nat.reduceEqDiff,Nat.reduceLT,Nat.reduceLeDiff,dw];refine Qbk _ _ _ _ _ _ _ _ _ htB ?_;simp -implicitDefEqProofs only [go_sem,Nat.reduceAdd,Nat.reduceEqDiff,Nat.reduceLT,reduceIte,wB,List.length_map,hll,b7,hesc];refine Qab _ _ _ _ _ _ _ _ _ hcm ?_;by_cases hlt:W<d*p
     ·have k1:(cmpW W (d*p)<0)=True:=by simp only [eq_iff_iff,iff_true];exact(Qc8 _ _).2 hlt
      have hpQ:Q<p:=by
       rcases Nat.lt_or_ge Q p with h'|h'
       ·exact h'
       ·have:=Nat.mul_le_mul_left d (show p≤Q from h');have:=hQle;omega
      have hsb2:=Qow (d*p) d (Nat.le_mul_of_pos_right d (by omega)) hlp;have e6:d*p-d=d*(p-1):=by rw [Nat.mul_sub,Nat.mul_one]
      rw [e6]at hsb2;have w5:IntKind.u64.wrap ((p:Int)-1)=((p-1:Nat):Int):=by rw [Qbm];simp only [BW]at hp2;omega
      simp -implicitDefEqProofs only [go_sem,Nat.reduceAdd,Nat.reduceMul,Nat.reduceEqDiff,Nat.reduceLT,Nat.reduceLeDiff,reduceCtorEq,k1,w5];refine Qab _ _ _ _ _ _ _ _ _ hsb2 ?_;simp -implicitDefEqProofs only [go_sem,Nat.reduceAdd,Nat.reduceEqDiff,Nat.reduceLT,reduceCtorEq,dw];refine⟨⟨p-1,by omega,by omega⟩,by simp only;omega,Qa0 (θ:=[(706,706),(1004,1004)]) rfl ?_ ?_⟩
      ·simp [Qag,lkp,ren1,ren0,dw]
      ·simp [Qal,lkp,Box.renames]
     ·have k1:(cmpW W (d*p)<0)=False:=by simp only [eq_iff_iff,iff_false];rw [Qc8];exact hlt
      obtain rfl:p=Q:=Nat.le_antisymm (hQmax p (by omega)) hp1;simp -implicitDefEqProofs only [go_sem,Nat.reduceAdd,Nat.reduceMul,Nat.reduceEqDiff,Nat.reduceLT,Nat.reduceLeDiff,reduceIte,reduceCtorEq,k1];refine Qbk _ _ _ _ _ _ _ _ _ htB ?_;simp -implicitDefEqProofs only [go_sem,Nat.reduceAdd,Nat.reduceEqDiff,Nat.reduceLT,wB];refine Qbk _ _ _ _ _ _ _ _ _ hsB ?_;simp -implicitDefEqProofs only [go_sem,Nat.reduceAdd,Nat.reduceMul,Nat.reduceEqDiff,Nat.reduceLT,Nat.reduceLeDiff,reduceIte,reduceCtorEq,wB,List.length_map,hll,b8,b9,List.length_replicate,b11,b12,hmn,hlft,hllf,hlen3,hfl3,htk3,Nat.zero_add,i0,hinq,hgoq,Int.toNat_natCast,w4];refine⟨⟨i,by omega⟩,by simp only;omega,Qa0 (θ:=[(706,706),(1004,1004)]) rfl ?_ ?_⟩
      ·simp [Qag,lkp,ren1,ren0,dw]
      ·rw [Qb8,hsetq];simp only [Qal,lkp,Box.renames,hfin,if_true,if_false,reduceCtorEq,Nat.reduceEqDiff,and_self,and_true,true_and];exact⟨.inl trivial,.inl trivial⟩
   ·have g5:(((W/BW^k:Nat):Int)<((d/BW^(k-1):Nat):Int))=False:=by simp only [eq_iff_iff,iff_false];omega
    obtain⟨g,hg⟩: ∃g:Nat,g=18446744073709551615:=⟨_,rfl⟩;have hgI:(18446744073709551615:Int)=((g:Nat):Int):=by rw [hg];rfl
    have hgQ:Q≤g:=by rw [hg];simp only [BW]at hQB;omega
    have hgB:g<BW:=by rw [hg];decide
    have htg:=Qce [g] (by simp [maxLen]);rw [Qd5 hgB]at htg;have hmg:=Qot d g (by rw [hdk];have:=(Qaj BW_2 g 1).2 (by simpa using hgB);omega);simp -implicitDefEqProofs only [go_sem,Nat.reduceAdd,Nat.reduceMul,Nat.reduceEqDiff,Nat.reduceLT,Nat.reduceLeDiff,reduceCtorEq,dw,wB,hs1,i0,wik,b1,b2,z2,z3,Int.toNat_natCast,←hS,hg1,Qb2,hgd,g5,hgI];refine⟨Qah _ _ (by kernel_rfl),?_⟩;simp -implicitDefEqProofs only [go_sem,Nat.reduceAdd,Nat.reduceMul,Nat.reduceEqDiff,Nat.reduceLT,Nat.reduceLeDiff,reduceIte,reduceCtorEq,b3,b4,b5,wik1,Int.toNat_natCast,hsub,Nat.zero_add];refine Qab _ _ _ _ _ _ _ _ _ htg ?_;simp -implicitDefEqProofs only [go_sem,Nat.reduceAdd,Nat.reduceEqDiff,Nat.reduceLT,dw];refine Qab _ _ _ _ _ _ _ _ _ hmg ?_;simp -implicitDefEqProofs only [go_sem,Nat.reduceAdd,Nat.reduceEqDiff,Nat.reduceLT,reduceCtorEq,dw];refine Qa7 mixed (fun p:{p:Nat // Q≤p∧p<BW}=>St.of [(8,.int .i64 (s:Int)),(9,dw (digs BW d)),(10,.bs 706 1 0 (N+1)),(11,.int .i64 (k:Int)),(12,.bs 1004 1 0 nq),(13,.int .i64 (i:Int)),(14,.int .u64 (p.1:Int)),(15,.bs 706 1 i (k+1)),(16,dw (digs BW (d*p.1)))]
     [(706,wB (lows BW S (N+1))),(1004,wB (mix BW 0 (R0/d) nq (i+1)))]) (fun p=>p.1) ⟨g,hgQ,hgB⟩ ?_ ?_
    ·refine Qa0 (θ:=[(706,706),(1004,1004)]) rfl ?_ ?_
     ·simp [Qag,lkp,ren1,ren0,dw]
     ·simp [Qal,lkp,Box.renames]
    ·rintro⟨p,hp1,hp2⟩;simp only at hp1 hp2 ⊢;have hlp:(digs BW (d*p)).length≤1000000000:=hLd p hp2;have hcm:=Qck W (d*p) (by omega) hlp;simp -implicitDefEqProofs only [go_sem,Nat.reduceAdd,Nat.reduceMul,Nat.reduceEqDiff,Nat.reduceLT,Nat.reduceLeDiff,dw];refine Qbk _ _ _ _ _ _ _ _ _ htB ?_;simp -implicitDefEqProofs only [go_sem,Nat.reduceAdd,Nat.reduceEqDiff,Nat.reduceLT,reduceIte,wB,List.length_map,hll,b7,hesc];refine Qab _ _ _ _ _ _ _ _ _ hcm ?_;by_cases hlt:W<d*p
     ·have k1:(cmpW W (d*p)<0)=True:=by simp only [eq_iff_iff,iff_true];exact(Qc8 _ _).2 hlt
      have hpQ:Q<p:=by
       rcases Nat.lt_or_ge Q p with h'|h'
       ·exact h'
       ·have:=Nat.mul_le_mul_left d (show p≤Q from h');have:=hQle;omega
      have hsb2:=Qow (d*p) d (Nat.le_mul_of_pos_right d (by omega)) hlp;have e6:d*p-d=d*(p-1):=by rw [Nat.mul_sub,Nat.mul_one]
      rw [e6]at hsb2;have w5:IntKind.u64.wrap ((p:Int)-1)=((p-1:Nat):Int):=by rw [Qbm];simp only [BW]at hp2;omega
      simp -implicitDefEqProofs only [go_sem,Nat.reduceAdd,Nat.reduceMul,Nat.reduceEqDiff,Nat.reduceLT,Nat.reduceLeDiff,reduceCtorEq,k1,w5];refine Qab _ _ _ _ _ _ _ _ _ hsb2 ?_;simp -implicitDefEqProofs only [go_sem,Nat.reduceAdd,Nat.reduceEqDiff,Nat.reduceLT,reduceCtorEq,dw];refine⟨⟨p-1,by omega,by omega⟩,by simp only;omega,Qa0 (θ:=[(706,706),(1004,1004)]) rfl ?_ ?_⟩
      ·simp [Qag,lkp,ren1,ren0,dw]
      ·simp [Qal,lkp,Box.renames]
     ·have k1:(cmpW W (d*p)<0)=False:=by simp only [eq_iff_iff,iff_false];rw [Qc8];exact hlt
      obtain rfl:p=Q:=Nat.le_antisymm (hQmax p (by omega)) hp1;simp -implicitDefEqProofs only [go_sem,Nat.reduceAdd,Nat.reduceMul,Nat.reduceEqDiff,Nat.reduceLT,Nat.reduceLeDiff,reduceIte,reduceCtorEq,k1];refine Qbk _ _ _ _ _ _ _ _ _ htB ?_;simp -implicitDefEqProofs only [go_sem,Nat.reduceAdd,Nat.reduceEqDiff,Nat.reduceLT,wB];refine Qbk _ _ _ _ _ _ _ _ _ hsB ?_;simp -implicitDefEqProofs only [go_sem,Nat.reduceAdd,Nat.reduceMul,Nat.reduceEqDiff,Nat.reduceLT,Nat.reduceLeDiff,reduceIte,reduceCtorEq,wB,List.length_map,hll,b8,b9,List.length_replicate,b11,b12,hmn,hlft,hllf,hlen3,hfl3,htk3,Nat.zero_add,i0,hinq,hgoq,Int.toNat_natCast,w4];refine⟨⟨i,by omega⟩,by simp only;omega,Qa0 (θ:=[(706,706),(1004,1004)]) rfl ?_ ?_⟩
      ·simp [Qag,lkp,ren1,ren0,dw]
      ·rw [Qb8,hsetq];simp only [Qal,lkp,Box.renames,hfin,if_true,if_false,reduceCtorEq,Nat.reduceEqDiff,and_self,and_true,true_and];exact⟨.inl trivial,.inl trivial⟩
theorem Zde (a b:Nat) (hb:0<b) (ha:(digs BW a).length≤100000000) (hbl:(digs BW b).length≤100000000):Qaf Tryz.prog 86 [dw (digs BW a),dw (digs BW b)] (.tup [dw (digs BW (a/b)),dw (digs BW (a%b))]):=by
 by_cases h:a<b
 ·exact Zaw a b h ha hbl
 ·by_cases h1:b<18446744073709551616
  ·exact Q6w a b (by omega) hb h1 ha
  ·refine Qz8 a b (by omega) ?_ ha;refine(Qbr BW_2 b 1).2 ?_;have:=Nat.div_pos (show 18446744073709551616≤b by omega) (by decide);rw [Nat.pow_one];simp only [BW];omega
theorem Qq1 {a b:Nat} (h:a≤b):(digs BW a).length≤(digs BW b).length:=
 (Qaj BW_2 a _).2 (Nat.lt_of_le_of_lt h (Qaw BW_2 b))
theorem Zdf (xn yn:Bool) (a b:Nat) (hab:(digs BW a).length+(digs BW b).length≤1000000000):Qaf Tryz.prog 57 [nP xn a,nP yn b] (nP (!(xn==yn)) (a*b)):=by
 have h:=Qot a b hab;refine Qac (tb:=[]) 16 [.cell 4 87] [0,1,2,3,4] mixed Tryz.func57 rfl (by kernel_rfl) (by kernel_rfl) (by kernel_rfl) (by kernel_rfl) ?_;repeat (first|(simp -implicitDefEqProofs only [go_sem,seval,nP,dw])|((with_reducible refine Qaa h ?_ ?_ ?_);rfl;rfl)|(with_reducible exact Qah _ _ (by kernel_rfl)))
theorem Zdg (xn yn:Bool) (a b:Nat):sv (!(xn==yn)) (a*b)=sv xn a*sv yn b:=by
 cases xn<;>cases yn<;>simp [sv,Int.natCast_mul,Int.neg_mul,Int.mul_neg]
def nqn (xn:Bool) (a b:Nat):Nat:=if(xn&&decide (0<a%b))=true then a/b+1 else a/b
def nrn (xn:Bool) (a b:Nat):Nat:=if(xn&&decide (0<a%b))=true then b-a%b else a%b
theorem Qu2 (xn:Bool) (a b:Nat) (hb:0<b):sv xn (nqn xn a b)=sv xn a/(b:Int)∧((nrn xn a b:Nat):Int)=sv xn a%(b:Int):=by
 have hb':(0:Int)<(b:Int):=by omega
 have h:=Nat.div_add_mod a b;have hr:=Nat.mod_lt a hb;have key:=(Int.ediv_emod_unique (a:=sv xn a) (r:=((nrn xn a b:Nat):Int)) (q:=sv xn (nqn xn a b)) hb').2;refine(fun t=>⟨(key t).1.symm,(key t).2.symm⟩) ?_;have e:((b*(a/b):Nat):Int)+((a%b:Nat):Int)=(a:Int):=by rw [←Int.natCast_add,h]
 rw [Int.natCast_mul]at e;cases xn with
 |false=>
  simp only [sv,nqn,nrn,Bool.false_and,Bool.false_eq_true,if_false];refine⟨by omega,by omega,by omega⟩
 |true=>
  by_cases h0:0<a%b
  ·simp only [sv,nqn,nrn,Bool.true_and,decide_eq_true_eq,h0,if_true];rw [Int.mul_neg,Int.natCast_add,Int.mul_add];generalize (b:Int)*((a/b:Nat):Int)=m at*;refine⟨by omega,by omega,by omega⟩
  ·simp only [sv,nqn,nrn,Bool.true_and,decide_eq_true_eq,h0,if_false,if_true];rw [Int.mul_neg];generalize (b:Int)*((a/b:Nat):Int)=m at*;refine⟨by omega,by omega,by omega⟩
theorem Zdh (xn yn:Bool) (a b:Nat) (hb:0<b):sv (!(xn==yn)) (nqn xn a b)=sv xn a/sv yn b∧((nrn xn a b:Nat):Int)=sv xn a%sv yn b:=by
 obtain⟨h1,h2⟩:=Qu2 xn a b hb;have flip: ∀(n:Bool) (m:Nat),sv (!n) m= -(sv n m):=by intro n m;cases n<;>simp [sv]
 cases yn with
 |false=>
  refine⟨?_,by simpa [sv]using h2⟩;have:(!(xn==false))=xn:=by cases xn<;>rfl
  rw [this,h1];simp [sv]
 |true=>
  have:(!(xn==true))= !xn:=by cases xn<;>rfl
  rw [this,flip,h1,h2];simp [sv,Int.ediv_neg,Int.emod_neg]
theorem Zdi (xn yn:Bool) (a b:Nat) (hb:0<b) (ha:(digs BW a).length≤100000000) (hbl:(digs BW b).length≤100000000):Qaf Tryz.prog 58 [nP xn a,nP yn b] (.tup [nP (!(xn==yn)) (nqn xn a b),nP false (nrn xn a b)]):=by
 have hd:=Zde a b hb ha hbl;have hr:=Nat.mod_lt a hb;cases xn with
 |false=>
  have e1:nqn false a b=a/b:=by simp [nqn]
  have e2:nrn false a b=a%b:=by simp [nrn]
  rw [e1,e2];refine Qac (tb:=[]) 39 [.cell 4 87,.cell 5 87] [0,1,2,3,4,5,6,7,22] mixed Tryz.func58 rfl (by kernel_rfl) (by kernel_rfl) (by kernel_rfl) (by kernel_rfl) ?_;repeat (first|(simp -implicitDefEqProofs only [go_sem,seval,nP,dw])|((with_reducible refine Qaa hd ?_ ?_ ?_);rfl;rfl))
 |true=>
  by_cases h0:a%b=0
  ·have g1:((0:Int)<((0:Nat):Int))=False:=by simp
   have e1:nqn true a b=a/b:=by simp [nqn,h0]
   have e2:nrn true a b=0:=by simp [nrn,h0]
   rw [e1,e2];rw [h0,Qan]at hd;refine Qac (tb:=[]) 39 [.cell 4 87,.cell 5 87] [0,1,2,3,4,5,6,7,22] mixed Tryz.func58 rfl (by kernel_rfl) (by kernel_rfl) (by kernel_rfl) (by kernel_rfl) ?_;repeat (first|(simp -implicitDefEqProofs only [go_sem,seval,nP,dw,Qan,List.map_nil,List.length_nil,g1])|((with_reducible refine Qaa hd ?_ ?_ ?_);rfl;rfl))
  ·have hp:0<(digs BW (a%b)).length:=List.length_pos_iff.2 (mt (Qa4 BW_2).1 h0);have g1:((0:Int)<((digs BW (a%b)).length:Int))=True:=by simp only [eq_iff_iff,iff_true];omega
   have e1:nqn true a b=a/b+1:=by simp only [nqn,Bool.true_and,decide_eq_true_eq];rw [if_pos (by omega)]
   have e2:nrn true a b=b-a%b:=by simp only [nrn,Bool.true_and,decide_eq_true_eq];rw [if_pos (by omega)]
   have hd1:digs BW 1=[1]:=by rw [Qdh BW_2 (by decide),show 1%BW=1 from by decide,show 1/BW=0 from by decide,Qan]
   have hq:=Qq1 (Nat.div_le_self a b);have had:=Qso (a/b) 1 (by omega) (by rw [hd1];simp);rw [hd1]at had;have hsb:=Qow b (a%b) (Nat.le_of_lt hr) (by omega);rw [e1,e2];refine Qac (tb:=[]) 39 [.cell 4 87,.cell 5 87] [0,1,2,3,4,5,6,7,22] mixed Tryz.func58 rfl (by kernel_rfl) (by kernel_rfl) (by kernel_rfl) (by kernel_rfl) ?_;repeat (first|(simp -implicitDefEqProofs only [go_sem,seval,nP,dw,List.length_map,g1,List.map_cons,List.map_nil])|((with_reducible refine Qaa hd ?_ ?_ ?_);rfl;rfl)|((with_reducible refine Qaa had ?_ ?_ ?_);rfl;rfl)|((with_reducible refine Qaa hsb ?_ ?_ ?_);rfl;rfl)|(with_reducible exact Qah _ _ (by kernel_rfl)))
theorem Qj1: ∀l:List Nat,(∀d∈l,d<256)→bnum (l.reverse.map fun d=>UInt8.ofNat d)=val 256 l
 | [],_=>rfl
 |d::r,h=>by
  rw [List.reverse_cons,List.map_append,List.map_cons,List.map_nil,Qey,Qj1 r fun x hx=>h x (by simp [hx])];rw [UInt8.toNat_ofNat_of_lt' (h d (by simp))];simp only [val];omega
theorem Qov (m:Nat):bnum (magL m)=m:=by
 rw [magL,Qj1 _ fun d hd=>Qqe (by decide) hd,Qr5 (by decide)]
theorem Qz6 {neg:Bool} {l:List UInt8} (h:Qa2 neg l=true):magL (bnum l)=l:=by
 have hv:bnum l=val 256 (l.reverse.map UInt8.toNat):=by
  have h2:=Qj1 (l.reverse.map UInt8.toNat) (by intro d hd;obtain⟨b,_,rfl⟩:=List.mem_map.1 hd;exact b.toNat_lt);rw [←h2,←List.map_reverse,List.reverse_reverse,List.map_map];congr 1
  conv=>lhs;rw [←List.map_id l]
  apply List.map_congr_left;intro b _;simp
 have ht:Qcf (l.reverse.map UInt8.toNat)=l.reverse.map UInt8.toNat:=by
  refine Qtu ?_;intro d hd;cases l with
  |nil=>simp at hd
  |cons b r=>
   simp at hd;subst hd;simp only [Qa2,Bool.and_eq_true]at h;have hb:b≠0:=by simpa using h.2
   intro e;exact hb (UInt8.toNat_inj.1 (by simpa using e))
 have hd:digs 256 (bnum l)=l.reverse.map UInt8.toNat:=by
  rw [hv,←Qi7 (by decide) _ (by intro d hd;obtain⟨b,_,rfl⟩:=List.mem_map.1 hd;exact b.toNat_lt),ht]
 rw [magL,hd,←List.map_reverse,List.reverse_reverse,List.map_map]
 conv=>rhs;rw [←List.map_id l]
 apply List.map_congr_left;intro b _;simp
theorem Q6u (neg:Bool) (s:ByteArray) (h:Qa2 neg s.data.toList=true):decide (wnum neg s<0)=neg:=by
 unfold wnum sv;cases neg with
 |false=>simp
 |true=>
  cases hl:s.data.toList with
  |nil=>rw [hl]at h;simp [Qa2]at h
  |cons b r=>
   rw [hl]at h;simp only [Qa2,Bool.and_eq_true]at h;have hb:b.toNat≠0:=fun e=>by
    have:b≠0:=by simpa using h.2
    exact this (UInt8.toNat_inj.1 (by simpa using e))
   have:=Qgy b r;have hp:0<b.toNat*256^r.length:=Nat.mul_pos (Nat.pos_of_ne_zero hb) (Nat.pow_pos (by decide));simp;omega
theorem Qm6 (neg:Bool) (s:ByteArray) (h:Qa2 neg s.data.toList=true):wPV (wnum neg s)= .agg [.bool neg,.str s]:=by
 have e:(wnum neg s).natAbs=bnum s.data.toList:=by unfold wnum sv;cases neg<;>simp
 rw [wPV,Q6u neg s h,e,Qz6 h]
theorem Qb3 (n:Int):wnum (decide (n<0)) ⟨(magL n.natAbs).toArray⟩=n:=by
 unfold wnum sv;rw [show(⟨(magL n.natAbs).toArray⟩:ByteArray).data.toList=magL n.natAbs from rfl,Qov];by_cases h:n<0
 ·simp [h];omega
 ·simp [h];omega
theorem Qq0 (n:Int) (h:(digs 256 n.natAbs).length≤8192):Qa2 (decide (n<0)) (magL n.natAbs)=true:=by
 by_cases h0:n.natAbs=0
 ·have:n=0:=by omega
  subst this;simp [magL,Qan,Qa2]
 ·obtain⟨d,hd,hd2⟩:=Q2l h0;have ht:=Qcs (B:=256) (by decide) h0;cases hl:magL n.natAbs with
  |nil=>
   have:=Qcj n.natAbs;rw [hl]at this;exact absurd ((Qa4 (by decide)).1 (List.length_eq_zero_iff.1 this.symm)) h0
  |cons b r=>
   have hlen:=Qcj n.natAbs;rw [hl]at hlen;have hb:b=d:=by
    have h3:(⟨(magL n.natAbs).toArray⟩:ByteArray)[0]? =(magL n.natAbs)[0]? :=by
     rw [Qlm _ 0 (by show 0<(magL n.natAbs).length;rw [hl];simp)];exact(List.getElem?_eq_getElem _).symm
    rw [hd,hl]at h3;simpa using h3.symm
   simp only [Qa2,Bool.and_eq_true,decide_eq_true_eq];refine⟨by omega,?_⟩;simp only [bne_iff_ne,ne_eq];intro e;rw [hb]at e;subst e;simp at hd2;exact ht.1 hd2.symm
theorem Zdj (an bn:Bool) (a b:ByteArray) (h1:Qa2 an a.data.toList=true) (h2:Qa2 bn b.data.toList=true) (ha:a.size≤100000) (hb:b.size≤100000):
  Qaf Tryz.prog 19 [.agg [.bool an,.str a],.agg [.bool bn,.str b]] (Qe6 (wnum an a*wnum bn b)):=by
 have hv:=Qox an bn a b;rw [h1,h2,Bool.true_and]at hv;have hL1:=Qf3 a ha;have hL2:=Qf3 b hb;have hoa:=Qj0 an a h1 (by omega);have hob:=Qj0 bn b h2 (by omega);have hm:=Zdf an bn (bnum a.data.toList) (bnum b.data.toList) (by omega);have hL:(digs BW (bnum a.data.toList*bnum b.data.toList)).length≤1000000:=by
  refine Nat.le_trans ((Qaj BW_2 _ ((digs BW (bnum a.data.toList)).length+(digs BW (bnum b.data.toList)).length)).2 ?_) (by omega);rw [Nat.pow_add];exact Nat.mul_lt_mul'' (Qaw BW_2 _) (Qaw BW_2 _)
 have hw:=Qgf (!(an==bn)) _ hL;rw [Zdg,Qeg]at hw;rw [wnum,wnum,Qeg];refine Qac (tb:=[]) 19 [.cell 4 23,.tmp 5] [0,1,2,3,4,5,9] mixed Tryz.func19 rfl (by kernel_rfl) (by kernel_rfl) (by kernel_rfl) (by kernel_rfl) ?_;repeat (first|(simp -implicitDefEqProofs only [go_sem,seval,nP,dw,wPV])|((with_reducible refine Qaa hv ?_ ?_ ?_);rfl;rfl)|((with_reducible refine Qaa hoa ?_ ?_ ?_);rfl;rfl)|((with_reducible refine Qaa hob ?_ ?_ ?_);rfl;rfl)|((with_reducible refine Qaa hm ?_ ?_ ?_);rfl;rfl)|((with_reducible refine Qaa hw ?_ ?_ ?_);rfl;rfl)|(with_reducible exact Qah _ _ (by kernel_rfl)))
def Q6x (x y:Int):PV:= .tup [wPV (outN (x/y)),wPV (outN (x%y)),.int .i64 0]
theorem Zdk (xn:Bool) (a b:Nat):nqn xn a b≤a+1:=by
 have:=Nat.div_le_self a b;unfold nqn;split<;>omega
theorem Zdl (xn:Bool) (a b:Nat) (hb:0<b):nrn xn a b≤b:=by
 have:=Nat.mod_lt a hb;unfold nrn;split<;>omega
theorem Zax (a:Nat):(digs BW (a+1)).length≤(digs BW a).length+1:=by
 refine(Qaj BW_2 _ _).2 ?_;have h:=Qaw BW_2 a;rw [Nat.pow_succ];generalize BW^(digs BW a).length=M at*;simp only [BW];omega
theorem Q6y {l:List UInt8} (h:l≠ []):(l== [])=false:=by cases l with|nil=>exact absurd rfl h|cons=>rfl
theorem Zdm (an bn:Bool) (a b:ByteArray) (h1:Qa2 an a.data.toList=true) (h2:Qa2 bn b.data.toList=true) (h0:b.data.toList≠ []) (ha:a.size≤100000) (hb:b.size≤100000):
  Qaf Tryz.prog 20 [.agg [.bool an,.str a],.agg [.bool bn,.str b]] (Q6x (wnum an a) (wnum bn b)):=by
 have hv:=Qox an bn a b;rw [h1,h2,Bool.true_and]at hv;have hL1:=Qf3 a ha;have hL2:=Qf3 b hb;have hoa:=Qj0 an a h1 (by omega);have hob:=Qj0 bn b h2 (by omega);have hbp:0<bnum b.data.toList:=by
  cases hl:b.data.toList with
  |nil=>exact absurd hl h0
  |cons c r=>
   rw [hl]at h2;simp only [Qa2,Bool.and_eq_true]at h2;have hc:c.toNat≠0:=fun e=>by
    have:c≠0:=by simpa using h2.2
    exact this (UInt8.toNat_inj.1 (by simpa using e))
   rw [Qgy];have hp:0<c.toNat*256^r.length:=Nat.mul_pos (Nat.pos_of_ne_zero hc) (Nat.pow_pos (by decide));omega
 have he:=Q6y h0;have hd:=Zdi an bn (bnum a.data.toList) (bnum b.data.toList) hbp (by omega) (by omega);obtain⟨d1,d2⟩:=Zdh an bn (bnum a.data.toList) (bnum b.data.toList) hbp;have hq:=Qgf (!(an==bn)) (nqn an (bnum a.data.toList) (bnum b.data.toList)) (Nat.le_trans (Qq1 (Zdk _ _ _)) (Nat.le_trans (Zax _) (by omega)));have hr:=Qgf false (nrn an (bnum a.data.toList) (bnum b.data.toList)) (Nat.le_trans (Qq1 (Zdl _ _ _ hbp)) (by omega));have e2:sv false (nrn an (bnum a.data.toList) (bnum b.data.toList))=((nrn an (bnum a.data.toList) (bnum b.data.toList):Nat):Int):=rfl;rw [d1,Qeg]at hq;rw [e2,d2,Qeg]at hr;unfold Q6x wnum;refine Qac (tb:=[]) 40 [.cell 4 23,.cell 5 23,.tmp 6] [0,1,2,3,4,5,6,7,8,12,17] mixed Tryz.func20 rfl (by kernel_rfl) (by kernel_rfl) (by kernel_rfl) (by kernel_rfl) ?_;repeat (first|(simp -implicitDefEqProofs only [go_sem,seval,he,nP,dw,wPV])|((with_reducible refine Qaa hv ?_ ?_ ?_);rfl;rfl)|((with_reducible refine Qaa hoa ?_ ?_ ?_);rfl;rfl)|((with_reducible refine Qaa hob ?_ ?_ ?_);rfl;rfl)|((with_reducible refine Qaa hd ?_ ?_ ?_);rfl;rfl)|((with_reducible refine Qaa hq ?_ ?_ ?_);rfl;rfl)|((with_reducible refine Qaa hr ?_ ?_ ?_);rfl;rfl)|(with_reducible exact Qah _ _ (by kernel_rfl))|(with_reducible refine And.intro (Qah _ _ (by kernel_rfl)) ?_))
end Go.Proofs.YtapjnenbofmliaaGreatDoor

namespace Go.Dg
theorem p256 (k:Nat):(256:Nat)^k=2^(8*k):=by rw [show(256:Nat)=2^8 from rfl,←Nat.pow_mul]
theorem Zb3 {m B k:Nat} (h:m<2^B) (hk:B≤8*k):m<256^k:=by
 rw [p256];exact Nat.lt_of_lt_of_le h (Nat.pow_le_pow_right (by decide) hk)
end Go.Dg

namespace Go.Proofs.YtapjnenbofmliaaGreatDoor
open Go.Vl Go.RowKit Go.Dg
def big (x y:Int):Bool:=decide (65536<blen x.natAbs)||decide (65536<blen y.natAbs)
theorem Q6z (n:Int):(magL n.natAbs=[])↔n=0:=by
 have h:=Qcj n.natAbs;constructor
 ·intro e;rw [e]at h;have:=(Qa4 (B:=256) (by decide)).1 (List.length_eq_zero_iff.1 h.symm);omega
 ·rintro rfl;simp [magL,Qan]
theorem mod_lt {y:Int} {k:Nat} (x:Int) (h0:y≠0) (hy:y.natAbs<256^k):(x%y).natAbs<256^k:=by
 have h1:=Int.emod_nonneg x h0;have h2:=Int.emod_lt x h0;omega
section
variable (a b c d:Int) (k:Nat) (hk:k≤10000) (ha:a.natAbs<256^k) (hb:b.natAbs<256^k) (hc:c.natAbs<256^k) (hd:d.natAbs<256^k)
include hk ha hb hc hd
end
end Go.Proofs.YtapjnenbofmliaaGreatDoor

namespace Go.Dg

/-! ### sums -/
/-- The sum of the first n values. -/
def sm (f:Nat→Int):Nat→Int
  |0=>0
  |n+1=>sm f n+f n
/-! ### binomials -/
/-- The number of ways to choose k of n elements. -/
def bin:Nat→Nat→Nat
  |_,0=>1
  |0,_+1=>0
  |n+1,k+1=>bin n k+bin n (k+1)
/-! ### polynomials by their values -/
/-- The list whose value at x,y is the sum of f i x^i (c x+y)^(n-i). -/
def trans (f:List Int) (c:Int) (n:Nat):List Int:=(List.range (n+1)).map fun j=>sm (fun i=>f.getD i 0*(c^(j-i)*(bin (n-i) (j-i):Int))) (j+1)
end Go.Dg

namespace Go.Proofs.YtapjnenbofmliaaGreatDoor
open Go.Vl Go.RowKit Go.Dg
theorem Qwz {x y:Int} {B:Nat} (hx:x.natAbs<2^B) (hy:y.natAbs<2^B):(x+y).natAbs<2^(B+1):=by
 rw [Nat.pow_succ];generalize 2^B=K at*;omega
theorem Qsd {x y:Int} {B C:Nat} (hx:x.natAbs<2^B) (hy:y.natAbs<2^C):(x*y).natAbs<2^(B+C):=by
 rw [Int.natAbs_mul,Nat.pow_add];exact Nat.mul_lt_mul'' hx hy
theorem Q8c {x:Int} (h:x.natAbs<2^65536):(digs 256 x.natAbs).length≤8192:=(Qaj (by decide) x.natAbs 8192).2 (Zb3 (k:=8192) h (by decide))
theorem Qdt {n:Int} (h:n.natAbs<2^65536):Qe6 n= .tup [wPV n,.int .i64 0]:=by
 rw [Qe6,if_neg (Nat.not_lt.2 (Qcy 65536 _ h))]
abbrev mB (x:Int):ByteArray:=⟨(magL x.natAbs).toArray⟩
theorem Qc0 {x:Int} (h:x.natAbs<2^65536):(mB x).size≤100000:=by rw [Qwq];have:=Q8c h;omega
theorem Qcb {x:Int} (h:x.natAbs<2^65536):Qa2 (decide (x<0)) (mB x).data.toList=true:=Qq0 x (Q8c h)
theorem Qol {x y:Int} (hx:x.natAbs<2^65536) (hy:y.natAbs<2^65536):Qaf Tryz.prog 19 [wPV x,wPV y] (Qe6 (x*y)):=by
 have h:=Zdj (decide (x<0)) (decide (y<0)) (mB x) (mB y) (Qcb hx) (Qcb hy) (Qc0 hx) (Qc0 hy)
 rwa [Qb3,Qb3]at h
theorem Qom {x y:Int} (hx:x.natAbs<2^65536) (hy:y.natAbs<2^65536):Qaf Tryz.prog 17 [wPV x,wPV y] (Qe6 (x+y)):=by
 have h:=Zda (decide (x<0)) (decide (y<0)) (mB x) (mB y) (Qcb hx) (Qcb hy) (Qc0 hx) (Qc0 hy)
 rwa [Qb3,Qb3]at h
theorem Zce {x y:Int} (hx:x.natAbs<2^65536) (hy:y.natAbs<2^65536):Qaf Tryz.prog 18 [wPV x,wPV y] (Qe6 (x-y)):=by
 have h:=Zdb (decide (x<0)) (decide (y<0)) (mB x) (mB y) (Qcb hx) (Qcb hy) (Qc0 hx) (Qc0 hy)
 rwa [Qb3,Qb3]at h
theorem Qw0 {x:Int} (hx:x.natAbs<2^65536):Qaf Tryz.prog 22 [wPV x] (.int .i64 x.sign):=by
 have h:=Zau (decide (x<0)) (mB x) (Qcb hx) (Qc0 hx)
 rwa [Qb3]at h
theorem Qlw {x y:Int} (hx:x.natAbs<2^65536) (hy:y.natAbs<2^65536):Qaf Tryz.prog 24 [wPV x,wPV y] (.int .i64 (x-y).sign):=by
 have h:=Qu1 (decide (x<0)) (decide (y<0)) (mB x) (mB y) (Qcb hx) (Qcb hy) (Qc0 hx) (Qc0 hy)
 rwa [Qb3,Qb3]at h
theorem Zen {x:Int} (h:x≠0):(mB x).data.toList≠ []:=fun e=>h ((Q6z x).1 e)
theorem Zcf {x y:Int} (hx:x.natAbs<2^65536) (hy:y.natAbs<2^65536) (h0:y≠0):Qaf Tryz.prog 20 [wPV x,wPV y] (Q6x x y):=by
 have h:=Zdm (decide (x<0)) (decide (y<0)) (mB x) (mB y) (Qcb hx) (Qcb hy) (Zen h0) (Qc0 hx) (Qc0 hy)
 rwa [Qb3,Qb3]at h
end Go.Proofs.YtapjnenbofmliaaGreatDoor
