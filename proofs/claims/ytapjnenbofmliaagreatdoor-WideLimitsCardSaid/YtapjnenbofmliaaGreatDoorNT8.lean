/-
  NW26, NW27, NW23, NW28, NW29, Dp, NW30, NW31, NW32, NA11, NA12, NA13, Dq, NP1, NT8 (merged for the claim).
-/
import Derived.Test.YtapjnenbofmliaaGreatDoorNW25
import Derived.Test.YtapjnenbofmliaaGreatDoorUW
import Derived.Test.YtapjnenbofmliaaGreatDoorNW6
import Derived.Test.YtapjnenbofmliaaGreatDoorNT3
import Derived.Test.YtapjnenbofmliaaGreatDoorNT1
set_option linter.unusedSimpArgs false
set_option linter.unusedVariables false
namespace Go.Proofs.YtapjnenbofmliaaGreatDoor
open Go.Vl Go.RowKit Go.Dg
theorem Qzx (l:List Nat):((l.map fW).all fun e=>e.cells.length==1&&e.cells.all flatc)=true:=by
 rw [List.all_map,List.all_eq_true];intro _ _;rfl
set_option maxHeartbeats 4000000 in
theorem Qzy (a b:Nat) (h:b≤a) (hb1:2≤(digs BW b).length) (ha:(digs BW a).length≤100000000):Qag Tryz.prog 86 [dw (digs BW a),dw (digs BW b)] (.tup [dw (digs BW (a/b)),dw (digs BW (a%b))]):=by
 have hb0:b≠0:=by rintro rfl;rw [Qap]at hb1;simp at hb1
 have hkN:(digs BW b).length≤(digs BW a).length:=(Qak BW_2 b _).2 (Nat.lt_of_le_of_lt h (Qay BW_2 a));have hc:=Qcn a b (by omega) (by omega);have g1:(cmpW a b<0)=False:=by simp only [eq_iff_iff,iff_false];rw [Qc8];omega
 have htop:=Qcv BW_2 hb0;have hga:=Qam (n:=b) (k:=(digs BW b).length-1) BW_2 (by omega);rw [Nat.mod_eq_of_lt htop.2]at hga;have hdk:=Zcb hb0;have hlz:=Qz8 (b/BW^((digs BW b).length-1)) htop.2;have hs64:64-blen (b/BW^((digs BW b).length-1))≤64:=by omega
 obtain⟨s,hs⟩: ∃s,s=64-blen (b/BW^((digs BW b).length-1)):=⟨_,rfl⟩;simp only [WB]at hdk;simp only [BW]at hs hlz hdk;rw [←hs]at hlz hdk hs64;have hsb:=Q8h b s (by omega) (by omega);have hsa:=Q8h a s (by omega) (by omega);have hR0:a*2^s<BW^((digs BW a).length+1):=by
  rw [Nat.pow_succ];exact Nat.mul_lt_mul_of_lt_of_le (Qay BW_2 a) (Nat.pow_le_pow_right (n:=2) (by decide) hs64) (by decide)
 have hL0:(digs BW (a*2^s)).length≤(digs BW a).length+1:=(Qak BW_2 _ _).2 hR0;have hbk:BW^((digs BW b).length-1)≤b:=by
  have:=(Qbt BW_2 b ((digs BW b).length-1)).1 (by omega);rcases Nat.lt_or_ge b (BW^((digs BW b).length-1))with h'|h'
  ·exact absurd (Nat.div_eq_of_lt h') this
  ·exact h'
 have hRd:a*2^s<b*2^s*BW^((digs BW a).length+1-(digs BW b).length):=by
  have e:BW^(digs BW a).length=BW^((digs BW b).length-1)*BW^((digs BW a).length+1-(digs BW b).length):=by
   rw [←Nat.pow_add];congr 1;omega
  have h1:=Qay BW_2 a;rw [e]at h1;have h2:=Nat.lt_of_lt_of_le h1 (Nat.mul_le_mul_right _ hbk);rw [Nat.mul_right_comm];exact Nat.mul_lt_mul_of_pos_right h2 (Nat.pow_pos (by decide))
 have hq:a/b=a*2^s/(b*2^s):=(Nat.mul_div_mul_right a b (Nat.pow_pos (by decide))).symm;have hm:a%b*2^s=a*2^s%(b*2^s):=(Nat.mul_mod_mul_right _ a b).symm;have hd0:0<b*2^s:=Nat.mul_pos (by omega) (Nat.pow_pos (by decide));have hpad:=Qgj BW_2 (a*2^s) ((digs BW a).length+1) hL0;generalize hRR:a*2^s=R0 at*;generalize hdd:b*2^s=d at*;generalize hN:(digs BW a).length=N at*;generalize hkk:(digs BW b).length=k at*;obtain⟨nq,hnq⟩: ∃nq,nq=N+1-k:=⟨_,rfl⟩;rw [←hnq]at hRd;have z1:((k:Int)==1)=false:=by simp only [beq_eq_false_iff_ne,ne_eq];omega
 have z2:IntKind.i64.wrap ((k:Int)-1)=((k-1:Nat):Int):=by rw [Qaj (by omega) (by omega)];omega
 have z3:(0≤((k-1:Nat):Int))=True:=by simp only [eq_iff_iff,iff_true];exact Int.natCast_nonneg _
 have z4:=Qa5 (a:=N) (by omega);have z5:((0:Int)≤((N+1:Nat):Int))=True:=by simp only [eq_iff_iff,iff_true];omega
 have z6:((8:Nat):Int)*((N+1:Nat):Int)≤281474976710656:=by omega
 have z7:((N+1:Nat):Int)≤9223372036854775807:=by omega
 have z8:IntKind.i64.wrap (((N+1:Nat):Int)-(k:Int))=(nq:Int):=by rw [Qaj (by omega) (by omega)];omega
 have z9:((0:Int)≤(nq:Int))=True:=by simp only [eq_iff_iff,iff_true];omega
 have z10:((8:Nat):Int)*(nq:Int)≤281474976710656:=by omega
 have z11:(nq:Int)≤9223372036854775807:=by omega
 have z12:IntKind.i64.wrap ((nq:Int)-1)=(nq:Int)-1:=Qaj (by omega) (by omega);have z13:Nat.ble 0 0=true:=rfl;have z14:Nat.ble (digs BW R0).length (N+1)=true:=Nat.ble_eq_true_of_le hL0;have z15:min (digs BW R0).length (N+1)=(digs BW R0).length:=Nat.min_eq_left hL0

 refine Qae (tb:=[(1901,[(1000000,706)],[]),(2201,[(1000000,706)],[]),(2203,[(1000000,706)],[(102,2203)])]) 145 [.tmp 4,.tmp 5] [0,1,4,5,6,7,8,9,10,11,12,13,14,15,16,17,21,25,68,82,121] mixed Tryz.func86 rfl (by kernel_rfl) (by kernel_rfl) (by kernel_rfl) (by kernel_rfl) ?_;simp -implicitDefEqProofs only [go_sem,Nat.reduceAdd,Nat.reduceMul,Nat.reduceEqDiff,Nat.reduceLT,Nat.reduceLeDiff,reduceCtorEq,dw];refine Qab _ _ _ _ _ _ _ _ _ hc ?_;simp -implicitDefEqProofs only [go_sem,Nat.reduceAdd,Nat.reduceMul,Nat.reduceEqDiff,Nat.reduceLT,Nat.reduceLeDiff,reduceCtorEq,g1,List.length_map,hkk,z1,z2,z3,Qb3,hga,Int.toNat_natCast];refine Qab _ _ _ _ _ _ _ _ _ hlz ?_;simp -implicitDefEqProofs only [go_sem,Nat.reduceAdd,Nat.reduceMul,Nat.reduceEqDiff,Nat.reduceLT,Nat.reduceLeDiff,reduceCtorEq];refine Qab _ _ _ _ _ _ _ _ _ hsb ?_;simp -implicitDefEqProofs only [go_sem,Nat.reduceAdd,Nat.reduceMul,Nat.reduceEqDiff,Nat.reduceLT,Nat.reduceLeDiff,reduceCtorEq,dw,List.length_map,hN,z4,z5,z6,z7,Int.toNat_natCast];refine⟨Qad _ _ (by kernel_rfl),?_⟩;refine Qab _ _ _ _ _ _ _ _ _ hsa ?_;have hfl:=Qzx (digs BW R0);have htk0:((digs BW R0).map fW).take (digs BW R0).length=(digs BW R0).map fW:=List.take_of_length_le (by simp);have hcp:(digs BW R0).map fW++(List.replicate (N+1) (PV.int .u64 0)).drop (digs BW R0).length=(lows BW R0 (N+1)).map fW:=by
  rw [←hpad,List.map_append,List.drop_replicate,List.map_replicate];rfl
 have hrep:List.replicate nq (PV.int .u64 0)=(mix BW 0 (R0/d) nq nq).map fW:=by rw [Qmd,Qdg];simp
 simp -implicitDefEqProofs only [go_sem,Nat.reduceAdd,Nat.reduceMul,Nat.reduceEqDiff,Nat.reduceLT,Nat.reduceLeDiff,reduceCtorEq,dw,List.length_map,hfl,z13,z14,z15,htk0,hcp,List.length_replicate,hdk,z8,z9,z10,z11,z12,Int.toNat_natCast];rw [hrep];have hst:R0%(d*BW^nq)=R0:=Nat.mod_eq_of_lt hRd;refine Qba mixed (fun i:{i:Nat // i≤nq}=>St.of [(8,.int .i64 (s:Int)),(9,dw (digs BW d)),(10,.bs 706 1 0 (N+1)),(11,.int .i64 (k:Int)),(12,.bs 1004 1 0 nq),(13,.int .i64 ((i.1:Int)-1))]
  [(706,wB (lows BW (R0%(d*BW^i.1)) (N+1))),(1004,wB (mix BW 0 (R0/d) nq i.1))]) (fun i=>i.1) ⟨nq,Nat.le_refl _⟩ ?_ ?_
 ·refine Qa0 (θ:=[(706,706),(1004,1004)]) rfl ?_ ?_
  ·simp [Qah,lkp,ren1,ren0,dw]
  ·simp [Qal,lkp,Box.renames,hst]
 ·rintro⟨i,hi⟩;cases i with
  |zero=>
   have h1:((0:Int)≤((0:Nat):Int)-1)=False:=by simp
   have e0:R0%(d*BW^0)=R0%d:=by rw [Nat.pow_zero,Nat.mul_one]
   have hll:=Qaf (B:=BW) (R0/d) nq;have htk:=List.take_of_length_le (l:=(lows BW (R0/d) nq).map fW) (i:=nq) (by simp [hll]);have hll2:=Qaf (B:=BW) (R0%d) (N+1);have htk2:=List.take_of_length_le (l:=(lows BW (R0%d) (N+1)).map fW) (i:=N+1) (by simp [hll2]);have ht1:=Qcc (lows BW (R0/d) nq) (by rw [hll];unfold maxLen;omega);have ht2:=Qcc (lows BW (R0%d) (N+1)) (by rw [hll2];unfold maxLen;omega);rw [Qbb BW_2,Nat.mod_eq_of_lt (Nat.div_lt_of_lt_mul hRd)]at ht1;rw [Qbb BW_2,Nat.mod_eq_of_lt (Nat.lt_of_le_of_lt (Nat.mod_le _ _) hR0)]at ht2;have hL3:(digs BW (a%b*2^s)).length≤N+1:=(Qak BW_2 _ _).2 (by rw [hm];exact Nat.lt_of_le_of_lt (Nat.mod_le _ _) hR0);have hsr:=Zdt (a%b*2^s) s (by omega) (by omega);rw [Nat.mul_div_cancel _ (Nat.pow_pos (by decide)),hm]at hsr;rw [hq];repeat (first|(simp -implicitDefEqProofs only [go_sem,Nat.reduceAdd,Nat.reduceMul,Nat.reduceEqDiff,Nat.reduceLT,Nat.reduceLeDiff,reduceIte,reduceCtorEq,h1,e0,wB,Qgl,List.length_map,hll,htk,hll2,htk2,dw])|((with_reducible refine Qaa ht1 ?_ ?_ ?_);rfl;rfl)|((with_reducible refine Qaa ht2 ?_ ?_ ?_);rfl;rfl)|((with_reducible refine Qaa hsr ?_ ?_ ?_);rfl;rfl))
  |succ i=>
   have hs1:(((i+1:Nat):Int)-1)=(i:Int):=by omega
   have i0:((0:Int)≤(i:Int))=True:=by simp
   have hik:i+k≤N:=by omega
   obtain⟨S,hS⟩: ∃S,S=R0%(d*BW^(i+1)):=⟨_,rfl⟩;obtain⟨W,hW⟩: ∃W,W=S/BW^i:=⟨_,rfl⟩;obtain⟨Q,hQ⟩: ∃Q,Q=R0/d/BW^i%BW:=⟨_,rfl⟩;have hdg:=Q14 (B:=BW) (by decide) R0 d i hd0;rw [←hS,←hW,←hQ]at hdg;have hQB:Q<BW:=by rw [hQ];exact Nat.mod_lt _ (by decide)
   have hdk2:d<BW^k:=by rw [←hdk];exact Qay BW_2 d
   have hWd:W<d*BW:=by
    rw [hW];refine Nat.div_lt_of_lt_mul ?_;rw [hS,Nat.mul_comm (BW^i),Nat.mul_assoc,Nat.mul_comm BW,←Nat.pow_succ];exact Nat.mod_lt _ (Nat.mul_pos hd0 (Nat.pow_pos (by decide)))
   have hWk:W<BW^(k+1):=by
    rw [Nat.pow_succ];exact Nat.lt_trans hWd (Nat.mul_lt_mul_of_pos_right hdk2 (by decide))
   have hll:=Qaf (B:=BW) S (N+1);have hSW: ∀j,S/BW^(i+j)=W/BW^j:=fun j=>by rw [hW,Nat.pow_add,Nat.div_div_eq_div_mul]
   have hQle:d*Q≤W:=by rw [←hdg];exact Nat.mul_div_le W d
   have hQmax: ∀p,d*p≤W→p≤Q:=fun p hp=>by rw [←hdg,Nat.le_div_iff_mul_le hd0,Nat.mul_comm];exact hp
   have hLd: ∀p,p<BW→(digs BW (d*p)).length≤1000000000:=fun p hp=>by
    refine Nat.le_trans ((Qak BW_2 _ (k+1)).2 ?_) (show k+1≤1000000000 by omega);rw [Nat.pow_succ];exact Nat.mul_lt_mul_of_lt_of_le hdk2 (Nat.le_of_lt hp) (by decide)
   have hLW:(digs BW W).length≤k+1:=(Qak BW_2 _ _).2 hWk;have hwin:((lows BW S (N+1)).drop i).take (k+1)=lows BW W (k+1):=by rw [Qjj _ _ _ _ _ (by omega),←hW]
   have htB:=Qsm (lows BW S (N+1)) i (k+1) (by rw [hll];omega) (by rw [hll];unfold maxLen;omega);rw [hwin,Qbb BW_2,Nat.mod_eq_of_lt hWk]at htB;have hwd2:((lows BW S (N+1)).drop i).take (digs BW W).length=digs BW W:=by
    rw [Qjj _ _ _ _ _ (by omega),←hW,Qe3 BW_2]
   have hesc:(((lows BW S (N+1)).map fW).drop i).take (digs BW W).length=(digs BW W).map fW:=by
    rw [←List.map_drop,←List.map_take,hwd2]
   have b7:(i+(digs BW W).length≤N+1)=True:=by simp only [eq_iff_iff,iff_true];omega
   have hg1:((lows BW S (N+1)).map fW)[i+k]? =some (PV.int .u64 ((W/BW^k:Nat):Int)):=by
    have h5:W/BW^k<BW:=Nat.div_lt_of_lt_mul (by rw [←Nat.pow_succ];exact hWk);rw [List.getElem?_map,Qbh _ _ _ (by omega),hSW,Nat.mod_eq_of_lt h5];rfl
   have hg2:((lows BW S (N+1)).map fW)[i+k-1]? =some (PV.int .u64 ((W/BW^(k-1)%BW:Nat):Int)):=by
    rw [List.getElem?_map,show i+k-1=i+(k-1)by omega,Qbh _ _ _ (by omega),hSW];rfl
   have htd:=Qcv BW_2 (show d≠0 by omega);rw [hdk]at htd;have hgd:=Qam (n:=d) (k:=k-1) BW_2 (by rw [hdk];omega);rw [Nat.mod_eq_of_lt htd.2]at hgd;have wik:=Qcs (a:=i) (b:=k) (by omega);have wik1:=Qa5 (a:=i+k) (by omega);have wikm:IntKind.i64.wrap (((i+k:Nat):Int)-1)=((i+k-1:Nat):Int):=by rw [Qaj (by omega) (by omega)];omega
   have b1:(0≤((i+k:Nat):Int))=True:=by simp only [eq_iff_iff,iff_true];exact Int.natCast_nonneg _
   have b2:(((i+k:Nat):Int)<((N+1:Nat):Int))=True:=by simp only [eq_iff_iff,iff_true];omega
   have b2a:(0≤((i+k-1:Nat):Int))=True:=by simp only [eq_iff_iff,iff_true];exact Int.natCast_nonneg _
   have b2b:(((i+k-1:Nat):Int)<((N+1:Nat):Int))=True:=by simp only [eq_iff_iff,iff_true];omega
   have b3:((i:Int)≤((i+k+1:Nat):Int))=True:=by simp only [eq_iff_iff,iff_true];omega
   have b4:(((i+k+1:Nat):Int)≤((N+1:Nat):Int))=True:=by simp only [eq_iff_iff,iff_true];omega
   have b5:(i<i+k+1)=True:=by simp only [eq_iff_iff,iff_true];omega
   have hsub:i+k+1-i=k+1:=by omega
   have hsB:=Za2 (lows BW S (N+1)) i W (d*Q) hQle hwd2 (by rw [hll];omega) (by omega);have b8:Nat.ble 0 i=true:=Nat.ble_eq_true_of_le (Nat.zero_le _);have b9:Nat.ble (i+(k+1)) (N+1)=true:=Nat.ble_eq_true_of_le (by omega);have hWQ:W-d*Q<d:=by
    have h5:=Nat.mod_lt W hd0;have h6:=Nat.div_add_mod W d;rw [hdg]at h6;generalize d*Q=dq at*;omega
   have hLq:(digs BW (W-d*Q)).length≤k:=(Qak BW_2 _ _).2 (Nat.lt_trans hWQ hdk2);have hLq2:(digs BW (W-d*Q)).length≤(digs BW W).length:=(Qak BW_2 _ _).2 (Nat.lt_of_le_of_lt (Nat.sub_le _ _) (Qay BW_2 W));have hmn:min (digs BW (W-d*Q)).length (k+1)=(digs BW (W-d*Q)).length:=Nat.min_eq_left (by omega);have hllf:=Qaf (B:=BW) (W-d*Q) (digs BW W).length;have b11:((digs BW (W-d*Q)).length≤(digs BW W).length)=True:=by simp only [eq_iff_iff,iff_true];exact hLq2
   have hlft:((lows BW (W-d*Q) (digs BW W).length).map fW).take (digs BW (W-d*Q)).length=(digs BW (W-d*Q)).map fW:=by
    rw [←List.map_take,Qn4 _ _ _ hLq2,Qe3 BW_2]
   have hfl3:=Qzx (digs BW (W-d*Q));have htk3:((digs BW (W-d*Q)).map fW).take (digs BW (W-d*Q)).length=(digs BW (W-d*Q)).map fW:=List.take_of_length_le (by simp);have hlen3:(((lows BW S (N+1)).map fW).take i++List.replicate (k+1) (PV.int .u64 0)++((lows BW S (N+1)).map fW).drop (i+(k+1))).length=N+1:=by simp [hll];omega
   have b12:Nat.ble (i+(digs BW (W-d*Q)).length) (N+1)=true:=Nat.ble_eq_true_of_le (by omega);have b10:Nat.ble 0 0=true:=rfl;have hinq:((i:Int)<(nq:Int))=True:=by simp only [eq_iff_iff,iff_true];omega
   have hmlq:=Qa9 (B:=BW) 0 (R0/d) nq (i+1);obtain⟨e,hgoq⟩: ∃e:Nat,((mix BW 0 (R0/d) nq (i+1)).map fW)[i]? =some (PV.int .u64 (e:Int)):=⟨_,by rw [List.getElem?_map,Qci _ _ _ _ _ (by omega)];rfl⟩;have hsetq:=Qmm (B:=BW) (V:=0) (S:=R0/d) (N:=nq) (i:=i) (d:=Q) (by omega) hQ.symm;have w4:IntKind.i64.wrap ((i:Int)-1)=(i:Int)-1:=Qaj (by omega) (by omega);obtain⟨S',hS'⟩: ∃S',S'=R0%(d*BW^i):=⟨_,rfl⟩;have hnx:S%(d*BW^i)=S':=by rw [hS,hS'];exact Q8t R0 d i
   have hup:S'/BW^i=W-d*Q:=by
    rw [←hnx,Q15 (by decide) S d i hd0,←hW];have h6:=Nat.div_add_mod W d;rw [hdg]at h6;omega
   have hlo:S%BW^i=S'%BW^i:=by rw [←hnx,Q16 (by decide)]
   have hpad2:=Qgj BW_2 (W-d*Q) (k+1) (Nat.le_succ_of_le hLq);have hz1:S/BW^(i+(k+1))=0:=by rw [hSW];exact Nat.div_eq_of_lt hWk
   have hz2:S'/BW^(i+(k+1))=0:=by
    rw [Nat.pow_add,←Nat.div_div_eq_div_mul,hup];exact Nat.div_eq_of_lt (Nat.lt_of_le_of_lt (Nat.sub_le _ _) hWk)
   have hov2:=Qwb (B:=BW) (V:=S) (W:=S') (n:=N+1) (j:=i) (x:=lows BW (W-d*Q) (k+1)) (by decide) (by rw [Qaf];omega) hlo (by rw [Qaf,hup]) (by rw [Qaf,hz1,hz2]);rw [Qaf,←hpad2]at hov2;have hfin:(((lows BW S (N+1)).map fW).take i++List.replicate (k+1) (PV.int .u64 0)++((lows BW S (N+1)).map fW).drop (i+(k+1))).take i++(digs BW (W-d*Q)).map fW++
     (((lows BW S (N+1)).map fW).take i++List.replicate (k+1) (PV.int .u64 0)++((lows BW S (N+1)).map fW).drop (i+(k+1))).drop (i+(digs BW (W-d*Q)).length)=(lows BW (R0%(d*BW^i)) (N+1)).map fW:=by
    have h7:=Qts ((lows BW S (N+1)).map fW) ((digs BW (W-d*Q)).map fW) i (k+1) (PV.int .u64 0) (by rw [List.length_map];omega) (by rw [List.length_map,hll];omega);rw [List.length_map]at h7;rw [h7,←hS',←hov2,List.map_append,List.map_append,List.map_append,List.map_take,List.map_drop,List.map_replicate];rfl
   by_cases hcase:W/BW^k<d/BW^(k-1)
   ·have g5:(((W/BW^k:Nat):Int)<((d/BW^(k-1):Nat):Int))=True:=by simp only [eq_iff_iff,iff_true];omega
    have hdv:=Qzv (W/BW^k) (W/BW^(k-1)%BW) (d/BW^(k-1)) hcase htd.2 (Nat.mod_lt _ (by decide));have htt:=Q8u (B:=BW) (by decide) W (k-1);rw [show k-1+1=k by omega]at htt;simp only [BW]at hdv htt;rw [←htt]at hdv;have hov:=Qto (B:=BW) (by decide) W d (k-1) (Nat.pos_of_ne_zero htd.1);rw [hdg]at hov;have hgB':W/BW^(k-1)/(d/BW^(k-1))<BW:=by
     rw [Nat.div_lt_iff_lt_mul (Nat.pos_of_ne_zero htd.1)];simp only [BW];rw [htt];have h6:=Nat.mul_le_mul_right BW (show W/BW^k+1≤d/BW^(k-1)from hcase);have h7:W/BW^(k-1)%BW<BW:=Nat.mod_lt _ (by decide);simp only [BW]at h6 h7;rw [Nat.add_mul,Nat.one_mul]at h6;rw [Nat.mul_comm 18446744073709551616];omega
    simp -implicitDefEqProofs only [go_sem,Nat.reduceAdd,Nat.reduceMul,Nat.reduceEqDiff,Nat.reduceLT,Nat.reduceLeDiff,reduceCtorEq,dw,wB,hs1,i0,wik,wikm,b1,b2,b2a,b2b,z2,z3,Int.toNat_natCast,←hS,hg1,hg2,Qb3,hgd,g5];refine⟨Qad _ _ (by kernel_rfl),?_⟩;refine Qab _ _ _ _ _ _ _ _ _ hdv ?_;simp only [BW]at hov hgB';generalize W/18446744073709551616^(k-1)/(d/18446744073709551616^(k-1))=g at*;have hgQ:Q≤g:=hov;have hgB:g<BW:=hgB';have htg:=Qcc [g] (by simp [maxLen]);rw [Qd5 hgB]at htg;have hmg:=Qoi d g (by rw [hdk];have:=(Qak BW_2 g 1).2 (by simpa using hgB);omega);simp -implicitDefEqProofs only [go_sem,Nat.reduceAdd,Nat.reduceMul,Nat.reduceEqDiff,Nat.reduceLT,Nat.reduceLeDiff,reduceCtorEq];refine⟨Qad _ _ (by kernel_rfl),?_⟩;simp -implicitDefEqProofs only [go_sem,Nat.reduceAdd,Nat.reduceMul,Nat.reduceEqDiff,Nat.reduceLT,Nat.reduceLeDiff,reduceIte,reduceCtorEq,i0,b3,b4,b5,wik,wik1,Int.toNat_natCast,hsub,Nat.zero_add];refine Qab _ _ _ _ _ _ _ _ _ htg ?_;simp -implicitDefEqProofs only [go_sem,Nat.reduceAdd,Nat.reduceEqDiff,Nat.reduceLT,dw];refine Qab _ _ _ _ _ _ _ _ _ hmg ?_;simp -implicitDefEqProofs only [go_sem,Nat.reduceAdd,Nat.reduceEqDiff,Nat.reduceLT,reduceCtorEq,dw];refine Qba mixed (fun p:{p:Nat // Q≤p∧p<BW}=>St.of [(8,.int .i64 (s:Int)),(9,dw (digs BW d)),(10,.bs 706 1 0 (N+1)),(11,.int .i64 (k:Int)),(12,.bs 1004 1 0 nq),(13,.int .i64 (i:Int)),(14,.int .u64 (p.1:Int)),(15,.bs 706 1 i (k+1)),(16,dw (digs BW (d*p.1)))]
     [(706,wB (lows BW S (N+1))),(1004,wB (mix BW 0 (R0/d) nq (i+1)))]) (fun p=>p.1) ⟨g,hgQ,hgB⟩ ?_ ?_
    ·refine Qa0 (θ:=[(706,706),(1004,1004)]) rfl ?_ ?_
     ·simp [Qah,lkp,ren1,ren0,dw]
     ·simp [Qal,lkp,Box.renames]
    ·rintro⟨p,hp1,hp2⟩;simp only at hp1 hp2 ⊢;have hlp:(digs BW (d*p)).length≤1000000000:=hLd p hp2;have hcm:=Qcn W (d*p) (by omega) hlp;simp -implicitDefEqProofs only [go_sem,Nat.reduceAdd,Nat.reduceMul,Nat.reduceEqDiff,Nat.reduceLT,Nat.reduceLeDiff,dw];refine Qbj _ _ _ _ _ _ _ _ _ htB ?_;simp -implicitDefEqProofs only [go_sem,Nat.reduceAdd,Nat.reduceEqDiff,Nat.reduceLT,reduceIte,wB,List.length_map,hll,b7,hesc];refine Qab _ _ _ _ _ _ _ _ _ hcm ?_;by_cases hlt:W<d*p
     ·have k1:(cmpW W (d*p)<0)=True:=by simp only [eq_iff_iff,iff_true];exact(Qc8 _ _).2 hlt
      have hpQ:Q<p:=by
       rcases Nat.lt_or_ge Q p with h'|h'
       ·exact h'
       ·have:=Nat.mul_le_mul_left d (show p≤Q from h');have:=hQle;omega
      have hsb2:=Qol (d*p) d (Nat.le_mul_of_pos_right d (by omega)) hlp;have e6:d*p-d=d*(p-1):=by rw [Nat.mul_sub,Nat.mul_one]
      rw [e6]at hsb2;have w5:IntKind.u64.wrap ((p:Int)-1)=((p-1:Nat):Int):=by rw [Qbl];simp only [BW]at hp2;omega
      simp -implicitDefEqProofs only [go_sem,Nat.reduceAdd,Nat.reduceMul,Nat.reduceEqDiff,Nat.reduceLT,Nat.reduceLeDiff,reduceCtorEq,k1,w5];refine Qab _ _ _ _ _ _ _ _ _ hsb2 ?_;simp -implicitDefEqProofs only [go_sem,Nat.reduceAdd,Nat.reduceEqDiff,Nat.reduceLT,reduceCtorEq,dw];refine⟨⟨p-1,by omega,by omega⟩,by simp only;omega,Qa0 (θ:=[(706,706),(1004,1004)]) rfl ?_ ?_⟩
      ·simp [Qah,lkp,ren1,ren0,dw]
      ·simp [Qal,lkp,Box.renames]
     ·have k1:(cmpW W (d*p)<0)=False:=by simp only [eq_iff_iff,iff_false];rw [Qc8];exact hlt
      obtain rfl:p=Q:=Nat.le_antisymm (hQmax p (by omega)) hp1;simp -implicitDefEqProofs only [go_sem,Nat.reduceAdd,Nat.reduceMul,Nat.reduceEqDiff,Nat.reduceLT,Nat.reduceLeDiff,reduceIte,reduceCtorEq,k1];refine Qbj _ _ _ _ _ _ _ _ _ htB ?_;simp -implicitDefEqProofs only [go_sem,Nat.reduceAdd,Nat.reduceEqDiff,Nat.reduceLT,wB];refine Qbj _ _ _ _ _ _ _ _ _ hsB ?_;simp -implicitDefEqProofs only [go_sem,Nat.reduceAdd,Nat.reduceMul,Nat.reduceEqDiff,Nat.reduceLT,Nat.reduceLeDiff,reduceIte,reduceCtorEq,wB,List.length_map,hll,b8,b9,List.length_replicate,b11,b12,hmn,hlft,hllf,hlen3,hfl3,htk3,Nat.zero_add,i0,hinq,hgoq,Int.toNat_natCast,w4];refine⟨⟨i,by omega⟩,by simp only;omega,Qa0 (θ:=[(706,706),(1004,1004)]) rfl ?_ ?_⟩
      ·simp [Qah,lkp,ren1,ren0,dw]
      ·rw [Qb9,hsetq];simp only [Qal,lkp,Box.renames,hfin,if_true,if_false,reduceCtorEq,Nat.reduceEqDiff,and_self,and_true,true_and];exact⟨.inl trivial,.inl trivial⟩
   ·have g5:(((W/BW^k:Nat):Int)<((d/BW^(k-1):Nat):Int))=False:=by simp only [eq_iff_iff,iff_false];omega
    obtain⟨g,hg⟩: ∃g:Nat,g=18446744073709551615:=⟨_,rfl⟩;have hgI:(18446744073709551615:Int)=((g:Nat):Int):=by rw [hg];rfl
    have hgQ:Q≤g:=by rw [hg];simp only [BW]at hQB;omega
    have hgB:g<BW:=by rw [hg];decide
    have htg:=Qcc [g] (by simp [maxLen]);rw [Qd5 hgB]at htg;have hmg:=Qoi d g (by rw [hdk];have:=(Qak BW_2 g 1).2 (by simpa using hgB);omega);simp -implicitDefEqProofs only [go_sem,Nat.reduceAdd,Nat.reduceMul,Nat.reduceEqDiff,Nat.reduceLT,Nat.reduceLeDiff,reduceCtorEq,dw,wB,hs1,i0,wik,b1,b2,z2,z3,Int.toNat_natCast,←hS,hg1,Qb3,hgd,g5,hgI];refine⟨Qad _ _ (by kernel_rfl),?_⟩;simp -implicitDefEqProofs only [go_sem,Nat.reduceAdd,Nat.reduceMul,Nat.reduceEqDiff,Nat.reduceLT,Nat.reduceLeDiff,reduceIte,reduceCtorEq,b3,b4,b5,wik1,Int.toNat_natCast,hsub,Nat.zero_add];refine Qab _ _ _ _ _ _ _ _ _ htg ?_;simp -implicitDefEqProofs only [go_sem,Nat.reduceAdd,Nat.reduceEqDiff,Nat.reduceLT,dw];refine Qab _ _ _ _ _ _ _ _ _ hmg ?_;simp -implicitDefEqProofs only [go_sem,Nat.reduceAdd,Nat.reduceEqDiff,Nat.reduceLT,reduceCtorEq,dw];refine Qba mixed (fun p:{p:Nat // Q≤p∧p<BW}=>St.of [(8,.int .i64 (s:Int)),(9,dw (digs BW d)),(10,.bs 706 1 0 (N+1)),(11,.int .i64 (k:Int)),(12,.bs 1004 1 0 nq),(13,.int .i64 (i:Int)),(14,.int .u64 (p.1:Int)),(15,.bs 706 1 i (k+1)),(16,dw (digs BW (d*p.1)))]
     [(706,wB (lows BW S (N+1))),(1004,wB (mix BW 0 (R0/d) nq (i+1)))]) (fun p=>p.1) ⟨g,hgQ,hgB⟩ ?_ ?_
    ·refine Qa0 (θ:=[(706,706),(1004,1004)]) rfl ?_ ?_
     ·simp [Qah,lkp,ren1,ren0,dw]
     ·simp [Qal,lkp,Box.renames]
    ·rintro⟨p,hp1,hp2⟩;simp only at hp1 hp2 ⊢;have hlp:(digs BW (d*p)).length≤1000000000:=hLd p hp2;have hcm:=Qcn W (d*p) (by omega) hlp;simp -implicitDefEqProofs only [go_sem,Nat.reduceAdd,Nat.reduceMul,Nat.reduceEqDiff,Nat.reduceLT,Nat.reduceLeDiff,dw];refine Qbj _ _ _ _ _ _ _ _ _ htB ?_;simp -implicitDefEqProofs only [go_sem,Nat.reduceAdd,Nat.reduceEqDiff,Nat.reduceLT,reduceIte,wB,List.length_map,hll,b7,hesc];refine Qab _ _ _ _ _ _ _ _ _ hcm ?_;by_cases hlt:W<d*p
     ·have k1:(cmpW W (d*p)<0)=True:=by simp only [eq_iff_iff,iff_true];exact(Qc8 _ _).2 hlt
      have hpQ:Q<p:=by
       rcases Nat.lt_or_ge Q p with h'|h'
       ·exact h'
       ·have:=Nat.mul_le_mul_left d (show p≤Q from h');have:=hQle;omega
      have hsb2:=Qol (d*p) d (Nat.le_mul_of_pos_right d (by omega)) hlp;have e6:d*p-d=d*(p-1):=by rw [Nat.mul_sub,Nat.mul_one]
      rw [e6]at hsb2;have w5:IntKind.u64.wrap ((p:Int)-1)=((p-1:Nat):Int):=by rw [Qbl];simp only [BW]at hp2;omega
      simp -implicitDefEqProofs only [go_sem,Nat.reduceAdd,Nat.reduceMul,Nat.reduceEqDiff,Nat.reduceLT,Nat.reduceLeDiff,reduceCtorEq,k1,w5];refine Qab _ _ _ _ _ _ _ _ _ hsb2 ?_;simp -implicitDefEqProofs only [go_sem,Nat.reduceAdd,Nat.reduceEqDiff,Nat.reduceLT,reduceCtorEq,dw];refine⟨⟨p-1,by omega,by omega⟩,by simp only;omega,Qa0 (θ:=[(706,706),(1004,1004)]) rfl ?_ ?_⟩
      ·simp [Qah,lkp,ren1,ren0,dw]
      ·simp [Qal,lkp,Box.renames]
     ·have k1:(cmpW W (d*p)<0)=False:=by simp only [eq_iff_iff,iff_false];rw [Qc8];exact hlt
      obtain rfl:p=Q:=Nat.le_antisymm (hQmax p (by omega)) hp1;simp -implicitDefEqProofs only [go_sem,Nat.reduceAdd,Nat.reduceMul,Nat.reduceEqDiff,Nat.reduceLT,Nat.reduceLeDiff,reduceIte,reduceCtorEq,k1];refine Qbj _ _ _ _ _ _ _ _ _ htB ?_;simp -implicitDefEqProofs only [go_sem,Nat.reduceAdd,Nat.reduceEqDiff,Nat.reduceLT,wB];refine Qbj _ _ _ _ _ _ _ _ _ hsB ?_;simp -implicitDefEqProofs only [go_sem,Nat.reduceAdd,Nat.reduceMul,Nat.reduceEqDiff,Nat.reduceLT,Nat.reduceLeDiff,reduceIte,reduceCtorEq,wB,List.length_map,hll,b8,b9,List.length_replicate,b11,b12,hmn,hlft,hllf,hlen3,hfl3,htk3,Nat.zero_add,i0,hinq,hgoq,Int.toNat_natCast,w4];refine⟨⟨i,by omega⟩,by simp only;omega,Qa0 (θ:=[(706,706),(1004,1004)]) rfl ?_ ?_⟩
      ·simp [Qah,lkp,ren1,ren0,dw]
      ·rw [Qb9,hsetq];simp only [Qal,lkp,Box.renames,hfin,if_true,if_false,reduceCtorEq,Nat.reduceEqDiff,and_self,and_true,true_and];exact⟨.inl trivial,.inl trivial⟩
theorem Q8j (a b:Nat) (hb:0<b) (ha:(digs BW a).length≤100000000) (hbl:(digs BW b).length≤100000000):Qag Tryz.prog 86 [dw (digs BW a),dw (digs BW b)] (.tup [dw (digs BW (a/b)),dw (digs BW (a%b))]):=by
 by_cases h:a<b
 ·exact Za3 a b h ha hbl
 ·by_cases h1:b<18446744073709551616
  ·exact Q6o a b (by omega) hb h1 ha
  ·refine Qzy a b (by omega) ?_ ha;refine(Qbt BW_2 b 1).2 ?_;have:=Nat.div_pos (show 18446744073709551616≤b by omega) (by decide);rw [Nat.pow_one];simp only [BW];omega
theorem Qe6 {a b:Nat} (h:a≤b):(digs BW a).length≤(digs BW b).length:=
 (Qak BW_2 a _).2 (Nat.lt_of_le_of_lt h (Qay BW_2 b))
theorem Q8k (a b:Nat) (ha:(digs BW a).length≤100000000) (hb:(digs BW b).length≤100000000):Qag Tryz.prog 59 [dw (digs BW a),dw (digs BW b)] (dw (digs BW (Nat.gcd a b))):=by
 refine Qae (tb:=[]) 19 [.tmp 4] [0,1,4,6,9] mixed Tryz.func59 rfl (by kernel_rfl) (by kernel_rfl) (by kernel_rfl) (by kernel_rfl) ?_;simp -implicitDefEqProofs only [go_sem,seval,dw];refine Qba mixed (fun p:{p:Nat×Nat // Nat.gcd p.1 p.2=Nat.gcd a b∧(digs BW p.1).length≤100000000∧(digs BW p.2).length≤100000000}=>St.of [(0,dw (digs BW p.1.1)),(1,dw (digs BW p.1.2)),(4,.nilS)] []) (fun p=>p.1.2) ⟨(a,b),rfl,ha,hb⟩ ?_ ?_
 ·exact Qbn (by simp [Qah,lkp,ren1,ren0,dw])
 ·rintro⟨⟨x,y⟩,h1,h2,h3⟩;simp only at h1 h2 h3 ⊢;by_cases hy:y=0
  ·subst hy;have g1:((0:Int)<((0:Nat):Int))=False:=by simp
   rw [Nat.gcd_zero_right]at h1;subst h1;simp -implicitDefEqProofs only [go_sem,seval,dw,Qap,List.map_nil,List.length_nil,g1]
  ·have hp:0<(digs BW y).length:=List.length_pos_iff.2 (mt (Qa1 BW_2).1 hy);have g1:((0:Int)<((digs BW y).length:Int))=True:=by simp only [eq_iff_iff,iff_true];omega
   have hd:=Q8j x y (Nat.pos_of_ne_zero hy) h2 h3;have hr:=Nat.mod_lt x (Nat.pos_of_ne_zero hy);simp -implicitDefEqProofs only [go_sem,seval,dw,List.length_map,g1];refine Qab _ _ _ _ _ _ _ _ _ hd ?_;simp -implicitDefEqProofs only [go_sem,seval,dw];refine⟨⟨(y,x%y),by rw [←h1,Nat.gcd_comm x y,Nat.gcd_rec y x,Nat.gcd_comm],h3,Nat.le_trans (Qe6 (Nat.le_of_lt hr)) h3⟩,by simp only;exact hr,Qbn ?_⟩;simp [Qah,lkp,ren1,ren0,dw]
theorem Qzz (xn yn:Bool) (a b:Nat) (hab:(digs BW a).length+(digs BW b).length≤1000000000):Qag Tryz.prog 57 [nP xn a,nP yn b] (nP (!(xn==yn)) (a*b)):=by
 have h:=Qoi a b hab;refine Qae (tb:=[]) 16 [.cell 4 87] [0,1,2,3,4] mixed Tryz.func57 rfl (by kernel_rfl) (by kernel_rfl) (by kernel_rfl) (by kernel_rfl) ?_;repeat (first|(simp -implicitDefEqProofs only [go_sem,seval,nP,dw])|((with_reducible refine Qaa h ?_ ?_ ?_);rfl;rfl)|(with_reducible exact Qad _ _ (by kernel_rfl)))
theorem Qz0 (xn yn:Bool) (a b:Nat):sv (!(xn==yn)) (a*b)=sv xn a*sv yn b:=by
 cases xn<;>cases yn<;>simp [sv,Int.natCast_mul,Int.neg_mul,Int.mul_neg]
def nqn (xn:Bool) (a b:Nat):Nat:=if(xn&&decide (0<a%b))=true then a/b+1 else a/b
def nrn (xn:Bool) (a b:Nat):Nat:=if(xn&&decide (0<a%b))=true then b-a%b else a%b
theorem Quy (xn:Bool) (a b:Nat) (hb:0<b):sv xn (nqn xn a b)=sv xn a/(b:Int)∧((nrn xn a b:Nat):Int)=sv xn a%(b:Int):=by
 have hb':(0:Int)<(b:Int):=by omega
 have h:=Nat.div_add_mod a b;have hr:=Nat.mod_lt a hb;have key:=(Int.ediv_emod_unique (a:=sv xn a) (r:=((nrn xn a b:Nat):Int)) (q:=sv xn (nqn xn a b)) hb').2;refine(fun t=>⟨(key t).1.symm,(key t).2.symm⟩) ?_;have e:((b*(a/b):Nat):Int)+((a%b:Nat):Int)=(a:Int):=by rw [←Int.natCast_add,h]
 rw [Int.natCast_mul]at e;cases xn with
 |false=>
  simp only [sv,nqn,nrn,Bool.false_and,Bool.false_eq_true,if_false];refine⟨by omega,by omega,by omega⟩
 |true=>
  by_cases h0:0<a%b
  ·simp only [sv,nqn,nrn,Bool.true_and,decide_eq_true_eq,h0,if_true];rw [Int.mul_neg,Int.natCast_add,Int.mul_add];generalize (b:Int)*((a/b:Nat):Int)=m at*;refine⟨by omega,by omega,by omega⟩
  ·simp only [sv,nqn,nrn,Bool.true_and,decide_eq_true_eq,h0,if_false,if_true];rw [Int.mul_neg];generalize (b:Int)*((a/b:Nat):Int)=m at*;refine⟨by omega,by omega,by omega⟩
theorem Qz1 (xn yn:Bool) (a b:Nat) (hb:0<b):sv (!(xn==yn)) (nqn xn a b)=sv xn a/sv yn b∧((nrn xn a b:Nat):Int)=sv xn a%sv yn b:=by
 obtain⟨h1,h2⟩:=Quy xn a b hb;have flip: ∀(n:Bool) (m:Nat),sv (!n) m= -(sv n m):=by intro n m;cases n<;>simp [sv]
 cases yn with
 |false=>
  refine⟨?_,by simpa [sv]using h2⟩;have:(!(xn==false))=xn:=by cases xn<;>rfl
  rw [this,h1];simp [sv]
 |true=>
  have:(!(xn==true))= !xn:=by cases xn<;>rfl
  rw [this,flip,h1,h2];simp [sv,Int.ediv_neg,Int.emod_neg]
theorem Qz2 (xn yn:Bool) (a b:Nat) (hb:0<b) (ha:(digs BW a).length≤100000000) (hbl:(digs BW b).length≤100000000):Qag Tryz.prog 58 [nP xn a,nP yn b] (.tup [nP (!(xn==yn)) (nqn xn a b),nP false (nrn xn a b)]):=by
 have hd:=Q8j a b hb ha hbl;have hr:=Nat.mod_lt a hb;cases xn with
 |false=>
  have e1:nqn false a b=a/b:=by simp [nqn]
  have e2:nrn false a b=a%b:=by simp [nrn]
  rw [e1,e2];refine Qae (tb:=[]) 39 [.cell 4 87,.cell 5 87] [0,1,2,3,4,5,6,7,22] mixed Tryz.func58 rfl (by kernel_rfl) (by kernel_rfl) (by kernel_rfl) (by kernel_rfl) ?_;repeat (first|(simp -implicitDefEqProofs only [go_sem,seval,nP,dw])|((with_reducible refine Qaa hd ?_ ?_ ?_);rfl;rfl))
 |true=>
  by_cases h0:a%b=0
  ·have g1:((0:Int)<((0:Nat):Int))=False:=by simp
   have e1:nqn true a b=a/b:=by simp [nqn,h0]
   have e2:nrn true a b=0:=by simp [nrn,h0]
   rw [e1,e2];rw [h0,Qap]at hd;refine Qae (tb:=[]) 39 [.cell 4 87,.cell 5 87] [0,1,2,3,4,5,6,7,22] mixed Tryz.func58 rfl (by kernel_rfl) (by kernel_rfl) (by kernel_rfl) (by kernel_rfl) ?_;repeat (first|(simp -implicitDefEqProofs only [go_sem,seval,nP,dw,Qap,List.map_nil,List.length_nil,g1])|((with_reducible refine Qaa hd ?_ ?_ ?_);rfl;rfl))
  ·have hp:0<(digs BW (a%b)).length:=List.length_pos_iff.2 (mt (Qa1 BW_2).1 h0);have g1:((0:Int)<((digs BW (a%b)).length:Int))=True:=by simp only [eq_iff_iff,iff_true];omega
   have e1:nqn true a b=a/b+1:=by simp only [nqn,Bool.true_and,decide_eq_true_eq];rw [if_pos (by omega)]
   have e2:nrn true a b=b-a%b:=by simp only [nrn,Bool.true_and,decide_eq_true_eq];rw [if_pos (by omega)]
   have hd1:digs BW 1=[1]:=by rw [Qd2 BW_2 (by decide),show 1%BW=1 from by decide,show 1/BW=0 from by decide,Qap]
   have hq:=Qe6 (Nat.div_le_self a b);have had:=Qso (a/b) 1 (by omega) (by rw [hd1];simp);rw [hd1]at had;have hsb:=Qol b (a%b) (Nat.le_of_lt hr) (by omega);rw [e1,e2];refine Qae (tb:=[]) 39 [.cell 4 87,.cell 5 87] [0,1,2,3,4,5,6,7,22] mixed Tryz.func58 rfl (by kernel_rfl) (by kernel_rfl) (by kernel_rfl) (by kernel_rfl) ?_;repeat (first|(simp -implicitDefEqProofs only [go_sem,seval,nP,dw,List.length_map,g1,List.map_cons,List.map_nil])|((with_reducible refine Qaa hd ?_ ?_ ?_);rfl;rfl)|((with_reducible refine Qaa had ?_ ?_ ?_);rfl;rfl)|((with_reducible refine Qaa hsb ?_ ?_ ?_);rfl;rfl)|(with_reducible exact Qad _ _ (by kernel_rfl)))
theorem Qjt: ∀l:List Nat,(∀d∈l,d<256)→bnum (l.reverse.map fun d=>UInt8.ofNat d)=val 256 l
 | [],_=>rfl
 |d::r,h=>by
  rw [List.reverse_cons,List.map_append,List.map_cons,List.map_nil,Qgi,Qjt r fun x hx=>h x (by simp [hx])];rw [UInt8.toNat_ofNat_of_lt' (h d (by simp))];simp only [val];omega
theorem Qok (m:Nat):bnum (magL m)=m:=by
 rw [magL,Qjt _ fun d hd=>Qp2 (by decide) hd,Qr6 (by decide)]
theorem Qju {neg:Bool} {l:List UInt8} (h:Qa2 neg l=true):magL (bnum l)=l:=by
 have hv:bnum l=val 256 (l.reverse.map UInt8.toNat):=by
  have h2:=Qjt (l.reverse.map UInt8.toNat) (by intro d hd;obtain⟨b,_,rfl⟩:=List.mem_map.1 hd;exact b.toNat_lt);rw [←h2,←List.map_reverse,List.reverse_reverse,List.map_map];congr 1
  conv=>lhs;rw [←List.map_id l]
  apply List.map_congr_left;intro b _;simp
 have ht:Qch (l.reverse.map UInt8.toNat)=l.reverse.map UInt8.toNat:=by
  refine Qtt ?_;intro d hd;cases l with
  |nil=>simp at hd
  |cons b r=>
   simp at hd;subst hd;simp only [Qa2,Bool.and_eq_true]at h;have hb:b≠0:=by simpa using h.2
   intro e;exact hb (UInt8.toNat_inj.1 (by simpa using e))
 have hd:digs 256 (bnum l)=l.reverse.map UInt8.toNat:=by
  rw [hv,←Qmf (by decide) _ (by intro d hd;obtain⟨b,_,rfl⟩:=List.mem_map.1 hd;exact b.toNat_lt),ht]
 rw [magL,hd,←List.map_reverse,List.reverse_reverse,List.map_map]
 conv=>rhs;rw [←List.map_id l]
 apply List.map_congr_left;intro b _;simp
theorem Qbo (n:Int):wnum (decide (n<0)) ⟨(magL n.natAbs).toArray⟩=n:=by
 unfold wnum sv;rw [show(⟨(magL n.natAbs).toArray⟩:ByteArray).data.toList=magL n.natAbs from rfl,Qok];by_cases h:n<0
 ·simp [h];omega
 ·simp [h];omega
theorem Qqt (n:Int) (h:(digs 256 n.natAbs).length≤8192):Qa2 (decide (n<0)) (magL n.natAbs)=true:=by
 by_cases h0:n.natAbs=0
 ·have:n=0:=by omega
  subst this;simp [magL,Qap,Qa2]
 ·obtain⟨d,hd,hd2⟩:=Q2g h0;have ht:=Qcv (B:=256) (by decide) h0;cases hl:magL n.natAbs with
  |nil=>
   have:=Qcm n.natAbs;rw [hl]at this;exact absurd ((Qa1 (by decide)).1 (List.length_eq_zero_iff.1 this.symm)) h0
  |cons b r=>
   have hlen:=Qcm n.natAbs;rw [hl]at hlen;have hb:b=d:=by
    have h3:(⟨(magL n.natAbs).toArray⟩:ByteArray)[0]? =(magL n.natAbs)[0]? :=by
     rw [Qnx _ 0 (by show 0<(magL n.natAbs).length;rw [hl];simp)];exact(List.getElem?_eq_getElem _).symm
    rw [hd,hl]at h3;simpa using h3.symm
   simp only [Qa2,Bool.and_eq_true,decide_eq_true_eq];refine⟨by omega,?_⟩;simp only [bne_iff_ne,ne_eq];intro e;rw [hb]at e;subst e;simp at hd2;exact ht.1 hd2.symm
theorem Zdu (an bn:Bool) (a b:ByteArray) (h1:Qa2 an a.data.toList=true) (h2:Qa2 bn b.data.toList=true) (ha:a.size≤100000) (hb:b.size≤100000):
  Qag Tryz.prog 19 [.agg [.bool an,.str a],.agg [.bool bn,.str b]] (Qc7 (wnum an a*wnum bn b)):=by
 have hv:=Qlo an bn a b;rw [h1,h2,Bool.true_and]at hv;have hL1:=Qdk a ha;have hL2:=Qdk b hb;have hoa:=Qhq an a h1 (by omega);have hob:=Qhq bn b h2 (by omega);have hm:=Qzz an bn (bnum a.data.toList) (bnum b.data.toList) (by omega);have hL:(digs BW (bnum a.data.toList*bnum b.data.toList)).length≤1000000:=by
  refine Nat.le_trans ((Qak BW_2 _ ((digs BW (bnum a.data.toList)).length+(digs BW (bnum b.data.toList)).length)).2 ?_) (by omega);rw [Nat.pow_add];exact Nat.mul_lt_mul'' (Qay BW_2 _) (Qay BW_2 _)
 have hw:=Qd0 (!(an==bn)) _ hL;rw [Qz0,Qdu]at hw;rw [wnum,wnum,Qdu];refine Qae (tb:=[]) 19 [.cell 4 23,.tmp 5] [0,1,2,3,4,5,9] mixed Tryz.func19 rfl (by kernel_rfl) (by kernel_rfl) (by kernel_rfl) (by kernel_rfl) ?_;repeat (first|(simp -implicitDefEqProofs only [go_sem,seval,nP,dw,wPV])|((with_reducible refine Qaa hv ?_ ?_ ?_);rfl;rfl)|((with_reducible refine Qaa hoa ?_ ?_ ?_);rfl;rfl)|((with_reducible refine Qaa hob ?_ ?_ ?_);rfl;rfl)|((with_reducible refine Qaa hm ?_ ?_ ?_);rfl;rfl)|((with_reducible refine Qaa hw ?_ ?_ ?_);rfl;rfl)|(with_reducible exact Qad _ _ (by kernel_rfl)))
theorem Zdv (an bn:Bool) (a b:ByteArray) (h1:Qa2 an a.data.toList=true) (h2:Qa2 bn b.data.toList=true) (ha:a.size≤100000) (hb:b.size≤100000):
  Qag Tryz.prog 21 [.agg [.bool an,.str a],.agg [.bool bn,.str b]] (Qc7 ((Nat.gcd (bnum a.data.toList) (bnum b.data.toList):Nat):Int)):=by
 have hv:=Qlo an bn a b;rw [h1,h2,Bool.true_and]at hv;have hL1:=Qdk a ha;have hL2:=Qdk b hb;have hoa:=Qjx a (by omega);have hob:=Qjx b (by omega);rw [Qe5 h1]at hoa;rw [Qe5 h2]at hob;have hg:=Q8k (bnum a.data.toList) (bnum b.data.toList) (by omega) (by omega);have hL:(digs BW (Nat.gcd (bnum a.data.toList) (bnum b.data.toList))).length≤1000000:=by
  rcases Nat.eq_zero_or_pos (bnum a.data.toList)with h0|h0
  ·rw [h0,Nat.gcd_zero_left];omega
  ·exact Nat.le_trans (Qe6 (Nat.gcd_le_left _ h0)) (by omega)
 have hw:=Qd0 false _ hL;have e:sv false (Nat.gcd (bnum a.data.toList) (bnum b.data.toList))=((Nat.gcd (bnum a.data.toList) (bnum b.data.toList):Nat):Int):=rfl;rw [e,Qdu]at hw;rw [Qdu];refine Qae (tb:=[]) 22 [.cell 4 23,.tmp 5] [0,1,2,3,4,5,9] mixed Tryz.func21 rfl (by kernel_rfl) (by kernel_rfl) (by kernel_rfl) (by kernel_rfl) ?_;repeat (first|(simp -implicitDefEqProofs only [go_sem,seval,dw,wPV])|((with_reducible refine Qaa hv ?_ ?_ ?_);rfl;rfl)|((with_reducible refine Qaa hoa ?_ ?_ ?_);rfl;rfl)|((with_reducible refine Qaa hob ?_ ?_ ?_);rfl;rfl)|((with_reducible refine Qaa hg ?_ ?_ ?_);rfl;rfl)|((with_reducible refine Qaa hw ?_ ?_ ?_);rfl;rfl)|(with_reducible exact Qad _ _ (by kernel_rfl)))
def Q6p (x y:Int):PV:= .tup [wPV (outN (x/y)),wPV (outN (x%y)),.int .i64 0]
theorem Qz3 (xn:Bool) (a b:Nat):nqn xn a b≤a+1:=by
 have:=Nat.div_le_self a b;unfold nqn;split<;>omega
theorem Zdw (xn:Bool) (a b:Nat) (hb:0<b):nrn xn a b≤b:=by
 have:=Nat.mod_lt a hb;unfold nrn;split<;>omega
theorem Qqu (a:Nat):(digs BW (a+1)).length≤(digs BW a).length+1:=by
 refine(Qak BW_2 _ _).2 ?_;have h:=Qay BW_2 a;rw [Nat.pow_succ];generalize BW^(digs BW a).length=M at*;simp only [BW];omega
theorem Qms {l:List UInt8} (h:l≠ []):(l== [])=false:=by cases l with|nil=>exact absurd rfl h|cons=>rfl
theorem Zdx (an bn:Bool) (a b:ByteArray) (h1:Qa2 an a.data.toList=true) (h2:Qa2 bn b.data.toList=true) (h0:b.data.toList≠ []) (ha:a.size≤100000) (hb:b.size≤100000):
  Qag Tryz.prog 20 [.agg [.bool an,.str a],.agg [.bool bn,.str b]] (Q6p (wnum an a) (wnum bn b)):=by
 have hv:=Qlo an bn a b;rw [h1,h2,Bool.true_and]at hv;have hL1:=Qdk a ha;have hL2:=Qdk b hb;have hoa:=Qhq an a h1 (by omega);have hob:=Qhq bn b h2 (by omega);have hbp:0<bnum b.data.toList:=by
  cases hl:b.data.toList with
  |nil=>exact absurd hl h0
  |cons c r=>
   rw [hl]at h2;simp only [Qa2,Bool.and_eq_true]at h2;have hc:c.toNat≠0:=fun e=>by
    have:c≠0:=by simpa using h2.2
    exact this (UInt8.toNat_inj.1 (by simpa using e))
   rw [Qgt];have hp:0<c.toNat*256^r.length:=Nat.mul_pos (Nat.pos_of_ne_zero hc) (Nat.pow_pos (by decide));omega
 have he:=Qms h0;have hd:=Qz2 an bn (bnum a.data.toList) (bnum b.data.toList) hbp (by omega) (by omega);obtain⟨d1,d2⟩:=Qz1 an bn (bnum a.data.toList) (bnum b.data.toList) hbp;have hq:=Qd0 (!(an==bn)) (nqn an (bnum a.data.toList) (bnum b.data.toList)) (Nat.le_trans (Qe6 (Qz3 _ _ _)) (Nat.le_trans (Qqu _) (by omega)));have hr:=Qd0 false (nrn an (bnum a.data.toList) (bnum b.data.toList)) (Nat.le_trans (Qe6 (Zdw _ _ _ hbp)) (by omega));have e2:sv false (nrn an (bnum a.data.toList) (bnum b.data.toList))=((nrn an (bnum a.data.toList) (bnum b.data.toList):Nat):Int):=rfl;rw [d1,Qdu]at hq;rw [e2,d2,Qdu]at hr;unfold Q6p wnum;refine Qae (tb:=[]) 40 [.cell 4 23,.cell 5 23,.tmp 6] [0,1,2,3,4,5,6,7,8,12,17] mixed Tryz.func20 rfl (by kernel_rfl) (by kernel_rfl) (by kernel_rfl) (by kernel_rfl) ?_;repeat (first|(simp -implicitDefEqProofs only [go_sem,seval,he,nP,dw,wPV])|((with_reducible refine Qaa hv ?_ ?_ ?_);rfl;rfl)|((with_reducible refine Qaa hoa ?_ ?_ ?_);rfl;rfl)|((with_reducible refine Qaa hob ?_ ?_ ?_);rfl;rfl)|((with_reducible refine Qaa hd ?_ ?_ ?_);rfl;rfl)|((with_reducible refine Qaa hq ?_ ?_ ?_);rfl;rfl)|((with_reducible refine Qaa hr ?_ ?_ ?_);rfl;rfl)|(with_reducible exact Qad _ _ (by kernel_rfl))|(with_reducible refine And.intro (Qad _ _ (by kernel_rfl)) ?_))
end Go.Proofs.YtapjnenbofmliaaGreatDoor

namespace Go.Dg
theorem p256 (k:Nat):(256:Nat)^k=2^(8*k):=by rw [show(256:Nat)=2^8 from rfl,←Nat.pow_mul]
theorem Zce {m B k:Nat} (h:m<2^B) (hk:B≤8*k):m<256^k:=by
 rw [p256];exact Nat.lt_of_lt_of_le h (Nat.pow_le_pow_right (by decide) hk)
end Go.Dg

namespace Go.Proofs.YtapjnenbofmliaaGreatDoor
open Go.Vl Go.RowKit Go.Dg
theorem mulL (a b:Nat):(digs BW (a*b)).length≤(digs BW a).length+(digs BW b).length:=by
 refine(Qak BW_2 _ _).2 ?_;rw [Nat.pow_add];exact Nat.mul_lt_mul'' (Qay BW_2 _) (Qay BW_2 _)
def vRat (n:Bool) (s:ByteArray) (m:Bool) (t:ByteArray):Bool:=Qa2 n s.data.toList&&(Qa2 m t.data.toList&&(!m&& !(t.data.toList== [])))
theorem Qmt {n:Bool} {l:List UInt8} (h:Qa2 n l=true) (h0:l≠ []):0<bnum l:=by
 cases l with
 |nil=>exact absurd rfl h0
 |cons c r=>
  simp only [Qa2,Bool.and_eq_true]at h;have hc:c.toNat≠0:=fun e=>by
   have:c≠0:=by simpa using h.2
   exact this (UInt8.toNat_inj.1 (by simpa using e))
  rw [Qgt];have hp:0<c.toNat*256^r.length:=Nat.mul_pos (Nat.pos_of_ne_zero hc) (Nat.pow_pos (by decide));omega
theorem Qz4 {m:Bool} {t:ByteArray} (h:Qa2 m t.data.toList=true):decide (0<(wnum m t).sign)=(!m&& !(t.data.toList== [])):=by
 by_cases h0:t.data.toList=[]
 ·have e:wnum m t=0:=by unfold wnum sv;rw [h0];cases m<;>rfl
  rw [e,h0];simp
 ·have hb:=Qmt h h0;rw [Qms h0];unfold wnum sv;cases m with
  |false=>simp only [Bool.false_eq_true,if_false,Bool.not_false,Bool.and_self];rw [Int.sign_eq_one_of_pos (by omega)];rfl
  |true=>simp only [if_true,Bool.not_true,Bool.false_and];rw [Int.sign_eq_neg_one_of_neg (by omega)];rfl
theorem Qgv (n:Bool) (s:ByteArray) (m:Bool) (t:ByteArray) (ht:t.size≤100000):Qag Tryz.prog 66 [.agg [.bool n,.str s,.bool m,.str t]] (.bool (vRat n s m t)):=by
 have hb:=Qlo n m s t;unfold vRat;cases h1:Qa2 n s.data.toList with
 |false=>
  rw [h1,Bool.false_and]at hb;rw [Bool.false_and];refine Qae (tb:=[]) 14 [.tmp 2] [0,1,2] mixed Tryz.func66 rfl (by kernel_rfl) (by kernel_rfl) (by kernel_rfl) (by kernel_rfl) ?_;repeat (first|(simp -implicitDefEqProofs only [go_sem,seval])|((with_reducible refine Qaa hb ?_ ?_ ?_);rfl;rfl))
 |true=>
  rw [h1,Bool.true_and]at hb;rw [Bool.true_and];cases h2:Qa2 m t.data.toList with
  |false=>
   rw [h2]at hb;rw [Bool.false_and];refine Qae (tb:=[]) 14 [.tmp 2] [0,1,2] mixed Tryz.func66 rfl (by kernel_rfl) (by kernel_rfl) (by kernel_rfl) (by kernel_rfl) ?_;repeat (first|(simp -implicitDefEqProofs only [go_sem,seval])|((with_reducible refine Qaa hb ?_ ?_ ?_);rfl;rfl))
  |true=>
   rw [h2]at hb;have hs:=Qzw m t h2 ht;rw [Bool.true_and,←Qz4 h2];refine Qae (tb:=[]) 14 [.tmp 2] [0,1,2] mixed Tryz.func66 rfl (by kernel_rfl) (by kernel_rfl) (by kernel_rfl) (by kernel_rfl) ?_;repeat (first|(simp -implicitDefEqProofs only [go_sem,seval])|((with_reducible refine Qaa hb ?_ ?_ ?_);rfl;rfl)|((with_reducible refine Qaa hs ?_ ?_ ?_);rfl;rfl))
theorem Za4 (n1 m1 n2 m2:Bool) (s1 t1 s2 t2:ByteArray) (h1:t1.size≤100000) (h2:t2.size≤100000):Qag Tryz.prog 61 [.agg [.bool n1,.str s1,.bool m1,.str t1],.agg [.bool n2,.str s2,.bool m2,.str t2]] (.bool (vRat n1 s1 m1 t1&&vRat n2 s2 m2 t2)):=by
 have a1:=Qgv n1 s1 m1 t1 h1;have a2:=Qgv n2 s2 m2 t2 h2;cases hv:vRat n1 s1 m1 t1 with
 |false=>
  rw [hv]at a1;rw [Bool.false_and];refine Qae (tb:=[]) 11 [.tmp 4] [0,1,2,3,4] mixed Tryz.func61 rfl (by kernel_rfl) (by kernel_rfl) (by kernel_rfl) (by kernel_rfl) ?_;repeat (first|(simp -implicitDefEqProofs only [go_sem,seval])|((with_reducible refine Qaa a1 ?_ ?_ ?_);rfl;rfl))
 |true=>
  rw [hv]at a1;rw [Bool.true_and];refine Qae (tb:=[]) 11 [.tmp 4] [0,1,2,3,4] mixed Tryz.func61 rfl (by kernel_rfl) (by kernel_rfl) (by kernel_rfl) (by kernel_rfl) ?_;repeat (first|(simp -implicitDefEqProofs only [go_sem,seval])|((with_reducible refine Qaa a1 ?_ ?_ ?_);rfl;rfl)|((with_reducible refine Qaa a2 ?_ ?_ ?_);rfl;rfl))
def gN (x y:Int):Int:=if y<0 then -((Nat.gcd x.natAbs y.natAbs:Nat):Int)else((Nat.gcd x.natAbs y.natAbs:Nat):Int)
def lowN (x y:Int):Int:=x/gN x y
def lowD (x y:Int):Int:=y/gN x y
def Qqv (x y:Int):PV:= .agg [.bool (decide (x<0)),.str ⟨(magL x.natAbs).toArray⟩,.bool (decide (y<0)),.str ⟨(magL y.natAbs).toArray⟩]
def big (x y:Int):Bool:=decide (65536<blen x.natAbs)||decide (65536<blen y.natAbs)
def Qqw (e:Int):PV:= .tup [.agg [.bool false,.str ⟨#[]⟩,.bool false,.str ⟨#[]⟩],.int .i64 e]
def outQ (x y:Int):PV:=if big x y=true then Qqw 7 else .tup [Qqv x y,.int .i64 0]
theorem Qsn {x y:Int} (h:big x y=true):outQ x y=Qqw 7:=by rw [outQ,if_pos h]
theorem Qz5 {x y:Int} (h:big x y=false):outQ x y= .tup [Qqv x y,.int .i64 0]:=by rw [outQ,if_neg (by rw [h];decide)]
theorem Qz6 (n:Bool) (m:Nat):(sv n m).natAbs=m:=by cases n<;>simp [sv]
theorem Zdy {n:Bool} {m:Nat} (h:0<m):(sv n m<0)=(n=true):=by cases n<;>simp [sv]<;>omega
theorem Zfc (xn yn:Bool) (a b:Nat) (hb:0<b):gN (sv xn a) (sv yn b)=sv yn (Nat.gcd a b):=by
 unfold gN;rw [Qz6,Qz6];simp only [Zdy hb];cases yn<;>rfl
theorem Qi9 {n:Int} (h:65536<blen n.natAbs):Qc7 n= .tup [.agg [.bool false,.str ⟨#[]⟩],.int .i64 7]:=by rw [Qc7,if_pos h,Qi6]
theorem Qjv {n:Int} (h: ¬65536<blen n.natAbs):Qc7 n= .tup [.agg [.bool (decide (n<0)),.str ⟨(magL n.natAbs).toArray⟩],.int .i64 0]:=by rw [Qc7,if_neg h];rfl
theorem Qz7 (xn yn:Bool) (a b:Nat) (hb:0<b) (ha:(digs BW a).length≤900000) (hbl:(digs BW b).length≤900000):
  Qag Tryz.prog 62 [nP xn a,nP yn b] (outQ (lowN (sv xn a) (sv yn b)) (lowD (sv xn a) (sv yn b))):=by
 have hg:=Q8k a b (by omega) (by omega);have hgp:0<Nat.gcd a b:=Nat.gcd_pos_of_pos_right _ hb;have hgl:(digs BW (Nat.gcd a b)).length≤900000:=Nat.le_trans (Qe6 (Nat.gcd_le_right _ hb)) hbl;have d1:=Qz2 xn yn a (Nat.gcd a b) hgp (by omega) (by omega);have d2:=Qz2 yn yn b (Nat.gcd a b) hgp (by omega) (by omega);have w1:=Qd0 (!(xn==yn)) (nqn xn a (Nat.gcd a b)) (Nat.le_trans (Qe6 (Qz3 _ _ _)) (Nat.le_trans (Qqu _) (by omega)));have w2:=Qd0 (!(yn==yn)) (nqn yn b (Nat.gcd a b)) (Nat.le_trans (Qe6 (Qz3 _ _ _)) (Nat.le_trans (Qqu _) (by omega)));rw [(Qz1 xn yn a _ hgp).1]at w1;rw [(Qz1 yn yn b _ hgp).1]at w2;have e0:(!(yn==yn))=false:=by cases yn<;>rfl
 rw [e0]at d2 w2;unfold lowN lowD;rw [Zfc _ _ _ _ hb];generalize sv xn a/sv yn (Nat.gcd a b)=n at*;generalize sv yn b/sv yn (Nat.gcd a b)=d at*;generalize nqn xn a (Nat.gcd a b)=q1 at*;generalize nqn yn b (Nat.gcd a b)=q2 at*;generalize nrn xn a (Nat.gcd a b)=r1 at*;generalize nrn yn b (Nat.gcd a b)=r2 at*;generalize Nat.gcd a b=g at*;generalize (!(xn==yn))=s at*;have z1:((7:Int) != 0)=true:=rfl;have z0:((0:Int) != 0)=false:=rfl;by_cases h1:65536<blen n.natAbs
 ·rw [Qsn (by simp [big,h1])];rw [Qi9 h1]at w1;by_cases h2:65536<blen d.natAbs
  ·rw [Qi9 h2]at w2;refine Qae (tb:=[]) 51 [.cell 4 47,.tmp 5] [0,1,2,3,4,5,6,7,8,9,10,46] mixed Tryz.func62 rfl (by kernel_rfl) (by kernel_rfl) (by kernel_rfl) (by kernel_rfl) ?_;repeat (first|(simp -implicitDefEqProofs only [go_sem,seval,nP,dw,z1,Qqw])|((with_reducible refine Qaa hg ?_ ?_ ?_);rfl;rfl)|((with_reducible refine Qaa d1 ?_ ?_ ?_);rfl;rfl)|((with_reducible refine Qaa d2 ?_ ?_ ?_);rfl;rfl)|((with_reducible refine Qaa w1 ?_ ?_ ?_);rfl;rfl)|((with_reducible refine Qaa w2 ?_ ?_ ?_);rfl;rfl)|(with_reducible refine And.intro (Qad _ _ (by kernel_rfl)) ?_))
  ·rw [Qjv h2]at w2;refine Qae (tb:=[]) 51 [.cell 4 47,.tmp 5] [0,1,2,3,4,5,6,7,8,9,10,46] mixed Tryz.func62 rfl (by kernel_rfl) (by kernel_rfl) (by kernel_rfl) (by kernel_rfl) ?_;repeat (first|(simp -implicitDefEqProofs only [go_sem,seval,nP,dw,z1,Qqw])|((with_reducible refine Qaa hg ?_ ?_ ?_);rfl;rfl)|((with_reducible refine Qaa d1 ?_ ?_ ?_);rfl;rfl)|((with_reducible refine Qaa d2 ?_ ?_ ?_);rfl;rfl)|((with_reducible refine Qaa w1 ?_ ?_ ?_);rfl;rfl)|((with_reducible refine Qaa w2 ?_ ?_ ?_);rfl;rfl)|(with_reducible refine And.intro (Qad _ _ (by kernel_rfl)) ?_))
 ·rw [Qjv h1]at w1;by_cases h2:65536<blen d.natAbs
  ·rw [Qsn (by simp [big,h2])];rw [Qi9 h2]at w2;refine Qae (tb:=[]) 51 [.cell 4 47,.tmp 5] [0,1,2,3,4,5,6,7,8,9,10,46] mixed Tryz.func62 rfl (by kernel_rfl) (by kernel_rfl) (by kernel_rfl) (by kernel_rfl) ?_;repeat (first|(simp -implicitDefEqProofs only [go_sem,seval,nP,dw,z1,z0,Qqw])|((with_reducible refine Qaa hg ?_ ?_ ?_);rfl;rfl)|((with_reducible refine Qaa d1 ?_ ?_ ?_);rfl;rfl)|((with_reducible refine Qaa d2 ?_ ?_ ?_);rfl;rfl)|((with_reducible refine Qaa w1 ?_ ?_ ?_);rfl;rfl)|((with_reducible refine Qaa w2 ?_ ?_ ?_);rfl;rfl)|(with_reducible refine And.intro (Qad _ _ (by kernel_rfl)) ?_))
  ·rw [Qz5 (by simp only [big,h1,h2,decide_false,Bool.or_self])];rw [Qjv h2]at w2;refine Qae (tb:=[]) 51 [.cell 4 47,.tmp 5] [0,1,2,3,4,5,6,7,8,9,10,46] mixed Tryz.func62 rfl (by kernel_rfl) (by kernel_rfl) (by kernel_rfl) (by kernel_rfl) ?_;repeat (first|(simp -implicitDefEqProofs only [go_sem,seval,nP,dw,z0,Qqv])|((with_reducible refine Qaa hg ?_ ?_ ?_);rfl;rfl)|((with_reducible refine Qaa d1 ?_ ?_ ?_);rfl;rfl)|((with_reducible refine Qaa d2 ?_ ?_ ?_);rfl;rfl)|((with_reducible refine Qaa w1 ?_ ?_ ?_);rfl;rfl)|((with_reducible refine Qaa w2 ?_ ?_ ?_);rfl;rfl)|(with_reducible refine And.intro (Qad _ _ (by kernel_rfl)) ?_))
theorem Q6q (n:Int):(magL n.natAbs=[])↔n=0:=by
 have h:=Qcm n.natAbs;constructor
 ·intro e;rw [e]at h;have:=(Qa1 (B:=256) (by decide)).1 (List.length_eq_zero_iff.1 h.symm);omega
 ·rintro rfl;simp [magL,Qap]
theorem Qln {n m:Bool} {s t:ByteArray} (h:vRat n s m t=true):Qa2 n s.data.toList=true∧Qa2 m t.data.toList=true∧m=false∧t.data.toList≠ []:=by
 simp only [vRat,Bool.and_eq_true]at h;refine⟨h.1,h.2.1,by simpa using h.2.2.1,by simpa using h.2.2.2⟩
theorem Qqx (n1 m1 n2 m2:Bool) (s1 t1 s2 t2:ByteArray) (hv1:vRat n1 s1 m1 t1=true) (hv2:vRat n2 s2 m2 t2=true) (a1:s1.size≤100000) (a2:t1.size≤100000) (a3:s2.size≤100000) (a4:t2.size≤100000):
  Qag Tryz.prog 23 [.agg [.bool n1,.str s1,.bool m1,.str t1],.agg [.bool n2,.str s2,.bool m2,.str t2]] (outQ (lowN (wnum n1 s1*wnum n2 s2) (wnum m1 t1*wnum m2 t2)) (lowD (wnum n1 s1*wnum n2 s2) (wnum m1 t1*wnum m2 t2))):=by
 have hp:=Za4 n1 m1 n2 m2 s1 t1 s2 t2 a2 a4;rw [hv1,hv2,Bool.true_and]at hp;obtain⟨p1,p2,_,p5⟩:=Qln hv1;obtain⟨p3,p4,_,p6⟩:=Qln hv2;have o1:=Qhq n1 s1 p1 (by omega);have o2:=Qhq m1 t1 p2 (by omega);have o3:=Qhq n2 s2 p3 (by omega);have o4:=Qhq m2 t2 p4 (by omega);have l1:=Qdk s1 a1;have l2:=Qdk t1 a2;have l3:=Qdk s2 a3;have l4:=Qdk t2 a4;have q1:=mulL (bnum s1.data.toList) (bnum s2.data.toList);have q3:=mulL (bnum t1.data.toList) (bnum t2.data.toList);have x1:=Qzz n1 n2 (bnum s1.data.toList) (bnum s2.data.toList) (by omega);have x2:=Qzz m1 m2 (bnum t1.data.toList) (bnum t2.data.toList) (by omega);have hlo:=Qz7 (!(n1==n2)) (!(m1==m2)) (bnum s1.data.toList*bnum s2.data.toList) (bnum t1.data.toList*bnum t2.data.toList) (Nat.mul_pos (Qmt p2 p5) (Qmt p4 p6)) (by omega) (by omega);rw [Qz0,Qz0]at hlo;unfold wnum;generalize lowN (sv n1 (bnum s1.data.toList)*sv n2 (bnum s2.data.toList)) (sv m1 (bnum t1.data.toList)*sv m2 (bnum t2.data.toList))=N at*;generalize lowD (sv n1 (bnum s1.data.toList)*sv n2 (bnum s2.data.toList)) (sv m1 (bnum t1.data.toList)*sv m2 (bnum t2.data.toList))=D at*;generalize (!(n1==n2))=b1 at*;generalize (!(m1==m2))=b3 at*;cases hB:big N D with
 |true=>
  rw [Qsn hB]at hlo ⊢;refine Qae (tb:=[]) 28 [.cell 4 47,.tmp 5] [0,1,2,3,4,5,9] mixed Tryz.func23 rfl (by kernel_rfl) (by kernel_rfl) (by kernel_rfl) (by kernel_rfl) ?_;repeat (first|(simp -implicitDefEqProofs only [go_sem,seval,nP,dw,Qqw])|((with_reducible refine Qaa hp ?_ ?_ ?_);rfl;rfl)|((with_reducible refine Qaa o1 ?_ ?_ ?_);rfl;rfl)|((with_reducible refine Qaa o2 ?_ ?_ ?_);rfl;rfl)|((with_reducible refine Qaa o3 ?_ ?_ ?_);rfl;rfl)|((with_reducible refine Qaa o4 ?_ ?_ ?_);rfl;rfl)|((with_reducible refine Qaa x1 ?_ ?_ ?_);rfl;rfl)|((with_reducible refine Qaa x2 ?_ ?_ ?_);rfl;rfl)|((with_reducible refine Qaa hlo ?_ ?_ ?_);rfl;rfl)|(with_reducible exact Qad _ _ (by kernel_rfl)))
 |false=>
  rw [Qz5 hB]at hlo ⊢;refine Qae (tb:=[]) 28 [.cell 4 47,.tmp 5] [0,1,2,3,4,5,9] mixed Tryz.func23 rfl (by kernel_rfl) (by kernel_rfl) (by kernel_rfl) (by kernel_rfl) ?_;repeat (first|(simp -implicitDefEqProofs only [go_sem,seval,nP,dw,Qqv])|((with_reducible refine Qaa hp ?_ ?_ ?_);rfl;rfl)|((with_reducible refine Qaa o1 ?_ ?_ ?_);rfl;rfl)|((with_reducible refine Qaa o2 ?_ ?_ ?_);rfl;rfl)|((with_reducible refine Qaa o3 ?_ ?_ ?_);rfl;rfl)|((with_reducible refine Qaa o4 ?_ ?_ ?_);rfl;rfl)|((with_reducible refine Qaa x1 ?_ ?_ ?_);rfl;rfl)|((with_reducible refine Qaa x2 ?_ ?_ ?_);rfl;rfl)|((with_reducible refine Qaa hlo ?_ ?_ ?_);rfl;rfl)|(with_reducible exact Qad _ _ (by kernel_rfl)))
theorem mod_lt {y:Int} {k:Nat} (x:Int) (h0:y≠0) (hy:y.natAbs<256^k):(x%y).natAbs<256^k:=by
 have h1:=Int.emod_nonneg x h0;have h2:=Int.emod_lt x h0;omega
section
variable (a b c d:Int) (k:Nat) (hk:k≤10000) (ha:a.natAbs<256^k) (hb:b.natAbs<256^k) (hc:c.natAbs<256^k) (hd:d.natAbs<256^k)
include hk ha hb hc hd
end
end Go.Proofs.YtapjnenbofmliaaGreatDoor

namespace Go.Dg

/-! ### sums -/
/-- The sum of the first n values. -/
def sm (f:Nat→Int):Nat→Int
  |0=>0
  |n+1=>sm f n+f n
/-! ### binomials -/
/-- The number of ways to choose k of n elements. -/
def bin:Nat→Nat→Nat
  |_,0=>1
  |0,_+1=>0
  |n+1,k+1=>bin n k+bin n (k+1)
/-! ### polynomials by their values -/
/-- The list whose value at x,y is the sum of f i x^i (c x+y)^(n-i). -/
def trans (f:List Int) (c:Int) (n:Nat):List Int:=(List.range (n+1)).map fun j=>sm (fun i=>f.getD i 0*(c^(j-i)*(bin (n-i) (j-i):Int))) (j+1)
end Go.Dg

namespace Go.Proofs.YtapjnenbofmliaaGreatDoor
open Go.Vl Go.RowKit Go.Dg
theorem Q71 {x:Int} (h:x.natAbs<2^65536):(digs 256 x.natAbs).length≤8192:=(Qak (by decide) x.natAbs 8192).2 (Zce (k:=8192) h (by decide))
theorem Qgn {n:Int} (h:n.natAbs<2^65536):Qc7 n= .tup [wPV n,.int .i64 0]:=by
 rw [Qc7,if_neg (Nat.not_lt.2 (Qcf 65536 _ h))]
abbrev mB (x:Int):ByteArray:=⟨(magL x.natAbs).toArray⟩
theorem Qb2 {x:Int} (h:x.natAbs<2^65536):(mB x).size≤100000:=by rw [Qwn];have:=Q71 h;omega
theorem Qbu {x:Int} (h:x.natAbs<2^65536):Qa2 (decide (x<0)) (mB x).data.toList=true:=Qqt x (Q71 h)
theorem Qqc (x:Int):(bnum (mB x).data.toList)=x.natAbs:=by
 have h:=Qbo x;unfold wnum at h;have h2:=congrArg Int.natAbs h
 rwa [Qz6]at h2
theorem Q72 {x y:Int} (hx:x.natAbs<2^65536) (hy:y.natAbs<2^65536):Qag Tryz.prog 19 [wPV x,wPV y] (Qc7 (x*y)):=by
 have h:=Zdu (decide (x<0)) (decide (y<0)) (mB x) (mB y) (Qbu hx) (Qbu hy) (Qb2 hx) (Qb2 hy)
 rwa [Qbo,Qbo]at h
theorem Q73 {x y:Int} (hx:x.natAbs<2^65536) (hy:y.natAbs<2^65536):Qag Tryz.prog 17 [wPV x,wPV y] (Qc7 (x+y)):=by
 have h:=Zdp (decide (x<0)) (decide (y<0)) (mB x) (mB y) (Qbu hx) (Qbu hy) (Qb2 hx) (Qb2 hy)
 rwa [Qbo,Qbo]at h
theorem Zcp {x y:Int} (hx:x.natAbs<2^65536) (hy:y.natAbs<2^65536):Qag Tryz.prog 18 [wPV x,wPV y] (Qc7 (x-y)):=by
 have h:=Zdq (decide (x<0)) (decide (y<0)) (mB x) (mB y) (Qbu hx) (Qbu hy) (Qb2 hx) (Qb2 hy)
 rwa [Qbo,Qbo]at h
theorem Zcq {x y:Int} (hx:x.natAbs<2^65536) (hy:y.natAbs<2^65536):Qag Tryz.prog 21 [wPV x,wPV y] (Qc7 ((Nat.gcd x.natAbs y.natAbs:Nat):Int)):=by
 have h:=Zdv (decide (x<0)) (decide (y<0)) (mB x) (mB y) (Qbu hx) (Qbu hy) (Qb2 hx) (Qb2 hy)
 rwa [Qqc,Qqc]at h
theorem Q82 {x:Int} (hx:x.natAbs<2^65536):Qag Tryz.prog 22 [wPV x] (.int .i64 x.sign):=by
 have h:=Qzw (decide (x<0)) (mB x) (Qbu hx) (Qb2 hx)
 rwa [Qbo]at h
theorem Q74 {x:Int} (hx:x.natAbs<2^65536):Qag Tryz.prog 16 [wPV x] (.int .i64 (blen x.natAbs:Int)):=by
 have h:=Zds (decide (x<0)) (mB x) (Qbu hx) (Qb2 hx)
 rwa [Qqc]at h
theorem Q2k {x:Int} (hx:x.natAbs<2^65536):Qag Tryz.prog 15 [wPV x] (.bool true):=by
 have h:=Qeg (decide (x<0)) (mB x)
 rwa [Qbu hx]at h
theorem Zcr {x:Int} (h:x≠0):(mB x).data.toList≠ []:=fun e=>h ((Q6q x).1 e)
theorem Zcs {x y:Int} (hx:x.natAbs<2^65536) (hy:y.natAbs<2^65536) (h0:y≠0):Qag Tryz.prog 20 [wPV x,wPV y] (Q6p x y):=by
 have h:=Zdx (decide (x<0)) (decide (y<0)) (mB x) (mB y) (Qbu hx) (Qbu hy) (Zcr h0) (Qb2 hx) (Qb2 hy)
 rwa [Qbo,Qbo]at h
theorem Q75 {x y:Int} (hx:x.natAbs<2^65536) (hy:y.natAbs<2^65536) (h0:0<y):vRat (decide (x<0)) (mB x) (decide (y<0)) (mB y)=true:=by
 unfold vRat;rw [Qbu hx,Qbu hy,Qms (Zcr (show y≠0 by omega))];have:decide (y<0)=false:=by simp;omega
 rw [this];rfl
theorem Qjp {a b c d:Int} (ha:a.natAbs<2^65536) (hb:b.natAbs<2^65536) (hc:c.natAbs<2^65536) (hd:d.natAbs<2^65536) (b0:0<b) (d0:0<d):
  Qag Tryz.prog 23 [Qqv a b,Qqv c d] (outQ (lowN (a*c) (b*d)) (lowD (a*c) (b*d))):=by
 have h:=Qqx (decide (a<0)) (decide (b<0)) (decide (c<0)) (decide (d<0)) (mB a) (mB b) (mB c) (mB d) (Q75 ha hb b0) (Q75 hc hd d0) (Qb2 ha) (Qb2 hb) (Qb2 hc) (Qb2 hd)
 rwa [Qbo,Qbo,Qbo,Qbo]at h
end Go.Proofs.YtapjnenbofmliaaGreatDoor

namespace Go.Proofs.YtapjnenbofmliaaGreatDoor
open Go.Vl Go.RowKit Go.Dg Go.Lib
abbrev tx (x:Int):List UInt8:=txt (decide (x<0)) x.natAbs
theorem Q9b {x:Int} (hx:x.natAbs<2^65536):Qag Tryz.prog 8 [wPV x] (.tup [.str ⟨(tx x).toArray⟩,.int .i64 0]):=by
 have h:=Q9a (decide (x<0)) (magL x.natAbs) (by have:=Qbu hx;simpa using this) (by have:=Qb2 hx;rw [Qc4]at this;exact this)
 rwa [Qok]at h
theorem Qw3 (m:Nat) (h:0<m):pneg (decDigits m)=false∧badD false (decDigits m)=false∧badD true (decDigits m)=false:=by
 obtain⟨c,r,e,hc⟩:=Q2d m h;have hD:=Qwj m;rw [e]at hD ⊢;simp only [List.all_cons,Bool.and_eq_true]at hD;have h1:=Qsi.1 hD.1;refine⟨decide_eq_false fun e=> ?_,by simp [badD,hc],by simp [badD,hc]⟩;subst e;have:(45:UInt8).toNat=45:=rfl;omega
theorem Qty (x:Int):okD (tx x)=true∧sv (pneg (tx x)) (dval (pdig (tx x)))=x:=by
 unfold tx okD;by_cases h0:x.natAbs=0
 ·obtain rfl:x=0:=by omega
  exact⟨rfl,rfl⟩
 ·obtain⟨d1,d2,d3⟩:=Qw3 x.natAbs (by omega);have hD:=Qwj x.natAbs;have hv:=Q2c x.natAbs;by_cases hn:x<0
  ·have e:txt (decide (x<0)) x.natAbs=45::decDigits x.natAbs:=by rw [txt,if_neg h0,decide_eq_true hn,if_pos rfl]
   have p1:pneg (45::decDigits x.natAbs)=true:=rfl;have p2:pdig (45::decDigits x.natAbs)=decDigits x.natAbs:=by unfold pdig;rw [if_pos p1];rfl
   rw [e,p1,p2,hD,d3,hv];exact⟨rfl,by simp [sv];omega⟩
  ·have e:txt (decide (x<0)) x.natAbs=decDigits x.natAbs:=by rw [txt,if_neg h0,decide_eq_false hn,if_neg Bool.false_ne_true]
   have p2:pdig (decDigits x.natAbs)=decDigits x.natAbs:=by unfold pdig;rw [if_neg (by rw [d1];decide)]
   rw [e,d1,p2,hD,d2,hv];exact⟨rfl,by simp [sv];omega⟩
theorem Q8c {x:Int} {k:Nat} (h:x.natAbs<10^(k+1)):(tx x).length≤k+2:=by
 have:=Qc6 k x.natAbs h;unfold tx txt;split
 ·simp
 ·split
  ·rw [List.length_cons];omega
  ·omega
theorem Qsj {x:Int} (h:(tx x).length≤21845):Qag Tryz.prog 12 [.str ⟨(tx x).toArray⟩] (Qc7 x):=by
 obtain⟨h1,h2⟩:=Qty x;have:=Q2v (tx x) h;unfold Qqe at this
 rwa [if_pos h1,h2]at this
end Go.Proofs.YtapjnenbofmliaaGreatDoor
