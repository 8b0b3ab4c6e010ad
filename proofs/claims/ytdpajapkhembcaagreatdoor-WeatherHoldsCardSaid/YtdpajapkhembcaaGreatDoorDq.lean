/-
  QW26, QW27, QW23, QW28, QW29, Dp, QW30, QW31, QW32, QA11, QA12, QA13, Dq (merged for the claim).
-/
import Derived.Test.YtdpajapkhembcaaGreatDoorQW25
import Derived.Test.YtdpajapkhembcaaGreatDoorQW3
set_option linter.unusedSimpArgs false
set_option linter.unusedVariables false
namespace Go.Proofs.YtdpajapkhembcaaGreatDoor
open Go.Vl Go.RowKit Go.Dg
theorem Zc6 (l:List Nat):((l.map fW).all fun e=>e.cells.length==1&&e.cells.all flatc)=true:=by
 rw [List.all_map,List.all_eq_true];intro _ _;rfl
set_option maxHeartbeats 4000000 in
theorem Zc7 (a b:Nat) (h:b≤a) (hb1:2≤(digs BW b).length) (ha:(digs BW a).length≤100000000):Qaf Tryz.prog 144 [dw (digs BW a),dw (digs BW b)] (.tup [dw (digs BW (a/b)),dw (digs BW (a%b))]):=by
 have hb0:b≠0:=by rintro rfl;rw [Qbi]at hb1;simp at hb1
 have hkN:(digs BW b).length≤(digs BW a).length:=(Qas BW_2 b _).2 (Nat.lt_of_le_of_lt h (Qa6 BW_2 a));have hc:=Qdy a b (by omega) (by omega);have g1:(cmpW a b<0)=False:=by simp only [eq_iff_iff,iff_false];rw [Qee];omega
 have htop:=Qd5 BW_2 hb0;have hga:=Qa0 (n:=b) (k:=(digs BW b).length-1) BW_2 (by omega);rw [Nat.mod_eq_of_lt htop.2]at hga;have hdk:=Zyh hb0;have hlz:=Zdd (b/BW^((digs BW b).length-1)) htop.2;have hs64:64-blen (b/BW^((digs BW b).length-1))≤64:=by omega
 obtain⟨s,hs⟩: ∃s,s=64-blen (b/BW^((digs BW b).length-1)):=⟨_,rfl⟩;simp only [WB]at hdk;simp only [BW]at hs hlz hdk;rw [←hs]at hlz hdk hs64;have hsb:=Zqt b s (by omega) (by omega);have hsa:=Zqt a s (by omega) (by omega);have hR0:a*2^s<BW^((digs BW a).length+1):=by
  rw [Nat.pow_succ];exact Nat.mul_lt_mul_of_lt_of_le (Qa6 BW_2 a) (Nat.pow_le_pow_right (n:=2) (by decide) hs64) (by decide)
 have hL0:(digs BW (a*2^s)).length≤(digs BW a).length+1:=(Qas BW_2 _ _).2 hR0;have hbk:BW^((digs BW b).length-1)≤b:=by
  have:=(Qde BW_2 b ((digs BW b).length-1)).1 (by omega);rcases Nat.lt_or_ge b (BW^((digs BW b).length-1))with h'|h'
  ·exact absurd (Nat.div_eq_of_lt h') this
  ·exact h'
 have hRd:a*2^s<b*2^s*BW^((digs BW a).length+1-(digs BW b).length):=by
  have e:BW^(digs BW a).length=BW^((digs BW b).length-1)*BW^((digs BW a).length+1-(digs BW b).length):=by
   rw [←Nat.pow_add];congr 1;omega
  have h1:=Qa6 BW_2 a;rw [e]at h1;have h2:=Nat.lt_of_lt_of_le h1 (Nat.mul_le_mul_right _ hbk);rw [Nat.mul_right_comm];exact Nat.mul_lt_mul_of_pos_right h2 (Nat.pow_pos (by decide))
 have hq:a/b=a*2^s/(b*2^s):=(Nat.mul_div_mul_right a b (Nat.pow_pos (by decide))).symm;have hm:a%b*2^s=a*2^s%(b*2^s):=(Nat.mul_mod_mul_right _ a b).symm;have hd0:0<b*2^s:=Nat.mul_pos (by omega) (Nat.pow_pos (by decide));have hpad:=Qiu BW_2 (a*2^s) ((digs BW a).length+1) hL0;generalize hRR:a*2^s=R0 at*;generalize hdd:b*2^s=d at*;generalize hN:(digs BW a).length=N at*;generalize hkk:(digs BW b).length=k at*;obtain⟨nq,hnq⟩: ∃nq,nq=N+1-k:=⟨_,rfl⟩;rw [←hnq]at hRd;have z1:((k:Int)==1)=false:=by simp only [beq_eq_false_iff_ne,ne_eq];omega
 have z2:IntKind.i64.wrap ((k:Int)-1)=((k-1:Nat):Int):=by rw [Qag (by omega) (by omega)];omega
 have z3:(0≤((k-1:Nat):Int))=True:=by simp only [eq_iff_iff,iff_true];exact Int.natCast_nonneg _
 have z4:=Qak (a:=N) (by omega);have z5:((0:Int)≤((N+1:Nat):Int))=True:=by simp only [eq_iff_iff,iff_true];omega
 have z6:((8:Nat):Int)*((N+1:Nat):Int)≤281474976710656:=by omega
 have z7:((N+1:Nat):Int)≤9223372036854775807:=by omega
 have z8:IntKind.i64.wrap (((N+1:Nat):Int)-(k:Int))=(nq:Int):=by rw [Qag (by omega) (by omega)];omega
 have z9:((0:Int)≤(nq:Int))=True:=by simp only [eq_iff_iff,iff_true];omega
 have z10:((8:Nat):Int)*(nq:Int)≤281474976710656:=by omega
 have z11:(nq:Int)≤9223372036854775807:=by omega
 have z12:IntKind.i64.wrap ((nq:Int)-1)=(nq:Int)-1:=Qag (by omega) (by omega);have z13:Nat.ble 0 0=true:=rfl;have z14:Nat.ble (digs BW R0).length (N+1)=true:=Nat.ble_eq_true_of_le hL0;have z15:min (digs BW R0).length (N+1)=(digs BW R0).length:=Nat.min_eq_left hL0

 refine Qab (tb:=[(1901,[(1000000,706)],[]),(2201,[(1000000,706)],[]),(2203,[(1000000,706)],[(102,2203)])]) 145 [.tmp 4,.tmp 5] [0,1,4,5,6,7,8,9,10,11,12,13,14,15,16,17,21,25,68,82,121] mixed Tryz.func144 rfl (by kernel_rfl) ?_;simp -implicitDefEqProofs only [go_sem,Nat.reduceAdd,Nat.reduceMul,Nat.reduceEqDiff,Nat.reduceLT,Nat.reduceLeDiff,reduceCtorEq,dw];refine Qah _ _ _ _ _ _ _ _ _ hc ?_;simp -implicitDefEqProofs only [go_sem,Nat.reduceAdd,Nat.reduceMul,Nat.reduceEqDiff,Nat.reduceLT,Nat.reduceLeDiff,reduceCtorEq,g1,List.length_map,hkk,z1,z2,z3,Qcr,hga,Int.toNat_natCast];refine Qah _ _ _ _ _ _ _ _ _ hlz ?_;simp -implicitDefEqProofs only [go_sem,Nat.reduceAdd,Nat.reduceMul,Nat.reduceEqDiff,Nat.reduceLT,Nat.reduceLeDiff,reduceCtorEq];refine Qah _ _ _ _ _ _ _ _ _ hsb ?_;simp -implicitDefEqProofs only [go_sem,Nat.reduceAdd,Nat.reduceMul,Nat.reduceEqDiff,Nat.reduceLT,Nat.reduceLeDiff,reduceCtorEq,dw,List.length_map,hN,z4,z5,z6,z7,Int.toNat_natCast];refine⟨Qac _ _ (by kernel_rfl),?_⟩;refine Qah _ _ _ _ _ _ _ _ _ hsa ?_;have hfl:=Zc6 (digs BW R0);have htk0:((digs BW R0).map fW).take (digs BW R0).length=(digs BW R0).map fW:=List.take_of_length_le (by simp);have hcp:(digs BW R0).map fW++(List.replicate (N+1) (PV.int .u64 0)).drop (digs BW R0).length=(lows BW R0 (N+1)).map fW:=by
  rw [←hpad,List.map_append,List.drop_replicate,List.map_replicate];rfl
 have hrep:List.replicate nq (PV.int .u64 0)=(mix BW 0 (R0/d) nq nq).map fW:=by rw [Qqs,Qeo];simp
 simp -implicitDefEqProofs only [go_sem,Nat.reduceAdd,Nat.reduceMul,Nat.reduceEqDiff,Nat.reduceLT,Nat.reduceLeDiff,reduceCtorEq,dw,List.length_map,hfl,z13,z14,z15,htk0,hcp,List.length_replicate,hdk,z8,z9,z10,z11,z12,Int.toNat_natCast];rw [hrep];have hst:R0%(d*BW^nq)=R0:=Nat.mod_eq_of_lt hRd;refine Qau mixed (fun i:{i:Nat // i≤nq}=>St.of [(8,.int .i64 (s:Int)),(9,dw (digs BW d)),(10,.bs 706 1 0 (N+1)),(11,.int .i64 (k:Int)),(12,.bs 1004 1 0 nq),(13,.int .i64 ((i.1:Int)-1))]
  [(706,wB (lows BW (R0%(d*BW^i.1)) (N+1))),(1004,wB (mix BW 0 (R0/d) nq i.1))]) (fun i=>i.1) ⟨nq,Nat.le_refl _⟩ ?_ ?_
 ·refine Qaj (θ:=[(706,706),(1004,1004)]) rfl ?_ ?_
  ·simp [Qae,lkp,ren1,ren0,dw]
  ·simp [Qay,lkp,Box.renames,hst]
 ·rintro⟨i,hi⟩;cases i with
  |zero=>
   have h1:((0:Int)≤((0:Nat):Int)-1)=False:=by simp
   have e0:R0%(d*BW^0)=R0%d:=by rw [Nat.pow_zero,Nat.mul_one]
   have hll:=Qal (B:=BW) (R0/d) nq;have htk:=List.take_of_length_le (l:=(lows BW (R0/d) nq).map fW) (i:=nq) (by simp [hll]);have hll2:=Qal (B:=BW) (R0%d) (N+1);have htk2:=List.take_of_length_le (l:=(lows BW (R0%d) (N+1)).map fW) (i:=N+1) (by simp [hll2]);have ht1:=Qdn (lows BW (R0/d) nq) (by rw [hll];unfold maxLen;omega);have ht2:=Qdn (lows BW (R0%d) (N+1)) (by rw [hll2];unfold maxLen;omega);rw [Qcg BW_2,Nat.mod_eq_of_lt (Nat.div_lt_of_lt_mul hRd)]at ht1;rw [Qcg BW_2,Nat.mod_eq_of_lt (Nat.lt_of_le_of_lt (Nat.mod_le _ _) hR0)]at ht2;have hL3:(digs BW (a%b*2^s)).length≤N+1:=(Qas BW_2 _ _).2 (by rw [hm];exact Nat.lt_of_le_of_lt (Nat.mod_le _ _) hR0);have hsr:=Z1x (a%b*2^s) s (by omega) (by omega);rw [Nat.mul_div_cancel _ (Nat.pow_pos (by decide)),hm]at hsr;rw [hq];repeat (first|simp -implicitDefEqProofs only [go_sem,Nat.reduceAdd,Nat.reduceMul,Nat.reduceEqDiff,Nat.reduceLT,Nat.reduceLeDiff,reduceIte,reduceCtorEq,h1,e0,wB,Ql2,List.length_map,hll,htk,hll2,htk2,dw]|(with_reducible refine Qaa ht1 ?_ ?_ ?_);rfl;rfl|(with_reducible refine Qaa ht2 ?_ ?_ ?_);rfl;rfl|(with_reducible refine Qaa hsr ?_ ?_ ?_);rfl;rfl)
  |succ i=>
   have hs1:(((i+1:Nat):Int)-1)=(i:Int):=by omega
   have i0:((0:Int)≤(i:Int))=True:=by simp
   have hik:i+k≤N:=by omega
   obtain⟨S,hS⟩: ∃S,S=R0%(d*BW^(i+1)):=⟨_,rfl⟩;obtain⟨W,hW⟩: ∃W,W=S/BW^i:=⟨_,rfl⟩;obtain⟨Q,hQ⟩: ∃Q,Q=R0/d/BW^i%BW:=⟨_,rfl⟩;have hdg:=Ze9 (B:=BW) (by decide) R0 d i hd0;rw [←hS,←hW,←hQ]at hdg;have hQB:Q<BW:=by rw [hQ];exact Nat.mod_lt _ (by decide)
   have hdk2:d<BW^k:=by rw [←hdk];exact Qa6 BW_2 d
   have hWd:W<d*BW:=by
    rw [hW];refine Nat.div_lt_of_lt_mul ?_;rw [hS,Nat.mul_comm (BW^i),Nat.mul_assoc,Nat.mul_comm BW,←Nat.pow_succ];exact Nat.mod_lt _ (Nat.mul_pos hd0 (Nat.pow_pos (by decide)))
   have hWk:W<BW^(k+1):=by
    rw [Nat.pow_succ];exact Nat.lt_trans hWd (Nat.mul_lt_mul_of_pos_right hdk2 (by decide))
   have hll:=Qal (B:=BW) S (N+1);have hSW: ∀j,S/BW^(i+j)=W/BW^j:=fun j=>by rw [hW,Nat.pow_add,Nat.div_div_eq_div_mul]
   have hQle:d*Q≤W:=by rw [←hdg];exact Nat.mul_div_le W d
   have hQmax: ∀p,d*p≤W→p≤Q:=fun p hp=>by rw [←hdg,Nat.le_div_iff_mul_le hd0,Nat.mul_comm];exact hp
   have hLd: ∀p,p<BW→(digs BW (d*p)).length≤1000000000:=fun p hp=>by
    refine Nat.le_trans ((Qas BW_2 _ (k+1)).2 ?_) (show k+1≤1000000000 by omega);rw [Nat.pow_succ];exact Nat.mul_lt_mul_of_lt_of_le hdk2 (Nat.le_of_lt hp) (by decide)
   have hLW:(digs BW W).length≤k+1:=(Qas BW_2 _ _).2 hWk;have hwin:((lows BW S (N+1)).drop i).take (k+1)=lows BW W (k+1):=by rw [Qmv _ _ _ _ _ (by omega),←hW]
   have htB:=Qzk (lows BW S (N+1)) i (k+1) (by rw [hll];omega) (by rw [hll];unfold maxLen;omega);rw [hwin,Qcg BW_2,Nat.mod_eq_of_lt hWk]at htB;have hwd2:((lows BW S (N+1)).drop i).take (digs BW W).length=digs BW W:=by
    rw [Qmv _ _ _ _ _ (by omega),←hW,Qiv BW_2]
   have hesc:(((lows BW S (N+1)).map fW).drop i).take (digs BW W).length=(digs BW W).map fW:=by
    rw [←List.map_drop,←List.map_take,hwd2]
   have b7:(i+(digs BW W).length≤N+1)=True:=by simp only [eq_iff_iff,iff_true];omega
   have hg1:((lows BW S (N+1)).map fW)[i+k]? =some (PV.int .u64 ((W/BW^k:Nat):Int)):=by
    have h5:W/BW^k<BW:=Nat.div_lt_of_lt_mul (by rw [←Nat.pow_succ];exact hWk);rw [List.getElem?_map,Qb5 _ _ _ (by omega),hSW,Nat.mod_eq_of_lt h5];rfl
   have hg2:((lows BW S (N+1)).map fW)[i+k-1]? =some (PV.int .u64 ((W/BW^(k-1)%BW:Nat):Int)):=by
    rw [List.getElem?_map,show i+k-1=i+(k-1)by omega,Qb5 _ _ _ (by omega),hSW];rfl
   have htd:=Qd5 BW_2 (show d≠0 by omega);rw [hdk]at htd;have hgd:=Qa0 (n:=d) (k:=k-1) BW_2 (by rw [hdk];omega);rw [Nat.mod_eq_of_lt htd.2]at hgd;have wik:=Qhm (a:=i) (b:=k) (by omega);have wik1:=Qak (a:=i+k) (by omega);have wikm:IntKind.i64.wrap (((i+k:Nat):Int)-1)=((i+k-1:Nat):Int):=by rw [Qag (by omega) (by omega)];omega
   have b1:(0≤((i+k:Nat):Int))=True:=by simp only [eq_iff_iff,iff_true];exact Int.natCast_nonneg _
   have b2:(((i+k:Nat):Int)<((N+1:Nat):Int))=True:=by simp only [eq_iff_iff,iff_true];omega
   have b2a:(0≤((i+k-1:Nat):Int))=True:=by simp only [eq_iff_iff,iff_true];exact Int.natCast_nonneg _
   have b2b:(((i+k-1:Nat):Int)<((N+1:Nat):Int))=True:=by simp only [eq_iff_iff,iff_true];omega
   have b3:((i:Int)≤((i+k+1:Nat):Int))=True:=by simp only [eq_iff_iff,iff_true];omega
   have b4:(((i+k+1:Nat):Int)≤((N+1:Nat):Int))=True:=by simp only [eq_iff_iff,iff_true];omega
   have b5:(i<i+k+1)=True:=by simp only [eq_iff_iff,iff_true];omega
   have hsub:i+k+1-i=k+1:=by omega
   have hsB:=Zw1 (lows BW S (N+1)) i W (d*Q) hQle hwd2 (by rw [hll];omega) (by omega);have b8:Nat.ble 0 i=true:=Nat.ble_eq_true_of_le (Nat.zero_le _);have b9:Nat.ble (i+(k+1)) (N+1)=true:=Nat.ble_eq_true_of_le (by omega);have hWQ:W-d*Q<d:=by
    have h5:=Nat.mod_lt W hd0;have h6:=Nat.div_add_mod W d;rw [hdg]at h6;generalize d*Q=dq at*;omega
   have hLq:(digs BW (W-d*Q)).length≤k:=(Qas BW_2 _ _).2 (Nat.lt_trans hWQ hdk2);have hLq2:(digs BW (W-d*Q)).length≤(digs BW W).length:=(Qas BW_2 _ _).2 (Nat.lt_of_le_of_lt (Nat.sub_le _ _) (Qa6 BW_2 W));have hmn:min (digs BW (W-d*Q)).length (k+1)=(digs BW (W-d*Q)).length:=Nat.min_eq_left (by omega);have hllf:=Qal (B:=BW) (W-d*Q) (digs BW W).length;have b11:((digs BW (W-d*Q)).length≤(digs BW W).length)=True:=by simp only [eq_iff_iff,iff_true];exact hLq2
   have hlft:((lows BW (W-d*Q) (digs BW W).length).map fW).take (digs BW (W-d*Q)).length=(digs BW (W-d*Q)).map fW:=by
    rw [←List.map_take,Q55 _ _ _ hLq2,Qiv BW_2]
   have hfl3:=Zc6 (digs BW (W-d*Q));have htk3:((digs BW (W-d*Q)).map fW).take (digs BW (W-d*Q)).length=(digs BW (W-d*Q)).map fW:=List.take_of_length_le (by simp);have hlen3:(((lows BW S (N+1)).map fW).take i++List.replicate (k+1) (PV.int .u64 0)++((lows BW S (N+1)).map fW).drop (i+(k+1))).length=N+1:=by simp [hll];omega
   have b12:Nat.ble (i+(digs BW (W-d*Q)).length) (N+1)=true:=Nat.ble_eq_true_of_le (by omega);have b10:Nat.ble 0 0=true:=rfl;have hinq:((i:Int)<(nq:Int))=True:=by simp only [eq_iff_iff,iff_true];omega
   have hmlq:=Qbt (B:=BW) 0 (R0/d) nq (i+1);obtain⟨e,hgoq⟩: ∃e:Nat,((mix BW 0 (R0/d) nq (i+1)).map fW)[i]? =some (PV.int .u64 (e:Int)):=⟨_,by rw [List.getElem?_map,Qdv _ _ _ _ _ (by omega)];rfl⟩;have hsetq:=Qyr (B:=BW) (V:=0) (S:=R0/d) (N:=nq) (i:=i) (d:=Q) (by omega) hQ.symm;have w4:IntKind.i64.wrap ((i:Int)-1)=(i:Int)-1:=Qag (by omega) (by omega);obtain⟨S',hS'⟩: ∃S',S'=R0%(d*BW^i):=⟨_,rfl⟩;have hnx:S%(d*BW^i)=S':=by rw [hS,hS'];exact Zre R0 d i
   have hup:S'/BW^i=W-d*Q:=by
    rw [←hnx,Zfa (by decide) S d i hd0,←hW];have h6:=Nat.div_add_mod W d;rw [hdg]at h6;omega
   have hlo:S%BW^i=S'%BW^i:=by rw [←hnx,Zfb (by decide)]
   have hpad2:=Qiu BW_2 (W-d*Q) (k+1) (Nat.le_succ_of_le hLq);have hz1:S/BW^(i+(k+1))=0:=by rw [hSW];exact Nat.div_eq_of_lt hWk
   have hz2:S'/BW^(i+(k+1))=0:=by
    rw [Nat.pow_add,←Nat.div_div_eq_div_mul,hup];exact Nat.div_eq_of_lt (Nat.lt_of_le_of_lt (Nat.sub_le _ _) hWk)
   have hov2:=Q42 (B:=BW) (V:=S) (W:=S') (n:=N+1) (j:=i) (x:=lows BW (W-d*Q) (k+1)) (by decide) (by rw [Qal];omega) hlo (by rw [Qal,hup]) (by rw [Qal,hz1,hz2]);rw [Qal,←hpad2]at hov2;have hfin:(((lows BW S (N+1)).map fW).take i++List.replicate (k+1) (PV.int .u64 0)++((lows BW S (N+1)).map fW).drop (i+(k+1))).take i++(digs BW (W-d*Q)).map fW++
     (((lows BW S (N+1)).map fW).take i++List.replicate (k+1) (PV.int .u64 0)++((lows BW S (N+1)).map fW).drop (i+(k+1))).drop (i+(digs BW (W-d*Q)).length)=(lows BW (R0%(d*BW^i)) (N+1)).map fW:=by
    have h7:=Q0u ((lows BW S (N+1)).map fW) ((digs BW (W-d*Q)).map fW) i (k+1) (PV.int .u64 0) (by rw [List.length_map];omega) (by rw [List.length_map,hll];omega);rw [List.length_map]at h7;rw [h7,←hS',←hov2,List.map_append,List.map_append,List.map_append,List.map_take,List.map_drop,List.map_replicate];rfl
   by_cases hcase:W/BW^k<d/BW^(k-1)
   ·have g5:(((W/BW^k:Nat):Int)<((d/BW^(k-1):Nat):Int))=True:=by simp only [eq_iff_iff,iff_true];omega
    have hdv:=Zc4 (W/BW^k) (W/BW^(k-1)%BW) (d/BW^(k-1)) hcase htd.2 (Nat.mod_lt _ (by decide));have htt:=Zrf (B:=BW) (by decide) W (k-1);rw [show k-1+1=k by omega]at htt;simp only [BW]at hdv htt;rw [←htt]at hdv;have hov:=Q0q (B:=BW) (by decide) W d (k-1) (Nat.pos_of_ne_zero htd.1);rw [hdg]at hov;have hgB':W/BW^(k-1)/(d/BW^(k-1))<BW:=by
     rw [Nat.div_lt_iff_lt_mul (Nat.pos_of_ne_zero htd.1)];simp only [BW];rw [htt];have h6:=Nat.mul_le_mul_right BW (show W/BW^k+1≤d/BW^(k-1)from hcase);have h7:W/BW^(k-1)%BW<BW:=Nat.mod_lt _ (by decide);simp only [BW]at h6 h7;rw [Nat.add_mul,Nat.one_mul]at h6;rw [Nat.mul_comm 18446744073709551616];omega
    simp -implicitDefEqProofs only [go_sem,Nat.reduceAdd,Nat.reduceMul,Nat.reduceEqDiff,Nat.reduceLT,Nat.reduceLeDiff,reduceCtorEq,dw,wB,hs1,i0,wik,wikm,b1,b2,b2a,b2b,z2,z3,Int.toNat_natCast,←hS,hg1,hg2,Qcr,hgd,g5];refine⟨Qac _ _ (by kernel_rfl),?_⟩;refine Qah _ _ _ _ _ _ _ _ _ hdv ?_;simp only [BW]at hov hgB';generalize W/18446744073709551616^(k-1)/(d/18446744073709551616^(k-1))=g at*;have hgQ:Q≤g:=hov;have hgB:g<BW:=hgB';have htg:=Qdn [g] (by simp [maxLen]);rw [Qjk hgB]at htg;have hmg:=Zc2 d g (by rw [hdk];have:=(Qas BW_2 g 1).2 (by simpa using hgB);omega);simp -implicitDefEqProofs only [go_sem,Nat.reduceAdd,Nat.reduceMul,Nat.reduceEqDiff,Nat.reduceLT,Nat.reduceLeDiff,reduceCtorEq];refine⟨Qac _ _ (by kernel_rfl),?_⟩;simp -implicitDefEqProofs only [go_sem,Nat.reduceAdd,Nat.reduceMul,Nat.reduceEqDiff,Nat.reduceLT,Nat.reduceLeDiff,reduceIte,reduceCtorEq,i0,b3,b4,b5,wik,wik1,Int.toNat_natCast,hsub,Nat.zero_add];refine Qah _ _ _ _ _ _ _ _ _ htg ?_;simp -implicitDefEqProofs only [go_sem,Nat.reduceAdd,Nat.reduceEqDiff,Nat.reduceLT,dw];refine Qah _ _ _ _ _ _ _ _ _ hmg ?_;simp -implicitDefEqProofs only [go_sem,Nat.reduceAdd,Nat.reduceEqDiff,Nat.reduceLT,reduceCtorEq,dw];refine Qau mixed (fun p:{p:Nat // Q≤p∧p<BW}=>St.of [(8,.int .i64 (s:Int)),(9,dw (digs BW d)),(10,.bs 706 1 0 (N+1)),(11,.int .i64 (k:Int)),(12,.bs 1004 1 0 nq),(13,.int .i64 (i:Int)),(14,.int .u64 (p.1:Int)),(15,.bs 706 1 i (k+1)),(16,dw (digs BW (d*p.1)))]
     [(706,wB (lows BW S (N+1))),(1004,wB (mix BW 0 (R0/d) nq (i+1)))]) (fun p=>p.1) ⟨g,hgQ,hgB⟩ ?_ ?_
    ·refine Qaj (θ:=[(706,706),(1004,1004)]) rfl ?_ ?_
     ·simp [Qae,lkp,ren1,ren0,dw]
     ·simp [Qay,lkp,Box.renames]
    ·rintro⟨p,hp1,hp2⟩;simp only at hp1 hp2 ⊢;have hlp:(digs BW (d*p)).length≤1000000000:=hLd p hp2;have hcm:=Qdy W (d*p) (by omega) hlp;simp -implicitDefEqProofs only [go_sem,Nat.reduceAdd,Nat.reduceMul,Nat.reduceEqDiff,Nat.reduceLT,Nat.reduceLeDiff,dw];refine Qck _ _ _ _ _ _ _ _ _ htB ?_;simp -implicitDefEqProofs only [go_sem,Nat.reduceAdd,Nat.reduceEqDiff,Nat.reduceLT,reduceIte,wB,List.length_map,hll,b7,hesc];refine Qah _ _ _ _ _ _ _ _ _ hcm ?_;by_cases hlt:W<d*p
     ·have k1:(cmpW W (d*p)<0)=True:=by simp only [eq_iff_iff,iff_true];exact(Qee _ _).2 hlt
      have hpQ:Q<p:=by
       rcases Nat.lt_or_ge Q p with h'|h'
       ·exact h'
       ·have:=Nat.mul_le_mul_left d (show p≤Q from h');have:=hQle;omega
      have hsb2:=Qt3 (d*p) d (Nat.le_mul_of_pos_right d (by omega)) hlp;have e6:d*p-d=d*(p-1):=by rw [Nat.mul_sub,Nat.mul_one]
      rw [e6]at hsb2;have w5:IntKind.u64.wrap ((p:Int)-1)=((p-1:Nat):Int):=by rw [Qcc];simp only [BW]at hp2;omega
      simp -implicitDefEqProofs only [go_sem,Nat.reduceAdd,Nat.reduceMul,Nat.reduceEqDiff,Nat.reduceLT,Nat.reduceLeDiff,reduceCtorEq,k1,w5];refine Qah _ _ _ _ _ _ _ _ _ hsb2 ?_;simp -implicitDefEqProofs only [go_sem,Nat.reduceAdd,Nat.reduceEqDiff,Nat.reduceLT,reduceCtorEq,dw];refine⟨⟨p-1,by omega,by omega⟩,by simp only;omega,Qaj (θ:=[(706,706),(1004,1004)]) rfl ?_ ?_⟩
      ·simp [Qae,lkp,ren1,ren0,dw]
      ·simp [Qay,lkp,Box.renames]
     ·have k1:(cmpW W (d*p)<0)=False:=by simp only [eq_iff_iff,iff_false];rw [Qee];exact hlt
      obtain rfl:p=Q:=Nat.le_antisymm (hQmax p (by omega)) hp1;simp -implicitDefEqProofs only [go_sem,Nat.reduceAdd,Nat.reduceMul,Nat.reduceEqDiff,Nat.reduceLT,Nat.reduceLeDiff,reduceIte,reduceCtorEq,k1];refine Qck _ _ _ _ _ _ _ _ _ htB ?_;simp -implicitDefEqProofs only [go_sem,Nat.reduceAdd,Nat.reduceEqDiff,Nat.reduceLT,wB];refine Qck _ _ _ _ _ _ _ _ _ hsB ?_;simp -implicitDefEqProofs only [go_sem,Nat.reduceAdd,Nat.reduceMul,Nat.reduceEqDiff,Nat.reduceLT,Nat.reduceLeDiff,reduceIte,reduceCtorEq,wB,List.length_map,hll,b8,b9,List.length_replicate,b11,b12,hmn,hlft,hllf,hlen3,hfl3,htk3,Nat.zero_add,i0,hinq,hgoq,Int.toNat_natCast,w4];refine⟨⟨i,by omega⟩,by simp only;omega,Qaj (θ:=[(706,706),(1004,1004)]) rfl ?_ ?_⟩
      ·simp [Qae,lkp,ren1,ren0,dw]
      ·rw [Qdb,hsetq];simp only [Qay,lkp,Box.renames,hfin,if_true,if_false,reduceCtorEq,Nat.reduceEqDiff,and_self,and_true,true_and];exact⟨.inl trivial,.inl trivial⟩
   ·have g5:(((W/BW^k:Nat):Int)<((d/BW^(k-1):Nat):Int))=False:=by simp only [eq_iff_iff,iff_false];omega
    obtain⟨g,hg⟩: ∃g:Nat,g=18446744073709551615:=⟨_,rfl⟩;have hgI:(18446744073709551615:Int)=((g:Nat):Int):=by rw [hg];rfl
    have hgQ:Q≤g:=by rw [hg];simp only [BW]at hQB;omega
    have hgB:g<BW:=by rw [hg];decide
    have htg:=Qdn [g] (by simp [maxLen]);rw [Qjk hgB]at htg;have hmg:=Zc2 d g (by rw [hdk];have:=(Qas BW_2 g 1).2 (by simpa using hgB);omega);simp -implicitDefEqProofs only [go_sem,Nat.reduceAdd,Nat.reduceMul,Nat.reduceEqDiff,Nat.reduceLT,Nat.reduceLeDiff,reduceCtorEq,dw,wB,hs1,i0,wik,b1,b2,z2,z3,Int.toNat_natCast,←hS,hg1,Qcr,hgd,g5,hgI];refine⟨Qac _ _ (by kernel_rfl),?_⟩;simp -implicitDefEqProofs only [go_sem,Nat.reduceAdd,Nat.reduceMul,Nat.reduceEqDiff,Nat.reduceLT,Nat.reduceLeDiff,reduceIte,reduceCtorEq,b3,b4,b5,wik1,Int.toNat_natCast,hsub,Nat.zero_add];refine Qah _ _ _ _ _ _ _ _ _ htg ?_;simp -implicitDefEqProofs only [go_sem,Nat.reduceAdd,Nat.reduceEqDiff,Nat.reduceLT,dw];refine Qah _ _ _ _ _ _ _ _ _ hmg ?_;simp -implicitDefEqProofs only [go_sem,Nat.reduceAdd,Nat.reduceEqDiff,Nat.reduceLT,reduceCtorEq,dw];refine Qau mixed (fun p:{p:Nat // Q≤p∧p<BW}=>St.of [(8,.int .i64 (s:Int)),(9,dw (digs BW d)),(10,.bs 706 1 0 (N+1)),(11,.int .i64 (k:Int)),(12,.bs 1004 1 0 nq),(13,.int .i64 (i:Int)),(14,.int .u64 (p.1:Int)),(15,.bs 706 1 i (k+1)),(16,dw (digs BW (d*p.1)))]
     [(706,wB (lows BW S (N+1))),(1004,wB (mix BW 0 (R0/d) nq (i+1)))]) (fun p=>p.1) ⟨g,hgQ,hgB⟩ ?_ ?_
    ·refine Qaj (θ:=[(706,706),(1004,1004)]) rfl ?_ ?_
     ·simp [Qae,lkp,ren1,ren0,dw]
     ·simp [Qay,lkp,Box.renames]
    ·rintro⟨p,hp1,hp2⟩;simp only at hp1 hp2 ⊢;have hlp:(digs BW (d*p)).length≤1000000000:=hLd p hp2;have hcm:=Qdy W (d*p) (by omega) hlp;simp -implicitDefEqProofs only [go_sem,Nat.reduceAdd,Nat.reduceMul,Nat.reduceEqDiff,Nat.reduceLT,Nat.reduceLeDiff,dw];refine Qck _ _ _ _ _ _ _ _ _ htB ?_;simp -implicitDefEqProofs only [go_sem,Nat.reduceAdd,Nat.reduceEqDiff,Nat.reduceLT,reduceIte,wB,List.length_map,hll,b7,hesc];refine Qah _ _ _ _ _ _ _ _ _ hcm ?_;by_cases hlt:W<d*p
     ·have k1:(cmpW W (d*p)<0)=True:=by simp only [eq_iff_iff,iff_true];exact(Qee _ _).2 hlt
      have hpQ:Q<p:=by
       rcases Nat.lt_or_ge Q p with h'|h'
       ·exact h'
       ·have:=Nat.mul_le_mul_left d (show p≤Q from h');have:=hQle;omega
      have hsb2:=Qt3 (d*p) d (Nat.le_mul_of_pos_right d (by omega)) hlp;have e6:d*p-d=d*(p-1):=by rw [Nat.mul_sub,Nat.mul_one]
      rw [e6]at hsb2;have w5:IntKind.u64.wrap ((p:Int)-1)=((p-1:Nat):Int):=by rw [Qcc];simp only [BW]at hp2;omega
      simp -implicitDefEqProofs only [go_sem,Nat.reduceAdd,Nat.reduceMul,Nat.reduceEqDiff,Nat.reduceLT,Nat.reduceLeDiff,reduceCtorEq,k1,w5];refine Qah _ _ _ _ _ _ _ _ _ hsb2 ?_;simp -implicitDefEqProofs only [go_sem,Nat.reduceAdd,Nat.reduceEqDiff,Nat.reduceLT,reduceCtorEq,dw];refine⟨⟨p-1,by omega,by omega⟩,by simp only;omega,Qaj (θ:=[(706,706),(1004,1004)]) rfl ?_ ?_⟩
      ·simp [Qae,lkp,ren1,ren0,dw]
      ·simp [Qay,lkp,Box.renames]
     ·have k1:(cmpW W (d*p)<0)=False:=by simp only [eq_iff_iff,iff_false];rw [Qee];exact hlt
      obtain rfl:p=Q:=Nat.le_antisymm (hQmax p (by omega)) hp1;simp -implicitDefEqProofs only [go_sem,Nat.reduceAdd,Nat.reduceMul,Nat.reduceEqDiff,Nat.reduceLT,Nat.reduceLeDiff,reduceIte,reduceCtorEq,k1];refine Qck _ _ _ _ _ _ _ _ _ htB ?_;simp -implicitDefEqProofs only [go_sem,Nat.reduceAdd,Nat.reduceEqDiff,Nat.reduceLT,wB];refine Qck _ _ _ _ _ _ _ _ _ hsB ?_;simp -implicitDefEqProofs only [go_sem,Nat.reduceAdd,Nat.reduceMul,Nat.reduceEqDiff,Nat.reduceLT,Nat.reduceLeDiff,reduceIte,reduceCtorEq,wB,List.length_map,hll,b8,b9,List.length_replicate,b11,b12,hmn,hlft,hllf,hlen3,hfl3,htk3,Nat.zero_add,i0,hinq,hgoq,Int.toNat_natCast,w4];refine⟨⟨i,by omega⟩,by simp only;omega,Qaj (θ:=[(706,706),(1004,1004)]) rfl ?_ ?_⟩
      ·simp [Qae,lkp,ren1,ren0,dw]
      ·rw [Qdb,hsetq];simp only [Qay,lkp,Box.renames,hfin,if_true,if_false,reduceCtorEq,Nat.reduceEqDiff,and_self,and_true,true_and];exact⟨.inl trivial,.inl trivial⟩
theorem Zqv (a b:Nat) (hb:0<b) (ha:(digs BW a).length≤100000000) (hbl:(digs BW b).length≤100000000):Qaf Tryz.prog 144 [dw (digs BW a),dw (digs BW b)] (.tup [dw (digs BW (a/b)),dw (digs BW (a%b))]):=by
 by_cases h:a<b
 ·exact Zw2 a b h ha hbl
 ·by_cases h1:b<18446744073709551616
  ·exact Zol a b (by omega) hb h1 ha
  ·refine Zc7 a b (by omega) ?_ ha;refine(Qde BW_2 b 1).2 ?_;have:=Nat.div_pos (show 18446744073709551616≤b by omega) (by decide);rw [Nat.pow_one];simp only [BW];omega
theorem Qf2 {a b:Nat} (h:a≤b):(digs BW a).length≤(digs BW b).length:=
 (Qas BW_2 a _).2 (Nat.lt_of_le_of_lt h (Qa6 BW_2 b))
theorem Zqw (a b:Nat) (ha:(digs BW a).length≤100000000) (hb:(digs BW b).length≤100000000):Qaf Tryz.prog 143 [dw (digs BW a),dw (digs BW b)] (dw (digs BW (Nat.gcd a b))):=by
 refine Qab (tb:=[]) 19 [.tmp 4] [0,1,4,6,9] mixed Tryz.func143 rfl (by kernel_rfl) ?_;simp only [go_sem,seval,dw];refine Qau mixed (fun p:{p:Nat×Nat // Nat.gcd p.1 p.2=Nat.gcd a b∧(digs BW p.1).length≤100000000∧(digs BW p.2).length≤100000000}=>St.of [(0,dw (digs BW p.1.1)),(1,dw (digs BW p.1.2)),(4,.nilS)] []) (fun p=>p.1.2) ⟨(a,b),rfl,ha,hb⟩ ?_ ?_
 ·exact Qax (by simp [Qae,lkp,ren1,ren0,dw])
 ·rintro⟨⟨x,y⟩,h1,h2,h3⟩;simp only at h1 h2 h3 ⊢;by_cases hy:y=0
  ·subst hy;have g1:((0:Int)<((0:Nat):Int))=False:=by simp
   rw [Nat.gcd_zero_right]at h1;subst h1;simp only [go_sem,seval,dw,Qbi,List.map_nil,List.length_nil,g1]
  ·have hp:0<(digs BW y).length:=List.length_pos_iff.2 (mt (Qbs BW_2).1 hy);have g1:((0:Int)<((digs BW y).length:Int))=True:=by simp only [eq_iff_iff,iff_true];omega
   have hd:=Zqv x y (Nat.pos_of_ne_zero hy) h2 h3;have hr:=Nat.mod_lt x (Nat.pos_of_ne_zero hy);simp only [go_sem,seval,dw,List.length_map,g1];refine Qah _ _ _ _ _ _ _ _ _ hd ?_;simp only [go_sem,seval,dw];refine⟨⟨(y,x%y),by rw [←h1,Nat.gcd_comm x y,Nat.gcd_rec y x,Nat.gcd_comm],h3,Nat.le_trans (Qf2 (Nat.le_of_lt hr)) h3⟩,by simp only;exact hr,Qax ?_⟩;simp [Qae,lkp,ren1,ren0,dw]
theorem Qp0 (xn yn:Bool) (a b:Nat) (hab:(digs BW a).length+(digs BW b).length≤1000000000):Qaf Tryz.prog 155 [nP xn a,nP yn b] (nP (!(xn==yn)) (a*b)):=by
 have h:=Zc2 a b hab;refine Qab (tb:=[]) 16 [.cell 4 171] [0,1,2,3,4] mixed Tryz.func155 rfl (by kernel_rfl) ?_;repeat (first|simp only [go_sem,seval,nP,dw]|(with_reducible refine Qaa h ?_ ?_ ?_);rfl;rfl|(with_reducible exact Qac _ _ (by kernel_rfl)))
theorem Qp1 (xn yn:Bool) (a b:Nat):sv (!(xn==yn)) (a*b)=sv xn a*sv yn b:=by
 cases xn<;>cases yn<;>simp [sv,Int.natCast_mul,Int.neg_mul,Int.mul_neg]
def nqn (xn:Bool) (a b:Nat):Nat:=if(xn&&decide (0<a%b))=true then a/b+1 else a/b
def nrn (xn:Bool) (a b:Nat):Nat:=if(xn&&decide (0<a%b))=true then b-a%b else a%b
theorem Q28 (xn:Bool) (a b:Nat) (hb:0<b):sv xn (nqn xn a b)=sv xn a/(b:Int)∧((nrn xn a b:Nat):Int)=sv xn a%(b:Int):=by
 have hb':(0:Int)<(b:Int):=by omega
 have h:=Nat.div_add_mod a b;have hr:=Nat.mod_lt a hb;have key:=(Int.ediv_emod_unique (a:=sv xn a) (r:=((nrn xn a b:Nat):Int)) (q:=sv xn (nqn xn a b)) hb').2;refine(fun t=>⟨(key t).1.symm,(key t).2.symm⟩) ?_;have e:((b*(a/b):Nat):Int)+((a%b:Nat):Int)=(a:Int):=by rw [←Int.natCast_add,h]
 rw [Int.natCast_mul]at e;cases xn with
 |false=>
  simp only [sv,nqn,nrn,Bool.false_and,Bool.false_eq_true,if_false];refine⟨by omega,by omega,by omega⟩
 |true=>
  by_cases h0:0<a%b
  ·simp only [sv,nqn,nrn,Bool.true_and,decide_eq_true_eq,h0,if_true];rw [Int.mul_neg,Int.natCast_add,Int.mul_add];generalize (b:Int)*((a/b:Nat):Int)=m at*;refine⟨by omega,by omega,by omega⟩
  ·simp only [sv,nqn,nrn,Bool.true_and,decide_eq_true_eq,h0,if_false,if_true];rw [Int.mul_neg];generalize (b:Int)*((a/b:Nat):Int)=m at*;refine⟨by omega,by omega,by omega⟩
theorem Qzl (xn yn:Bool) (a b:Nat) (hb:0<b):sv (!(xn==yn)) (nqn xn a b)=sv xn a/sv yn b∧((nrn xn a b:Nat):Int)=sv xn a%sv yn b:=by
 obtain⟨h1,h2⟩:=Q28 xn a b hb;have flip: ∀(n:Bool) (m:Nat),sv (!n) m= -(sv n m):=by intro n m;cases n<;>simp [sv]
 cases yn with
 |false=>
  refine⟨?_,by simpa [sv]using h2⟩;have:(!(xn==false))=xn:=by cases xn<;>rfl
  rw [this,h1];simp [sv]
 |true=>
  have:(!(xn==true))= !xn:=by cases xn<;>rfl
  rw [this,flip,h1,h2];simp [sv,Int.ediv_neg,Int.emod_neg]
theorem Qzm (xn yn:Bool) (a b:Nat) (hb:0<b) (ha:(digs BW a).length≤100000000) (hbl:(digs BW b).length≤100000000):Qaf Tryz.prog 126 [nP xn a,nP yn b] (.tup [nP (!(xn==yn)) (nqn xn a b),nP false (nrn xn a b)]):=by
 have hd:=Zqv a b hb ha hbl;have hr:=Nat.mod_lt a hb;cases xn with
 |false=>
  have e1:nqn false a b=a/b:=by simp [nqn]
  have e2:nrn false a b=a%b:=by simp [nrn]
  rw [e1,e2];refine Qab (tb:=[]) 39 [.cell 4 171,.cell 5 171] [0,1,2,3,4,5,6,7,22] mixed Tryz.func126 rfl (by kernel_rfl) ?_;repeat (first|simp only [go_sem,seval,nP,dw]|(with_reducible refine Qaa hd ?_ ?_ ?_);rfl;rfl)
 |true=>
  by_cases h0:a%b=0
  ·have g1:((0:Int)<((0:Nat):Int))=False:=by simp
   have e1:nqn true a b=a/b:=by simp [nqn,h0]
   have e2:nrn true a b=0:=by simp [nrn,h0]
   rw [e1,e2];rw [h0,Qbi]at hd;refine Qab (tb:=[]) 39 [.cell 4 171,.cell 5 171] [0,1,2,3,4,5,6,7,22] mixed Tryz.func126 rfl (by kernel_rfl) ?_;repeat (first|simp only [go_sem,seval,nP,dw,Qbi,List.map_nil,List.length_nil,g1]|(with_reducible refine Qaa hd ?_ ?_ ?_);rfl;rfl)
  ·have hp:0<(digs BW (a%b)).length:=List.length_pos_iff.2 (mt (Qbs BW_2).1 h0);have g1:((0:Int)<((digs BW (a%b)).length:Int))=True:=by simp only [eq_iff_iff,iff_true];omega
   have e1:nqn true a b=a/b+1:=by simp only [nqn,Bool.true_and,decide_eq_true_eq];rw [if_pos (by omega)]
   have e2:nrn true a b=b-a%b:=by simp only [nrn,Bool.true_and,decide_eq_true_eq];rw [if_pos (by omega)]
   have hd1:digs BW 1=[1]:=by rw [Qgs BW_2 (by decide),show 1%BW=1 from by decide,show 1/BW=0 from by decide,Qbi]
   have hq:=Qf2 (Nat.div_le_self a b);have had:=Zqx (a/b) 1 (by omega) (by rw [hd1];simp);rw [hd1]at had;have hsb:=Qt3 b (a%b) (Nat.le_of_lt hr) (by omega);rw [e1,e2];refine Qab (tb:=[]) 39 [.cell 4 171,.cell 5 171] [0,1,2,3,4,5,6,7,22] mixed Tryz.func126 rfl (by kernel_rfl) ?_;repeat (first|simp only [go_sem,seval,nP,dw,List.length_map,g1,List.map_cons,List.map_nil]|(with_reducible refine Qaa hd ?_ ?_ ?_);rfl;rfl|(with_reducible refine Qaa had ?_ ?_ ?_);rfl;rfl|(with_reducible refine Qaa hsb ?_ ?_ ?_);rfl;rfl|(with_reducible exact Qac _ _ (by kernel_rfl)))
theorem Qt2: ∀l:List Nat,(∀d∈l,d<256)→bnum (l.reverse.map fun d=>UInt8.ofNat d)=val 256 l
 | [],_=>rfl
 |d::r,h=>by
  rw [List.reverse_cons,List.map_append,List.map_cons,List.map_nil,Qmq,Qt2 r fun x hx=>h x (by simp [hx])];rw [UInt8.toNat_ofNat_of_lt' (h d (by simp))];simp only [val];omega
theorem Zc5 (m:Nat):bnum (magL m)=m:=by
 rw [magL,Qt2 _ fun d hd=>Qvm (by decide) hd,Qyi (by decide)]
theorem Qbk (n:Int):wnum (decide (n<0)) ⟨(magL n.natAbs).toArray⟩=n:=by
 unfold wnum sv;rw [show(⟨(magL n.natAbs).toArray⟩:ByteArray).data.toList=magL n.natAbs from rfl,Zc5];by_cases h:n<0
 ·simp [h];omega
 ·simp [h];omega
theorem Qim (n:Int) (h:(digs 256 n.natAbs).length≤8192):Qbl (decide (n<0)) (magL n.natAbs)=true:=by
 by_cases h0:n.natAbs=0
 ·have:n=0:=by omega
  subst this;simp [magL,Qbi,Qbl]
 ·obtain⟨d,hd,hd2⟩:=Zfw h0;have ht:=Qd5 (B:=256) (by decide) h0;cases hl:magL n.natAbs with
  |nil=>
   have:=Qdw n.natAbs;rw [hl]at this;exact absurd ((Qbs (by decide)).1 (List.length_eq_zero_iff.1 this.symm)) h0
  |cons b r=>
   have hlen:=Qdw n.natAbs;rw [hl]at hlen;have hb:b=d:=by
    have h3:(⟨(magL n.natAbs).toArray⟩:ByteArray)[0]? =(magL n.natAbs)[0]? :=by
     rw [Qss _ 0 (by show 0<(magL n.natAbs).length;rw [hl];simp)];exact(List.getElem?_eq_getElem _).symm
    rw [hd,hl]at h3;simpa using h3.symm
   simp only [Qbl,Bool.and_eq_true,decide_eq_true_eq];refine⟨by omega,?_⟩;simp only [bne_iff_ne,ne_eq];intro e;rw [hb]at e;subst e;simp at hd2;exact ht.1 hd2.symm
theorem Z1y (an bn:Bool) (a b:ByteArray) (h1:Qbl an a.data.toList=true) (h2:Qbl bn b.data.toList=true) (ha:a.size≤100000) (hb:b.size≤100000):
  Qaf Tryz.prog 140 [.agg [.bool an,.str a],.agg [.bool bn,.str b]] (Qfc (wnum an a*wnum bn b)):=by
 have hv:=Qnw an bn a b;rw [h1,h2,Bool.true_and]at hv;have hL1:=Qcq a ha;have hL2:=Qcq b hb;have hoa:=Qe2 an a h1 (by omega);have hob:=Qe2 bn b h2 (by omega);have hm:=Qp0 an bn (bnum a.data.toList) (bnum b.data.toList) (by omega);have hL:(digs BW (bnum a.data.toList*bnum b.data.toList)).length≤1000000:=by
  refine Nat.le_trans ((Qas BW_2 _ ((digs BW (bnum a.data.toList)).length+(digs BW (bnum b.data.toList)).length)).2 ?_) (by omega);rw [Nat.pow_add];exact Nat.mul_lt_mul'' (Qa6 BW_2 _) (Qa6 BW_2 _)
 have hw:=Qf1 (!(an==bn)) _ hL;rw [Qp1,Qe6]at hw;rw [wnum,wnum,Qe6];refine Qab (tb:=[]) 19 [.cell 4 134,.tmp 5] [0,1,2,3,4,5,9] mixed Tryz.func140 rfl (by kernel_rfl) ?_;repeat (first|simp only [go_sem,seval,nP,dw,wPV]|(with_reducible refine Qaa hv ?_ ?_ ?_);rfl;rfl|(with_reducible refine Qaa hoa ?_ ?_ ?_);rfl;rfl|(with_reducible refine Qaa hob ?_ ?_ ?_);rfl;rfl|(with_reducible refine Qaa hm ?_ ?_ ?_);rfl;rfl|(with_reducible refine Qaa hw ?_ ?_ ?_);rfl;rfl|(with_reducible exact Qac _ _ (by kernel_rfl)))
theorem Z1z (an bn:Bool) (a b:ByteArray) (h1:Qbl an a.data.toList=true) (h2:Qbl bn b.data.toList=true) (ha:a.size≤100000) (hb:b.size≤100000):
  Qaf Tryz.prog 122 [.agg [.bool an,.str a],.agg [.bool bn,.str b]] (Qfc ((Nat.gcd (bnum a.data.toList) (bnum b.data.toList):Nat):Int)):=by
 have hv:=Qnw an bn a b;rw [h1,h2,Bool.true_and]at hv;have hL1:=Qcq a ha;have hL2:=Qcq b hb;have hoa:=Qw9 a (by omega);have hob:=Qw9 b (by omega);rw [Qns h1]at hoa;rw [Qns h2]at hob;have hg:=Zqw (bnum a.data.toList) (bnum b.data.toList) (by omega) (by omega);have hL:(digs BW (Nat.gcd (bnum a.data.toList) (bnum b.data.toList))).length≤1000000:=by
  rcases Nat.eq_zero_or_pos (bnum a.data.toList)with h0|h0
  ·rw [h0,Nat.gcd_zero_left];omega
  ·exact Nat.le_trans (Qf2 (Nat.gcd_le_left _ h0)) (by omega)
 have hw:=Qf1 false _ hL;have e:sv false (Nat.gcd (bnum a.data.toList) (bnum b.data.toList))=((Nat.gcd (bnum a.data.toList) (bnum b.data.toList):Nat):Int):=rfl;rw [e,Qe6]at hw;rw [Qe6];refine Qab (tb:=[]) 22 [.cell 4 134,.tmp 5] [0,1,2,3,4,5,9] mixed Tryz.func122 rfl (by kernel_rfl) ?_;repeat (first|simp only [go_sem,seval,dw,wPV]|(with_reducible refine Qaa hv ?_ ?_ ?_);rfl;rfl|(with_reducible refine Qaa hoa ?_ ?_ ?_);rfl;rfl|(with_reducible refine Qaa hob ?_ ?_ ?_);rfl;rfl|(with_reducible refine Qaa hg ?_ ?_ ?_);rfl;rfl|(with_reducible refine Qaa hw ?_ ?_ ?_);rfl;rfl|(with_reducible exact Qac _ _ (by kernel_rfl)))
def Zom (x y:Int):PV:= .tup [wPV (outN (x/y)),wPV (outN (x%y)),.int .i64 0]
theorem Qzn (xn:Bool) (a b:Nat):nqn xn a b≤a+1:=by
 have:=Nat.div_le_self a b;unfold nqn;split<;>omega
theorem Z10 (xn:Bool) (a b:Nat) (hb:0<b):nrn xn a b≤b:=by
 have:=Nat.mod_lt a hb;unfold nrn;split<;>omega
theorem Qrp (a:Nat):(digs BW (a+1)).length≤(digs BW a).length+1:=by
 refine(Qas BW_2 _ _).2 ?_;have h:=Qa6 BW_2 a;rw [Nat.pow_succ];generalize BW^(digs BW a).length=M at*;simp only [BW];omega
theorem Qmg {l:List UInt8} (h:l≠ []):(l== [])=false:=by cases l with|nil=>exact absurd rfl h|cons=>rfl
theorem Z11 (an bn:Bool) (a b:ByteArray) (h1:Qbl an a.data.toList=true) (h2:Qbl bn b.data.toList=true) (h0:b.data.toList≠ []) (ha:a.size≤100000) (hb:b.size≤100000):
  Qaf Tryz.prog 102 [.agg [.bool an,.str a],.agg [.bool bn,.str b]] (Zom (wnum an a) (wnum bn b)):=by
 have hv:=Qnw an bn a b;rw [h1,h2,Bool.true_and]at hv;have hL1:=Qcq a ha;have hL2:=Qcq b hb;have hoa:=Qe2 an a h1 (by omega);have hob:=Qe2 bn b h2 (by omega);have hbp:0<bnum b.data.toList:=by
  cases hl:b.data.toList with
  |nil=>exact absurd hl h0
  |cons c r=>
   rw [hl]at h2;simp only [Qbl,Bool.and_eq_true]at h2;have hc:c.toNat≠0:=fun e=>by
    have:c≠0:=by simpa using h2.2
    exact this (UInt8.toNat_inj.1 (by simpa using e))
   rw [Qnr];have hp:0<c.toNat*256^r.length:=Nat.mul_pos (Nat.pos_of_ne_zero hc) (Nat.pow_pos (by decide));omega
 have he:=Qmg h0;have hd:=Qzm an bn (bnum a.data.toList) (bnum b.data.toList) hbp (by omega) (by omega);obtain⟨d1,d2⟩:=Qzl an bn (bnum a.data.toList) (bnum b.data.toList) hbp;have hq:=Qf1 (!(an==bn)) (nqn an (bnum a.data.toList) (bnum b.data.toList)) (Nat.le_trans (Qf2 (Qzn _ _ _)) (Nat.le_trans (Qrp _) (by omega)));have hr:=Qf1 false (nrn an (bnum a.data.toList) (bnum b.data.toList)) (Nat.le_trans (Qf2 (Z10 _ _ _ hbp)) (by omega));have e2:sv false (nrn an (bnum a.data.toList) (bnum b.data.toList))=((nrn an (bnum a.data.toList) (bnum b.data.toList):Nat):Int):=rfl;rw [d1,Qe6]at hq;rw [e2,d2,Qe6]at hr;unfold Zom wnum;refine Qab (tb:=[]) 40 [.cell 4 134,.cell 5 134,.tmp 6] [0,1,2,3,4,5,6,7,8,12,17] mixed Tryz.func102 rfl (by kernel_rfl) ?_;repeat (first|simp only [go_sem,seval,he,nP,dw,wPV]|(with_reducible refine Qaa hv ?_ ?_ ?_);rfl;rfl|(with_reducible refine Qaa hoa ?_ ?_ ?_);rfl;rfl|(with_reducible refine Qaa hob ?_ ?_ ?_);rfl;rfl|(with_reducible refine Qaa hd ?_ ?_ ?_);rfl;rfl|(with_reducible refine Qaa hq ?_ ?_ ?_);rfl;rfl|(with_reducible refine Qaa hr ?_ ?_ ?_);rfl;rfl|(with_reducible exact Qac _ _ (by kernel_rfl))|(with_reducible refine And.intro (Qac _ _ (by kernel_rfl)) ?_))
end Go.Proofs.YtdpajapkhembcaaGreatDoor

namespace Go.Dg
theorem p256 (k:Nat):(256:Nat)^k=2^(8*k):=by rw [show(256:Nat)=2^8 from rfl,←Nat.pow_mul]
theorem Zyp {m B k:Nat} (h:m<2^B) (hk:B≤8*k):m<256^k:=by
 rw [p256];exact Nat.lt_of_lt_of_le h (Nat.pow_le_pow_right (by decide) hk)
theorem Qvr {m B C:Nat} (h:m<2^B) (hk:B≤C):m<2^C:=Nat.lt_of_lt_of_le h (Nat.pow_le_pow_right (by decide) hk)
theorem Qa5 {m B:Nat} (h:m<2^B) (hk:B≤65536):m<2^65536:=Qvr (C:=65536) h hk
end Go.Dg

namespace Go.Proofs.YtdpajapkhembcaaGreatDoor
open Go.Vl Go.RowKit Go.Dg
theorem mulL (a b:Nat):(digs BW (a*b)).length≤(digs BW a).length+(digs BW b).length:=by
 refine(Qas BW_2 _ _).2 ?_;rw [Nat.pow_add];exact Nat.mul_lt_mul'' (Qa6 BW_2 _) (Qa6 BW_2 _)
def vRat (n:Bool) (s:ByteArray) (m:Bool) (t:ByteArray):Bool:=Qbl n s.data.toList&&(Qbl m t.data.toList&&(!m&& !(t.data.toList== [])))
theorem Qf3 {n:Bool} {l:List UInt8} (h:Qbl n l=true) (h0:l≠ []):0<bnum l:=by
 cases l with
 |nil=>exact absurd rfl h0
 |cons c r=>
  simp only [Qbl,Bool.and_eq_true]at h;have hc:c.toNat≠0:=fun e=>by
   have:c≠0:=by simpa using h.2
   exact this (UInt8.toNat_inj.1 (by simpa using e))
  rw [Qnr];have hp:0<c.toNat*256^r.length:=Nat.mul_pos (Nat.pos_of_ne_zero hc) (Nat.pow_pos (by decide));omega
theorem Zc8 {m:Bool} {t:ByteArray} (h:Qbl m t.data.toList=true):decide (0<(wnum m t).sign)=(!m&& !(t.data.toList== [])):=by
 by_cases h0:t.data.toList=[]
 ·have e:wnum m t=0:=by unfold wnum sv;rw [h0];cases m<;>rfl
  rw [e,h0];simp
 ·have hb:=Qf3 h h0;rw [Qmg h0];unfold wnum sv;cases m with
  |false=>simp only [Bool.false_eq_true,if_false,Bool.not_false,Bool.and_self];rw [Int.sign_eq_one_of_pos (by omega)];rfl
  |true=>simp only [if_true,Bool.not_true,Bool.false_and];rw [Int.sign_eq_neg_one_of_neg (by omega)];rfl
theorem Qf4 (n:Bool) (s:ByteArray) (m:Bool) (t:ByteArray) (ht:t.size≤100000):Qaf Tryz.prog 167 [.agg [.bool n,.str s,.bool m,.str t]] (.bool (vRat n s m t)):=by
 have hb:=Qnw n m s t;unfold vRat;cases h1:Qbl n s.data.toList with
 |false=>
  rw [h1,Bool.false_and]at hb;rw [Bool.false_and];refine Qab (tb:=[]) 14 [.tmp 2] [0,1,2] mixed Tryz.func167 rfl (by kernel_rfl) ?_;repeat (first|simp only [go_sem,seval]|(with_reducible refine Qaa hb ?_ ?_ ?_);rfl;rfl)
 |true=>
  rw [h1,Bool.true_and]at hb;rw [Bool.true_and];cases h2:Qbl m t.data.toList with
  |false=>
   rw [h2]at hb;rw [Bool.false_and];refine Qab (tb:=[]) 14 [.tmp 2] [0,1,2] mixed Tryz.func167 rfl (by kernel_rfl) ?_;repeat (first|simp only [go_sem,seval]|(with_reducible refine Qaa hb ?_ ?_ ?_);rfl;rfl)
  |true=>
   rw [h2]at hb;have hs:=Zw0 m t h2 ht;rw [Bool.true_and,←Zc8 h2];refine Qab (tb:=[]) 14 [.tmp 2] [0,1,2] mixed Tryz.func167 rfl (by kernel_rfl) ?_;repeat (first|simp only [go_sem,seval]|(with_reducible refine Qaa hb ?_ ?_ ?_);rfl;rfl|(with_reducible refine Qaa hs ?_ ?_ ?_);rfl;rfl)
theorem Zc9 (n1 m1 n2 m2:Bool) (s1 t1 s2 t2:ByteArray) (h1:t1.size≤100000) (h2:t2.size≤100000):Qaf Tryz.prog 164 [.agg [.bool n1,.str s1,.bool m1,.str t1],.agg [.bool n2,.str s2,.bool m2,.str t2]] (.bool (vRat n1 s1 m1 t1&&vRat n2 s2 m2 t2)):=by
 have a1:=Qf4 n1 s1 m1 t1 h1;have a2:=Qf4 n2 s2 m2 t2 h2;cases hv:vRat n1 s1 m1 t1 with
 |false=>
  rw [hv]at a1;rw [Bool.false_and];refine Qab (tb:=[]) 11 [.tmp 4] [0,1,2,3,4] mixed Tryz.func164 rfl (by kernel_rfl) ?_;repeat (first|simp only [go_sem,seval]|(with_reducible refine Qaa a1 ?_ ?_ ?_);rfl;rfl)
 |true=>
  rw [hv]at a1;rw [Bool.true_and];refine Qab (tb:=[]) 11 [.tmp 4] [0,1,2,3,4] mixed Tryz.func164 rfl (by kernel_rfl) ?_;repeat (first|simp only [go_sem,seval]|(with_reducible refine Qaa a1 ?_ ?_ ?_);rfl;rfl|(with_reducible refine Qaa a2 ?_ ?_ ?_);rfl;rfl)
def gN (x y:Int):Int:=if y<0 then -((Nat.gcd x.natAbs y.natAbs:Nat):Int)else((Nat.gcd x.natAbs y.natAbs:Nat):Int)
def lowN (x y:Int):Int:=x/gN x y
def lowD (x y:Int):Int:=y/gN x y
def Qdz (x y:Int):PV:= .agg [.bool (decide (x<0)),.str ⟨(magL x.natAbs).toArray⟩,.bool (decide (y<0)),.str ⟨(magL y.natAbs).toArray⟩]
def big (x y:Int):Bool:=decide (65536<blen x.natAbs)||decide (65536<blen y.natAbs)
def Qrq (e:Int):PV:= .tup [.agg [.bool false,.str ⟨#[]⟩,.bool false,.str ⟨#[]⟩],.int .i64 e]
def outQ (x y:Int):PV:=if big x y=true then Qrq 7 else .tup [Qdz x y,.int .i64 0]
theorem Qp2 {x y:Int} (h:big x y=true):outQ x y=Qrq 7:=by rw [outQ,if_pos h]
theorem Qp3 {x y:Int} (h:big x y=false):outQ x y= .tup [Qdz x y,.int .i64 0]:=by rw [outQ,if_neg (by rw [h];decide)]
theorem Zda (n:Bool) (m:Nat):(sv n m).natAbs=m:=by cases n<;>simp [sv]
theorem Z12 {n:Bool} {m:Nat} (h:0<m):(sv n m<0)=(n=true):=by cases n<;>simp [sv]<;>omega
theorem Z4f (xn yn:Bool) (a b:Nat) (hb:0<b):gN (sv xn a) (sv yn b)=sv yn (Nat.gcd a b):=by
 unfold gN;rw [Zda,Zda];simp only [Z12 hb];cases yn<;>rfl
theorem Qrr {n:Int} (h:65536<blen n.natAbs):Qfc n= .tup [.agg [.bool false,.str ⟨#[]⟩],.int .i64 7]:=by rw [Qfc,if_pos h,Qyu]
theorem Qnu {n:Int} (h: ¬65536<blen n.natAbs):Qfc n= .tup [.agg [.bool (decide (n<0)),.str ⟨(magL n.natAbs).toArray⟩],.int .i64 0]:=by rw [Qfc,if_neg h];rfl
theorem Qnv (xn yn:Bool) (a b:Nat) (hb:0<b) (ha:(digs BW a).length≤900000) (hbl:(digs BW b).length≤900000):
  Qaf Tryz.prog 166 [nP xn a,nP yn b] (outQ (lowN (sv xn a) (sv yn b)) (lowD (sv xn a) (sv yn b))):=by
 have hg:=Zqw a b (by omega) (by omega);have hgp:0<Nat.gcd a b:=Nat.gcd_pos_of_pos_right _ hb;have hgl:(digs BW (Nat.gcd a b)).length≤900000:=Nat.le_trans (Qf2 (Nat.gcd_le_right _ hb)) hbl;have d1:=Qzm xn yn a (Nat.gcd a b) hgp (by omega) (by omega);have d2:=Qzm yn yn b (Nat.gcd a b) hgp (by omega) (by omega);have w1:=Qf1 (!(xn==yn)) (nqn xn a (Nat.gcd a b)) (Nat.le_trans (Qf2 (Qzn _ _ _)) (Nat.le_trans (Qrp _) (by omega)));have w2:=Qf1 (!(yn==yn)) (nqn yn b (Nat.gcd a b)) (Nat.le_trans (Qf2 (Qzn _ _ _)) (Nat.le_trans (Qrp _) (by omega)));rw [(Qzl xn yn a _ hgp).1]at w1;rw [(Qzl yn yn b _ hgp).1]at w2;have e0:(!(yn==yn))=false:=by cases yn<;>rfl
 rw [e0]at d2 w2;unfold lowN lowD;rw [Z4f _ _ _ _ hb];generalize sv xn a/sv yn (Nat.gcd a b)=n at*;generalize sv yn b/sv yn (Nat.gcd a b)=d at*;generalize nqn xn a (Nat.gcd a b)=q1 at*;generalize nqn yn b (Nat.gcd a b)=q2 at*;generalize nrn xn a (Nat.gcd a b)=r1 at*;generalize nrn yn b (Nat.gcd a b)=r2 at*;generalize Nat.gcd a b=g at*;generalize (!(xn==yn))=s at*;have z1:((7:Int) != 0)=true:=rfl;have z0:((0:Int) != 0)=false:=rfl;by_cases h1:65536<blen n.natAbs
 ·rw [Qp2 (by simp [big,h1])];rw [Qrr h1]at w1;by_cases h2:65536<blen d.natAbs
  ·rw [Qrr h2]at w2;refine Qab (tb:=[]) 51 [.cell 4 225,.tmp 5] [0,1,2,3,4,5,6,7,8,9,10,46] mixed Tryz.func166 rfl (by kernel_rfl) ?_;repeat (first|simp only [go_sem,seval,nP,dw,z1,Qrq]|(with_reducible refine Qaa hg ?_ ?_ ?_);rfl;rfl|(with_reducible refine Qaa d1 ?_ ?_ ?_);rfl;rfl|(with_reducible refine Qaa d2 ?_ ?_ ?_);rfl;rfl|(with_reducible refine Qaa w1 ?_ ?_ ?_);rfl;rfl|(with_reducible refine Qaa w2 ?_ ?_ ?_);rfl;rfl|(with_reducible refine And.intro (Qac _ _ (by kernel_rfl)) ?_))
  ·rw [Qnu h2]at w2;refine Qab (tb:=[]) 51 [.cell 4 225,.tmp 5] [0,1,2,3,4,5,6,7,8,9,10,46] mixed Tryz.func166 rfl (by kernel_rfl) ?_;repeat (first|simp only [go_sem,seval,nP,dw,z1,Qrq]|(with_reducible refine Qaa hg ?_ ?_ ?_);rfl;rfl|(with_reducible refine Qaa d1 ?_ ?_ ?_);rfl;rfl|(with_reducible refine Qaa d2 ?_ ?_ ?_);rfl;rfl|(with_reducible refine Qaa w1 ?_ ?_ ?_);rfl;rfl|(with_reducible refine Qaa w2 ?_ ?_ ?_);rfl;rfl|(with_reducible refine And.intro (Qac _ _ (by kernel_rfl)) ?_))
 ·rw [Qnu h1]at w1;by_cases h2:65536<blen d.natAbs
  ·rw [Qp2 (by simp [big,h2])];rw [Qrr h2]at w2;refine Qab (tb:=[]) 51 [.cell 4 225,.tmp 5] [0,1,2,3,4,5,6,7,8,9,10,46] mixed Tryz.func166 rfl (by kernel_rfl) ?_;repeat (first|simp only [go_sem,seval,nP,dw,z1,z0,Qrq]|(with_reducible refine Qaa hg ?_ ?_ ?_);rfl;rfl|(with_reducible refine Qaa d1 ?_ ?_ ?_);rfl;rfl|(with_reducible refine Qaa d2 ?_ ?_ ?_);rfl;rfl|(with_reducible refine Qaa w1 ?_ ?_ ?_);rfl;rfl|(with_reducible refine Qaa w2 ?_ ?_ ?_);rfl;rfl|(with_reducible refine And.intro (Qac _ _ (by kernel_rfl)) ?_))
  ·rw [Qp3 (by simp only [big,h1,h2,decide_false,Bool.or_self])];rw [Qnu h2]at w2;refine Qab (tb:=[]) 51 [.cell 4 225,.tmp 5] [0,1,2,3,4,5,6,7,8,9,10,46] mixed Tryz.func166 rfl (by kernel_rfl) ?_;repeat (first|simp only [go_sem,seval,nP,dw,z0,Qdz]|(with_reducible refine Qaa hg ?_ ?_ ?_);rfl;rfl|(with_reducible refine Qaa d1 ?_ ?_ ?_);rfl;rfl|(with_reducible refine Qaa d2 ?_ ?_ ?_);rfl;rfl|(with_reducible refine Qaa w1 ?_ ?_ ?_);rfl;rfl|(with_reducible refine Qaa w2 ?_ ?_ ?_);rfl;rfl|(with_reducible refine And.intro (Qac _ _ (by kernel_rfl)) ?_))
theorem Zon (an bn:Bool) (a b:ByteArray) (h1:Qbl an a.data.toList=true) (h2:Qbl bn b.data.toList=true) (h0:b.data.toList≠ []) (ha:a.size≤100000) (hb:b.size≤100000):
  Qaf Tryz.prog 163 [.agg [.bool an,.str a],.agg [.bool bn,.str b]] (outQ (lowN (wnum an a) (wnum bn b)) (lowD (wnum an a) (wnum bn b))):=by
 have hv:=Qnw an bn a b;rw [h1,h2,Bool.true_and]at hv;have hL1:=Qcq a ha;have hL2:=Qcq b hb;have hoa:=Qe2 an a h1 (by omega);have hob:=Qe2 bn b h2 (by omega);have he:=Qmg h0;have hl:=Qnv an bn _ _ (Qf3 h2 h0) (by omega:(digs BW (bnum a.data.toList)).length≤900000) (by omega);unfold wnum;generalize lowN (sv an (bnum a.data.toList)) (sv bn (bnum b.data.toList))=N at*;generalize lowD (sv an (bnum a.data.toList)) (sv bn (bnum b.data.toList))=D at*;cases hB:big N D with
 |true=>
  rw [Qp2 hB]at hl ⊢;refine Qab (tb:=[]) 22 [.cell 4 225,.tmp 5] [0,1,2,3,4,5,9,13] mixed Tryz.func163 rfl (by kernel_rfl) ?_;repeat (first|simp only [go_sem,seval,he,nP,dw,Qrq]|(with_reducible refine Qaa hv ?_ ?_ ?_);rfl;rfl|(with_reducible refine Qaa hoa ?_ ?_ ?_);rfl;rfl|(with_reducible refine Qaa hob ?_ ?_ ?_);rfl;rfl|(with_reducible refine Qaa hl ?_ ?_ ?_);rfl;rfl|(with_reducible exact Qac _ _ (by kernel_rfl)))
 |false=>
  rw [Qp3 hB]at hl ⊢;refine Qab (tb:=[]) 22 [.cell 4 225,.tmp 5] [0,1,2,3,4,5,9,13] mixed Tryz.func163 rfl (by kernel_rfl) ?_;repeat (first|simp only [go_sem,seval,he,nP,dw,Qdz]|(with_reducible refine Qaa hv ?_ ?_ ?_);rfl;rfl|(with_reducible refine Qaa hoa ?_ ?_ ?_);rfl;rfl|(with_reducible refine Qaa hob ?_ ?_ ?_);rfl;rfl|(with_reducible refine Qaa hl ?_ ?_ ?_);rfl;rfl|(with_reducible exact Qac _ _ (by kernel_rfl)))
theorem Qmh (n:Int):(magL n.natAbs=[])↔n=0:=by
 have h:=Qdw n.natAbs;constructor
 ·intro e;rw [e]at h;have:=(Qbs (B:=256) (by decide)).1 (List.length_eq_zero_iff.1 h.symm);omega
 ·rintro rfl;simp [magL,Qbi]
theorem Q29 (n d:Int) (h1: -9223372036854775808≤n) (h2:n≤9223372036854775807) (h3: -9223372036854775808≤d) (h4:d≤9223372036854775807) (h0:d≠0):Qaf Tryz.prog 148 [.int .i64 n,.int .i64 d] (outQ (lowN n d) (lowD n d)):=by
 have o1:=Qh5 n h1 h2;have o2:=Qh5 d h3 h4;have hL1:(digs 256 n.natAbs).length≤8:=(Qas (by decide) _ 8).2 (by simp only [Nat.reducePow];omega);have hL2:(digs 256 d.natAbs).length≤8:=(Qas (by decide) _ 8).2 (by simp only [Nat.reducePow];omega);have hr:=Zon (decide (n<0)) (decide (d<0)) ⟨(magL n.natAbs).toArray⟩ ⟨(magL d.natAbs).toArray⟩ (Qim n (by omega)) (Qim d (by omega)) (fun e=>h0 ((Qmh d).1 e)) (by rw [Qnc];omega) (by rw [Qnc];omega);rw [Qbk,Qbk]at hr;generalize lowN n d=N at*;generalize lowD n d=D at*;cases hB:big N D with
 |true=>
  rw [Qp2 hB]at hr ⊢;refine Qab (tb:=[]) 13 [.cell 4 225,.tmp 5] [0,1,4,5] mixed Tryz.func148 rfl (by kernel_rfl) ?_;repeat (first|simp -implicitDefEqProofs only [go_sem,seval,wPV,Qrq]|(with_reducible refine Qaa o1 ?_ ?_ ?_);rfl;rfl|(with_reducible refine Qaa o2 ?_ ?_ ?_);rfl;rfl|(with_reducible refine Qaa hr ?_ ?_ ?_);rfl;rfl)
 |false=>
  rw [Qp3 hB]at hr ⊢;refine Qab (tb:=[]) 13 [.cell 4 225,.tmp 5] [0,1,4,5] mixed Tryz.func148 rfl (by kernel_rfl) ?_;repeat (first|simp -implicitDefEqProofs only [go_sem,seval,wPV,Qdz]|(with_reducible refine Qaa o1 ?_ ?_ ?_);rfl;rfl|(with_reducible refine Qaa o2 ?_ ?_ ?_);rfl;rfl|(with_reducible refine Qaa hr ?_ ?_ ?_);rfl;rfl)
theorem Qd0 {n m:Bool} {s t:ByteArray} (h:vRat n s m t=true):Qbl n s.data.toList=true∧Qbl m t.data.toList=true∧m=false∧t.data.toList≠ []:=by
 simp only [vRat,Bool.and_eq_true]at h;refine⟨h.1,h.2.1,by simpa using h.2.2.1,by simpa using h.2.2.2⟩
theorem sumL (x y m:Nat) (hm:m≤x+y) (k:Nat) (h1:(digs BW x).length≤k) (h2:(digs BW y).length≤k):(digs BW m).length≤k+1:=Zqq x y m k hm h1 h2
theorem Q3a (n1 m1 n2 m2:Bool) (s1 t1 s2 t2:ByteArray) (hv1:vRat n1 s1 m1 t1=true) (hv2:vRat n2 s2 m2 t2=true) (a1:s1.size≤100000) (a2:t1.size≤100000) (a3:s2.size≤100000) (a4:t2.size≤100000):
  Qaf Tryz.prog 165 [.agg [.bool n1,.str s1,.bool m1,.str t1],.agg [.bool n2,.str s2,.bool m2,.str t2]]
   (.tup [nP (!(n1==m2)) (bnum s1.data.toList*bnum t2.data.toList),nP (!(n2==m1)) (bnum s2.data.toList*bnum t1.data.toList),nP (!(m1==m2)) (bnum t1.data.toList*bnum t2.data.toList)]):=by
 obtain⟨p1,p2,_,_⟩:=Qd0 hv1;obtain⟨p3,p4,_,_⟩:=Qd0 hv2;have o1:=Qe2 n1 s1 p1 (by omega);have o2:=Qe2 m1 t1 p2 (by omega);have o3:=Qe2 n2 s2 p3 (by omega);have o4:=Qe2 m2 t2 p4 (by omega);have l1:=Qcq s1 a1;have l2:=Qcq t1 a2;have l3:=Qcq s2 a3;have l4:=Qcq t2 a4;have x1:=Qp0 n1 m2 (bnum s1.data.toList) (bnum t2.data.toList) (by omega);have x2:=Qp0 n2 m1 (bnum s2.data.toList) (bnum t1.data.toList) (by omega);have x3:=Qp0 m1 m2 (bnum t1.data.toList) (bnum t2.data.toList) (by omega);generalize (!(n1==m2))=b1 at*;generalize (!(n2==m1))=b2 at*;generalize (!(m1==m2))=b3 at*;refine Qab (tb:=[]) 28 [.cell 4 171,.cell 5 171,.cell 6 171] [0,1,2,3,4,5,6] mixed Tryz.func165 rfl (by kernel_rfl) ?_;repeat (first|simp -implicitDefEqProofs only [go_sem,seval,nP,dw]|(with_reducible refine Qaa o1 ?_ ?_ ?_);rfl;rfl|(with_reducible refine Qaa o2 ?_ ?_ ?_);rfl;rfl|(with_reducible refine Qaa o3 ?_ ?_ ?_);rfl;rfl|(with_reducible refine Qaa o4 ?_ ?_ ?_);rfl;rfl|(with_reducible refine Qaa x1 ?_ ?_ ?_);rfl;rfl|(with_reducible refine Qaa x2 ?_ ?_ ?_);rfl;rfl|(with_reducible refine Qaa x3 ?_ ?_ ?_);rfl;rfl|(with_reducible exact Qac _ _ (by kernel_rfl)))
def Zoo (a b c d:Int):Int:=lowN (a*d+c*b) (b*d)
def Zop (a b c d:Int):Int:=lowD (a*d+c*b) (b*d)
theorem Qw6 (n1 m1 n2 m2:Bool) (s1 t1 s2 t2:ByteArray) (hv1:vRat n1 s1 m1 t1=true) (hv2:vRat n2 s2 m2 t2=true) (a1:s1.size≤100000) (a2:t1.size≤100000) (a3:s2.size≤100000) (a4:t2.size≤100000):
  Qaf Tryz.prog 149 [.agg [.bool n1,.str s1,.bool m1,.str t1],.agg [.bool n2,.str s2,.bool m2,.str t2]] (outQ (Zoo (wnum n1 s1) (wnum m1 t1) (wnum n2 s2) (wnum m2 t2)) (Zop (wnum n1 s1) (wnum m1 t1) (wnum n2 s2) (wnum m2 t2))):=by
 have hp:=Zc9 n1 m1 n2 m2 s1 t1 s2 t2 a2 a4;rw [hv1,hv2,Bool.true_and]at hp;have hc:=Q3a n1 m1 n2 m2 s1 t1 s2 t2 hv1 hv2 a1 a2 a3 a4;obtain⟨p1,p2,_,p5⟩:=Qd0 hv1;obtain⟨p3,p4,_,p6⟩:=Qd0 hv2;have l1:=Qcq s1 a1;have l2:=Qcq t1 a2;have l3:=Qcq s2 a3;have l4:=Qcq t2 a4;have q1:=mulL (bnum s1.data.toList) (bnum t2.data.toList);have q2:=mulL (bnum s2.data.toList) (bnum t1.data.toList);have q3:=mulL (bnum t1.data.toList) (bnum t2.data.toList);obtain⟨n,m,hs,e,hm⟩:=Zdc (!(n1==m2)) (!(n2==m1)) (bnum s1.data.toList*bnum t2.data.toList) (bnum s2.data.toList*bnum t1.data.toList) (by omega) (by omega);have hml:=sumL _ _ m hm 200000 (by omega) (by omega);have hlo:=Qnv n (!(m1==m2)) m (bnum t1.data.toList*bnum t2.data.toList) (Nat.mul_pos (Qf3 p2 p5) (Qf3 p4 p6)) (by omega) (by omega);rw [Qp1,e,Qp1,Qp1]at hlo;unfold Zoo Zop;show Qaf Tryz.prog 149 _ (outQ (lowN (sv n1 (bnum s1.data.toList)*sv m2 (bnum t2.data.toList)+sv n2 (bnum s2.data.toList)*sv m1 (bnum t1.data.toList)) (sv m1 (bnum t1.data.toList)*sv m2 (bnum t2.data.toList))) (lowD (sv n1 (bnum s1.data.toList)*sv m2 (bnum t2.data.toList)+sv n2 (bnum s2.data.toList)*sv m1 (bnum t1.data.toList)) (sv m1 (bnum t1.data.toList)*sv m2 (bnum t2.data.toList))));generalize lowN (sv n1 (bnum s1.data.toList)*sv m2 (bnum t2.data.toList)+sv n2 (bnum s2.data.toList)*sv m1 (bnum t1.data.toList)) (sv m1 (bnum t1.data.toList)*sv m2 (bnum t2.data.toList))=N at*
 generalize lowD (sv n1 (bnum s1.data.toList)*sv m2 (bnum t2.data.toList)+sv n2 (bnum s2.data.toList)*sv m1 (bnum t1.data.toList)) (sv m1 (bnum t1.data.toList)*sv m2 (bnum t2.data.toList))=D at*;generalize (!(n1==m2))=b1 at*;generalize (!(n2==m1))=b2 at*;generalize (!(m1==m2))=b3 at*;cases hB:big N D with
 |true=>
  rw [Qp2 hB]at hlo ⊢;refine Qab (tb:=[]) 28 [.cell 4 225,.tmp 5] [0,1,2,3,4,5,6,7,8,12] mixed Tryz.func149 rfl (by kernel_rfl) ?_;repeat (first|simp -implicitDefEqProofs only [go_sem,seval,nP,dw,Qrq]|(with_reducible refine Qaa hp ?_ ?_ ?_);rfl;rfl|(with_reducible refine Qaa hc ?_ ?_ ?_);rfl;rfl|(with_reducible refine Qaa hs ?_ ?_ ?_);rfl;rfl|(with_reducible refine Qaa hlo ?_ ?_ ?_);rfl;rfl|(with_reducible exact Qac _ _ (by kernel_rfl)))
 |false=>
  rw [Qp3 hB]at hlo ⊢;refine Qab (tb:=[]) 28 [.cell 4 225,.tmp 5] [0,1,2,3,4,5,6,7,8,12] mixed Tryz.func149 rfl (by kernel_rfl) ?_;repeat (first|simp -implicitDefEqProofs only [go_sem,seval,nP,dw,Qdz]|(with_reducible refine Qaa hp ?_ ?_ ?_);rfl;rfl|(with_reducible refine Qaa hc ?_ ?_ ?_);rfl;rfl|(with_reducible refine Qaa hs ?_ ?_ ?_);rfl;rfl|(with_reducible refine Qaa hlo ?_ ?_ ?_);rfl;rfl|(with_reducible exact Qac _ _ (by kernel_rfl)))
theorem Qw7 (n1 m1 n2 m2:Bool) (s1 t1 s2 t2:ByteArray) (hv1:vRat n1 s1 m1 t1=true) (hv2:vRat n2 s2 m2 t2=true) (a1:s1.size≤100000) (a2:t1.size≤100000) (a3:s2.size≤100000) (a4:t2.size≤100000):
  Qaf Tryz.prog 150 [.agg [.bool n1,.str s1,.bool m1,.str t1],.agg [.bool n2,.str s2,.bool m2,.str t2]] (outQ (lowN (wnum n1 s1*wnum n2 s2) (wnum m1 t1*wnum m2 t2)) (lowD (wnum n1 s1*wnum n2 s2) (wnum m1 t1*wnum m2 t2))):=by
 have hp:=Zc9 n1 m1 n2 m2 s1 t1 s2 t2 a2 a4;rw [hv1,hv2,Bool.true_and]at hp;obtain⟨p1,p2,_,p5⟩:=Qd0 hv1;obtain⟨p3,p4,_,p6⟩:=Qd0 hv2;have o1:=Qe2 n1 s1 p1 (by omega);have o2:=Qe2 m1 t1 p2 (by omega);have o3:=Qe2 n2 s2 p3 (by omega);have o4:=Qe2 m2 t2 p4 (by omega);have l1:=Qcq s1 a1;have l2:=Qcq t1 a2;have l3:=Qcq s2 a3;have l4:=Qcq t2 a4;have q1:=mulL (bnum s1.data.toList) (bnum s2.data.toList);have q3:=mulL (bnum t1.data.toList) (bnum t2.data.toList);have x1:=Qp0 n1 n2 (bnum s1.data.toList) (bnum s2.data.toList) (by omega);have x2:=Qp0 m1 m2 (bnum t1.data.toList) (bnum t2.data.toList) (by omega);have hlo:=Qnv (!(n1==n2)) (!(m1==m2)) (bnum s1.data.toList*bnum s2.data.toList) (bnum t1.data.toList*bnum t2.data.toList) (Nat.mul_pos (Qf3 p2 p5) (Qf3 p4 p6)) (by omega) (by omega);rw [Qp1,Qp1]at hlo;unfold wnum;generalize lowN (sv n1 (bnum s1.data.toList)*sv n2 (bnum s2.data.toList)) (sv m1 (bnum t1.data.toList)*sv m2 (bnum t2.data.toList))=N at*;generalize lowD (sv n1 (bnum s1.data.toList)*sv n2 (bnum s2.data.toList)) (sv m1 (bnum t1.data.toList)*sv m2 (bnum t2.data.toList))=D at*;generalize (!(n1==n2))=b1 at*;generalize (!(m1==m2))=b3 at*;cases hB:big N D with
 |true=>
  rw [Qp2 hB]at hlo ⊢;refine Qab (tb:=[]) 28 [.cell 4 225,.tmp 5] [0,1,2,3,4,5,9] mixed Tryz.func150 rfl (by kernel_rfl) ?_;repeat (first|simp -implicitDefEqProofs only [go_sem,seval,nP,dw,Qrq]|(with_reducible refine Qaa hp ?_ ?_ ?_);rfl;rfl|(with_reducible refine Qaa o1 ?_ ?_ ?_);rfl;rfl|(with_reducible refine Qaa o2 ?_ ?_ ?_);rfl;rfl|(with_reducible refine Qaa o3 ?_ ?_ ?_);rfl;rfl|(with_reducible refine Qaa o4 ?_ ?_ ?_);rfl;rfl|(with_reducible refine Qaa x1 ?_ ?_ ?_);rfl;rfl|(with_reducible refine Qaa x2 ?_ ?_ ?_);rfl;rfl|(with_reducible refine Qaa hlo ?_ ?_ ?_);rfl;rfl|(with_reducible exact Qac _ _ (by kernel_rfl)))
 |false=>
  rw [Qp3 hB]at hlo ⊢;refine Qab (tb:=[]) 28 [.cell 4 225,.tmp 5] [0,1,2,3,4,5,9] mixed Tryz.func150 rfl (by kernel_rfl) ?_;repeat (first|simp -implicitDefEqProofs only [go_sem,seval,nP,dw,Qdz]|(with_reducible refine Qaa hp ?_ ?_ ?_);rfl;rfl|(with_reducible refine Qaa o1 ?_ ?_ ?_);rfl;rfl|(with_reducible refine Qaa o2 ?_ ?_ ?_);rfl;rfl|(with_reducible refine Qaa o3 ?_ ?_ ?_);rfl;rfl|(with_reducible refine Qaa o4 ?_ ?_ ?_);rfl;rfl|(with_reducible refine Qaa x1 ?_ ?_ ?_);rfl;rfl|(with_reducible refine Qaa x2 ?_ ?_ ?_);rfl;rfl|(with_reducible refine Qaa hlo ?_ ?_ ?_);rfl;rfl|(with_reducible exact Qac _ _ (by kernel_rfl)))
theorem Zoq (n m:Bool) (s t:ByteArray) (hv:vRat n s m t=true) (a1:s.size≤100000) (a2:t.size≤100000):Qaf Tryz.prog 151 [.agg [.bool n,.str s,.bool m,.str t]] (Qfc (wnum n s/wnum m t)):=by
 have hp:=Qf4 n s m t a2;rw [hv]at hp;obtain⟨p1,p2,_,p5⟩:=Qd0 hv;have o1:=Qe2 n s p1 (by omega);have o2:=Qe2 m t p2 (by omega);have l1:=Qcq s a1;have l2:=Qcq t a2;have hb:=Qf3 p2 p5;have hd:=Qzm n m (bnum s.data.toList) (bnum t.data.toList) hb (by omega) (by omega);have hw:=Qf1 (!(n==m)) (nqn n (bnum s.data.toList) (bnum t.data.toList)) (Nat.le_trans (Qf2 (Qzn _ _ _)) (Nat.le_trans (Qrp _) (by omega)));rw [(Qzl n m _ _ hb).1,Qe6]at hw;rw [Qe6];show Qaf Tryz.prog 151 _ (.tup [wPV (outN (sv n (bnum s.data.toList)/sv m (bnum t.data.toList))),.int .i64 (outE (sv n (bnum s.data.toList)/sv m (bnum t.data.toList)))]);generalize sv n (bnum s.data.toList)/sv m (bnum t.data.toList)=q at*;generalize (!(n==m))=b1 at*;refine Qab (tb:=[]) 24 [.cell 2 134,.tmp 3] [0,1,2,3,4,8] mixed Tryz.func151 rfl (by kernel_rfl) ?_;repeat (first|simp -implicitDefEqProofs only [go_sem,seval,nP,dw,wPV]|(with_reducible refine Qaa hp ?_ ?_ ?_);rfl;rfl|(with_reducible refine Qaa o1 ?_ ?_ ?_);rfl;rfl|(with_reducible refine Qaa o2 ?_ ?_ ?_);rfl;rfl|(with_reducible refine Qaa hd ?_ ?_ ?_);rfl;rfl|(with_reducible refine Qaa hw ?_ ?_ ?_);rfl;rfl|(with_reducible refine And.intro (Qac _ _ (by kernel_rfl)) ?_))
theorem mod_lt {y:Int} {k:Nat} (x:Int) (h0:y≠0) (hy:y.natAbs<256^k):(x%y).natAbs<256^k:=by
 have h1:=Int.emod_nonneg x h0;have h2:=Int.emod_lt x h0;omega
section
variable (a b c d:Int) (k:Nat) (hk:k≤10000) (ha:a.natAbs<256^k) (hb:b.natAbs<256^k) (hc:c.natAbs<256^k) (hd:d.natAbs<256^k)
include hk ha hb hc hd
end
end Go.Proofs.YtdpajapkhembcaaGreatDoor

namespace Go.Dg

/-! ### sums -/
/-- The sum of the first n values. -/
def sm (f:Nat→Int):Nat→Int
  |0=>0
  |n+1=>sm f n+f n
theorem Qcz {f g:Nat→Int}: ∀(n:Nat),(∀i,i<n→f i=g i)→sm f n=sm g n
  |0,_=>rfl
  |n+1,h=>by rw [sm,sm,Qcz n (fun i hi=>h i (Nat.lt_succ_of_lt hi)),h n (Nat.lt_succ_self n)]
theorem Q5k (f g:Nat→Int): ∀n,sm (fun i=>f i+g i) n=sm f n+sm g n
  |0=>rfl
  |n+1=>by simp only [sm,Q5k f g n];omega
theorem Qes (c:Int) (f:Nat→Int): ∀n,sm (fun i=>c*f i) n=c*sm f n
  |0=>by simp [sm]
  |n+1=>by simp only [sm,Qes c f n,Int.mul_add]
theorem Ql3 (f:Nat→Int): ∀n,sm f (n+1)=f 0+sm (fun i=>f (i+1)) n
  |0=>by simp [sm]
  |n+1=>by rw [sm,Ql3 f n,sm];omega
theorem Zrl (f:Nat→Int) {n m:Nat} (h:n≤m) (hz: ∀i,n≤i→i<m→f i=0):sm f m=sm f n:=by
  induction m with
  |zero=>
        obtain rfl:n=0:=by omega
        rfl
  |succ m ih=>
    rcases Nat.lt_or_eq_of_le h with h1|h1
    · rw [sm,ih (by omega) (fun i a b=>hz i a (by omega)),hz m (by omega) (by omega),Int.add_zero]
    · rw [h1]
theorem Zp5 (g:Nat→Nat→Int): ∀n,sm (fun j=>sm (fun i=>g i j) (j+1)) n=sm (fun i=>sm (fun k=>g i (i+k)) (n-i)) n
  |0=>rfl
  |n+1=>by
    rw [sm,Zp5 g n];have h1:sm (fun i=>sm (fun k=>g i (i+k)) (n+1-i)) n=sm (fun i=>sm (fun k=>g i (i+k)) (n-i)+g i n) n:=
      Qcz n fun i hi=>by
        have e:n+1-i=(n-i)+1:=by omega
        have e2:i+(n-i)=n:=by omega
        rw [e,sm,e2]
    have e3:n+1-n=1:=by omega
    rw [sm,sm,h1,Q5k,e3];simp only [sm,Nat.add_zero,Int.zero_add];omega
theorem Zrm {f g:Nat→Int}: ∀(n:Nat),(∀i,i<n→f i≤g i)→sm f n≤sm g n
  |0,_=>Int.le_refl 0
  |n+1,h=>Int.add_le_add (Zrm n fun i hi=>h i (Nat.lt_succ_of_lt hi)) (h n (Nat.lt_succ_self n))

/-! ### binomials -/
/-- The number of ways to choose k of n elements. -/
def bin:Nat→Nat→Nat
  |_,0=>1
  |0,_+1=>0
  |n+1,k+1=>bin n k+bin n (k+1)
theorem Ql4 (n:Nat):bin n 0=1:=by cases n<;>rfl
theorem Q5l: ∀{n k:Nat},n<k→bin n k=0
  |0,0,h=>absurd h (Nat.lt_irrefl 0)
  |0,_+1,_=>rfl
  |n+1,0,h=>absurd h (Nat.not_lt_zero _)
  |n+1,k+1,h=>by rw [bin,Q5l (by omega),Q5l (by omega)]
theorem Q5m: ∀{n k:Nat},k≤n→0<bin n k
  |_,0,_=>by rw [Ql4];decide
  |0,k+1,h=>absurd h (by omega)
  |n+1,k+1,h=>by rw [bin];have:=Q5m (n:=n) (k:=k) (by omega);omega
theorem Qkc: ∀(n k:Nat),bin n k≤2^n
  |0,0=>by decide
  |0,_+1=>by simp [bin]
  |n+1,0=>by rw [Ql4];exact Nat.pow_pos (by decide)
  |n+1,k+1=>by rw [bin,Nat.pow_succ];have:=Qkc n k;have:=Qkc n (k+1);omega
theorem Qs6 (x:Int) (n:Nat):x^(n+1)=x*x^n:=by rw [Int.pow_succ,Int.mul_comm]
/-- The power of a sum. -/
theorem Qvs (a b:Int): ∀n,sm (fun k=>(bin n k:Int)*(a^k*b^(n-k))) (n+1)=(a+b)^n
  |0=>by simp [sm,bin]
  |n+1=>by
    have ih:=Qvs a b n;rw [Ql3];have h1:sm (fun k=>(bin (n+1) (k+1):Int)*(a^(k+1)*b^(n+1-(k+1)))) (n+1)
        =sm (fun k=>a*((bin n k:Int)*(a^k*b^(n-k)))+(bin n (k+1):Int)*(a^(k+1)*b^(n-k))) (n+1):=
      Qcz _ fun k _=>by
        have e:n+1-(k+1)=n-k:=by omega
        rw [e,bin,Int.natCast_add,Int.add_mul,Qs6];congr 1;rw [Int.mul_assoc,Int.mul_left_comm]
    rw [h1,Q5k,Qes,ih];have h2:sm (fun k=>(bin n (k+1):Int)*(a^(k+1)*b^(n-k))) (n+1)=sm (fun k=>b*((bin n (k+1):Int)*(a^(k+1)*b^(n-(k+1))))) n:=by
      rw [sm,Q5l (Nat.lt_succ_self n),Int.natCast_zero,Int.zero_mul,Int.add_zero];refine Qcz _ fun k hk=> ?_;have e:n-k=(n-(k+1))+1:=by omega
      rw [e,Qs6 b];simp only [Int.mul_comm,Int.mul_left_comm,Int.mul_assoc]
    have h3:=Ql3 (fun k=>(bin n k:Int)*(a^k*b^(n-k))) n;rw [ih]at h3;rw [h2,Qes,Ql4];rw [Ql4]at h3;simp only [Int.pow_zero,Int.one_mul,Nat.sub_zero,Int.natCast_one]at h3 ⊢;rw [Qs6,Qs6,Int.add_mul,h3];simp only [Int.mul_add];omega

/-! ### polynomials by their values -/
/-- A polynomial at x/y,times y to the power of its degree. -/
def hev:List Int→Int→Int→Int
  | [],_,_=>0
  |c::r,x,y=>c*y^r.length+x*hev r x y
theorem Qs7: ∀(p:List Int) (x y:Int),hev p x y=sm (fun i=>p.getD i 0*(x^i*y^(p.length-1-i))) p.length
  | [],_,_=>rfl
  |c::r,x,y=>by
    rw [hev,List.length_cons,Ql3,Qs7 r x y,←Qes];congr 1
    · simp
    · refine Qcz _ fun i hi=> ?_;have e:r.length+1-1-(i+1)=r.length-1-i:=by omega
      rw [e,Qs6,List.getD_cons_succ];simp only [Int.mul_comm,Int.mul_left_comm,Int.mul_assoc]
/-- A list of sums of products,at two values. -/
theorem Zfg (F:Nat→Int) (n:Nat) (x y:Int):hev ((List.range (n+1)).map F) x y=sm (fun j=>F j*(x^j*y^(n-j))) (n+1):=by
  rw [Qs7];simp only [List.length_map,List.length_range];refine Qcz _ fun j hj=> ?_;rw [List.getD_eq_getElem?_getD];simp [hj]

/-- The list whose value at x,y is the sum of f i x^i (c x+y)^(n-i). -/
def trans (f:List Int) (c:Int) (n:Nat):List Int:=(List.range (n+1)).map fun j=>sm (fun i=>f.getD i 0*(c^(j-i)*(bin (n-i) (j-i):Int))) (j+1)
theorem Qs8 (f:List Int) (c:Int) (n:Nat):(trans f c n).length=n+1:=by simp [trans]
theorem Qyq (a b:Int): ∀n:Nat,(a*b)^n=a^n*b^n
  |0=>by simp
  |n+1=>by rw [Qs6,Qs6,Qs6,Qyq a b n];simp only [Int.mul_comm,Int.mul_left_comm,Int.mul_assoc]
theorem Zrn (c:Int) (f:Nat→Int) (n:Nat):sm (fun i=>f i*c) n=sm f n*c:=by
  rw [Int.mul_comm,←Qes];exact Qcz n fun i _=>Int.mul_comm _ _
theorem Q5n (f:List Int) (c:Int) (n:Nat) (x y:Int):hev (trans f c n) x y=sm (fun i=>f.getD i 0*(x^i*(c*x+y)^(n-i))) (n+1):=by
  rw [trans,Zfg];have h1:sm (fun j=>sm (fun i=>f.getD i 0*(c^(j-i)*(bin (n-i) (j-i):Int))) (j+1)*(x^j*y^(n-j))) (n+1)
      =sm (fun j=>sm (fun i=>f.getD i 0*(c^(j-i)*(bin (n-i) (j-i):Int))*(x^j*y^(n-j))) (j+1)) (n+1):=
    Qcz _ fun j _=>(Zrn _ _ _).symm
  rw [h1,Zp5 (fun i j=>f.getD i 0*(c^(j-i)*(bin (n-i) (j-i):Int))*(x^j*y^(n-j)))];refine Qcz _ fun i hi=> ?_;have e:n+1-i=(n-i)+1:=by omega
  rw [←Qvs (c*x) y (n-i),e,←Qes,←Qes];refine Qcz _ fun k hk=> ?_;have e1:i+k-i=k:=by omega
  have e2:n-(i+k)=n-i-k:=by omega
  rw [e1,e2,Qyq,Int.pow_add];simp only [Int.mul_comm,Int.mul_left_comm,Int.mul_assoc]
theorem Zro {f:List Int} {n:Nat} (h:f.length≤n+1) (x s:Int):sm (fun i=>f.getD i 0*(x^i*s^(n-i))) (n+1)=s^(n+1-f.length)*hev f x s:=by
  rw [Zrl _ h (fun i h1 _=>by rw [List.getD_eq_getElem?_getD,List.getElem?_eq_none h1];simp),Qs7,←Qes];refine Qcz _ fun i hi=> ?_;have e:n-i=(n+1-f.length)+(f.length-1-i):=by omega
  rw [e,Int.pow_add];simp only [Int.mul_comm,Int.mul_left_comm,Int.mul_assoc]
theorem Q0x {f:List Int} {n:Nat} (h:f.length≤n+1) (c x y:Int):hev (trans f c n) x y=(c*x+y)^(n+1-f.length)*hev f x (c*x+y):=by
  rw [Q5n,Zro h]
theorem Q0y {f:List Int} {n:Nat} (h:f.length=n+1) (c x y:Int):hev (trans f c n) x y=hev f x (c*x+y):=by
  rw [Q0x (by omega),h,Nat.sub_self,Int.pow_zero,Int.one_mul]
/-- Each value times a power. -/
def Zyq (b:Int) (n:Nat) (f:List Int):List Int:=(List.range (n+1)).map fun j=>f.getD j 0*b^(n-j)
end Go.Dg
