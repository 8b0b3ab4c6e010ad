/-
  PW26, PW27, PW23, PW28, PW29, Dp, PW30, PW31, PW32, PA11, PA12, PA13 (merged for the claim).
-/
import Derived.Test.YtlghoaggenhheaaGreatPW25
import Derived.Test.YtlghoaggenhheaaGreatUW
import Derived.Test.YtlghoaggenhheaaGreatPW6
set_option linter.unusedSimpArgs false
set_option linter.unusedVariables false
namespace Go.Proofs.YtlghoaggenhheaaGreat
open Go.Vl Go.RowKit Go.Dg
theorem Zao (l:List Nat):((l.map fW).all fun e=>e.cells.length==1&&e.cells.all flatc)=true:=by
 rw [List.all_map,List.all_eq_true];intro _ _;rfl
set_option maxHeartbeats 4000000 in
theorem Zap (a b:Nat) (h:b≤a) (hb1:2≤(digs BW b).length) (ha:(digs BW a).length≤100000000):Qae Tryz.prog 136 [dw (digs BW a),dw (digs BW b)] (.tup [dw (digs BW (a/b)),dw (digs BW (a%b))]):=by
 have hb0:b≠0:=by rintro rfl;rw [Qa3]at hb1;simp at hb1
 have hkN:(digs BW b).length≤(digs BW a).length:=(Qar BW_2 b _).2 (Nat.lt_of_le_of_lt h (Qa2 BW_2 a));have hc:=Qea a b (by omega) (by omega);have g1:(cmpW a b<0)=False:=by simp only [eq_iff_iff,iff_false];rw [Qe7];omega
 have htop:=Qel BW_2 hb0;have hga:=Qat (n:=b) (k:=(digs BW b).length-1) BW_2 (by omega);rw [Nat.mod_eq_of_lt htop.2]at hga;have hdk:=Zr9 hb0;have hlz:=Zar (b/BW^((digs BW b).length-1)) htop.2;have hs64:64-blen (b/BW^((digs BW b).length-1))≤64:=by omega
 obtain⟨s,hs⟩: ∃s,s=64-blen (b/BW^((digs BW b).length-1)):=⟨_,rfl⟩;simp only [WB]at hdk;simp only [BW]at hs hlz hdk;rw [←hs]at hlz hdk hs64;have hsb:=Zlr b s (by omega) (by omega);have hsa:=Zlr a s (by omega) (by omega);have hR0:a*2^s<BW^((digs BW a).length+1):=by
  rw [Nat.pow_succ];exact Nat.mul_lt_mul_of_lt_of_le (Qa2 BW_2 a) (Nat.pow_le_pow_right (n:=2) (by decide) hs64) (by decide)
 have hL0:(digs BW (a*2^s)).length≤(digs BW a).length+1:=(Qar BW_2 _ _).2 hR0;have hbk:BW^((digs BW b).length-1)≤b:=by
  have:=(Qck BW_2 b ((digs BW b).length-1)).1 (by omega);rcases Nat.lt_or_ge b (BW^((digs BW b).length-1))with h'|h'
  ·exact absurd (Nat.div_eq_of_lt h') this
  ·exact h'
 have hRd:a*2^s<b*2^s*BW^((digs BW a).length+1-(digs BW b).length):=by
  have e:BW^(digs BW a).length=BW^((digs BW b).length-1)*BW^((digs BW a).length+1-(digs BW b).length):=by
   rw [←Nat.pow_add];congr 1;omega
  have h1:=Qa2 BW_2 a;rw [e]at h1;have h2:=Nat.lt_of_lt_of_le h1 (Nat.mul_le_mul_right _ hbk);rw [Nat.mul_right_comm];exact Nat.mul_lt_mul_of_pos_right h2 (Nat.pow_pos (by decide))
 have hq:a/b=a*2^s/(b*2^s):=(Nat.mul_div_mul_right a b (Nat.pow_pos (by decide))).symm;have hm:a%b*2^s=a*2^s%(b*2^s):=(Nat.mul_mod_mul_right _ a b).symm;have hd0:0<b*2^s:=Nat.mul_pos (by omega) (Nat.pow_pos (by decide));have hpad:=Qjt BW_2 (a*2^s) ((digs BW a).length+1) hL0;generalize hRR:a*2^s=R0 at*;generalize hdd:b*2^s=d at*;generalize hN:(digs BW a).length=N at*;generalize hkk:(digs BW b).length=k at*;obtain⟨nq,hnq⟩: ∃nq,nq=N+1-k:=⟨_,rfl⟩;rw [←hnq]at hRd;have z1:((k:Int)==1)=false:=by simp only [beq_eq_false_iff_ne,ne_eq];omega
 have z2:IntKind.i64.wrap ((k:Int)-1)=((k-1:Nat):Int):=by rw [Qai (by omega) (by omega)];omega
 have z3:(0≤((k-1:Nat):Int))=True:=by simp only [eq_iff_iff,iff_true];exact Int.natCast_nonneg _
 have z4:=Qah (a:=N) (by omega);have z5:((0:Int)≤((N+1:Nat):Int))=True:=by simp only [eq_iff_iff,iff_true];omega
 have z6:((8:Nat):Int)*((N+1:Nat):Int)≤281474976710656:=by omega
 have z7:((N+1:Nat):Int)≤9223372036854775807:=by omega
 have z8:IntKind.i64.wrap (((N+1:Nat):Int)-(k:Int))=(nq:Int):=by rw [Qai (by omega) (by omega)];omega
 have z9:((0:Int)≤(nq:Int))=True:=by simp only [eq_iff_iff,iff_true];omega
 have z10:((8:Nat):Int)*(nq:Int)≤281474976710656:=by omega
 have z11:(nq:Int)≤9223372036854775807:=by omega
 have z12:IntKind.i64.wrap ((nq:Int)-1)=(nq:Int)-1:=Qai (by omega) (by omega);have z13:Nat.ble 0 0=true:=rfl;have z14:Nat.ble (digs BW R0).length (N+1)=true:=Nat.ble_eq_true_of_le hL0;have z15:min (digs BW R0).length (N+1)=(digs BW R0).length:=Nat.min_eq_left hL0

 refine Qab (tb:=[(1901,[(1000000,706)],[]),(2201,[(1000000,706)],[]),(2203,[(1000000,706)],[(102,2203)])]) 145 [.tmp 4,.tmp 5] [0,1,4,5,6,7,8,9,10,11,12,13,14,15,16,17,21,25,68,82,121] mixed Tryz.func136 rfl (by kernel_rfl) ?_;simp -implicitDefEqProofs only [go_sem,Nat.reduceAdd,Nat.reduceMul,Nat.reduceEqDiff,Nat.reduceLT,Nat.reduceLeDiff,reduceCtorEq,dw];refine Qag _ _ _ _ _ _ _ _ _ hc ?_;simp -implicitDefEqProofs only [go_sem,Nat.reduceAdd,Nat.reduceMul,Nat.reduceEqDiff,Nat.reduceLT,Nat.reduceLeDiff,reduceCtorEq,g1,List.length_map,hkk,z1,z2,z3,Qcl,hga,Int.toNat_natCast];refine Qag _ _ _ _ _ _ _ _ _ hlz ?_;simp -implicitDefEqProofs only [go_sem,Nat.reduceAdd,Nat.reduceMul,Nat.reduceEqDiff,Nat.reduceLT,Nat.reduceLeDiff,reduceCtorEq];refine Qag _ _ _ _ _ _ _ _ _ hsb ?_;simp -implicitDefEqProofs only [go_sem,Nat.reduceAdd,Nat.reduceMul,Nat.reduceEqDiff,Nat.reduceLT,Nat.reduceLeDiff,reduceCtorEq,dw,List.length_map,hN,z4,z5,z6,z7,Int.toNat_natCast];refine⟨Qad _ _ (by kernel_rfl),?_⟩;refine Qag _ _ _ _ _ _ _ _ _ hsa ?_;have hfl:=Zao (digs BW R0);have htk0:((digs BW R0).map fW).take (digs BW R0).length=(digs BW R0).map fW:=List.take_of_length_le (by simp);have hcp:(digs BW R0).map fW++(List.replicate (N+1) (PV.int .u64 0)).drop (digs BW R0).length=(lows BW R0 (N+1)).map fW:=by
  rw [←hpad,List.map_append,List.drop_replicate,List.map_replicate];rfl
 have hrep:List.replicate nq (PV.int .u64 0)=(mix BW 0 (R0/d) nq nq).map fW:=by rw [Qm4,Qfh];simp
 simp -implicitDefEqProofs only [go_sem,Nat.reduceAdd,Nat.reduceMul,Nat.reduceEqDiff,Nat.reduceLT,Nat.reduceLeDiff,reduceCtorEq,dw,List.length_map,hfl,z13,z14,z15,htk0,hcp,List.length_replicate,hdk,z8,z9,z10,z11,z12,Int.toNat_natCast];rw [hrep];have hst:R0%(d*BW^nq)=R0:=Nat.mod_eq_of_lt hRd;refine Qaq mixed (fun i:{i:Nat // i≤nq}=>St.of [(8,.int .i64 (s:Int)),(9,dw (digs BW d)),(10,.bs 706 1 0 (N+1)),(11,.int .i64 (k:Int)),(12,.bs 1004 1 0 nq),(13,.int .i64 ((i.1:Int)-1))]
  [(706,wB (lows BW (R0%(d*BW^i.1)) (N+1))),(1004,wB (mix BW 0 (R0/d) nq i.1))]) (fun i=>i.1) ⟨nq,Nat.le_refl _⟩ ?_ ?_
 ·refine Qaj (θ:=[(706,706),(1004,1004)]) rfl ?_ ?_
  ·simp [Qac,lkp,ren1,ren0,dw]
  ·simp [Qal,lkp,Box.renames,hst]
 ·rintro⟨i,hi⟩;cases i with
  |zero=>
   have h1:((0:Int)≤((0:Nat):Int)-1)=False:=by simp
   have e0:R0%(d*BW^0)=R0%d:=by rw [Nat.pow_zero,Nat.mul_one]
   have hll:=Qak (B:=BW) (R0/d) nq;have htk:=List.take_of_length_le (l:=(lows BW (R0/d) nq).map fW) (i:=nq) (by simp [hll]);have hll2:=Qak (B:=BW) (R0%d) (N+1);have htk2:=List.take_of_length_le (l:=(lows BW (R0%d) (N+1)).map fW) (i:=N+1) (by simp [hll2]);have ht1:=Qdv (lows BW (R0/d) nq) (by rw [hll];unfold maxLen;omega);have ht2:=Qdv (lows BW (R0%d) (N+1)) (by rw [hll2];unfold maxLen;omega);rw [Qbt BW_2,Nat.mod_eq_of_lt (Nat.div_lt_of_lt_mul hRd)]at ht1;rw [Qbt BW_2,Nat.mod_eq_of_lt (Nat.lt_of_le_of_lt (Nat.mod_le _ _) hR0)]at ht2;have hL3:(digs BW (a%b*2^s)).length≤N+1:=(Qar BW_2 _ _).2 (by rw [hm];exact Nat.lt_of_le_of_lt (Nat.mod_le _ _) hR0);have hsr:=Zud (a%b*2^s) s (by omega) (by omega);rw [Nat.mul_div_cancel _ (Nat.pow_pos (by decide)),hm]at hsr;rw [hq];repeat (first|simp -implicitDefEqProofs only [go_sem,Nat.reduceAdd,Nat.reduceMul,Nat.reduceEqDiff,Nat.reduceLT,Nat.reduceLeDiff,reduceIte,reduceCtorEq,h1,e0,wB,Qif,List.length_map,hll,htk,hll2,htk2,dw]|(with_reducible refine Qaa ht1 ?_ ?_ ?_);rfl;rfl|(with_reducible refine Qaa ht2 ?_ ?_ ?_);rfl;rfl|(with_reducible refine Qaa hsr ?_ ?_ ?_);rfl;rfl)
  |succ i=>
   have hs1:(((i+1:Nat):Int)-1)=(i:Int):=by omega
   have i0:((0:Int)≤(i:Int))=True:=by simp
   have hik:i+k≤N:=by omega
   obtain⟨S,hS⟩: ∃S,S=R0%(d*BW^(i+1)):=⟨_,rfl⟩;obtain⟨W,hW⟩: ∃W,W=S/BW^i:=⟨_,rfl⟩;obtain⟨Q,hQ⟩: ∃Q,Q=R0/d/BW^i%BW:=⟨_,rfl⟩;have hdg:=Zcq (B:=BW) (by decide) R0 d i hd0;rw [←hS,←hW,←hQ]at hdg;have hQB:Q<BW:=by rw [hQ];exact Nat.mod_lt _ (by decide)
   have hdk2:d<BW^k:=by rw [←hdk];exact Qa2 BW_2 d
   have hWd:W<d*BW:=by
    rw [hW];refine Nat.div_lt_of_lt_mul ?_;rw [hS,Nat.mul_comm (BW^i),Nat.mul_assoc,Nat.mul_comm BW,←Nat.pow_succ];exact Nat.mod_lt _ (Nat.mul_pos hd0 (Nat.pow_pos (by decide)))
   have hWk:W<BW^(k+1):=by
    rw [Nat.pow_succ];exact Nat.lt_trans hWd (Nat.mul_lt_mul_of_pos_right hdk2 (by decide))
   have hll:=Qak (B:=BW) S (N+1);have hSW: ∀j,S/BW^(i+j)=W/BW^j:=fun j=>by rw [hW,Nat.pow_add,Nat.div_div_eq_div_mul]
   have hQle:d*Q≤W:=by rw [←hdg];exact Nat.mul_div_le W d
   have hQmax: ∀p,d*p≤W→p≤Q:=fun p hp=>by rw [←hdg,Nat.le_div_iff_mul_le hd0,Nat.mul_comm];exact hp
   have hLd: ∀p,p<BW→(digs BW (d*p)).length≤1000000000:=fun p hp=>by
    refine Nat.le_trans ((Qar BW_2 _ (k+1)).2 ?_) (show k+1≤1000000000 by omega);rw [Nat.pow_succ];exact Nat.mul_lt_mul_of_lt_of_le hdk2 (Nat.le_of_lt hp) (by decide)
   have hLW:(digs BW W).length≤k+1:=(Qar BW_2 _ _).2 hWk;have hwin:((lows BW S (N+1)).drop i).take (k+1)=lows BW W (k+1):=by rw [Qnr _ _ _ _ _ (by omega),←hW]
   have htB:=Q0j (lows BW S (N+1)) i (k+1) (by rw [hll];omega) (by rw [hll];unfold maxLen;omega);rw [hwin,Qbt BW_2,Nat.mod_eq_of_lt hWk]at htB;have hwd2:((lows BW S (N+1)).drop i).take (digs BW W).length=digs BW W:=by
    rw [Qnr _ _ _ _ _ (by omega),←hW,Qhm BW_2]
   have hesc:(((lows BW S (N+1)).map fW).drop i).take (digs BW W).length=(digs BW W).map fW:=by
    rw [←List.map_drop,←List.map_take,hwd2]
   have b7:(i+(digs BW W).length≤N+1)=True:=by simp only [eq_iff_iff,iff_true];omega
   have hg1:((lows BW S (N+1)).map fW)[i+k]? =some (PV.int .u64 ((W/BW^k:Nat):Int)):=by
    have h5:W/BW^k<BW:=Nat.div_lt_of_lt_mul (by rw [←Nat.pow_succ];exact hWk);rw [List.getElem?_map,Qb2 _ _ _ (by omega),hSW,Nat.mod_eq_of_lt h5];rfl
   have hg2:((lows BW S (N+1)).map fW)[i+k-1]? =some (PV.int .u64 ((W/BW^(k-1)%BW:Nat):Int)):=by
    rw [List.getElem?_map,show i+k-1=i+(k-1)by omega,Qb2 _ _ _ (by omega),hSW];rfl
   have htd:=Qel BW_2 (show d≠0 by omega);rw [hdk]at htd;have hgd:=Qat (n:=d) (k:=k-1) BW_2 (by rw [hdk];omega);rw [Nat.mod_eq_of_lt htd.2]at hgd;have wik:=Qcr (a:=i) (b:=k) (by omega);have wik1:=Qah (a:=i+k) (by omega);have wikm:IntKind.i64.wrap (((i+k:Nat):Int)-1)=((i+k-1:Nat):Int):=by rw [Qai (by omega) (by omega)];omega
   have b1:(0≤((i+k:Nat):Int))=True:=by simp only [eq_iff_iff,iff_true];exact Int.natCast_nonneg _
   have b2:(((i+k:Nat):Int)<((N+1:Nat):Int))=True:=by simp only [eq_iff_iff,iff_true];omega
   have b2a:(0≤((i+k-1:Nat):Int))=True:=by simp only [eq_iff_iff,iff_true];exact Int.natCast_nonneg _
   have b2b:(((i+k-1:Nat):Int)<((N+1:Nat):Int))=True:=by simp only [eq_iff_iff,iff_true];omega
   have b3:((i:Int)≤((i+k+1:Nat):Int))=True:=by simp only [eq_iff_iff,iff_true];omega
   have b4:(((i+k+1:Nat):Int)≤((N+1:Nat):Int))=True:=by simp only [eq_iff_iff,iff_true];omega
   have b5:(i<i+k+1)=True:=by simp only [eq_iff_iff,iff_true];omega
   have hsub:i+k+1-i=k+1:=by omega
   have hsB:=Zq0 (lows BW S (N+1)) i W (d*Q) hQle hwd2 (by rw [hll];omega) (by omega);have b8:Nat.ble 0 i=true:=Nat.ble_eq_true_of_le (Nat.zero_le _);have b9:Nat.ble (i+(k+1)) (N+1)=true:=Nat.ble_eq_true_of_le (by omega);have hWQ:W-d*Q<d:=by
    have h5:=Nat.mod_lt W hd0;have h6:=Nat.div_add_mod W d;rw [hdg]at h6;generalize d*Q=dq at*;omega
   have hLq:(digs BW (W-d*Q)).length≤k:=(Qar BW_2 _ _).2 (Nat.lt_trans hWQ hdk2);have hLq2:(digs BW (W-d*Q)).length≤(digs BW W).length:=(Qar BW_2 _ _).2 (Nat.lt_of_le_of_lt (Nat.sub_le _ _) (Qa2 BW_2 W));have hmn:min (digs BW (W-d*Q)).length (k+1)=(digs BW (W-d*Q)).length:=Nat.min_eq_left (by omega);have hllf:=Qak (B:=BW) (W-d*Q) (digs BW W).length;have b11:((digs BW (W-d*Q)).length≤(digs BW W).length)=True:=by simp only [eq_iff_iff,iff_true];exact hLq2
   have hlft:((lows BW (W-d*Q) (digs BW W).length).map fW).take (digs BW (W-d*Q)).length=(digs BW (W-d*Q)).map fW:=by
    rw [←List.map_take,Quj _ _ _ hLq2,Qhm BW_2]
   have hfl3:=Zao (digs BW (W-d*Q));have htk3:((digs BW (W-d*Q)).map fW).take (digs BW (W-d*Q)).length=(digs BW (W-d*Q)).map fW:=List.take_of_length_le (by simp);have hlen3:(((lows BW S (N+1)).map fW).take i++List.replicate (k+1) (PV.int .u64 0)++((lows BW S (N+1)).map fW).drop (i+(k+1))).length=N+1:=by simp [hll];omega
   have b12:Nat.ble (i+(digs BW (W-d*Q)).length) (N+1)=true:=Nat.ble_eq_true_of_le (by omega);have b10:Nat.ble 0 0=true:=rfl;have hinq:((i:Int)<(nq:Int))=True:=by simp only [eq_iff_iff,iff_true];omega
   have hmlq:=Qbl (B:=BW) 0 (R0/d) nq (i+1);obtain⟨e,hgoq⟩: ∃e:Nat,((mix BW 0 (R0/d) nq (i+1)).map fW)[i]? =some (PV.int .u64 (e:Int)):=⟨_,by rw [List.getElem?_map,Qc1 _ _ _ _ _ (by omega)];rfl⟩;have hsetq:=Qjz (B:=BW) (V:=0) (S:=R0/d) (N:=nq) (i:=i) (d:=Q) (by omega) hQ.symm;have w4:IntKind.i64.wrap ((i:Int)-1)=(i:Int)-1:=Qai (by omega) (by omega);obtain⟨S',hS'⟩: ∃S',S'=R0%(d*BW^i):=⟨_,rfl⟩;have hnx:S%(d*BW^i)=S':=by rw [hS,hS'];exact Zl7 R0 d i
   have hup:S'/BW^i=W-d*Q:=by
    rw [←hnx,Zcr (by decide) S d i hd0,←hW];have h6:=Nat.div_add_mod W d;rw [hdg]at h6;omega
   have hlo:S%BW^i=S'%BW^i:=by rw [←hnx,Zcs (by decide)]
   have hpad2:=Qjt BW_2 (W-d*Q) (k+1) (Nat.le_succ_of_le hLq);have hz1:S/BW^(i+(k+1))=0:=by rw [hSW];exact Nat.div_eq_of_lt hWk
   have hz2:S'/BW^(i+(k+1))=0:=by
    rw [Nat.pow_add,←Nat.div_div_eq_div_mul,hup];exact Nat.div_eq_of_lt (Nat.lt_of_le_of_lt (Nat.sub_le _ _) hWk)
   have hov2:=Q4y (B:=BW) (V:=S) (W:=S') (n:=N+1) (j:=i) (x:=lows BW (W-d*Q) (k+1)) (by decide) (by rw [Qak];omega) hlo (by rw [Qak,hup]) (by rw [Qak,hz1,hz2]);rw [Qak,←hpad2]at hov2;have hfin:(((lows BW S (N+1)).map fW).take i++List.replicate (k+1) (PV.int .u64 0)++((lows BW S (N+1)).map fW).drop (i+(k+1))).take i++(digs BW (W-d*Q)).map fW++
     (((lows BW S (N+1)).map fW).take i++List.replicate (k+1) (PV.int .u64 0)++((lows BW S (N+1)).map fW).drop (i+(k+1))).drop (i+(digs BW (W-d*Q)).length)=(lows BW (R0%(d*BW^i)) (N+1)).map fW:=by
    have h7:=Q1o ((lows BW S (N+1)).map fW) ((digs BW (W-d*Q)).map fW) i (k+1) (PV.int .u64 0) (by rw [List.length_map];omega) (by rw [List.length_map,hll];omega);rw [List.length_map]at h7;rw [h7,←hS',←hov2,List.map_append,List.map_append,List.map_append,List.map_take,List.map_drop,List.map_replicate];rfl
   by_cases hcase:W/BW^k<d/BW^(k-1)
   ·have g5:(((W/BW^k:Nat):Int)<((d/BW^(k-1):Nat):Int))=True:=by simp only [eq_iff_iff,iff_true];omega
    have hdv:=Zak (W/BW^k) (W/BW^(k-1)%BW) (d/BW^(k-1)) hcase htd.2 (Nat.mod_lt _ (by decide));have htt:=Zl8 (B:=BW) (by decide) W (k-1);rw [show k-1+1=k by omega]at htt;simp only [BW]at hdv htt;rw [←htt]at hdv;have hov:=Q1l (B:=BW) (by decide) W d (k-1) (Nat.pos_of_ne_zero htd.1);rw [hdg]at hov;have hgB':W/BW^(k-1)/(d/BW^(k-1))<BW:=by
     rw [Nat.div_lt_iff_lt_mul (Nat.pos_of_ne_zero htd.1)];simp only [BW];rw [htt];have h6:=Nat.mul_le_mul_right BW (show W/BW^k+1≤d/BW^(k-1)from hcase);have h7:W/BW^(k-1)%BW<BW:=Nat.mod_lt _ (by decide);simp only [BW]at h6 h7;rw [Nat.add_mul,Nat.one_mul]at h6;rw [Nat.mul_comm 18446744073709551616];omega
    simp -implicitDefEqProofs only [go_sem,Nat.reduceAdd,Nat.reduceMul,Nat.reduceEqDiff,Nat.reduceLT,Nat.reduceLeDiff,reduceCtorEq,dw,wB,hs1,i0,wik,wikm,b1,b2,b2a,b2b,z2,z3,Int.toNat_natCast,←hS,hg1,hg2,Qcl,hgd,g5];refine⟨Qad _ _ (by kernel_rfl),?_⟩;refine Qag _ _ _ _ _ _ _ _ _ hdv ?_;simp only [BW]at hov hgB';generalize W/18446744073709551616^(k-1)/(d/18446744073709551616^(k-1))=g at*;have hgQ:Q≤g:=hov;have hgB:g<BW:=hgB';have htg:=Qdv [g] (by simp [maxLen]);rw [Qkf hgB]at htg;have hmg:=Zai d g (by rw [hdk];have:=(Qar BW_2 g 1).2 (by simpa using hgB);omega);simp -implicitDefEqProofs only [go_sem,Nat.reduceAdd,Nat.reduceMul,Nat.reduceEqDiff,Nat.reduceLT,Nat.reduceLeDiff,reduceCtorEq];refine⟨Qad _ _ (by kernel_rfl),?_⟩;simp -implicitDefEqProofs only [go_sem,Nat.reduceAdd,Nat.reduceMul,Nat.reduceEqDiff,Nat.reduceLT,Nat.reduceLeDiff,reduceIte,reduceCtorEq,i0,b3,b4,b5,wik,wik1,Int.toNat_natCast,hsub,Nat.zero_add];refine Qag _ _ _ _ _ _ _ _ _ htg ?_;simp -implicitDefEqProofs only [go_sem,Nat.reduceAdd,Nat.reduceEqDiff,Nat.reduceLT,dw];refine Qag _ _ _ _ _ _ _ _ _ hmg ?_;simp -implicitDefEqProofs only [go_sem,Nat.reduceAdd,Nat.reduceEqDiff,Nat.reduceLT,reduceCtorEq,dw];refine Qaq mixed (fun p:{p:Nat // Q≤p∧p<BW}=>St.of [(8,.int .i64 (s:Int)),(9,dw (digs BW d)),(10,.bs 706 1 0 (N+1)),(11,.int .i64 (k:Int)),(12,.bs 1004 1 0 nq),(13,.int .i64 (i:Int)),(14,.int .u64 (p.1:Int)),(15,.bs 706 1 i (k+1)),(16,dw (digs BW (d*p.1)))]
     [(706,wB (lows BW S (N+1))),(1004,wB (mix BW 0 (R0/d) nq (i+1)))]) (fun p=>p.1) ⟨g,hgQ,hgB⟩ ?_ ?_
    ·refine Qaj (θ:=[(706,706),(1004,1004)]) rfl ?_ ?_
     ·simp [Qac,lkp,ren1,ren0,dw]
     ·simp [Qal,lkp,Box.renames]
    ·rintro⟨p,hp1,hp2⟩;simp only at hp1 hp2 ⊢;have hlp:(digs BW (d*p)).length≤1000000000:=hLd p hp2;have hcm:=Qea W (d*p) (by omega) hlp;simp -implicitDefEqProofs only [go_sem,Nat.reduceAdd,Nat.reduceMul,Nat.reduceEqDiff,Nat.reduceLT,Nat.reduceLeDiff,dw];refine Qb8 _ _ _ _ _ _ _ _ _ htB ?_;simp -implicitDefEqProofs only [go_sem,Nat.reduceAdd,Nat.reduceEqDiff,Nat.reduceLT,reduceIte,wB,List.length_map,hll,b7,hesc];refine Qag _ _ _ _ _ _ _ _ _ hcm ?_;by_cases hlt:W<d*p
     ·have k1:(cmpW W (d*p)<0)=True:=by simp only [eq_iff_iff,iff_true];exact(Qe7 _ _).2 hlt
      have hpQ:Q<p:=by
       rcases Nat.lt_or_ge Q p with h'|h'
       ·exact h'
       ·have:=Nat.mul_le_mul_left d (show p≤Q from h');have:=hQle;omega
      have hsb2:=Qu8 (d*p) d (Nat.le_mul_of_pos_right d (by omega)) hlp;have e6:d*p-d=d*(p-1):=by rw [Nat.mul_sub,Nat.mul_one]
      rw [e6]at hsb2;have w5:IntKind.u64.wrap ((p:Int)-1)=((p-1:Nat):Int):=by rw [Qcc];simp only [BW]at hp2;omega
      simp -implicitDefEqProofs only [go_sem,Nat.reduceAdd,Nat.reduceMul,Nat.reduceEqDiff,Nat.reduceLT,Nat.reduceLeDiff,reduceCtorEq,k1,w5];refine Qag _ _ _ _ _ _ _ _ _ hsb2 ?_;simp -implicitDefEqProofs only [go_sem,Nat.reduceAdd,Nat.reduceEqDiff,Nat.reduceLT,reduceCtorEq,dw];refine⟨⟨p-1,by omega,by omega⟩,by simp only;omega,Qaj (θ:=[(706,706),(1004,1004)]) rfl ?_ ?_⟩
      ·simp [Qac,lkp,ren1,ren0,dw]
      ·simp [Qal,lkp,Box.renames]
     ·have k1:(cmpW W (d*p)<0)=False:=by simp only [eq_iff_iff,iff_false];rw [Qe7];exact hlt
      obtain rfl:p=Q:=Nat.le_antisymm (hQmax p (by omega)) hp1;simp -implicitDefEqProofs only [go_sem,Nat.reduceAdd,Nat.reduceMul,Nat.reduceEqDiff,Nat.reduceLT,Nat.reduceLeDiff,reduceIte,reduceCtorEq,k1];refine Qb8 _ _ _ _ _ _ _ _ _ htB ?_;simp -implicitDefEqProofs only [go_sem,Nat.reduceAdd,Nat.reduceEqDiff,Nat.reduceLT,wB];refine Qb8 _ _ _ _ _ _ _ _ _ hsB ?_;simp -implicitDefEqProofs only [go_sem,Nat.reduceAdd,Nat.reduceMul,Nat.reduceEqDiff,Nat.reduceLT,Nat.reduceLeDiff,reduceIte,reduceCtorEq,wB,List.length_map,hll,b8,b9,List.length_replicate,b11,b12,hmn,hlft,hllf,hlen3,hfl3,htk3,Nat.zero_add,i0,hinq,hgoq,Int.toNat_natCast,w4];refine⟨⟨i,by omega⟩,by simp only;omega,Qaj (θ:=[(706,706),(1004,1004)]) rfl ?_ ?_⟩
      ·simp [Qac,lkp,ren1,ren0,dw]
      ·rw [Qda,hsetq];simp only [Qal,lkp,Box.renames,hfin,if_true,if_false,reduceCtorEq,Nat.reduceEqDiff,and_self,and_true,true_and];exact⟨.inl trivial,.inl trivial⟩
   ·have g5:(((W/BW^k:Nat):Int)<((d/BW^(k-1):Nat):Int))=False:=by simp only [eq_iff_iff,iff_false];omega
    obtain⟨g,hg⟩: ∃g:Nat,g=18446744073709551615:=⟨_,rfl⟩;have hgI:(18446744073709551615:Int)=((g:Nat):Int):=by rw [hg];rfl
    have hgQ:Q≤g:=by rw [hg];simp only [BW]at hQB;omega
    have hgB:g<BW:=by rw [hg];decide
    have htg:=Qdv [g] (by simp [maxLen]);rw [Qkf hgB]at htg;have hmg:=Zai d g (by rw [hdk];have:=(Qar BW_2 g 1).2 (by simpa using hgB);omega);simp -implicitDefEqProofs only [go_sem,Nat.reduceAdd,Nat.reduceMul,Nat.reduceEqDiff,Nat.reduceLT,Nat.reduceLeDiff,reduceCtorEq,dw,wB,hs1,i0,wik,b1,b2,z2,z3,Int.toNat_natCast,←hS,hg1,Qcl,hgd,g5,hgI];refine⟨Qad _ _ (by kernel_rfl),?_⟩;simp -implicitDefEqProofs only [go_sem,Nat.reduceAdd,Nat.reduceMul,Nat.reduceEqDiff,Nat.reduceLT,Nat.reduceLeDiff,reduceIte,reduceCtorEq,b3,b4,b5,wik1,Int.toNat_natCast,hsub,Nat.zero_add];refine Qag _ _ _ _ _ _ _ _ _ htg ?_;simp -implicitDefEqProofs only [go_sem,Nat.reduceAdd,Nat.reduceEqDiff,Nat.reduceLT,dw];refine Qag _ _ _ _ _ _ _ _ _ hmg ?_;simp -implicitDefEqProofs only [go_sem,Nat.reduceAdd,Nat.reduceEqDiff,Nat.reduceLT,reduceCtorEq,dw];refine Qaq mixed (fun p:{p:Nat // Q≤p∧p<BW}=>St.of [(8,.int .i64 (s:Int)),(9,dw (digs BW d)),(10,.bs 706 1 0 (N+1)),(11,.int .i64 (k:Int)),(12,.bs 1004 1 0 nq),(13,.int .i64 (i:Int)),(14,.int .u64 (p.1:Int)),(15,.bs 706 1 i (k+1)),(16,dw (digs BW (d*p.1)))]
     [(706,wB (lows BW S (N+1))),(1004,wB (mix BW 0 (R0/d) nq (i+1)))]) (fun p=>p.1) ⟨g,hgQ,hgB⟩ ?_ ?_
    ·refine Qaj (θ:=[(706,706),(1004,1004)]) rfl ?_ ?_
     ·simp [Qac,lkp,ren1,ren0,dw]
     ·simp [Qal,lkp,Box.renames]
    ·rintro⟨p,hp1,hp2⟩;simp only at hp1 hp2 ⊢;have hlp:(digs BW (d*p)).length≤1000000000:=hLd p hp2;have hcm:=Qea W (d*p) (by omega) hlp;simp -implicitDefEqProofs only [go_sem,Nat.reduceAdd,Nat.reduceMul,Nat.reduceEqDiff,Nat.reduceLT,Nat.reduceLeDiff,dw];refine Qb8 _ _ _ _ _ _ _ _ _ htB ?_;simp -implicitDefEqProofs only [go_sem,Nat.reduceAdd,Nat.reduceEqDiff,Nat.reduceLT,reduceIte,wB,List.length_map,hll,b7,hesc];refine Qag _ _ _ _ _ _ _ _ _ hcm ?_;by_cases hlt:W<d*p
     ·have k1:(cmpW W (d*p)<0)=True:=by simp only [eq_iff_iff,iff_true];exact(Qe7 _ _).2 hlt
      have hpQ:Q<p:=by
       rcases Nat.lt_or_ge Q p with h'|h'
       ·exact h'
       ·have:=Nat.mul_le_mul_left d (show p≤Q from h');have:=hQle;omega
      have hsb2:=Qu8 (d*p) d (Nat.le_mul_of_pos_right d (by omega)) hlp;have e6:d*p-d=d*(p-1):=by rw [Nat.mul_sub,Nat.mul_one]
      rw [e6]at hsb2;have w5:IntKind.u64.wrap ((p:Int)-1)=((p-1:Nat):Int):=by rw [Qcc];simp only [BW]at hp2;omega
      simp -implicitDefEqProofs only [go_sem,Nat.reduceAdd,Nat.reduceMul,Nat.reduceEqDiff,Nat.reduceLT,Nat.reduceLeDiff,reduceCtorEq,k1,w5];refine Qag _ _ _ _ _ _ _ _ _ hsb2 ?_;simp -implicitDefEqProofs only [go_sem,Nat.reduceAdd,Nat.reduceEqDiff,Nat.reduceLT,reduceCtorEq,dw];refine⟨⟨p-1,by omega,by omega⟩,by simp only;omega,Qaj (θ:=[(706,706),(1004,1004)]) rfl ?_ ?_⟩
      ·simp [Qac,lkp,ren1,ren0,dw]
      ·simp [Qal,lkp,Box.renames]
     ·have k1:(cmpW W (d*p)<0)=False:=by simp only [eq_iff_iff,iff_false];rw [Qe7];exact hlt
      obtain rfl:p=Q:=Nat.le_antisymm (hQmax p (by omega)) hp1;simp -implicitDefEqProofs only [go_sem,Nat.reduceAdd,Nat.reduceMul,Nat.reduceEqDiff,Nat.reduceLT,Nat.reduceLeDiff,reduceIte,reduceCtorEq,k1];refine Qb8 _ _ _ _ _ _ _ _ _ htB ?_;simp -implicitDefEqProofs only [go_sem,Nat.reduceAdd,Nat.reduceEqDiff,Nat.reduceLT,wB];refine Qb8 _ _ _ _ _ _ _ _ _ hsB ?_;simp -implicitDefEqProofs only [go_sem,Nat.reduceAdd,Nat.reduceMul,Nat.reduceEqDiff,Nat.reduceLT,Nat.reduceLeDiff,reduceIte,reduceCtorEq,wB,List.length_map,hll,b8,b9,List.length_replicate,b11,b12,hmn,hlft,hllf,hlen3,hfl3,htk3,Nat.zero_add,i0,hinq,hgoq,Int.toNat_natCast,w4];refine⟨⟨i,by omega⟩,by simp only;omega,Qaj (θ:=[(706,706),(1004,1004)]) rfl ?_ ?_⟩
      ·simp [Qac,lkp,ren1,ren0,dw]
      ·rw [Qda,hsetq];simp only [Qal,lkp,Box.renames,hfin,if_true,if_false,reduceCtorEq,Nat.reduceEqDiff,and_self,and_true,true_and];exact⟨.inl trivial,.inl trivial⟩
theorem Zlt (a b:Nat) (hb:0<b) (ha:(digs BW a).length≤100000000) (hbl:(digs BW b).length≤100000000):Qae Tryz.prog 136 [dw (digs BW a),dw (digs BW b)] (.tup [dw (digs BW (a/b)),dw (digs BW (a%b))]):=by
 by_cases h:a<b
 ·exact Zq1 a b h ha hbl
 ·by_cases h1:b<18446744073709551616
  ·exact Zjf a b (by omega) hb h1 ha
  ·refine Zap a b (by omega) ?_ ha;refine(Qck BW_2 b 1).2 ?_;have:=Nat.div_pos (show 18446744073709551616≤b by omega) (by decide);rw [Nat.pow_one];simp only [BW];omega
theorem Qor {a b:Nat} (h:a≤b):(digs BW a).length≤(digs BW b).length:=
 (Qar BW_2 a _).2 (Nat.lt_of_le_of_lt h (Qa2 BW_2 b))
theorem Zue (a b:Nat) (ha:(digs BW a).length≤100000000) (hb:(digs BW b).length≤100000000):Qae Tryz.prog 126 [dw (digs BW a),dw (digs BW b)] (dw (digs BW (Nat.gcd a b))):=by
 refine Qab (tb:=[]) 19 [.tmp 4] [0,1,4,6,9] mixed Tryz.func126 rfl (by kernel_rfl) ?_;simp -implicitDefEqProofs only [go_sem,seval,dw];refine Qaq mixed (fun p:{p:Nat×Nat // Nat.gcd p.1 p.2=Nat.gcd a b∧(digs BW p.1).length≤100000000∧(digs BW p.2).length≤100000000}=>St.of [(0,dw (digs BW p.1.1)),(1,dw (digs BW p.1.2)),(4,.nilS)] []) (fun p=>p.1.2) ⟨(a,b),rfl,ha,hb⟩ ?_ ?_
 ·exact Qaz (by simp [Qac,lkp,ren1,ren0,dw])
 ·rintro⟨⟨x,y⟩,h1,h2,h3⟩;simp only at h1 h2 h3 ⊢;by_cases hy:y=0
  ·subst hy;have g1:((0:Int)<((0:Nat):Int))=False:=by simp
   rw [Nat.gcd_zero_right]at h1;subst h1;simp -implicitDefEqProofs only [go_sem,seval,dw,Qa3,List.map_nil,List.length_nil,g1]
  ·have hp:0<(digs BW y).length:=List.length_pos_iff.2 (mt (Qbo BW_2).1 hy);have g1:((0:Int)<((digs BW y).length:Int))=True:=by simp only [eq_iff_iff,iff_true];omega
   have hd:=Zlt x y (Nat.pos_of_ne_zero hy) h2 h3;have hr:=Nat.mod_lt x (Nat.pos_of_ne_zero hy);simp -implicitDefEqProofs only [go_sem,seval,dw,List.length_map,g1];refine Qag _ _ _ _ _ _ _ _ _ hd ?_;simp -implicitDefEqProofs only [go_sem,seval,dw];refine⟨⟨(y,x%y),by rw [←h1,Nat.gcd_comm x y,Nat.gcd_rec y x,Nat.gcd_comm],h3,Nat.le_trans (Qor (Nat.le_of_lt hr)) h3⟩,by simp only;exact hr,Qaz ?_⟩;simp [Qac,lkp,ren1,ren0,dw]
theorem Zuf (xn yn:Bool) (a b:Nat) (hab:(digs BW a).length+(digs BW b).length≤1000000000):Qae Tryz.prog 135 [nP xn a,nP yn b] (nP (!(xn==yn)) (a*b)):=by
 have h:=Zai a b hab;refine Qab (tb:=[]) 16 [.cell 4 126] [0,1,2,3,4] mixed Tryz.func135 rfl (by kernel_rfl) ?_;repeat (first|simp -implicitDefEqProofs only [go_sem,seval,nP,dw]|(with_reducible refine Qaa h ?_ ?_ ?_);rfl;rfl|(with_reducible exact Qad _ _ (by kernel_rfl)))
theorem Zug (xn yn:Bool) (a b:Nat):sv (!(xn==yn)) (a*b)=sv xn a*sv yn b:=by
 cases xn<;>cases yn<;>simp [sv,Int.natCast_mul,Int.neg_mul,Int.mul_neg]
def nqn (xn:Bool) (a b:Nat):Nat:=if(xn&&decide (0<a%b))=true then a/b+1 else a/b
def nrn (xn:Bool) (a b:Nat):Nat:=if(xn&&decide (0<a%b))=true then b-a%b else a%b
theorem Q3d (xn:Bool) (a b:Nat) (hb:0<b):sv xn (nqn xn a b)=sv xn a/(b:Int)∧((nrn xn a b:Nat):Int)=sv xn a%(b:Int):=by
 have hb':(0:Int)<(b:Int):=by omega
 have h:=Nat.div_add_mod a b;have hr:=Nat.mod_lt a hb;have key:=(Int.ediv_emod_unique (a:=sv xn a) (r:=((nrn xn a b:Nat):Int)) (q:=sv xn (nqn xn a b)) hb').2;refine(fun t=>⟨(key t).1.symm,(key t).2.symm⟩) ?_;have e:((b*(a/b):Nat):Int)+((a%b:Nat):Int)=(a:Int):=by rw [←Int.natCast_add,h]
 rw [Int.natCast_mul]at e;cases xn with
 |false=>
  simp only [sv,nqn,nrn,Bool.false_and,Bool.false_eq_true,if_false];refine⟨by omega,by omega,by omega⟩
 |true=>
  by_cases h0:0<a%b
  ·simp only [sv,nqn,nrn,Bool.true_and,decide_eq_true_eq,h0,if_true];rw [Int.mul_neg,Int.natCast_add,Int.mul_add];generalize (b:Int)*((a/b:Nat):Int)=m at*;refine⟨by omega,by omega,by omega⟩
  ·simp only [sv,nqn,nrn,Bool.true_and,decide_eq_true_eq,h0,if_false,if_true];rw [Int.mul_neg];generalize (b:Int)*((a/b:Nat):Int)=m at*;refine⟨by omega,by omega,by omega⟩
theorem Zuh (xn yn:Bool) (a b:Nat) (hb:0<b):sv (!(xn==yn)) (nqn xn a b)=sv xn a/sv yn b∧((nrn xn a b:Nat):Int)=sv xn a%sv yn b:=by
 obtain⟨h1,h2⟩:=Q3d xn a b hb;have flip: ∀(n:Bool) (m:Nat),sv (!n) m= -(sv n m):=by intro n m;cases n<;>simp [sv]
 cases yn with
 |false=>
  refine⟨?_,by simpa [sv]using h2⟩;have:(!(xn==false))=xn:=by cases xn<;>rfl
  rw [this,h1];simp [sv]
 |true=>
  have:(!(xn==true))= !xn:=by cases xn<;>rfl
  rw [this,flip,h1,h2];simp [sv,Int.ediv_neg,Int.emod_neg]
theorem Zui (xn yn:Bool) (a b:Nat) (hb:0<b) (ha:(digs BW a).length≤100000000) (hbl:(digs BW b).length≤100000000):Qae Tryz.prog 128 [nP xn a,nP yn b] (.tup [nP (!(xn==yn)) (nqn xn a b),nP false (nrn xn a b)]):=by
 have hd:=Zlt a b hb ha hbl;have hr:=Nat.mod_lt a hb;cases xn with
 |false=>
  have e1:nqn false a b=a/b:=by simp [nqn]
  have e2:nrn false a b=a%b:=by simp [nrn]
  rw [e1,e2];refine Qab (tb:=[]) 39 [.cell 4 126,.cell 5 126] [0,1,2,3,4,5,6,7,22] mixed Tryz.func128 rfl (by kernel_rfl) ?_;repeat (first|simp -implicitDefEqProofs only [go_sem,seval,nP,dw]|(with_reducible refine Qaa hd ?_ ?_ ?_);rfl;rfl)
 |true=>
  by_cases h0:a%b=0
  ·have g1:((0:Int)<((0:Nat):Int))=False:=by simp
   have e1:nqn true a b=a/b:=by simp [nqn,h0]
   have e2:nrn true a b=0:=by simp [nrn,h0]
   rw [e1,e2];rw [h0,Qa3]at hd;refine Qab (tb:=[]) 39 [.cell 4 126,.cell 5 126] [0,1,2,3,4,5,6,7,22] mixed Tryz.func128 rfl (by kernel_rfl) ?_;repeat (first|simp -implicitDefEqProofs only [go_sem,seval,nP,dw,Qa3,List.map_nil,List.length_nil,g1]|(with_reducible refine Qaa hd ?_ ?_ ?_);rfl;rfl)
  ·have hp:0<(digs BW (a%b)).length:=List.length_pos_iff.2 (mt (Qbo BW_2).1 h0);have g1:((0:Int)<((digs BW (a%b)).length:Int))=True:=by simp only [eq_iff_iff,iff_true];omega
   have e1:nqn true a b=a/b+1:=by simp only [nqn,Bool.true_and,decide_eq_true_eq];rw [if_pos (by omega)]
   have e2:nrn true a b=b-a%b:=by simp only [nrn,Bool.true_and,decide_eq_true_eq];rw [if_pos (by omega)]
   have hd1:digs BW 1=[1]:=by rw [Qga BW_2 (by decide),show 1%BW=1 from by decide,show 1/BW=0 from by decide,Qa3]
   have hq:=Qor (Nat.div_le_self a b);have had:=Zlu (a/b) 1 (by omega) (by rw [hd1];simp);rw [hd1]at had;have hsb:=Qu8 b (a%b) (Nat.le_of_lt hr) (by omega);rw [e1,e2];refine Qab (tb:=[]) 39 [.cell 4 126,.cell 5 126] [0,1,2,3,4,5,6,7,22] mixed Tryz.func128 rfl (by kernel_rfl) ?_;repeat (first|simp -implicitDefEqProofs only [go_sem,seval,nP,dw,List.length_map,g1,List.map_cons,List.map_nil]|(with_reducible refine Qaa hd ?_ ?_ ?_);rfl;rfl|(with_reducible refine Qaa had ?_ ?_ ?_);rfl;rfl|(with_reducible refine Qaa hsb ?_ ?_ ?_);rfl;rfl|(with_reducible exact Qad _ _ (by kernel_rfl)))
theorem Qoq: ∀l:List Nat,(∀d∈l,d<256)→bnum (l.reverse.map fun d=>UInt8.ofNat d)=val 256 l
 | [],_=>rfl
 |d::r,h=>by
  rw [List.reverse_cons,List.map_append,List.map_cons,List.map_nil,Qnm,Qoq r fun x hx=>h x (by simp [hx])];rw [UInt8.toNat_ofNat_of_lt' (h d (by simp))];simp only [val];omega
theorem Zam (m:Nat):bnum (magL m)=m:=by
 rw [magL,Qoq _ fun d hd=>Qns (by decide) hd,Qrx (by decide)]
theorem Zan {neg:Bool} {l:List UInt8} (h:Qbm neg l=true):magL (bnum l)=l:=by
 have hv:bnum l=val 256 (l.reverse.map UInt8.toNat):=by
  have h2:=Qoq (l.reverse.map UInt8.toNat) (by intro d hd;obtain⟨b,_,rfl⟩:=List.mem_map.1 hd;exact b.toNat_lt);rw [←h2,←List.map_reverse,List.reverse_reverse,List.map_map];congr 1
  conv=>lhs;rw [←List.map_id l]
  apply List.map_congr_left;intro b _;simp
 have ht:Qdl (l.reverse.map UInt8.toNat)=l.reverse.map UInt8.toNat:=by
  refine Q1p ?_;intro d hd;cases l with
  |nil=>simp at hd
  |cons b r=>
   simp at hd;subst hd;simp only [Qbm,Bool.and_eq_true]at h;have hb:b≠0:=by simpa using h.2
   intro e;exact hb (UInt8.toNat_inj.1 (by simpa using e))
 have hd:digs 256 (bnum l)=l.reverse.map UInt8.toNat:=by
  rw [hv,←Qm5 (by decide) _ (by intro d hd;obtain⟨b,_,rfl⟩:=List.mem_map.1 hd;exact b.toNat_lt),ht]
 rw [magL,hd,←List.map_reverse,List.reverse_reverse,List.map_map]
 conv=>rhs;rw [←List.map_id l]
 apply List.map_congr_left;intro b _;simp
theorem Zjc (neg:Bool) (s:ByteArray) (h:Qbm neg s.data.toList=true):decide (wnum neg s<0)=neg:=by
 unfold wnum sv;cases neg with
 |false=>simp
 |true=>
  cases hl:s.data.toList with
  |nil=>rw [hl]at h;simp [Qbm]at h
  |cons b r=>
   rw [hl]at h;simp only [Qbm,Bool.and_eq_true]at h;have hb:b.toNat≠0:=fun e=>by
    have:b≠0:=by simpa using h.2
    exact this (UInt8.toNat_inj.1 (by simpa using e))
   have:=Qoo b r;have hp:0<b.toNat*256^r.length:=Nat.mul_pos (Nat.pos_of_ne_zero hb) (Nat.pow_pos (by decide));simp;omega
theorem Zjd (neg:Bool) (s:ByteArray) (h:Qbm neg s.data.toList=true):wPV (wnum neg s)= .agg [.bool neg,.str s]:=by
 have e:(wnum neg s).natAbs=bnum s.data.toList:=by unfold wnum sv;cases neg<;>simp
 rw [wPV,Zjc neg s h,e,Zan h]
theorem Qc3 (n:Int):wnum (decide (n<0)) ⟨(magL n.natAbs).toArray⟩=n:=by
 unfold wnum sv;rw [show(⟨(magL n.natAbs).toArray⟩:ByteArray).data.toList=magL n.natAbs from rfl,Zam];by_cases h:n<0
 ·simp [h];omega
 ·simp [h];omega
theorem Qx5 (n:Int) (h:(digs 256 n.natAbs).length≤8192):Qbm (decide (n<0)) (magL n.natAbs)=true:=by
 by_cases h0:n.natAbs=0
 ·have:n=0:=by omega
  subst this;simp [magL,Qa3,Qbm]
 ·obtain⟨d,hd,hd2⟩:=Zde h0;have ht:=Qel (B:=256) (by decide) h0;cases hl:magL n.natAbs with
  |nil=>
   have:=Qd6 n.natAbs;rw [hl]at this;exact absurd ((Qbo (by decide)).1 (List.length_eq_zero_iff.1 this.symm)) h0
  |cons b r=>
   have hlen:=Qd6 n.natAbs;rw [hl]at hlen;have hb:b=d:=by
    have h3:(⟨(magL n.natAbs).toArray⟩:ByteArray)[0]? =(magL n.natAbs)[0]? :=by
     rw [Qt8 _ 0 (by show 0<(magL n.natAbs).length;rw [hl];simp)];exact(List.getElem?_eq_getElem _).symm
    rw [hd,hl]at h3;simpa using h3.symm
   simp only [Qbm,Bool.and_eq_true,decide_eq_true_eq];refine⟨by omega,?_⟩;simp only [bne_iff_ne,ne_eq];intro e;rw [hb]at e;subst e;simp at hd2;exact ht.1 hd2.symm
theorem Zuj (an bn:Bool) (a b:ByteArray) (h1:Qbm an a.data.toList=true) (h2:Qbm bn b.data.toList=true) (ha:a.size≤100000) (hb:b.size≤100000):
  Qae Tryz.prog 123 [.agg [.bool an,.str a],.agg [.bool bn,.str b]] (Qjj (wnum an a*wnum bn b)):=by
 have hv:=Qu9 an bn a b;rw [h1,h2,Bool.true_and]at hv;have hL1:=Qhe a ha;have hL2:=Qhe b hb;have hoa:=Qps an a h1 (by omega);have hob:=Qps bn b h2 (by omega);have hm:=Zuf an bn (bnum a.data.toList) (bnum b.data.toList) (by omega);have hL:(digs BW (bnum a.data.toList*bnum b.data.toList)).length≤1000000:=by
  refine Nat.le_trans ((Qar BW_2 _ ((digs BW (bnum a.data.toList)).length+(digs BW (bnum b.data.toList)).length)).2 ?_) (by omega);rw [Nat.pow_add];exact Nat.mul_lt_mul'' (Qa2 BW_2 _) (Qa2 BW_2 _)
 have hw:=Qlh (!(an==bn)) _ hL;rw [Zug,Qir]at hw;rw [wnum,wnum,Qir];refine Qab (tb:=[]) 19 [.cell 4 51,.tmp 5] [0,1,2,3,4,5,9] mixed Tryz.func123 rfl (by kernel_rfl) ?_;repeat (first|simp -implicitDefEqProofs only [go_sem,seval,nP,dw,wPV]|(with_reducible refine Qaa hv ?_ ?_ ?_);rfl;rfl|(with_reducible refine Qaa hoa ?_ ?_ ?_);rfl;rfl|(with_reducible refine Qaa hob ?_ ?_ ?_);rfl;rfl|(with_reducible refine Qaa hm ?_ ?_ ?_);rfl;rfl|(with_reducible refine Qaa hw ?_ ?_ ?_);rfl;rfl|(with_reducible exact Qad _ _ (by kernel_rfl)))
theorem Zuk (an bn:Bool) (a b:ByteArray) (h1:Qbm an a.data.toList=true) (h2:Qbm bn b.data.toList=true) (ha:a.size≤100000) (hb:b.size≤100000):
  Qae Tryz.prog 97 [.agg [.bool an,.str a],.agg [.bool bn,.str b]] (Qjj ((Nat.gcd (bnum a.data.toList) (bnum b.data.toList):Nat):Int)):=by
 have hv:=Qu9 an bn a b;rw [h1,h2,Bool.true_and]at hv;have hL1:=Qhe a ha;have hL2:=Qhe b hb;have hoa:=Qs7 a (by omega);have hob:=Qs7 b (by omega);rw [Qke h1]at hoa;rw [Qke h2]at hob;have hg:=Zue (bnum a.data.toList) (bnum b.data.toList) (by omega) (by omega);have hL:(digs BW (Nat.gcd (bnum a.data.toList) (bnum b.data.toList))).length≤1000000:=by
  rcases Nat.eq_zero_or_pos (bnum a.data.toList)with h0|h0
  ·rw [h0,Nat.gcd_zero_left];omega
  ·exact Nat.le_trans (Qor (Nat.gcd_le_left _ h0)) (by omega)
 have hw:=Qlh false _ hL;have e:sv false (Nat.gcd (bnum a.data.toList) (bnum b.data.toList))=((Nat.gcd (bnum a.data.toList) (bnum b.data.toList):Nat):Int):=rfl;rw [e,Qir]at hw;rw [Qir];refine Qab (tb:=[]) 22 [.cell 4 51,.tmp 5] [0,1,2,3,4,5,9] mixed Tryz.func97 rfl (by kernel_rfl) ?_;repeat (first|simp -implicitDefEqProofs only [go_sem,seval,dw,wPV]|(with_reducible refine Qaa hv ?_ ?_ ?_);rfl;rfl|(with_reducible refine Qaa hoa ?_ ?_ ?_);rfl;rfl|(with_reducible refine Qaa hob ?_ ?_ ?_);rfl;rfl|(with_reducible refine Qaa hg ?_ ?_ ?_);rfl;rfl|(with_reducible refine Qaa hw ?_ ?_ ?_);rfl;rfl|(with_reducible exact Qad _ _ (by kernel_rfl)))
def Zjg (x y:Int):PV:= .tup [wPV (outN (x/y)),wPV (outN (x%y)),.int .i64 0]
theorem Zul (xn:Bool) (a b:Nat):nqn xn a b≤a+1:=by
 have:=Nat.div_le_self a b;unfold nqn;split<;>omega
theorem Zum (xn:Bool) (a b:Nat) (hb:0<b):nrn xn a b≤b:=by
 have:=Nat.mod_lt a hb;unfold nrn;split<;>omega
theorem Zq2 (a:Nat):(digs BW (a+1)).length≤(digs BW a).length+1:=by
 refine(Qar BW_2 _ _).2 ?_;have h:=Qa2 BW_2 a;rw [Nat.pow_succ];generalize BW^(digs BW a).length=M at*;simp only [BW];omega
theorem Zjh {l:List UInt8} (h:l≠ []):(l== [])=false:=by cases l with|nil=>exact absurd rfl h|cons=>rfl
theorem Zun (an bn:Bool) (a b:ByteArray) (h1:Qbm an a.data.toList=true) (h2:Qbm bn b.data.toList=true) (h0:b.data.toList≠ []) (ha:a.size≤100000) (hb:b.size≤100000):
  Qae Tryz.prog 105 [.agg [.bool an,.str a],.agg [.bool bn,.str b]] (Zjg (wnum an a) (wnum bn b)):=by
 have hv:=Qu9 an bn a b;rw [h1,h2,Bool.true_and]at hv;have hL1:=Qhe a ha;have hL2:=Qhe b hb;have hoa:=Qps an a h1 (by omega);have hob:=Qps bn b h2 (by omega);have hbp:0<bnum b.data.toList:=by
  cases hl:b.data.toList with
  |nil=>exact absurd hl h0
  |cons c r=>
   rw [hl]at h2;simp only [Qbm,Bool.and_eq_true]at h2;have hc:c.toNat≠0:=fun e=>by
    have:c≠0:=by simpa using h2.2
    exact this (UInt8.toNat_inj.1 (by simpa using e))
   rw [Qoo];have hp:0<c.toNat*256^r.length:=Nat.mul_pos (Nat.pos_of_ne_zero hc) (Nat.pow_pos (by decide));omega
 have he:=Zjh h0;have hd:=Zui an bn (bnum a.data.toList) (bnum b.data.toList) hbp (by omega) (by omega);obtain⟨d1,d2⟩:=Zuh an bn (bnum a.data.toList) (bnum b.data.toList) hbp;have hq:=Qlh (!(an==bn)) (nqn an (bnum a.data.toList) (bnum b.data.toList)) (Nat.le_trans (Qor (Zul _ _ _)) (Nat.le_trans (Zq2 _) (by omega)));have hr:=Qlh false (nrn an (bnum a.data.toList) (bnum b.data.toList)) (Nat.le_trans (Qor (Zum _ _ _ hbp)) (by omega));have e2:sv false (nrn an (bnum a.data.toList) (bnum b.data.toList))=((nrn an (bnum a.data.toList) (bnum b.data.toList):Nat):Int):=rfl;rw [d1,Qir]at hq;rw [e2,d2,Qir]at hr;unfold Zjg wnum;refine Qab (tb:=[]) 40 [.cell 4 51,.cell 5 51,.tmp 6] [0,1,2,3,4,5,6,7,8,12,17] mixed Tryz.func105 rfl (by kernel_rfl) ?_;repeat (first|simp -implicitDefEqProofs only [go_sem,seval,he,nP,dw,wPV]|(with_reducible refine Qaa hv ?_ ?_ ?_);rfl;rfl|(with_reducible refine Qaa hoa ?_ ?_ ?_);rfl;rfl|(with_reducible refine Qaa hob ?_ ?_ ?_);rfl;rfl|(with_reducible refine Qaa hd ?_ ?_ ?_);rfl;rfl|(with_reducible refine Qaa hq ?_ ?_ ?_);rfl;rfl|(with_reducible refine Qaa hr ?_ ?_ ?_);rfl;rfl|(with_reducible exact Qad _ _ (by kernel_rfl))|(with_reducible refine And.intro (Qad _ _ (by kernel_rfl)) ?_))
end Go.Proofs.YtlghoaggenhheaaGreat

namespace Go.Dg
theorem p256 (k:Nat):(256:Nat)^k=2^(8*k):=by rw [show(256:Nat)=2^8 from rfl,←Nat.pow_mul]
theorem Qny {m B k:Nat} (h:m<2^B) (hk:B≤8*k):m<256^k:=by
 rw [p256];exact Nat.lt_of_lt_of_le h (Nat.pow_le_pow_right (by decide) hk)
theorem Qd4 {m B C:Nat} (h:m<2^B) (hk:B≤C):m<2^C:=Nat.lt_of_lt_of_le h (Nat.pow_le_pow_right (by decide) hk)
theorem Qaw {m B:Nat} (h:m<2^B) (hk:B≤65536):m<2^65536:=Qd4 (C:=65536) h hk
theorem Qbk {m B:Nat} (h:m<2^B) (hk:B≤7000000):m<2^7000000:=Qd4 (C:=7000000) h hk
theorem Zcy {m B:Nat} (h:m<2^B) (hk:B≤8000000):m<2^8000000:=Qd4 (C:=8000000) h hk
end Go.Dg

namespace Go.Proofs.YtlghoaggenhheaaGreat
open Go.Vl Go.RowKit Go.Dg
def big (x y:Int):Bool:=decide (65536<blen x.natAbs)||decide (65536<blen y.natAbs)
theorem Zuo (n:Bool) (m:Nat):(sv n m).natAbs=m:=by cases n<;>simp [sv]
theorem Qs5 (n:Int):(magL n.natAbs=[])↔n=0:=by
 have h:=Qd6 n.natAbs;constructor
 ·intro e;rw [e]at h;have:=(Qbo (B:=256) (by decide)).1 (List.length_eq_zero_iff.1 h.symm);omega
 ·rintro rfl;simp [magL,Qa3]
theorem Zmt (r d:Nat) (hd:d<E9):Qdl (d::digs E9 r)=digs E9 (r*E9+d):=by
 rw [Qm5 E9_2 (d::digs E9 r) (by
  intro x hx;rcases List.mem_cons.1 hx with rfl|hx
  ·exact hd
  ·exact Qns E9_2 hx)]
 congr 1;simp only [val,Qrx E9_2];rw [Nat.mul_comm,Nat.add_comm]
theorem Zdf (V N i:Nat) (hi:i<N) (h:V/E9^i%E9=0):mix E9 0 V N (i+1)=mix E9 0 V N i:=by
 have h1:=Qjz (B:=E9) (V:=0) (S:=V) (N:=N) (i:=i) (d:=0) hi h;rw [←h1];apply List.ext_getElem?;intro j;rw [List.getElem?_set];by_cases e:i=j
 ·subst e;simp only [if_true];rw [if_pos (by rw [Qbl];exact hi),Qc1 _ _ _ _ _ hi,if_pos (by omega)];simp
 ·simp [e]
theorem app1 (d:Nat) (D:List PV) (bx:Bx) (hb:bx 606=none) (h4:bx 604=some {els:=[.int .i64 (d:Int)],esz:=1,ety:=3,fro:=0,live:=true,arr:=true}) (hD:D.length≤1000000000) (hok:D.all (fun e=>e.cells.length==1&&e.cells.all PV.okCell)=true):
  Qbb Tryz.prog [] 606 (.call ⟨.builtin .append, #[.tmp 26,.tmp 27], #[26,26]⟩) [.bs 604 1 0 1,.slc D] bx=
   some (.done (.bs 606 1 0 (1+D.length)) [.kill 604,.new 606 {els:= .int .i64 (d:Int)::D,esz:=1,ety:=3,fro:=0,live:=true,arr:=true}],[(606,true),(604,true)]):=by
 have c1:((1+D.length)*8≤140737488355328)=True:=by simp only [eq_iff_iff,iff_true];omega
 have c2:(1+D.length≤maxLen)=True:=by simp only [eq_iff_iff,iff_true];unfold maxLen;omega
 skip
 simp -implicitDefEqProofs only [go_sem,seval,hok,c1,c2,hb,h4]
theorem Zmu {P:Program} (id:Nat) (bx:Bx) (fo:Operand) (as0:Array Operand) (ts:Array TypeId) (f b esz len:Nat) (B:Box) (xs:List PV) (hB:bx b=some B) (ha:B.arr=true) (he:B.esz=esz) (hx:B.els=xs) (hl:len=xs.length):
  Qbb P [] id (.call ⟨.value fo,as0,ts⟩) [.fn f [] [],.bs b esz 0 len] bx=some (.call f [.slc xs] [.fro b len],[(b,false),(b,false)]):=by
 subst hx;subst hl;subst he;rw [Zca];have e1:(true&&B.soft.esz==B.esz&&decide (B.els.length≤B.soft.els.length))=true:=by simp [Box.soft,ha]
 have hs:B.soft.arr=true:=by simp [Box.soft,ha]
 have e2:(List.drop 0 B.soft.els).take B.els.length=B.els:=by rw [List.drop_zero];exact List.take_of_length_le (Nat.le_refl _)
 have h0:esc0 (.bs b B.esz 0 B.els.length) bx=some ((.slc B.els,[.fro b B.els.length]),[(b,false),(b,false)]):=by
  simp only [esc0,escS,M.bind,M.soft,hB,hs,M.ok,Nat.zero_add,e1,if_true,M.pure,List.nil_append,List.append_nil,e2,List.cons_append]
 have h1:Qg1 [.bs b B.esz 0 B.els.length] bx=some (([.slc B.els],[.fro b B.els.length]),[(b,false),(b,false)]):=by
  simp only [Qg1,esc1,escC,M.bind,h0,M.pure,List.nil_append,List.append_nil]
 simp only [M.bind,Qf6,M.pure,h1,List.nil_append,List.append_nil]
set_option maxHeartbeats 1000000 in
theorem Q5z (a b:Nat) (hb:0<b) (ha:(digs E9 a).length≤10000000) (hbl:(digs E9 b).length≤10000000):Qae Tryz.prog 100 [di (digs E9 a),di (digs E9 b)] (.tup [di (digs E9 (a/b)),di (digs E9 (a%b))]):=by
 refine Qab (tb:=[]) 63 [.tmp 4,.tmp 5] [0,1,4,5,6,7,8,9,10,11,19,33,36,47] mixed Tryz.func100 rfl (by kernel_rfl) ?_;have hn0:((0:Int)≤((digs E9 a).length:Int))=True:=by simp
 have hn1:((8:Nat):Int)*((digs E9 a).length:Int)≤281474976710656:=by omega
 have hn2:((digs E9 a).length:Int)≤9223372036854775807:=by omega
 have hlt:a<E9^(digs E9 a).length:=Qa2 E9_2 a;have hw:IntKind.i64.wrap (((digs E9 a).length:Int)-1)=((digs E9 a).length:Int)-1:=Qai (by omega) (by omega);simp -implicitDefEqProofs only [go_sem,Nat.reduceAdd,Nat.reduceMul,Nat.reduceEqDiff,Nat.reduceLT,Nat.reduceLeDiff,reduceCtorEq,di,List.length_map,hn0,hn1,hn2,Int.toNat_natCast,hw];generalize hN:(digs E9 a).length=N at*;have hrep:List.replicate N (PV.int .i64 0)=(mix E9 0 (a/b) N N).map fI:=by rw [Qm4,Quk];simp
 rw [hrep];refine Qaq mixed (fun i:{i:Nat // i≤N}=>St.of [(0,di (digs E9 a)),(1,di (digs E9 b)),(6,.bs 102 1 0 N),(7,di (digs E9 (a/E9^i.1%b))),(8,.int .i64 ((i.1:Int)-1))]
  [(102,{els:=(mix E9 0 (a/b) N i.1).map fI,esz:=1,ety:=3,fro:=0,live:=true,arr:=true})]) (fun i=>i.1) ⟨N,Nat.le_refl _⟩ ?_ ?_
 ·refine Le.trans (Qy9 7 rfl) (Qaj (θ:=[(102,102)]) rfl ?_ ?_)
  ·simp [Qac,lkp,ren1,ren0,di,Nat.div_eq_of_lt hlt,Qa3]
  ·simp [Qal,lkp,Box.renames]
 ·rintro⟨i,hi⟩;cases i with
  |zero=>
   have h1:((0:Int)≤((0:Nat):Int)-1)=False:=by simp
   have hll:=Qak (B:=E9) (a/b) N;have htk:((lows E9 (a/b) N).map fI).take N=(lows E9 (a/b) N).map fI:=List.take_of_length_le (by simp [hll]);have e0:a/E9^0%b=a%b:=by rw [Nat.pow_zero,Nat.div_one]
   simp -implicitDefEqProofs only [go_sem,Nat.reduceAdd,Nat.reduceMul,Nat.reduceEqDiff,Nat.reduceLT,Nat.reduceLeDiff,reduceIte,reduceCtorEq,h1,Qif,List.length_map,hll,htk];refine Qag _ _ _ _ _ _ _ _ _ (Qlb (lows E9 (a/b) N) (by rw [hll];simp [maxLen];omega)) ?_;simp -implicitDefEqProofs only [go_sem,Nat.reduceAdd,Nat.reduceEqDiff,Nat.reduceLT,reduceCtorEq,di,e0];rw [Qbt E9_2,Nat.mod_eq_of_lt (Nat.lt_of_le_of_lt (Nat.div_le_self _ _) hlt)]
  |succ i=>
   have hs:(((i+1:Nat):Int)-1)=(i:Int):=by omega
   have h1:((0:Int)≤(i:Int))=True:=by simp
   have h2:((i:Int)<(N:Int))=True:=by simp;omega
   have hga:=Qat E9_2 (show i<(digs E9 a).length by omega);have e0:a/E9^(i+1)=a/E9^i/E9:=by rw [Nat.pow_succ,Nat.div_div_eq_div_mul]
   obtain⟨s1,s2⟩:=Qqh (a/E9^i) b E9 (by decide) hb;have e1:a/E9^i/b=a/b/E9^i:=by rw [Nat.div_div_eq_div_mul,Nat.div_div_eq_div_mul,Nat.mul_comm]
   rw [←e0]at s1 s2;rw [e1]at s1;have hset:=Qjz (B:=E9) (V:=0) (S:=a/b) (N:=N) (i:=i) (d:=a/b/E9^i%E9) (by omega) rfl;have hsame:=Zdf (a/b) N i (by omega);have hml:=Qbl (B:=E9) 0 (a/b) N (i+1);obtain⟨e,hgo⟩: ∃e:Nat,((mix E9 0 (a/b) N (i+1)).map fI)[i]? =some (PV.int .i64 (e:Int)):=⟨_,by rw [List.getElem?_map,Qc1 _ _ _ _ _ (by omega)];rfl⟩;have hdl:a/E9^i%E9<E9:=Nat.mod_lt _ (by decide);have hrl:a/E9^(i+1)%b<b:=Nat.mod_lt _ hb;have hup:=Zmt (a/E9^(i+1)%b) (a/E9^i%E9) hdl;have hL1:(digs E9 (a/E9^(i+1)%b)).length≤10000000:=Nat.le_trans (Qqs (Nat.le_of_lt hrl)) hbl;have w4:IntKind.i64.wrap ((i:Int)-1)=(i:Int)-1:=Qai (by omega) (by omega);generalize a/E9^i%E9=d at*;generalize a/E9^(i+1)%b=ρ at*;have ht:=Qlb (d::digs E9 ρ) (by rw [List.length_cons];unfold maxLen;omega);rw [hup,di,List.map_cons]at ht;have hL2:(digs E9 (ρ*E9+d)).length≤10000001:=by
    refine Nat.le_trans ((Qar E9_2 _ ((digs E9 b).length+1)).2 ?_) (Nat.succ_le_succ hbl);have h5:=Nat.mul_le_mul_right E9 (show ρ+1≤b from hrl);have h6:=Nat.mul_lt_mul_of_pos_right (Qa2 E9_2 b) (show 0<E9 by decide);rw [Nat.add_mul,Nat.one_mul]at h5;rw [Nat.pow_succ];exact Nat.lt_trans (Nat.lt_of_lt_of_le (Nat.add_lt_add_left hdl _) h5) h6
   have c1:((1+(digs E9 ρ).length)*8≤140737488355328)=True:=by simp only [eq_iff_iff,iff_true];omega
   have c2:(1+(digs E9 ρ).length≤maxLen)=True:=by simp only [eq_iff_iff,iff_true];unfold maxLen;omega
   have hok:((digs E9 ρ).map fI).all (fun e=>e.cells.length==1&&e.cells.all PV.okCell)=true:=by rw [List.all_map,List.all_eq_true];intro _ _;rfl
   have hor:=Qsh (ρ*E9+d) b (by omega);have c3:(1+(digs E9 ρ).length≤(digs E9 ρ).length+1)=True:=by simp only [eq_iff_iff,iff_true];omega
   have c4:List.take (1+(digs E9 ρ).length) (PV.int .i64 (d:Int)::(digs E9 ρ).map fI)=PV.int .i64 (d:Int)::(digs E9 ρ).map fI:=List.take_of_length_le (by rw [List.length_cons,List.length_map,Nat.add_comm];exact Nat.le_refl _);generalize hR:ρ*E9+d=R at*;generalize digs E9 ρ=D at*;have hap:=fun(bx:Bx) h1 h2=>app1 d (D.map fI) bx h1 h2 (by rw [List.length_map];omega) hok;rw [List.length_map]at hap;have hca:=fun(bx:Bx) hB=>Zmu (P:=Tryz.prog) 607 bx (.func 88) #[.tmp 28] #[26] 88 606 1 (1+D.length) {els:= .int .i64 (d:Int)::D.map fI,esz:=1,ety:=3,fro:=0,live:=true,arr:=true} (.int .i64 (d:Int)::D.map fI) hB rfl rfl rfl (by rw [List.length_cons,List.length_map,Nat.add_comm]);simp -implicitDefEqProofs only [go_sem,Nat.reduceAdd,Nat.reduceMul,Nat.reduceEqDiff,Nat.reduceLT,Nat.reduceLeDiff,reduceCtorEq,di,hs,h1,Qfl,hga,Int.toNat_natCast,hap,hca];refine Qag _ _ _ _ _ _ _ _ _ ht ?_;simp -implicitDefEqProofs only [go_sem,Nat.reduceAdd,Nat.reduceMul,Nat.reduceEqDiff,Nat.reduceLT,Nat.reduceLeDiff,reduceCtorEq,di];refine Qag _ _ _ _ _ _ _ _ _ hor ?_;by_cases hc:R<b
   ·have hc':(cmpN R b<0)=True:=by rw [Qr0 hc];simp
    have hq0:R/b=0:=Nat.div_eq_of_lt hc;rw [hq0]at s1;rw [Nat.mod_eq_of_lt hc]at s2;simp -implicitDefEqProofs only [go_sem,Nat.reduceAdd,Nat.reduceMul,Nat.reduceEqDiff,Nat.reduceLT,Nat.reduceLeDiff,reduceIte,reduceCtorEq,hc',w4];refine⟨⟨i,by omega⟩,by simp only;omega,Qaj (θ:=[(102,102)]) rfl ?_ ?_⟩
    ·simp [Qac,lkp,ren1,ren0,di,←s2]
    ·simp [Qal,lkp,Box.renames,hsame s1.symm]
   ·have hc':(cmpN R b<0)=False:=by simp [cmpN];omega
    have hQ:R/b<E9:=by
     rw [Nat.div_lt_iff_lt_mul hb,←hR,Nat.mul_comm E9];have:=Nat.mul_le_mul_right E9 (show ρ+1≤b from hrl);rw [Nat.add_mul]at this;omega
    simp -implicitDefEqProofs only [go_sem,Nat.reduceAdd,Nat.reduceMul,Nat.reduceEqDiff,Nat.reduceLT,Nat.reduceLeDiff,reduceCtorEq,hc'];refine Qaq mixed (fun p:{p:Nat×Nat // p.1≤R/b∧R/b≤p.2∧p.2<E9}=>St.of [(0,di (digs E9 a)),(1,di (digs E9 b)),(6,.bs 102 1 0 N),(7,di (digs E9 R)),(8,.int .i64 (i:Int)),(9,.int .i64 (p.1.1:Int)),(10,.int .i64 (p.1.2:Int))]
     [(102,{els:=(mix E9 0 (a/b) N (i+1)).map fI,esz:=1,ety:=3,fro:=0,live:=true,arr:=true})]) (fun p=>p.1.2-p.1.1) ⟨(0,999999999),Nat.zero_le _,by simp only [E9]at hQ;omega,by decide⟩ ?_ ?_
    ·refine Qaj (θ:=[(102,102)]) rfl ?_ ?_
     ·simp [Qac,lkp,ren1,ren0,di]
     ·simp [Qal,lkp,Box.renames]
    ·rintro⟨⟨lo,hi⟩,p1,p2,p3⟩;simp only at p1 p2 p3 ⊢;simp only [E9]at p3;by_cases hlh:lo<hi
     ·have g1:((lo:Int)<(hi:Int))=True:=by simp;omega
      have w1:=Qcr (a:=lo) (b:=hi) (by omega);have w2:=Qah (a:=lo+hi) (by omega);have t2:Int.tdiv ((lo+hi+1:Nat):Int) 2=(((lo+hi+1)/2:Nat):Int):=rfl;have w3:=wrapn (n:=(lo+hi+1)/2) (by omega);generalize hmid:(lo+hi+1)/2=mid at*;have hsm:=Qzw b mid (by simp only [E9];omega) (by omega);have hLb:(digs E9 (b*mid)).length≤1000000000:=by
       refine Nat.le_trans ((Qar E9_2 _ ((digs E9 b).length+1)).2 ?_) (show(digs E9 b).length+1≤1000000000 by omega);rw [Nat.pow_succ];exact Nat.mul_lt_mul_of_lt_of_le (Qa2 E9_2 b) (show mid≤E9 by simp only [E9];omega) (by decide)
      have ho:=Qsh (b*mid) R hLb;have hiff:b*mid≤R↔mid≤R/b:=by rw [Nat.le_div_iff_mul_le hb,Nat.mul_comm]
      simp -implicitDefEqProofs only [go_sem,Nat.reduceAdd,Nat.reduceMul,Nat.reduceEqDiff,Nat.reduceLT,Nat.reduceLeDiff,reduceCtorEq,Int.reduceEq,di,g1,w1,w2,t2,w3];refine Qag _ _ _ _ _ _ _ _ _ hsm ?_;simp -implicitDefEqProofs only [go_sem,Nat.reduceAdd,Nat.reduceEqDiff,Nat.reduceLT,reduceCtorEq,di];refine Qag _ _ _ _ _ _ _ _ _ ho ?_;by_cases hm:b*mid≤R
      ·have g2:(cmpN (b*mid) R≤0)=True:=by simp [cmpN];omega
       have hm2:=hiff.1 hm;simp -implicitDefEqProofs only [go_sem,Nat.reduceAdd,Nat.reduceMul,Nat.reduceEqDiff,Nat.reduceLT,Nat.reduceLeDiff,reduceCtorEq,g2];refine⟨⟨(mid,hi),hm2,p2,by simp only [E9];omega⟩,by simp only;omega,Qaj (θ:=[(102,102)]) rfl ?_ ?_⟩
       ·simp [Qac,lkp,ren1,ren0,di]
       ·simp [Qal,lkp,Box.renames]
      ·have g2:(cmpN (b*mid) R≤0)=False:=by simp [cmpN];omega
       have hm2:=mt hiff.2 hm;have w5:IntKind.i64.wrap ((mid:Int)-1)=((mid-1:Nat):Int):=by rw [Qai (by omega) (by omega)];omega
       simp -implicitDefEqProofs only [go_sem,Nat.reduceAdd,Nat.reduceMul,Nat.reduceEqDiff,Nat.reduceLT,Nat.reduceLeDiff,reduceCtorEq,g2,w5];refine⟨⟨(lo,mid-1),p1,by simp only;omega,by simp only [E9];omega⟩,by simp only;omega,Qaj (θ:=[(102,102)]) rfl ?_ ?_⟩
       ·simp [Qac,lkp,ren1,ren0,di]
       ·simp [Qal,lkp,Box.renames]
     ·have g1:((lo:Int)<(hi:Int))=False:=by simp;omega
      obtain rfl:lo=R/b:=by omega
      have hsm:=Qzw b (R/b) hQ (by omega);have hle:b*(R/b)≤R:=Nat.mul_div_le R b;have hmi:=Qsi R (b*(R/b)) hle (by omega);have e3:R-b*(R/b)=R%b:=by have:=Nat.div_add_mod R b;omega
      rw [e3,s2]at hmi;rw [←s1]at hset;simp -implicitDefEqProofs only [go_sem,Nat.reduceAdd,Nat.reduceMul,Nat.reduceEqDiff,Nat.reduceLT,Nat.reduceLeDiff,reduceIte,reduceCtorEq,g1,di,h1,h2,Int.toNat_natCast,List.length_map,hml,hgo];refine Qag _ _ _ _ _ _ _ _ _ hsm ?_;simp -implicitDefEqProofs only [go_sem,Nat.reduceAdd,Nat.reduceEqDiff,Nat.reduceLT,reduceCtorEq,di];refine Qag _ _ _ _ _ _ _ _ _ hmi ?_;simp -implicitDefEqProofs only [go_sem,Nat.reduceAdd,Nat.reduceMul,Nat.reduceEqDiff,Nat.reduceLT,Nat.reduceLeDiff,reduceCtorEq,di,w4];refine⟨⟨i,by omega⟩,by simp only;omega,Qaj (θ:=[(102,102)]) rfl ?_ ?_⟩
      ·simp [Qac,lkp,ren1,ren0,di]
      ·rw [Qzt,hset];simp [Qal,lkp,Box.renames]
theorem Q50 (a b:Nat):(digs E9 (a*b)).length≤(digs E9 a).length+(digs E9 b).length:=by
 refine(Qar E9_2 _ _).2 ?_;rw [Nat.pow_add];exact Nat.mul_lt_mul'' (Qa2 E9_2 _) (Qa2 E9_2 _)
theorem Qod (a b k:Nat) (h1:(digs E9 a).length≤k) (h2:(digs E9 b).length≤k):(digs E9 (a+b)).length≤k+1:=by
 rw [Qar E9_2]at h1 h2 ⊢;rw [Nat.pow_succ];generalize E9^k=K at*;simp only [E9];omega
theorem Zmv (x y:Int) (hy:y≠0):(0≤x-Int.tdiv x y*y→Int.tdiv x y=x/y∧x-Int.tdiv x y*y=x%y)∧
  (x-Int.tdiv x y*y<0→(if 0<y then Int.tdiv x y-1 else Int.tdiv x y+1)=x/y∧x-(if 0<y then Int.tdiv x y-1 else Int.tdiv x y+1)*y=x%y):=by
 have h1:y*Int.tdiv x y+Int.tmod x y=x:=Int.mul_tdiv_add_tmod x y;have h2:=Int.natAbs_tmod x y;have h3:=Nat.mod_lt x.natAbs (show 0<y.natAbs by omega);rw [←h2]at h3;generalize Int.tdiv x y=q at*;generalize Int.tmod x y=r at*;have e:q*y=y*q:=Int.mul_comm _ _;have key: ∀q' r':Int,r'+y*q'=x→0≤r'→r'<y.natAbs→q'=x/y∧r'=x%y:=by
  intro q' r' a1 a2 a3;rcases Int.lt_or_gt_of_ne hy with hn|hp
  ·have:=(Int.ediv_emod_unique' (a:=x) (b:=y) (r:=r') (q:=q') hn).2 ⟨a1,a2,by omega⟩;exact⟨this.1.symm,this.2.symm⟩
  ·have:=(Int.ediv_emod_unique (a:=x) (b:=y) (r:=r') (q:=q') hp).2 ⟨a1,a2,by omega⟩;exact⟨this.1.symm,this.2.symm⟩
 rw [e];constructor
 ·intro h0;exact key q (x-y*q) (by omega) h0 (by omega)
 ·intro h0;by_cases hp:0<y
  ·rw [if_pos hp];have e2:(q-1)*y=y*q-y:=by rw [Int.sub_mul,Int.one_mul,e]
   have e3:y*(q-1)=y*q-y:=by rw [Int.mul_comm,e2]
   exact key (q-1) (x-(q-1)*y) (by omega) (by omega) (by omega)
  ·rw [if_neg hp];have e2:(q+1)*y=y*q+y:=by rw [Int.add_mul,Int.one_mul,e]
   have e3:y*(q+1)=y*q+y:=by rw [Int.mul_comm,e2]
   exact key (q+1) (x-(q+1)*y) (by omega) (by omega) (by omega)
theorem Zmw {a b:Nat} (h:a≤b):(digs E9 a).length≤(digs E9 b).length:=Qqs h
theorem Q1u (x y:Int):(if(!(decide (x<0)==decide (y<0)))=true then -((x.natAbs/y.natAbs:Nat):Int)else((x.natAbs/y.natAbs:Nat):Int))=Int.tdiv x y:=by
 cases x with
 |ofNat m=>cases y with
  |ofNat n=>
   have h1: ¬Int.ofNat m<0:=by simp
   have h2: ¬Int.ofNat n<0:=by simp
   simp only [h1,h2,decide_false,beq_self_eq_true,Bool.not_true,Bool.false_eq_true,if_false];rfl
  |negSucc n=>
   have h1: ¬Int.ofNat m<0:=by simp
   have h2:Int.negSucc n<0:=Int.negSucc_lt_zero n;simp only [h1,h2,decide_false,decide_true,Bool.false_beq,Bool.not_true,Bool.not_false,if_true];rfl
 |negSucc m=>cases y with
  |ofNat n=>
   have h1:Int.negSucc m<0:=Int.negSucc_lt_zero m;have h2: ¬Int.ofNat n<0:=by simp
   simp only [h1,h2,decide_false,decide_true,Bool.true_beq,Bool.not_false,if_true];rfl
  |negSucc n=>
   have h1:Int.negSucc m<0:=Int.negSucc_lt_zero m;have h2:Int.negSucc n<0:=Int.negSucc_lt_zero n;simp only [h1,h2,decide_true,beq_self_eq_true,Bool.not_true,Bool.false_eq_true,if_false];rfl
set_option maxHeartbeats 1000000 in
theorem Zsm (x y:Int) (hy:y≠0) (hx:(digs E9 x.natAbs).length≤1000000) (hyl:(digs E9 y.natAbs).length≤1000000):Qae Tryz.prog 91 [rI x,rI y] (.tup [rI (x/y),rI (x%y)]):=by
 have ho:=Q5z x.natAbs y.natAbs (by omega) (by omega) (by omega);have hm:=Qgu (!(decide (x<0)==decide (y<0))) (x.natAbs/y.natAbs);rw [Q1u]at hm;have hql:(digs E9 (Int.tdiv x y).natAbs).length≤1000000:=by
  rw [Int.natAbs_tdiv];exact Nat.le_trans (Zmw (Nat.div_le_self _ _)) hx
 have h1l:(digs E9 1).length≤1000000:=Nat.le_trans (Q52 (by decide)) (by decide);obtain⟨f1,f2⟩:=Zmv x y hy;have hnum:=Qdg 1 (by decide) (by decide);generalize hq:Int.tdiv x y=q at*;have hmq:(digs E9 (q*y).natAbs).length≤2000000:=by rw [Int.natAbs_mul];have:=Q50 q.natAbs y.natAbs;omega
 have m1:=Qzx q y (by omega);have s1:=Qqt x (q*y) (Nat.le_trans (Qod _ _ 2000000 (by omega) hmq) (by decide));have g1:=Qsj (x-q*y);have g2:=Qsj y;by_cases h0:x-q*y<0
 ·have c1:((x-q*y).sign<0)=True:=by simp only [eq_iff_iff,iff_true];rw [Int.sign_eq_neg_one_of_neg h0];decide
  obtain⟨e1,e2⟩:=f2 h0;by_cases hp:0<y
  ·have c2:(0<y.sign)=True:=by simp only [eq_iff_iff,iff_true];rw [Int.sign_eq_one_of_pos hp];decide
   rw [if_pos hp]at e1 e2;have s2:=Qqt q 1 (Nat.le_trans (Qod _ _ 1000000 hql h1l) (by decide));have hq2:(digs E9 (q-1).natAbs).length≤1000001:=Nat.le_trans (Zmw (show(q-1).natAbs≤q.natAbs+1 by omega)) (Qod _ _ 1000000 hql h1l);have m2:=Qzx (q-1) y (by omega);have hmq2:(digs E9 ((q-1)*y).natAbs).length≤2000001:=by rw [Int.natAbs_mul];have:=Q50 (q-1).natAbs y.natAbs;omega
   have s3:=Qqt x ((q-1)*y) (Nat.le_trans (Qod _ _ 2000001 (by omega) hmq2) (by decide));rw [e1]at s2 m2 s3;rw [e1]at e2;rw [e2]at s3;generalize x-q*y=r at*;generalize q*y=p at*;generalize x/y*y=p2 at*;generalize x/y=Q at*;generalize x%y=R at*;generalize x.natAbs/y.natAbs=n1 at*;generalize x.natAbs%y.natAbs=n2 at*;refine Qab (tb:=[]) 50 [.cell 4 59,.cell 5 59] [0,1,2,3,4,5,6,7,8,9,32,35] mixed Tryz.func91 rfl (by kernel_rfl) ?_;repeat (first|simp -implicitDefEqProofs only [go_sem,seval,rI,di,c1,c2]|(with_reducible refine Qaa ho ?_ ?_ ?_);rfl;rfl|(with_reducible refine Qaa hm ?_ ?_ ?_);rfl;rfl|(with_reducible refine Qaa m1 ?_ ?_ ?_);rfl;rfl|(with_reducible refine Qaa s1 ?_ ?_ ?_);rfl;rfl|(with_reducible refine Qaa g1 ?_ ?_ ?_);rfl;rfl|(with_reducible refine Qaa g2 ?_ ?_ ?_);rfl;rfl|(with_reducible refine Qaa hnum ?_ ?_ ?_);rfl;rfl|(with_reducible refine Qaa s2 ?_ ?_ ?_);rfl;rfl|(with_reducible refine Qaa m2 ?_ ?_ ?_);rfl;rfl|(with_reducible refine Qaa s3 ?_ ?_ ?_);rfl;rfl|(with_reducible exact Qad _ _ (by kernel_rfl))|(with_reducible refine And.intro (Qad _ _ (by kernel_rfl)) ?_))
  ·have c2:(0<y.sign)=False:=by simp only [eq_iff_iff,iff_false];rw [Int.sign_eq_neg_one_of_neg (by omega)];decide
   rw [if_neg hp]at e1 e2;have s2:=Q51 q 1 (Nat.le_trans (Qod _ _ 1000000 hql h1l) (by decide));have hq2:(digs E9 (q+1).natAbs).length≤1000001:=Nat.le_trans (Zmw (show(q+1).natAbs≤q.natAbs+1 by omega)) (Qod _ _ 1000000 hql h1l);have m2:=Qzx (q+1) y (by omega);have hmq2:(digs E9 ((q+1)*y).natAbs).length≤2000001:=by rw [Int.natAbs_mul];have:=Q50 (q+1).natAbs y.natAbs;omega
   have s3:=Qqt x ((q+1)*y) (Nat.le_trans (Qod _ _ 2000001 (by omega) hmq2) (by decide));rw [e1]at s2 m2 s3;rw [e1]at e2;rw [e2]at s3;generalize x-q*y=r at*;generalize q*y=p at*;generalize x/y*y=p2 at*;generalize x/y=Q at*;generalize x%y=R at*;generalize x.natAbs/y.natAbs=n1 at*;generalize x.natAbs%y.natAbs=n2 at*;refine Qab (tb:=[]) 50 [.cell 4 59,.cell 5 59] [0,1,2,3,4,5,6,7,8,9,32,35] mixed Tryz.func91 rfl (by kernel_rfl) ?_;repeat (first|simp -implicitDefEqProofs only [go_sem,seval,rI,di,c1,c2]|(with_reducible refine Qaa ho ?_ ?_ ?_);rfl;rfl|(with_reducible refine Qaa hm ?_ ?_ ?_);rfl;rfl|(with_reducible refine Qaa m1 ?_ ?_ ?_);rfl;rfl|(with_reducible refine Qaa s1 ?_ ?_ ?_);rfl;rfl|(with_reducible refine Qaa g1 ?_ ?_ ?_);rfl;rfl|(with_reducible refine Qaa g2 ?_ ?_ ?_);rfl;rfl|(with_reducible refine Qaa hnum ?_ ?_ ?_);rfl;rfl|(with_reducible refine Qaa s2 ?_ ?_ ?_);rfl;rfl|(with_reducible refine Qaa m2 ?_ ?_ ?_);rfl;rfl|(with_reducible refine Qaa s3 ?_ ?_ ?_);rfl;rfl|(with_reducible exact Qad _ _ (by kernel_rfl))|(with_reducible refine And.intro (Qad _ _ (by kernel_rfl)) ?_))
 ·have c1:((x-q*y).sign<0)=False:=by simp only [eq_iff_iff,iff_false];have:=Int.sign_nonneg_iff.2 (show 0≤x-q*y by omega);omega
  obtain⟨e1,e2⟩:=f1 (by omega);rw [e2]at s1 g1 c1;rw [e1]at hm m1 s1;generalize q*y=p at*;generalize x/y*y=p2 at*;generalize x/y=Q at*;generalize x%y=R at*;generalize x.natAbs/y.natAbs=n1 at*;generalize x.natAbs%y.natAbs=n2 at*;refine Qab (tb:=[]) 50 [.cell 4 59,.cell 5 59] [0,1,2,3,4,5,6,7,8,9,32,35] mixed Tryz.func91 rfl (by kernel_rfl) ?_;repeat (first|simp -implicitDefEqProofs only [go_sem,seval,rI,di,c1]|(with_reducible refine Qaa ho ?_ ?_ ?_);rfl;rfl|(with_reducible refine Qaa hm ?_ ?_ ?_);rfl;rfl|(with_reducible refine Qaa m1 ?_ ?_ ?_);rfl;rfl|(with_reducible refine Qaa s1 ?_ ?_ ?_);rfl;rfl|(with_reducible refine Qaa g1 ?_ ?_ ?_);rfl;rfl|(with_reducible exact Qad _ _ (by kernel_rfl))|(with_reducible refine And.intro (Qad _ _ (by kernel_rfl)) ?_))
theorem Zsn (x y:Int) (hx:(digs E9 x.natAbs).length≤1000000) (hyl:(digs E9 y.natAbs).length≤1000000):Qae Tryz.prog 63 [rI x,rI y] (rI ((Nat.gcd x.natAbs y.natAbs:Nat):Int)):=by
 have hm:=Qgu false (Nat.gcd x.natAbs y.natAbs);simp only [Bool.false_eq_true,if_false]at hm;refine Qab (tb:=[]) 26 [.cell 4 59] [0,1,2,3,4,5,6,8,15] mixed Tryz.func63 rfl (by kernel_rfl) ?_;repeat (first|simp -implicitDefEqProofs only [go_sem,seval,rI,di]|(with_reducible refine And.intro (Qad _ _ (by kernel_rfl)) ?_))
 refine Qaq mixed (fun p:{p:Nat×Nat // Nat.gcd p.1 p.2=Nat.gcd x.natAbs y.natAbs∧(digs E9 p.1).length≤1000000∧(digs E9 p.2).length≤1000000}=>St.of [(4,.bp 2 2 0 0),(5,di (digs E9 p.1.1)),(6,di (digs E9 p.1.2))]
  [(2,{els:=[.agg [.bool false,.nilS]],esz:=2,ety:=59,fro:=0,live:=true,arr:=false})]) (fun p=>p.1.2) ⟨(x.natAbs,y.natAbs),rfl,hx,hyl⟩ ?_ ?_
 ·refine Qaj (θ:=[(2,2)]) rfl ?_ ?_
  ·simp [Qac,lkp,ren1,ren0,di]
  ·refine⟨⟨rfl,rfl,rfl,rfl,rfl,.inr ⟨rfl,_,_,rfl,rfl,rfl,rfl⟩⟩,trivial⟩
 ·rintro⟨⟨u,v⟩,h1,h2,h3⟩;simp only at h1 h2 h3 ⊢;by_cases hv:v=0
  ·subst hv;have g1:((0:Int)<((0:Nat):Int))=False:=by simp
   rw [Nat.gcd_zero_right]at h1;subst h1;repeat (first|simp -implicitDefEqProofs only [go_sem,seval,rI,di,Qa3,List.map_nil,List.length_nil,g1]|(with_reducible refine Qaa hm ?_ ?_ ?_);rfl;rfl)
  ·have hp:0<(digs E9 v).length:=Zdh hv;have g1:((0:Int)<((digs E9 v).length:Int))=True:=by simp only [eq_iff_iff,iff_true];omega
   have hd:=Q5z u v (Nat.pos_of_ne_zero hv) (by omega) (by omega);have hr:=Nat.mod_lt u (Nat.pos_of_ne_zero hv);repeat (first|simp -implicitDefEqProofs only [go_sem,seval,di,List.length_map,g1]|(with_reducible refine Qaa hd ?_ ?_ ?_);rfl;rfl)
   refine⟨⟨(v,u%v),by rw [←h1,Nat.gcd_comm u v,Nat.gcd_rec v u,Nat.gcd_comm],h3,Nat.le_trans (Qqs (Nat.le_of_lt hr)) h3⟩,by simp only;exact hr,Qaj (θ:=[(2,2)]) rfl ?_ ?_⟩
   ·simp [Qac,lkp,ren1,ren0,di]
   ·refine⟨⟨rfl,rfl,rfl,rfl,rfl,.inr ⟨rfl,_,_,rfl,rfl,rfl,rfl⟩⟩,trivial⟩
theorem mod_lt {y:Int} {k:Nat} (x:Int) (h0:y≠0) (hy:y.natAbs<256^k):(x%y).natAbs<256^k:=by
 have h1:=Int.emod_nonneg x h0;have h2:=Int.emod_lt x h0;omega
theorem Zmx {n:Bool} {s:ByteArray} (h:Qbm n s.data.toList=true) (h0:s.data.toList≠ []):wnum n s≠0:=by
 intro e;have h1:=Zjd n s h;rw [e,Qzs]at h1;simp only [PV.agg.injEq,List.cons.injEq,PV.str.injEq,PV.bool.injEq,and_true]at h1;exact h0 (by rw [←h1.2])
theorem Zdg {n:Bool} {s:ByteArray} (h0:s.data.toList=[]):wnum n s=0:=by
 unfold wnum sv;rw [h0];cases n<;>rfl
section
variable (a b c d:Int) (k:Nat) (hk:k≤10000) (ha:a.natAbs<256^k) (hb:b.natAbs<256^k) (hc:c.natAbs<256^k) (hd:d.natAbs<256^k)
include hk ha hb hc hd
end
end Go.Proofs.YtlghoaggenhheaaGreat
