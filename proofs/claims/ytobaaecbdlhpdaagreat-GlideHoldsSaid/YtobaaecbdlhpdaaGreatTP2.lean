/-
  TW26, TW27, TW23, TW28, TW29, Dp, TW30, TW31, TW32, TA11, TA12, TA13, Dq, TP1, TP2 (merged for the claim).
-/
import Derived.Test.YtobaaecbdlhpdaaGreatTW25
import Derived.Test.YtobaaecbdlhpdaaGreatTW2
import Derived.Test.YtobaaecbdlhpdaaGreatDe4
set_option linter.unusedSimpArgs false
set_option linter.unusedVariables false
namespace Go.Proofs.YtobaaecbdlhpdaaGreat
open Go.Vl Go.RowKit Go.Dg
theorem Q5h (l:List Nat):((l.map fW).all fun e=>e.cells.length==1&&e.cells.all flatc)=true:=by
 rw [List.all_map,List.all_eq_true];intro _ _;rfl
set_option maxHeartbeats 4000000 in
theorem Q5i (a b:Nat) (h:b≤a) (hb1:2≤(digs BW b).length) (ha:(digs BW a).length≤100000000):Qaf Tryz.prog 98 [dw (digs BW a),dw (digs BW b)] (.tup [dw (digs BW (a/b)),dw (digs BW (a%b))]):=by
 have hb0:b≠0:=by rintro rfl;rw [Qbd]at hb1;simp at hb1
 have hkN:(digs BW b).length≤(digs BW a).length:=(Qau BW_2 b _).2 (Nat.lt_of_le_of_lt h (Qbb BW_2 a));have hc:=Qdg a b (by omega) (by omega);have g1:(cmpW a b<0)=False:=by simp only [eq_iff_iff,iff_false];rw [Qd4];omega
 have htop:=Qdn BW_2 hb0;have hga:=Qav (n:=b) (k:=(digs BW b).length-1) BW_2 (by omega);rw [Nat.mod_eq_of_lt htop.2]at hga;have hdk:=Zme hb0;have hlz:=Q5k (b/BW^((digs BW b).length-1)) htop.2;have hs64:64-blen (b/BW^((digs BW b).length-1))≤64:=by omega
 obtain⟨s,hs⟩: ∃s,s=64-blen (b/BW^((digs BW b).length-1)):=⟨_,rfl⟩;simp only [WB]at hdk;simp only [BW]at hs hlz hdk;rw [←hs]at hlz hdk hs64;have hsb:=Zfa b s (by omega) (by omega);have hsa:=Zfa a s (by omega) (by omega);have hR0:a*2^s<BW^((digs BW a).length+1):=by
  rw [Nat.pow_succ];exact Nat.mul_lt_mul_of_lt_of_le (Qbb BW_2 a) (Nat.pow_le_pow_right (n:=2) (by decide) hs64) (by decide)
 have hL0:(digs BW (a*2^s)).length≤(digs BW a).length+1:=(Qau BW_2 _ _).2 hR0;have hbk:BW^((digs BW b).length-1)≤b:=by
  have:=(Qcz BW_2 b ((digs BW b).length-1)).1 (by omega);rcases Nat.lt_or_ge b (BW^((digs BW b).length-1))with h'|h'
  ·exact absurd (Nat.div_eq_of_lt h') this
  ·exact h'
 have hRd:a*2^s<b*2^s*BW^((digs BW a).length+1-(digs BW b).length):=by
  have e:BW^(digs BW a).length=BW^((digs BW b).length-1)*BW^((digs BW a).length+1-(digs BW b).length):=by
   rw [←Nat.pow_add];congr 1;omega
  have h1:=Qbb BW_2 a;rw [e]at h1;have h2:=Nat.lt_of_lt_of_le h1 (Nat.mul_le_mul_right _ hbk);rw [Nat.mul_right_comm];exact Nat.mul_lt_mul_of_pos_right h2 (Nat.pow_pos (by decide))
 have hq:a/b=a*2^s/(b*2^s):=(Nat.mul_div_mul_right a b (Nat.pow_pos (by decide))).symm;have hm:a%b*2^s=a*2^s%(b*2^s):=(Nat.mul_mod_mul_right _ a b).symm;have hd0:0<b*2^s:=Nat.mul_pos (by omega) (Nat.pow_pos (by decide));have hpad:=Qh8 BW_2 (a*2^s) ((digs BW a).length+1) hL0;generalize hRR:a*2^s=R0 at*;generalize hdd:b*2^s=d at*;generalize hN:(digs BW a).length=N at*;generalize hkk:(digs BW b).length=k at*;obtain⟨nq,hnq⟩: ∃nq,nq=N+1-k:=⟨_,rfl⟩;rw [←hnq]at hRd;have z1:((k:Int)==1)=false:=by simp only [beq_eq_false_iff_ne,ne_eq];omega
 have z2:IntKind.i64.wrap ((k:Int)-1)=((k-1:Nat):Int):=by rw [Qah (by omega) (by omega)];omega
 have z3:(0≤((k-1:Nat):Int))=True:=by simp only [eq_iff_iff,iff_true];exact Int.natCast_nonneg _
 have z4:=Qak (a:=N) (by omega);have z5:((0:Int)≤((N+1:Nat):Int))=True:=by simp only [eq_iff_iff,iff_true];omega
 have z6:((8:Nat):Int)*((N+1:Nat):Int)≤281474976710656:=by omega
 have z7:((N+1:Nat):Int)≤9223372036854775807:=by omega
 have z8:IntKind.i64.wrap (((N+1:Nat):Int)-(k:Int))=(nq:Int):=by rw [Qah (by omega) (by omega)];omega
 have z9:((0:Int)≤(nq:Int))=True:=by simp only [eq_iff_iff,iff_true];omega
 have z10:((8:Nat):Int)*(nq:Int)≤281474976710656:=by omega
 have z11:(nq:Int)≤9223372036854775807:=by omega
 have z12:IntKind.i64.wrap ((nq:Int)-1)=(nq:Int)-1:=Qah (by omega) (by omega);have z13:Nat.ble 0 0=true:=rfl;have z14:Nat.ble (digs BW R0).length (N+1)=true:=Nat.ble_eq_true_of_le hL0;have z15:min (digs BW R0).length (N+1)=(digs BW R0).length:=Nat.min_eq_left hL0

 refine Qac (tb:=[(1901,[(1000000,706)],[]),(2201,[(1000000,706)],[]),(2203,[(1000000,706)],[(102,2203)])]) 145 [.tmp 4,.tmp 5] [0,1,4,5,6,7,8,9,10,11,12,13,14,15,16,17,21,25,68,82,121] mixed Tryz.func98 rfl (by kernel_rfl) (by kernel_rfl) (by kernel_rfl) (by kernel_rfl) ?_;simp -implicitDefEqProofs only [go_sem,Nat.reduceAdd,Nat.reduceMul,Nat.reduceEqDiff,Nat.reduceLT,Nat.reduceLeDiff,Nat.reduceSub,Nat.reduceBEq,reduceIte,reduceCtorEq,Int.reduceEq,Int.reduceNe,Nat.reduceBneDiff,Int.reduceLE,Int.reduceLT,Int.reduceToNat,Int.reduceAdd,Int.reduceSub,Int.reduceMul,Int.reduceNeg,dw];refine Qag _ _ _ _ _ _ _ _ _ hc ?_;simp -implicitDefEqProofs only [go_sem,Nat.reduceAdd,Nat.reduceMul,Nat.reduceEqDiff,Nat.reduceLT,Nat.reduceLeDiff,Nat.reduceSub,Nat.reduceBEq,reduceIte,reduceCtorEq,Int.reduceEq,Int.reduceNe,Nat.reduceBneDiff,Int.reduceLE,Int.reduceLT,Int.reduceToNat,Int.reduceAdd,Int.reduceSub,Int.reduceMul,Int.reduceNeg,dw,g1,List.length_map,hkk,z1,z2,z3,Qb8,hga,Int.toNat_natCast];refine Qag _ _ _ _ _ _ _ _ _ hlz ?_;simp -implicitDefEqProofs only [go_sem,Nat.reduceAdd,Nat.reduceMul,Nat.reduceEqDiff,Nat.reduceLT,Nat.reduceLeDiff,Nat.reduceSub,Nat.reduceBEq,reduceIte,reduceCtorEq,Int.reduceEq,Int.reduceNe,Nat.reduceBneDiff,Int.reduceLE,Int.reduceLT,Int.reduceToNat,Int.reduceAdd,Int.reduceSub,Int.reduceMul,Int.reduceNeg,dw];refine Qag _ _ _ _ _ _ _ _ _ hsb ?_
 simp -implicitDefEqProofs only [go_sem,Nat.reduceAdd,Nat.reduceMul,Nat.reduceEqDiff,Nat.reduceLT,Nat.reduceLeDiff,Nat.reduceSub,Nat.reduceBEq,reduceIte,reduceCtorEq,Int.reduceEq,Int.reduceNe,Nat.reduceBneDiff,Int.reduceLE,Int.reduceLT,Int.reduceToNat,Int.reduceAdd,Int.reduceSub,Int.reduceMul,Int.reduceNeg,dw,List.length_map,hN,z4,z5,z6,z7,Int.toNat_natCast];refine⟨Qaa _ _ (by kernel_rfl),?_⟩;refine Qag _ _ _ _ _ _ _ _ _ hsa ?_;have hfl:=Q5h (digs BW R0);have htk0:((digs BW R0).map fW).take (digs BW R0).length=(digs BW R0).map fW:=List.take_of_length_le (by simp);have hcp:(digs BW R0).map fW++(List.replicate (N+1) (PV.int .u64 0)).drop (digs BW R0).length=(lows BW R0 (N+1)).map fW:=by
  rw [←hpad,List.map_append,List.drop_replicate,List.map_replicate];rfl
 have hrep:List.replicate nq (PV.int .u64 0)=(mix BW 0 (R0/d) nq nq).map fW:=by rw [Qo6,Qea];simp
 simp -implicitDefEqProofs only [go_sem,Nat.reduceAdd,Nat.reduceMul,Nat.reduceEqDiff,Nat.reduceLT,Nat.reduceLeDiff,Nat.reduceSub,Nat.reduceBEq,reduceIte,reduceCtorEq,Int.reduceEq,Int.reduceNe,Nat.reduceBneDiff,Int.reduceLE,Int.reduceLT,Int.reduceToNat,Int.reduceAdd,Int.reduceSub,Int.reduceMul,Int.reduceNeg,dw,List.length_map,hfl,z13,z14,z15,htk0,hcp,List.length_replicate,hdk,z8,z9,z10,z11,z12,Int.toNat_natCast];rw [hrep];have hst:R0%(d*BW^nq)=R0:=Nat.mod_eq_of_lt hRd;refine Qa4 mixed (fun i:{i:Nat // i≤nq}=>St.of [(8,.int .i64 (s:Int)),(9,dw (digs BW d)),(10,.bs 706 1 0 (N+1)),(11,.int .i64 (k:Int)),(12,.bs 1004 1 0 nq),(13,.int .i64 ((i.1:Int)-1))]
  [(706,wB (lows BW (R0%(d*BW^i.1)) (N+1))),(1004,wB (mix BW 0 (R0/d) nq i.1))]) (fun i=>i.1) ⟨nq,Nat.le_refl _⟩ ?_ ?_
 ·refine Qas (θ:=[(706,706),(1004,1004)]) rfl ?_ ?_
  ·simp [Qae,lkp,ren1,ren0,dw]
  ·simp [Qar,lkp,Box.renames,hst]
 ·rintro⟨i,hi⟩;cases i with
  |zero=>
   have h1:((0:Int)≤((0:Nat):Int)-1)=False:=by simp
   have e0:R0%(d*BW^0)=R0%d:=by rw [Nat.pow_zero,Nat.mul_one]
   have hll:=Qai (B:=BW) (R0/d) nq;have htk:=List.take_of_length_le (l:=(lows BW (R0/d) nq).map fW) (i:=nq) (by simp [hll]);have hll2:=Qai (B:=BW) (R0%d) (N+1);have htk2:=List.take_of_length_le (l:=(lows BW (R0%d) (N+1)).map fW) (i:=N+1) (by simp [hll2]);have ht1:=Qc8 (lows BW (R0/d) nq) (by rw [hll];unfold maxLen;omega);have ht2:=Qc8 (lows BW (R0%d) (N+1)) (by rw [hll2];unfold maxLen;omega);rw [Qb1 BW_2,Nat.mod_eq_of_lt (Nat.div_lt_of_lt_mul hRd)]at ht1;rw [Qb1 BW_2,Nat.mod_eq_of_lt (Nat.lt_of_le_of_lt (Nat.mod_le _ _) hR0)]at ht2;have hL3:(digs BW (a%b*2^s)).length≤N+1:=(Qau BW_2 _ _).2 (by rw [hm];exact Nat.lt_of_le_of_lt (Nat.mod_le _ _) hR0);have hsr:=Zoo (a%b*2^s) s (by omega) (by omega);rw [Nat.mul_div_cancel _ (Nat.pow_pos (by decide)),hm]at hsr;rw [hq];repeat (first|(simp -implicitDefEqProofs only [go_sem,Nat.reduceAdd,Nat.reduceMul,Nat.reduceEqDiff,Nat.reduceLT,Nat.reduceLeDiff,Nat.reduceSub,Nat.reduceBEq,reduceIte,reduceCtorEq,Int.reduceEq,Int.reduceNe,Nat.reduceBneDiff,Int.reduceLE,Int.reduceLT,Int.reduceToNat,Int.reduceAdd,Int.reduceSub,Int.reduceMul,Int.reduceNeg,h1,e0,wB,Qk4,List.length_map,hll,htk,hll2,htk2,dw])|((with_reducible refine Qab ht1 ?_ ?_ ?_);rfl;rfl)|((with_reducible refine Qab ht2 ?_ ?_ ?_);rfl;rfl)|((with_reducible refine Qab hsr ?_ ?_ ?_);rfl;rfl)|(with_reducible exact Qaa _ _ (by kernel_rfl))|(with_reducible refine And.intro (Qaa _ _ (by kernel_rfl)) ?_))
  |succ i=>
   have hs1:(((i+1:Nat):Int)-1)=(i:Int):=by omega
   have i0:((0:Int)≤(i:Int))=True:=by simp
   have hik:i+k≤N:=by omega
   obtain⟨S,hS⟩: ∃S,S=R0%(d*BW^(i+1)):=⟨_,rfl⟩;obtain⟨W,hW⟩: ∃W,W=S/BW^i:=⟨_,rfl⟩;obtain⟨Q,hQ⟩: ∃Q,Q=R0/d/BW^i%BW:=⟨_,rfl⟩;have hdg:=Q7q (B:=BW) (by decide) R0 d i hd0;rw [←hS,←hW,←hQ]at hdg;have hQB:Q<BW:=by rw [hQ];exact Nat.mod_lt _ (by decide)
   have hdk2:d<BW^k:=by rw [←hdk];exact Qbb BW_2 d
   have hWd:W<d*BW:=by
    rw [hW];refine Nat.div_lt_of_lt_mul ?_;rw [hS,Nat.mul_comm (BW^i),Nat.mul_assoc,Nat.mul_comm BW,←Nat.pow_succ];exact Nat.mod_lt _ (Nat.mul_pos hd0 (Nat.pow_pos (by decide)))
   have hWk:W<BW^(k+1):=by
    rw [Nat.pow_succ];exact Nat.lt_trans hWd (Nat.mul_lt_mul_of_pos_right hdk2 (by decide))
   have hll:=Qai (B:=BW) S (N+1);have hSW: ∀j,S/BW^(i+j)=W/BW^j:=fun j=>by rw [hW,Nat.pow_add,Nat.div_div_eq_div_mul]
   have hQle:d*Q≤W:=by rw [←hdg];exact Nat.mul_div_le W d
   have hQmax: ∀p,d*p≤W→p≤Q:=fun p hp=>by rw [←hdg,Nat.le_div_iff_mul_le hd0,Nat.mul_comm];exact hp
   have hLd: ∀p,p<BW→(digs BW (d*p)).length≤1000000000:=fun p hp=>by
    refine Nat.le_trans ((Qau BW_2 _ (k+1)).2 ?_) (show k+1≤1000000000 by omega);rw [Nat.pow_succ];exact Nat.mul_lt_mul_of_lt_of_le hdk2 (Nat.le_of_lt hp) (by decide)
   have hLW:(digs BW W).length≤k+1:=(Qau BW_2 _ _).2 hWk;have hwin:((lows BW S (N+1)).drop i).take (k+1)=lows BW W (k+1):=by rw [Qlo _ _ _ _ _ (by omega),←hW]
   have htB:=Qwx (lows BW S (N+1)) i (k+1) (by rw [hll];omega) (by rw [hll];unfold maxLen;omega);rw [hwin,Qb1 BW_2,Nat.mod_eq_of_lt hWk]at htB;have hwd2:((lows BW S (N+1)).drop i).take (digs BW W).length=digs BW W:=by
    rw [Qlo _ _ _ _ _ (by omega),←hW,Qh9 BW_2]
   have hesc:(((lows BW S (N+1)).map fW).drop i).take (digs BW W).length=(digs BW W).map fW:=by
    rw [←List.map_drop,←List.map_take,hwd2]
   have b7:(i+(digs BW W).length≤N+1)=True:=by simp only [eq_iff_iff,iff_true];omega
   have hg1:((lows BW S (N+1)).map fW)[i+k]? =some (PV.int .u64 ((W/BW^k:Nat):Int)):=by
    have h5:W/BW^k<BW:=Nat.div_lt_of_lt_mul (by rw [←Nat.pow_succ];exact hWk);rw [List.getElem?_map,Qbq _ _ _ (by omega),hSW,Nat.mod_eq_of_lt h5];rfl
   have hg2:((lows BW S (N+1)).map fW)[i+k-1]? =some (PV.int .u64 ((W/BW^(k-1)%BW:Nat):Int)):=by
    rw [List.getElem?_map,show i+k-1=i+(k-1)by omega,Qbq _ _ _ (by omega),hSW];rfl
   have htd:=Qdn BW_2 (show d≠0 by omega);rw [hdk]at htd;have hgd:=Qav (n:=d) (k:=k-1) BW_2 (by rw [hdk];omega);rw [Nat.mod_eq_of_lt htd.2]at hgd;have wik:=Qg5 (a:=i) (b:=k) (by omega);have wik1:=Qak (a:=i+k) (by omega);have wikm:IntKind.i64.wrap (((i+k:Nat):Int)-1)=((i+k-1:Nat):Int):=by rw [Qah (by omega) (by omega)];omega
   have b1:(0≤((i+k:Nat):Int))=True:=by simp only [eq_iff_iff,iff_true];exact Int.natCast_nonneg _
   have b2:(((i+k:Nat):Int)<((N+1:Nat):Int))=True:=by simp only [eq_iff_iff,iff_true];omega
   have b2a:(0≤((i+k-1:Nat):Int))=True:=by simp only [eq_iff_iff,iff_true];exact Int.natCast_nonneg _
   have b2b:(((i+k-1:Nat):Int)<((N+1:Nat):Int))=True:=by simp only [eq_iff_iff,iff_true];omega
   have b3:((i:Int)≤((i+k+1:Nat):Int))=True:=by simp only [eq_iff_iff,iff_true];omega
   have b4:(((i+k+1:Nat):Int)≤((N+1:Nat):Int))=True:=by simp only [eq_iff_iff,iff_true];omega
   have b5:(i<i+k+1)=True:=by simp only [eq_iff_iff,iff_true];omega
   have hsub:i+k+1-i=k+1:=by omega
   have hsB:=Zky (lows BW S (N+1)) i W (d*Q) hQle hwd2 (by rw [hll];omega) (by omega);have b8:Nat.ble 0 i=true:=Nat.ble_eq_true_of_le (Nat.zero_le _);have b9:Nat.ble (i+(k+1)) (N+1)=true:=Nat.ble_eq_true_of_le (by omega);have hWQ:W-d*Q<d:=by
    have h5:=Nat.mod_lt W hd0;have h6:=Nat.div_add_mod W d;rw [hdg]at h6;generalize d*Q=dq at*;omega
   have hLq:(digs BW (W-d*Q)).length≤k:=(Qau BW_2 _ _).2 (Nat.lt_trans hWQ hdk2);have hLq2:(digs BW (W-d*Q)).length≤(digs BW W).length:=(Qau BW_2 _ _).2 (Nat.lt_of_le_of_lt (Nat.sub_le _ _) (Qbb BW_2 W));have hmn:min (digs BW (W-d*Q)).length (k+1)=(digs BW (W-d*Q)).length:=Nat.min_eq_left (by omega);have hllf:=Qai (B:=BW) (W-d*Q) (digs BW W).length;have b11:((digs BW (W-d*Q)).length≤(digs BW W).length)=True:=by simp only [eq_iff_iff,iff_true];exact hLq2
   have hlft:((lows BW (W-d*Q) (digs BW W).length).map fW).take (digs BW (W-d*Q)).length=(digs BW (W-d*Q)).map fW:=by
    rw [←List.map_take,Q18 _ _ _ hLq2,Qh9 BW_2]
   have hfl3:=Q5h (digs BW (W-d*Q));have htk3:((digs BW (W-d*Q)).map fW).take (digs BW (W-d*Q)).length=(digs BW (W-d*Q)).map fW:=List.take_of_length_le (by simp);have hlen3:(((lows BW S (N+1)).map fW).take i++List.replicate (k+1) (PV.int .u64 0)++((lows BW S (N+1)).map fW).drop (i+(k+1))).length=N+1:=by simp [hll];omega
   have b12:Nat.ble (i+(digs BW (W-d*Q)).length) (N+1)=true:=Nat.ble_eq_true_of_le (by omega);have b10:Nat.ble 0 0=true:=rfl;have hinq:((i:Int)<(nq:Int))=True:=by simp only [eq_iff_iff,iff_true];omega
   have hmlq:=Qbj (B:=BW) 0 (R0/d) nq (i+1);obtain⟨e,hgoq⟩: ∃e:Nat,((mix BW 0 (R0/d) nq (i+1)).map fW)[i]? =some (PV.int .u64 (e:Int)):=⟨_,by rw [List.getElem?_map,Qdc _ _ _ _ _ (by omega)];rfl⟩;have hsetq:=Qwk (B:=BW) (V:=0) (S:=R0/d) (N:=nq) (i:=i) (d:=Q) (by omega) hQ.symm;have w4:IntKind.i64.wrap ((i:Int)-1)=(i:Int)-1:=Qah (by omega) (by omega);obtain⟨S',hS'⟩: ∃S',S'=R0%(d*BW^i):=⟨_,rfl⟩;have hnx:S%(d*BW^i)=S':=by rw [hS,hS'];exact Zfp R0 d i
   have hup:S'/BW^i=W-d*Q:=by
    rw [←hnx,Q7r (by decide) S d i hd0,←hW];have h6:=Nat.div_add_mod W d;rw [hdg]at h6;omega
   have hlo:S%BW^i=S'%BW^i:=by rw [←hnx,Q7s (by decide)]
   have hpad2:=Qh8 BW_2 (W-d*Q) (k+1) (Nat.le_succ_of_le hLq);have hz1:S/BW^(i+(k+1))=0:=by rw [hSW];exact Nat.div_eq_of_lt hWk
   have hz2:S'/BW^(i+(k+1))=0:=by
    rw [Nat.pow_add,←Nat.div_div_eq_div_mul,hup];exact Nat.div_eq_of_lt (Nat.lt_of_le_of_lt (Nat.sub_le _ _) hWk)
   have hov2:=Q07 (B:=BW) (V:=S) (W:=S') (n:=N+1) (j:=i) (x:=lows BW (W-d*Q) (k+1)) (by decide) (by rw [Qai];omega) hlo (by rw [Qai,hup]) (by rw [Qai,hz1,hz2]);rw [Qai,←hpad2]at hov2;have hfin:(((lows BW S (N+1)).map fW).take i++List.replicate (k+1) (PV.int .u64 0)++((lows BW S (N+1)).map fW).drop (i+(k+1))).take i++(digs BW (W-d*Q)).map fW++
     (((lows BW S (N+1)).map fW).take i++List.replicate (k+1) (PV.int .u64 0)++((lows BW S (N+1)).map fW).drop (i+(k+1))).drop (i+(digs BW (W-d*Q)).length)=(lows BW (R0%(d*BW^i)) (N+1)).map fW:=by
    have h7:=Qx2 ((lows BW S (N+1)).map fW) ((digs BW (W-d*Q)).map fW) i (k+1) (PV.int .u64 0) (by rw [List.length_map];omega) (by rw [List.length_map,hll];omega);rw [List.length_map]at h7;rw [h7,←hS',←hov2,List.map_append,List.map_append,List.map_append,List.map_take,List.map_drop,List.map_replicate];rfl
   by_cases hcase:W/BW^k<d/BW^(k-1)
   ·have g5:(((W/BW^k:Nat):Int)<((d/BW^(k-1):Nat):Int))=True:=by simp only [eq_iff_iff,iff_true];omega
    have hdv:=Q5d (W/BW^k) (W/BW^(k-1)%BW) (d/BW^(k-1)) hcase htd.2 (Nat.mod_lt _ (by decide));have htt:=Zfq (B:=BW) (by decide) W (k-1);rw [show k-1+1=k by omega]at htt;simp only [BW]at hdv htt;rw [←htt]at hdv;have hov:=Qxy (B:=BW) (by decide) W d (k-1) (Nat.pos_of_ne_zero htd.1);rw [hdg]at hov;have hgB':W/BW^(k-1)/(d/BW^(k-1))<BW:=by
     rw [Nat.div_lt_iff_lt_mul (Nat.pos_of_ne_zero htd.1)];simp only [BW];rw [htt];have h6:=Nat.mul_le_mul_right BW (show W/BW^k+1≤d/BW^(k-1)from hcase);have h7:W/BW^(k-1)%BW<BW:=Nat.mod_lt _ (by decide);simp only [BW]at h6 h7;rw [Nat.add_mul,Nat.one_mul]at h6;rw [Nat.mul_comm 18446744073709551616];omega
    simp -implicitDefEqProofs only [go_sem,Nat.reduceAdd,Nat.reduceMul,Nat.reduceEqDiff,Nat.reduceLT,Nat.reduceLeDiff,Nat.reduceSub,Nat.reduceBEq,reduceIte,reduceCtorEq,Int.reduceEq,Int.reduceNe,Nat.reduceBneDiff,Int.reduceLE,Int.reduceLT,Int.reduceToNat,Int.reduceAdd,Int.reduceSub,Int.reduceMul,Int.reduceNeg,dw,wB,hs1,i0,wik,wikm,b1,b2,b2a,b2b,z2,z3,List.length_map,hll,hdk,Int.toNat_natCast,←hS,hg1,hg2,Qb8,hgd,g5];refine⟨Qaa _ _ (by kernel_rfl),?_⟩;refine Qag _ _ _ _ _ _ _ _ _ hdv ?_;simp only [BW]at hov hgB';generalize W/18446744073709551616^(k-1)/(d/18446744073709551616^(k-1))=g at*;have hgQ:Q≤g:=hov;have hgB:g<BW:=hgB';have htg:=Qc8 [g] (by simp [maxLen]);rw [Qip hgB]at htg;have hmg:=Q5b d g (by rw [hdk];have:=(Qau BW_2 g 1).2 (by simpa using hgB);omega);simp -implicitDefEqProofs only [go_sem,Nat.reduceAdd,Nat.reduceMul,Nat.reduceEqDiff,Nat.reduceLT,Nat.reduceLeDiff,Nat.reduceSub,Nat.reduceBEq,reduceIte,reduceCtorEq,Int.reduceEq,Int.reduceNe,Nat.reduceBneDiff,Int.reduceLE,Int.reduceLT,Int.reduceToNat,Int.reduceAdd,Int.reduceSub,Int.reduceMul,Int.reduceNeg];refine⟨Qaa _ _ (by kernel_rfl),?_⟩;simp -implicitDefEqProofs only [go_sem,Nat.reduceAdd,Nat.reduceMul,Nat.reduceEqDiff,Nat.reduceLT,Nat.reduceLeDiff,Nat.reduceSub,Nat.reduceBEq,reduceIte,reduceCtorEq,Int.reduceEq,Int.reduceNe,Nat.reduceBneDiff,Int.reduceLE,Int.reduceLT,Int.reduceToNat,Int.reduceAdd,Int.reduceSub,Int.reduceMul,Int.reduceNeg,wB,i0,b1,b2,b3,b4,b5,wik,wik1,Int.toNat_natCast,hsub,Nat.zero_add]
    refine Qag _ _ _ _ _ _ _ _ _ htg ?_;simp -implicitDefEqProofs only [go_sem,Nat.reduceAdd,Nat.reduceMul,Nat.reduceEqDiff,Nat.reduceLT,Nat.reduceLeDiff,Nat.reduceSub,Nat.reduceBEq,reduceIte,reduceCtorEq,Int.reduceEq,Int.reduceNe,Nat.reduceBneDiff,Int.reduceLE,Int.reduceLT,Int.reduceToNat,Int.reduceAdd,Int.reduceSub,Int.reduceMul,Int.reduceNeg,dw];refine Qag _ _ _ _ _ _ _ _ _ hmg ?_;simp -implicitDefEqProofs only [go_sem,Nat.reduceAdd,Nat.reduceMul,Nat.reduceEqDiff,Nat.reduceLT,Nat.reduceLeDiff,Nat.reduceSub,Nat.reduceBEq,reduceIte,reduceCtorEq,Int.reduceEq,Int.reduceNe,Nat.reduceBneDiff,Int.reduceLE,Int.reduceLT,Int.reduceToNat,Int.reduceAdd,Int.reduceSub,Int.reduceMul,Int.reduceNeg,dw];refine Qa4 mixed (fun p:{p:Nat // Q≤p∧p<BW}=>St.of [(8,.int .i64 (s:Int)),(9,dw (digs BW d)),(10,.bs 706 1 0 (N+1)),(11,.int .i64 (k:Int)),(12,.bs 1004 1 0 nq),(13,.int .i64 (i:Int)),(14,.int .u64 (p.1:Int)),(15,.bs 706 1 i (k+1)),(16,dw (digs BW (d*p.1)))]
     [(706,wB (lows BW S (N+1))),(1004,wB (mix BW 0 (R0/d) nq (i+1)))]) (fun p=>p.1) ⟨g,hgQ,hgB⟩ ?_ ?_
    ·refine Qas (θ:=[(706,706),(1004,1004)]) rfl ?_ ?_
     ·simp [Qae,lkp,ren1,ren0,dw]
     ·simp [Qar,lkp,Box.renames]
    ·rintro⟨p,hp1,hp2⟩;simp only at hp1 hp2 ⊢;have hlp:(digs BW (d*p)).length≤1000000000:=hLd p hp2;have hcm:=Qdg W (d*p) (by omega) hlp;simp -implicitDefEqProofs only [go_sem,Nat.reduceAdd,Nat.reduceMul,Nat.reduceEqDiff,Nat.reduceLT,Nat.reduceLeDiff,Nat.reduceSub,Nat.reduceBEq,reduceIte,reduceCtorEq,Int.reduceEq,Int.reduceNe,Nat.reduceBneDiff,Int.reduceLE,Int.reduceLT,Int.reduceToNat,Int.reduceAdd,Int.reduceSub,Int.reduceMul,Int.reduceNeg,dw];refine Qb6 _ _ _ _ _ _ _ _ _ htB ?_;simp -implicitDefEqProofs only [go_sem,Nat.reduceAdd,Nat.reduceMul,Nat.reduceEqDiff,Nat.reduceLT,Nat.reduceLeDiff,Nat.reduceSub,Nat.reduceBEq,reduceIte,reduceCtorEq,Int.reduceEq,Int.reduceNe,Nat.reduceBneDiff,Int.reduceLE,Int.reduceLT,Int.reduceToNat,Int.reduceAdd,Int.reduceSub,Int.reduceMul,Int.reduceNeg,wB,dw,List.length_map,hll,b7,hesc];refine Qag _ _ _ _ _ _ _ _ _ hcm ?_;by_cases hlt:W<d*p
     ·have k1:(cmpW W (d*p)<0)=True:=by simp only [eq_iff_iff,iff_true];exact(Qd4 _ _).2 hlt
      have hpQ:Q<p:=by
       rcases Nat.lt_or_ge Q p with h'|h'
       ·exact h'
       ·have:=Nat.mul_le_mul_left d (show p≤Q from h');have:=hQle;omega
      have hsb2:=Qr0 (d*p) d (Nat.le_mul_of_pos_right d (by omega)) hlp;have e6:d*p-d=d*(p-1):=by rw [Nat.mul_sub,Nat.mul_one]
      rw [e6]at hsb2;have w5:IntKind.u64.wrap ((p:Int)-1)=((p-1:Nat):Int):=by rw [Qbx];simp only [BW]at hp2;omega
      simp -implicitDefEqProofs only [go_sem,Nat.reduceAdd,Nat.reduceMul,Nat.reduceEqDiff,Nat.reduceLT,Nat.reduceLeDiff,Nat.reduceSub,Nat.reduceBEq,reduceIte,reduceCtorEq,Int.reduceEq,Int.reduceNe,Nat.reduceBneDiff,Int.reduceLE,Int.reduceLT,Int.reduceToNat,Int.reduceAdd,Int.reduceSub,Int.reduceMul,Int.reduceNeg,k1,w5,dw];refine Qag _ _ _ _ _ _ _ _ _ hsb2 ?_;simp -implicitDefEqProofs only [go_sem,Nat.reduceAdd,Nat.reduceMul,Nat.reduceEqDiff,Nat.reduceLT,Nat.reduceLeDiff,Nat.reduceSub,Nat.reduceBEq,reduceIte,reduceCtorEq,Int.reduceEq,Int.reduceNe,Nat.reduceBneDiff,Int.reduceLE,Int.reduceLT,Int.reduceToNat,Int.reduceAdd,Int.reduceSub,Int.reduceMul,Int.reduceNeg,dw];refine⟨⟨p-1,by omega,by omega⟩,by simp only;omega,Qas (θ:=[(706,706),(1004,1004)]) rfl ?_ ?_⟩
      ·simp [Qae,lkp,ren1,ren0,dw]
      ·simp [Qar,lkp,Box.renames]
     ·have k1:(cmpW W (d*p)<0)=False:=by simp only [eq_iff_iff,iff_false];rw [Qd4];exact hlt
      obtain rfl:p=Q:=Nat.le_antisymm (hQmax p (by omega)) hp1;simp -implicitDefEqProofs only [go_sem,Nat.reduceAdd,Nat.reduceMul,Nat.reduceEqDiff,Nat.reduceLT,Nat.reduceLeDiff,Nat.reduceSub,Nat.reduceBEq,reduceIte,reduceCtorEq,Int.reduceEq,Int.reduceNe,Nat.reduceBneDiff,Int.reduceLE,Int.reduceLT,Int.reduceToNat,Int.reduceAdd,Int.reduceSub,Int.reduceMul,Int.reduceNeg,k1,dw];refine Qb6 _ _ _ _ _ _ _ _ _ htB ?_;simp -implicitDefEqProofs only [go_sem,Nat.reduceAdd,Nat.reduceMul,Nat.reduceEqDiff,Nat.reduceLT,Nat.reduceLeDiff,Nat.reduceSub,Nat.reduceBEq,reduceIte,reduceCtorEq,Int.reduceEq,Int.reduceNe,Nat.reduceBneDiff,Int.reduceLE,Int.reduceLT,Int.reduceToNat,Int.reduceAdd,Int.reduceSub,Int.reduceMul,Int.reduceNeg,wB,dw];refine Qb6 _ _ _ _ _ _ _ _ _ hsB ?_;simp -implicitDefEqProofs only [go_sem,Nat.reduceAdd,Nat.reduceMul,Nat.reduceEqDiff,Nat.reduceLT,Nat.reduceLeDiff,Nat.reduceSub,Nat.reduceBEq,reduceIte,reduceCtorEq,Int.reduceEq,Int.reduceNe,Nat.reduceBneDiff,Int.reduceLE,Int.reduceLT,Int.reduceToNat,Int.reduceAdd,Int.reduceSub,Int.reduceMul,Int.reduceNeg,wB,List.length_map,hll,b8,b9,b10,z13,List.length_replicate,b11,b12,hmn,hlft,hllf,hlen3,hfl3,htk3,Nat.zero_add,i0,hinq,hmlq,hgoq,Int.toNat_natCast,w4];refine⟨⟨i,by omega⟩,by simp only;omega,Qas (θ:=[(706,706),(1004,1004)]) rfl ?_ ?_⟩
      ·simp [Qae,lkp,ren1,ren0,dw]
      ·rw [Qcv,hsetq];simp only [Qar,lkp,Box.renames,hfin,if_true,if_false,reduceCtorEq,Nat.reduceEqDiff,and_self,and_true,true_and];exact⟨.inl trivial,.inl trivial⟩
   ·have g5:(((W/BW^k:Nat):Int)<((d/BW^(k-1):Nat):Int))=False:=by simp only [eq_iff_iff,iff_false];omega
    obtain⟨g,hg⟩: ∃g:Nat,g=18446744073709551615:=⟨_,rfl⟩;have hgI:(18446744073709551615:Int)=((g:Nat):Int):=by rw [hg];rfl
    have hgQ:Q≤g:=by rw [hg];simp only [BW]at hQB;omega
    have hgB:g<BW:=by rw [hg];decide
    have htg:=Qc8 [g] (by simp [maxLen]);rw [Qip hgB]at htg;have hmg:=Q5b d g (by rw [hdk];have:=(Qau BW_2 g 1).2 (by simpa using hgB);omega);simp -implicitDefEqProofs only [go_sem,Nat.reduceAdd,Nat.reduceMul,Nat.reduceEqDiff,Nat.reduceLT,Nat.reduceLeDiff,Nat.reduceSub,Nat.reduceBEq,reduceIte,reduceCtorEq,Int.reduceEq,Int.reduceNe,Nat.reduceBneDiff,Int.reduceLE,Int.reduceLT,Int.reduceToNat,Int.reduceAdd,Int.reduceSub,Int.reduceMul,Int.reduceNeg,dw,wB,hs1,i0,wik,wikm,b1,b2,b2a,b2b,z2,z3,List.length_map,hll,hdk,Int.toNat_natCast,←hS,hg1,hg2,Qb8,hgd,g5,hgI];refine⟨Qaa _ _ (by kernel_rfl),?_⟩;simp -implicitDefEqProofs only [go_sem,Nat.reduceAdd,Nat.reduceMul,Nat.reduceEqDiff,Nat.reduceLT,Nat.reduceLeDiff,Nat.reduceSub,Nat.reduceBEq,reduceIte,reduceCtorEq,Int.reduceEq,Int.reduceNe,Nat.reduceBneDiff,Int.reduceLE,Int.reduceLT,Int.reduceToNat,Int.reduceAdd,Int.reduceSub,Int.reduceMul,Int.reduceNeg,wB,i0,b1,b2,b3,b4,b5,wik,wik1,Int.toNat_natCast,hsub,Nat.zero_add];refine Qag _ _ _ _ _ _ _ _ _ htg ?_;simp -implicitDefEqProofs only [go_sem,Nat.reduceAdd,Nat.reduceMul,Nat.reduceEqDiff,Nat.reduceLT,Nat.reduceLeDiff,Nat.reduceSub,Nat.reduceBEq,reduceIte,reduceCtorEq,Int.reduceEq,Int.reduceNe,Nat.reduceBneDiff,Int.reduceLE,Int.reduceLT,Int.reduceToNat,Int.reduceAdd,Int.reduceSub,Int.reduceMul,Int.reduceNeg,dw];refine Qag _ _ _ _ _ _ _ _ _ hmg ?_
    simp -implicitDefEqProofs only [go_sem,Nat.reduceAdd,Nat.reduceMul,Nat.reduceEqDiff,Nat.reduceLT,Nat.reduceLeDiff,Nat.reduceSub,Nat.reduceBEq,reduceIte,reduceCtorEq,Int.reduceEq,Int.reduceNe,Nat.reduceBneDiff,Int.reduceLE,Int.reduceLT,Int.reduceToNat,Int.reduceAdd,Int.reduceSub,Int.reduceMul,Int.reduceNeg,dw];refine Qa4 mixed (fun p:{p:Nat // Q≤p∧p<BW}=>St.of [(8,.int .i64 (s:Int)),(9,dw (digs BW d)),(10,.bs 706 1 0 (N+1)),(11,.int .i64 (k:Int)),(12,.bs 1004 1 0 nq),(13,.int .i64 (i:Int)),(14,.int .u64 (p.1:Int)),(15,.bs 706 1 i (k+1)),(16,dw (digs BW (d*p.1)))]
     [(706,wB (lows BW S (N+1))),(1004,wB (mix BW 0 (R0/d) nq (i+1)))]) (fun p=>p.1) ⟨g,hgQ,hgB⟩ ?_ ?_
    ·refine Qas (θ:=[(706,706),(1004,1004)]) rfl ?_ ?_
     ·simp [Qae,lkp,ren1,ren0,dw]
     ·simp [Qar,lkp,Box.renames]
    ·rintro⟨p,hp1,hp2⟩;simp only at hp1 hp2 ⊢;have hlp:(digs BW (d*p)).length≤1000000000:=hLd p hp2;have hcm:=Qdg W (d*p) (by omega) hlp;simp -implicitDefEqProofs only [go_sem,Nat.reduceAdd,Nat.reduceMul,Nat.reduceEqDiff,Nat.reduceLT,Nat.reduceLeDiff,Nat.reduceSub,Nat.reduceBEq,reduceIte,reduceCtorEq,Int.reduceEq,Int.reduceNe,Nat.reduceBneDiff,Int.reduceLE,Int.reduceLT,Int.reduceToNat,Int.reduceAdd,Int.reduceSub,Int.reduceMul,Int.reduceNeg,dw];refine Qb6 _ _ _ _ _ _ _ _ _ htB ?_;simp -implicitDefEqProofs only [go_sem,Nat.reduceAdd,Nat.reduceMul,Nat.reduceEqDiff,Nat.reduceLT,Nat.reduceLeDiff,Nat.reduceSub,Nat.reduceBEq,reduceIte,reduceCtorEq,Int.reduceEq,Int.reduceNe,Nat.reduceBneDiff,Int.reduceLE,Int.reduceLT,Int.reduceToNat,Int.reduceAdd,Int.reduceSub,Int.reduceMul,Int.reduceNeg,wB,dw,List.length_map,hll,b7,hesc];refine Qag _ _ _ _ _ _ _ _ _ hcm ?_;by_cases hlt:W<d*p
     ·have k1:(cmpW W (d*p)<0)=True:=by simp only [eq_iff_iff,iff_true];exact(Qd4 _ _).2 hlt
      have hpQ:Q<p:=by
       rcases Nat.lt_or_ge Q p with h'|h'
       ·exact h'
       ·have:=Nat.mul_le_mul_left d (show p≤Q from h');have:=hQle;omega
      have hsb2:=Qr0 (d*p) d (Nat.le_mul_of_pos_right d (by omega)) hlp;have e6:d*p-d=d*(p-1):=by rw [Nat.mul_sub,Nat.mul_one]
      rw [e6]at hsb2;have w5:IntKind.u64.wrap ((p:Int)-1)=((p-1:Nat):Int):=by rw [Qbx];simp only [BW]at hp2;omega
      simp -implicitDefEqProofs only [go_sem,Nat.reduceAdd,Nat.reduceMul,Nat.reduceEqDiff,Nat.reduceLT,Nat.reduceLeDiff,Nat.reduceSub,Nat.reduceBEq,reduceIte,reduceCtorEq,Int.reduceEq,Int.reduceNe,Nat.reduceBneDiff,Int.reduceLE,Int.reduceLT,Int.reduceToNat,Int.reduceAdd,Int.reduceSub,Int.reduceMul,Int.reduceNeg,k1,w5,dw];refine Qag _ _ _ _ _ _ _ _ _ hsb2 ?_;simp -implicitDefEqProofs only [go_sem,Nat.reduceAdd,Nat.reduceMul,Nat.reduceEqDiff,Nat.reduceLT,Nat.reduceLeDiff,Nat.reduceSub,Nat.reduceBEq,reduceIte,reduceCtorEq,Int.reduceEq,Int.reduceNe,Nat.reduceBneDiff,Int.reduceLE,Int.reduceLT,Int.reduceToNat,Int.reduceAdd,Int.reduceSub,Int.reduceMul,Int.reduceNeg,dw];refine⟨⟨p-1,by omega,by omega⟩,by simp only;omega,Qas (θ:=[(706,706),(1004,1004)]) rfl ?_ ?_⟩
      ·simp [Qae,lkp,ren1,ren0,dw]
      ·simp [Qar,lkp,Box.renames]
     ·have k1:(cmpW W (d*p)<0)=False:=by simp only [eq_iff_iff,iff_false];rw [Qd4];exact hlt
      obtain rfl:p=Q:=Nat.le_antisymm (hQmax p (by omega)) hp1;simp -implicitDefEqProofs only [go_sem,Nat.reduceAdd,Nat.reduceMul,Nat.reduceEqDiff,Nat.reduceLT,Nat.reduceLeDiff,Nat.reduceSub,Nat.reduceBEq,reduceIte,reduceCtorEq,Int.reduceEq,Int.reduceNe,Nat.reduceBneDiff,Int.reduceLE,Int.reduceLT,Int.reduceToNat,Int.reduceAdd,Int.reduceSub,Int.reduceMul,Int.reduceNeg,k1,dw];refine Qb6 _ _ _ _ _ _ _ _ _ htB ?_;simp -implicitDefEqProofs only [go_sem,Nat.reduceAdd,Nat.reduceMul,Nat.reduceEqDiff,Nat.reduceLT,Nat.reduceLeDiff,Nat.reduceSub,Nat.reduceBEq,reduceIte,reduceCtorEq,Int.reduceEq,Int.reduceNe,Nat.reduceBneDiff,Int.reduceLE,Int.reduceLT,Int.reduceToNat,Int.reduceAdd,Int.reduceSub,Int.reduceMul,Int.reduceNeg,wB,dw];refine Qb6 _ _ _ _ _ _ _ _ _ hsB ?_;simp -implicitDefEqProofs only [go_sem,Nat.reduceAdd,Nat.reduceMul,Nat.reduceEqDiff,Nat.reduceLT,Nat.reduceLeDiff,Nat.reduceSub,Nat.reduceBEq,reduceIte,reduceCtorEq,Int.reduceEq,Int.reduceNe,Nat.reduceBneDiff,Int.reduceLE,Int.reduceLT,Int.reduceToNat,Int.reduceAdd,Int.reduceSub,Int.reduceMul,Int.reduceNeg,wB,List.length_map,hll,b8,b9,b10,z13,List.length_replicate,b11,b12,hmn,hlft,hllf,hlen3,hfl3,htk3,Nat.zero_add,i0,hinq,hmlq,hgoq,Int.toNat_natCast,w4];refine⟨⟨i,by omega⟩,by simp only;omega,Qas (θ:=[(706,706),(1004,1004)]) rfl ?_ ?_⟩
      ·simp [Qae,lkp,ren1,ren0,dw]
      ·rw [Qcv,hsetq];simp only [Qar,lkp,Box.renames,hfin,if_true,if_false,reduceCtorEq,Nat.reduceEqDiff,and_self,and_true,true_and];exact⟨.inl trivial,.inl trivial⟩
end Go.Proofs.YtobaaecbdlhpdaaGreat

namespace Go.Proofs.YtobaaecbdlhpdaaGreat
open Go.Vl Go.RowKit Go.Dg
theorem Zfc (a b:Nat) (hb:0<b) (ha:(digs BW a).length≤100000000) (hbl:(digs BW b).length≤100000000):Qaf Tryz.prog 98 [dw (digs BW a),dw (digs BW b)] (.tup [dw (digs BW (a/b)),dw (digs BW (a%b))]):=by
 by_cases h:a<b
 ·exact Zkz a b h ha hbl
 ·by_cases h1:b<18446744073709551616
  ·exact Zda a b (by omega) hb h1 ha
  ·refine Q5i a b (by omega) ?_ ha;refine(Qcz BW_2 b 1).2 ?_;have:=Nat.div_pos (show 18446744073709551616≤b by omega) (by decide);rw [Nat.pow_one];simp only [BW];omega
theorem Qmg {a b:Nat} (h:a≤b):(digs BW a).length≤(digs BW b).length:=
 (Qau BW_2 a _).2 (Nat.lt_of_le_of_lt h (Qbb BW_2 b))
theorem Zop (a b:Nat) (ha:(digs BW a).length≤100000000) (hb:(digs BW b).length≤100000000):Qaf Tryz.prog 90 [dw (digs BW a),dw (digs BW b)] (dw (digs BW (Nat.gcd a b))):=by
 refine Qac (tb:=[]) 19 [.tmp 4] [0,1,4,6,9] mixed Tryz.func90 rfl (by kernel_rfl) (by kernel_rfl) (by kernel_rfl) (by kernel_rfl) ?_;simp -implicitDefEqProofs only [go_sem,Nat.reduceAdd,Nat.reduceMul,Nat.reduceEqDiff,Nat.reduceLT,Nat.reduceLeDiff,Nat.reduceSub,Nat.reduceBEq,reduceIte,reduceCtorEq,Int.reduceEq,Int.reduceNe,Nat.reduceBneDiff,Int.reduceLE,Int.reduceLT,Int.reduceToNat,Int.reduceAdd,Int.reduceSub,Int.reduceMul,Int.reduceNeg,dw];refine Qa4 mixed (fun p:{p:Nat×Nat // Nat.gcd p.1 p.2=Nat.gcd a b∧(digs BW p.1).length≤100000000∧(digs BW p.2).length≤100000000}=>St.of [(0,dw (digs BW p.1.1)),(1,dw (digs BW p.1.2)),(4,.nilS)] []) (fun p=>p.1.2) ⟨(a,b),rfl,ha,hb⟩ ?_ ?_
 ·exact Qa3 (by simp [Qae,lkp,ren1,ren0,dw])
 ·rintro⟨⟨x,y⟩,h1,h2,h3⟩;simp only at h1 h2 h3 ⊢;by_cases hy:y=0
  ·subst hy;have g1:((0:Int)<((0:Nat):Int))=False:=by simp
   rw [Nat.gcd_zero_right]at h1;subst h1;simp -implicitDefEqProofs only [go_sem,Nat.reduceAdd,Nat.reduceMul,Nat.reduceEqDiff,Nat.reduceLT,Nat.reduceLeDiff,Nat.reduceSub,Nat.reduceBEq,reduceIte,reduceCtorEq,Int.reduceEq,Int.reduceNe,Nat.reduceBneDiff,Int.reduceLE,Int.reduceLT,Int.reduceToNat,Int.reduceAdd,Int.reduceSub,Int.reduceMul,Int.reduceNeg,dw,Qbd,List.map_nil,List.length_nil,g1]
  ·have hp:0<(digs BW y).length:=List.length_pos_iff.2 (mt (Qbi BW_2).1 hy);have g1:((0:Int)<((digs BW y).length:Int))=True:=by simp only [eq_iff_iff,iff_true];omega
   have hd:=Zfc x y (Nat.pos_of_ne_zero hy) h2 h3;have hr:=Nat.mod_lt x (Nat.pos_of_ne_zero hy);simp -implicitDefEqProofs only [go_sem,Nat.reduceAdd,Nat.reduceMul,Nat.reduceEqDiff,Nat.reduceLT,Nat.reduceLeDiff,Nat.reduceSub,Nat.reduceBEq,reduceIte,reduceCtorEq,Int.reduceEq,Int.reduceNe,Nat.reduceBneDiff,Int.reduceLE,Int.reduceLT,Int.reduceToNat,Int.reduceAdd,Int.reduceSub,Int.reduceMul,Int.reduceNeg,dw,List.length_map,g1];refine Qag _ _ _ _ _ _ _ _ _ hd ?_;simp -implicitDefEqProofs only [go_sem,Nat.reduceAdd,Nat.reduceMul,Nat.reduceEqDiff,Nat.reduceLT,Nat.reduceLeDiff,Nat.reduceSub,Nat.reduceBEq,reduceIte,reduceCtorEq,Int.reduceEq,Int.reduceNe,Nat.reduceBneDiff,Int.reduceLE,Int.reduceLT,Int.reduceToNat,Int.reduceAdd,Int.reduceSub,Int.reduceMul,Int.reduceNeg,dw];refine⟨⟨(y,x%y),by rw [←h1,Nat.gcd_comm x y,Nat.gcd_rec y x,Nat.gcd_comm],h3,Nat.le_trans (Qmg (Nat.le_of_lt hr)) h3⟩,by simp only;exact hr,Qa3 ?_⟩;simp [Qae,lkp,ren1,ren0,dw]
theorem Zoq (xn yn:Bool) (a b:Nat) (hab:(digs BW a).length+(digs BW b).length≤1000000000):Qaf Tryz.prog 101 [nP xn a,nP yn b] (nP (!(xn==yn)) (a*b)):=by
 have h:=Q5b a b hab;refine Qac (tb:=[]) 16 [.cell 4 105] [0,1,2,3,4] mixed Tryz.func101 rfl (by kernel_rfl) (by kernel_rfl) (by kernel_rfl) (by kernel_rfl) ?_;repeat (first|(simp -implicitDefEqProofs only [go_sem,Nat.reduceAdd,Nat.reduceMul,Nat.reduceEqDiff,Nat.reduceLT,Nat.reduceLeDiff,Nat.reduceSub,Nat.reduceBEq,reduceIte,reduceCtorEq,Int.reduceEq,Int.reduceNe,Nat.reduceBneDiff,Int.reduceLE,Int.reduceLT,Int.reduceToNat,Int.reduceAdd,Int.reduceSub,Int.reduceMul,Int.reduceNeg,nP,dw])|((with_reducible refine Qab h ?_ ?_ ?_);rfl;rfl)|(with_reducible exact Qaa _ _ (by kernel_rfl))|(with_reducible refine And.intro (Qaa _ _ (by kernel_rfl)) ?_))
theorem Zor (xn yn:Bool) (a b:Nat):sv (!(xn==yn)) (a*b)=sv xn a*sv yn b:=by
 cases xn<;>cases yn<;>simp [sv,Int.natCast_mul,Int.neg_mul,Int.mul_neg]
def nqn (xn:Bool) (a b:Nat):Nat:=if(xn&&decide (0<a%b))=true then a/b+1 else a/b
def nrn (xn:Bool) (a b:Nat):Nat:=if(xn&&decide (0<a%b))=true then b-a%b else a%b
theorem Qzo (xn:Bool) (a b:Nat) (hb:0<b):sv xn (nqn xn a b)=sv xn a/(b:Int)∧((nrn xn a b:Nat):Int)=sv xn a%(b:Int):=by
 have hb':(0:Int)<(b:Int):=by omega
 have h:=Nat.div_add_mod a b;have hr:=Nat.mod_lt a hb;have key:=(Int.ediv_emod_unique (a:=sv xn a) (r:=((nrn xn a b:Nat):Int)) (q:=sv xn (nqn xn a b)) hb').2;refine(fun t=>⟨(key t).1.symm,(key t).2.symm⟩) ?_;have e:((b*(a/b):Nat):Int)+((a%b:Nat):Int)=(a:Int):=by rw [←Int.natCast_add,h]
 rw [Int.natCast_mul]at e;cases xn with
 |false=>
  simp only [sv,nqn,nrn,Bool.false_and,Bool.false_eq_true,if_false];refine⟨by omega,by omega,by omega⟩
 |true=>
  by_cases h0:0<a%b
  ·simp only [sv,nqn,nrn,Bool.true_and,decide_eq_true_eq,h0,if_true];rw [Int.mul_neg,Int.natCast_add,Int.mul_add];generalize (b:Int)*((a/b:Nat):Int)=m at*;refine⟨by omega,by omega,by omega⟩
  ·simp only [sv,nqn,nrn,Bool.true_and,decide_eq_true_eq,h0,if_false,if_true];rw [Int.mul_neg];generalize (b:Int)*((a/b:Nat):Int)=m at*;refine⟨by omega,by omega,by omega⟩
theorem Zos (xn yn:Bool) (a b:Nat) (hb:0<b):sv (!(xn==yn)) (nqn xn a b)=sv xn a/sv yn b∧((nrn xn a b:Nat):Int)=sv xn a%sv yn b:=by
 obtain⟨h1,h2⟩:=Qzo xn a b hb;have flip: ∀(n:Bool) (m:Nat),sv (!n) m= -(sv n m):=by intro n m;cases n<;>simp [sv]
 cases yn with
 |false=>
  refine⟨?_,by simpa [sv]using h2⟩;have:(!(xn==false))=xn:=by cases xn<;>rfl
  rw [this,h1];simp [sv]
 |true=>
  have:(!(xn==true))= !xn:=by cases xn<;>rfl
  rw [this,flip,h1,h2];simp [sv,Int.ediv_neg,Int.emod_neg]
theorem Zot (xn yn:Bool) (a b:Nat) (hb:0<b) (ha:(digs BW a).length≤100000000) (hbl:(digs BW b).length≤100000000):Qaf Tryz.prog 86 [nP xn a,nP yn b] (.tup [nP (!(xn==yn)) (nqn xn a b),nP false (nrn xn a b)]):=by
 have hd:=Zfc a b hb ha hbl;have hr:=Nat.mod_lt a hb;cases xn with
 |false=>
  have e1:nqn false a b=a/b:=by simp [nqn]
  have e2:nrn false a b=a%b:=by simp [nrn]
  rw [e1,e2];refine Qac (tb:=[]) 39 [.cell 4 105,.cell 5 105] [0,1,2,3,4,5,6,7,22] mixed Tryz.func86 rfl (by kernel_rfl) (by kernel_rfl) (by kernel_rfl) (by kernel_rfl) ?_;repeat (first|(simp -implicitDefEqProofs only [go_sem,Nat.reduceAdd,Nat.reduceMul,Nat.reduceEqDiff,Nat.reduceLT,Nat.reduceLeDiff,Nat.reduceSub,Nat.reduceBEq,reduceIte,reduceCtorEq,Int.reduceEq,Int.reduceNe,Nat.reduceBneDiff,Int.reduceLE,Int.reduceLT,Int.reduceToNat,Int.reduceAdd,Int.reduceSub,Int.reduceMul,Int.reduceNeg,nP,dw])|((with_reducible refine Qab hd ?_ ?_ ?_);rfl;rfl)|(with_reducible exact Qaa _ _ (by kernel_rfl))|(with_reducible refine And.intro (Qaa _ _ (by kernel_rfl)) ?_))
 |true=>
  by_cases h0:a%b=0
  ·have g1:((0:Int)<((0:Nat):Int))=False:=by simp
   have e1:nqn true a b=a/b:=by simp [nqn,h0]
   have e2:nrn true a b=0:=by simp [nrn,h0]
   rw [e1,e2];rw [h0,Qbd]at hd;refine Qac (tb:=[]) 39 [.cell 4 105,.cell 5 105] [0,1,2,3,4,5,6,7,22] mixed Tryz.func86 rfl (by kernel_rfl) (by kernel_rfl) (by kernel_rfl) (by kernel_rfl) ?_;repeat (first|(simp -implicitDefEqProofs only [go_sem,Nat.reduceAdd,Nat.reduceMul,Nat.reduceEqDiff,Nat.reduceLT,Nat.reduceLeDiff,Nat.reduceSub,Nat.reduceBEq,reduceIte,reduceCtorEq,Int.reduceEq,Int.reduceNe,Nat.reduceBneDiff,Int.reduceLE,Int.reduceLT,Int.reduceToNat,Int.reduceAdd,Int.reduceSub,Int.reduceMul,Int.reduceNeg,nP,dw,Qbd,List.map_nil,List.length_nil,g1])|((with_reducible refine Qab hd ?_ ?_ ?_);rfl;rfl)|(with_reducible exact Qaa _ _ (by kernel_rfl))|(with_reducible refine And.intro (Qaa _ _ (by kernel_rfl)) ?_))
  ·have hp:0<(digs BW (a%b)).length:=List.length_pos_iff.2 (mt (Qbi BW_2).1 h0);have g1:((0:Int)<((digs BW (a%b)).length:Int))=True:=by simp only [eq_iff_iff,iff_true];omega
   have e1:nqn true a b=a/b+1:=by simp only [nqn,Bool.true_and,decide_eq_true_eq];rw [if_pos (by omega)]
   have e2:nrn true a b=b-a%b:=by simp only [nrn,Bool.true_and,decide_eq_true_eq];rw [if_pos (by omega)]
   have hd1:digs BW 1=[1]:=by rw [Qf7 BW_2 (by decide),show 1%BW=1 from by decide,show 1/BW=0 from by decide,Qbd]
   have hq:=Qmg (Nat.div_le_self a b);have had:=Zfd (a/b) 1 (by omega) (by rw [hd1];simp);rw [hd1]at had;have hsb:=Qr0 b (a%b) (Nat.le_of_lt hr) (by omega);rw [e1,e2];refine Qac (tb:=[]) 39 [.cell 4 105,.cell 5 105] [0,1,2,3,4,5,6,7,22] mixed Tryz.func86 rfl (by kernel_rfl) (by kernel_rfl) (by kernel_rfl) (by kernel_rfl) ?_;repeat (first|(simp -implicitDefEqProofs only [go_sem,Nat.reduceAdd,Nat.reduceMul,Nat.reduceEqDiff,Nat.reduceLT,Nat.reduceLeDiff,Nat.reduceSub,Nat.reduceBEq,reduceIte,reduceCtorEq,Int.reduceEq,Int.reduceNe,Nat.reduceBneDiff,Int.reduceLE,Int.reduceLT,Int.reduceToNat,Int.reduceAdd,Int.reduceSub,Int.reduceMul,Int.reduceNeg,nP,dw,List.length_map,g1,List.map_cons,List.map_nil])|((with_reducible refine Qab hd ?_ ?_ ?_);rfl;rfl)|((with_reducible refine Qab had ?_ ?_ ?_);rfl;rfl)|((with_reducible refine Qab hsb ?_ ?_ ?_);rfl;rfl)|(with_reducible exact Qaa _ _ (by kernel_rfl))|(with_reducible refine And.intro (Qaa _ _ (by kernel_rfl)) ?_))
end Go.Proofs.YtobaaecbdlhpdaaGreat

namespace Go.Proofs.YtobaaecbdlhpdaaGreat
open Go.Vl Go.RowKit Go.Dg
theorem Qmf: ∀l:List Nat,(∀d∈l,d<256)→bnum (l.reverse.map fun d=>UInt8.ofNat d)=val 256 l
 | [],_=>rfl
 |d::r,h=>by
  rw [List.reverse_cons,List.map_append,List.map_cons,List.map_nil,Qlj,Qmf r fun x hx=>h x (by simp [hx])];rw [UInt8.toNat_ofNat_of_lt' (h d (by simp))];simp only [val];omega
theorem Q5f (m:Nat):bnum (magL m)=m:=by
 rw [magL,Qmf _ fun d hd=>Qtm (by decide) hd,Qv8 (by decide)]
theorem Q5g {neg:Bool} {l:List UInt8} (h:Qbe neg l=true):magL (bnum l)=l:=by
 have hv:bnum l=val 256 (l.reverse.map UInt8.toNat):=by
  have h2:=Qmf (l.reverse.map UInt8.toNat) (by intro d hd;obtain⟨b,_,rfl⟩:=List.mem_map.1 hd;exact b.toNat_lt);rw [←h2,←List.map_reverse,List.reverse_reverse,List.map_map];congr 1
  conv=>lhs;rw [←List.map_id l]
  apply List.map_congr_left;intro b _;simp
 have ht:Qe2 (l.reverse.map UInt8.toNat)=l.reverse.map UInt8.toNat:=by
  refine Qx3 ?_;intro d hd;cases l with
  |nil=>simp at hd
  |cons b r=>
   simp at hd;subst hd;simp only [Qbe,Bool.and_eq_true]at h;have hb:b≠0:=by simpa using h.2
   intro e;exact hb (UInt8.toNat_inj.1 (by simpa using e))
 have hd:digs 256 (bnum l)=l.reverse.map UInt8.toNat:=by
  rw [hv,←Qo8 (by decide) _ (by intro d hd;obtain⟨b,_,rfl⟩:=List.mem_map.1 hd;exact b.toNat_lt),ht]
 rw [magL,hd,←List.map_reverse,List.reverse_reverse,List.map_map]
 conv=>rhs;rw [←List.map_id l]
 apply List.map_congr_left;intro b _;simp
theorem Zc7 (neg:Bool) (s:ByteArray) (h:Qbe neg s.data.toList=true):decide (wnum neg s<0)=neg:=by
 unfold wnum sv;cases neg with
 |false=>simp
 |true=>
  cases hl:s.data.toList with
  |nil=>rw [hl]at h;simp [Qbe]at h
  |cons b r=>
   rw [hl]at h;simp only [Qbe,Bool.and_eq_true]at h;have hb:b.toNat≠0:=fun e=>by
    have:b≠0:=by simpa using h.2
    exact this (UInt8.toNat_inj.1 (by simpa using e))
   have:=Qmd b r;have hp:0<b.toNat*256^r.length:=Nat.mul_pos (Nat.pos_of_ne_zero hb) (Nat.pow_pos (by decide));simp;omega
theorem Zc8 (neg:Bool) (s:ByteArray) (h:Qbe neg s.data.toList=true):wPV (wnum neg s)= .agg [.bool neg,.str s]:=by
 have e:(wnum neg s).natAbs=bnum s.data.toList:=by unfold wnum sv;cases neg<;>simp
 rw [wPV,Zc7 neg s h,e,Q5g h]
theorem Qcm (n:Int):wnum (decide (n<0)) ⟨(magL n.natAbs).toArray⟩=n:=by
 unfold wnum sv;rw [show(⟨(magL n.natAbs).toArray⟩:ByteArray).data.toList=magL n.natAbs from rfl,Q5f];by_cases h:n<0
 ·simp [h];omega
 ·simp [h];omega
theorem Qus (n:Int) (h:(digs 256 n.natAbs).length≤8192):Qbe (decide (n<0)) (magL n.natAbs)=true:=by
 by_cases h0:n.natAbs=0
 ·have:n=0:=by omega
  subst this;simp [magL,Qbd,Qbe]
 ·obtain⟨d,hd,hd2⟩:=Q8a h0;have ht:=Qdn (B:=256) (by decide) h0;cases hl:magL n.natAbs with
  |nil=>
   have:=Qde n.natAbs;rw [hl]at this;exact absurd ((Qbi (by decide)).1 (List.length_eq_zero_iff.1 this.symm)) h0
  |cons b r=>
   have hlen:=Qde n.natAbs;rw [hl]at hlen;have hb:b=d:=by
    have h3:(⟨(magL n.natAbs).toArray⟩:ByteArray)[0]? =(magL n.natAbs)[0]? :=by
     rw [Qq4 _ 0 (by show 0<(magL n.natAbs).length;rw [hl];simp)];exact(List.getElem?_eq_getElem _).symm
    rw [hd,hl]at h3;simpa using h3.symm
   simp only [Qbe,Bool.and_eq_true,decide_eq_true_eq];refine⟨by omega,?_⟩;simp only [bne_iff_ne,ne_eq];intro e;rw [hb]at e;subst e;simp at hd2;exact ht.1 hd2.symm
end Go.Proofs.YtobaaecbdlhpdaaGreat

namespace Go.Proofs.YtobaaecbdlhpdaaGreat
open Go.Vl Go.RowKit Go.Dg
theorem Zou (an bn:Bool) (a b:ByteArray) (h1:Qbe an a.data.toList=true) (h2:Qbe bn b.data.toList=true) (ha:a.size≤100000) (hb:b.size≤100000):
  Qaf Tryz.prog 96 [.agg [.bool an,.str a],.agg [.bool bn,.str b]] (Qhy (wnum an a*wnum bn b)):=by
 have hv:=Qr1 an bn a b;rw [h1,h2,Bool.true_and]at hv;have hL1:=Qf0 a ha;have hL2:=Qf0 b hb;have hoa:=Qnj an a h1 (by omega);have hob:=Qnj bn b h2 (by omega);have hm:=Zoq an bn (bnum a.data.toList) (bnum b.data.toList) (by omega);have hL:(digs BW (bnum a.data.toList*bnum b.data.toList)).length≤1000000:=by
  refine Nat.le_trans ((Qau BW_2 _ ((digs BW (bnum a.data.toList)).length+(digs BW (bnum b.data.toList)).length)).2 ?_) (by omega);rw [Nat.pow_add];exact Nat.mul_lt_mul'' (Qbb BW_2 _) (Qbb BW_2 _)
 have hw:=Qjk (!(an==bn)) _ hL;rw [Zor,Qg8]at hw;rw [wnum,wnum,Qg8];refine Qac (tb:=[]) 19 [.cell 4 66,.tmp 5] [0,1,2,3,4,5,9] mixed Tryz.func96 rfl (by kernel_rfl) (by kernel_rfl) (by kernel_rfl) (by kernel_rfl) ?_;repeat (first|(simp -implicitDefEqProofs only [go_sem,Nat.reduceAdd,Nat.reduceMul,Nat.reduceEqDiff,Nat.reduceLT,Nat.reduceLeDiff,Nat.reduceSub,Nat.reduceBEq,reduceIte,reduceCtorEq,Int.reduceEq,Int.reduceNe,Nat.reduceBneDiff,Int.reduceLE,Int.reduceLT,Int.reduceToNat,Int.reduceAdd,Int.reduceSub,Int.reduceMul,Int.reduceNeg,nP,dw,wPV])|((with_reducible refine Qab hv ?_ ?_ ?_);rfl;rfl)|((with_reducible refine Qab hoa ?_ ?_ ?_);rfl;rfl)|((with_reducible refine Qab hob ?_ ?_ ?_);rfl;rfl)|((with_reducible refine Qab hm ?_ ?_ ?_);rfl;rfl)|((with_reducible refine Qab hw ?_ ?_ ?_);rfl;rfl)|(with_reducible exact Qaa _ _ (by kernel_rfl))|(with_reducible refine And.intro (Qaa _ _ (by kernel_rfl)) ?_))
theorem Zov (an bn:Bool) (a b:ByteArray) (h1:Qbe an a.data.toList=true) (h2:Qbe bn b.data.toList=true) (ha:a.size≤100000) (hb:b.size≤100000):
  Qaf Tryz.prog 70 [.agg [.bool an,.str a],.agg [.bool bn,.str b]] (Qhy ((Nat.gcd (bnum a.data.toList) (bnum b.data.toList):Nat):Int)):=by
 have hv:=Qr1 an bn a b;rw [h1,h2,Bool.true_and]at hv;have hL1:=Qf0 a ha;have hL2:=Qf0 b hb;have hoa:=Qp2 a (by omega);have hob:=Qp2 b (by omega);rw [Qio h1]at hoa;rw [Qio h2]at hob;have hg:=Zop (bnum a.data.toList) (bnum b.data.toList) (by omega) (by omega);have hL:(digs BW (Nat.gcd (bnum a.data.toList) (bnum b.data.toList))).length≤1000000:=by
  rcases Nat.eq_zero_or_pos (bnum a.data.toList)with h0|h0
  ·rw [h0,Nat.gcd_zero_left];omega
  ·exact Nat.le_trans (Qmg (Nat.gcd_le_left _ h0)) (by omega)
 have hw:=Qjk false _ hL;have e:sv false (Nat.gcd (bnum a.data.toList) (bnum b.data.toList))=((Nat.gcd (bnum a.data.toList) (bnum b.data.toList):Nat):Int):=rfl;rw [e,Qg8]at hw;rw [Qg8];refine Qac (tb:=[]) 22 [.cell 4 66,.tmp 5] [0,1,2,3,4,5,9] mixed Tryz.func70 rfl (by kernel_rfl) (by kernel_rfl) (by kernel_rfl) (by kernel_rfl) ?_;repeat (first|(simp -implicitDefEqProofs only [go_sem,Nat.reduceAdd,Nat.reduceMul,Nat.reduceEqDiff,Nat.reduceLT,Nat.reduceLeDiff,Nat.reduceSub,Nat.reduceBEq,reduceIte,reduceCtorEq,Int.reduceEq,Int.reduceNe,Nat.reduceBneDiff,Int.reduceLE,Int.reduceLT,Int.reduceToNat,Int.reduceAdd,Int.reduceSub,Int.reduceMul,Int.reduceNeg,nP,dw,wPV])|((with_reducible refine Qab hv ?_ ?_ ?_);rfl;rfl)|((with_reducible refine Qab hoa ?_ ?_ ?_);rfl;rfl)|((with_reducible refine Qab hob ?_ ?_ ?_);rfl;rfl)|((with_reducible refine Qab hg ?_ ?_ ?_);rfl;rfl)|((with_reducible refine Qab hw ?_ ?_ ?_);rfl;rfl)|(with_reducible exact Qaa _ _ (by kernel_rfl))|(with_reducible refine And.intro (Qaa _ _ (by kernel_rfl)) ?_))
end Go.Proofs.YtobaaecbdlhpdaaGreat

namespace Go.Proofs.YtobaaecbdlhpdaaGreat
open Go.Vl Go.RowKit Go.Dg
def Zdb (x y:Int):PV:= .tup [wPV (outN (x/y)),wPV (outN (x%y)),.int .i64 0]
theorem Zow (xn:Bool) (a b:Nat):nqn xn a b≤a+1:=by
 have:=Nat.div_le_self a b;unfold nqn;split<;>omega
theorem Zox (xn:Bool) (a b:Nat) (hb:0<b):nrn xn a b≤b:=by
 have:=Nat.mod_lt a hb;unfold nrn;split<;>omega
theorem Zk0 (a:Nat):(digs BW (a+1)).length≤(digs BW a).length+1:=by
 refine(Qau BW_2 _ _).2 ?_;have h:=Qbb BW_2 a;rw [Nat.pow_succ];generalize BW^(digs BW a).length=M at*;simp only [BW];omega
theorem Zdc {l:List UInt8} (h:l≠ []):(l== [])=false:=by cases l with|nil=>exact absurd rfl h|cons=>rfl
theorem Zoy (an bn:Bool) (a b:ByteArray) (h1:Qbe an a.data.toList=true) (h2:Qbe bn b.data.toList=true) (h0:b.data.toList≠ []) (ha:a.size≤100000) (hb:b.size≤100000):
  Qaf Tryz.prog 58 [.agg [.bool an,.str a],.agg [.bool bn,.str b]] (Zdb (wnum an a) (wnum bn b)):=by
 have hv:=Qr1 an bn a b;rw [h1,h2,Bool.true_and]at hv;have hL1:=Qf0 a ha;have hL2:=Qf0 b hb;have hoa:=Qnj an a h1 (by omega);have hob:=Qnj bn b h2 (by omega);have hbp:0<bnum b.data.toList:=by
  cases hl:b.data.toList with
  |nil=>exact absurd hl h0
  |cons c r=>
   rw [hl]at h2;simp only [Qbe,Bool.and_eq_true]at h2;have hc:c.toNat≠0:=fun e=>by
    have:c≠0:=by simpa using h2.2
    exact this (UInt8.toNat_inj.1 (by simpa using e))
   rw [Qmd];have hp:0<c.toNat*256^r.length:=Nat.mul_pos (Nat.pos_of_ne_zero hc) (Nat.pow_pos (by decide));omega
 have he:=Zdc h0;have hd:=Zot an bn (bnum a.data.toList) (bnum b.data.toList) hbp (by omega) (by omega);obtain⟨d1,d2⟩:=Zos an bn (bnum a.data.toList) (bnum b.data.toList) hbp;have hq:=Qjk (!(an==bn)) (nqn an (bnum a.data.toList) (bnum b.data.toList)) (Nat.le_trans (Qmg (Zow _ _ _)) (Nat.le_trans (Zk0 _) (by omega)));have hr:=Qjk false (nrn an (bnum a.data.toList) (bnum b.data.toList)) (Nat.le_trans (Qmg (Zox _ _ _ hbp)) (by omega));have e2:sv false (nrn an (bnum a.data.toList) (bnum b.data.toList))=((nrn an (bnum a.data.toList) (bnum b.data.toList):Nat):Int):=rfl;rw [d1,Qg8]at hq;rw [e2,d2,Qg8]at hr;unfold Zdb wnum;refine Qac (tb:=[]) 40 [.cell 4 66,.cell 5 66,.tmp 6] [0,1,2,3,4,5,6,7,8,12,17] mixed Tryz.func58 rfl (by kernel_rfl) (by kernel_rfl) (by kernel_rfl) (by kernel_rfl) ?_
 repeat (first|(simp -implicitDefEqProofs only [go_sem,Nat.reduceAdd,Nat.reduceMul,Nat.reduceEqDiff,Nat.reduceLT,Nat.reduceLeDiff,Nat.reduceSub,Nat.reduceBEq,reduceIte,reduceCtorEq,Int.reduceEq,Int.reduceNe,Nat.reduceBneDiff,Int.reduceLE,Int.reduceLT,Int.reduceToNat,Int.reduceAdd,Int.reduceSub,Int.reduceMul,Int.reduceNeg,he,nP,dw,wPV])|((with_reducible refine Qab hv ?_ ?_ ?_);rfl;rfl)|((with_reducible refine Qab hoa ?_ ?_ ?_);rfl;rfl)|((with_reducible refine Qab hob ?_ ?_ ?_);rfl;rfl)|((with_reducible refine Qab hd ?_ ?_ ?_);rfl;rfl)|((with_reducible refine Qab hq ?_ ?_ ?_);rfl;rfl)|((with_reducible refine Qab hr ?_ ?_ ?_);rfl;rfl)|(with_reducible exact Qaa _ _ (by kernel_rfl))|(with_reducible refine And.intro (Qaa _ _ (by kernel_rfl)) ?_))
end Go.Proofs.YtobaaecbdlhpdaaGreat

namespace Go.Dg
theorem p256 (k:Nat):(256:Nat)^k=2^(8*k):=by rw [show(256:Nat)=2^8 from rfl,←Nat.pow_mul]
theorem Zmo {m B k:Nat} (h:m<2^B) (hk:B≤8*k):m<256^k:=by
 rw [p256];exact Nat.lt_of_lt_of_le h (Nat.pow_le_pow_right (by decide) hk)
theorem Qhu {m B C:Nat} (h:m<2^B) (hk:B≤C):m<2^C:=Nat.lt_of_lt_of_le h (Nat.pow_le_pow_right (by decide) hk)
theorem Qan {m B:Nat} (h:m<2^B) (hk:B≤65536):m<2^65536:=Qhu (C:=65536) h hk
end Go.Dg

namespace Go.Proofs.YtobaaecbdlhpdaaGreat
open Go.Vl Go.RowKit Go.Dg
end Go.Proofs.YtobaaecbdlhpdaaGreat

namespace Go.Proofs.YtobaaecbdlhpdaaGreat
open Go.Vl Go.RowKit Go.Dg
def big (x y:Int):Bool:=decide (65536<blen x.natAbs)||decide (65536<blen y.natAbs)
theorem Zoz (n:Bool) (m:Nat):(sv n m).natAbs=m:=by cases n<;>simp [sv]
end Go.Proofs.YtobaaecbdlhpdaaGreat

namespace Go.Proofs.YtobaaecbdlhpdaaGreat
open Go.Vl Go.RowKit Go.Dg
theorem Qp0 (n:Int):(magL n.natAbs=[])↔n=0:=by
 have h:=Qde n.natAbs;constructor
 ·intro e;rw [e]at h;have:=(Qbi (B:=256) (by decide)).1 (List.length_eq_zero_iff.1 h.symm);omega
 ·rintro rfl;simp [magL,Qbd]
end Go.Proofs.YtobaaecbdlhpdaaGreat

namespace Go.Proofs.YtobaaecbdlhpdaaGreat
open Go.Vl Go.RowKit Go.Dg
end Go.Proofs.YtobaaecbdlhpdaaGreat

namespace Go.Proofs.YtobaaecbdlhpdaaGreat
open Go.Vl Go.RowKit Go.Dg
end Go.Proofs.YtobaaecbdlhpdaaGreat

namespace Go.Proofs.YtobaaecbdlhpdaaGreat
open Go.Vl Go.RowKit Go.Dg
theorem mod_lt {y:Int} {k:Nat} (x:Int) (h0:y≠0) (hy:y.natAbs<256^k):(x%y).natAbs<256^k:=by
 have h1:=Int.emod_nonneg x h0;have h2:=Int.emod_lt x h0;omega
theorem Zgk {n:Bool} {s:ByteArray} (h:Qbe n s.data.toList=true) (h0:s.data.toList≠ []):wnum n s≠0:=by
 intro e;have h1:=Zc8 n s h;rw [e,Qwn]at h1;simp only [PV.agg.injEq,List.cons.injEq,PV.str.injEq,PV.bool.injEq,and_true]at h1;exact h0 (by rw [←h1.2])
theorem Q8b {n:Bool} {s:ByteArray} (h0:s.data.toList=[]):wnum n s=0:=by
 unfold wnum sv;rw [h0];cases n<;>rfl
section
variable (a b c d:Int) (k:Nat) (hk:k≤10000) (ha:a.natAbs<256^k) (hb:b.natAbs<256^k) (hc:c.natAbs<256^k) (hd:d.natAbs<256^k)
include hk ha hb hc hd
end
end Go.Proofs.YtobaaecbdlhpdaaGreat

namespace Go.Dg

/-! ### sums -/
/-- The sum of the first n values. -/
def sm (f:Nat→Int):Nat→Int
  |0=>0
  |n+1=>sm f n+f n
theorem Qa8 {f g:Nat→Int}: ∀(n:Nat),(∀i,i<n→f i=g i)→sm f n=sm g n
  |0,_=>rfl
  |n+1,h=>by rw [sm,sm,Qa8 n (fun i hi=>h i (Nat.lt_succ_of_lt hi)),h n (Nat.lt_succ_self n)]
theorem Qlu {f:Nat→Int}: ∀(n:Nat),(∀i,i<n→f i=0)→sm f n=0
  |0,_=>rfl
  |n+1,h=>by rw [sm,Qlu n (fun i hi=>h i (Nat.lt_succ_of_lt hi)),h n (Nat.lt_succ_self n)];rfl
theorem Qrg (f g:Nat→Int): ∀n,sm (fun i=>f i+g i) n=sm f n+sm g n
  |0=>rfl
  |n+1=>by simp only [sm,Qrg f g n];omega
theorem Qcx (c:Int) (f:Nat→Int): ∀n,sm (fun i=>c*f i) n=c*sm f n
  |0=>by simp [sm]
  |n+1=>by simp only [sm,Qcx c f n,Int.mul_add]
theorem Qic (f:Nat→Int): ∀n,sm f (n+1)=f 0+sm (fun i=>f (i+1)) n
  |0=>by simp [sm]
  |n+1=>by rw [sm,Qic f n,sm];omega
theorem Q1i (f:Nat→Int) {n m:Nat} (h:n≤m) (hz: ∀i,n≤i→i<m→f i=0):sm f m=sm f n:=by
  induction m with
  |zero=>
        obtain rfl:n=0:=by omega
        rfl
  |succ m ih=>
    rcases Nat.lt_or_eq_of_le h with h1|h1
    · rw [sm,ih (by omega) (fun i a b=>hz i a (by omega)),hz m (by omega) (by omega),Int.add_zero]
    · rw [h1]
theorem Q1j (g:Nat→Nat→Int): ∀n,sm (fun j=>sm (fun i=>g i j) (j+1)) n=sm (fun i=>sm (fun k=>g i (i+k)) (n-i)) n
  |0=>rfl
  |n+1=>by
    rw [sm,Q1j g n];have h1:sm (fun i=>sm (fun k=>g i (i+k)) (n+1-i)) n=sm (fun i=>sm (fun k=>g i (i+k)) (n-i)+g i n) n:=
      Qa8 n fun i hi=>by
        have e:n+1-i=(n-i)+1:=by omega
        have e2:i+(n-i)=n:=by omega
        rw [e,sm,e2]
    have e3:n+1-n=1:=by omega
    rw [sm,sm,h1,Qrg,e3];simp only [sm,Nat.add_zero,Int.zero_add];omega
theorem Q1k (f:Nat→Nat→Int) (m:Nat): ∀n,sm (fun i=>sm (fun j=>f i j) m) n=sm (fun j=>sm (fun i=>f i j) n) m
  |0=>(Qlu m (fun _ _=>rfl)).symm
  |n+1=>by rw [sm,Q1k f m n,←Qrg];rfl
theorem Q1l {f g:Nat→Int}: ∀(n:Nat),(∀i,i<n→f i≤g i)→sm f n≤sm g n
  |0,_=>Int.le_refl 0
  |n+1,h=>Int.add_le_add (Q1l n fun i hi=>h i (Nat.lt_succ_of_lt hi)) (h n (Nat.lt_succ_self n))

/-! ### binomials -/
/-- The number of ways to choose k of n elements. -/
def bin:Nat→Nat→Nat
  |_,0=>1
  |0,_+1=>0
  |n+1,k+1=>bin n k+bin n (k+1)
theorem Qk5 (n:Nat):bin n 0=1:=by cases n<;>rfl
theorem Q1m: ∀{n k:Nat},n<k→bin n k=0
  |0,0,h=>absurd h (Nat.lt_irrefl 0)
  |0,_+1,_=>rfl
  |n+1,0,h=>absurd h (Nat.not_lt_zero _)
  |n+1,k+1,h=>by rw [bin,Q1m (by omega),Q1m (by omega)]
theorem Qtt: ∀{n k:Nat},k≤n→0<bin n k
  |_,0,_=>by rw [Qk5];decide
  |0,k+1,h=>absurd h (by omega)
  |n+1,k+1,h=>by rw [bin];have:=Qtt (n:=n) (k:=k) (by omega);omega
theorem Qjc: ∀(n k:Nat),bin n k≤2^n
  |0,0=>by decide
  |0,_+1=>by simp [bin]
  |n+1,0=>by rw [Qk5];exact Nat.pow_pos (by decide)
  |n+1,k+1=>by rw [bin,Nat.pow_succ];have:=Qjc n k;have:=Qjc n (k+1);omega
theorem Qkt (x:Int) (n:Nat):x^(n+1)=x*x^n:=by rw [Int.pow_succ,Int.mul_comm]
/-- The power of a sum. -/
theorem Qlv (a b:Int): ∀n,sm (fun k=>(bin n k:Int)*(a^k*b^(n-k))) (n+1)=(a+b)^n
  |0=>by simp [sm,bin]
  |n+1=>by
    have ih:=Qlv a b n;rw [Qic];have h1:sm (fun k=>(bin (n+1) (k+1):Int)*(a^(k+1)*b^(n+1-(k+1)))) (n+1)
        =sm (fun k=>a*((bin n k:Int)*(a^k*b^(n-k)))+(bin n (k+1):Int)*(a^(k+1)*b^(n-k))) (n+1):=
      Qa8 _ fun k _=>by
        have e:n+1-(k+1)=n-k:=by omega
        rw [e,bin,Int.natCast_add,Int.add_mul,Qkt];congr 1;rw [Int.mul_assoc,Int.mul_left_comm]
    rw [h1,Qrg,Qcx,ih];have h2:sm (fun k=>(bin n (k+1):Int)*(a^(k+1)*b^(n-k))) (n+1)=sm (fun k=>b*((bin n (k+1):Int)*(a^(k+1)*b^(n-(k+1))))) n:=by
      rw [sm,Q1m (Nat.lt_succ_self n),Int.natCast_zero,Int.zero_mul,Int.add_zero];refine Qa8 _ fun k hk=> ?_;have e:n-k=(n-(k+1))+1:=by omega
      rw [e,Qkt b];simp only [Int.mul_comm,Int.mul_left_comm,Int.mul_assoc]
    have h3:=Qic (fun k=>(bin n k:Int)*(a^k*b^(n-k))) n;rw [ih]at h3;rw [h2,Qcx,Qk5];rw [Qk5]at h3;simp only [Int.pow_zero,Int.one_mul,Nat.sub_zero,Int.natCast_one]at h3 ⊢;rw [Qkt,Qkt,Int.add_mul,h3];simp only [Int.mul_add];omega

/-! ### polynomials by their values -/
/-- A polynomial at x/y,times y to the power of its degree. -/
def hev:List Int→Int→Int→Int
  | [],_,_=>0
  |c::r,x,y=>c*y^r.length+x*hev r x y
theorem Qga: ∀(p:List Int) (x y:Int),hev p x y=sm (fun i=>p.getD i 0*(x^i*y^(p.length-1-i))) p.length
  | [],_,_=>rfl
  |c::r,x,y=>by
    rw [hev,List.length_cons,Qic,Qga r x y,←Qcx];congr 1
    · simp
    · refine Qa8 _ fun i hi=> ?_;have e:r.length+1-1-(i+1)=r.length-1-i:=by omega
      rw [e,Qkt,List.getD_cons_succ];simp only [Int.mul_comm,Int.mul_left_comm,Int.mul_assoc]
/-- Lists of equal length with equal values are equal. -/
theorem Qg0: ∀{p q:List Int},p.length=q.length→(∀x:Int,1≤x→hev p x 1=hev q x 1)→p=q
  | [],[],_,_=>rfl
  | [],_::_,h,_=>by simp at h
  |_::_,[],h,_=>by simp at h
  |a::p,b::q,hl,h=>by
    simp only [hev,Int.one_pow,Int.mul_one]at h;have hab:a=b:=by
      have h1:=h ((a-b).natAbs+1) (by omega);generalize hev p _ 1=A at h1;generalize hev q _ 1=B at h1;have h2:a-b=(((a-b).natAbs:Int)+1)*(B-A):=by rw [Int.mul_sub];omega
      have h3:(((a-b).natAbs:Int)+1)∣(a-b):=⟨_,h2⟩;have h4:=Int.natAbs_dvd_natAbs.2 h3;rcases Nat.eq_zero_or_pos (a-b).natAbs with h0|h0
      · omega
      · have:=Nat.le_of_dvd h0 h4;omega
    subst hab;congr 1;refine Qg0 (by simpa using hl) fun x hx=> ?_;have h1:=h x hx;have h2:x*hev p x 1=x*hev q x 1:=by omega
    exact Int.eq_of_mul_eq_mul_left (by omega) h2
/-- A list of sums of products,at two values. -/
theorem Qk6 (F:Nat→Int) (n:Nat) (x y:Int):hev ((List.range (n+1)).map F) x y=sm (fun j=>F j*(x^j*y^(n-j))) (n+1):=by
  rw [Qga];simp only [List.length_map,List.length_range];refine Qa8 _ fun j hj=> ?_;rw [List.getD_eq_getElem?_getD];simp [hj]

/-- The list whose value at x,y is the sum of f i x^i (c x+y)^(n-i). -/
def trans (f:List Int) (c:Int) (n:Nat):List Int:=(List.range (n+1)).map fun j=>sm (fun i=>f.getD i 0*(c^(j-i)*(bin (n-i) (j-i):Int))) (j+1)
theorem Qeq (f:List Int) (c:Int) (n:Nat):(trans f c n).length=n+1:=by simp [trans]
theorem Qpi (a b:Int): ∀n:Nat,(a*b)^n=a^n*b^n
  |0=>by simp
  |n+1=>by rw [Qkt,Qkt,Qkt,Qpi a b n];simp only [Int.mul_comm,Int.mul_left_comm,Int.mul_assoc]
theorem Qjd (c:Int) (f:Nat→Int) (n:Nat):sm (fun i=>f i*c) n=sm f n*c:=by
  rw [Int.mul_comm,←Qcx];exact Qa8 n fun i _=>Int.mul_comm _ _
theorem Q1n (f:List Int) (c:Int) (n:Nat) (x y:Int):hev (trans f c n) x y=sm (fun i=>f.getD i 0*(x^i*(c*x+y)^(n-i))) (n+1):=by
  rw [trans,Qk6];have h1:sm (fun j=>sm (fun i=>f.getD i 0*(c^(j-i)*(bin (n-i) (j-i):Int))) (j+1)*(x^j*y^(n-j))) (n+1)
      =sm (fun j=>sm (fun i=>f.getD i 0*(c^(j-i)*(bin (n-i) (j-i):Int))*(x^j*y^(n-j))) (j+1)) (n+1):=
    Qa8 _ fun j _=>(Qjd _ _ _).symm
  rw [h1,Q1j (fun i j=>f.getD i 0*(c^(j-i)*(bin (n-i) (j-i):Int))*(x^j*y^(n-j)))];refine Qa8 _ fun i hi=> ?_;have e:n+1-i=(n-i)+1:=by omega
  rw [←Qlv (c*x) y (n-i),e,←Qcx,←Qcx];refine Qa8 _ fun k hk=> ?_;have e1:i+k-i=k:=by omega
  have e2:n-(i+k)=n-i-k:=by omega
  rw [e1,e2,Qpi,Int.pow_add];simp only [Int.mul_comm,Int.mul_left_comm,Int.mul_assoc]
theorem Zfz {f:List Int} {n:Nat} (h:f.length≤n+1) (x s:Int):sm (fun i=>f.getD i 0*(x^i*s^(n-i))) (n+1)=s^(n+1-f.length)*hev f x s:=by
  rw [Q1i _ h (fun i h1 _=>by rw [List.getD_eq_getElem?_getD,List.getElem?_eq_none h1];simp),Qga,←Qcx];refine Qa8 _ fun i hi=> ?_;have e:n-i=(n+1-f.length)+(f.length-1-i):=by omega
  rw [e,Int.pow_add];simp only [Int.mul_comm,Int.mul_left_comm,Int.mul_assoc]
theorem Qx5 {f:List Int} {n:Nat} (h:f.length≤n+1) (c x y:Int):hev (trans f c n) x y=(c*x+y)^(n+1-f.length)*hev f x (c*x+y):=by
  rw [Q1n,Zfz h]
theorem Qe3 {f:List Int} {n:Nat} (h:f.length=n+1) (c x y:Int):hev (trans f c n) x y=hev f x (c*x+y):=by
  rw [Qx5 (by omega),h,Nat.sub_self,Int.pow_zero,Int.one_mul]
/-- Each value times a power. -/
def Zmp (b:Int) (n:Nat) (f:List Int):List Int:=(List.range (n+1)).map fun j=>f.getD j 0*b^(n-j)
end Go.Dg

namespace Go.Proofs.YtobaaecbdlhpdaaGreat
open Go.Vl Go.RowKit Go.Dg
theorem Qod {x y:Int} {B:Nat} (hx:x.natAbs<2^B) (hy:y.natAbs<2^B):(x+y).natAbs<2^(B+1):=by
 rw [Nat.pow_succ];generalize 2^B=K at*;omega
theorem Qj6 {x y:Int} {B C:Nat} (hx:x.natAbs<2^B) (hy:y.natAbs<2^C):(x*y).natAbs<2^(B+C):=by
 rw [Int.natAbs_mul,Nat.pow_add];exact Nat.mul_lt_mul'' hx hy
theorem Ze3 {x:Int} (h:x.natAbs<2^65536):(digs 256 x.natAbs).length≤8192:=(Qau (by decide) x.natAbs 8192).2 (Zmo (k:=8192) h (by decide))
theorem Qii {n:Int} (h:n.natAbs<2^65536):Qhy n= .tup [wPV n,.int .i64 0]:=by
 rw [Qhy,if_neg (Nat.not_lt.2 (Qdb 65536 _ h))]
abbrev mB (x:Int):ByteArray:=⟨(magL x.natAbs).toArray⟩
theorem Qc6 {x:Int} (h:x.natAbs<2^65536):(mB x).size≤100000:=by rw [Q2a];have:=Ze3 h;omega
theorem Qcg {x:Int} (h:x.natAbs<2^65536):Qbe (decide (x<0)) (mB x).data.toList=true:=Qus x (Ze3 h)
theorem Qma (x:Int):(bnum (mB x).data.toList)=x.natAbs:=by
 have h:=Qcm x;unfold wnum at h;have h2:=congrArg Int.natAbs h
 rwa [Zoz]at h2
theorem Ze4 {x y:Int} (hx:x.natAbs<2^65536) (hy:y.natAbs<2^65536):Qaf Tryz.prog 96 [wPV x,wPV y] (Qhy (x*y)):=by
 have h:=Zou (decide (x<0)) (decide (y<0)) (mB x) (mB y) (Qcg hx) (Qcg hy) (Qc6 hx) (Qc6 hy)
 rwa [Qcm,Qcm]at h
theorem Ze5 {x y:Int} (hx:x.natAbs<2^65536) (hy:y.natAbs<2^65536):Qaf Tryz.prog 59 [wPV x,wPV y] (Qhy (x+y)):=by
 have h:=Zok (decide (x<0)) (decide (y<0)) (mB x) (mB y) (Qcg hx) (Qcg hy) (Qc6 hx) (Qc6 hy)
 rwa [Qcm,Qcm]at h
theorem Znn {x y:Int} (hx:x.natAbs<2^65536) (hy:y.natAbs<2^65536):Qaf Tryz.prog 70 [wPV x,wPV y] (Qhy ((Nat.gcd x.natAbs y.natAbs:Nat):Int)):=by
 have h:=Zov (decide (x<0)) (decide (y<0)) (mB x) (mB y) (Qcg hx) (Qcg hy) (Qc6 hx) (Qc6 hy)
 rwa [Qma,Qma]at h
theorem Q2x {x:Int} (hx:x.natAbs<2^65536):Qaf Tryz.prog 77 [wPV x] (.int .i64 x.sign):=by
 have h:=Q5e (decide (x<0)) (mB x) (Qcg hx) (Qc6 hx)
 rwa [Qcm]at h
theorem Zno {x:Int} (hx:x.natAbs<2^65536):Qaf Tryz.prog 94 [wPV x] (.int .i64 (blen x.natAbs:Int)):=by
 have h:=Zon (decide (x<0)) (mB x) (Qcg hx) (Qc6 hx)
 rwa [Qma]at h
theorem Qmb {x:Int} (hx:x.natAbs<2^65536):Qaf Tryz.prog 28 [wPV x] (Qdh x):=by
 have h:=Zom (decide (x<0)) (mB x) (Qcg hx) (Qc6 hx)
 rwa [Qcm]at h
theorem Qoe {x y:Int} (hx:x.natAbs<2^65536) (hy:y.natAbs<2^65536):Qaf Tryz.prog 45 [wPV x,wPV y] (.int .i64 (x-y).sign):=by
 have h:=Qzn (decide (x<0)) (decide (y<0)) (mB x) (mB y) (Qcg hx) (Qcg hy) (Qc6 hx) (Qc6 hy)
 rwa [Qcm,Qcm]at h
theorem Qk9 {x:Int} (hx:x.natAbs<2^65536):Qaf Tryz.prog 56 [wPV x] (.bool true):=by
 have h:=Qfi (decide (x<0)) (mB x)
 rwa [Qcg hx]at h
theorem Znp {x:Int} (h:x≠0):(mB x).data.toList≠ []:=fun e=>h ((Qp0 x).1 e)
theorem Znq {x y:Int} (hx:x.natAbs<2^65536) (hy:y.natAbs<2^65536) (h0:y≠0):Qaf Tryz.prog 58 [wPV x,wPV y] (Zdb x y):=by
 have h:=Zoy (decide (x<0)) (decide (y<0)) (mB x) (mB y) (Qcg hx) (Qcg hy) (Znp h0) (Qc6 hx) (Qc6 hy)
 rwa [Qcm,Qcm]at h
end Go.Proofs.YtobaaecbdlhpdaaGreat

namespace Go.Proofs.YtobaaecbdlhpdaaGreat
open Go.Vl Go.RowKit Go.Dg
def wA (p:Bool×ByteArray):PV:= .agg [.bool p.1,.str p.2]
theorem Ze6 (l:List (Bool×ByteArray)) (i:Nat) (h:i<l.length):(l.map wA)[i]? =some (.agg [.bool l[i].1,.str l[i].2]):=by
 rw [List.getElem?_map,List.getElem?_eq_getElem h];rfl
theorem Znr (a b:ByteArray):(a==b)=(a.data==b.data):=rfl
def wL (xs:List Int):PV:= .slc (xs.map wPV)
theorem Qc7 (xs:List Int) (i:Nat) (h:i<xs.length):(xs.map wPV)[i]? =some (.agg [.bool (decide (xs[i]<0)),.str (mB xs[i])]):=by
 rw [List.getElem?_map,List.getElem?_eq_getElem h];rfl
theorem Zg1 (xs:List Int):(((xs.map wPV).flatMap PV.cells).all PV.okCell)=true:=by
 rw [List.all_flatMap,List.all_map,List.all_eq_true];intro _ _;rfl
theorem Q8o {α:Type} {p:α→Bool} {l:List α} {i:Nat} (hi:i<l.length) (h:(l.take i).all p=true) (hp:p l[i]=true):(l.take (i+1)).all p=true:=by
 rw [List.take_add_one,List.all_append,h];simp [hi,hp]
theorem Q2y {α:Type} {p:α→Bool} {l:List α} {i:Nat} (hi:i<l.length) (hp:p l[i]=false):l.all p=false:=by
 rw [List.all_eq_false];exact⟨l[i],List.getElem_mem hi,by simp [hp]⟩
theorem Qca {α:Type} (l:List α) (i:Nat) (hi:i<l.length):l.take (i+1)=l.take i++[l[i]]:=by rw [List.take_add_one];simp [hi]
theorem ltT {i n:Nat} (h:i<n):((i:Int)<(n:Int))=True:=by simp only [eq_iff_iff,iff_true];omega
theorem ltF {i n:Nat} (h: ¬i<n):((i:Int)<(n:Int))=False:=by simp only [eq_iff_iff,iff_false];omega
theorem nnT (i:Nat):((0:Int)≤(i:Int))=True:=by simp
def topB (l:List (Bool×ByteArray)):Bool:=match l[l.length-1]? with
 |some p=>decide (0<p.2.size)
 |none=>true
def Qwu (l:List (Bool×ByteArray)):Bool:=l.all fun p=>Qbe p.1 p.2.data.toList
def Quf (l:List (Bool×ByteArray)):Bool:=Qwu l&&(decide (l.length≤25)&&topB l)
theorem Qrx {l:List (Bool×ByteArray)} (h:l.length-1<l.length):topB l=decide (0<(l[l.length-1]'h).2.size):=by
 unfold topB;rw [List.getElem?_eq_getElem h]
theorem Q8p (l:List (Bool×ByteArray)) (hl:l.length≤100000) (hs2: ∀p∈l,p.2.size≤100000):Qaf Tryz.prog 76 [.slc (l.map wA)] (.bool (Quf l)):=by
 refine Qac (tb:=[]) 33 [.tmp 2] [0,2,4,5,6,7,8,13] mixed Tryz.func76 rfl (by kernel_rfl) (by kernel_rfl) (by kernel_rfl) (by kernel_rfl) ?_;simp -implicitDefEqProofs only [go_sem,Nat.reduceAdd,Nat.reduceMul,Nat.reduceEqDiff,Nat.reduceLT,Nat.reduceLeDiff,Nat.reduceSub,Nat.reduceBEq,reduceIte,reduceCtorEq,Int.reduceEq,Int.reduceNe,Nat.reduceBneDiff,Int.reduceLE,Int.reduceLT,Int.reduceToNat,Int.reduceAdd,Int.reduceSub,Int.reduceMul,Int.reduceNeg,List.length_map];refine Qa4 mixed (fun i:{i:Nat // i≤l.length∧(l.take i).all (fun p=>Qbe p.1 p.2.data.toList)=true}=>St.of [(0,.slc (l.map wA)),(5,.slc (l.map wA)),(6,.int .i64 (l.length:Int)),(7,.int .i64 (i.1:Int))] []) (fun i=>l.length-i.1) ⟨0,Nat.zero_le _,rfl⟩ ?_ ?_
 ·exact Qa3 (by simp [Qae,lkp,ren1,ren0])
 ·rintro⟨i,hi,hall⟩;by_cases hA:i<l.length
  ·have hA':=ltT hA;have h0:=nnT i;have hg:=Ze6 l i hA;have hwk:=Qak (a:=i) (by omega);simp -implicitDefEqProofs only [go_sem,Nat.reduceAdd,Nat.reduceMul,Nat.reduceEqDiff,Nat.reduceLT,Nat.reduceLeDiff,Nat.reduceSub,Nat.reduceBEq,reduceIte,reduceCtorEq,Int.reduceEq,Int.reduceNe,Nat.reduceBneDiff,Int.reduceLE,Int.reduceLT,Int.reduceToNat,Int.reduceAdd,Int.reduceSub,Int.reduceMul,Int.reduceNeg,hA',h0,hg,Int.toNat_natCast];refine Qag _ _ _ _ _ _ _ _ _ (Qfi l[i].1 l[i].2) ?_;cases hs:Qbe l[i].1 l[i].2.data.toList with
   |true=>
    simp -implicitDefEqProofs only [go_sem,Nat.reduceAdd,Nat.reduceMul,Nat.reduceEqDiff,Nat.reduceLT,Nat.reduceLeDiff,Nat.reduceSub,Nat.reduceBEq,reduceIte,reduceCtorEq,Int.reduceEq,Int.reduceNe,Nat.reduceBneDiff,Int.reduceLE,Int.reduceLT,Int.reduceToNat,Int.reduceAdd,Int.reduceSub,Int.reduceMul,Int.reduceNeg,hwk];exact⟨⟨i+1,hA,Q8o hA hall hs⟩,by simp only;omega,Qa3 (by simp [Qae,lkp,ren1,ren0])⟩
   |false=>
    have e:Quf l=false:=by unfold Quf Qwu;rw [Q2y hA hs];rfl
    simp -implicitDefEqProofs only [go_sem,Nat.reduceAdd,Nat.reduceMul,Nat.reduceEqDiff,Nat.reduceLT,Nat.reduceLeDiff,Nat.reduceSub,Nat.reduceBEq,reduceIte,reduceCtorEq,Int.reduceEq,Int.reduceNe,Nat.reduceBneDiff,Int.reduceLE,Int.reduceLT,Int.reduceToNat,Int.reduceAdd,Int.reduceSub,Int.reduceMul,Int.reduceNeg,e]
  ·have hA':=ltF hA;rw [List.take_of_length_le (by omega)]at hall;have e0:Quf l=(decide (l.length≤25)&&topB l):=by unfold Quf Qwu;rw [hall,Bool.true_and]
   rw [e0];by_cases h25:l.length≤25
   ·have h25':((l.length:Int)≤25)=True:=by simp only [eq_iff_iff,iff_true];omega
    rw [decide_eq_true h25,Bool.true_and];by_cases hz:l.length=0
    ·have hz':((l.length:Int)==0)=true:=by rw [hz];rfl
     have ht:topB l=true:=by rw [List.length_eq_zero_iff.1 hz];rfl
     repeat (first|(simp -implicitDefEqProofs only [go_sem,Nat.reduceAdd,Nat.reduceMul,Nat.reduceEqDiff,Nat.reduceLT,Nat.reduceLeDiff,Nat.reduceSub,Nat.reduceBEq,reduceIte,reduceCtorEq,Int.reduceEq,Int.reduceNe,Nat.reduceBneDiff,Int.reduceLE,Int.reduceLT,Int.reduceToNat,Int.reduceAdd,Int.reduceSub,Int.reduceMul,Int.reduceNeg,hA',h25',hz',ht,List.length_map]))
    ·have hz':((l.length:Int)==0)=false:=by simp only [beq_eq_false_iff_ne,ne_eq];omega
     have hlt:l.length-1<l.length:=by omega
     have hg:=Ze6 l (l.length-1) hlt;have hwm:IntKind.i64.wrap ((l.length:Int)-1)=((l.length-1:Nat):Int):=by rw [Qah (by omega) (by omega)];omega
     have h0:=nnT (l.length-1);have hv:=List.all_eq_true.1 hall _ (List.getElem_mem hlt);have hsg:=Q5e l[l.length-1].1 l[l.length-1].2 hv (hs2 _ (List.getElem_mem hlt));have e5:((wnum l[l.length-1].1 l[l.length-1].2).sign != 0)=topB l:=by
      rw [Qrx hlt,bne,Bool.eq_iff_iff];simp only [Bool.not_eq_true',beq_eq_false_iff_ne,ne_eq,Int.sign_eq_zero_iff_zero,decide_eq_true_eq];rw [Qhr];constructor
      ·intro h;refine Nat.pos_of_ne_zero fun e=>h ?_;exact Q8b (List.length_eq_zero_iff.1 e)
      ·intro h;exact Zgk hv (fun e=>by rw [e]at h;exact absurd h (by decide))
     repeat (first|(simp -implicitDefEqProofs only [go_sem,Nat.reduceAdd,Nat.reduceMul,Nat.reduceEqDiff,Nat.reduceLT,Nat.reduceLeDiff,Nat.reduceSub,Nat.reduceBEq,reduceIte,reduceCtorEq,Int.reduceEq,Int.reduceNe,Nat.reduceBneDiff,Int.reduceLE,Int.reduceLT,Int.reduceToNat,Int.reduceAdd,Int.reduceSub,Int.reduceMul,Int.reduceNeg,hA',h25',hz',hwm,h0,hg,e5,List.length_map,Int.toNat_natCast])|((with_reducible refine Qab hsg ?_ ?_ ?_);rfl;rfl))
   ·have h25':((l.length:Int)≤25)=False:=by simp only [eq_iff_iff,iff_false];omega
    rw [decide_eq_false h25,Bool.false_and];repeat (first|(simp -implicitDefEqProofs only [go_sem,Nat.reduceAdd,Nat.reduceMul,Nat.reduceEqDiff,Nat.reduceLT,Nat.reduceLeDiff,Nat.reduceSub,Nat.reduceBEq,reduceIte,reduceCtorEq,Int.reduceEq,Int.reduceNe,Nat.reduceBneDiff,Int.reduceLE,Int.reduceLT,Int.reduceToNat,Int.reduceAdd,Int.reduceSub,Int.reduceMul,Int.reduceNeg,hA',h25',List.length_map]))
end Go.Proofs.YtobaaecbdlhpdaaGreat
