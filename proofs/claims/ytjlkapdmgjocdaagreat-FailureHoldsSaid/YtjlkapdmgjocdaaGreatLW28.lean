/-
  LW19, LW24, LW20, De5, LW25, LW26, LW27, LW23, LW28 (merged for the claim).
-/
import Derived.Test.YtjlkapdmgjocdaaGreatLW22
import Derived.Test.YtjlkapdmgjocdaaGreatUY
set_option linter.unusedSimpArgs false
set_option linter.unusedVariables false
namespace Go.Proofs.YtjlkapdmgjocdaaGreat
open Go.Vl Go.RowKit Go.Dg
attribute [local go_sem high] Zkl
theorem Zml (n:Nat):Int.tdiv (n:Int) 64=((n/64:Nat):Int):=Qww n 64
theorem Zmm (n:Nat):Int.tmod (n:Int) 64=((n%64:Nat):Int):=Zwt n 64
theorem Zmn (a k:Nat) (ha:(digs BW a).length≤1000000000) (hk:k≤1000000000):Qaf Tryz.prog 122 [dw (digs BW a),.int .i64 (k:Int)] (dw (digs BW (a*2^k))):=by
 refine Qab (tb:=[]) 56 [.tmp 4] [0,1,4,5,6,7,8,9,12,23,24,25,26,42] mixed Tryz.func122 rfl (by kernel_rfl) (by kernel_rfl) (by kernel_rfl) (by kernel_rfl) ?_;by_cases h0:a=0
 ·subst h0;have h1:(((0:Nat):Int)==0)=true:=rfl;rw [Nat.zero_mul,Qbi];simp -implicitDefEqProofs only [go_sem,Nat.reduceAdd,Nat.reduceMul,Nat.reduceEqDiff,Nat.reduceLT,Nat.reduceLeDiff,reduceCtorEq,dw,List.map_nil,List.length_nil,h1]
 have hp:0<(digs BW a).length:=List.length_pos_iff.2 (mt (Qbo BW_2).1 h0);have h1:(((digs BW a).length:Int)==0)=false:=by simp only [beq_eq_false_iff_ne,ne_eq];omega
 have hlt:a<BW^(digs BW a).length:=Qbe BW_2 a;obtain⟨W,hW⟩: ∃W,W=k/64:=⟨_,rfl⟩;obtain⟨r,hr⟩: ∃r,r=k%64:=⟨_,rfl⟩;have hr64:r<64:=by rw [hr];exact Nat.mod_lt _ (by decide)
 have hkr:k=64*W+r:=by omega
 have d1:Int.tdiv (k:Int) 64=(W:Int):=by rw [Zml,hW]
 have d2:Int.tmod (k:Int) 64=(r:Int):=by rw [Zmm,hr]
 have hWl:W≤1000000000:=by omega
 clear hW hr;generalize hN:(digs BW a).length=N at*;have q1:=wrapn (n:=W) (by omega);have q2:=Qhk (a:=N) (b:=W) (by omega);have q3:=Qan (a:=N+W) (by omega);have hn0:((0:Int)≤((N+W+1:Nat):Int))=True:=by simp only [eq_iff_iff,iff_true];omega
 have hn1:((8:Nat):Int)*((N+W+1:Nat):Int)≤281474976710656:=by omega
 have hn2:((N+W+1:Nat):Int)≤9223372036854775807:=by omega
 simp -implicitDefEqProofs only [go_sem,Nat.reduceAdd,Nat.reduceMul,Nat.reduceEqDiff,Nat.reduceLT,Nat.reduceLeDiff,reduceCtorEq,Int.reduceEq,dw,List.length_map,hN,h1,d1,d2,q1,q2,q3,hn0,hn1,hn2,Int.toNat_natCast];have hrep:List.replicate (N+W+1) (PV.int .u64 0)=(lows BW (shlV a W r 0) (N+W+1)).map fW:=by rw [Q33,Qet];simp
 rw [hrep];have k1:(((r:Nat):Int)<0)=False:=by simp only [eq_iff_iff,iff_false];omega
 have k2:min r 64=r:=by omega
 have k3:IntKind.i64.wrap (64-((r:Nat):Int))=((64-r:Nat):Int):=by rw [Qag (by omega) (by omega)];omega
 have k4:((((64-r:Nat):Nat):Int)<0)=False:=by simp only [eq_iff_iff,iff_false];omega
 have k5:min (64-r) 64=64-r:=by omega
 refine Qar mixed (fun i:{i:Nat // i≤N}=>St.of [(4,.nilS),(5,.int .i64 (W:Int)),(6,.int .i64 (r:Int)),(7,.bs 405 1 0 (N+W+1)),(23,dw (digs BW a)),(24,.int .i64 (N:Int)),(25,.int .i64 (i.1:Int))]
  [(405,{els:=(lows BW (shlV a W r i.1) (N+W+1)).map fW,esz:=1,ety:=130,fro:=0,live:=true,arr:=true})]) (fun i=>N-i.1) ⟨0,Nat.zero_le _⟩ ?_ ?_
 ·refine Qaj (θ:=[(405,405)]) rfl ?_ ?_
  ·simp [Qac,lkp,ren1,ren0,dw]
  ·simp [Qax,lkp,Box.renames]
 ·rintro⟨i,hi⟩;have hll:=Qak (B:=BW) (shlV a W r i) (N+W+1);by_cases hA:i<N
  ·have hA':((i:Int)<(N:Int))=True:=by simp;omega
   have hi0:(0≤(i:Int))=True:=by simp
   have hga:=Qa0 BW_2 (show i<(digs BW a).length by omega);have hwk:=Qan (a:=i) (by omega);have w1:=Qhk (a:=i) (b:=W) (by omega);have w2:=Qan (a:=i+W) (by omega);have b1:(0≤((i+W:Nat):Int))=True:=by simp only [eq_iff_iff,iff_true];omega
   have b2:(((i+W:Nat):Int)<((N+W+1:Nat):Int))=True:=by simp only [eq_iff_iff,iff_true];omega
   have b3:(0≤((i+W+1:Nat):Int))=True:=by simp only [eq_iff_iff,iff_true];omega
   have b4:(((i+W+1:Nat):Int)<((N+W+1:Nat):Int))=True:=by simp only [eq_iff_iff,iff_true];omega
   have hgo:((lows BW (shlV a W r i) (N+W+1)).map fW)[i+W]? =some (PV.int .u64 ((shlC a r i:Nat):Int)):=by
    rw [List.getElem?_map,Qbv _ _ _ (by omega),Q0k a W r i (by omega)];rfl
   have hc2:shlC a r i%18446744073709551616=shlC a r i:=Nat.mod_eq_of_lt (Nat.lt_of_lt_of_le (Qmp a r i) (show 2^r≤18446744073709551616 from Nat.pow_le_pow_right (n:=2) (by decide) (show r≤64 by omega)));by_cases hr0:r=0
   ·subst hr0;have g0:((0:Int)<(((0:Nat):Nat):Int))=False:=by simp
    have hset:=Zc3 a W i (N+W+1) (by omega);have hc0:shlC a 0 i=0:=by have:=Qmp a 0 i;simp at this;exact this
    have hval:(0 ||| a/BW^i%BW*2^0%18446744073709551616)=a/BW^i%BW:=by
     rw [Nat.zero_or,Nat.pow_zero,Nat.mul_one,show(18446744073709551616:Nat)=BW from rfl,Nat.mod_mod]
    simp -implicitDefEqProofs only [go_sem,Nat.reduceAdd,Nat.reduceMul,Nat.reduceEqDiff,Nat.reduceLT,Nat.reduceLeDiff,reduceIte,reduceCtorEq,dw,hA',hi0,Qci,hga,Int.toNat_natCast,w1,b1,b2,hgo,k1,k2,g0,hc0,Qnv,hwk,Nat.mod_mod,Nat.zero_mod];refine⟨Qae _ _ (by kernel_rfl),⟨i+1,hA⟩,by simp only;omega,Qaj (θ:=[(405,405)]) rfl ?_ ?_⟩
    ·simp [Qac,lkp,ren1,ren0,dw]
    ·rw [hval,Qc8,hset];simp [Qax,lkp,Box.renames]
   ·have g0:((0:Int)<((r:Nat):Int))=True:=by simp only [eq_iff_iff,iff_true];omega
    have hset:=Zc4 a W r i (N+W+1) (by omega) (by omega);obtain⟨e,hgo2⟩: ∃e:Nat,(((lows BW (shlV a W r i) (N+W+1)).map fW).set (i+W) (.int .u64 ((shlC a r i ||| (a/BW^i%BW*2^r%18446744073709551616):Nat):Int)))[i+W+1]? =some (PV.int .u64 (e:Int)):=by
     rw [Qc8,List.getElem?_map];refine⟨_,by rw [List.getElem?_set_ne (by omega),Qbv _ _ _ (by omega)];rfl⟩
    simp -implicitDefEqProofs only [go_sem,Nat.reduceAdd,Nat.reduceMul,Nat.reduceEqDiff,Nat.reduceLT,Nat.reduceLeDiff,reduceIte,reduceCtorEq,dw,hA',hi0,Qci,hga,Int.toNat_natCast,w1,w2,b1,b2,b3,b4,hgo,k1,k2,k3,k4,k5,g0,hc2,Qnv,Qjn,hwk,hgo2,Nat.mod_mod];refine⟨Qae _ _ (by kernel_rfl),⟨i+1,hA⟩,by simp only;omega,Qaj (θ:=[(405,405)]) rfl ?_ ?_⟩
    ·simp [Qac,lkp,ren1,ren0,dw]
    ·rw [Qc8,Qc8,hset];simp [Qax,lkp,Box.renames]
  ·have hA':((i:Int)<(N:Int))=False:=by simp;omega
   obtain rfl:i=N:=by omega
   have hV:=Q34 a W r i hlt;rw [←hkr]at hV;rw [hV]at hll;have htk:((lows BW (a*2^k) (i+W+1)).map fW).take (i+W+1)=(lows BW (a*2^k) (i+W+1)).map fW:=List.take_of_length_le (by simp [hll]);simp -implicitDefEqProofs only [go_sem,Nat.reduceAdd,Nat.reduceMul,Nat.reduceEqDiff,Nat.reduceLT,Nat.reduceLeDiff,reduceIte,reduceCtorEq,hA',hV,List.length_map,hll,htk];refine Qah _ _ _ _ _ _ _ _ _ (Qdo (lows BW (a*2^k) (i+W+1)) (by rw [hll];simp [maxLen];omega)) ?_;simp -implicitDefEqProofs only [go_sem,Nat.reduceAdd,Nat.reduceEqDiff,Nat.reduceLT,reduceCtorEq,dw];rw [Qb6 BW_2,Nat.mod_eq_of_lt];rw [Nat.add_assoc,Nat.pow_add];have h2:2^k<BW^(W+1):=by
    rw [show BW=2^64 from rfl,←Nat.pow_mul];exact Nat.pow_lt_pow_right (by decide) (by omega)
   exact Nat.lt_of_lt_of_le (Nat.mul_lt_mul_of_pos_right hlt (Nat.pow_pos (by decide))) (Nat.mul_le_mul_left _ (Nat.le_of_lt h2))
end Go.Proofs.YtjlkapdmgjocdaaGreat

namespace Go.Proofs.YtjlkapdmgjocdaaGreat
open Go.Vl Go.RowKit Go.Dg
theorem Zy5 (l:List Nat):((l.map fW).all fun e=>e.cells.length==1&&e.cells.all PV.okCell)=true:=by
 rw [List.all_map,List.all_eq_true];intro _ _;rfl
theorem Zkg (l:List Nat) (hl:0<l.length) (hl2:l.length≤1000000000):Qdd Tryz.prog 139 [dw l] [] (.bs 302 1 0 l.length) [(302,wB l)]:=by
 have h0:l.isEmpty=false:=by cases l with|nil=>simp at hl|cons=>rfl
 have h1:(l.length*8≤140737488355328)=True:=by simp only [eq_iff_iff,iff_true];omega
 have h2:(l.length≤maxLen)=True:=by simp only [eq_iff_iff,iff_true];unfold maxLen;omega
 refine Qcz (tb:=[]) 8 [.tmp 2] [0,2,4] mixed Tryz.func139 rfl (by kernel_rfl) (by kernel_rfl) (by kernel_rfl) (by kernel_rfl) (by rfl) ?_;simp -implicitDefEqProofs only [go_sem,Nat.reduceAdd,Nat.reduceMul,Nat.reduceEqDiff,Nat.reduceLT,Nat.reduceLeDiff,reduceCtorEq,dw,h0,List.length_map,h1,h2,Zy5];refine Qb9 (.inl rfl) ?_;simp -implicitDefEqProofs only [go_sem,Nat.reduceEqDiff,reduceCtorEq];refine Qaj (θ:=[(302,302)]) rfl ?_ ?_
 ·simp [Qac,lkp,ren1,ren0]
 ·simp [Qax,lkp,Box.renames]
attribute [local go_sem high] Zkl
theorem Zww (a k:Nat) (ha:(digs BW a).length≤1000000000) (hk:k≤1000000000):Qaf Tryz.prog 125 [dw (digs BW a),.int .i64 (k:Int)] (dw (digs BW (a/2^k))):=by
 have hlt:a<BW^(digs BW a).length:=Qbe BW_2 a;obtain⟨W,hW⟩: ∃W,W=k/64:=⟨_,rfl⟩;obtain⟨r,hr⟩: ∃r,r=k%64:=⟨_,rfl⟩;have hr64:r<64:=by rw [hr];exact Nat.mod_lt _ (by decide)
 have hkr:k=64*W+r:=by omega
 have d1:Int.tdiv (k:Int) 64=(W:Int):=by rw [Zml,hW]
 have d2:Int.tmod (k:Int) 64=(r:Int):=by rw [Zmm,hr]
 have hWl:W≤1000000000:=by omega
 clear hW hr;have q1:=wrapn (n:=W) (by omega);have hpk:2^k=BW^W*2^r:=by rw [hkr,Nat.pow_add,Nat.pow_mul]
 have hq:a/2^k=a/BW^W/2^r:=by rw [hpk,Nat.div_div_eq_div_mul]

 refine Qab (tb:=[(403,[],[(302,403)])]) 59 [.tmp 4] [0,1,4,5,6,7,8,16,22,24,25,26,39] mixed Tryz.func125 rfl (by kernel_rfl) (by kernel_rfl) (by kernel_rfl) (by kernel_rfl) ?_;by_cases hN:(digs BW a).length≤W
 ·have g1:(((digs BW a).length:Int)≤(W:Int))=True:=by simp only [eq_iff_iff,iff_true];omega
  have e:digs BW (a/2^k)=[]:=by
   rw [hq,Qck BW_2 hN,Nat.zero_div,Qbi]
  rw [e];simp -implicitDefEqProofs only [go_sem,Nat.reduceAdd,Nat.reduceMul,Nat.reduceEqDiff,Nat.reduceLT,Nat.reduceLeDiff,reduceCtorEq,Int.reduceEq,dw,List.length_map,d1,d2,q1,g1,List.map_nil]
 have g1:(((digs BW a).length:Int)≤(W:Int))=False:=by simp only [eq_iff_iff,iff_false];omega
 have hA0: ∀j,a/BW^(W+j)=a/BW^W/BW^j:=fun j=>by rw [Nat.pow_add,Nat.div_div_eq_div_mul]
 have hn0:(0≤(W:Int))=True:=by simp
 have hn1:((W:Int)≤((digs BW a).length:Int))=True:=by simp only [eq_iff_iff,iff_true];omega
 have hsl:(((digs BW a).map fW).take (digs BW a).length).drop W=(lows BW (a/BW^W) ((digs BW a).length-W)).map fW:=by
  rw [List.take_of_length_le (by simp),←List.map_drop];congr 1;apply List.ext_getElem?;intro j;rw [List.getElem?_drop];by_cases hj:W+j<(digs BW a).length
  ·rw [Qa0 BW_2 hj,Qbv _ _ _ (by omega),hA0]
  ·rw [List.getElem?_eq_none (by omega),List.getElem?_eq_none (by rw [Qak];omega)]
 have hcell:=Zmo (digs BW a);have hAlt:a/BW^W<BW^((digs BW a).length-W):=by
  refine Nat.div_lt_of_lt_mul ?_;rw [←Nat.pow_add,show W+((digs BW a).length-W)=(digs BW a).length by omega];exact hlt
 have hll:=Qak (B:=BW) (a/BW^W) ((digs BW a).length-W);simp -implicitDefEqProofs only [go_sem,Nat.reduceAdd,Nat.reduceMul,Nat.reduceEqDiff,Nat.reduceLT,Nat.reduceLeDiff,reduceCtorEq,Int.reduceEq,dw,List.length_map,d1,d2,q1,g1,hn0,hn1,Int.toNat_natCast,hsl,hcell];refine Qcd _ _ _ _ _ _ _ _ _ (Zkg (lows BW (a/BW^W) ((digs BW a).length-W)) (by rw [hll];omega) (by rw [hll];omega)) ?_;rw [hll];by_cases hr0:r=0
 ·subst hr0;have g0:((0:Int)<(((0:Nat):Nat):Int))=False:=by simp
  have htk:((lows BW (a/BW^W) ((digs BW a).length-W)).map fW).take ((digs BW a).length-W)=(lows BW (a/BW^W) ((digs BW a).length-W)).map fW:=List.take_of_length_le (by simp [hll]);simp -implicitDefEqProofs only [go_sem,Nat.reduceAdd,Nat.reduceMul,Nat.reduceEqDiff,Nat.reduceLT,Nat.reduceLeDiff,reduceIte,reduceCtorEq,wB,g0,List.length_map,hll,htk];refine Qah _ _ _ _ _ _ _ _ _ (Qdo (lows BW (a/BW^W) ((digs BW a).length-W)) (by rw [hll];simp [maxLen];omega)) ?_;simp -implicitDefEqProofs only [go_sem,Nat.reduceAdd,Nat.reduceEqDiff,Nat.reduceLT,reduceCtorEq,dw];rw [Qb6 BW_2,Nat.mod_eq_of_lt hAlt,hq,Nat.pow_zero,Nat.div_one]
 ·have g0:((0:Int)<((r:Nat):Int))=True:=by simp only [eq_iff_iff,iff_true];omega
  simp -implicitDefEqProofs only [go_sem,Nat.reduceAdd,Nat.reduceMul,Nat.reduceEqDiff,Nat.reduceLT,Nat.reduceLeDiff,reduceCtorEq,wB,g0];have hdig:=fun(j:Nat) (h:W+j<(digs BW a).length)=>Qa0 (n:=a) BW_2 h;generalize hn:(digs BW a).length-W=n at*;have hNn:(digs BW a).length=W+n:=by omega
  have k1:(((r:Nat):Int)<0)=False:=by simp only [eq_iff_iff,iff_false];omega
  have k2:min r 64=r:=by omega
  have k3:IntKind.i64.wrap (64-((r:Nat):Int))=((64-r:Nat):Int):=by rw [Qag (by omega) (by omega)];omega
  have k4:((((64-r:Nat):Nat):Int)<0)=False:=by simp only [eq_iff_iff,iff_false];omega
  have k5:min (64-r) 64=64-r:=by omega
  rw [hq];generalize hAA:a/BW^W=A at*;refine Qar mixed (fun i:{i:Nat // i≤n}=>St.of [(0,dw (digs BW a)),(4,.nilS),(5,.int .i64 (W:Int)),(6,.int .i64 (r:Int)),(7,.bs 403 1 0 n),(24,.int .i64 (n:Int)),(25,.int .i64 (i.1:Int))]
   [(403,wB (mix BW (A/2^r) A n i.1))]) (fun i=>n-i.1) ⟨0,Nat.zero_le _⟩ ?_ ?_
  ·refine Qaj (θ:=[(403,403)]) rfl ?_ ?_
   ·simp [Qac,lkp,ren1,ren0,dw]
   ·simp [Qax,lkp,Box.renames,Ql6]
  ·rintro⟨i,hi⟩;have hml:=Qbp (B:=BW) (A/2^r) A n i;by_cases hA:i<n
   ·have hA':((i:Int)<(n:Int))=True:=by simp;omega
    have hi0:(0≤(i:Int))=True:=by simp
    have hwk:=Qan (a:=i) (by omega);have hgo:((mix BW (A/2^r) A n i).map fW)[i]? =some (PV.int .u64 ((A/BW^i%BW:Nat):Int)):=by
     rw [List.getElem?_map,Qdu _ _ _ _ _ hA,if_neg (Nat.lt_irrefl _)];rfl
    by_cases hB:i+1<n
    ·have hB':(((i+1:Nat):Int)<(n:Int))=True:=by simp only [eq_iff_iff,iff_true];omega
     have hsd:=Q37 A i r (by omega) hr64;have hset:=Qew (B:=BW) (V:=A/2^r) (W:=A/2^r) (S:=A) (n:=n) (m:=i) (by decide) hA rfl rfl;have hga:(digs BW a)[W+i+1]? =some (A/BW^(i+1)%BW):=by
      have h:=hdig (i+1) (by omega);rw [hA0 (i+1)]at h;exact h
     have w1:=Qhk (a:=W) (b:=i) (by omega);have w2:=Qan (a:=W+i) (by omega);have b1:(0≤((W+i+1:Nat):Int))=True:=by simp only [eq_iff_iff,iff_true];omega
     have hgo2:(((mix BW (A/2^r) A n i).map fW).set i (.int .u64 ((A/BW^i%BW/2^r:Nat):Int)))[i]? =some (PV.int .u64 ((A/BW^i%BW/2^r:Nat):Int)):=by
      rw [List.getElem?_set_self (by rw [List.length_map,hml];exact hA)]
     have e1:A/BW^i%BW/2^r%18446744073709551616=A/BW^i%BW/2^r:=Nat.mod_eq_of_lt (Nat.lt_of_le_of_lt (Nat.div_le_self _ _) (Nat.mod_lt _ (by decide)));simp -implicitDefEqProofs only [go_sem,Nat.reduceAdd,Nat.reduceMul,Nat.reduceEqDiff,Nat.reduceLT,Nat.reduceLeDiff,reduceIte,reduceCtorEq,wB,dw,hA',hi0,Int.toNat_natCast,hgo,k1,k2,Qjn,hwk,hB',hgo2,w1,w2,b1,Qci,hga,k3,k4,k5,Qnv,Nat.mod_mod,e1,List.set_set];refine⟨Qae _ _ (by kernel_rfl),⟨i+1,hA⟩,by simp only;omega,Qaj (θ:=[(403,403)]) rfl ?_ ?_⟩
     ·simp [Qac,lkp,ren1,ren0,dw]
     ·simp only [WB]at hsd;rw [Qc8,hsd,hset];simp [Qax,lkp,Box.renames]
    ·have hB':(((i+1:Nat):Int)<(n:Int))=False:=by simp only [eq_iff_iff,iff_false];omega
     have hsd:=Zm1 A i r (by rw [show i+1=n by omega];exact Nat.div_eq_of_lt hAlt);have hset:=Qew (B:=BW) (V:=A/2^r) (W:=A/2^r) (S:=A) (n:=n) (m:=i) (by decide) hA rfl rfl;simp -implicitDefEqProofs only [go_sem,Nat.reduceAdd,Nat.reduceMul,Nat.reduceEqDiff,Nat.reduceLT,Nat.reduceLeDiff,reduceIte,reduceCtorEq,wB,dw,hA',hi0,Int.toNat_natCast,hgo,k1,k2,Qjn,hwk,hB'];refine⟨⟨i+1,hA⟩,by simp only;omega,Qaj (θ:=[(403,403)]) rfl ?_ ?_⟩
     ·simp [Qac,lkp,ren1,ren0,dw]
     ·simp only [WB]at hsd;rw [Qc8,hsd,hset];simp [Qax,lkp,Box.renames]
   ·have hA':((i:Int)<(n:Int))=False:=by simp;omega
    obtain rfl:i=n:=by omega
    have hm:mix BW (A/2^r) A i i=lows BW (A/2^r) i:=Qqm _ _ _ _;have hl2:=Qak (B:=BW) (A/2^r) i;have htk:((lows BW (A/2^r) i).map fW).take i=(lows BW (A/2^r) i).map fW:=List.take_of_length_le (by simp [hl2]);simp -implicitDefEqProofs only [go_sem,Nat.reduceAdd,Nat.reduceMul,Nat.reduceEqDiff,Nat.reduceLT,Nat.reduceLeDiff,reduceIte,reduceCtorEq,wB,hA',hm,List.length_map,hl2,htk];refine Qah _ _ _ _ _ _ _ _ _ (Qdo (lows BW (A/2^r) i) (by rw [hl2];simp [maxLen];omega)) ?_;simp -implicitDefEqProofs only [go_sem,Nat.reduceAdd,Nat.reduceEqDiff,Nat.reduceLT,reduceCtorEq,dw];rw [Qb6 BW_2,Nat.mod_eq_of_lt (Nat.lt_of_le_of_lt (Nat.div_le_self _ _) hAlt)]
end Go.Proofs.YtjlkapdmgjocdaaGreat

namespace Go.Proofs.YtjlkapdmgjocdaaGreat
open Go.Vl Go.RowKit Go.Dg
theorem Qjl {d:Nat} (h:d<BW):Qfk [d]=digs BW d:=by
 rw [Qqo BW_2 [d] (by simpa using h)];simp [val]
theorem Q2j {m:Nat} (h:m<18446744073709551616):blen m≤64:=Qds 64 m h
theorem Qhq (n:Int):IntKind.u64.wrap n=n%18446744073709551616:=by simp [IntKind.wrap,IntKind.bits,IntKind.signed]
theorem Qfi (n:Int) (h1: -9223372036854775808≤n) (h2:n≤9223372036854775807):Qaf Tryz.prog 79 [.int .i64 n] (wPV n):=by
 obtain⟨m,hm⟩: ∃m:Nat,m=n.natAbs:=⟨_,rfl⟩;have hml:m<18446744073709551616:=by omega
 have ht:=Qdo [m] (by simp [maxLen]);rw [Qjl hml]at ht;have hL:(digs BW m).length≤1000000:=Nat.le_trans ((Qaz BW_2 m 1).2 (by simpa using hml)) (by decide);have hw:=fun neg=>Qkr neg m hL;have hb:blen n.natAbs≤64:=by rw [←hm];exact Q2j hml
 by_cases hn:n<0
 ·have hn':(n<0)=True:=by simp [hn]
  have e1:IntKind.u64.wrap n=((18446744073709551616-m:Nat):Int):=by rw [Qhq];omega
  have e2:IntKind.u64.wrap (0-((18446744073709551616-m:Nat):Int))=(m:Int):=by rw [Qhq];omega
  have hw1:=hw true;have e3:sv true m=n:=by simp [sv];omega
  rw [e3,Qih,if_neg (by omega)]at hw1;refine Qab (tb:=[]) 23 [.cell 2 93] [0,2,3,4,9] mixed Tryz.func79 rfl (by kernel_rfl) (by kernel_rfl) (by kernel_rfl) (by kernel_rfl) ?_;repeat (first|(simp -implicitDefEqProofs only [go_sem,Nat.reduceAdd,Nat.reduceMul,Nat.reduceEqDiff,Nat.reduceLT,Nat.reduceLeDiff,reduceIte,reduceCtorEq,hn',e1,e2,dw,wPV,List.map_cons,List.map_nil])|((with_reducible refine Qaa ht ?_ ?_ ?_);rfl;rfl)|((with_reducible refine Qaa hw1 ?_ ?_ ?_);rfl;rfl))
 ·have hn':(n<0)=False:=by simp [hn]
  have e1:IntKind.u64.wrap n=(m:Int):=by rw [Qhq];omega
  have hw1:=hw false;have e3:sv false m=n:=by simp [sv];omega
  rw [e3,Qih,if_neg (by omega)]at hw1;refine Qab (tb:=[]) 23 [.cell 2 93] [0,2,3,4,9] mixed Tryz.func79 rfl (by kernel_rfl) (by kernel_rfl) (by kernel_rfl) (by kernel_rfl) ?_;repeat (first|(simp -implicitDefEqProofs only [go_sem,Nat.reduceAdd,Nat.reduceMul,Nat.reduceEqDiff,Nat.reduceLT,Nat.reduceLeDiff,reduceIte,reduceCtorEq,hn',e1,dw,wPV,List.map_cons,List.map_nil])|((with_reducible refine Qaa ht ?_ ?_ ?_);rfl;rfl)|((with_reducible refine Qaa hw1 ?_ ?_ ?_);rfl;rfl))
def Qd0 (n:Int):PV:=if -9223372036854775808≤n∧n≤9223372036854775807 then .tup [.int .i64 n,.int .i64 0]else .tup [.int .i64 0,.int .i64 3]
theorem Zwu (neg:Bool) (s:ByteArray) (h:Qbj neg s.data.toList=true) (hs:s.size≤100000):Qaf Tryz.prog 44 [.agg [.bool neg,.str s]] (Qd0 (wnum neg s)):=by
 have hv:=Qf2 neg s;rw [h]at hv;have ho:=Qox neg s h (by omega);have hL:=Qgi s hs;unfold wnum;generalize bnum s.data.toList=m at*;by_cases h0:m=0
 ·subst h0;have e:Qd0 (sv neg 0)= .tup [.int .i64 0,.int .i64 0]:=by cases neg<;>rfl
  have h1:(((0:Nat):Int)==0)=true:=rfl;rw [e];refine Qab (tb:=[]) 53 [.tmp 2,.tmp 3] [0,1,2,3,4,7,10,15,39] mixed Tryz.func44 rfl (by kernel_rfl) (by kernel_rfl) (by kernel_rfl) (by kernel_rfl) ?_;repeat (first|(simp -implicitDefEqProofs only [go_sem,Nat.reduceAdd,Nat.reduceMul,Nat.reduceEqDiff,Nat.reduceLT,Nat.reduceLeDiff,reduceCtorEq,nP,dw,Qbi,List.map_nil,List.length_nil,h1])|((with_reducible refine Qaa hv ?_ ?_ ?_);rfl;rfl)|((with_reducible refine Qaa ho ?_ ?_ ?_);rfl;rfl))
 ·have hp:0<(digs BW m).length:=List.length_pos_iff.2 (mt (Qbo BW_2).1 h0);have h1:(((digs BW m).length:Int)==0)=false:=by simp only [beq_eq_false_iff_ne,ne_eq];omega
  have hlen:=Qaz BW_2 m 1;rw [Nat.pow_one]at hlen;have hg:=Qa0 BW_2 hp;rw [Nat.pow_zero,Nat.div_one]at hg;by_cases hl:m<BW
  ·have hl1:((1:Int)<((digs BW m).length:Int))=False:=by have:=hlen.2 hl;simp only [eq_iff_iff,iff_false];omega
   rw [Nat.mod_eq_of_lt hl]at hg;simp only [BW]at hl;cases neg with
   |false=>
    by_cases hbig:9223372036854775808≤m
    ·have g1:((9223372036854775808:Int)≤(m:Int))=True:=by simp only [eq_iff_iff,iff_true];omega
     have e:Qd0 (sv false m)= .tup [.int .i64 0,.int .i64 3]:=by rw [Qd0,if_neg];simp [sv];omega
     rw [e];refine Qab (tb:=[]) 53 [.tmp 2,.tmp 3] [0,1,2,3,4,7,10,15,39] mixed Tryz.func44 rfl (by kernel_rfl) (by kernel_rfl) (by kernel_rfl) (by kernel_rfl) ?_;repeat (first|(simp -implicitDefEqProofs only [go_sem,Nat.reduceAdd,Nat.reduceMul,Nat.reduceEqDiff,Nat.reduceLT,Nat.reduceLeDiff,reduceCtorEq,nP,dw,List.length_map,h1,hl1,Qci,hg,g1])|((with_reducible refine Qaa hv ?_ ?_ ?_);rfl;rfl)|((with_reducible refine Qaa ho ?_ ?_ ?_);rfl;rfl))
    ·have g1:((9223372036854775808:Int)≤(m:Int))=False:=by simp only [eq_iff_iff,iff_false];omega
     have g2:((9223372036854775808:Int)<(m:Int))=False:=by simp only [eq_iff_iff,iff_false];omega
     have e:Qd0 (sv false m)= .tup [.int .i64 (m:Int),.int .i64 0]:=by rw [Qd0,if_pos (by simp [sv];omega)];rfl
     have w1:=wrapn (n:=m) (by omega);rw [e];refine Qab (tb:=[]) 53 [.tmp 2,.tmp 3] [0,1,2,3,4,7,10,15,39] mixed Tryz.func44 rfl (by kernel_rfl) (by kernel_rfl) (by kernel_rfl) (by kernel_rfl) ?_;repeat (first|(simp -implicitDefEqProofs only [go_sem,Nat.reduceAdd,Nat.reduceMul,Nat.reduceEqDiff,Nat.reduceLT,Nat.reduceLeDiff,reduceCtorEq,nP,dw,List.length_map,h1,hl1,Qci,hg,g1,g2,w1])|((with_reducible refine Qaa hv ?_ ?_ ?_);rfl;rfl)|((with_reducible refine Qaa ho ?_ ?_ ?_);rfl;rfl))
   |true=>
    by_cases hbig:9223372036854775808<m
    ·have g2:((9223372036854775808:Int)<(m:Int))=True:=by simp only [eq_iff_iff,iff_true];omega
     have e:Qd0 (sv true m)= .tup [.int .i64 0,.int .i64 3]:=by rw [Qd0,if_neg];simp [sv];omega
     rw [e];refine Qab (tb:=[]) 53 [.tmp 2,.tmp 3] [0,1,2,3,4,7,10,15,39] mixed Tryz.func44 rfl (by kernel_rfl) (by kernel_rfl) (by kernel_rfl) (by kernel_rfl) ?_;repeat (first|(simp -implicitDefEqProofs only [go_sem,Nat.reduceAdd,Nat.reduceMul,Nat.reduceEqDiff,Nat.reduceLT,Nat.reduceLeDiff,reduceCtorEq,nP,dw,List.length_map,h1,hl1,Qci,hg,g2])|((with_reducible refine Qaa hv ?_ ?_ ?_);rfl;rfl)|((with_reducible refine Qaa ho ?_ ?_ ?_);rfl;rfl))
    ·have g2:((9223372036854775808:Int)<(m:Int))=False:=by simp only [eq_iff_iff,iff_false];omega
     have e:Qd0 (sv true m)= .tup [.int .i64 (-(m:Int)),.int .i64 0]:=by rw [Qd0,if_pos (by simp [sv];omega)];rfl
     have w1:IntKind.i64.wrap (IntKind.u64.wrap (0-(m:Int)))= -(m:Int):=by
      rw [Qhq];simp [IntKind.wrap,IntKind.bits,IntKind.signed];omega
     rw [e];refine Qab (tb:=[]) 53 [.tmp 2,.tmp 3] [0,1,2,3,4,7,10,15,39] mixed Tryz.func44 rfl (by kernel_rfl) (by kernel_rfl) (by kernel_rfl) (by kernel_rfl) ?_;repeat (first|(simp -implicitDefEqProofs only [go_sem,Nat.reduceAdd,Nat.reduceMul,Nat.reduceEqDiff,Nat.reduceLT,Nat.reduceLeDiff,reduceCtorEq,nP,dw,List.length_map,h1,hl1,Qci,hg,g2,w1])|((with_reducible refine Qaa hv ?_ ?_ ?_);rfl;rfl)|((with_reducible refine Qaa ho ?_ ?_ ?_);rfl;rfl))
  ·have hl1:((1:Int)<((digs BW m).length:Int))=True:=by
    have:=mt hlen.1 hl;simp only [eq_iff_iff,iff_true];omega
   simp only [BW]at hl;have e:Qd0 (sv neg m)= .tup [.int .i64 0,.int .i64 3]:=by rw [Qd0,if_neg];cases neg<;>simp [sv]<;>omega
   rw [e];refine Qab (tb:=[]) 53 [.tmp 2,.tmp 3] [0,1,2,3,4,7,10,15,39] mixed Tryz.func44 rfl (by kernel_rfl) (by kernel_rfl) (by kernel_rfl) (by kernel_rfl) ?_;repeat (first|(simp -implicitDefEqProofs only [go_sem,Nat.reduceAdd,Nat.reduceMul,Nat.reduceEqDiff,Nat.reduceLT,Nat.reduceLeDiff,reduceCtorEq,nP,dw,List.length_map,h1,hl1])|((with_reducible refine Qaa hv ?_ ?_ ?_);rfl;rfl)|((with_reducible refine Qaa ho ?_ ?_ ?_);rfl;rfl))
theorem Za3 (neg:Bool) (s:ByteArray) (h:Qbj neg s.data.toList=true) (hs:s.size≤100000):Qaf Tryz.prog 130 [.agg [.bool neg,.str s]] (.int .i64 (wnum neg s).sign):=by
 have hv:=Qf2 neg s;rw [h]at hv;have ho:=Qox neg s h (by omega);have hg:=Za8 neg (bnum s.data.toList);refine Qab (tb:=[]) 9 [.tmp 2] [0,1,2,5] mixed Tryz.func130 rfl (by kernel_rfl) (by kernel_rfl) (by kernel_rfl) (by kernel_rfl) ?_;repeat (first|(simp -implicitDefEqProofs only [go_sem,Nat.reduceAdd,Nat.reduceMul,Nat.reduceEqDiff,Nat.reduceLT,Nat.reduceLeDiff,reduceCtorEq,nP,dw])|((with_reducible refine Qaa hv ?_ ?_ ?_);rfl;rfl)|((with_reducible refine Qaa ho ?_ ?_ ?_);rfl;rfl)|((with_reducible refine Qaa hg ?_ ?_ ?_);rfl;rfl))
 rfl
theorem Zwv (neg:Bool) (s:ByteArray) (h:Qbj neg s.data.toList=true) (hs:s.size≤100000):Qaf Tryz.prog 140 [.agg [.bool neg,.str s]] (.int .i64 (blen (bnum s.data.toList):Int)):=by
 have hv:=Qf2 neg s;rw [h]at hv;have ho:=Qrr s (by omega);rw [Qjk h]at ho;have hg:=Qwz (bnum s.data.toList) (Nat.le_trans (Qgi s hs) (by decide));refine Qab (tb:=[]) 10 [.tmp 2] [0,1,2,5] mixed Tryz.func140 rfl (by kernel_rfl) (by kernel_rfl) (by kernel_rfl) (by kernel_rfl) ?_;repeat (first|(simp -implicitDefEqProofs only [go_sem,Nat.reduceAdd,Nat.reduceMul,Nat.reduceEqDiff,Nat.reduceLT,Nat.reduceLeDiff,reduceCtorEq,dw])|((with_reducible refine Qaa hv ?_ ?_ ?_);rfl;rfl)|((with_reducible refine Qaa ho ?_ ?_ ?_);rfl;rfl)|((with_reducible refine Qaa hg ?_ ?_ ?_);rfl;rfl))
theorem Q2k (an bn:Bool) (a b:ByteArray) (h1:Qbj an a.data.toList=true) (h2:Qbj bn b.data.toList=true) (ha:a.size≤100000) (hb:b.size≤100000):
  Qaf Tryz.prog 101 [.agg [.bool an,.str a],.agg [.bool bn,.str b]] (.int .i64 (wnum an a-wnum bn b).sign):=by
 have hv:=Qtz an bn a b;rw [h1,h2]at hv;have hL1:=Qgi a ha;have hL2:=Qgi b hb;have hoa:=Qox an a h1 (by omega);have hob:=Qox bn b h2 (by omega);have hn:=Zw8 bn (bnum b.data.toList);obtain⟨n,m,hs,e,hm⟩:=Zmr an (!bn) (bnum a.data.toList) (bnum b.data.toList) (by omega) (by omega);have hg:=Za8 n m;have e2:sv (!bn) (bnum b.data.toList)= -(sv bn (bnum b.data.toList)):=by cases bn<;>simp [sv]
 have e3:sv n m=wnum an a-wnum bn b:=by rw [e,e2,wnum,wnum,Int.sub_eq_add_neg]
 rw [e3]at hg;rw [Bool.true_and]at hv;refine Qab (tb:=[]) 16 [.tmp 4] [0,1,2,3,4,8] mixed Tryz.func101 rfl (by kernel_rfl) (by kernel_rfl) (by kernel_rfl) (by kernel_rfl) ?_;repeat (first|(simp -implicitDefEqProofs only [go_sem,Nat.reduceAdd,Nat.reduceMul,Nat.reduceEqDiff,Nat.reduceLT,Nat.reduceLeDiff,reduceCtorEq,nP,dw])|((with_reducible refine Qaa hv ?_ ?_ ?_);rfl;rfl)|((with_reducible refine Qaa hoa ?_ ?_ ?_);rfl;rfl)|((with_reducible refine Qaa hob ?_ ?_ ?_);rfl;rfl)|((with_reducible refine Qaa hn ?_ ?_ ?_);rfl;rfl)|((with_reducible refine Qaa hs ?_ ?_ ?_);rfl;rfl)|((with_reducible refine Qaa hg ?_ ?_ ?_);rfl;rfl)|(with_reducible exact Qae _ _ (by kernel_rfl)))
end Go.Proofs.YtjlkapdmgjocdaaGreat

namespace Go.Dg
theorem Q0l {α:Type} (E L:List α) (i n:Nat) (z:α) (hL:L.length≤n) (hi:i+n≤E.length):
  (E.take i++List.replicate n z++E.drop (i+n)).take i++L++(E.take i++List.replicate n z++E.drop (i+n)).drop (i+L.length)=E.take i++(L++List.replicate (n-L.length) z)++E.drop (i+n):=by
 have hl:(E.take i).length=i:=by simp;omega
 rw [List.append_assoc (E.take i) (List.replicate n z)];generalize hT:E.take i=T at*;generalize E.drop (i+n)=D;have e1:(T++(List.replicate n z++D)).take i=T:=by rw [←hl];exact List.take_left
 have e2:(T++(List.replicate n z++D)).drop (i+L.length)=List.replicate (n-L.length) z++D:=by
  rw [←List.drop_drop,←hl,List.drop_left,List.drop_append];simp only [List.drop_replicate,List.length_replicate];rw [show L.length-n=0 by omega,List.drop_zero]
 rw [e1,e2];simp only [List.append_assoc]
theorem Zua {b:Nat} (hb:b≠0):
  (digs WB (b*2^(64-blen (b/WB^((digs WB b).length-1))))).length=(digs WB b).length:=by
 have hp:0<(digs WB b).length:=List.length_pos_iff.2 (mt (Qbo (by decide)).1 hb);have ht:=Qd5 (B:=WB) (by decide) hb;obtain⟨K,hK⟩: ∃K,(digs WB b).length=K+1:=⟨(digs WB b).length-1,by omega⟩;rw [hK,Nat.add_sub_cancel]at ht ⊢;have h64:=Qds 64 _ ht.2;have hlt:b/WB^K<2^blen (b/WB^K):=by
  rcases Nat.lt_or_ge (b/WB^K) (2^blen (b/WB^K))with h|h
  ·exact h
  ·have:=Qmm _ _ h;omega
 apply Nat.le_antisymm
 ·refine(Qaz (by decide) _ _).2 ?_;have h1:b<2^blen (b/WB^K)*WB^K:=(Nat.div_lt_iff_lt_mul (WBp K)).1 hlt;have h2:=Nat.mul_lt_mul_of_pos_right h1 (show 0<2^(64-blen (b/WB^K))from Nat.pow_pos (by decide));rw [Nat.mul_right_comm,←Nat.pow_add,show blen (b/WB^K)+(64-blen (b/WB^K))=64 by omega]at h2;rw [Nat.pow_succ,Nat.mul_comm (WB^K)];exact h2
 ·have h3:K<(digs WB b).length:=by omega
  have h4:=(Qda (by decide) b K).1 h3;refine(Qda (by decide) _ K).2 ?_;have h5:b/WB^K≤b*2^(64-blen (b/WB^K))/WB^K:=Nat.div_le_div_right (Nat.le_mul_of_pos_right b (Nat.pow_pos (by decide)));exact Nat.ne_of_gt (Nat.lt_of_lt_of_le (Nat.pos_of_ne_zero h4) h5)
end Go.Dg

namespace Go.Proofs.YtjlkapdmgjocdaaGreat
open Go.Vl Go.RowKit Go.Dg
theorem Zs0 (a b:Nat) (h:a<b) (ha:(digs BW a).length≤100000000) (hbl:(digs BW b).length≤100000000):Qaf Tryz.prog 104 [dw (digs BW a),dw (digs BW b)] (.tup [dw (digs BW (a/b)),dw (digs BW (a%b))]):=by
 have hc:=Qdz a b (by omega) (by omega);have g1:(cmpW a b<0)=True:=by simp only [eq_iff_iff,iff_true];exact(Qek a b).2 h
 rw [Nat.div_eq_of_lt h,Nat.mod_eq_of_lt h,Qbi];refine Qab (tb:=[]) 145 [.tmp 4,.tmp 5] [0,1,4,5,6,7,8,9,10,11,12,13,14,15,16,17,21,25,68,82,121] mixed Tryz.func104 rfl (by kernel_rfl) (by kernel_rfl) (by kernel_rfl) (by kernel_rfl) ?_;repeat (first|(simp -implicitDefEqProofs only [go_sem,Nat.reduceAdd,Nat.reduceMul,Nat.reduceEqDiff,Nat.reduceLT,Nat.reduceLeDiff,reduceCtorEq,dw,g1,List.map_nil])|((with_reducible refine Qaa hc ?_ ?_ ?_);rfl;rfl))
theorem Zkh (a b:Nat) (h:b≤a) (hb:0<b) (h1:b<18446744073709551616) (ha:(digs BW a).length≤100000000):Qaf Tryz.prog 104 [dw (digs BW a),dw (digs BW b)] (.tup [dw (digs BW (a/b)),dw (digs BW (a%b))]):=by
 have hd:digs BW b=[b]:=by rw [Qgp BW_2 (by omega),Nat.mod_eq_of_lt h1,Nat.div_eq_of_lt h1,Qbi]
 have hc:=Qdz a b (by omega) (by rw [hd];simp);have g1:(cmpW a b<0)=False:=by simp only [eq_iff_iff,iff_false];rw [Qek];omega
 have hs:=Zkd a b hb h1 (by omega);have hr:a%b<BW:=Nat.lt_trans (Nat.mod_lt _ hb) h1;have ht:=Qdo [a%b] (by simp [maxLen]);rw [Qjl hr]at ht;rw [hd]at hc ⊢;have z1:(((0+1:Nat):Int)==1)=true:=rfl;have z2:(((1:Nat):Int)==1)=true:=rfl;refine Qab (tb:=[]) 145 [.tmp 4,.tmp 5] [0,1,4,5,6,7,8,9,10,11,12,13,14,15,16,17,21,25,68,82,121] mixed Tryz.func104 rfl (by kernel_rfl) (by kernel_rfl) (by kernel_rfl) (by kernel_rfl) ?_;repeat (first|(simp -implicitDefEqProofs only [go_sem,Nat.reduceAdd,Nat.reduceMul,Nat.reduceEqDiff,Nat.reduceLT,Nat.reduceLeDiff,reduceIte,reduceCtorEq,dw,g1,List.map_nil,List.map_cons,z1])|((with_reducible refine Qaa hc ?_ ?_ ?_);rfl;rfl)|((with_reducible refine Qaa hs ?_ ?_ ?_);rfl;rfl)|((with_reducible refine Qaa ht ?_ ?_ ?_);rfl;rfl))
end Go.Proofs.YtjlkapdmgjocdaaGreat

namespace Go.Proofs.YtjlkapdmgjocdaaGreat
open Go.Vl Go.RowKit Go.Dg
theorem Za6 (l:List Nat):((l.map fW).all fun e=>e.cells.length==1&&e.cells.all flatc)=true:=by
 rw [List.all_map,List.all_eq_true];intro _ _;rfl
set_option maxHeartbeats 4000000 in
theorem Za7 (a b:Nat) (h:b≤a) (hb1:2≤(digs BW b).length) (ha:(digs BW a).length≤100000000):Qaf Tryz.prog 104 [dw (digs BW a),dw (digs BW b)] (.tup [dw (digs BW (a/b)),dw (digs BW (a%b))]):=by
 have hb0:b≠0:=by rintro rfl;rw [Qbi]at hb1;simp at hb1
 have hkN:(digs BW b).length≤(digs BW a).length:=(Qaz BW_2 b _).2 (Nat.lt_of_le_of_lt h (Qbe BW_2 a));have hc:=Qdz a b (by omega) (by omega);have g1:(cmpW a b<0)=False:=by simp only [eq_iff_iff,iff_false];rw [Qek];omega
 have htop:=Qd5 BW_2 hb0;have hga:=Qa0 (n:=b) (k:=(digs BW b).length-1) BW_2 (by omega);rw [Nat.mod_eq_of_lt htop.2]at hga;have hdk:=Zua hb0;have hlz:=Za9 (b/BW^((digs BW b).length-1)) htop.2;have hs64:64-blen (b/BW^((digs BW b).length-1))≤64:=by omega
 obtain⟨s,hs⟩: ∃s,s=64-blen (b/BW^((digs BW b).length-1)):=⟨_,rfl⟩;simp only [WB]at hdk;simp only [BW]at hs hlz hdk;rw [←hs]at hlz hdk hs64;have hsb:=Zmn b s (by omega) (by omega);have hsa:=Zmn a s (by omega) (by omega);have hR0:a*2^s<BW^((digs BW a).length+1):=by
  rw [Nat.pow_succ];exact Nat.mul_lt_mul_of_lt_of_le (Qbe BW_2 a) (Nat.pow_le_pow_right (n:=2) (by decide) hs64) (by decide)
 have hL0:(digs BW (a*2^s)).length≤(digs BW a).length+1:=(Qaz BW_2 _ _).2 hR0;have hbk:BW^((digs BW b).length-1)≤b:=by
  have:=(Qda BW_2 b ((digs BW b).length-1)).1 (by omega);rcases Nat.lt_or_ge b (BW^((digs BW b).length-1))with h'|h'
  ·exact absurd (Nat.div_eq_of_lt h') this
  ·exact h'
 have hRd:a*2^s<b*2^s*BW^((digs BW a).length+1-(digs BW b).length):=by
  have e:BW^(digs BW a).length=BW^((digs BW b).length-1)*BW^((digs BW a).length+1-(digs BW b).length):=by
   rw [←Nat.pow_add];congr 1;omega
  have h1:=Qbe BW_2 a;rw [e]at h1;have h2:=Nat.lt_of_lt_of_le h1 (Nat.mul_le_mul_right _ hbk);rw [Nat.mul_right_comm];exact Nat.mul_lt_mul_of_pos_right h2 (Nat.pow_pos (by decide))
 have hq:a/b=a*2^s/(b*2^s):=(Nat.mul_div_mul_right a b (Nat.pow_pos (by decide))).symm;have hm:a%b*2^s=a*2^s%(b*2^s):=(Nat.mul_mod_mul_right _ a b).symm;have hd0:0<b*2^s:=Nat.mul_pos (by omega) (Nat.pow_pos (by decide));have hpad:=Qiv BW_2 (a*2^s) ((digs BW a).length+1) hL0;generalize hRR:a*2^s=R0 at*;generalize hdd:b*2^s=d at*;generalize hN:(digs BW a).length=N at*;generalize hkk:(digs BW b).length=k at*;obtain⟨nq,hnq⟩: ∃nq,nq=N+1-k:=⟨_,rfl⟩;rw [←hnq]at hRd;have z1:((k:Int)==1)=false:=by simp only [beq_eq_false_iff_ne,ne_eq];omega
 have z2:IntKind.i64.wrap ((k:Int)-1)=((k-1:Nat):Int):=by rw [Qag (by omega) (by omega)];omega
 have z3:(0≤((k-1:Nat):Int))=True:=by simp only [eq_iff_iff,iff_true];exact Int.natCast_nonneg _
 have z4:=Qan (a:=N) (by omega);have z5:((0:Int)≤((N+1:Nat):Int))=True:=by simp only [eq_iff_iff,iff_true];omega
 have z6:((8:Nat):Int)*((N+1:Nat):Int)≤281474976710656:=by omega
 have z7:((N+1:Nat):Int)≤9223372036854775807:=by omega
 have z8:IntKind.i64.wrap (((N+1:Nat):Int)-(k:Int))=(nq:Int):=by rw [Qag (by omega) (by omega)];omega
 have z9:((0:Int)≤(nq:Int))=True:=by simp only [eq_iff_iff,iff_true];omega
 have z10:((8:Nat):Int)*(nq:Int)≤281474976710656:=by omega
 have z11:(nq:Int)≤9223372036854775807:=by omega
 have z12:IntKind.i64.wrap ((nq:Int)-1)=(nq:Int)-1:=Qag (by omega) (by omega);have z13:Nat.ble 0 0=true:=rfl;have z14:Nat.ble (digs BW R0).length (N+1)=true:=Nat.ble_eq_true_of_le hL0;have z15:min (digs BW R0).length (N+1)=(digs BW R0).length:=Nat.min_eq_left hL0

 refine Qab (tb:=[(1901,[(1000000,706)],[]),(2201,[(1000000,706)],[]),(2203,[(1000000,706)],[(102,2203)])]) 145 [.tmp 4,.tmp 5] [0,1,4,5,6,7,8,9,10,11,12,13,14,15,16,17,21,25,68,82,121] mixed Tryz.func104 rfl (by kernel_rfl) (by kernel_rfl) (by kernel_rfl) (by kernel_rfl) ?_;simp -implicitDefEqProofs only [go_sem,Nat.reduceAdd,Nat.reduceMul,Nat.reduceEqDiff,Nat.reduceLT,Nat.reduceLeDiff,reduceCtorEq,dw];refine Qah _ _ _ _ _ _ _ _ _ hc ?_;simp -implicitDefEqProofs only [go_sem,Nat.reduceAdd,Nat.reduceMul,Nat.reduceEqDiff,Nat.reduceLT,Nat.reduceLeDiff,reduceCtorEq,g1,List.length_map,hkk,z1,z2,z3,Qci,hga,Int.toNat_natCast];refine Qah _ _ _ _ _ _ _ _ _ hlz ?_;simp -implicitDefEqProofs only [go_sem,Nat.reduceAdd,Nat.reduceMul,Nat.reduceEqDiff,Nat.reduceLT,Nat.reduceLeDiff,reduceCtorEq];refine Qah _ _ _ _ _ _ _ _ _ hsb ?_;simp -implicitDefEqProofs only [go_sem,Nat.reduceAdd,Nat.reduceMul,Nat.reduceEqDiff,Nat.reduceLT,Nat.reduceLeDiff,reduceCtorEq,dw,List.length_map,hN,z4,z5,z6,z7,Int.toNat_natCast];refine⟨Qae _ _ (by kernel_rfl),?_⟩;refine Qah _ _ _ _ _ _ _ _ _ hsa ?_;have hfl:=Za6 (digs BW R0);have htk0:((digs BW R0).map fW).take (digs BW R0).length=(digs BW R0).map fW:=List.take_of_length_le (by simp);have hcp:(digs BW R0).map fW++(List.replicate (N+1) (PV.int .u64 0)).drop (digs BW R0).length=(lows BW R0 (N+1)).map fW:=by
  rw [←hpad,List.map_append,List.drop_replicate,List.map_replicate];rfl
 have hrep:List.replicate nq (PV.int .u64 0)=(mix BW 0 (R0/d) nq nq).map fW:=by rw [Qqm,Qet];simp
 simp -implicitDefEqProofs only [go_sem,Nat.reduceAdd,Nat.reduceMul,Nat.reduceEqDiff,Nat.reduceLT,Nat.reduceLeDiff,reduceCtorEq,dw,List.length_map,hfl,z13,z14,z15,htk0,hcp,List.length_replicate,hdk,z8,z9,z10,z11,z12,Int.toNat_natCast];rw [hrep];have hst:R0%(d*BW^nq)=R0:=Nat.mod_eq_of_lt hRd;refine Qar mixed (fun i:{i:Nat // i≤nq}=>St.of [(8,.int .i64 (s:Int)),(9,dw (digs BW d)),(10,.bs 706 1 0 (N+1)),(11,.int .i64 (k:Int)),(12,.bs 1004 1 0 nq),(13,.int .i64 ((i.1:Int)-1))]
  [(706,wB (lows BW (R0%(d*BW^i.1)) (N+1))),(1004,wB (mix BW 0 (R0/d) nq i.1))]) (fun i=>i.1) ⟨nq,Nat.le_refl _⟩ ?_ ?_
 ·refine Qaj (θ:=[(706,706),(1004,1004)]) rfl ?_ ?_
  ·simp [Qac,lkp,ren1,ren0,dw]
  ·simp [Qax,lkp,Box.renames,hst]
 ·rintro⟨i,hi⟩;cases i with
  |zero=>
   have h1:((0:Int)≤((0:Nat):Int)-1)=False:=by simp
   have e0:R0%(d*BW^0)=R0%d:=by rw [Nat.pow_zero,Nat.mul_one]
   have hll:=Qak (B:=BW) (R0/d) nq;have htk:=List.take_of_length_le (l:=(lows BW (R0/d) nq).map fW) (i:=nq) (by simp [hll]);have hll2:=Qak (B:=BW) (R0%d) (N+1);have htk2:=List.take_of_length_le (l:=(lows BW (R0%d) (N+1)).map fW) (i:=N+1) (by simp [hll2]);have ht1:=Qdo (lows BW (R0/d) nq) (by rw [hll];unfold maxLen;omega);have ht2:=Qdo (lows BW (R0%d) (N+1)) (by rw [hll2];unfold maxLen;omega);rw [Qb6 BW_2,Nat.mod_eq_of_lt (Nat.div_lt_of_lt_mul hRd)]at ht1;rw [Qb6 BW_2,Nat.mod_eq_of_lt (Nat.lt_of_le_of_lt (Nat.mod_le _ _) hR0)]at ht2;have hL3:(digs BW (a%b*2^s)).length≤N+1:=(Qaz BW_2 _ _).2 (by rw [hm];exact Nat.lt_of_le_of_lt (Nat.mod_le _ _) hR0);have hsr:=Zww (a%b*2^s) s (by omega) (by omega);rw [Nat.mul_div_cancel _ (Nat.pow_pos (by decide)),hm]at hsr;rw [hq];repeat (first|(simp -implicitDefEqProofs only [go_sem,Nat.reduceAdd,Nat.reduceMul,Nat.reduceEqDiff,Nat.reduceLT,Nat.reduceLeDiff,reduceIte,reduceCtorEq,h1,e0,wB,Ql6,List.length_map,hll,htk,hll2,htk2,dw])|((with_reducible refine Qaa ht1 ?_ ?_ ?_);rfl;rfl)|((with_reducible refine Qaa ht2 ?_ ?_ ?_);rfl;rfl)|((with_reducible refine Qaa hsr ?_ ?_ ?_);rfl;rfl))
  |succ i=>
   have hs1:(((i+1:Nat):Int)-1)=(i:Int):=by omega
   have i0:((0:Int)≤(i:Int))=True:=by simp
   have hik:i+k≤N:=by omega
   obtain⟨S,hS⟩: ∃S,S=R0%(d*BW^(i+1)):=⟨_,rfl⟩;obtain⟨W,hW⟩: ∃W,W=S/BW^i:=⟨_,rfl⟩;obtain⟨Q,hQ⟩: ∃Q,Q=R0/d/BW^i%BW:=⟨_,rfl⟩;have hdg:=Zc5 (B:=BW) (by decide) R0 d i hd0;rw [←hS,←hW,←hQ]at hdg;have hQB:Q<BW:=by rw [hQ];exact Nat.mod_lt _ (by decide)
   have hdk2:d<BW^k:=by rw [←hdk];exact Qbe BW_2 d
   have hWd:W<d*BW:=by
    rw [hW];refine Nat.div_lt_of_lt_mul ?_;rw [hS,Nat.mul_comm (BW^i),Nat.mul_assoc,Nat.mul_comm BW,←Nat.pow_succ];exact Nat.mod_lt _ (Nat.mul_pos hd0 (Nat.pow_pos (by decide)))
   have hWk:W<BW^(k+1):=by
    rw [Nat.pow_succ];exact Nat.lt_trans hWd (Nat.mul_lt_mul_of_pos_right hdk2 (by decide))
   have hll:=Qak (B:=BW) S (N+1);have hSW: ∀j,S/BW^(i+j)=W/BW^j:=fun j=>by rw [hW,Nat.pow_add,Nat.div_div_eq_div_mul]
   have hQle:d*Q≤W:=by rw [←hdg];exact Nat.mul_div_le W d
   have hQmax: ∀p,d*p≤W→p≤Q:=fun p hp=>by rw [←hdg,Nat.le_div_iff_mul_le hd0,Nat.mul_comm];exact hp
   have hLd: ∀p,p<BW→(digs BW (d*p)).length≤1000000000:=fun p hp=>by
    refine Nat.le_trans ((Qaz BW_2 _ (k+1)).2 ?_) (show k+1≤1000000000 by omega);rw [Nat.pow_succ];exact Nat.mul_lt_mul_of_lt_of_le hdk2 (Nat.le_of_lt hp) (by decide)
   have hLW:(digs BW W).length≤k+1:=(Qaz BW_2 _ _).2 hWk;have hwin:((lows BW S (N+1)).drop i).take (k+1)=lows BW W (k+1):=by rw [Qmq _ _ _ _ _ (by omega),←hW]
   have htB:=Qzf (lows BW S (N+1)) i (k+1) (by rw [hll];omega) (by rw [hll];unfold maxLen;omega);rw [hwin,Qb6 BW_2,Nat.mod_eq_of_lt hWk]at htB;have hwd2:((lows BW S (N+1)).drop i).take (digs BW W).length=digs BW W:=by
    rw [Qmq _ _ _ _ _ (by omega),←hW,Qiw BW_2]
   have hesc:(((lows BW S (N+1)).map fW).drop i).take (digs BW W).length=(digs BW W).map fW:=by
    rw [←List.map_drop,←List.map_take,hwd2]
   have b7:(i+(digs BW W).length≤N+1)=True:=by simp only [eq_iff_iff,iff_true];omega
   have hg1:((lows BW S (N+1)).map fW)[i+k]? =some (PV.int .u64 ((W/BW^k:Nat):Int)):=by
    have h5:W/BW^k<BW:=Nat.div_lt_of_lt_mul (by rw [←Nat.pow_succ];exact hWk);rw [List.getElem?_map,Qbv _ _ _ (by omega),hSW,Nat.mod_eq_of_lt h5];rfl
   have hg2:((lows BW S (N+1)).map fW)[i+k-1]? =some (PV.int .u64 ((W/BW^(k-1)%BW:Nat):Int)):=by
    rw [List.getElem?_map,show i+k-1=i+(k-1)by omega,Qbv _ _ _ (by omega),hSW];rfl
   have htd:=Qd5 BW_2 (show d≠0 by omega);rw [hdk]at htd;have hgd:=Qa0 (n:=d) (k:=k-1) BW_2 (by rw [hdk];omega);rw [Nat.mod_eq_of_lt htd.2]at hgd;have wik:=Qhk (a:=i) (b:=k) (by omega);have wik1:=Qan (a:=i+k) (by omega);have wikm:IntKind.i64.wrap (((i+k:Nat):Int)-1)=((i+k-1:Nat):Int):=by rw [Qag (by omega) (by omega)];omega
   have b1:(0≤((i+k:Nat):Int))=True:=by simp only [eq_iff_iff,iff_true];exact Int.natCast_nonneg _
   have b2:(((i+k:Nat):Int)<((N+1:Nat):Int))=True:=by simp only [eq_iff_iff,iff_true];omega
   have b2a:(0≤((i+k-1:Nat):Int))=True:=by simp only [eq_iff_iff,iff_true];exact Int.natCast_nonneg _
   have b2b:(((i+k-1:Nat):Int)<((N+1:Nat):Int))=True:=by simp only [eq_iff_iff,iff_true];omega
   have b3:((i:Int)≤((i+k+1:Nat):Int))=True:=by simp only [eq_iff_iff,iff_true];omega
   have b4:(((i+k+1:Nat):Int)≤((N+1:Nat):Int))=True:=by simp only [eq_iff_iff,iff_true];omega
   have b5:(i<i+k+1)=True:=by simp only [eq_iff_iff,iff_true];omega
   have hsub:i+k+1-i=k+1:=by omega
   have hsB:=Zsz (lows BW S (N+1)) i W (d*Q) hQle hwd2 (by rw [hll];omega) (by omega);have b8:Nat.ble 0 i=true:=Nat.ble_eq_true_of_le (Nat.zero_le _);have b9:Nat.ble (i+(k+1)) (N+1)=true:=Nat.ble_eq_true_of_le (by omega);have hWQ:W-d*Q<d:=by
    have h5:=Nat.mod_lt W hd0;have h6:=Nat.div_add_mod W d;rw [hdg]at h6;generalize d*Q=dq at*;omega
   have hLq:(digs BW (W-d*Q)).length≤k:=(Qaz BW_2 _ _).2 (Nat.lt_trans hWQ hdk2);have hLq2:(digs BW (W-d*Q)).length≤(digs BW W).length:=(Qaz BW_2 _ _).2 (Nat.lt_of_le_of_lt (Nat.sub_le _ _) (Qbe BW_2 W));have hmn:min (digs BW (W-d*Q)).length (k+1)=(digs BW (W-d*Q)).length:=Nat.min_eq_left (by omega);have hllf:=Qak (B:=BW) (W-d*Q) (digs BW W).length;have b11:((digs BW (W-d*Q)).length≤(digs BW W).length)=True:=by simp only [eq_iff_iff,iff_true];exact hLq2
   have hlft:((lows BW (W-d*Q) (digs BW W).length).map fW).take (digs BW (W-d*Q)).length=(digs BW (W-d*Q)).map fW:=by
    rw [←List.map_take,Q5g _ _ _ hLq2,Qiw BW_2]
   have hfl3:=Za6 (digs BW (W-d*Q));have htk3:((digs BW (W-d*Q)).map fW).take (digs BW (W-d*Q)).length=(digs BW (W-d*Q)).map fW:=List.take_of_length_le (by simp);have hlen3:(((lows BW S (N+1)).map fW).take i++List.replicate (k+1) (PV.int .u64 0)++((lows BW S (N+1)).map fW).drop (i+(k+1))).length=N+1:=by simp [hll];omega
   have b12:Nat.ble (i+(digs BW (W-d*Q)).length) (N+1)=true:=Nat.ble_eq_true_of_le (by omega);have b10:Nat.ble 0 0=true:=rfl;have hinq:((i:Int)<(nq:Int))=True:=by simp only [eq_iff_iff,iff_true];omega
   have hmlq:=Qbp (B:=BW) 0 (R0/d) nq (i+1);obtain⟨e,hgoq⟩: ∃e:Nat,((mix BW 0 (R0/d) nq (i+1)).map fW)[i]? =some (PV.int .u64 (e:Int)):=⟨_,by rw [List.getElem?_map,Qdu _ _ _ _ _ (by omega)];rfl⟩;have hsetq:=Qyt (B:=BW) (V:=0) (S:=R0/d) (N:=nq) (i:=i) (d:=Q) (by omega) hQ.symm;have w4:IntKind.i64.wrap ((i:Int)-1)=(i:Int)-1:=Qag (by omega) (by omega);obtain⟨S',hS'⟩: ∃S',S'=R0%(d*BW^i):=⟨_,rfl⟩;have hnx:S%(d*BW^i)=S':=by rw [hS,hS'];exact Zm2 R0 d i
   have hup:S'/BW^i=W-d*Q:=by
    rw [←hnx,Zc6 (by decide) S d i hd0,←hW];have h6:=Nat.div_add_mod W d;rw [hdg]at h6;omega
   have hlo:S%BW^i=S'%BW^i:=by rw [←hnx,Zc7 (by decide)]
   have hpad2:=Qiv BW_2 (W-d*Q) (k+1) (Nat.le_succ_of_le hLq);have hz1:S/BW^(i+(k+1))=0:=by rw [hSW];exact Nat.div_eq_of_lt hWk
   have hz2:S'/BW^(i+(k+1))=0:=by
    rw [Nat.pow_add,←Nat.div_div_eq_div_mul,hup];exact Nat.div_eq_of_lt (Nat.lt_of_le_of_lt (Nat.sub_le _ _) hWk)
   have hov2:=Q38 (B:=BW) (V:=S) (W:=S') (n:=N+1) (j:=i) (x:=lows BW (W-d*Q) (k+1)) (by decide) (by rw [Qak];omega) hlo (by rw [Qak,hup]) (by rw [Qak,hz1,hz2]);rw [Qak,←hpad2]at hov2;have hfin:(((lows BW S (N+1)).map fW).take i++List.replicate (k+1) (PV.int .u64 0)++((lows BW S (N+1)).map fW).drop (i+(k+1))).take i++(digs BW (W-d*Q)).map fW++
     (((lows BW S (N+1)).map fW).take i++List.replicate (k+1) (PV.int .u64 0)++((lows BW S (N+1)).map fW).drop (i+(k+1))).drop (i+(digs BW (W-d*Q)).length)=(lows BW (R0%(d*BW^i)) (N+1)).map fW:=by
    have h7:=Q0l ((lows BW S (N+1)).map fW) ((digs BW (W-d*Q)).map fW) i (k+1) (PV.int .u64 0) (by rw [List.length_map];omega) (by rw [List.length_map,hll];omega);rw [List.length_map]at h7;rw [h7,←hS',←hov2,List.map_append,List.map_append,List.map_append,List.map_take,List.map_drop,List.map_replicate];rfl
   by_cases hcase:W/BW^k<d/BW^(k-1)
   ·have g5:(((W/BW^k:Nat):Int)<((d/BW^(k-1):Nat):Int))=True:=by simp only [eq_iff_iff,iff_true];omega
    have hdv:=Za2 (W/BW^k) (W/BW^(k-1)%BW) (d/BW^(k-1)) hcase htd.2 (Nat.mod_lt _ (by decide));have htt:=Zm3 (B:=BW) (by decide) W (k-1);rw [show k-1+1=k by omega]at htt;simp only [BW]at hdv htt;rw [←htt]at hdv;have hov:=Q0h (B:=BW) (by decide) W d (k-1) (Nat.pos_of_ne_zero htd.1);rw [hdg]at hov;have hgB':W/BW^(k-1)/(d/BW^(k-1))<BW:=by
     rw [Nat.div_lt_iff_lt_mul (Nat.pos_of_ne_zero htd.1)];simp only [BW];rw [htt];have h6:=Nat.mul_le_mul_right BW (show W/BW^k+1≤d/BW^(k-1)from hcase);have h7:W/BW^(k-1)%BW<BW:=Nat.mod_lt _ (by decide);simp only [BW]at h6 h7;rw [Nat.add_mul,Nat.one_mul]at h6;rw [Nat.mul_comm 18446744073709551616];omega
    simp -implicitDefEqProofs only [go_sem,Nat.reduceAdd,Nat.reduceMul,Nat.reduceEqDiff,Nat.reduceLT,Nat.reduceLeDiff,reduceCtorEq,dw,wB,hs1,i0,wik,wikm,b1,b2,b2a,b2b,z2,z3,Int.toNat_natCast,←hS,hg1,hg2,Qci,hgd,g5];refine⟨Qae _ _ (by kernel_rfl),?_⟩;refine Qah _ _ _ _ _ _ _ _ _ hdv ?_;simp only [BW]at hov hgB';generalize W/18446744073709551616^(k-1)/(d/18446744073709551616^(k-1))=g at*;have hgQ:Q≤g:=hov;have hgB:g<BW:=hgB';have htg:=Qdo [g] (by simp [maxLen]);rw [Qjl hgB]at htg;have hmg:=Za0 d g (by rw [hdk];have:=(Qaz BW_2 g 1).2 (by simpa using hgB);omega);simp -implicitDefEqProofs only [go_sem,Nat.reduceAdd,Nat.reduceMul,Nat.reduceEqDiff,Nat.reduceLT,Nat.reduceLeDiff,reduceCtorEq];refine⟨Qae _ _ (by kernel_rfl),?_⟩;simp -implicitDefEqProofs only [go_sem,Nat.reduceAdd,Nat.reduceMul,Nat.reduceEqDiff,Nat.reduceLT,Nat.reduceLeDiff,reduceIte,reduceCtorEq,i0,b3,b4,b5,wik,wik1,Int.toNat_natCast,hsub,Nat.zero_add];refine Qah _ _ _ _ _ _ _ _ _ htg ?_;simp -implicitDefEqProofs only [go_sem,Nat.reduceAdd,Nat.reduceEqDiff,Nat.reduceLT,dw];refine Qah _ _ _ _ _ _ _ _ _ hmg ?_;simp -implicitDefEqProofs only [go_sem,Nat.reduceAdd,Nat.reduceEqDiff,Nat.reduceLT,reduceCtorEq,dw];refine Qar mixed (fun p:{p:Nat // Q≤p∧p<BW}=>St.of [(8,.int .i64 (s:Int)),(9,dw (digs BW d)),(10,.bs 706 1 0 (N+1)),(11,.int .i64 (k:Int)),(12,.bs 1004 1 0 nq),(13,.int .i64 (i:Int)),(14,.int .u64 (p.1:Int)),(15,.bs 706 1 i (k+1)),(16,dw (digs BW (d*p.1)))]
     [(706,wB (lows BW S (N+1))),(1004,wB (mix BW 0 (R0/d) nq (i+1)))]) (fun p=>p.1) ⟨g,hgQ,hgB⟩ ?_ ?_
    ·refine Qaj (θ:=[(706,706),(1004,1004)]) rfl ?_ ?_
     ·simp [Qac,lkp,ren1,ren0,dw]
     ·simp [Qax,lkp,Box.renames]
    ·rintro⟨p,hp1,hp2⟩;simp only at hp1 hp2 ⊢;have hlp:(digs BW (d*p)).length≤1000000000:=hLd p hp2;have hcm:=Qdz W (d*p) (by omega) hlp;simp -implicitDefEqProofs only [go_sem,Nat.reduceAdd,Nat.reduceMul,Nat.reduceEqDiff,Nat.reduceLT,Nat.reduceLeDiff,dw];refine Qcd _ _ _ _ _ _ _ _ _ htB ?_;simp -implicitDefEqProofs only [go_sem,Nat.reduceAdd,Nat.reduceEqDiff,Nat.reduceLT,reduceIte,wB,List.length_map,hll,b7,hesc];refine Qah _ _ _ _ _ _ _ _ _ hcm ?_;by_cases hlt:W<d*p
     ·have k1:(cmpW W (d*p)<0)=True:=by simp only [eq_iff_iff,iff_true];exact(Qek _ _).2 hlt
      have hpQ:Q<p:=by
       rcases Nat.lt_or_ge Q p with h'|h'
       ·exact h'
       ·have:=Nat.mul_le_mul_left d (show p≤Q from h');have:=hQle;omega
      have hsb2:=Qty (d*p) d (Nat.le_mul_of_pos_right d (by omega)) hlp;have e6:d*p-d=d*(p-1):=by rw [Nat.mul_sub,Nat.mul_one]
      rw [e6]at hsb2;have w5:IntKind.u64.wrap ((p:Int)-1)=((p-1:Nat):Int):=by rw [Qb3];simp only [BW]at hp2;omega
      simp -implicitDefEqProofs only [go_sem,Nat.reduceAdd,Nat.reduceMul,Nat.reduceEqDiff,Nat.reduceLT,Nat.reduceLeDiff,reduceCtorEq,k1,w5];refine Qah _ _ _ _ _ _ _ _ _ hsb2 ?_;simp -implicitDefEqProofs only [go_sem,Nat.reduceAdd,Nat.reduceEqDiff,Nat.reduceLT,reduceCtorEq,dw];refine⟨⟨p-1,by omega,by omega⟩,by simp only;omega,Qaj (θ:=[(706,706),(1004,1004)]) rfl ?_ ?_⟩
      ·simp [Qac,lkp,ren1,ren0,dw]
      ·simp [Qax,lkp,Box.renames]
     ·have k1:(cmpW W (d*p)<0)=False:=by simp only [eq_iff_iff,iff_false];rw [Qek];exact hlt
      obtain rfl:p=Q:=Nat.le_antisymm (hQmax p (by omega)) hp1;simp -implicitDefEqProofs only [go_sem,Nat.reduceAdd,Nat.reduceMul,Nat.reduceEqDiff,Nat.reduceLT,Nat.reduceLeDiff,reduceIte,reduceCtorEq,k1];refine Qcd _ _ _ _ _ _ _ _ _ htB ?_;simp -implicitDefEqProofs only [go_sem,Nat.reduceAdd,Nat.reduceEqDiff,Nat.reduceLT,wB];refine Qcd _ _ _ _ _ _ _ _ _ hsB ?_;simp -implicitDefEqProofs only [go_sem,Nat.reduceAdd,Nat.reduceMul,Nat.reduceEqDiff,Nat.reduceLT,Nat.reduceLeDiff,reduceIte,reduceCtorEq,wB,List.length_map,hll,b8,b9,List.length_replicate,b11,b12,hmn,hlft,hllf,hlen3,hfl3,htk3,Nat.zero_add,i0,hinq,hgoq,Int.toNat_natCast,w4];refine⟨⟨i,by omega⟩,by simp only;omega,Qaj (θ:=[(706,706),(1004,1004)]) rfl ?_ ?_⟩
      ·simp [Qac,lkp,ren1,ren0,dw]
      ·rw [Qc8,hsetq];simp only [Qax,lkp,Box.renames,hfin,if_true,if_false,reduceCtorEq,Nat.reduceEqDiff,and_self,and_true,true_and];exact⟨.inl trivial,.inl trivial⟩
   ·have g5:(((W/BW^k:Nat):Int)<((d/BW^(k-1):Nat):Int))=False:=by simp only [eq_iff_iff,iff_false];omega
    obtain⟨g,hg⟩: ∃g:Nat,g=18446744073709551615:=⟨_,rfl⟩;have hgI:(18446744073709551615:Int)=((g:Nat):Int):=by rw [hg];rfl
    have hgQ:Q≤g:=by rw [hg];simp only [BW]at hQB;omega
    have hgB:g<BW:=by rw [hg];decide
    have htg:=Qdo [g] (by simp [maxLen]);rw [Qjl hgB]at htg;have hmg:=Za0 d g (by rw [hdk];have:=(Qaz BW_2 g 1).2 (by simpa using hgB);omega);simp -implicitDefEqProofs only [go_sem,Nat.reduceAdd,Nat.reduceMul,Nat.reduceEqDiff,Nat.reduceLT,Nat.reduceLeDiff,reduceCtorEq,dw,wB,hs1,i0,wik,b1,b2,z2,z3,Int.toNat_natCast,←hS,hg1,Qci,hgd,g5,hgI];refine⟨Qae _ _ (by kernel_rfl),?_⟩;simp -implicitDefEqProofs only [go_sem,Nat.reduceAdd,Nat.reduceMul,Nat.reduceEqDiff,Nat.reduceLT,Nat.reduceLeDiff,reduceIte,reduceCtorEq,b3,b4,b5,wik1,Int.toNat_natCast,hsub,Nat.zero_add];refine Qah _ _ _ _ _ _ _ _ _ htg ?_;simp -implicitDefEqProofs only [go_sem,Nat.reduceAdd,Nat.reduceEqDiff,Nat.reduceLT,dw];refine Qah _ _ _ _ _ _ _ _ _ hmg ?_;simp -implicitDefEqProofs only [go_sem,Nat.reduceAdd,Nat.reduceEqDiff,Nat.reduceLT,reduceCtorEq,dw];refine Qar mixed (fun p:{p:Nat // Q≤p∧p<BW}=>St.of [(8,.int .i64 (s:Int)),(9,dw (digs BW d)),(10,.bs 706 1 0 (N+1)),(11,.int .i64 (k:Int)),(12,.bs 1004 1 0 nq),(13,.int .i64 (i:Int)),(14,.int .u64 (p.1:Int)),(15,.bs 706 1 i (k+1)),(16,dw (digs BW (d*p.1)))]
     [(706,wB (lows BW S (N+1))),(1004,wB (mix BW 0 (R0/d) nq (i+1)))]) (fun p=>p.1) ⟨g,hgQ,hgB⟩ ?_ ?_
    ·refine Qaj (θ:=[(706,706),(1004,1004)]) rfl ?_ ?_
     ·simp [Qac,lkp,ren1,ren0,dw]
     ·simp [Qax,lkp,Box.renames]
    ·rintro⟨p,hp1,hp2⟩;simp only at hp1 hp2 ⊢;have hlp:(digs BW (d*p)).length≤1000000000:=hLd p hp2;have hcm:=Qdz W (d*p) (by omega) hlp;simp -implicitDefEqProofs only [go_sem,Nat.reduceAdd,Nat.reduceMul,Nat.reduceEqDiff,Nat.reduceLT,Nat.reduceLeDiff,dw];refine Qcd _ _ _ _ _ _ _ _ _ htB ?_;simp -implicitDefEqProofs only [go_sem,Nat.reduceAdd,Nat.reduceEqDiff,Nat.reduceLT,reduceIte,wB,List.length_map,hll,b7,hesc];refine Qah _ _ _ _ _ _ _ _ _ hcm ?_;by_cases hlt:W<d*p
     ·have k1:(cmpW W (d*p)<0)=True:=by simp only [eq_iff_iff,iff_true];exact(Qek _ _).2 hlt
      have hpQ:Q<p:=by
       rcases Nat.lt_or_ge Q p with h'|h'
       ·exact h'
       ·have:=Nat.mul_le_mul_left d (show p≤Q from h');have:=hQle;omega
      have hsb2:=Qty (d*p) d (Nat.le_mul_of_pos_right d (by omega)) hlp;have e6:d*p-d=d*(p-1):=by rw [Nat.mul_sub,Nat.mul_one]
      rw [e6]at hsb2;have w5:IntKind.u64.wrap ((p:Int)-1)=((p-1:Nat):Int):=by rw [Qb3];simp only [BW]at hp2;omega
      simp -implicitDefEqProofs only [go_sem,Nat.reduceAdd,Nat.reduceMul,Nat.reduceEqDiff,Nat.reduceLT,Nat.reduceLeDiff,reduceCtorEq,k1,w5];refine Qah _ _ _ _ _ _ _ _ _ hsb2 ?_;simp -implicitDefEqProofs only [go_sem,Nat.reduceAdd,Nat.reduceEqDiff,Nat.reduceLT,reduceCtorEq,dw];refine⟨⟨p-1,by omega,by omega⟩,by simp only;omega,Qaj (θ:=[(706,706),(1004,1004)]) rfl ?_ ?_⟩
      ·simp [Qac,lkp,ren1,ren0,dw]
      ·simp [Qax,lkp,Box.renames]
     ·have k1:(cmpW W (d*p)<0)=False:=by simp only [eq_iff_iff,iff_false];rw [Qek];exact hlt
      obtain rfl:p=Q:=Nat.le_antisymm (hQmax p (by omega)) hp1;simp -implicitDefEqProofs only [go_sem,Nat.reduceAdd,Nat.reduceMul,Nat.reduceEqDiff,Nat.reduceLT,Nat.reduceLeDiff,reduceIte,reduceCtorEq,k1];refine Qcd _ _ _ _ _ _ _ _ _ htB ?_;simp -implicitDefEqProofs only [go_sem,Nat.reduceAdd,Nat.reduceEqDiff,Nat.reduceLT,wB];refine Qcd _ _ _ _ _ _ _ _ _ hsB ?_;simp -implicitDefEqProofs only [go_sem,Nat.reduceAdd,Nat.reduceMul,Nat.reduceEqDiff,Nat.reduceLT,Nat.reduceLeDiff,reduceIte,reduceCtorEq,wB,List.length_map,hll,b8,b9,List.length_replicate,b11,b12,hmn,hlft,hllf,hlen3,hfl3,htk3,Nat.zero_add,i0,hinq,hgoq,Int.toNat_natCast,w4];refine⟨⟨i,by omega⟩,by simp only;omega,Qaj (θ:=[(706,706),(1004,1004)]) rfl ?_ ?_⟩
      ·simp [Qac,lkp,ren1,ren0,dw]
      ·rw [Qc8,hsetq];simp only [Qax,lkp,Box.renames,hfin,if_true,if_false,reduceCtorEq,Nat.reduceEqDiff,and_self,and_true,true_and];exact⟨.inl trivial,.inl trivial⟩
end Go.Proofs.YtjlkapdmgjocdaaGreat

namespace Go.Proofs.YtjlkapdmgjocdaaGreat
open Go.Vl Go.RowKit Go.Dg
theorem Zmp (a b:Nat) (hb:0<b) (ha:(digs BW a).length≤100000000) (hbl:(digs BW b).length≤100000000):Qaf Tryz.prog 104 [dw (digs BW a),dw (digs BW b)] (.tup [dw (digs BW (a/b)),dw (digs BW (a%b))]):=by
 by_cases h:a<b
 ·exact Zs0 a b h ha hbl
 ·by_cases h1:b<18446744073709551616
  ·exact Zkh a b (by omega) hb h1 ha
  ·refine Za7 a b (by omega) ?_ ha;refine(Qda BW_2 b 1).2 ?_;have:=Nat.div_pos (show 18446744073709551616≤b by omega) (by decide);rw [Nat.pow_one];simp only [BW];omega
theorem Qnu {a b:Nat} (h:a≤b):(digs BW a).length≤(digs BW b).length:=
 (Qaz BW_2 a _).2 (Nat.lt_of_le_of_lt h (Qbe BW_2 b))
theorem Zwx (a b:Nat) (ha:(digs BW a).length≤100000000) (hb:(digs BW b).length≤100000000):Qaf Tryz.prog 118 [dw (digs BW a),dw (digs BW b)] (dw (digs BW (Nat.gcd a b))):=by
 refine Qab (tb:=[]) 19 [.tmp 4] [0,1,4,6,9] mixed Tryz.func118 rfl (by kernel_rfl) (by kernel_rfl) (by kernel_rfl) (by kernel_rfl) ?_;simp -implicitDefEqProofs only [go_sem,Nat.reduceMul,Nat.reduceEqDiff,Nat.reduceLT,Nat.reduceLeDiff,reduceCtorEq,dw];refine Qar mixed (fun p:{p:Nat×Nat // Nat.gcd p.1 p.2=Nat.gcd a b∧(digs BW p.1).length≤100000000∧(digs BW p.2).length≤100000000}=>St.of [(0,dw (digs BW p.1.1)),(1,dw (digs BW p.1.2)),(4,.nilS)] []) (fun p=>p.1.2) ⟨(a,b),rfl,ha,hb⟩ ?_ ?_
 ·exact Qa3 (by simp [Qac,lkp,ren1,ren0,dw])
 ·rintro⟨⟨x,y⟩,h1,h2,h3⟩;simp only at h1 h2 h3 ⊢;by_cases hy:y=0
  ·subst hy;have g1:((0:Int)<((0:Nat):Int))=False:=by simp
   rw [Nat.gcd_zero_right]at h1;subst h1;simp -implicitDefEqProofs only [go_sem,Nat.reduceAdd,Nat.reduceMul,Nat.reduceEqDiff,Nat.reduceLT,Nat.reduceLeDiff,reduceCtorEq,dw,Qbi,List.map_nil,List.length_nil,g1]
  ·have hp:0<(digs BW y).length:=List.length_pos_iff.2 (mt (Qbo BW_2).1 hy);have g1:((0:Int)<((digs BW y).length:Int))=True:=by simp only [eq_iff_iff,iff_true];omega
   have hd:=Zmp x y (Nat.pos_of_ne_zero hy) h2 h3;have hr:=Nat.mod_lt x (Nat.pos_of_ne_zero hy);simp -implicitDefEqProofs only [go_sem,Nat.reduceAdd,Nat.reduceMul,Nat.reduceEqDiff,Nat.reduceLT,Nat.reduceLeDiff,reduceCtorEq,dw,List.length_map,g1];refine Qah _ _ _ _ _ _ _ _ _ hd ?_;simp -implicitDefEqProofs only [go_sem,Nat.reduceAdd,Nat.reduceMul,Nat.reduceEqDiff,Nat.reduceLT,Nat.reduceLeDiff,reduceCtorEq,dw];refine⟨⟨(y,x%y),by rw [←h1,Nat.gcd_comm x y,Nat.gcd_rec y x,Nat.gcd_comm],h3,Nat.le_trans (Qnu (Nat.le_of_lt hr)) h3⟩,by simp only;exact hr,Qa3 ?_⟩;simp [Qac,lkp,ren1,ren0,dw]
theorem Zwy (xn yn:Bool) (a b:Nat) (hab:(digs BW a).length+(digs BW b).length≤1000000000):Qaf Tryz.prog 119 [nP xn a,nP yn b] (nP (!(xn==yn)) (a*b)):=by
 have h:=Za0 a b hab;refine Qab (tb:=[]) 16 [.cell 4 128] [0,1,2,3,4] mixed Tryz.func119 rfl (by kernel_rfl) (by kernel_rfl) (by kernel_rfl) (by kernel_rfl) ?_;repeat (first|(simp -implicitDefEqProofs only [go_sem,Nat.reduceAdd,Nat.reduceMul,Nat.reduceEqDiff,Nat.reduceLT,Nat.reduceLeDiff,reduceCtorEq,nP,dw])|((with_reducible refine Qaa h ?_ ?_ ?_);rfl;rfl)|(with_reducible exact Qae _ _ (by kernel_rfl)))
theorem Zwz (xn yn:Bool) (a b:Nat):sv (!(xn==yn)) (a*b)=sv xn a*sv yn b:=by
 cases xn<;>cases yn<;>simp [sv,Int.natCast_mul,Int.neg_mul,Int.mul_neg]
def nqn (xn:Bool) (a b:Nat):Nat:=if(xn&&decide (0<a%b))=true then a/b+1 else a/b
def nrn (xn:Bool) (a b:Nat):Nat:=if(xn&&decide (0<a%b))=true then b-a%b else a%b
theorem Q2l (xn:Bool) (a b:Nat) (hb:0<b):sv xn (nqn xn a b)=sv xn a/(b:Int)∧((nrn xn a b:Nat):Int)=sv xn a%(b:Int):=by
 have hb':(0:Int)<(b:Int):=by omega
 have h:=Nat.div_add_mod a b;have hr:=Nat.mod_lt a hb;have key:=(Int.ediv_emod_unique (a:=sv xn a) (r:=((nrn xn a b:Nat):Int)) (q:=sv xn (nqn xn a b)) hb').2;refine(fun t=>⟨(key t).1.symm,(key t).2.symm⟩) ?_;have e:((b*(a/b):Nat):Int)+((a%b:Nat):Int)=(a:Int):=by rw [←Int.natCast_add,h]
 rw [Int.natCast_mul]at e;cases xn with
 |false=>
  simp only [sv,nqn,nrn,Bool.false_and,Bool.false_eq_true,if_false];refine⟨by omega,by omega,by omega⟩
 |true=>
  by_cases h0:0<a%b
  ·simp only [sv,nqn,nrn,Bool.true_and,decide_eq_true_eq,h0,if_true];rw [Int.mul_neg,Int.natCast_add,Int.mul_add];generalize (b:Int)*((a/b:Nat):Int)=m at*;refine⟨by omega,by omega,by omega⟩
  ·simp only [sv,nqn,nrn,Bool.true_and,decide_eq_true_eq,h0,if_false,if_true];rw [Int.mul_neg];generalize (b:Int)*((a/b:Nat):Int)=m at*;refine⟨by omega,by omega,by omega⟩
theorem Zw0 (xn yn:Bool) (a b:Nat) (hb:0<b):sv (!(xn==yn)) (nqn xn a b)=sv xn a/sv yn b∧((nrn xn a b:Nat):Int)=sv xn a%sv yn b:=by
 obtain⟨h1,h2⟩:=Q2l xn a b hb;have flip: ∀(n:Bool) (m:Nat),sv (!n) m= -(sv n m):=by intro n m;cases n<;>simp [sv]
 cases yn with
 |false=>
  refine⟨?_,by simpa [sv]using h2⟩;have:(!(xn==false))=xn:=by cases xn<;>rfl
  rw [this,h1];simp [sv]
 |true=>
  have:(!(xn==true))= !xn:=by cases xn<;>rfl
  rw [this,flip,h1,h2];simp [sv,Int.ediv_neg,Int.emod_neg]
theorem Zw1 (xn yn:Bool) (a b:Nat) (hb:0<b) (ha:(digs BW a).length≤100000000) (hbl:(digs BW b).length≤100000000):Qaf Tryz.prog 87 [nP xn a,nP yn b] (.tup [nP (!(xn==yn)) (nqn xn a b),nP false (nrn xn a b)]):=by
 have hd:=Zmp a b hb ha hbl;have hr:=Nat.mod_lt a hb;cases xn with
 |false=>
  have e1:nqn false a b=a/b:=by simp [nqn]
  have e2:nrn false a b=a%b:=by simp [nrn]
  rw [e1,e2];refine Qab (tb:=[]) 39 [.cell 4 128,.cell 5 128] [0,1,2,3,4,5,6,7,22] mixed Tryz.func87 rfl (by kernel_rfl) (by kernel_rfl) (by kernel_rfl) (by kernel_rfl) ?_;repeat (first|(simp -implicitDefEqProofs only [go_sem,Nat.reduceAdd,Nat.reduceMul,Nat.reduceEqDiff,Nat.reduceLT,Nat.reduceLeDiff,reduceCtorEq,nP,dw])|((with_reducible refine Qaa hd ?_ ?_ ?_);rfl;rfl))
 |true=>
  by_cases h0:a%b=0
  ·have g1:((0:Int)<((0:Nat):Int))=False:=by simp
   have e1:nqn true a b=a/b:=by simp [nqn,h0]
   have e2:nrn true a b=0:=by simp [nrn,h0]
   rw [e1,e2];rw [h0,Qbi]at hd;refine Qab (tb:=[]) 39 [.cell 4 128,.cell 5 128] [0,1,2,3,4,5,6,7,22] mixed Tryz.func87 rfl (by kernel_rfl) (by kernel_rfl) (by kernel_rfl) (by kernel_rfl) ?_;repeat (first|(simp -implicitDefEqProofs only [go_sem,Nat.reduceAdd,Nat.reduceMul,Nat.reduceEqDiff,Nat.reduceLT,Nat.reduceLeDiff,reduceCtorEq,nP,dw,Qbi,List.map_nil,List.length_nil,g1])|((with_reducible refine Qaa hd ?_ ?_ ?_);rfl;rfl))
  ·have hp:0<(digs BW (a%b)).length:=List.length_pos_iff.2 (mt (Qbo BW_2).1 h0);have g1:((0:Int)<((digs BW (a%b)).length:Int))=True:=by simp only [eq_iff_iff,iff_true];omega
   have e1:nqn true a b=a/b+1:=by simp only [nqn,Bool.true_and,decide_eq_true_eq];rw [if_pos (by omega)]
   have e2:nrn true a b=b-a%b:=by simp only [nrn,Bool.true_and,decide_eq_true_eq];rw [if_pos (by omega)]
   have hd1:digs BW 1=[1]:=by rw [Qgp BW_2 (by decide),show 1%BW=1 from by decide,show 1/BW=0 from by decide,Qbi]
   have hq:=Qnu (Nat.div_le_self a b);have had:=Zmq (a/b) 1 (by omega) (by rw [hd1];simp);rw [hd1]at had;have hsb:=Qty b (a%b) (Nat.le_of_lt hr) (by omega);rw [e1,e2];refine Qab (tb:=[]) 39 [.cell 4 128,.cell 5 128] [0,1,2,3,4,5,6,7,22] mixed Tryz.func87 rfl (by kernel_rfl) (by kernel_rfl) (by kernel_rfl) (by kernel_rfl) ?_;repeat (first|(simp -implicitDefEqProofs only [go_sem,Nat.reduceAdd,Nat.reduceMul,Nat.reduceEqDiff,Nat.reduceLT,Nat.reduceLeDiff,reduceIte,reduceCtorEq,nP,dw,List.length_map,g1,List.map_cons,List.map_nil])|((with_reducible refine Qaa hd ?_ ?_ ?_);rfl;rfl)|((with_reducible refine Qaa had ?_ ?_ ?_);rfl;rfl)|((with_reducible refine Qaa hsb ?_ ?_ ?_);rfl;rfl)|(with_reducible exact Qae _ _ (by kernel_rfl)))
end Go.Proofs.YtjlkapdmgjocdaaGreat

namespace Go.Proofs.YtjlkapdmgjocdaaGreat
open Go.Vl Go.RowKit Go.Dg
theorem Qnt: ∀l:List Nat,(∀d∈l,d<256)→bnum (l.reverse.map fun d=>UInt8.ofNat d)=val 256 l
 | [],_=>rfl
 |d::r,h=>by
  rw [List.reverse_cons,List.map_append,List.map_cons,List.map_nil,Qml,Qnt r fun x hx=>h x (by simp [hx])];rw [UInt8.toNat_ofNat_of_lt' (h d (by simp))];simp only [val];omega
theorem Za4 (m:Nat):bnum (magL m)=m:=by
 rw [magL,Qnt _ fun d hd=>Qvg (by decide) hd,Qyg (by decide)]
theorem Za5 {neg:Bool} {l:List UInt8} (h:Qbj neg l=true):magL (bnum l)=l:=by
 have hv:bnum l=val 256 (l.reverse.map UInt8.toNat):=by
  have h2:=Qnt (l.reverse.map UInt8.toNat) (by intro d hd;obtain⟨b,_,rfl⟩:=List.mem_map.1 hd;exact b.toNat_lt);rw [←h2,←List.map_reverse,List.reverse_reverse,List.map_map];congr 1
  conv=>lhs;rw [←List.map_id l]
  apply List.map_congr_left;intro b _;simp
 have ht:Qfk (l.reverse.map UInt8.toNat)=l.reverse.map UInt8.toNat:=by
  refine Q0m ?_;intro d hd;cases l with
  |nil=>simp at hd
  |cons b r=>
   simp at hd;subst hd;simp only [Qbj,Bool.and_eq_true]at h;have hb:b≠0:=by simpa using h.2
   intro e;exact hb (UInt8.toNat_inj.1 (by simpa using e))
 have hd:digs 256 (bnum l)=l.reverse.map UInt8.toNat:=by
  rw [hv,←Qqo (by decide) _ (by intro d hd;obtain⟨b,_,rfl⟩:=List.mem_map.1 hd;exact b.toNat_lt),ht]
 rw [magL,hd,←List.map_reverse,List.reverse_reverse,List.map_map]
 conv=>rhs;rw [←List.map_id l]
 apply List.map_congr_left;intro b _;simp
theorem Zke (neg:Bool) (s:ByteArray) (h:Qbj neg s.data.toList=true):decide (wnum neg s<0)=neg:=by
 unfold wnum sv;cases neg with
 |false=>simp
 |true=>
  cases hl:s.data.toList with
  |nil=>rw [hl]at h;simp [Qbj]at h
  |cons b r=>
   rw [hl]at h;simp only [Qbj,Bool.and_eq_true]at h;have hb:b.toNat≠0:=fun e=>by
    have:b≠0:=by simpa using h.2
    exact this (UInt8.toNat_inj.1 (by simpa using e))
   have:=Qnr b r;have hp:0<b.toNat*256^r.length:=Nat.mul_pos (Nat.pos_of_ne_zero hb) (Nat.pow_pos (by decide));simp;omega
theorem Zkf (neg:Bool) (s:ByteArray) (h:Qbj neg s.data.toList=true):wPV (wnum neg s)= .agg [.bool neg,.str s]:=by
 have e:(wnum neg s).natAbs=bnum s.data.toList:=by unfold wnum sv;cases neg<;>simp
 rw [wPV,Zke neg s h,e,Za5 h]
theorem Qcw (n:Int):wnum (decide (n<0)) ⟨(magL n.natAbs).toArray⟩=n:=by
 unfold wnum sv;rw [show(⟨(magL n.natAbs).toArray⟩:ByteArray).data.toList=magL n.natAbs from rfl,Za4];by_cases h:n<0
 ·simp [h];omega
 ·simp [h];omega
theorem Qwx (n:Int) (h:(digs 256 n.natAbs).length≤8192):Qbj (decide (n<0)) (magL n.natAbs)=true:=by
 by_cases h0:n.natAbs=0
 ·have:n=0:=by omega
  subst this;simp [magL,Qbi,Qbj]
 ·obtain⟨d,hd,hd2⟩:=Zds h0;have ht:=Qd5 (B:=256) (by decide) h0;cases hl:magL n.natAbs with
  |nil=>
   have:=Qdw n.natAbs;rw [hl]at this;exact absurd ((Qbo (by decide)).1 (List.length_eq_zero_iff.1 this.symm)) h0
  |cons b r=>
   have hlen:=Qdw n.natAbs;rw [hl]at hlen;have hb:b=d:=by
    have h3:(⟨(magL n.natAbs).toArray⟩:ByteArray)[0]? =(magL n.natAbs)[0]? :=by
     rw [Qsr _ 0 (by show 0<(magL n.natAbs).length;rw [hl];simp)];exact(List.getElem?_eq_getElem _).symm
    rw [hd,hl]at h3;simpa using h3.symm
   simp only [Qbj,Bool.and_eq_true,decide_eq_true_eq];refine⟨by omega,?_⟩;simp only [bne_iff_ne,ne_eq];intro e;rw [hb]at e;subst e;simp at hd2;exact ht.1 hd2.symm
end Go.Proofs.YtjlkapdmgjocdaaGreat

namespace Go.Proofs.YtjlkapdmgjocdaaGreat
open Go.Vl Go.RowKit Go.Dg
theorem Zw2 (an bn:Bool) (a b:ByteArray) (h1:Qbj an a.data.toList=true) (h2:Qbj bn b.data.toList=true) (ha:a.size≤100000) (hb:b.size≤100000):
  Qaf Tryz.prog 103 [.agg [.bool an,.str a],.agg [.bool bn,.str b]] (Qih (wnum an a*wnum bn b)):=by
 have hv:=Qtz an bn a b;rw [h1,h2,Bool.true_and]at hv;have hL1:=Qgi a ha;have hL2:=Qgi b hb;have hoa:=Qox an a h1 (by omega);have hob:=Qox bn b h2 (by omega);have hm:=Zwy an bn (bnum a.data.toList) (bnum b.data.toList) (by omega);have hL:(digs BW (bnum a.data.toList*bnum b.data.toList)).length≤1000000:=by
  refine Nat.le_trans ((Qaz BW_2 _ ((digs BW (bnum a.data.toList)).length+(digs BW (bnum b.data.toList)).length)).2 ?_) (by omega);rw [Nat.pow_add];exact Nat.mul_lt_mul'' (Qbe BW_2 _) (Qbe BW_2 _)
 have hw:=Qkr (!(an==bn)) _ hL;rw [Zwz,Qhp]at hw;rw [wnum,wnum,Qhp];refine Qab (tb:=[]) 19 [.cell 4 93,.tmp 5] [0,1,2,3,4,5,9] mixed Tryz.func103 rfl (by kernel_rfl) (by kernel_rfl) (by kernel_rfl) (by kernel_rfl) ?_;repeat (first|(simp -implicitDefEqProofs only [go_sem,Nat.reduceAdd,Nat.reduceMul,Nat.reduceEqDiff,Nat.reduceLT,Nat.reduceLeDiff,reduceCtorEq,nP,dw,wPV])|((with_reducible refine Qaa hv ?_ ?_ ?_);rfl;rfl)|((with_reducible refine Qaa hoa ?_ ?_ ?_);rfl;rfl)|((with_reducible refine Qaa hob ?_ ?_ ?_);rfl;rfl)|((with_reducible refine Qaa hm ?_ ?_ ?_);rfl;rfl)|((with_reducible refine Qaa hw ?_ ?_ ?_);rfl;rfl)|(with_reducible exact Qae _ _ (by kernel_rfl)))
theorem Zw3 (an bn:Bool) (a b:ByteArray) (h1:Qbj an a.data.toList=true) (h2:Qbj bn b.data.toList=true) (ha:a.size≤100000) (hb:b.size≤100000):
  Qaf Tryz.prog 102 [.agg [.bool an,.str a],.agg [.bool bn,.str b]] (Qih ((Nat.gcd (bnum a.data.toList) (bnum b.data.toList):Nat):Int)):=by
 have hv:=Qtz an bn a b;rw [h1,h2,Bool.true_and]at hv;have hL1:=Qgi a ha;have hL2:=Qgi b hb;have hoa:=Qrr a (by omega);have hob:=Qrr b (by omega);rw [Qjk h1]at hoa;rw [Qjk h2]at hob;have hg:=Zwx (bnum a.data.toList) (bnum b.data.toList) (by omega) (by omega);have hL:(digs BW (Nat.gcd (bnum a.data.toList) (bnum b.data.toList))).length≤1000000:=by
  rcases Nat.eq_zero_or_pos (bnum a.data.toList)with h0|h0
  ·rw [h0,Nat.gcd_zero_left];omega
  ·exact Nat.le_trans (Qnu (Nat.gcd_le_left _ h0)) (by omega)
 have hw:=Qkr false _ hL;have e:sv false (Nat.gcd (bnum a.data.toList) (bnum b.data.toList))=((Nat.gcd (bnum a.data.toList) (bnum b.data.toList):Nat):Int):=rfl;rw [e,Qhp]at hw;rw [Qhp];refine Qab (tb:=[]) 22 [.cell 4 93,.tmp 5] [0,1,2,3,4,5,9] mixed Tryz.func102 rfl (by kernel_rfl) (by kernel_rfl) (by kernel_rfl) (by kernel_rfl) ?_;repeat (first|(simp -implicitDefEqProofs only [go_sem,Nat.reduceAdd,Nat.reduceMul,Nat.reduceEqDiff,Nat.reduceLT,Nat.reduceLeDiff,reduceCtorEq,dw,wPV])|((with_reducible refine Qaa hv ?_ ?_ ?_);rfl;rfl)|((with_reducible refine Qaa hoa ?_ ?_ ?_);rfl;rfl)|((with_reducible refine Qaa hob ?_ ?_ ?_);rfl;rfl)|((with_reducible refine Qaa hg ?_ ?_ ?_);rfl;rfl)|((with_reducible refine Qaa hw ?_ ?_ ?_);rfl;rfl)|(with_reducible exact Qae _ _ (by kernel_rfl)))
end Go.Proofs.YtjlkapdmgjocdaaGreat
