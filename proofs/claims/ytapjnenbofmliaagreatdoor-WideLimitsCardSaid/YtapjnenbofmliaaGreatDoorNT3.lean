/-
  NW16, De, De2, De3, NW17, De4, NW18, Dx, Dxt, Bn, NT3 (merged for the claim).
-/
import Derived.Test.YtapjnenbofmliaaGreatDoorNT1
import Derived.Test.YtapjnenbofmliaaGreatDoorUW
import Derived.Test.YtapjnenbofmliaaGreatDoorNW6
import Derived.Lib.ItoaNum
import Derived.Lib.ParseIntB
import Derived.Lib.Join
import Derived.Lib.Repeat
import Derived.Lib.Strings
set_option linter.unusedSimpArgs false
set_option linter.unusedVariables false
namespace Go.Proofs.YtapjnenbofmliaaGreatDoor
open Go.Vl Go.RowKit Go.Dg
theorem Zaz (x y:Nat) (hx:x<18446744073709551616) (hy:y<18446744073709551616):Qag Tryz.prog 80 [.int .u64 x,.int .u64 y] (.tup [.int .u64 ((x*y/18446744073709551616:Nat):Int),.int .u64 ((x*y%18446744073709551616:Nat):Int)]):=by
 refine Qae (tb:=[]) 51 [.tmp 4,.tmp 5] [0,1,4,5,6,7,8,9,10,11,12,13] mixed Tryz.func80 rfl (by kernel_rfl) (by kernel_rfl) (by kernel_rfl) (by kernel_rfl) ?_;simp -implicitDefEqProofs only [go_sem,seval,Qcr,Qnw,←Int.natCast_mul,←Int.natCast_add,Ze0 hx hy]
theorem Qzt (a b:Nat):IntKind.u64.wrap ((a:Int)+(b:Int))=(((a+b)%18446744073709551616:Nat):Int):=by rw [←Int.natCast_add,Qcr]
theorem Q6l {x y o c:Nat} (hx:x<18446744073709551616) (hy:y<18446744073709551616) (ho:o<18446744073709551616) (hc:c<18446744073709551616):
  ((x*y%18446744073709551616+o)%18446744073709551616+c)%18446744073709551616=(o+c+x*y)%18446744073709551616∧
  ((x*y/18446744073709551616+(x*y%18446744073709551616+o)/18446744073709551616)%18446744073709551616+((x*y%18446744073709551616+o)%18446744073709551616+c)/18446744073709551616)%18446744073709551616=(o+c+x*y)/18446744073709551616:=by
 have h:x*y≤18446744073709551615*18446744073709551615:=Nat.mul_le_mul (by omega) (by omega);generalize x*y=p at*;omega
set_option maxRecDepth 2000 in
theorem Qoi (a b:Nat) (hab:(digs BW a).length+(digs BW b).length≤1000000000):Qag Tryz.prog 48 [dw (digs BW a),dw (digs BW b)] (dw (digs BW (a*b))):=by
 refine Qae (tb:=[]) 80 [.tmp 4] [0,1,4,5,6,7,8,9,10,11,12,13,20,21,22,23,27,28,29,30] mixed Tryz.func48 rfl (by kernel_rfl) (by kernel_rfl) (by kernel_rfl) (by kernel_rfl) ?_;have hw0:=Qcs (a:=(digs BW a).length) (b:=(digs BW b).length) (by omega);have hn0:((0:Int)≤(((digs BW a).length+(digs BW b).length:Nat):Int))=True:=by simp only [eq_iff_iff,iff_true];omega
 have hn1:((8:Nat):Int)*(((digs BW a).length+(digs BW b).length:Nat):Int)≤281474976710656:=by omega
 have hn2:(((digs BW a).length+(digs BW b).length:Nat):Int)≤9223372036854775807:=by omega
 simp -implicitDefEqProofs only [go_sem,Nat.reduceAdd,Nat.reduceMul,Nat.reduceEqDiff,Nat.reduceLT,Nat.reduceLeDiff,reduceCtorEq,dw,List.length_map,hw0,hn0,hn1,hn2,Int.toNat_natCast];have hrep:List.replicate ((digs BW a).length+(digs BW b).length) (PV.int .u64 0)=(lows BW 0 ((digs BW a).length+(digs BW b).length)).map fW:=by rw [Qdg];simp
 rw [hrep];generalize hla:(digs BW a).length=la at*;generalize hlb:(digs BW b).length=lb at*;have hblt:b<BW^lb:=by rw [←hlb];exact Qay BW_2 b
 refine Qba mixed (fun i:{i:Nat // i≤la}=>St.of [(0,dw (digs BW a)),(1,dw (digs BW b)),(4,.nilS),(5,.bs 105 1 0 (la+lb)),(20,dw (digs BW a)),(21,.int .i64 (la:Int)),(22,.int .i64 (i.1:Int))]
  [(105,{els:=(lows BW (a%BW^i.1*b) (la+lb)).map fW,esz:=1,ety:=66,fro:=0,live:=true,arr:=true})]) (fun i=>la-i.1) ⟨0,Nat.zero_le _⟩ ?_ ?_
 ·refine Qa0 (θ:=[(105,105)]) rfl ?_ ?_
  ·simp [Qah,lkp,ren1,ren0,dw]
  ·simp [Qal,lkp,Box.renames,Nat.mod_one]
 ·rintro⟨i,hi⟩;by_cases hA:i<la
  ·have hA':((i:Int)<(la:Int))=True:=by simp;omega
   have h0:(0≤(i:Int))=True:=by simp
   have hga:=Qam BW_2 (show i<(digs BW a).length by omega);simp -implicitDefEqProofs only [go_sem,Nat.reduceAdd,Nat.reduceMul,Nat.reduceEqDiff,Nat.reduceLT,Nat.reduceLeDiff,reduceCtorEq,dw,List.length_map,hlb,hA',h0,Qb3,hga,Int.toNat_natCast];generalize hS:a%BW^i*b=S at*;generalize hx:a/BW^i%BW=x at*;have hxl:x<BW:=by rw [←hx];exact Nat.mod_lt _ (by decide)
   refine Qba mixed (fun k:{k:Nat // k≤lb}=>St.of [(0,dw (digs BW a)),(1,dw (digs BW b)),(4,.nilS),(5,.bs 105 1 0 (la+lb)),(6,.int .i64 (i:Int)),(7,.int .u64 (x:Int)),(8,.int .u64 (mulC BW S x i b k.1:Int)),(20,dw (digs BW a)),(21,.int .i64 (la:Int)),(22,.int .i64 (i:Int)),(27,dw (digs BW b)),(28,.int .i64 (lb:Int)),(29,.int .i64 (k.1:Int))]
    [(105,{els:=(mix BW (mulV BW S x i b k.1) S (la+lb) (i+k.1)).map fW,esz:=1,ety:=66,fro:=0,live:=true,arr:=true})]) (fun k=>lb-k.1) ⟨0,Nat.zero_le _⟩ ?_ ?_
   ·refine Qa0 (θ:=[(105,105)]) rfl ?_ ?_
    ·simp [Qah,lkp,ren1,ren0,dw,Qn3]
    ·simp only [Qal,lkp,Box.renames,Qn1,Nat.add_zero,and_self,and_true,true_and,if_true];rw [Qed (by decide) rfl];exact .inl rfl
   ·rintro⟨k,hk⟩;have hcl:=Q8w (B:=BW) (S:=S) (i:=i) (b:=b) (k:=k) (by decide) hxl;have hk0:(0≤(k:Int))=True:=by simp
    have hml:=Qa9 (B:=BW) (mulV BW S x i b k) S (la+lb) (i+k);have hwik:=Qcs (a:=i) (b:=k) (by omega);have hik0:((0:Int)≤((i+k:Nat):Int))=True:=by simp only [eq_iff_iff,iff_true];omega
    by_cases hB:k<lb
    ·have hB':((k:Int)<(lb:Int))=True:=by simp;omega
     have hgb:=Qam BW_2 (show k<(digs BW b).length by omega);have hwk:=Qa5 (a:=k) (by omega);have hin:i+k<la+lb:=by omega
     have hin':(((i+k:Nat):Int)<((la+lb:Nat):Int))=True:=by simp only [eq_iff_iff,iff_true];omega
     have hget:((mix BW (mulV BW S x i b k) S (la+lb) (i+k)).map fW)[i+k]? =some (PV.int .u64 ((S/BW^(i+k)%BW:Nat):Int)):=by rw [List.getElem?_map,Qci _ _ _ _ _ hin,if_neg (Nat.lt_irrefl _)];rfl
     have hset:=Qdi (B:=BW) (S:=S) (by decide) hin (Q19 (B:=BW) S x i b k) rfl;obtain⟨hs1,hs2⟩:=Qr8 (B:=BW) (by decide) S x i b k;have hd1:S/BW^(i+k)%BW<BW:=Nat.mod_lt _ (by decide);have hd2:b/BW^k%BW<BW:=Nat.mod_lt _ (by decide);generalize S/BW^(i+k)%BW=o at*;generalize b/BW^k%BW=y at*;generalize mulC BW S x i b k=c at*;obtain⟨m1,m2⟩:=Q6l hxl hd2 hd1 hcl;rw [hs1]at m1;rw [hs2]at m2;simp -implicitDefEqProofs only [go_sem,Nat.reduceAdd,Nat.reduceMul,Nat.reduceEqDiff,Nat.reduceLT,Nat.reduceLeDiff,reduceCtorEq,dw,hB',hk0,Qb3,hgb,Int.toNat_natCast];refine Qab _ _ _ _ _ _ _ _ _ (Zaz x y hxl hd2) ?_;simp -implicitDefEqProofs only [go_sem,Nat.reduceAdd,Nat.reduceMul,Nat.reduceEqDiff,Nat.reduceLT,Nat.reduceLeDiff,reduceCtorEq,hwik,hik0,hin',hget,Int.toNat_natCast];refine Qab _ _ _ _ _ _ _ _ _ (Qjr (x*y%18446744073709551616) o 0 (by decide)) ?_;simp -implicitDefEqProofs only [go_sem,Nat.reduceAdd,Nat.reduceMul,Nat.reduceEqDiff,Nat.reduceLT,Nat.reduceLeDiff,reduceCtorEq,Qzt];refine Qab _ _ _ _ _ _ _ _ _ (Qjr ((x*y%18446744073709551616+o)%18446744073709551616) c 0 (by decide)) ?_;simp -implicitDefEqProofs only [go_sem,Nat.reduceAdd,Nat.reduceMul,Nat.reduceEqDiff,Nat.reduceLT,Nat.reduceLeDiff,reduceIte,reduceCtorEq,Qzt,m1,m2,hwik,hik0,hin',hget,Int.toNat_natCast,hwk,Qb9,hset];refine⟨⟨k+1,hB⟩,by simp only;omega,Qa0 (θ:=[(105,105)]) rfl ?_ ?_⟩
     ·simp [Qah,lkp,ren1,ren0,dw]
     ·simp [Qal,lkp,Box.renames,Nat.add_assoc]
    ·have hB':((k:Int)<(lb:Int))=False:=by simp;omega
     obtain rfl:k=lb:=by omega
     have hwi:=Qa5 (a:=i) (by omega);have hin:i+k<la+k:=by omega
     have hin':(((i+k:Nat):Int)<((la+k:Nat):Int))=True:=by simp only [eq_iff_iff,iff_true];omega
     obtain⟨e,hget⟩: ∃e:Nat,((mix BW (mulV BW S x i b k) S (la+k) (i+k)).map fW)[i+k]? =some (PV.int .u64 (e:Int)):=⟨_,by rw [List.getElem?_map,Qci _ _ _ _ _ hin];rfl⟩;have hV:mulV BW S x i b k=a%BW^(i+1)*b:=by rw [←hS,←hx];exact Qwf a i b k hblt
     have hS0:S/BW^(i+k)=0:=by
      rw [←hS];refine Nat.div_eq_of_lt ?_;have h1:=Nat.mod_lt a (Nat.pow_pos (n:=i) (show 0<BW by decide));rw [Nat.pow_add];rcases Nat.eq_zero_or_pos b with rfl|hb
      ·rw [Nat.mul_zero];exact Nat.mul_pos (Nat.pow_pos (by decide)) (Nat.pow_pos (by decide))
      ·exact Nat.lt_of_lt_of_le (Nat.mul_lt_mul_of_pos_right h1 hb) (Nat.mul_le_mul_left _ (Nat.le_of_lt hblt))
     have hC:=Qmj (B:=BW) S x i b k;rw [hS0,Nat.add_zero]at hC;have hdig:mulV BW S x i b k/BW^(i+k)%BW=mulC BW S x i b k:=by rw [←hC,Nat.mod_eq_of_lt hcl]
     have hset:=Qdi (B:=BW) (V:=mulV BW S x i b k) (W:=mulV BW S x i b k) (S:=S) (n:=la+k) (m:=i+k) (by decide) hin rfl hdig;have hmx:=Qed (B:=BW) (V:=mulV BW S x i b k) (S:=S) (n:=la+k) (m:=i+k+1) (by decide) (by
      rw [Nat.pow_succ,←Nat.div_div_eq_div_mul,←Nat.div_div_eq_div_mul,hS0,←hC,Nat.div_eq_of_lt hcl,Nat.zero_div])
     rw [hmx,hV]at hset;rw [hV]at hml hget;simp -implicitDefEqProofs only [go_sem,Nat.reduceAdd,Nat.reduceMul,Nat.reduceEqDiff,Nat.reduceLT,Nat.reduceLeDiff,reduceIte,reduceCtorEq,dw,List.length_map,hlb,hB',hwik,hik0,hin',hml,hget,hV,Int.toNat_natCast,hwi,Qb9,hset];refine⟨⟨i+1,hA⟩,by simp only;omega,Qa0 (θ:=[(105,105)]) rfl ?_ ?_⟩
     ·simp [Qah,lkp,ren1,ren0,dw]
     ·simp [Qal,lkp,Box.renames]
  ·have hA':((i:Int)<(la:Int))=False:=by simp;omega
   have hlt:a<BW^i:=(Qak BW_2 a i).1 (by omega);have hil:i=la:=by omega
   have hll:=Qaf (B:=BW) (a%BW^i*b) (la+lb);have htk:((lows BW (a%BW^i*b) (la+lb)).map fW).take (la+lb)=(lows BW (a%BW^i*b) (la+lb)).map fW:=List.take_of_length_le (by simp [hll]);simp -implicitDefEqProofs only [go_sem,Nat.reduceAdd,Nat.reduceMul,Nat.reduceEqDiff,Nat.reduceLT,Nat.reduceLeDiff,reduceIte,reduceCtorEq,dw,List.length_map,hA',hll,htk];refine Qab _ _ _ _ _ _ _ _ _ (Qcc (lows BW (a%BW^i*b) (la+lb)) (by rw [hll];simp [maxLen];omega)) ?_;simp -implicitDefEqProofs only [go_sem,Nat.reduceAdd,Nat.reduceEqDiff,Nat.reduceLT,reduceCtorEq,dw];rw [Qbb BW_2,Nat.mod_eq_of_lt hlt,Nat.mod_eq_of_lt];rw [Nat.pow_add,←hil];rcases Nat.eq_zero_or_pos b with rfl|hb
   ·rw [Nat.mul_zero];exact Nat.mul_pos (Nat.pow_pos (by decide)) (Nat.pow_pos (by decide))
   ·exact Nat.lt_of_lt_of_le (Nat.mul_lt_mul_of_pos_right hlt hb) (Nat.mul_le_mul_left _ (Nat.le_of_lt hblt))
end Go.Proofs.YtapjnenbofmliaaGreatDoor

namespace Go.Dg
theorem Qds (r:Nat) (hr:r≤64):WB=2^r*2^(64-r):=by
 rw [←Nat.pow_add,show r+(64-r)=64 by omega]
theorem Qpz (x r:Nat) (hr:r≤64):x*2^r%WB=2^r*(x%2^(64-r)):=by
 rw [Qds r hr,Nat.mul_comm x,Nat.mul_mod_mul_left]
theorem Qny (x c r:Nat) (hr:r≤64) (hc:c<2^r):(c ||| (x*2^r%WB))=(c+x*2^r)%WB∧(c+x*2^r)/WB=x/2^(64-r):=by
 have e1:=Qpz x r hr;have e2:(x*2^r)/WB=x/2^(64-r):=by
  rw [Qds r hr,Nat.mul_comm x,Nat.mul_div_mul_left _ _ (Nat.pow_pos (by decide))]
 have hlt:2^r*(x%2^(64-r))+c<WB:=by
  have h1:x%2^(64-r)<2^(64-r):=Nat.mod_lt _ (Nat.pow_pos (by decide));rw [Qds r hr];have:2^r*(x%2^(64-r))+2^r≤2^r*2^(64-r):=by
   rw [←Nat.mul_succ];exact Nat.mul_le_mul_left _ h1
  omega
 have e3:c+x*2^r=WB*(x/2^(64-r))+(2^r*(x%2^(64-r))+c):=by
  have:=Nat.div_add_mod (x*2^r) WB;rw [e1,e2]at this;omega
 constructor
 ·rw [e1,e3,Nat.mul_add_mod,Nat.mod_eq_of_lt hlt,Nat.or_comm,Nat.two_pow_add_eq_or_of_lt hc]
 ·rw [e3,Nat.mul_add_div (by decide),Nat.div_eq_of_lt hlt,Nat.add_zero]
def shlV (a w r i:Nat):Nat:=a%WB^i*2^r*WB^w
def shlC (a r i:Nat):Nat:=a%WB^i*2^r/WB^i
theorem Qji (a r i:Nat):shlC a r i<2^r:=by
 rw [shlC,Nat.div_lt_iff_lt_mul (Nat.pow_pos (by decide)),Nat.mul_comm];exact Nat.mul_lt_mul_of_pos_left (Nat.mod_lt _ (Nat.pow_pos (by decide))) (Nat.pow_pos (by decide))
theorem WBp (i:Nat):0<WB^i:=Nat.pow_pos (by decide)
theorem Qi2 (a w r i:Nat):shlV a w r i/WB^(i+w)=shlC a r i:=by
 rw [shlV,shlC,Nat.add_comm i w,Nat.pow_add,←Nat.div_div_eq_div_mul,Nat.mul_div_cancel _ (WBp w)]
theorem Qnz (a w r i:Nat):shlV a w r (i+1)=shlV a w r i+a/WB^i%WB*2^r*WB^(i+w):=by
 rw [shlV,shlV,Nat.pow_succ,Nat.mod_mul,Nat.add_mul,Nat.add_mul,Nat.pow_add];congr 1;simp only [Nat.mul_assoc,Nat.mul_comm,Nat.mul_left_comm]
theorem Qh7 (a w r i:Nat):shlV a w r (i+1)/WB^(i+w)=shlC a r i+a/WB^i%WB*2^r:=by
 rw [Qnz,Nat.add_mul_div_right _ _ (WBp _),Qi2]
theorem Qr4 (a w r i:Nat):shlV a w r i%WB^(i+w)=shlV a w r (i+1)%WB^(i+w):=by
 rw [Qnz,Nat.add_mul_mod_self_right]
theorem Qv6 (a w r:Nat):shlV a w r 0=0:=by simp [shlV,Nat.mod_one]
theorem Qv7 (a w r i:Nat) (h:a<WB^i):shlV a w r i=a*2^(64*w+r):=by
 rw [shlV,Nat.mod_eq_of_lt h,Nat.pow_add,Nat.pow_mul,show(2:Nat)^64=WB from rfl];simp only [Nat.mul_assoc,Nat.mul_comm,Nat.mul_left_comm]
theorem Qr5 (B V S n m:Nat) (hB:0<B) (h:V%B^m=S%B^m):mix B V S n m=lows B S n:=by
 apply List.map_congr_left;intro j _;split
 ·rename_i hj;exact Qjk hB h hj
 ·rfl
theorem Qv8 {V W n j d:Nat} (hj:j<n) (h:V%WB^j=W%WB^j) (hd:W/WB^j%WB=d) (hu:W/WB^(j+1)=V/WB^(j+1)):(lows WB V n).set j d=lows WB W n:=by
 rw [←Qr5 WB W V n j (by decide) h.symm,Qdi (V:=W) (W:=W) (by decide) hj rfl hd,Qed (by decide) hu]
theorem Qv9 {V W n j d e:Nat} (hj:j+1<n) (h:V%WB^j=W%WB^j) (hd:W/WB^j%WB=d) (he:W/WB^(j+1)%WB=e) (hu:W/WB^(j+1+1)=V/WB^(j+1+1)):
  ((lows WB V n).set j d).set (j+1) e=lows WB W n:=by
 rw [←Qr5 WB W V n j (by decide) h.symm,Qdi (V:=W) (W:=W) (by decide) (by omega) rfl hd,Qdi (V:=W) (W:=W) (by decide) hj rfl he,Qed (by decide) hu]
theorem Q12 (a w i n:Nat) (hj:i+w<n):
  (lows WB (shlV a w 0 i) n).set (i+w) (a/WB^i%WB)=lows WB (shlV a w 0 (i+1)) n:=by
 have hc:shlC a 0 i=0:=by have:=Qji a 0 i;simp at this;exact this
 have h2:=Qh7 a w 0 i;rw [hc,Nat.pow_zero,Nat.mul_one,Nat.zero_add]at h2;have h1:=Qi2 a w 0 i;rw [hc]at h1;refine Qv8 hj (Qr4 a w 0 i) (by rw [h2,Nat.mod_mod]) ?_;rw [Nat.pow_succ,←Nat.div_div_eq_div_mul,←Nat.div_div_eq_div_mul,h1,h2,Nat.zero_div,Nat.div_eq_of_lt (Nat.mod_lt _ (by decide))]
theorem Q13 (a w r i n:Nat) (hr:r≤64) (hj:i+w+1<n):
  ((lows WB (shlV a w r i) n).set (i+w) (shlC a r i ||| (a/WB^i%WB*2^r%WB))).set (i+w+1) (a/WB^i%WB/2^(64-r))=lows WB (shlV a w r (i+1)) n:=by
 have hc:=Qji a r i;have h2:=Qh7 a w r i;have h1:=Qi2 a w r i;obtain⟨e1,e2⟩:=Qny (a/WB^i%WB) (shlC a r i) r hr hc;have hx:a/WB^i%WB<WB:=Nat.mod_lt _ (by decide);have hx2:a/WB^i%WB/2^(64-r)<WB:=Nat.lt_of_le_of_lt (Nat.div_le_self _ _) hx;have hc2:shlC a r i<WB:=Nat.lt_of_lt_of_le hc (Nat.pow_le_pow_right (n:=2) (by decide) hr);rw [e1];refine Qv9 hj (Qr4 a w r i) (by rw [h2]) ?_ ?_
 ·rw [Nat.pow_succ,←Nat.div_div_eq_div_mul,h2,e2,Nat.mod_eq_of_lt hx2]
 ·rw [Nat.pow_succ,Nat.pow_succ,←Nat.div_div_eq_div_mul,←Nat.div_div_eq_div_mul,←Nat.div_div_eq_div_mul,←Nat.div_div_eq_div_mul,h1,h2,e2,Nat.div_eq_of_lt hx2,Nat.div_eq_of_lt hc2,Nat.zero_div]
theorem Qwa (A i r:Nat) (h0:0<r) (hr:r<64):((A/WB^i%WB/2^r) ||| (A/WB^(i+1)%WB*2^(64-r)%WB))=A/2^r/WB^i%WB:=by
 have e0:A/WB^(i+1)=A/WB^i/WB:=by rw [Nat.pow_succ,Nat.div_div_eq_div_mul]
 have e1:A/2^r/WB^i=A/WB^i/2^r:=by rw [Nat.div_div_eq_div_mul,Nat.div_div_eq_div_mul,Nat.mul_comm]
 rw [e0,e1];generalize A/WB^i=X;have hlt:X%WB/2^r<2^(64-r):=by
  rw [Nat.div_lt_iff_lt_mul (Nat.pow_pos (by decide)),Nat.mul_comm,←Qds r (by omega)];exact Nat.mod_lt _ (by decide)
 obtain⟨s1,_⟩:=Qny (X/WB%WB) (X%WB/2^r) (64-r) (by omega) hlt;rw [s1];have hX:X=WB*(X/WB)+X%WB:=(Nat.div_add_mod X WB).symm;have hS:=Qds r (by omega);have e2:X/2^r=2^(64-r)*(X/WB)+X%WB/2^r:=by
  conv=>lhs;rw [hX,hS,Nat.mul_assoc]
  rw [Nat.mul_add_div (Nat.pow_pos (by decide)),←hS]
 rw [e2,Nat.mul_comm (2^(64-r)) (X/WB),Nat.add_comm];have hm:(X/WB%WB)*2^(64-r)%WB=X/WB*2^(64-r)%WB:=by rw [Nat.mod_mul_mod]
 rw [Nat.add_mod,hm,←Nat.add_mod]
theorem Q8s (A i r:Nat) (h:A/WB^(i+1)=0):A/WB^i%WB/2^r=A/2^r/WB^i%WB:=by
 have e1:A/2^r/WB^i=A/WB^i/2^r:=by rw [Nat.div_div_eq_div_mul,Nat.div_div_eq_div_mul,Nat.mul_comm]
 have hlt:A/WB^i<WB:=by
  rw [Nat.pow_succ,←Nat.div_div_eq_div_mul]at h;exact(Nat.div_eq_zero_iff_lt (by decide)).1 h
 rw [e1,Nat.mod_eq_of_lt hlt,Nat.mod_eq_of_lt (Nat.lt_of_le_of_lt (Nat.div_le_self _ _) hlt)]
section
variable {y1 y0 u d q r:Nat}
structure Guess (y1 y0 u d q r:Nat):Prop where
 part:q*y1+r=u
 big:(u*4294967296+d)/(y1*4294967296+y0)≤q
theorem Qp0 (hy1:2147483648≤y1) (hu:u<y1*4294967296+y0) (hd:d<4294967296):Guess y1 y0 u d (u/y1) (u%y1):=by
 refine⟨by rw [Nat.mul_comm];exact Nat.div_add_mod u y1,?_⟩;have h1:(u*4294967296+d)/(y1*4294967296+y0)≤(u*4294967296+d)/(y1*4294967296):=Nat.div_le_div_left (by omega) (by omega);have h2:(u*4294967296+d)/(y1*4294967296)=u/y1:=by
  rw [Nat.mul_comm y1,←Nat.div_div_eq_div_mul];congr 1;omega
 omega
theorem Qlf (h:Guess y1 y0 u d q r):(r*4294967296+d<q*y0↔u*4294967296+d<q*(y1*4294967296+y0)):=by
 have e:q*(y1*4294967296+y0)=q*y1*4294967296+q*y0:=by rw [Nat.mul_add,Nat.mul_assoc]
 have:=h.part;rw [e];omega
theorem Qtm (h:Guess y1 y0 u d q r) (hy:0<y1*4294967296+y0) (hq:(u*4294967296+d)<q*(y1*4294967296+y0)):0<q∧Guess y1 y0 u d (q-1) (r+y1):=by
 have hq0:0<q:=by
  rcases Nat.eq_zero_or_pos q with rfl|h
  ·omega
  ·exact h
 refine⟨hq0,?_,?_⟩
 ·obtain⟨p,rfl⟩: ∃p,q=p+1:=⟨q-1,by omega⟩;have:=h.part;rw [Nat.add_mul]at this;simp only [Nat.add_sub_cancel];omega
 ·have:=(Nat.div_lt_iff_lt_mul hy).2 hq;omega
theorem Qlg (h:Guess y1 y0 u d q r) (hy:0<y1*4294967296+y0) (hq:q*(y1*4294967296+y0)≤u*4294967296+d):q=(u*4294967296+d)/(y1*4294967296+y0):=
 Nat.le_antisymm ((Nat.le_div_iff_mul_le hy).2 hq) h.big
theorem Qp1 (hu:u<y1*4294967296+y0) (h:Guess y1 y0 u d q r) (hq:4294967296≤q):r<y0∧r<4294967296+y0:=by
 have h1:=Nat.mul_le_mul_right y1 hq;have h2:=h.part;omega
theorem Qtn (hu:u<y1*4294967296+y0) (hd:d<4294967296):(u*4294967296+d)/(y1*4294967296+y0)<4294967296:=by
 have:0<y1*4294967296+y0:=by omega
 rw [Nat.div_lt_iff_lt_mul this];omega
end
section
variable {B:Nat}
theorem Q14 (hB:0<B) (R D j:Nat) (hD:0<D):R%(D*B^(j+1))/B^j/D=R/D/B^j%B:=by
 rw [Nat.div_div_eq_div_mul,Nat.div_div_eq_div_mul,Nat.mul_comm (B^j) D,Nat.pow_succ,←Nat.mul_assoc,Nat.mod_mul_right_div_self]
theorem Q8t (R D j:Nat):R%(D*B^(j+1))%(D*B^j)=R%(D*B^j):=by
 rw [Nat.pow_succ,←Nat.mul_assoc,Nat.mod_mul_right_mod]
theorem Q15 (hB:0<B) (S D j:Nat) (hD:0<D):S%(D*B^j)/B^j=S/B^j%D:=by
 rw [Nat.mul_comm,Nat.mod_mul_right_div_self]
theorem Q16 (hB:0<B) (S D j:Nat):S%(D*B^j)%B^j=S%B^j:=by
 rw [Nat.mul_comm,Nat.mod_mul_right_mod]
theorem Qto (hB:0<B) (W d k:Nat) (ht:0<d/B^k):W/d≤W/B^k/(d/B^k):=by
 have h1:d/B^k*B^k≤d:=Nat.div_mul_le_self d (B^k);have h2:W/d≤W/(B^k*(d/B^k)):=Nat.div_le_div_left (by rw [Nat.mul_comm];exact h1) (Nat.mul_pos (Nat.pow_pos hB) ht)
 rwa [←Nat.div_div_eq_div_mul]at h2
theorem Q8u (hB:0<B) (W k:Nat):W/B^k=W/B^(k+1)*B+W/B^k%B:=by
 have:=Qf0 hB W k;rw [Nat.mul_comm]at this;exact this
theorem Qwb (hB:0<B) {V W n j:Nat} {x:List Nat} (hj:j+x.length≤n) (h:V%B^j=W%B^j) (hx:x=lows B (W/B^j) x.length) (hu:W/B^(j+x.length)=V/B^(j+x.length)):
  (lows B V n).take j++x++(lows B V n).drop (j+x.length)=lows B W n:=by
 apply List.ext_getElem?;intro i;by_cases h1:i<n
 ·rw [Qbh _ _ _ h1];by_cases h2:i<j
  ·rw [List.append_assoc,List.getElem?_append_left (by simp [Qaf];omega),List.getElem?_take_of_lt h2,Qbh _ _ _ h1,Qjk hB h h2]
  ·by_cases h3:i<j+x.length
   ·rw [List.append_assoc,List.getElem?_append_right (by simp [Qaf];omega),List.getElem?_append_left (by simp [Qaf];omega)];have e:i-((lows B V n).take j).length=i-j:=by simp [Qaf];omega
    rw [e,hx,Qbh _ _ _ (by omega),Nat.div_div_eq_div_mul,←Nat.pow_add,show j+(i-j)=i by omega]
   ·rw [List.getElem?_append_right (by simp [Qaf];omega),List.getElem?_drop];have e:j+x.length+(i-((lows B V n).take j++x).length)=i:=by simp [Qaf];omega
    rw [e,Qbh _ _ _ h1];have e2:i=(j+x.length)+(i-(j+x.length)):=by omega
    rw [e2,Nat.pow_add,←Nat.div_div_eq_div_mul,←Nat.div_div_eq_div_mul,hu]
 ·rw [List.getElem?_eq_none (by simp [Qaf];omega),List.getElem?_eq_none (by rw [Qaf];omega)]
end
theorem Qgj (hB:2≤18446744073709551616) (n i:Nat) (h:(digs WB n).length≤i):digs WB n++List.replicate (i-(digs WB n).length) 0=lows WB n i:=by
 apply List.ext_getElem?;intro k;by_cases h1:k<i
 ·rw [Qbh _ _ _ h1];by_cases h2:k<(digs WB n).length
  ·rw [List.getElem?_append_left h2,Qam hB h2]
  ·rw [List.getElem?_append_right (by omega),Qa4 hB (Nat.le_of_not_lt h2),Nat.zero_mod,List.getElem?_replicate,if_pos (by omega)]
 ·rw [List.getElem?_eq_none (by simp;omega),List.getElem?_eq_none (by rw [Qaf];omega)]
theorem Qjj (B V n j k:Nat) (h:j+k≤n):((lows B V n).drop j).take k=lows B (V/B^j) k:=by
 apply List.ext_getElem?;intro i;by_cases h1:i<k
 ·rw [List.getElem?_take_of_lt h1,List.getElem?_drop,Qbh _ _ _ (by omega),Qbh _ _ _ h1,Nat.div_div_eq_div_mul,←Nat.pow_add]
 ·rw [List.getElem?_eq_none (by simp;omega),List.getElem?_eq_none (by rw [Qaf];omega)]
section
variable {y u d q r:Nat}
structure Kn (y u d q r:Nat):Prop where
 g:Guess (y/4294967296) (y%4294967296) u d q r
 small:r<4294967296
theorem Qdh (y:Nat):y/4294967296*4294967296+y%4294967296=y:=by omega
theorem Qi3 (h1:9223372036854775808≤y) (h2:y<18446744073709551616) (hu:u<y) (hd:d<4294967296):Kn y u d (u/(y/4294967296)) (u%(y/4294967296)):=by
 refine⟨Qp0 (by omega) (by omega) hd,?_⟩;have:=Nat.mod_lt u (show 0<y/4294967296 by omega);omega
theorem kn_q (h1:9223372036854775808≤y) (h2:y<18446744073709551616) (hu:u<y) (h:Kn y u d q r):q≤4294967297:=by
 rcases Nat.lt_or_ge q 4294967298 with h'|h'
 ·omega
 ·have h3:=h.g.part;have h4:=Nat.mul_le_mul_right (y/4294967296) h';omega
theorem Qma (h:Kn y u d q r):(r*4294967296+d<q*(y%4294967296))↔u*4294967296+d<q*y:=by
 have:=Qlf h.g
 rwa [Qdh]at this
theorem Qmb (h1:9223372036854775808≤y) (hu:u<y) (h:Kn y u d q r) (hq:u*4294967296+d<q*y):0<q∧Guess (y/4294967296) (y%4294967296) u d (q-1) (r+y/4294967296):=by
 have:=Qtm h.g (by rw [Qdh];omega) (by rw [Qdh];exact hq);exact this
theorem Qi4 (h1:9223372036854775808≤y) (hu:u<y) (hd:d<4294967296) (h:Guess (y/4294967296) (y%4294967296) u d q r) (hr:4294967296≤r):q=(u*4294967296+d)/y:=by
 have hlt:q<4294967296:=by
  rcases Nat.lt_or_ge q 4294967296 with h'|h'
  ·exact h'
  ·have:=(Qp1 (by rw [Qdh];exact hu) h h').1;omega
 have:=Qlg h (by rw [Qdh];omega) (by
  have h3: ¬(r*4294967296+d<q*(y%4294967296)):=by
   have:q*(y%4294967296)≤4294967295*4294967295:=Nat.mul_le_mul (by omega) (by omega);omega
  rw [Qlf h]at h3;omega)
 rwa [Qdh]at this
theorem Qmc (h1:9223372036854775808≤y) (h:Kn y u d q r) (hq: ¬u*4294967296+d<q*y):q=(u*4294967296+d)/y:=by
 have:=Qlg h.g (by rw [Qdh];omega) (by rw [Qdh];omega)
 rwa [Qdh]at this
theorem Qhh (hu:u<y) (hd:d<4294967296):(u*4294967296+d)/y<4294967296:=by
 have:=Qtn (y1:=y/4294967296) (y0:=y%4294967296) (by rw [Qdh];exact hu) hd
 rwa [Qdh]at this
end
theorem Qtp {hi lo y s:Nat} (hs:s≤64) (hlo:lo<18446744073709551616) (hhi:hi<y) (hy:0<y):
  let Y:=y*2^s
  let u:=hi*2^s+lo/2^(64-s)
  let t:=lo*2^s%18446744073709551616
  let a:=u*4294967296+t/4294967296
  let b:=a%Y*4294967296+t%4294967296
  a/Y*4294967296+b/Y=(hi*18446744073709551616+lo)/y∧b%Y/2^s=(hi*18446744073709551616+lo)%y:=by
 intro Y u t a b;have hp:0<2^s:=Nat.pow_pos (by decide);have hY:0<Y:=Nat.mul_pos hy hp;have e1:(hi*18446744073709551616+lo)*2^s=u*18446744073709551616+t:=by
  have hd:lo*2^s/18446744073709551616=lo/2^(64-s):=by
   have:=Qds s hs;simp only [WB]at this;rw [this,Nat.mul_comm lo,Nat.mul_div_mul_left _ _ hp]
  have:=Nat.div_add_mod (lo*2^s) 18446744073709551616;rw [hd]at this;simp only [u,t];rw [Nat.add_mul,Nat.mul_right_comm];generalize hi*2^s=p at*;omega
 have e2:(hi*18446744073709551616+lo)*2^s=a*4294967296+t%4294967296:=by
  rw [e1];simp only [a];omega
 have e3:(hi*18446744073709551616+lo)*2^s=Y*(a/Y*4294967296+b/Y)+b%Y:=by
  have h3:=Nat.div_add_mod a Y;have h4:=Nat.div_add_mod b Y;rw [e2,Nat.mul_add,←Nat.mul_assoc];simp only [b]at h4 ⊢;omega
 have hb:b%Y<Y:=Nat.mod_lt _ hY;have e4:(hi*18446744073709551616+lo)*2^s/Y=a/Y*4294967296+b/Y:=by
  rw [e3,Nat.mul_add_div hY,Nat.div_eq_of_lt hb,Nat.add_zero]
 have e5:(hi*18446744073709551616+lo)*2^s%Y=b%Y:=by
  rw [e3,Nat.mul_add_mod,Nat.mod_eq_of_lt hb]
 constructor
 ·rw [←e4];exact Nat.mul_div_mul_right _ _ hp
 ·rw [←e5,Nat.mul_mod_mul_right,Nat.mul_div_cancel _ hp]
end Go.Dg

namespace Go.Proofs.YtapjnenbofmliaaGreatDoor
open Go.Vl Go.RowKit Go.Dg
theorem Qux (a b:Nat):Int.tdiv (a:Int) (b:Int)=((a/b:Nat):Int):=rfl
theorem Zdr (a b:Nat):Int.tmod (a:Int) (b:Int)=((a%b:Nat):Int):=rfl
theorem Za0 (y:Nat):y<2^blen y:=by
 rcases Nat.lt_or_ge y (2^blen y)with h|h
 ·exact h
 ·have:=Qe2 _ _ h;omega
theorem Za1 {y:Nat} (h:0<y):2^(blen y-1)≤y∧0<blen y:=by
 have h0:0<blen y:=Qe2 0 y (by rw [Nat.pow_zero];omega);refine⟨?_,h0⟩;rcases Nat.lt_or_ge y (2^(blen y-1))with h1|h1
 ·have:=Qcf _ _ h1;omega
 ·exact h1
attribute [local go_sem high] Q6s
theorem Qbl (n:Int):IntKind.u64.wrap n=n%18446744073709551616:=by simp [IntKind.wrap,IntKind.bits,IntKind.signed]
theorem Qoj {n:Nat} (h:n<18446744073709551616):IntKind.u64.wrap (n:Int)=n:=by rw [Qcr,Nat.mod_eq_of_lt h]
theorem Qzu (u y:Nat) (h:u<18446744073709551616):IntKind.u64.wrap ((u:Int)-IntKind.u64.wrap (((u/y:Nat):Int)*(y:Int)))=((u%y:Nat):Int):=by
 have h:=Nat.div_add_mod u y;rw [←Int.natCast_mul,Nat.mul_comm (u/_)];generalize y*(u/y)=p at*;generalize u%y=r at*;rw [Qbl,Qbl];omega
theorem Qsl (u d Y:Nat) (hY:0<Y) (h2:Y<18446744073709551616):IntKind.u64.wrap (IntKind.u64.wrap (IntKind.u64.wrap ((u:Int)*4294967296)+(d:Int))-IntKind.u64.wrap ((((u*4294967296+d)/Y:Nat):Int)*(Y:Int)))=(((u*4294967296+d)%Y:Nat):Int):=by
 have h:=Nat.div_add_mod (u*4294967296+d) Y;have hm:=Nat.mod_lt (u*4294967296+d) hY;rw [←Int.natCast_mul,Nat.mul_comm ((u*4294967296+d)/Y)];generalize Y*((u*4294967296+d)/Y)=p at*;generalize (u*4294967296+d)%Y=r at*;rw [Qbl,Qbl,Qbl,Qbl];omega
theorem Q6m {p q:Nat} (hp:p<4294967296) (hq:q<4294967296):IntKind.u64.wrap (IntKind.u64.wrap ((p:Int)*4294967296)+(q:Int))=((p*4294967296+q:Nat):Int):=by
 rw [Qbl,Qbl];omega
theorem Qdv {p q:Nat} (hp:p<4294967296) (hq:q<4294967296):IntKind.u64.wrap ((p:Int)*(q:Int))=((p*q:Nat):Int):=by
 have:p*q≤4294967295*4294967295:=Nat.mul_le_mul (by omega) (by omega);rw [←Int.natCast_mul,Qbl];generalize p*q=n at*;omega
theorem Qmo {r:Nat} (hr:r<4294967296):IntKind.u64.wrap (4294967296*(r:Int))=((r*4294967296:Nat):Int):=by rw [Qbl];omega
theorem Qi8 {r d:Nat} (hr:r<4294967296) (hd:d<4294967296):IntKind.u64.wrap (((r*4294967296:Nat):Int)+(d:Int))=((r*4294967296+d:Nat):Int):=by rw [Qbl];omega
theorem Qmp {q:Nat} (h0:0<q) (h:q≤4294967297):IntKind.u64.wrap ((q:Int)-1)=((q-1:Nat):Int):=by rw [Qbl];omega
theorem Qmq {r y:Nat} (h0:r<4294967296) (h:y<4294967296):IntKind.u64.wrap ((r:Int)+(y:Int))=((r+y:Nat):Int):=by rw [Qbl];omega
theorem m32:(2:Nat)^min 32 64=4294967296:=rfl
set_option maxHeartbeats 2000000 in
theorem Qzv (hi lo y:Nat) (hy:hi<y) (hyl:y<18446744073709551616) (hlo:lo<18446744073709551616):Qag Tryz.prog 68 [.int .u64 (hi:Int),.int .u64 (lo:Int),.int .u64 (y:Int)] (.tup [.int .u64 (((hi*18446744073709551616+lo)/y:Nat):Int),.int .u64 (((hi*18446744073709551616+lo)%y:Nat):Int)]):=by
 have g1:(((y:Nat):Int)==0)=false:=by simp only [beq_eq_false_iff_ne,ne_eq];omega
 have g2:(((y:Nat):Int)≤((hi:Nat):Int))=False:=by simp only [eq_iff_iff,iff_false];omega
 have g3:(((y:Nat):Int)=0)=False:=by simp only [eq_iff_iff,iff_false];omega
 by_cases h0:hi=0
 ·subst h0;have g4:((((0:Nat):Nat):Int)==0)=true:=rfl;have g5:IntKind.u64.wrap (((lo/y:Nat):Int))=((lo/y:Nat):Int):=by rw [Qcr,Nat.mod_eq_of_lt (Nat.lt_of_le_of_lt (Nat.div_le_self _ _) hlo)]
  rw [Nat.zero_mul,Nat.zero_add];refine Qae (tb:=[]) 135 [.tmp 6,.tmp 7] [0,1,2,6,7,8,9,10,11,12,13,14,15,16,17,18,20,24,27,78,85,113,120] mixed Tryz.func68 rfl (by kernel_rfl) (by kernel_rfl) (by kernel_rfl) (by kernel_rfl) ?_;simp -implicitDefEqProofs only [go_sem,Nat.reduceAdd,Nat.reduceMul,Nat.reduceEqDiff,Nat.reduceLT,Nat.reduceLeDiff,reduceCtorEq,g1,g2,g3,g4,Qux,Zdr,g5];exact Qad _ _ (by kernel_rfl)
 ·have g4:(((hi:Nat):Int)==0)=false:=by simp only [beq_eq_false_iff_ne,ne_eq];omega
  obtain⟨b1,b2⟩:=Za1 (show 0<y by omega);have b3:=Za0 y;have b4:=Qcf 64 y hyl;obtain⟨s,hs⟩: ∃s,s=64-blen y:=⟨_,rfl⟩;have hs64:s<64:=by omega
  have hmin:min s 64=s:=by omega
  have hmin2:min (64-s) 64=64-s:=by omega
  obtain⟨D1,D2⟩:=Qtp (hi:=hi) (lo:=lo) (y:=y) (s:=s) (by omega) hlo hy (by omega);have hY1:9223372036854775808≤y*2^s:=by
   have:=Nat.mul_le_mul_right (2^s) b1;rw [←Nat.pow_add,show blen y-1+s=63 by omega]at this;exact this
  have hY2:y*2^s<18446744073709551616:=by
   have:=Nat.mul_lt_mul_of_pos_right b3 (show 0<2^s from Nat.pow_pos (by decide));rw [←Nat.pow_add,show blen y+s=64 by omega]at this;exact this
  have hu:hi*2^s+lo/2^(64-s)<y*2^s:=by
   have h1:lo/2^(64-s)<2^s:=by
    have:=Qds s (by omega);simp only [WB]at this;rw [this,Nat.mul_comm]at hlo;exact Nat.div_lt_of_lt_mul hlo
   have h2:hi*2^s+2^s≤y*2^s:=by rw [←Nat.succ_mul];exact Nat.mul_le_mul_right _ hy
   omega
  have hor:(hi*2^s%18446744073709551616%18446744073709551616 ||| lo/2^(64-s)%18446744073709551616)=hi*2^s+lo/2^(64-s):=by
   have h1:lo/2^(64-s)<2^s:=by
    have:=Qds s (by omega);simp only [WB]at this;rw [this,Nat.mul_comm]at hlo;exact Nat.div_lt_of_lt_mul hlo
   rw [Nat.mod_mod,Nat.mod_eq_of_lt (Nat.lt_of_le_of_lt (Nat.le_trans (Nat.le_add_right _ _) (Nat.le_of_lt hu)) hY2),Nat.mod_eq_of_lt (Nat.lt_of_le_of_lt (Nat.le_trans (Nat.le_add_left _ _) (Nat.le_of_lt hu)) hY2),Nat.mul_comm hi,Nat.two_pow_add_eq_or_of_lt h1]
  have k1:((((s:Nat):Int))<0)=False:=by simp only [eq_iff_iff,iff_false];omega
  have k2:IntKind.u64.wrap (64-((s:Nat):Int))=((64-s:Nat):Int):=by
   rw [show(64:Int)-((s:Nat):Int)=((64-s:Nat):Int)by omega,Qcr,Nat.mod_eq_of_lt (by omega)]
  have k3:((((64-s:Nat):Nat):Int)<0)=False:=by simp only [eq_iff_iff,iff_false];omega
  have k4:IntKind.u64.wrap (((64-blen y:Nat):Int))=((s:Nat):Int):=by rw [←hs,Qcr,Nat.mod_eq_of_lt (by omega)]
  have hyt:(((y*2^s/4294967296:Nat):Int)=0)=False:=by simp only [eq_iff_iff,iff_false];omega
  have k5:y*2^s%18446744073709551616=y*2^s:=Nat.mod_eq_of_lt hY2;refine Qae (tb:=[]) 135 [.tmp 6,.tmp 7] [0,1,2,6,7,8,9,10,11,12,13,14,15,16,17,18,20,24,27,78,85,113,120] mixed Tryz.func68 rfl (by kernel_rfl) (by kernel_rfl) (by kernel_rfl) (by kernel_rfl) ?_;simp -implicitDefEqProofs only [go_sem,Nat.reduceAdd,Nat.reduceMul,Nat.reduceEqDiff,Nat.reduceLT,Nat.reduceLeDiff,reduceCtorEq,g1,g2,g4];refine Qab _ _ _ _ _ _ _ _ _ (Qz8 y hyl) ?_;simp -implicitDefEqProofs only [go_sem,Nat.reduceAdd,Nat.reduceMul,Nat.reduceEqDiff,Nat.reduceLT,Nat.reduceLeDiff,reduceCtorEq,Int.reduceLT,Int.reduceToNat,k4,k1,k2,k3,hmin,hmin2,Int.toNat_natCast,Qjw,Qgw,m32,Q7z,k5,hor,Qux,hyt];clear g1 g2 g3 g4 k4 k5 hor b1 b2 b3 b4 hs;generalize hi*2^s+lo/2^(64-s)=u at*;generalize y*2^s=Y at*;have htl:lo*2^s%18446744073709551616<18446744073709551616:=Nat.mod_lt _ (by decide);generalize lo*2^s%18446744073709551616=t at*;have hd1:t/4294967296<4294967296:=by omega
  have hd0:t%4294967296<4294967296:=by omega
  generalize t/4294967296=d1 at*;generalize t%4294967296=d0 at*;have i5:=Qoj (n:=u/(Y/4294967296)) (Nat.lt_of_le_of_lt (Nat.div_le_self _ _) (Nat.lt_trans hu hY2));have i6:=Qzu u (Y/4294967296) (Nat.lt_trans hu hY2);have l4:=Qsl u d1 Y (by omega) hY2;obtain⟨v,hvd⟩: ∃v,v=(u*4294967296+d1)%Y:=⟨_,rfl⟩;have hv:v<Y:=by rw [hvd];exact Nat.mod_lt _ (by omega)
  rw [←hvd]at D1 D2 l4;have l5:=Qoj (n:=v/(Y/4294967296)) (Nat.lt_of_le_of_lt (Nat.div_le_self _ _) (Nat.lt_trans hv hY2));have l6:=Qzu v (Y/4294967296) (Nat.lt_trans hv hY2);have f1:=Q6m (Qhh hu hd1) (Qhh hv hd0);have f2:=Qsl v d0 Y (by omega) hY2;simp only [i5,i6];clear hvd i5 i6;refine Qba mixed (fun p:{p:Nat×Nat // Kn Y u d1 p.1 p.2}=>St.of [(2,.int .u64 ((Y:Nat):Int)),(8,.int .u64 ((s:Nat):Int)),(9,.int .u64 ((Y/4294967296:Nat):Int)),(10,.int .u64 ((Y%4294967296:Nat):Int)),(11,.int .u64 ((u:Nat):Int)),(13,.int .u64 ((d1:Nat):Int)),(14,.int .u64 ((d0:Nat):Int)),(15,.int .u64 ((p.1.1:Nat):Int)),(16,.int .u64 ((p.1.2:Nat):Int))] []) (fun p=>p.1.1) ⟨(u/(Y/4294967296),u%(Y/4294967296)),Qi3 hY1 hY2 hu hd1⟩ ?_ ?_
  ·exact Qbn (by simp [Qah,lkp,ren1,ren0])
  ·rintro⟨⟨q,r⟩,hK⟩;have hq:=kn_q hY1 hY2 hu hK;have hr:r<4294967296:=hK.small;have ht:=Qma hK;simp only at hq hr ht hK ⊢;have hy1:Y/4294967296<4294967296:=by omega
   have hy0:Y%4294967296<4294967296:=by omega
   have e5:=Qmq hr hy1;have w1:=Qmo hr;have w2:=Qi8 hr hd1;by_cases hc:u*4294967296+d1<q*Y
   ·obtain⟨hq0,hG⟩:=Qmb hY1 hu hK hc;have e4:=Qmp hq0 hq;have hbig:(4294967296:Int)≤((q:Nat):Int)∨((4294967296:Int)≤((q:Nat):Int))=False∧IntKind.u64.wrap (((q:Nat):Int)*((Y%4294967296:Nat):Int))=((q*(Y%4294967296):Nat):Int):=by
     by_cases h:4294967296≤q
     ·left;omega
     ·right;exact⟨by simp only [eq_iff_iff,iff_false];omega,Qdv (by omega) hy0⟩
    have w3:(((r*4294967296+d1:Nat):Int)<((q*(Y%4294967296):Nat):Int))=True:=by
     simp only [eq_iff_iff,iff_true];have:=ht.2 hc;omega
    by_cases hbr:4294967296≤r+Y/4294967296
    ·have hbr':((4294967296:Int)≤((r+Y/4294967296:Nat):Int))=True:=by simp only [eq_iff_iff,iff_true];omega
     have hQ:=Qi4 hY1 hu hd1 hG hbr;rcases hbig with h|⟨h,w0⟩
     ·have h':((4294967296:Int)≤((q:Nat):Int))=True:=by simp only [eq_iff_iff,iff_true];exact h
      rw [hQ]at e4;simp -implicitDefEqProofs only [go_sem,Nat.reduceAdd,Nat.reduceMul,Nat.reduceEqDiff,Nat.reduceLT,Nat.reduceLeDiff,reduceCtorEq,h',e4,e5,hbr'];simp -implicitDefEqProofs only [go_sem,Nat.reduceAdd,Nat.reduceMul,Nat.reduceEqDiff,Nat.reduceLT,Nat.reduceLeDiff,reduceCtorEq,l4,Qux,hyt,l5,l6];refine Qba mixed (fun p:{p:Nat×Nat // Kn Y v d0 p.1 p.2}=>St.of [(2,.int .u64 ((Y:Nat):Int)),(8,.int .u64 ((s:Nat):Int)),(9,.int .u64 ((Y/4294967296:Nat):Int)),(10,.int .u64 ((Y%4294967296:Nat):Int)),(14,.int .u64 ((d0:Nat):Int)),(15,.int .u64 (((u*4294967296+d1)/Y:Nat):Int)),(17,.int .u64 ((v:Nat):Int)),(18,.int .u64 ((p.1.1:Nat):Int)),(16,.int .u64 ((p.1.2:Nat):Int))] []) (fun p=>p.1.1) ⟨(v/(Y/4294967296),v%(Y/4294967296)),Qi3 hY1 hY2 hv hd0⟩ ?_ ?_
      ·exact Qbn (by simp [Qah,lkp,ren1,ren0])
      ·rintro⟨⟨q,r⟩,hK⟩;have hq:=kn_q hY1 hY2 hv hK;have hr:r<4294967296:=hK.small;have ht:=Qma hK;simp only at hq hr ht hK ⊢;have hy1:Y/4294967296<4294967296:=by omega
       have hy0:Y%4294967296<4294967296:=by omega
       have e5:=Qmq hr hy1;have w1:=Qmo hr;have w2:=Qi8 hr hd0;by_cases hc:v*4294967296+d0<q*Y
       ·obtain⟨hq0,hG⟩:=Qmb hY1 hv hK hc;have e4:=Qmp hq0 hq;have hbig:(4294967296:Int)≤((q:Nat):Int)∨((4294967296:Int)≤((q:Nat):Int))=False∧IntKind.u64.wrap (((q:Nat):Int)*((Y%4294967296:Nat):Int))=((q*(Y%4294967296):Nat):Int):=by
         by_cases h:4294967296≤q
         ·left;omega
         ·right;exact⟨by simp only [eq_iff_iff,iff_false];omega,Qdv (by omega) hy0⟩
        have w3:(((r*4294967296+d0:Nat):Int)<((q*(Y%4294967296):Nat):Int))=True:=by
         simp only [eq_iff_iff,iff_true];have:=ht.2 hc;omega
        by_cases hbr:4294967296≤r+Y/4294967296
        ·have hbr':((4294967296:Int)≤((r+Y/4294967296:Nat):Int))=True:=by simp only [eq_iff_iff,iff_true];omega
         have hQ:=Qi4 hY1 hv hd0 hG hbr;rcases hbig with h|⟨h,w0⟩
         ·have h':((4294967296:Int)≤((q:Nat):Int))=True:=by simp only [eq_iff_iff,iff_true];exact h
          rw [hQ]at e4;simp -implicitDefEqProofs only [go_sem,Nat.reduceAdd,Nat.reduceMul,Nat.reduceEqDiff,Nat.reduceLT,Nat.reduceLeDiff,reduceCtorEq,h',e4,e5,hbr'];simp -implicitDefEqProofs only [go_sem,Nat.reduceAdd,Nat.reduceEqDiff,Nat.reduceLT,reduceCtorEq,f1,f2,k1,hmin,Qgw];rw [←D1,←D2]
         ·rw [hQ]at e4;simp -implicitDefEqProofs only [go_sem,Nat.reduceAdd,Nat.reduceMul,Nat.reduceEqDiff,Nat.reduceLT,Nat.reduceLeDiff,reduceCtorEq,h,w0,w1,w2,w3,e4,e5,hbr'];simp -implicitDefEqProofs only [go_sem,Nat.reduceAdd,Nat.reduceEqDiff,Nat.reduceLT,reduceCtorEq,f1,f2,k1,hmin,Qgw];rw [←D1,←D2]
        ·have hbr':((4294967296:Int)≤((r+Y/4294967296:Nat):Int))=False:=by simp only [eq_iff_iff,iff_false];omega
         have next: ∃y:{p:Nat×Nat // Kn Y v d0 p.1 p.2},y.1.1<q∧y.1=(q-1,r+Y/4294967296):=⟨⟨(q-1,r+Y/4294967296),hG,by simp only;omega⟩,by simp only;omega,rfl⟩
         obtain⟨y,y1,y2⟩:=next
         rcases hbig with h|⟨h,w0⟩
         ·have h':((4294967296:Int)≤((q:Nat):Int))=True:=by simp only [eq_iff_iff,iff_true];exact h
          simp -implicitDefEqProofs only [go_sem,Nat.reduceAdd,Nat.reduceMul,Nat.reduceEqDiff,Nat.reduceLT,Nat.reduceLeDiff,reduceCtorEq,h',e4,e5,hbr'];refine⟨y,y1,Qbn ?_⟩;simp [Qah,lkp,ren1,ren0,y2]
         ·simp -implicitDefEqProofs only [go_sem,Nat.reduceAdd,Nat.reduceMul,Nat.reduceEqDiff,Nat.reduceLT,Nat.reduceLeDiff,reduceCtorEq,h,w0,w1,w2,w3,e4,e5,hbr'];refine⟨y,y1,Qbn ?_⟩;simp [Qah,lkp,ren1,ren0,y2]
       ·have hQ:=Qmc hY1 hK hc;have hq2:q<4294967296:=by rw [hQ];exact Qhh hv hd0
        have h:((4294967296:Int)≤((q:Nat):Int))=False:=by simp only [eq_iff_iff,iff_false];omega
        have w0:=Qdv hq2 hy0;have w3:(((r*4294967296+d0:Nat):Int)<((q*(Y%4294967296):Nat):Int))=False:=by
         simp only [eq_iff_iff,iff_false];have:=mt ht.1 hc;omega
        simp -implicitDefEqProofs only [go_sem,Nat.reduceAdd,Nat.reduceMul,Nat.reduceEqDiff,Nat.reduceLT,Nat.reduceLeDiff,reduceCtorEq,h,w0,w1,w2,w3];clear hK hq hr ht e5 hc hq2 h w0 w1 w2 w3;subst hQ;simp -implicitDefEqProofs only [go_sem,Nat.reduceAdd,Nat.reduceEqDiff,Nat.reduceLT,reduceCtorEq,f1,f2,k1,hmin,Qgw];rw [←D1,←D2]
     ·rw [hQ]at e4;simp -implicitDefEqProofs only [go_sem,Nat.reduceAdd,Nat.reduceMul,Nat.reduceEqDiff,Nat.reduceLT,Nat.reduceLeDiff,reduceCtorEq,h,w0,w1,w2,w3,e4,e5,hbr'];simp -implicitDefEqProofs only [go_sem,Nat.reduceAdd,Nat.reduceMul,Nat.reduceEqDiff,Nat.reduceLT,Nat.reduceLeDiff,reduceCtorEq,l4,Qux,hyt,l5,l6];refine Qba mixed (fun p:{p:Nat×Nat // Kn Y v d0 p.1 p.2}=>St.of [(2,.int .u64 ((Y:Nat):Int)),(8,.int .u64 ((s:Nat):Int)),(9,.int .u64 ((Y/4294967296:Nat):Int)),(10,.int .u64 ((Y%4294967296:Nat):Int)),(14,.int .u64 ((d0:Nat):Int)),(15,.int .u64 (((u*4294967296+d1)/Y:Nat):Int)),(17,.int .u64 ((v:Nat):Int)),(18,.int .u64 ((p.1.1:Nat):Int)),(16,.int .u64 ((p.1.2:Nat):Int))] []) (fun p=>p.1.1) ⟨(v/(Y/4294967296),v%(Y/4294967296)),Qi3 hY1 hY2 hv hd0⟩ ?_ ?_
      ·exact Qbn (by simp [Qah,lkp,ren1,ren0])
      ·rintro⟨⟨q,r⟩,hK⟩;have hq:=kn_q hY1 hY2 hv hK;have hr:r<4294967296:=hK.small;have ht:=Qma hK;simp only at hq hr ht hK ⊢;have hy1:Y/4294967296<4294967296:=by omega
       have hy0:Y%4294967296<4294967296:=by omega
       have e5:=Qmq hr hy1;have w1:=Qmo hr;have w2:=Qi8 hr hd0;by_cases hc:v*4294967296+d0<q*Y
       ·obtain⟨hq0,hG⟩:=Qmb hY1 hv hK hc;have e4:=Qmp hq0 hq;have hbig:(4294967296:Int)≤((q:Nat):Int)∨((4294967296:Int)≤((q:Nat):Int))=False∧IntKind.u64.wrap (((q:Nat):Int)*((Y%4294967296:Nat):Int))=((q*(Y%4294967296):Nat):Int):=by
         by_cases h:4294967296≤q
         ·left;omega
         ·right;exact⟨by simp only [eq_iff_iff,iff_false];omega,Qdv (by omega) hy0⟩
        have w3:(((r*4294967296+d0:Nat):Int)<((q*(Y%4294967296):Nat):Int))=True:=by
         simp only [eq_iff_iff,iff_true];have:=ht.2 hc;omega
        by_cases hbr:4294967296≤r+Y/4294967296
        ·have hbr':((4294967296:Int)≤((r+Y/4294967296:Nat):Int))=True:=by simp only [eq_iff_iff,iff_true];omega
         have hQ:=Qi4 hY1 hv hd0 hG hbr;rcases hbig with h|⟨h,w0⟩
         ·have h':((4294967296:Int)≤((q:Nat):Int))=True:=by simp only [eq_iff_iff,iff_true];exact h
          rw [hQ]at e4;simp -implicitDefEqProofs only [go_sem,Nat.reduceAdd,Nat.reduceMul,Nat.reduceEqDiff,Nat.reduceLT,Nat.reduceLeDiff,reduceCtorEq,h',e4,e5,hbr'];simp -implicitDefEqProofs only [go_sem,Nat.reduceAdd,Nat.reduceEqDiff,Nat.reduceLT,reduceCtorEq,f1,f2,k1,hmin,Qgw];rw [←D1,←D2]
         ·rw [hQ]at e4;simp -implicitDefEqProofs only [go_sem,Nat.reduceAdd,Nat.reduceMul,Nat.reduceEqDiff,Nat.reduceLT,Nat.reduceLeDiff,reduceCtorEq,h,w0,w1,w2,w3,e4,e5,hbr'];simp -implicitDefEqProofs only [go_sem,Nat.reduceAdd,Nat.reduceEqDiff,Nat.reduceLT,reduceCtorEq,f1,f2,k1,hmin,Qgw];rw [←D1,←D2]
        ·have hbr':((4294967296:Int)≤((r+Y/4294967296:Nat):Int))=False:=by simp only [eq_iff_iff,iff_false];omega
         have next: ∃y:{p:Nat×Nat // Kn Y v d0 p.1 p.2},y.1.1<q∧y.1=(q-1,r+Y/4294967296):=⟨⟨(q-1,r+Y/4294967296),hG,by simp only;omega⟩,by simp only;omega,rfl⟩
         obtain⟨y,y1,y2⟩:=next
         rcases hbig with h|⟨h,w0⟩
         ·have h':((4294967296:Int)≤((q:Nat):Int))=True:=by simp only [eq_iff_iff,iff_true];exact h
          simp -implicitDefEqProofs only [go_sem,Nat.reduceAdd,Nat.reduceMul,Nat.reduceEqDiff,Nat.reduceLT,Nat.reduceLeDiff,reduceCtorEq,h',e4,e5,hbr'];refine⟨y,y1,Qbn ?_⟩;simp [Qah,lkp,ren1,ren0,y2]
         ·simp -implicitDefEqProofs only [go_sem,Nat.reduceAdd,Nat.reduceMul,Nat.reduceEqDiff,Nat.reduceLT,Nat.reduceLeDiff,reduceCtorEq,h,w0,w1,w2,w3,e4,e5,hbr'];refine⟨y,y1,Qbn ?_⟩;simp [Qah,lkp,ren1,ren0,y2]
       ·have hQ:=Qmc hY1 hK hc;have hq2:q<4294967296:=by rw [hQ];exact Qhh hv hd0
        have h:((4294967296:Int)≤((q:Nat):Int))=False:=by simp only [eq_iff_iff,iff_false];omega
        have w0:=Qdv hq2 hy0;have w3:(((r*4294967296+d0:Nat):Int)<((q*(Y%4294967296):Nat):Int))=False:=by
         simp only [eq_iff_iff,iff_false];have:=mt ht.1 hc;omega
        simp -implicitDefEqProofs only [go_sem,Nat.reduceAdd,Nat.reduceMul,Nat.reduceEqDiff,Nat.reduceLT,Nat.reduceLeDiff,reduceCtorEq,h,w0,w1,w2,w3];clear hK hq hr ht e5 hc hq2 h w0 w1 w2 w3;subst hQ;simp -implicitDefEqProofs only [go_sem,Nat.reduceAdd,Nat.reduceEqDiff,Nat.reduceLT,reduceCtorEq,f1,f2,k1,hmin,Qgw];rw [←D1,←D2]
    ·have hbr':((4294967296:Int)≤((r+Y/4294967296:Nat):Int))=False:=by simp only [eq_iff_iff,iff_false];omega
     have next: ∃y:{p:Nat×Nat // Kn Y u d1 p.1 p.2},y.1.1<q∧y.1=(q-1,r+Y/4294967296):=⟨⟨(q-1,r+Y/4294967296),hG,by simp only;omega⟩,by simp only;omega,rfl⟩
     obtain⟨y,y1,y2⟩:=next
     rcases hbig with h|⟨h,w0⟩
     ·have h':((4294967296:Int)≤((q:Nat):Int))=True:=by simp only [eq_iff_iff,iff_true];exact h
      simp -implicitDefEqProofs only [go_sem,Nat.reduceAdd,Nat.reduceMul,Nat.reduceEqDiff,Nat.reduceLT,Nat.reduceLeDiff,reduceCtorEq,h',e4,e5,hbr'];refine⟨y,y1,Qbn ?_⟩;simp [Qah,lkp,ren1,ren0,y2]
     ·simp -implicitDefEqProofs only [go_sem,Nat.reduceAdd,Nat.reduceMul,Nat.reduceEqDiff,Nat.reduceLT,Nat.reduceLeDiff,reduceCtorEq,h,w0,w1,w2,w3,e4,e5,hbr'];refine⟨y,y1,Qbn ?_⟩;simp [Qah,lkp,ren1,ren0,y2]
   ·have hQ:=Qmc hY1 hK hc;have hq2:q<4294967296:=by rw [hQ];exact Qhh hu hd1
    have h:((4294967296:Int)≤((q:Nat):Int))=False:=by simp only [eq_iff_iff,iff_false];omega
    have w0:=Qdv hq2 hy0;have w3:(((r*4294967296+d1:Nat):Int)<((q*(Y%4294967296):Nat):Int))=False:=by
     simp only [eq_iff_iff,iff_false];have:=mt ht.1 hc;omega
    simp -implicitDefEqProofs only [go_sem,Nat.reduceAdd,Nat.reduceMul,Nat.reduceEqDiff,Nat.reduceLT,Nat.reduceLeDiff,reduceCtorEq,h,w0,w1,w2,w3];clear hK hq hr ht e5 hc hq2 h w0 w1 w2 w3;subst hQ;simp -implicitDefEqProofs only [go_sem,Nat.reduceAdd,Nat.reduceMul,Nat.reduceEqDiff,Nat.reduceLT,Nat.reduceLeDiff,reduceCtorEq,l4,Qux,hyt,l5,l6];refine Qba mixed (fun p:{p:Nat×Nat // Kn Y v d0 p.1 p.2}=>St.of [(2,.int .u64 ((Y:Nat):Int)),(8,.int .u64 ((s:Nat):Int)),(9,.int .u64 ((Y/4294967296:Nat):Int)),(10,.int .u64 ((Y%4294967296:Nat):Int)),(14,.int .u64 ((d0:Nat):Int)),(15,.int .u64 (((u*4294967296+d1)/Y:Nat):Int)),(17,.int .u64 ((v:Nat):Int)),(18,.int .u64 ((p.1.1:Nat):Int)),(16,.int .u64 ((p.1.2:Nat):Int))] []) (fun p=>p.1.1) ⟨(v/(Y/4294967296),v%(Y/4294967296)),Qi3 hY1 hY2 hv hd0⟩ ?_ ?_
    ·exact Qbn (by simp [Qah,lkp,ren1,ren0])
    ·rintro⟨⟨q,r⟩,hK⟩;have hq:=kn_q hY1 hY2 hv hK;have hr:r<4294967296:=hK.small;have ht:=Qma hK;simp only at hq hr ht hK ⊢;have hy1:Y/4294967296<4294967296:=by omega
     have hy0:Y%4294967296<4294967296:=by omega
     have e5:=Qmq hr hy1;have w1:=Qmo hr;have w2:=Qi8 hr hd0;by_cases hc:v*4294967296+d0<q*Y
     ·obtain⟨hq0,hG⟩:=Qmb hY1 hv hK hc;have e4:=Qmp hq0 hq;have hbig:(4294967296:Int)≤((q:Nat):Int)∨((4294967296:Int)≤((q:Nat):Int))=False∧IntKind.u64.wrap (((q:Nat):Int)*((Y%4294967296:Nat):Int))=((q*(Y%4294967296):Nat):Int):=by
       by_cases h:4294967296≤q
       ·left;omega
       ·right;exact⟨by simp only [eq_iff_iff,iff_false];omega,Qdv (by omega) hy0⟩
      have w3:(((r*4294967296+d0:Nat):Int)<((q*(Y%4294967296):Nat):Int))=True:=by
       simp only [eq_iff_iff,iff_true];have:=ht.2 hc;omega
      by_cases hbr:4294967296≤r+Y/4294967296
      ·have hbr':((4294967296:Int)≤((r+Y/4294967296:Nat):Int))=True:=by simp only [eq_iff_iff,iff_true];omega
       have hQ:=Qi4 hY1 hv hd0 hG hbr;rcases hbig with h|⟨h,w0⟩
       ·have h':((4294967296:Int)≤((q:Nat):Int))=True:=by simp only [eq_iff_iff,iff_true];exact h
        rw [hQ]at e4;simp -implicitDefEqProofs only [go_sem,Nat.reduceAdd,Nat.reduceMul,Nat.reduceEqDiff,Nat.reduceLT,Nat.reduceLeDiff,reduceCtorEq,h',e4,e5,hbr'];simp -implicitDefEqProofs only [go_sem,Nat.reduceAdd,Nat.reduceEqDiff,Nat.reduceLT,reduceCtorEq,f1,f2,k1,hmin,Qgw];rw [←D1,←D2]
       ·rw [hQ]at e4;simp -implicitDefEqProofs only [go_sem,Nat.reduceAdd,Nat.reduceMul,Nat.reduceEqDiff,Nat.reduceLT,Nat.reduceLeDiff,reduceCtorEq,h,w0,w1,w2,w3,e4,e5,hbr'];simp -implicitDefEqProofs only [go_sem,Nat.reduceAdd,Nat.reduceEqDiff,Nat.reduceLT,reduceCtorEq,f1,f2,k1,hmin,Qgw];rw [←D1,←D2]
      ·have hbr':((4294967296:Int)≤((r+Y/4294967296:Nat):Int))=False:=by simp only [eq_iff_iff,iff_false];omega
       have next: ∃y:{p:Nat×Nat // Kn Y v d0 p.1 p.2},y.1.1<q∧y.1=(q-1,r+Y/4294967296):=⟨⟨(q-1,r+Y/4294967296),hG,by simp only;omega⟩,by simp only;omega,rfl⟩
       obtain⟨y,y1,y2⟩:=next
       rcases hbig with h|⟨h,w0⟩
       ·have h':((4294967296:Int)≤((q:Nat):Int))=True:=by simp only [eq_iff_iff,iff_true];exact h
        simp -implicitDefEqProofs only [go_sem,Nat.reduceAdd,Nat.reduceMul,Nat.reduceEqDiff,Nat.reduceLT,Nat.reduceLeDiff,reduceCtorEq,h',e4,e5,hbr'];refine⟨y,y1,Qbn ?_⟩;simp [Qah,lkp,ren1,ren0,y2]
       ·simp -implicitDefEqProofs only [go_sem,Nat.reduceAdd,Nat.reduceMul,Nat.reduceEqDiff,Nat.reduceLT,Nat.reduceLeDiff,reduceCtorEq,h,w0,w1,w2,w3,e4,e5,hbr'];refine⟨y,y1,Qbn ?_⟩;simp [Qah,lkp,ren1,ren0,y2]
     ·have hQ:=Qmc hY1 hK hc;have hq2:q<4294967296:=by rw [hQ];exact Qhh hv hd0
      have h:((4294967296:Int)≤((q:Nat):Int))=False:=by simp only [eq_iff_iff,iff_false];omega
      have w0:=Qdv hq2 hy0;have w3:(((r*4294967296+d0:Nat):Int)<((q*(Y%4294967296):Nat):Int))=False:=by
       simp only [eq_iff_iff,iff_false];have:=mt ht.1 hc;omega
      simp -implicitDefEqProofs only [go_sem,Nat.reduceAdd,Nat.reduceMul,Nat.reduceEqDiff,Nat.reduceLT,Nat.reduceLeDiff,reduceCtorEq,h,w0,w1,w2,w3];clear hK hq hr ht e5 hc hq2 h w0 w1 w2 w3;subst hQ;simp -implicitDefEqProofs only [go_sem,Nat.reduceAdd,Nat.reduceEqDiff,Nat.reduceLT,reduceCtorEq,f1,f2,k1,hmin,Qgw];rw [←D1,←D2]
end Go.Proofs.YtapjnenbofmliaaGreatDoor

namespace Go.Dg
theorem Qtq (A d B:Nat) (hB:0<B) (hd:0<d):(A/B%d*B+A%B)/d=A/d%B∧(A/B%d*B+A%B)%d=A%d:=by
 have h1:=Nat.div_add_mod A B;have h2:=Nat.div_add_mod (A/B) d;have hr:A/B%d<d:=Nat.mod_lt _ hd;have hl:A%B<B:=Nat.mod_lt _ hB;generalize A/B%d=r at*;generalize A/B/d=Q at*;generalize A%B=l at*;have e:A=d*(Q*B)+(r*B+l):=by
  rw [←h1,←h2,Nat.mul_add,Nat.mul_comm B r,Nat.mul_comm B,Nat.mul_assoc];omega
 have hlt:r*B+l<d*B:=by
  have:=Nat.mul_le_mul_right B (show r+1≤d from hr);rw [Nat.add_mul]at this;omega
 have hq:(r*B+l)/d<B:=by rw [Nat.div_lt_iff_lt_mul hd,Nat.mul_comm B];exact hlt
 constructor
 ·rw [e,Nat.mul_add_div hd,Nat.mul_add_mod_self_right,Nat.mod_eq_of_lt hq]
 ·rw [e,Nat.mul_add_mod]
theorem Qmd (B V S N:Nat):mix B V S N N=lows B V N:=by
 apply List.map_congr_left;intro j hj;rw [if_pos (by simpa using hj)]
theorem Qtr (a w r i:Nat) (hr:r≤64):shlV a w r i/WB^(i+w)%WB=shlC a r i:=by
 rw [Qi2,Nat.mod_eq_of_lt (Nat.lt_of_lt_of_le (Qji a r i) (Nat.pow_le_pow_right (n:=2) (by decide) hr))]
end Go.Dg

namespace Go.Proofs.YtapjnenbofmliaaGreatDoor
open Go.Vl Go.RowKit Go.Dg
theorem Qmr (a d:Nat) (hd:0<d) (hdl:d<18446744073709551616) (ha:(digs BW a).length≤1000000000):Qag Tryz.prog 35 [dw (digs BW a),.int .u64 (d:Int)] (.tup [dw (digs BW (a/d)),.int .u64 ((a%d:Nat):Int)]):=by
 refine Qae (tb:=[]) 35 [.tmp 4,.tmp 5] [0,1,4,5,6,7,8,16] mixed Tryz.func35 rfl (by kernel_rfl) (by kernel_rfl) (by kernel_rfl) (by kernel_rfl) ?_;have hn0:((0:Int)≤((digs BW a).length:Int))=True:=by simp
 have hn1:((8:Nat):Int)*((digs BW a).length:Int)≤281474976710656:=by omega
 have hn2:((digs BW a).length:Int)≤9223372036854775807:=by omega
 have hlt:a<BW^(digs BW a).length:=Qay BW_2 a;have hw:IntKind.i64.wrap (((digs BW a).length:Int)-1)=((digs BW a).length:Int)-1:=Qaj (by omega) (by omega);simp -implicitDefEqProofs only [go_sem,Nat.reduceAdd,Nat.reduceMul,Nat.reduceEqDiff,Nat.reduceLT,Nat.reduceLeDiff,reduceCtorEq,dw,List.length_map,hn0,hn1,hn2,Int.toNat_natCast,hw];generalize hN:(digs BW a).length=N at*;have hrep:List.replicate N (PV.int .u64 0)=(mix BW 0 (a/d) N N).map fW:=by rw [Qmd,Qdg];simp
 rw [hrep];refine Qba mixed (fun i:{i:Nat // i≤N}=>St.of [(0,dw (digs BW a)),(1,.int .u64 (d:Int)),(4,.nilS),(5,.int .u64 0),(6,.bs 102 1 0 N),(7,.int .u64 ((a/BW^i.1%d:Nat):Int)),(8,.int .i64 ((i.1:Int)-1))]
  [(102,{els:=(mix BW 0 (a/d) N i.1).map fW,esz:=1,ety:=66,fro:=0,live:=true,arr:=true})]) (fun i=>i.1) ⟨N,Nat.le_refl _⟩ ?_ ?_
 ·refine Qa0 (θ:=[(102,102)]) rfl ?_ ?_
  ·simp [Qah,lkp,ren1,ren0,dw,Nat.div_eq_of_lt hlt]
  ·simp [Qal,lkp,Box.renames]
 ·rintro⟨i,hi⟩;cases i with
  |zero=>
   have h1:((0:Int)≤((0:Nat):Int)-1)=False:=by simp
   have hll:=Qaf (B:=BW) (a/d) N;have htk:((lows BW (a/d) N).map fW).take N=(lows BW (a/d) N).map fW:=List.take_of_length_le (by simp [hll]);simp -implicitDefEqProofs only [go_sem,Nat.reduceAdd,Nat.reduceMul,Nat.reduceEqDiff,Nat.reduceLT,Nat.reduceLeDiff,reduceIte,reduceCtorEq,h1,Qgl,List.length_map,hll,htk];refine Qab _ _ _ _ _ _ _ _ _ (Qcc (lows BW (a/d) N) (by rw [hll];simp [maxLen];omega)) ?_;have e:a/BW^0%d=a%d:=by rw [Nat.pow_zero,Nat.div_one]
   simp -implicitDefEqProofs only [go_sem,Nat.reduceAdd,Nat.reduceEqDiff,Nat.reduceLT,reduceCtorEq,dw,e];rw [Qbb BW_2,Nat.mod_eq_of_lt (Nat.lt_of_le_of_lt (Nat.div_le_self _ _) hlt)]
  |succ i=>
   have hs:(((i+1:Nat):Int)-1)=(i:Int):=by omega
   have h1:((0:Int)≤(i:Int))=True:=by simp
   have h2:((i:Int)<(N:Int))=True:=by simp;omega
   have hga:=Qam BW_2 (show i<(digs BW a).length by omega);have hml:=Qa9 (B:=BW) 0 (a/d) N (i+1);obtain⟨e,hgo⟩: ∃e:Nat,((mix BW 0 (a/d) N (i+1)).map fW)[i]? =some (PV.int .u64 (e:Int)):=⟨_,by rw [List.getElem?_map,Qci _ _ _ _ _ (by omega)];rfl⟩;have e0:a/BW^(i+1)=a/BW^i/BW:=by rw [Nat.pow_succ,Nat.div_div_eq_div_mul]
   obtain⟨s1,s2⟩:=Qtq (a/BW^i) d BW (by decide) hd;have e1:a/BW^i/d=a/d/BW^i:=by rw [Nat.div_div_eq_div_mul,Nat.div_div_eq_div_mul,Nat.mul_comm]
   have hc:=Qzv (a/BW^(i+1)%d) (a/BW^i%BW) d (Nat.mod_lt _ hd) hdl (Nat.mod_lt _ (by decide));rw [e0,s1,s2,e1]at hc;have hset:=Qmm (B:=BW) (V:=0) (S:=a/d) (N:=N) (i:=i) (d:=a/d/BW^i%BW) (by omega) rfl;have w4:IntKind.i64.wrap ((i:Int)-1)=(i:Int)-1:=Qaj (by omega) (by omega);simp -implicitDefEqProofs only [go_sem,Nat.reduceAdd,Nat.reduceMul,Nat.reduceEqDiff,Nat.reduceLT,Nat.reduceLeDiff,reduceCtorEq,dw,hs,h1,Qb3,hga,Int.toNat_natCast,e0];refine Qab _ _ _ _ _ _ _ _ _ hc ?_;simp -implicitDefEqProofs only [go_sem,Nat.reduceAdd,Nat.reduceMul,Nat.reduceEqDiff,Nat.reduceLT,Nat.reduceLeDiff,reduceIte,reduceCtorEq,h1,h2,hgo,Int.toNat_natCast,w4];refine⟨⟨i,by omega⟩,by simp only;omega,Qa0 (θ:=[(102,102)]) rfl ?_ ?_⟩
   ·simp [Qah,lkp,ren1,ren0,dw]
   ·rw [Qb9,hset];simp [Qal,lkp,Box.renames]
end Go.Proofs.YtapjnenbofmliaaGreatDoor

namespace Go.Dg
open Go.Lib
theorem Qhj {u:Nat} (h: ¬u<10):decDigits u=decDigits (u/10)++[UInt8.ofNat (48+u%10)]:=by rw [decDigits,dif_neg h]
def padk:Nat→Nat→List UInt8
 |0,_=>[]
 |k+1,r=>padk k (r/10)++[UInt8.ofNat (48+r%10)]
theorem Qn5: ∀k,padk k 0=List.replicate k 48
 |0=>rfl
 |k+1=>by rw [padk,Nat.zero_div,Qn5 k,List.replicate_succ'];rfl
theorem Qhk: ∀(k q r:Nat),0<q→r<10^k→decDigits (q*10^k+r)=decDigits q++padk k r
 |0,q,r,_,hr=>by
  obtain rfl:r=0:=by simpa using hr
  simp [padk]
 |k+1,q,r,hq,hr=>by
  rw [Nat.pow_succ]at hr ⊢;have e1:q*(10^k*10)=q*10^k*10:=by rw [Nat.mul_assoc]
  have hp:0<10^k:=Nat.pow_pos (by decide);have h1:1≤q*10^k:=Nat.mul_pos hq hp;rw [e1];have e2:(q*10^k*10+r)/10=q*10^k+r/10:=by omega
  have e3:(q*10^k*10+r)%10=r%10:=by omega
  rw [Qhj (by omega),e2,e3,Qhk k q (r/10) hq (by omega),padk,List.append_assoc]
theorem Qc6: ∀(k u:Nat),u<10^(k+1)→(decDigits u).length≤k+1
 |0,u,h=>by rw [decDigits_one (by simpa using h)];simp
 |k+1,u,h=>by
  by_cases hu:u<10
  ·rw [decDigits_one hu];simp
  ·rw [Qhj hu,List.length_append];have:=Qc6 k (u/10) (by rw [Nat.pow_succ]at h;omega);simp only [List.length_singleton];omega
theorem Qwi: ∀(k r:Nat),r<10^(k+1)→padk (k+1) r=List.replicate (k+1-(decDigits r).length) 48++decDigits r
 |0,r,h=>by
  have h10:r<10:=by simpa using h
  rw [decDigits_one h10,padk,padk,Nat.mod_eq_of_lt h10];rfl
 |k+1,r,h=>by
  by_cases h10:r<10
  ·rw [decDigits_one h10,padk,Nat.div_eq_of_lt h10,Qn5,Nat.mod_eq_of_lt h10];rfl
  ·rw [padk,Qwi k (r/10) (by rw [Nat.pow_succ]at h;omega),Qhj h10,List.length_append,List.append_assoc];simp
def isD (c:UInt8):Bool:=decide (48≤c.toNat)&&decide (c.toNat≤57)
theorem Qn6 (d:Nat) (h:d<10):isD (UInt8.ofNat (48+d))=true∧(UInt8.ofNat (48+d)).toNat=48+d:=by
 have e:(UInt8.ofNat (48+d)).toNat=48+d:=by simp;omega
 refine⟨?_,e⟩;simp only [isD,e,Bool.and_eq_true,decide_eq_true_eq];omega
theorem Qwj (u:Nat):(decDigits u).all isD=true:=by
 induction u using Nat.strongRecOn with
 |_ u ih=>
  by_cases h:u<10
  ·rw [decDigits_one h,List.all_cons,List.all_nil,(Qn6 u h).1];rfl
  ·rw [Qhj h,List.all_append,ih (u/10) (by omega),List.all_cons,List.all_nil,(Qn6 (u%10) (by omega)).1];rfl
def Qfy (a:Nat) (l:List UInt8):Nat:=l.foldl (fun a c=>a*10+(c.toNat-48)) a
def dval (l:List UInt8):Nat:=Qfy 0 l
theorem Qsa (l:List UInt8): ∀a,Qfy a l=a*10^l.length+dval l:=by
 induction l with
 |nil=>intro a;simp [dval,Qfy]
 |cons c r ih=>
  intro a;have h1:Qfy a (c::r)=Qfy (a*10+(c.toNat-48)) r:=rfl;have h2:dval (c::r)=Qfy (0*10+(c.toNat-48)) r:=rfl;rw [h1,h2,ih,ih,List.length_cons,Nat.pow_succ,Nat.add_mul,Nat.zero_mul,Nat.zero_add,Nat.mul_assoc,Nat.mul_comm 10,Nat.add_assoc]
theorem Qp6 (a b:List UInt8):dval (a++b)=dval a*10^b.length+dval b:=by
 have:dval (a++b)=Qfy (dval a) b:=by simp [dval,Qfy,List.foldl_append]
 rw [this,Qsa]
theorem Qwk (a:List UInt8) (c:UInt8):dval (a++[c])=dval a*10+(c.toNat-48):=by
 simp [dval,Qfy,List.foldl_append]
theorem Qp7 (l:List UInt8) (h:l.all isD=true):dval l<10^l.length:=by
 induction l with
 |nil=>simp [dval,Qfy]
 |cons c r ih=>
  simp only [List.all_cons,Bool.and_eq_true]at h;have h1:=ih h.2;have h2:dval (c::r)=Qfy (0*10+(c.toNat-48)) r:=rfl;have hc:=h.1;simp only [isD,Bool.and_eq_true,decide_eq_true_eq]at hc;rw [h2,Qsa,Nat.zero_mul,Nat.zero_add,List.length_cons,Nat.pow_succ];have:(c.toNat-48)*10^r.length≤9*10^r.length:=Nat.mul_le_mul_right _ (by omega);omega
theorem Q2c (u:Nat):dval (decDigits u)=u:=by
 induction u using Nat.strongRecOn with
 |_ u ih=>
  by_cases h:u<10
  ·rw [decDigits_one h];simp only [dval,Qfy,List.foldl_cons,List.foldl_nil,(Qn6 u h).2];omega
  ·rw [Qhj h,Qwk,ih (u/10) (by omega),(Qn6 (u%10) (by omega)).2];omega
theorem Q2d (u:Nat) (h0:0<u): ∃c r,decDigits u=c::r∧c≠48:=by
 induction u using Nat.strongRecOn with
 |_ u ih=>
  by_cases h:u<10
  ·refine⟨_,[],decDigits_one h,fun e=> ?_⟩;have:=congrArg UInt8.toNat e;rw [(Qn6 u h).2]at this;have h48:(48:UInt8).toNat=48:=rfl;omega
  ·obtain⟨c,r,e,hc⟩:=ih (u/10) (by omega) (by omega);exact⟨c,r++[UInt8.ofNat (48+u%10)],by rw [Qhj h,e];rfl,hc⟩
def txt (neg:Bool) (m:Nat):List UInt8:=if m=0 then [48]else if neg then 45::decDigits m else decDigits m
def badD (neg:Bool):List UInt8→Bool
 | []=>true
 |c::r=>c==48&&(neg|| !r.isEmpty)
theorem Qn7: ∀(l:List UInt8) (acc:Nat),l.all isD=true→(acc+1)*10^l.length≤1000000000000000000→parseUintM (2^64-1) acc l= .ok (Qfy acc l)
 | [],acc,_,_=>rfl
 |c::r,acc,h,hb=>by
  simp only [List.all_cons,Bool.and_eq_true]at h;have hd:=h.1;simp only [isD,Bool.and_eq_true,decide_eq_true_eq]at hd;rw [List.length_cons,Nat.pow_succ,Nat.mul_comm (10^r.length),←Nat.mul_assoc]at hb;have hp:0<10^r.length:=Nat.pow_pos (by decide);have h1:(acc+1)*10*1≤(acc+1)*10*10^r.length:=Nat.mul_le_mul_left _ hp;have h2:(acc*10+(c.toNat-48)+1)*10^r.length≤(acc+1)*10*10^r.length:=Nat.mul_le_mul_right _ (by omega);rw [parseUintM,if_pos hd,if_neg (by omega),if_neg (by
    have:(2:Nat)^64-1=18446744073709551615:=rfl;omega),Qn7 r _ h.2 (by omega)]
  rfl
theorem Qn8 (l:List UInt8) (hne:l≠ []) (h:l.all isD=true) (hl:l.length≤18):parseUintB 64 l= .ok (dval l):=by
 rw [parseUintB,if_neg hne,Qn7 l 0 h ?_]
 ·rfl
 ·rw [Nat.zero_add,Nat.one_mul];exact Nat.pow_le_pow_right (show 0<10 by decide) hl
def grps (n:Nat):List (List UInt8):=if n<1000000000000000000 then(if n=0 then []else [decDigits n])else padk 18 (n%1000000000000000000)::grps (n/1000000000000000000)
termination_by n
decreasing_by exact Nat.div_lt_self (by omega) (by decide)
theorem Qe4:grps 0=[]:=by rw [grps];rfl
theorem Qhm {n:Nat} (h:n<1000000000000000000) (h0:0<n):grps n=[decDigits n]:=by rw [grps,if_pos h,if_neg (by omega)]
theorem Qmn {n:Nat} (h: ¬n<1000000000000000000):grps n=padk 18 (n%1000000000000000000)::grps (n/1000000000000000000):=by rw [grps,if_neg h]
theorem Qwm (n:Nat) (h0:0<n):(grps n).reverse.flatten=decDigits n:=by
 induction n using Nat.strongRecOn with
 |_ n ih=>
  by_cases h:n<1000000000000000000
  ·rw [Qhm h h0];simp
  ·have hq:0<n/1000000000000000000:=Nat.div_pos (by omega) (by decide);have hd:=Qhk 18 (n/1000000000000000000) (n%1000000000000000000) hq (Nat.mod_lt _ (by decide));have e:n/1000000000000000000*10^18+n%1000000000000000000=n:=by
    have:=Nat.div_add_mod n 1000000000000000000;rw [show(10:Nat)^18=1000000000000000000 from rfl,Nat.mul_comm];exact this
   rw [e]at hd;rw [Qmn h,List.reverse_cons,List.flatten_append,ih _ (Nat.div_lt_self h0 (by decide)) hq,hd];simp
theorem Qsc: ∀(k n:Nat),n<1000000000000000000^k→(grps n).length≤k
 |0,n,h=>by
  obtain rfl:n=0:=by simpa using h
  rw [Qe4];simp
 |k+1,n,h=>by
  by_cases hs:n<1000000000000000000
  ·by_cases h0:n=0
   ·rw [h0,Qe4];simp
   ·rw [Qhm hs (by omega)];simp
  ·rw [Qmn hs,List.length_cons];have:=Qsc k (n/1000000000000000000) (by rw [Nat.pow_succ]at h;exact(Nat.div_lt_iff_lt_mul (by decide)).2 h);omega
def grpS (n:Nat):List UInt8:=if n<1000000000000000000 then decDigits n else padk 18 (n%1000000000000000000)
theorem Qjn {n:Nat} (h0:0<n):grps n=grpS n::grps (n/1000000000000000000):=by
 unfold grpS;by_cases h:n<1000000000000000000
 ·rw [if_pos h,Qhm h h0,Nat.div_eq_of_lt h,Qe4]
 ·rw [if_neg h,Qmn h]
theorem Qn9 {n:Nat} (h:n/1000000000000000000=0):grpS n=decDigits (n%1000000000000000000):=by
 have hl:n<1000000000000000000:=by
  rcases Nat.div_eq_zero_iff.1 h with h|h
  ·cases h
  ·exact h
 rw [grpS,if_pos hl,Nat.mod_eq_of_lt hl]
theorem Qoa {n:Nat} (h:n/1000000000000000000≠0):grpS n=List.replicate (18-(decDigits (n%1000000000000000000)).length) 48++decDigits (n%1000000000000000000)∧(decDigits (n%1000000000000000000)).length≤18:=by
 have hl: ¬n<1000000000000000000:=fun h'=>h (Nat.div_eq_of_lt h');have hm:n%1000000000000000000<10^18:=Nat.mod_lt _ (by decide);rw [grpS,if_neg hl];exact⟨Qwi 17 _ hm,Qc6 17 _ hm⟩
end Go.Dg

namespace Go.Vl
def Qh6:PV→PV
 | .nilS=> .slc []
 |v=>v
def Q8p:PV→PV
 | .agg cs=> .agg (cs.map Qh6)
 |v=>Qh6 v
theorem Qjg (v:PV):(Q8p v).cells=v.cells.map Qh6:=by
 cases v<;>rfl
theorem Qle (l:List PV):(l.map Q8p).flatMap PV.cells=(l.flatMap PV.cells).map Qh6:=by
 induction l with
 |nil=>rfl
 |cons v l ih=>simp only [List.map_cons,List.flatMap_cons,List.map_append,Qjg,ih]
theorem Rep.up {w:World} {im:Im} {v:PV} {u:Value} (h:Rep w im v u):Rep w im (Qh6 v) u:=by
 cases v with
 |nilS=>cases h;exact .slcNil 0 (Nat.zero_le _)
 |_=>exact h
theorem LR.up {w:World} {im:Im} {ρ:Rho} {v:PV} {u:Value} (h:LR w im ρ v u):LR w im ρ (Qh6 v) u:=by
 cases v with
 |nilS=>rw [h.nilS_inv];exact .ext _ _ (.slcNil 0 (Nat.zero_le _))
 |_=>exact h
theorem RepL.up {w:World} {im:Im}: ∀{vs:List PV} {us:List Value},RepL w im vs us→RepL w im (vs.map Qh6) us
 |_,_,.nil=> .nil
 |_,_,.cons _ _ _ _ h t=> .cons _ _ _ _ h.up t.up
theorem LRL.up {w:World} {im:Im} {ρ:Rho}: ∀{vs:List PV} {us:List Value},LRL w im ρ vs us→LRL w im ρ (vs.map Qh6) us
 |_,_,.nil=> .nil
 |_,_,.cons _ _ _ _ h t=> .cons _ _ _ _ h.up t.up
theorem Qc0.up {own:Nat→Prop} {w:World} {im:Im} {ρ:Rho} {B:Box} {x:Option Nat} (h:Qc0 own w im ρ B x):Qc0 own w im ρ {B with els:=B.els.map Q8p} x:=by
 cases x with
 |none=>obtain⟨h1,h2,h3,h4⟩:=h;exact⟨by simp [h1],h2,h3,h4⟩
 |some g=>
  obtain⟨h1,h2,h3,h4,⟨hmn,cur,us,rest,h5,h6,h7,h8,h9,h10,h11⟩|hm⟩:=h
  case inr=>
   refine⟨h1,by simpa using h2,h3,?_,.inr ⟨by simp [hm.1],hm.2⟩⟩;simp [hm.1]
  refine⟨h1,by simpa using h2,h3,?_,.inl ⟨hmn,cur,us,rest,h5,h6,?_,?_,h9,h10,h11⟩⟩
  ·intro e he;obtain⟨v,hv,rfl⟩:=List.mem_map.1 he;rw [Qjg,List.length_map];exact h4 v hv
  ·simp only [Qle];exact h7.up
  ·intro ha;simp only [Qle];exact(h8 ha).up
end Go.Vl

namespace Go.Proofs.YtapjnenbofmliaaGreatDoor
open Go.Vl Go.RowKit Go.Dg Go.Lib
def bs_ (l:List UInt8):PV:= .str ⟨l.toArray⟩
def revA (l:List (List UInt8)) (k:Nat):List (List UInt8):=(List.range l.length).map fun i=>if i<k∨l.length≤i+k then l.getD (l.length-1-i) []else l.getD i []
theorem Qfp (l:List (List UInt8)) (k:Nat):(revA l k).length=l.length:=by simp [revA]
theorem Qef (l:List (List UInt8)) (k i:Nat) (h:i<l.length):(revA l k)[i]? =some (if i<k∨l.length≤i+k then l.getD (l.length-1-i) []else l.getD i []):=by
 simp [revA,h]
theorem Qwy (l:List (List UInt8)):revA l 0=l:=by
 apply List.ext_getElem?;intro i;by_cases h:i<l.length
 ·rw [Qef l 0 i h,if_neg (by omega),List.getD_eq_getElem?_getD,List.getElem?_eq_getElem h];rfl
 ·rw [List.getElem?_eq_none (by rw [Qfp];omega),List.getElem?_eq_none (by omega)]
theorem Qwz (l:List (List UInt8)) (k:Nat) (h:l.length≤2*k+1):revA l k=l.reverse:=by
 apply List.ext_getElem?;intro i;by_cases hi:i<l.length
 ·rw [Qef l k i hi,List.getElem?_reverse hi,List.getElem?_eq_getElem (by omega)];by_cases hc:i<k∨l.length≤i+k
  ·rw [if_pos hc,List.getD_eq_getElem?_getD,List.getElem?_eq_getElem (by omega)];rfl
  ·rw [if_neg hc];have e:i=l.length-1-i:=by omega
   rw [List.getD_eq_getElem?_getD,List.getElem?_eq_getElem hi];simp only [Option.getD_some];congr 2
 ·rw [List.getElem?_eq_none (by rw [Qfp];omega),List.getElem?_eq_none (by rw [List.length_reverse];omega)]
theorem Qw0 (l:List (List UInt8)) (k:Nat) (h:2*k+1<l.length):((revA l k).set k (l.getD (l.length-1-k) [])).set (l.length-1-k) (l.getD k [])=revA l (k+1):=by
 apply List.ext_getElem?;intro i;by_cases hi:i<l.length
 ·rw [Qef l (k+1) i hi];by_cases h1:i=l.length-1-k
  ·subst h1;rw [List.getElem?_set_self (by rw [List.length_set,Qfp];omega),if_pos (by omega)];congr 2;omega
  ·rw [List.getElem?_set_ne (by omega)];by_cases h2:i=k
   ·subst h2;rw [List.getElem?_set_self (by rw [Qfp];omega),if_pos (by omega)]
   ·rw [List.getElem?_set_ne (by omega),Qef l k i hi];by_cases hc:i<k∨l.length≤i+k
    ·rw [if_pos hc,if_pos (by omega)]
    ·rw [if_neg hc,if_neg (by omega)]
 ·rw [List.getElem?_eq_none (by rw [List.length_set,List.length_set,Qfp];omega),List.getElem?_eq_none (by rw [Qfp];omega)]
theorem Zc0 (L:List (List UInt8)) (i:Nat) (x:List UInt8):(L.map bs_).set i (.str ⟨x.toArray⟩)=(L.set i x).map bs_:=by rw [List.map_set];rfl
set_option maxHeartbeats 1000000 in
theorem Qlm (l:List (List UInt8)) (hl:l.length≤100000000):Qdx Tryz.prog 38 [.bs 1000000 1 0 l.length] [(1000000,{els:=l.map bs_,esz:=1,ety:=9,fro:=0,live:=true,arr:=true})] (.tup []) [(1000000,{els:=l.reverse.map bs_,esz:=1,ety:=9,fro:=0,live:=true,arr:=true})]:=by
 have hw:IntKind.i64.wrap ((l.length:Int)-1)=(l.length:Int)-1:=Qaj (by omega) (by omega);refine Qfn (tb:=[]) 28 [] [0,2,3,9] mixed Tryz.func38 rfl (by kernel_rfl) (by kernel_rfl) (by kernel_rfl) (by kernel_rfl) (by rfl) ?_;repeat (first|(simp -implicitDefEqProofs only [go_sem,seval,hw]))
 refine Qba mixed (fun k:{k:Nat // 2*k≤l.length+1}=>St.of [(0,.bs 1000000 1 0 l.length),(2,.int .i64 (k.1:Int)),(3,.int .i64 ((l.length:Int)-1-(k.1:Int)))] [(1000000,{els:=(revA l k.1).map bs_,esz:=1,ety:=9,fro:=0,live:=true,arr:=true})]) (fun k=>l.length+1-k.1) ⟨0,Nat.zero_le _⟩ ?_ ?_
 ·rw [Qwy];refine Qa0 (θ:=[(1000000,1000000)]) rfl ?_ ?_
  ·simp [Qah,lkp,ren1,ren0,Qbp]
  ·exact⟨⟨rfl,rfl,rfl,rfl,rfl,.inl ⟨rfl,rfl⟩⟩,trivial⟩
 rintro⟨k,hk⟩;simp only;by_cases hA:2*k+1<l.length
 ·have e1:(l.length:Int)-1-(k:Int)=((l.length-1-k:Nat):Int):=by omega
  have hA':((k:Int)<((l.length-1-k:Nat):Int))=True:=eq_true (by omega);have n0:((0:Int)≤(k:Int))=True:=eq_true (by omega);have n1:((0:Int)≤((l.length-1-k:Nat):Int))=True:=eq_true (by omega);have n2:((k:Int)<(l.length:Int))=True:=eq_true (by omega);have n3:(((l.length-1-k:Nat):Int)<(l.length:Int))=True:=eq_true (by omega);have g1:((revA l k).map bs_)[k]? =some (.str ⟨(l.getD k []).toArray⟩):=by rw [List.getElem?_map,Qef l k k (by omega),if_neg (by omega)];rfl
  have g2:((revA l k).map bs_)[l.length-1-k]? =some (.str ⟨(l.getD (l.length-1-k) []).toArray⟩):=by rw [List.getElem?_map,Qef l k _ (by omega),if_neg (by omega)];rfl
  have g3:(((revA l k).set k (l.getD (l.length-1-k) [])).map bs_)[l.length-1-k]? =some (.str ⟨(l.getD (l.length-1-k) []).toArray⟩):=by
   rw [List.getElem?_map,List.getElem?_set_ne (by omega),Qef l k _ (by omega),if_neg (by omega)];rfl
  have w1:=Qa5 (a:=k) (by omega);have w2:IntKind.i64.wrap (((l.length-1-k:Nat):Int)-1)=((l.length:Int)-1-((k+1:Nat):Int)):=by rw [Qaj (by omega) (by omega)];omega
  have hst:=Qw0 l k hA;rw [e1];generalize l.getD k []=X at*;generalize l.getD (l.length-1-k) []=Y at*;repeat (first|(simp -implicitDefEqProofs only [go_sem,seval,hA',n0,n1,n2,n3,g1,g2,g3,w1,w2,Zc0,Int.toNat_natCast])|(with_reducible refine And.intro (Qad _ _ (by kernel_rfl)) ?_))
  refine⟨⟨k+1,by omega⟩,by simp only;omega,?_⟩;simp only [hst];refine Qa0 (θ:=[(1000000,1000000)]) rfl ?_ ?_
  ·simp [Qah,lkp,ren1,ren0,Qbp]
  ·exact⟨⟨rfl,rfl,rfl,rfl,rfl,.inl ⟨rfl,rfl⟩⟩,trivial⟩
 ·have hA':((k:Int)<(l.length:Int)-1-(k:Int))=False:=eq_false (by omega);rw [Qwz l k (by omega)];repeat (first|(simp -implicitDefEqProofs only [go_sem,seval,hA']))
  refine Qcq (.inr rfl) ?_;simp -implicitDefEqProofs only [go_sem];refine Qa0 (θ:=[(1000000,1000000)]) rfl ?_ ?_
  ·simp [Qah,lkp,ren1,ren0,Qbp]
  ·exact⟨⟨rfl,rfl,rfl,rfl,rfl,.inl ⟨rfl,rfl⟩⟩,trivial⟩
end Go.Proofs.YtapjnenbofmliaaGreatDoor
