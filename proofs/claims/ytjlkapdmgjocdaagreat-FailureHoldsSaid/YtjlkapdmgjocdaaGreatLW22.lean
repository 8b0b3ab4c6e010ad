/-
  LW12, LW13, LW14, LW15, LW16, De, De2, De3, LW17, De4, LW18, LW21, LW22 (merged for the claim).
-/
import Derived.Test.YtjlkapdmgjocdaaGreatLW11
import Derived.Test.YtjlkapdmgjocdaaGreatLA10
set_option linter.unusedSimpArgs false
set_option linter.unusedVariables false
namespace Go.Proofs.YtjlkapdmgjocdaaGreat
open Go.Vl Go.RowKit Go.Dg
theorem bfold (r:List UInt8): ∀a:Nat,r.foldl (fun n b=>n*256+b.toNat) a=a*256^r.length+bnum r:=by
 induction r with
 |nil=>intro a;simp [bnum]
 |cons b r ih=>
  intro a;have h0:bnum (b::r)=b.toNat*256^r.length+bnum r:=by
   have h:=ih (0*256+b.toNat);rw [Nat.zero_mul,Nat.zero_add]at h;rw [←h,bnum,List.foldl_cons,Nat.zero_mul,Nat.zero_add]
  rw [List.foldl_cons,ih,h0,List.length_cons,Nat.pow_succ,Nat.add_mul,Nat.mul_assoc,Nat.mul_comm 256];omega
theorem Qnr (b:UInt8) (r:List UInt8):bnum (b::r)=b.toNat*256^r.length+bnum r:=by
 have h:=bfold r (0*256+b.toNat);rw [Nat.zero_mul,Nat.zero_add]at h;rw [←h,bnum,List.foldl_cons,Nat.zero_mul,Nat.zero_add]
theorem Qjk {neg:Bool} {l:List UInt8} (h:Qbj neg l=true):lows BW (bnum l) ((l.length+7)/8)=digs BW (bnum l):=by
 refine Q4n BW_2 ?_ ?_
 ·refine Nat.lt_of_lt_of_le (Qu7 _ l rfl) ?_;rw [show BW=256^8 from rfl,←Nat.pow_mul];exact Nat.pow_le_pow_right (by decide) (by omega)
 ·intro j hj;cases l with
  |nil=>simp at hj
  |cons b r=>
   have hb:b.toNat≠0:=by
    intro e;have:b=0:=UInt8.toNat_inj.1 (by simpa using e);subst this;simp [Qbj]at h
   have hge:256^r.length≤bnum (b::r):=by
    rw [Qnr];have:=Nat.mul_le_mul_right (256^r.length) (Nat.pos_of_ne_zero hb);omega
   have hle:BW^j≤256^r.length:=by
    rw [show BW=256^8 from rfl,←Nat.pow_mul];exact Nat.pow_le_pow_right (by decide) (by simp at hj;omega)
   have:=Nat.div_pos (Nat.le_trans hle hge) (Nat.pow_pos (n:=j) (show 0<BW by decide));omega
theorem Qox (neg:Bool) (s:ByteArray) (h:Qbj neg s.data.toList=true) (hs:s.size≤1000000):Qaf Tryz.prog 71 [.agg [.bool neg,.str s]] (nP neg (bnum s.data.toList)):=by
 have hl:=Qrr s hs;rw [Qjk h]at hl;refine Qab (tb:=[]) 9 [.cell 2 128] [0,1,2] mixed Tryz.func71 rfl (by kernel_rfl) (by kernel_rfl) (by kernel_rfl) (by kernel_rfl) ?_;simp -implicitDefEqProofs only [go_sem,Nat.reduceAdd,Nat.reduceMul,Nat.reduceEqDiff,Nat.reduceLT,Nat.reduceLeDiff,reduceCtorEq];refine Qah _ _ _ _ _ _ _ _ _ hl ?_;simp -implicitDefEqProofs only [go_sem,Nat.reduceAdd,Nat.reduceEqDiff,Nat.reduceLT,Nat.reduceLeDiff,reduceCtorEq,nP,dw];exact Qae _ _ (by kernel_rfl)
end Go.Proofs.YtjlkapdmgjocdaaGreat

namespace Go.Proofs.YtjlkapdmgjocdaaGreat
open Go.Vl Go.RowKit Go.Dg
def wnum (neg:Bool) (s:ByteArray):Int:=sv neg (bnum s.data.toList)
theorem Qgi (s:ByteArray) (hs:s.size≤100000):(digs BW (bnum s.data.toList)).length≤100000:=by
 rw [Qib]at hs;refine Nat.le_trans ((Qaz BW_2 _ s.data.toList.length).2 ?_) hs;exact Nat.lt_of_lt_of_le (Qu7 _ _ rfl) (Nat.pow_le_pow_left (by decide) _)
theorem Zwr (a b m k:Nat) (hm:m≤a+b) (h1:(digs BW a).length≤k) (h2:(digs BW b).length≤k):(digs BW m).length≤k+1:=by
 rw [Qaz BW_2]at h1 h2 ⊢;rw [Nat.pow_succ];generalize BW^k=K at*;simp only [BW];omega
def outN (n:Int):Int:=if 65536<blen n.natAbs then 0 else n
def outE (n:Int):Int:=if 65536<blen n.natAbs then 7 else 0
theorem Qhp (n:Int):Qih n= .tup [wPV (outN n),.int .i64 (outE n)]:=by
 unfold Qih outN outE;split<;>rfl
theorem Zws (an bn:Bool) (a b:ByteArray) (h1:Qbj an a.data.toList=true) (h2:Qbj bn b.data.toList=true) (ha:a.size≤100000) (hb:b.size≤100000):Qaf Tryz.prog 73 [.agg [.bool an,.str a],.agg [.bool bn,.str b]] (Qih (wnum an a+wnum bn b)):=by
 have hL1:=Qgi a ha;have hL2:=Qgi b hb;have h:(Qbj an a.data.toList&&Qbj bn b.data.toList)=true:=by rw [h1,h2];rfl
 obtain⟨n,m,hs,e,hm⟩:=Zmr an bn (bnum a.data.toList) (bnum b.data.toList) (by omega) (by omega);have hLm:(digs BW m).length≤1000000:=by
  exact Nat.le_trans (Zwr _ _ _ _ hm hL1 hL2) (by decide)
 rw [wnum,wnum,←e];refine Qab (tb:=[]) 19 [.cell 4 93,.tmp 5] [0,1,2,3,4,5,9] mixed Tryz.func73 rfl (by kernel_rfl) (by kernel_rfl) (by kernel_rfl) (by kernel_rfl) ?_;simp -implicitDefEqProofs only [go_sem,Nat.reduceAdd,Nat.reduceMul,Nat.reduceEqDiff,Nat.reduceLT,Nat.reduceLeDiff,reduceCtorEq];refine Qah _ _ _ _ _ _ _ _ _ (Qtz an bn a b) ?_;simp -implicitDefEqProofs only [go_sem,Nat.reduceAdd,Nat.reduceMul,Nat.reduceEqDiff,Nat.reduceLT,Nat.reduceLeDiff,reduceCtorEq,h];refine Qah _ _ _ _ _ _ _ _ _ (Qox an a h1 (by omega)) ?_;simp -implicitDefEqProofs only [go_sem,Nat.reduceAdd,Nat.reduceEqDiff,Nat.reduceLT,reduceCtorEq,nP,dw];refine Qah _ _ _ _ _ _ _ _ _ (Qox bn b h2 (by omega)) ?_;simp -implicitDefEqProofs only [go_sem,Nat.reduceAdd,Nat.reduceEqDiff,Nat.reduceLT,reduceCtorEq,nP,dw];refine Qah _ _ _ _ _ _ _ _ _ hs ?_;simp -implicitDefEqProofs only [go_sem,Nat.reduceAdd,Nat.reduceEqDiff,Nat.reduceLT,reduceCtorEq,nP,dw];refine Qah _ _ _ _ _ _ _ _ _ (Qkr n m hLm) ?_;unfold Qih;split
 ·simp -implicitDefEqProofs only [go_sem,Nat.reduceAdd,Nat.reduceEqDiff,Nat.reduceLT,reduceCtorEq,Int.reduceLT,wPV];exact Qae _ _ (by kernel_rfl)
 ·simp -implicitDefEqProofs only [go_sem,Nat.reduceAdd,Nat.reduceEqDiff,Nat.reduceLT,reduceCtorEq,wPV];exact Qae _ _ (by kernel_rfl)
end Go.Proofs.YtjlkapdmgjocdaaGreat

namespace Go.Proofs.YtjlkapdmgjocdaaGreat
open Go.Vl Go.RowKit Go.Dg
end Go.Proofs.YtjlkapdmgjocdaaGreat

namespace Go.Proofs.YtjlkapdmgjocdaaGreat
open Go.Vl Go.RowKit Go.Dg
end Go.Proofs.YtjlkapdmgjocdaaGreat

namespace Go.Proofs.YtjlkapdmgjocdaaGreat
open Go.Vl Go.RowKit Go.Dg
theorem Zsw (x y:Nat) (hx:x<18446744073709551616) (hy:y<18446744073709551616):Qaf Tryz.prog 138 [.int .u64 x,.int .u64 y] (.tup [.int .u64 ((x*y/18446744073709551616:Nat):Int),.int .u64 ((x*y%18446744073709551616:Nat):Int)]):=by
 refine Qab (tb:=[]) 51 [.tmp 4,.tmp 5] [0,1,4,5,6,7,8,9,10,11,12,13] mixed Tryz.func138 rfl (by kernel_rfl) (by kernel_rfl) (by kernel_rfl) (by kernel_rfl) ?_;simp -implicitDefEqProofs only [go_sem,Nat.reduceAdd,Nat.reduceMul,Nat.reduceEqDiff,Nat.reduceLT,Nat.reduceLeDiff,reduceCtorEq,Int.reduceLT,Int.reduceToNat,Qd1,Qsq,←Int.natCast_mul,←Int.natCast_add,Zx3 hx hy]
theorem Zaz (a b:Nat):IntKind.u64.wrap ((a:Int)+(b:Int))=(((a+b)%18446744073709551616:Nat):Int):=by rw [←Int.natCast_add,Qd1]
theorem Zkb {x y o c:Nat} (hx:x<18446744073709551616) (hy:y<18446744073709551616) (ho:o<18446744073709551616) (hc:c<18446744073709551616):
  ((x*y%18446744073709551616+o)%18446744073709551616+c)%18446744073709551616=(o+c+x*y)%18446744073709551616∧
  ((x*y/18446744073709551616+(x*y%18446744073709551616+o)/18446744073709551616)%18446744073709551616+((x*y%18446744073709551616+o)%18446744073709551616+c)/18446744073709551616)%18446744073709551616=(o+c+x*y)/18446744073709551616:=by
 have h:x*y≤18446744073709551615*18446744073709551615:=Nat.mul_le_mul (by omega) (by omega);generalize x*y=p at*;omega
set_option maxRecDepth 2000 in
theorem Za0 (a b:Nat) (hab:(digs BW a).length+(digs BW b).length≤1000000000):Qaf Tryz.prog 124 [dw (digs BW a),dw (digs BW b)] (dw (digs BW (a*b))):=by
 refine Qab (tb:=[]) 80 [.tmp 4] [0,1,4,5,6,7,8,9,10,11,12,13,20,21,22,23,27,28,29,30] mixed Tryz.func124 rfl (by kernel_rfl) (by kernel_rfl) (by kernel_rfl) (by kernel_rfl) ?_;have hw0:=Qhk (a:=(digs BW a).length) (b:=(digs BW b).length) (by omega);have hn0:((0:Int)≤(((digs BW a).length+(digs BW b).length:Nat):Int))=True:=by simp only [eq_iff_iff,iff_true];omega
 have hn1:((8:Nat):Int)*(((digs BW a).length+(digs BW b).length:Nat):Int)≤281474976710656:=by omega
 have hn2:(((digs BW a).length+(digs BW b).length:Nat):Int)≤9223372036854775807:=by omega
 simp -implicitDefEqProofs only [go_sem,Nat.reduceAdd,Nat.reduceMul,Nat.reduceEqDiff,Nat.reduceLT,Nat.reduceLeDiff,reduceCtorEq,dw,List.length_map,hw0,hn0,hn1,hn2,Int.toNat_natCast];have hrep:List.replicate ((digs BW a).length+(digs BW b).length) (PV.int .u64 0)=(lows BW 0 ((digs BW a).length+(digs BW b).length)).map fW:=by rw [Qet];simp
 rw [hrep];generalize hla:(digs BW a).length=la at*;generalize hlb:(digs BW b).length=lb at*;have hblt:b<BW^lb:=by rw [←hlb];exact Qbe BW_2 b
 refine Qar mixed (fun i:{i:Nat // i≤la}=>St.of [(0,dw (digs BW a)),(1,dw (digs BW b)),(4,.nilS),(5,.bs 105 1 0 (la+lb)),(20,dw (digs BW a)),(21,.int .i64 (la:Int)),(22,.int .i64 (i.1:Int))]
  [(105,{els:=(lows BW (a%BW^i.1*b) (la+lb)).map fW,esz:=1,ety:=130,fro:=0,live:=true,arr:=true})]) (fun i=>la-i.1) ⟨0,Nat.zero_le _⟩ ?_ ?_
 ·refine Qaj (θ:=[(105,105)]) rfl ?_ ?_
  ·simp [Qac,lkp,ren1,ren0,dw]
  ·simp [Qax,lkp,Box.renames,Nat.mod_one]
 ·rintro⟨i,hi⟩;by_cases hA:i<la
  ·have hA':((i:Int)<(la:Int))=True:=by simp;omega
   have h0:(0≤(i:Int))=True:=by simp
   have hga:=Qa0 BW_2 (show i<(digs BW a).length by omega);simp -implicitDefEqProofs only [go_sem,Nat.reduceAdd,Nat.reduceMul,Nat.reduceEqDiff,Nat.reduceLT,Nat.reduceLeDiff,reduceCtorEq,dw,List.length_map,hlb,hA',h0,Qci,hga,Int.toNat_natCast];generalize hS:a%BW^i*b=S at*;generalize hx:a/BW^i%BW=x at*;have hxl:x<BW:=by rw [←hx];exact Nat.mod_lt _ (by decide)
   refine Qar mixed (fun k:{k:Nat // k≤lb}=>St.of [(0,dw (digs BW a)),(1,dw (digs BW b)),(4,.nilS),(5,.bs 105 1 0 (la+lb)),(6,.int .i64 (i:Int)),(7,.int .u64 (x:Int)),(8,.int .u64 (mulC BW S x i b k.1:Int)),(20,dw (digs BW a)),(21,.int .i64 (la:Int)),(22,.int .i64 (i:Int)),(27,dw (digs BW b)),(28,.int .i64 (lb:Int)),(29,.int .i64 (k.1:Int))]
    [(105,{els:=(mix BW (mulV BW S x i b k.1) S (la+lb) (i+k.1)).map fW,esz:=1,ety:=130,fro:=0,live:=true,arr:=true})]) (fun k=>lb-k.1) ⟨0,Nat.zero_le _⟩ ?_ ?_
   ·refine Qaj (θ:=[(105,105)]) rfl ?_ ?_
    ·simp [Qac,lkp,ren1,ren0,dw,Qs4]
    ·simp only [Qax,lkp,Box.renames,Qs2,Nat.add_zero,and_self,and_true,true_and,if_true];rw [Qgq (by decide) rfl];exact .inl rfl
   ·rintro⟨k,hk⟩;have hcl:=Znb (B:=BW) (S:=S) (i:=i) (b:=b) (k:=k) (by decide) hxl;have hk0:(0≤(k:Int))=True:=by simp
    have hml:=Qbp (B:=BW) (mulV BW S x i b k) S (la+lb) (i+k);have hwik:=Qhk (a:=i) (b:=k) (by omega);have hik0:((0:Int)≤((i+k:Nat):Int))=True:=by simp only [eq_iff_iff,iff_true];omega
    by_cases hB:k<lb
    ·have hB':((k:Int)<(lb:Int))=True:=by simp;omega
     have hgb:=Qa0 BW_2 (show k<(digs BW b).length by omega);have hwk:=Qan (a:=k) (by omega);have hin:i+k<la+lb:=by omega
     have hin':(((i+k:Nat):Int)<((la+lb:Nat):Int))=True:=by simp only [eq_iff_iff,iff_true];omega
     have hget:((mix BW (mulV BW S x i b k) S (la+lb) (i+k)).map fW)[i+k]? =some (PV.int .u64 ((S/BW^(i+k)%BW:Nat):Int)):=by rw [List.getElem?_map,Qdu _ _ _ _ _ hin,if_neg (Nat.lt_irrefl _)];rfl
     have hset:=Qew (B:=BW) (S:=S) (by decide) hin (Zdd (B:=BW) S x i b k) rfl;obtain⟨hs1,hs2⟩:=Qyl (B:=BW) (by decide) S x i b k;have hd1:S/BW^(i+k)%BW<BW:=Nat.mod_lt _ (by decide);have hd2:b/BW^k%BW<BW:=Nat.mod_lt _ (by decide);generalize S/BW^(i+k)%BW=o at*;generalize b/BW^k%BW=y at*;generalize mulC BW S x i b k=c at*;obtain⟨m1,m2⟩:=Zkb hxl hd2 hd1 hcl;rw [hs1]at m1;rw [hs2]at m2;simp -implicitDefEqProofs only [go_sem,Nat.reduceAdd,Nat.reduceMul,Nat.reduceEqDiff,Nat.reduceLT,Nat.reduceLeDiff,reduceCtorEq,dw,hB',hk0,Qci,hgb,Int.toNat_natCast];refine Qah _ _ _ _ _ _ _ _ _ (Zsw x y hxl hd2) ?_;simp -implicitDefEqProofs only [go_sem,Nat.reduceAdd,Nat.reduceMul,Nat.reduceEqDiff,Nat.reduceLT,Nat.reduceLeDiff,reduceCtorEq,hwik,hik0,hin',hget,Int.toNat_natCast];refine Qah _ _ _ _ _ _ _ _ _ (Qrl (x*y%18446744073709551616) o 0 (by decide)) ?_;simp -implicitDefEqProofs only [go_sem,Nat.reduceAdd,Nat.reduceMul,Nat.reduceEqDiff,Nat.reduceLT,Nat.reduceLeDiff,reduceCtorEq,Zaz];refine Qah _ _ _ _ _ _ _ _ _ (Qrl ((x*y%18446744073709551616+o)%18446744073709551616) c 0 (by decide)) ?_;simp -implicitDefEqProofs only [go_sem,Nat.reduceAdd,Nat.reduceMul,Nat.reduceEqDiff,Nat.reduceLT,Nat.reduceLeDiff,reduceIte,reduceCtorEq,Zaz,m1,m2,hwik,hik0,hin',hget,Int.toNat_natCast,hwk,Qc8,hset];refine⟨⟨k+1,hB⟩,by simp only;omega,Qaj (θ:=[(105,105)]) rfl ?_ ?_⟩
     ·simp [Qac,lkp,ren1,ren0,dw]
     ·simp [Qax,lkp,Box.renames,Nat.add_assoc]
    ·have hB':((k:Int)<(lb:Int))=False:=by simp;omega
     obtain rfl:k=lb:=by omega
     have hwi:=Qan (a:=i) (by omega);have hin:i+k<la+k:=by omega
     have hin':(((i+k:Nat):Int)<((la+k:Nat):Int))=True:=by simp only [eq_iff_iff,iff_true];omega
     obtain⟨e,hget⟩: ∃e:Nat,((mix BW (mulV BW S x i b k) S (la+k) (i+k)).map fW)[i+k]? =some (PV.int .u64 (e:Int)):=⟨_,by rw [List.getElem?_map,Qdu _ _ _ _ _ hin];rfl⟩;have hV:mulV BW S x i b k=a%BW^(i+1)*b:=by rw [←hS,←hx];exact Q4m a i b k hblt
     have hS0:S/BW^(i+k)=0:=by
      rw [←hS];refine Nat.div_eq_of_lt ?_;have h1:=Nat.mod_lt a (Nat.pow_pos (n:=i) (show 0<BW by decide));rw [Nat.pow_add];rcases Nat.eq_zero_or_pos b with rfl|hb
      ·rw [Nat.mul_zero];exact Nat.mul_pos (Nat.pow_pos (by decide)) (Nat.pow_pos (by decide))
      ·exact Nat.lt_of_lt_of_le (Nat.mul_lt_mul_of_pos_right h1 hb) (Nat.mul_le_mul_left _ (Nat.le_of_lt hblt))
     have hC:=Qqz (B:=BW) S x i b k;rw [hS0,Nat.add_zero]at hC;have hdig:mulV BW S x i b k/BW^(i+k)%BW=mulC BW S x i b k:=by rw [←hC,Nat.mod_eq_of_lt hcl]
     have hset:=Qew (B:=BW) (V:=mulV BW S x i b k) (W:=mulV BW S x i b k) (S:=S) (n:=la+k) (m:=i+k) (by decide) hin rfl hdig;have hmx:=Qgq (B:=BW) (V:=mulV BW S x i b k) (S:=S) (n:=la+k) (m:=i+k+1) (by decide) (by
      rw [Nat.pow_succ,←Nat.div_div_eq_div_mul,←Nat.div_div_eq_div_mul,hS0,←hC,Nat.div_eq_of_lt hcl,Nat.zero_div])
     rw [hmx,hV]at hset;rw [hV]at hml hget;simp -implicitDefEqProofs only [go_sem,Nat.reduceAdd,Nat.reduceMul,Nat.reduceEqDiff,Nat.reduceLT,Nat.reduceLeDiff,reduceIte,reduceCtorEq,dw,List.length_map,hlb,hB',hwik,hik0,hin',hml,hget,hV,Int.toNat_natCast,hwi,Qc8,hset];refine⟨⟨i+1,hA⟩,by simp only;omega,Qaj (θ:=[(105,105)]) rfl ?_ ?_⟩
     ·simp [Qac,lkp,ren1,ren0,dw]
     ·simp [Qax,lkp,Box.renames]
  ·have hA':((i:Int)<(la:Int))=False:=by simp;omega
   have hlt:a<BW^i:=(Qaz BW_2 a i).1 (by omega);have hil:i=la:=by omega
   have hll:=Qak (B:=BW) (a%BW^i*b) (la+lb);have htk:((lows BW (a%BW^i*b) (la+lb)).map fW).take (la+lb)=(lows BW (a%BW^i*b) (la+lb)).map fW:=List.take_of_length_le (by simp [hll]);simp -implicitDefEqProofs only [go_sem,Nat.reduceAdd,Nat.reduceMul,Nat.reduceEqDiff,Nat.reduceLT,Nat.reduceLeDiff,reduceIte,reduceCtorEq,dw,List.length_map,hA',hll,htk];refine Qah _ _ _ _ _ _ _ _ _ (Qdo (lows BW (a%BW^i*b) (la+lb)) (by rw [hll];simp [maxLen];omega)) ?_;simp -implicitDefEqProofs only [go_sem,Nat.reduceAdd,Nat.reduceEqDiff,Nat.reduceLT,reduceCtorEq,dw];rw [Qb6 BW_2,Nat.mod_eq_of_lt hlt,Nat.mod_eq_of_lt];rw [Nat.pow_add,←hil];rcases Nat.eq_zero_or_pos b with rfl|hb
   ·rw [Nat.mul_zero];exact Nat.mul_pos (Nat.pow_pos (by decide)) (Nat.pow_pos (by decide))
   ·exact Nat.lt_of_lt_of_le (Nat.mul_lt_mul_of_pos_right hlt hb) (Nat.mul_le_mul_left _ (Nat.le_of_lt hblt))
end Go.Proofs.YtjlkapdmgjocdaaGreat

namespace Go.Dg
theorem Qe7 (r:Nat) (hr:r≤64):WB=2^r*2^(64-r):=by
 rw [←Nat.pow_add,show r+(64-r)=64 by omega]
theorem Qvd (x r:Nat) (hr:r≤64):x*2^r%WB=2^r*(x%2^(64-r)):=by
 rw [Qe7 r hr,Nat.mul_comm x,Nat.mul_mod_mul_left]
theorem Qsv (x c r:Nat) (hr:r≤64) (hc:c<2^r):(c ||| (x*2^r%WB))=(c+x*2^r)%WB∧(c+x*2^r)/WB=x/2^(64-r):=by
 have e1:=Qvd x r hr;have e2:(x*2^r)/WB=x/2^(64-r):=by
  rw [Qe7 r hr,Nat.mul_comm x,Nat.mul_div_mul_left _ _ (Nat.pow_pos (by decide))]
 have hlt:2^r*(x%2^(64-r))+c<WB:=by
  have h1:x%2^(64-r)<2^(64-r):=Nat.mod_lt _ (Nat.pow_pos (by decide));rw [Qe7 r hr];have:2^r*(x%2^(64-r))+2^r≤2^r*2^(64-r):=by
   rw [←Nat.mul_succ];exact Nat.mul_le_mul_left _ h1
  omega
 have e3:c+x*2^r=WB*(x/2^(64-r))+(2^r*(x%2^(64-r))+c):=by
  have:=Nat.div_add_mod (x*2^r) WB;rw [e1,e2]at this;omega
 constructor
 ·rw [e1,e3,Nat.mul_add_mod,Nat.mod_eq_of_lt hlt,Nat.or_comm,Nat.two_pow_add_eq_or_of_lt hc]
 ·rw [e3,Nat.mul_add_div (by decide),Nat.div_eq_of_lt hlt,Nat.add_zero]
def shlV (a w r i:Nat):Nat:=a%WB^i*2^r*WB^w
def shlC (a r i:Nat):Nat:=a%WB^i*2^r/WB^i
theorem Qmp (a r i:Nat):shlC a r i<2^r:=by
 rw [shlC,Nat.div_lt_iff_lt_mul (Nat.pow_pos (by decide)),Nat.mul_comm];exact Nat.mul_lt_mul_of_pos_left (Nat.mod_lt _ (Nat.pow_pos (by decide))) (Nat.pow_pos (by decide))
theorem WBp (i:Nat):0<WB^i:=Nat.pow_pos (by decide)
theorem Ql2 (a w r i:Nat):shlV a w r i/WB^(i+w)=shlC a r i:=by
 rw [shlV,shlC,Nat.add_comm i w,Nat.pow_add,←Nat.div_div_eq_div_mul,Nat.mul_div_cancel _ (WBp w)]
theorem Qsw (a w r i:Nat):shlV a w r (i+1)=shlV a w r i+a/WB^i%WB*2^r*WB^(i+w):=by
 rw [shlV,shlV,Nat.pow_succ,Nat.mod_mul,Nat.add_mul,Nat.add_mul,Nat.pow_add];congr 1;simp only [Nat.mul_assoc,Nat.mul_comm,Nat.mul_left_comm]
theorem Qk7 (a w r i:Nat):shlV a w r (i+1)/WB^(i+w)=shlC a r i+a/WB^i%WB*2^r:=by
 rw [Qsw,Nat.add_mul_div_right _ _ (WBp _),Ql2]
theorem Qye (a w r i:Nat):shlV a w r i%WB^(i+w)=shlV a w r (i+1)%WB^(i+w):=by
 rw [Qsw,Nat.add_mul_mod_self_right]
theorem Q33 (a w r:Nat):shlV a w r 0=0:=by simp [shlV,Nat.mod_one]
theorem Q34 (a w r i:Nat) (h:a<WB^i):shlV a w r i=a*2^(64*w+r):=by
 rw [shlV,Nat.mod_eq_of_lt h,Nat.pow_add,Nat.pow_mul,show(2:Nat)^64=WB from rfl];simp only [Nat.mul_assoc,Nat.mul_comm,Nat.mul_left_comm]
theorem Qyf (B V S n m:Nat) (hB:0<B) (h:V%B^m=S%B^m):mix B V S n m=lows B S n:=by
 apply List.map_congr_left;intro j _;split
 ·rename_i hj;exact Qmy hB h hj
 ·rfl
theorem Q35 {V W n j d:Nat} (hj:j<n) (h:V%WB^j=W%WB^j) (hd:W/WB^j%WB=d) (hu:W/WB^(j+1)=V/WB^(j+1)):(lows WB V n).set j d=lows WB W n:=by
 rw [←Qyf WB W V n j (by decide) h.symm,Qew (V:=W) (W:=W) (by decide) hj rfl hd,Qgq (by decide) hu]
theorem Q36 {V W n j d e:Nat} (hj:j+1<n) (h:V%WB^j=W%WB^j) (hd:W/WB^j%WB=d) (he:W/WB^(j+1)%WB=e) (hu:W/WB^(j+1+1)=V/WB^(j+1+1)):
  ((lows WB V n).set j d).set (j+1) e=lows WB W n:=by
 rw [←Qyf WB W V n j (by decide) h.symm,Qew (V:=W) (W:=W) (by decide) (by omega) rfl hd,Qew (V:=W) (W:=W) (by decide) hj rfl he,Qgq (by decide) hu]
theorem Zc3 (a w i n:Nat) (hj:i+w<n):
  (lows WB (shlV a w 0 i) n).set (i+w) (a/WB^i%WB)=lows WB (shlV a w 0 (i+1)) n:=by
 have hc:shlC a 0 i=0:=by have:=Qmp a 0 i;simp at this;exact this
 have h2:=Qk7 a w 0 i;rw [hc,Nat.pow_zero,Nat.mul_one,Nat.zero_add]at h2;have h1:=Ql2 a w 0 i;rw [hc]at h1;refine Q35 hj (Qye a w 0 i) (by rw [h2,Nat.mod_mod]) ?_;rw [Nat.pow_succ,←Nat.div_div_eq_div_mul,←Nat.div_div_eq_div_mul,h1,h2,Nat.zero_div,Nat.div_eq_of_lt (Nat.mod_lt _ (by decide))]
theorem Zc4 (a w r i n:Nat) (hr:r≤64) (hj:i+w+1<n):
  ((lows WB (shlV a w r i) n).set (i+w) (shlC a r i ||| (a/WB^i%WB*2^r%WB))).set (i+w+1) (a/WB^i%WB/2^(64-r))=lows WB (shlV a w r (i+1)) n:=by
 have hc:=Qmp a r i;have h2:=Qk7 a w r i;have h1:=Ql2 a w r i;obtain⟨e1,e2⟩:=Qsv (a/WB^i%WB) (shlC a r i) r hr hc;have hx:a/WB^i%WB<WB:=Nat.mod_lt _ (by decide);have hx2:a/WB^i%WB/2^(64-r)<WB:=Nat.lt_of_le_of_lt (Nat.div_le_self _ _) hx;have hc2:shlC a r i<WB:=Nat.lt_of_lt_of_le hc (Nat.pow_le_pow_right (n:=2) (by decide) hr);rw [e1];refine Q36 hj (Qye a w r i) (by rw [h2]) ?_ ?_
 ·rw [Nat.pow_succ,←Nat.div_div_eq_div_mul,h2,e2,Nat.mod_eq_of_lt hx2]
 ·rw [Nat.pow_succ,Nat.pow_succ,←Nat.div_div_eq_div_mul,←Nat.div_div_eq_div_mul,←Nat.div_div_eq_div_mul,←Nat.div_div_eq_div_mul,h1,h2,e2,Nat.div_eq_of_lt hx2,Nat.div_eq_of_lt hc2,Nat.zero_div]
theorem Q37 (A i r:Nat) (h0:0<r) (hr:r<64):((A/WB^i%WB/2^r) ||| (A/WB^(i+1)%WB*2^(64-r)%WB))=A/2^r/WB^i%WB:=by
 have e0:A/WB^(i+1)=A/WB^i/WB:=by rw [Nat.pow_succ,Nat.div_div_eq_div_mul]
 have e1:A/2^r/WB^i=A/WB^i/2^r:=by rw [Nat.div_div_eq_div_mul,Nat.div_div_eq_div_mul,Nat.mul_comm]
 rw [e0,e1];generalize A/WB^i=X;have hlt:X%WB/2^r<2^(64-r):=by
  rw [Nat.div_lt_iff_lt_mul (Nat.pow_pos (by decide)),Nat.mul_comm,←Qe7 r (by omega)];exact Nat.mod_lt _ (by decide)
 obtain⟨s1,_⟩:=Qsv (X/WB%WB) (X%WB/2^r) (64-r) (by omega) hlt;rw [s1];have hX:X=WB*(X/WB)+X%WB:=(Nat.div_add_mod X WB).symm;have hS:=Qe7 r (by omega);have e2:X/2^r=2^(64-r)*(X/WB)+X%WB/2^r:=by
  conv=>lhs;rw [hX,hS,Nat.mul_assoc]
  rw [Nat.mul_add_div (Nat.pow_pos (by decide)),←hS]
 rw [e2,Nat.mul_comm (2^(64-r)) (X/WB),Nat.add_comm];have hm:(X/WB%WB)*2^(64-r)%WB=X/WB*2^(64-r)%WB:=by rw [Nat.mod_mul_mod]
 rw [Nat.add_mod,hm,←Nat.add_mod]
theorem Zm1 (A i r:Nat) (h:A/WB^(i+1)=0):A/WB^i%WB/2^r=A/2^r/WB^i%WB:=by
 have e1:A/2^r/WB^i=A/WB^i/2^r:=by rw [Nat.div_div_eq_div_mul,Nat.div_div_eq_div_mul,Nat.mul_comm]
 have hlt:A/WB^i<WB:=by
  rw [Nat.pow_succ,←Nat.div_div_eq_div_mul]at h;exact(Nat.div_eq_zero_iff_lt (by decide)).1 h
 rw [e1,Nat.mod_eq_of_lt hlt,Nat.mod_eq_of_lt (Nat.lt_of_le_of_lt (Nat.div_le_self _ _) hlt)]
section
variable {y1 y0 u d q r:Nat}
structure Guess (y1 y0 u d q r:Nat):Prop where
 part:q*y1+r=u
 big:(u*4294967296+d)/(y1*4294967296+y0)≤q
theorem Qve (hy1:2147483648≤y1) (hu:u<y1*4294967296+y0) (hd:d<4294967296):Guess y1 y0 u d (u/y1) (u%y1):=by
 refine⟨by rw [Nat.mul_comm];exact Nat.div_add_mod u y1,?_⟩;have h1:(u*4294967296+d)/(y1*4294967296+y0)≤(u*4294967296+d)/(y1*4294967296):=Nat.div_le_div_left (by omega) (by omega);have h2:(u*4294967296+d)/(y1*4294967296)=u/y1:=by
  rw [Nat.mul_comm y1,←Nat.div_div_eq_div_mul];congr 1;omega
 omega
theorem Qpe (h:Guess y1 y0 u d q r):(r*4294967296+d<q*y0↔u*4294967296+d<q*(y1*4294967296+y0)):=by
 have e:q*(y1*4294967296+y0)=q*y1*4294967296+q*y0:=by rw [Nat.mul_add,Nat.mul_assoc]
 have:=h.part;rw [e];omega
theorem Q0f (h:Guess y1 y0 u d q r) (hy:0<y1*4294967296+y0) (hq:(u*4294967296+d)<q*(y1*4294967296+y0)):0<q∧Guess y1 y0 u d (q-1) (r+y1):=by
 have hq0:0<q:=by
  rcases Nat.eq_zero_or_pos q with rfl|h
  ·omega
  ·exact h
 refine⟨hq0,?_,?_⟩
 ·obtain⟨p,rfl⟩: ∃p,q=p+1:=⟨q-1,by omega⟩;have:=h.part;rw [Nat.add_mul]at this;simp only [Nat.add_sub_cancel];omega
 ·have:=(Nat.div_lt_iff_lt_mul hy).2 hq;omega
theorem Qpf (h:Guess y1 y0 u d q r) (hy:0<y1*4294967296+y0) (hq:q*(y1*4294967296+y0)≤u*4294967296+d):q=(u*4294967296+d)/(y1*4294967296+y0):=
 Nat.le_antisymm ((Nat.le_div_iff_mul_le hy).2 hq) h.big
theorem Qvf (hu:u<y1*4294967296+y0) (h:Guess y1 y0 u d q r) (hq:4294967296≤q):r<y0∧r<4294967296+y0:=by
 have h1:=Nat.mul_le_mul_right y1 hq;have h2:=h.part;omega
theorem Q0g (hu:u<y1*4294967296+y0) (hd:d<4294967296):(u*4294967296+d)/(y1*4294967296+y0)<4294967296:=by
 have:0<y1*4294967296+y0:=by omega
 rw [Nat.div_lt_iff_lt_mul this];omega
end
end Go.Dg

namespace Go.Dg
section
variable {B:Nat}
theorem Zc5 (hB:0<B) (R D j:Nat) (hD:0<D):R%(D*B^(j+1))/B^j/D=R/D/B^j%B:=by
 rw [Nat.div_div_eq_div_mul,Nat.div_div_eq_div_mul,Nat.mul_comm (B^j) D,Nat.pow_succ,←Nat.mul_assoc,Nat.mod_mul_right_div_self]
theorem Zm2 (R D j:Nat):R%(D*B^(j+1))%(D*B^j)=R%(D*B^j):=by
 rw [Nat.pow_succ,←Nat.mul_assoc,Nat.mod_mul_right_mod]
theorem Zc6 (hB:0<B) (S D j:Nat) (hD:0<D):S%(D*B^j)/B^j=S/B^j%D:=by
 rw [Nat.mul_comm,Nat.mod_mul_right_div_self]
theorem Zc7 (hB:0<B) (S D j:Nat):S%(D*B^j)%B^j=S%B^j:=by
 rw [Nat.mul_comm,Nat.mod_mul_right_mod]
theorem Q0h (hB:0<B) (W d k:Nat) (ht:0<d/B^k):W/d≤W/B^k/(d/B^k):=by
 have h1:d/B^k*B^k≤d:=Nat.div_mul_le_self d (B^k);have h2:W/d≤W/(B^k*(d/B^k)):=Nat.div_le_div_left (by rw [Nat.mul_comm];exact h1) (Nat.mul_pos (Nat.pow_pos hB) ht)
 rwa [←Nat.div_div_eq_div_mul]at h2
theorem Zm3 (hB:0<B) (W k:Nat):W/B^k=W/B^(k+1)*B+W/B^k%B:=by
 have:=Qi1 hB W k;rw [Nat.mul_comm]at this;exact this
theorem Q38 (hB:0<B) {V W n j:Nat} {x:List Nat} (hj:j+x.length≤n) (h:V%B^j=W%B^j) (hx:x=lows B (W/B^j) x.length) (hu:W/B^(j+x.length)=V/B^(j+x.length)):
  (lows B V n).take j++x++(lows B V n).drop (j+x.length)=lows B W n:=by
 apply List.ext_getElem?;intro i;by_cases h1:i<n
 ·rw [Qbv _ _ _ h1];by_cases h2:i<j
  ·rw [List.append_assoc,List.getElem?_append_left (by simp [Qak];omega),List.getElem?_take_of_lt h2,Qbv _ _ _ h1,Qmy hB h h2]
  ·by_cases h3:i<j+x.length
   ·rw [List.append_assoc,List.getElem?_append_right (by simp [Qak];omega),List.getElem?_append_left (by simp [Qak];omega)];have e:i-((lows B V n).take j).length=i-j:=by simp [Qak];omega
    rw [e,hx,Qbv _ _ _ (by omega),Nat.div_div_eq_div_mul,←Nat.pow_add,show j+(i-j)=i by omega]
   ·rw [List.getElem?_append_right (by simp [Qak];omega),List.getElem?_drop];have e:j+x.length+(i-((lows B V n).take j++x).length)=i:=by simp [Qak];omega
    rw [e,Qbv _ _ _ h1];have e2:i=(j+x.length)+(i-(j+x.length)):=by omega
    rw [e2,Nat.pow_add,←Nat.div_div_eq_div_mul,←Nat.div_div_eq_div_mul,hu]
 ·rw [List.getElem?_eq_none (by simp [Qak];omega),List.getElem?_eq_none (by rw [Qak];omega)]
end
theorem Qiv (hB:2≤18446744073709551616) (n i:Nat) (h:(digs WB n).length≤i):digs WB n++List.replicate (i-(digs WB n).length) 0=lows WB n i:=by
 apply List.ext_getElem?;intro k;by_cases h1:k<i
 ·rw [Qbv _ _ _ h1];by_cases h2:k<(digs WB n).length
  ·rw [List.getElem?_append_left h2,Qa0 hB h2]
  ·rw [List.getElem?_append_right (by omega),Qck hB (Nat.le_of_not_lt h2),Nat.zero_mod,List.getElem?_replicate,if_pos (by omega)]
 ·rw [List.getElem?_eq_none (by simp;omega),List.getElem?_eq_none (by rw [Qak];omega)]
theorem Qmq (B V n j k:Nat) (h:j+k≤n):((lows B V n).drop j).take k=lows B (V/B^j) k:=by
 apply List.ext_getElem?;intro i;by_cases h1:i<k
 ·rw [List.getElem?_take_of_lt h1,List.getElem?_drop,Qbv _ _ _ (by omega),Qbv _ _ _ h1,Nat.div_div_eq_div_mul,←Nat.pow_add]
 ·rw [List.getElem?_eq_none (by simp;omega),List.getElem?_eq_none (by rw [Qak];omega)]
end Go.Dg

namespace Go.Dg
section
variable {y u d q r:Nat}
structure Kn (y u d q r:Nat):Prop where
 g:Guess (y/4294967296) (y%4294967296) u d q r
 small:r<4294967296
theorem Qeu (y:Nat):y/4294967296*4294967296+y%4294967296=y:=by omega
theorem Ql3 (h1:9223372036854775808≤y) (h2:y<18446744073709551616) (hu:u<y) (hd:d<4294967296):Kn y u d (u/(y/4294967296)) (u%(y/4294967296)):=by
 refine⟨Qve (by omega) (by omega) hd,?_⟩;have:=Nat.mod_lt u (show 0<y/4294967296 by omega);omega
theorem kn_q (h1:9223372036854775808≤y) (h2:y<18446744073709551616) (hu:u<y) (h:Kn y u d q r):q≤4294967297:=by
 rcases Nat.lt_or_ge q 4294967298 with h'|h'
 ·omega
 ·have h3:=h.g.part;have h4:=Nat.mul_le_mul_right (y/4294967296) h';omega
theorem Qqj (h:Kn y u d q r):(r*4294967296+d<q*(y%4294967296))↔u*4294967296+d<q*y:=by
 have:=Qpe h.g
 rwa [Qeu]at this
theorem Qqk (h1:9223372036854775808≤y) (hu:u<y) (h:Kn y u d q r) (hq:u*4294967296+d<q*y):0<q∧Guess (y/4294967296) (y%4294967296) u d (q-1) (r+y/4294967296):=by
 have:=Q0f h.g (by rw [Qeu];omega) (by rw [Qeu];exact hq);exact this
theorem Ql4 (h1:9223372036854775808≤y) (hu:u<y) (hd:d<4294967296) (h:Guess (y/4294967296) (y%4294967296) u d q r) (hr:4294967296≤r):q=(u*4294967296+d)/y:=by
 have hlt:q<4294967296:=by
  rcases Nat.lt_or_ge q 4294967296 with h'|h'
  ·exact h'
  ·have:=(Qvf (by rw [Qeu];exact hu) h h').1;omega
 have:=Qpf h (by rw [Qeu];omega) (by
  have h3: ¬(r*4294967296+d<q*(y%4294967296)):=by
   have:q*(y%4294967296)≤4294967295*4294967295:=Nat.mul_le_mul (by omega) (by omega);omega
  rw [Qpe h]at h3;omega)
 rwa [Qeu]at this
theorem Qql (h1:9223372036854775808≤y) (h:Kn y u d q r) (hq: ¬u*4294967296+d<q*y):q=(u*4294967296+d)/y:=by
 have:=Qpf h.g (by rw [Qeu];omega) (by rw [Qeu];omega)
 rwa [Qeu]at this
theorem Qkb (hu:u<y) (hd:d<4294967296):(u*4294967296+d)/y<4294967296:=by
 have:=Q0g (y1:=y/4294967296) (y0:=y%4294967296) (by rw [Qeu];exact hu) hd
 rwa [Qeu]at this
end
theorem Q0i {hi lo y s:Nat} (hs:s≤64) (hlo:lo<18446744073709551616) (hhi:hi<y) (hy:0<y):
  let Y:=y*2^s
  let u:=hi*2^s+lo/2^(64-s)
  let t:=lo*2^s%18446744073709551616
  let a:=u*4294967296+t/4294967296
  let b:=a%Y*4294967296+t%4294967296
  a/Y*4294967296+b/Y=(hi*18446744073709551616+lo)/y∧b%Y/2^s=(hi*18446744073709551616+lo)%y:=by
 intro Y u t a b;have hp:0<2^s:=Nat.pow_pos (by decide);have hY:0<Y:=Nat.mul_pos hy hp;have e1:(hi*18446744073709551616+lo)*2^s=u*18446744073709551616+t:=by
  have hd:lo*2^s/18446744073709551616=lo/2^(64-s):=by
   have:=Qe7 s hs;simp only [WB]at this;rw [this,Nat.mul_comm lo,Nat.mul_div_mul_left _ _ hp]
  have:=Nat.div_add_mod (lo*2^s) 18446744073709551616;rw [hd]at this;simp only [u,t];rw [Nat.add_mul,Nat.mul_right_comm];generalize hi*2^s=p at*;omega
 have e2:(hi*18446744073709551616+lo)*2^s=a*4294967296+t%4294967296:=by
  rw [e1];simp only [a];omega
 have e3:(hi*18446744073709551616+lo)*2^s=Y*(a/Y*4294967296+b/Y)+b%Y:=by
  have h3:=Nat.div_add_mod a Y;have h4:=Nat.div_add_mod b Y;rw [e2,Nat.mul_add,←Nat.mul_assoc];simp only [b]at h4 ⊢;omega
 have hb:b%Y<Y:=Nat.mod_lt _ hY;have e4:(hi*18446744073709551616+lo)*2^s/Y=a/Y*4294967296+b/Y:=by
  rw [e3,Nat.mul_add_div hY,Nat.div_eq_of_lt hb,Nat.add_zero]
 have e5:(hi*18446744073709551616+lo)*2^s%Y=b%Y:=by
  rw [e3,Nat.mul_add_mod,Nat.mod_eq_of_lt hb]
 constructor
 ·rw [←e4];exact Nat.mul_div_mul_right _ _ hp
 ·rw [←e5,Nat.mul_mod_mul_right,Nat.mul_div_cancel _ hp]
end Go.Dg

namespace Go.Proofs.YtjlkapdmgjocdaaGreat
open Go.Vl Go.RowKit Go.Dg
theorem Qww (a b:Nat):Int.tdiv (a:Int) (b:Int)=((a/b:Nat):Int):=rfl
theorem Zwt (a b:Nat):Int.tmod (a:Int) (b:Int)=((a%b:Nat):Int):=rfl
theorem Zsx (y:Nat):y<2^blen y:=by
 rcases Nat.lt_or_ge y (2^blen y)with h|h
 ·exact h
 ·have:=Qmm _ _ h;omega
theorem Zsy {y:Nat} (h:0<y):2^(blen y-1)≤y∧0<blen y:=by
 have h0:0<blen y:=Qmm 0 y (by rw [Nat.pow_zero];omega);refine⟨?_,h0⟩;rcases Nat.lt_or_ge y (2^(blen y-1))with h1|h1
 ·have:=Qds _ _ h1;omega
 ·exact h1
attribute [local go_sem high] Zkl
theorem Qb3 (n:Int):IntKind.u64.wrap n=n%18446744073709551616:=by simp [IntKind.wrap,IntKind.bits,IntKind.signed]
theorem Qns {n:Nat} (h:n<18446744073709551616):IntKind.u64.wrap (n:Int)=n:=by rw [Qd1,Nat.mod_eq_of_lt h]
theorem Za1 (u y:Nat) (h:u<18446744073709551616):IntKind.u64.wrap ((u:Int)-IntKind.u64.wrap (((u/y:Nat):Int)*(y:Int)))=((u%y:Nat):Int):=by
 have h:=Nat.div_add_mod u y;rw [←Int.natCast_mul,Nat.mul_comm (u/_)];generalize y*(u/y)=p at*;generalize u%y=r at*;rw [Qb3,Qb3];omega
theorem Qze (u d Y:Nat) (hY:0<Y) (h2:Y<18446744073709551616):IntKind.u64.wrap (IntKind.u64.wrap (IntKind.u64.wrap ((u:Int)*4294967296)+(d:Int))-IntKind.u64.wrap ((((u*4294967296+d)/Y:Nat):Int)*(Y:Int)))=(((u*4294967296+d)%Y:Nat):Int):=by
 have h:=Nat.div_add_mod (u*4294967296+d) Y;have hm:=Nat.mod_lt (u*4294967296+d) hY;rw [←Int.natCast_mul,Nat.mul_comm ((u*4294967296+d)/Y)];generalize Y*((u*4294967296+d)/Y)=p at*;generalize (u*4294967296+d)%Y=r at*;rw [Qb3,Qb3,Qb3,Qb3];omega
theorem Zkc {p q:Nat} (hp:p<4294967296) (hq:q<4294967296):IntKind.u64.wrap (IntKind.u64.wrap ((p:Int)*4294967296)+(q:Int))=((p*4294967296+q:Nat):Int):=by
 rw [Qb3,Qb3];omega
theorem Qfd {p q:Nat} (hp:p<4294967296) (hq:q<4294967296):IntKind.u64.wrap ((p:Int)*(q:Int))=((p*q:Nat):Int):=by
 have:p*q≤4294967295*4294967295:=Nat.mul_le_mul (by omega) (by omega);rw [←Int.natCast_mul,Qb3];generalize p*q=n at*;omega
theorem Qrm {r:Nat} (hr:r<4294967296):IntKind.u64.wrap (4294967296*(r:Int))=((r*4294967296:Nat):Int):=by rw [Qb3];omega
theorem Qme {r d:Nat} (hr:r<4294967296) (hd:d<4294967296):IntKind.u64.wrap (((r*4294967296:Nat):Int)+(d:Int))=((r*4294967296+d:Nat):Int):=by rw [Qb3];omega
theorem Qrn {q:Nat} (h0:0<q) (h:q≤4294967297):IntKind.u64.wrap ((q:Int)-1)=((q-1:Nat):Int):=by rw [Qb3];omega
theorem Qro {r y:Nat} (h0:r<4294967296) (h:y<4294967296):IntKind.u64.wrap ((r:Int)+(y:Int))=((r+y:Nat):Int):=by rw [Qb3];omega
theorem m32:(2:Nat)^min 32 64=4294967296:=rfl
set_option maxHeartbeats 2000000 in
theorem Za2 (hi lo y:Nat) (hy:hi<y) (hyl:y<18446744073709551616) (hlo:lo<18446744073709551616):Qaf Tryz.prog 123 [.int .u64 (hi:Int),.int .u64 (lo:Int),.int .u64 (y:Int)] (.tup [.int .u64 (((hi*18446744073709551616+lo)/y:Nat):Int),.int .u64 (((hi*18446744073709551616+lo)%y:Nat):Int)]):=by
 have g1:(((y:Nat):Int)==0)=false:=by simp only [beq_eq_false_iff_ne,ne_eq];omega
 have g2:(((y:Nat):Int)≤((hi:Nat):Int))=False:=by simp only [eq_iff_iff,iff_false];omega
 have g3:(((y:Nat):Int)=0)=False:=by simp only [eq_iff_iff,iff_false];omega
 by_cases h0:hi=0
 ·subst h0;have g4:((((0:Nat):Nat):Int)==0)=true:=rfl;have g5:IntKind.u64.wrap (((lo/y:Nat):Int))=((lo/y:Nat):Int):=by rw [Qd1,Nat.mod_eq_of_lt (Nat.lt_of_le_of_lt (Nat.div_le_self _ _) hlo)]
  rw [Nat.zero_mul,Nat.zero_add];refine Qab (tb:=[]) 135 [.tmp 6,.tmp 7] [0,1,2,6,7,8,9,10,11,12,13,14,15,16,17,18,20,24,27,78,85,113,120] mixed Tryz.func123 rfl (by kernel_rfl) (by kernel_rfl) (by kernel_rfl) (by kernel_rfl) ?_;simp -implicitDefEqProofs only [go_sem,Nat.reduceAdd,Nat.reduceMul,Nat.reduceEqDiff,Nat.reduceLT,Nat.reduceLeDiff,reduceCtorEq,g1,g2,g3,g4,Qww,Zwt,g5];exact Qae _ _ (by kernel_rfl)
 ·have g4:(((hi:Nat):Int)==0)=false:=by simp only [beq_eq_false_iff_ne,ne_eq];omega
  obtain⟨b1,b2⟩:=Zsy (show 0<y by omega);have b3:=Zsx y;have b4:=Qds 64 y hyl;obtain⟨s,hs⟩: ∃s,s=64-blen y:=⟨_,rfl⟩;have hs64:s<64:=by omega
  have hmin:min s 64=s:=by omega
  have hmin2:min (64-s) 64=64-s:=by omega
  obtain⟨D1,D2⟩:=Q0i (hi:=hi) (lo:=lo) (y:=y) (s:=s) (by omega) hlo hy (by omega);have hY1:9223372036854775808≤y*2^s:=by
   have:=Nat.mul_le_mul_right (2^s) b1;rw [←Nat.pow_add,show blen y-1+s=63 by omega]at this;exact this
  have hY2:y*2^s<18446744073709551616:=by
   have:=Nat.mul_lt_mul_of_pos_right b3 (show 0<2^s from Nat.pow_pos (by decide));rw [←Nat.pow_add,show blen y+s=64 by omega]at this;exact this
  have hu:hi*2^s+lo/2^(64-s)<y*2^s:=by
   have h1:lo/2^(64-s)<2^s:=by
    have:=Qe7 s (by omega);simp only [WB]at this;rw [this,Nat.mul_comm]at hlo;exact Nat.div_lt_of_lt_mul hlo
   have h2:hi*2^s+2^s≤y*2^s:=by rw [←Nat.succ_mul];exact Nat.mul_le_mul_right _ hy
   omega
  have hor:(hi*2^s%18446744073709551616%18446744073709551616 ||| lo/2^(64-s)%18446744073709551616)=hi*2^s+lo/2^(64-s):=by
   have h1:lo/2^(64-s)<2^s:=by
    have:=Qe7 s (by omega);simp only [WB]at this;rw [this,Nat.mul_comm]at hlo;exact Nat.div_lt_of_lt_mul hlo
   rw [Nat.mod_mod,Nat.mod_eq_of_lt (Nat.lt_of_le_of_lt (Nat.le_trans (Nat.le_add_right _ _) (Nat.le_of_lt hu)) hY2),Nat.mod_eq_of_lt (Nat.lt_of_le_of_lt (Nat.le_trans (Nat.le_add_left _ _) (Nat.le_of_lt hu)) hY2),Nat.mul_comm hi,Nat.two_pow_add_eq_or_of_lt h1]
  have k1:((((s:Nat):Int))<0)=False:=by simp only [eq_iff_iff,iff_false];omega
  have k2:IntKind.u64.wrap (64-((s:Nat):Int))=((64-s:Nat):Int):=by
   rw [show(64:Int)-((s:Nat):Int)=((64-s:Nat):Int)by omega,Qd1,Nat.mod_eq_of_lt (by omega)]
  have k3:((((64-s:Nat):Nat):Int)<0)=False:=by simp only [eq_iff_iff,iff_false];omega
  have k4:IntKind.u64.wrap (((64-blen y:Nat):Int))=((s:Nat):Int):=by rw [←hs,Qd1,Nat.mod_eq_of_lt (by omega)]
  have hyt:(((y*2^s/4294967296:Nat):Int)=0)=False:=by simp only [eq_iff_iff,iff_false];omega
  have k5:y*2^s%18446744073709551616=y*2^s:=Nat.mod_eq_of_lt hY2;refine Qab (tb:=[]) 135 [.tmp 6,.tmp 7] [0,1,2,6,7,8,9,10,11,12,13,14,15,16,17,18,20,24,27,78,85,113,120] mixed Tryz.func123 rfl (by kernel_rfl) (by kernel_rfl) (by kernel_rfl) (by kernel_rfl) ?_;simp -implicitDefEqProofs only [go_sem,Nat.reduceAdd,Nat.reduceMul,Nat.reduceEqDiff,Nat.reduceLT,Nat.reduceLeDiff,reduceCtorEq,g1,g2,g4];refine Qah _ _ _ _ _ _ _ _ _ (Za9 y hyl) ?_;simp -implicitDefEqProofs only [go_sem,Nat.reduceAdd,Nat.reduceMul,Nat.reduceEqDiff,Nat.reduceLT,Nat.reduceLeDiff,reduceCtorEq,Int.reduceLT,Int.reduceToNat,k4,k1,k2,k3,hmin,hmin2,Int.toNat_natCast,Qnv,Qjn,m32,Zls,k5,hor,Qww,hyt];clear g1 g2 g3 g4 k4 k5 hor b1 b2 b3 b4 hs;generalize hi*2^s+lo/2^(64-s)=u at*;generalize y*2^s=Y at*;have htl:lo*2^s%18446744073709551616<18446744073709551616:=Nat.mod_lt _ (by decide);generalize lo*2^s%18446744073709551616=t at*;have hd1:t/4294967296<4294967296:=by omega
  have hd0:t%4294967296<4294967296:=by omega
  generalize t/4294967296=d1 at*;generalize t%4294967296=d0 at*;have i5:=Qns (n:=u/(Y/4294967296)) (Nat.lt_of_le_of_lt (Nat.div_le_self _ _) (Nat.lt_trans hu hY2));have i6:=Za1 u (Y/4294967296) (Nat.lt_trans hu hY2);have l4:=Qze u d1 Y (by omega) hY2;obtain⟨v,hvd⟩: ∃v,v=(u*4294967296+d1)%Y:=⟨_,rfl⟩;have hv:v<Y:=by rw [hvd];exact Nat.mod_lt _ (by omega)
  rw [←hvd]at D1 D2 l4;have l5:=Qns (n:=v/(Y/4294967296)) (Nat.lt_of_le_of_lt (Nat.div_le_self _ _) (Nat.lt_trans hv hY2));have l6:=Za1 v (Y/4294967296) (Nat.lt_trans hv hY2);have f1:=Zkc (Qkb hu hd1) (Qkb hv hd0);have f2:=Qze v d0 Y (by omega) hY2;simp only [i5,i6];clear hvd i5 i6;refine Qar mixed (fun p:{p:Nat×Nat // Kn Y u d1 p.1 p.2}=>St.of [(2,.int .u64 ((Y:Nat):Int)),(8,.int .u64 ((s:Nat):Int)),(9,.int .u64 ((Y/4294967296:Nat):Int)),(10,.int .u64 ((Y%4294967296:Nat):Int)),(11,.int .u64 ((u:Nat):Int)),(13,.int .u64 ((d1:Nat):Int)),(14,.int .u64 ((d0:Nat):Int)),(15,.int .u64 ((p.1.1:Nat):Int)),(16,.int .u64 ((p.1.2:Nat):Int))] []) (fun p=>p.1.1) ⟨(u/(Y/4294967296),u%(Y/4294967296)),Ql3 hY1 hY2 hu hd1⟩ ?_ ?_
  ·exact Qa3 (by simp [Qac,lkp,ren1,ren0])
  ·rintro⟨⟨q,r⟩,hK⟩;have hq:=kn_q hY1 hY2 hu hK;have hr:r<4294967296:=hK.small;have ht:=Qqj hK;simp only at hq hr ht hK ⊢;have hy1:Y/4294967296<4294967296:=by omega
   have hy0:Y%4294967296<4294967296:=by omega
   have e5:=Qro hr hy1;have w1:=Qrm hr;have w2:=Qme hr hd1;by_cases hc:u*4294967296+d1<q*Y
   ·obtain⟨hq0,hG⟩:=Qqk hY1 hu hK hc;have e4:=Qrn hq0 hq;have hbig:(4294967296:Int)≤((q:Nat):Int)∨((4294967296:Int)≤((q:Nat):Int))=False∧IntKind.u64.wrap (((q:Nat):Int)*((Y%4294967296:Nat):Int))=((q*(Y%4294967296):Nat):Int):=by
     by_cases h:4294967296≤q
     ·left;omega
     ·right;exact⟨by simp only [eq_iff_iff,iff_false];omega,Qfd (by omega) hy0⟩
    have w3:(((r*4294967296+d1:Nat):Int)<((q*(Y%4294967296):Nat):Int))=True:=by
     simp only [eq_iff_iff,iff_true];have:=ht.2 hc;omega
    by_cases hbr:4294967296≤r+Y/4294967296
    ·have hbr':((4294967296:Int)≤((r+Y/4294967296:Nat):Int))=True:=by simp only [eq_iff_iff,iff_true];omega
     have hQ:=Ql4 hY1 hu hd1 hG hbr;rcases hbig with h|⟨h,w0⟩
     ·have h':((4294967296:Int)≤((q:Nat):Int))=True:=by simp only [eq_iff_iff,iff_true];exact h
      rw [hQ]at e4;simp -implicitDefEqProofs only [go_sem,Nat.reduceAdd,Nat.reduceMul,Nat.reduceEqDiff,Nat.reduceLT,Nat.reduceLeDiff,reduceCtorEq,h',e4,e5,hbr'];simp -implicitDefEqProofs only [go_sem,Nat.reduceAdd,Nat.reduceMul,Nat.reduceEqDiff,Nat.reduceLT,Nat.reduceLeDiff,reduceCtorEq,l4,Qww,hyt,l5,l6];refine Qar mixed (fun p:{p:Nat×Nat // Kn Y v d0 p.1 p.2}=>St.of [(2,.int .u64 ((Y:Nat):Int)),(8,.int .u64 ((s:Nat):Int)),(9,.int .u64 ((Y/4294967296:Nat):Int)),(10,.int .u64 ((Y%4294967296:Nat):Int)),(14,.int .u64 ((d0:Nat):Int)),(15,.int .u64 (((u*4294967296+d1)/Y:Nat):Int)),(17,.int .u64 ((v:Nat):Int)),(18,.int .u64 ((p.1.1:Nat):Int)),(16,.int .u64 ((p.1.2:Nat):Int))] []) (fun p=>p.1.1) ⟨(v/(Y/4294967296),v%(Y/4294967296)),Ql3 hY1 hY2 hv hd0⟩ ?_ ?_
      ·exact Qa3 (by simp [Qac,lkp,ren1,ren0])
      ·rintro⟨⟨q,r⟩,hK⟩;have hq:=kn_q hY1 hY2 hv hK;have hr:r<4294967296:=hK.small;have ht:=Qqj hK;simp only at hq hr ht hK ⊢;have hy1:Y/4294967296<4294967296:=by omega
       have hy0:Y%4294967296<4294967296:=by omega
       have e5:=Qro hr hy1;have w1:=Qrm hr;have w2:=Qme hr hd0;by_cases hc:v*4294967296+d0<q*Y
       ·obtain⟨hq0,hG⟩:=Qqk hY1 hv hK hc;have e4:=Qrn hq0 hq;have hbig:(4294967296:Int)≤((q:Nat):Int)∨((4294967296:Int)≤((q:Nat):Int))=False∧IntKind.u64.wrap (((q:Nat):Int)*((Y%4294967296:Nat):Int))=((q*(Y%4294967296):Nat):Int):=by
         by_cases h:4294967296≤q
         ·left;omega
         ·right;exact⟨by simp only [eq_iff_iff,iff_false];omega,Qfd (by omega) hy0⟩
        have w3:(((r*4294967296+d0:Nat):Int)<((q*(Y%4294967296):Nat):Int))=True:=by
         simp only [eq_iff_iff,iff_true];have:=ht.2 hc;omega
        by_cases hbr:4294967296≤r+Y/4294967296
        ·have hbr':((4294967296:Int)≤((r+Y/4294967296:Nat):Int))=True:=by simp only [eq_iff_iff,iff_true];omega
         have hQ:=Ql4 hY1 hv hd0 hG hbr;rcases hbig with h|⟨h,w0⟩
         ·have h':((4294967296:Int)≤((q:Nat):Int))=True:=by simp only [eq_iff_iff,iff_true];exact h
          rw [hQ]at e4;simp -implicitDefEqProofs only [go_sem,Nat.reduceAdd,Nat.reduceMul,Nat.reduceEqDiff,Nat.reduceLT,Nat.reduceLeDiff,reduceCtorEq,h',e4,e5,hbr'];simp -implicitDefEqProofs only [go_sem,Nat.reduceAdd,Nat.reduceEqDiff,Nat.reduceLT,reduceCtorEq,f1,f2,k1,hmin,Qjn];rw [←D1,←D2]
         ·rw [hQ]at e4;simp -implicitDefEqProofs only [go_sem,Nat.reduceAdd,Nat.reduceMul,Nat.reduceEqDiff,Nat.reduceLT,Nat.reduceLeDiff,reduceCtorEq,h,w0,w1,w2,w3,e4,e5,hbr'];simp -implicitDefEqProofs only [go_sem,Nat.reduceAdd,Nat.reduceEqDiff,Nat.reduceLT,reduceCtorEq,f1,f2,k1,hmin,Qjn];rw [←D1,←D2]
        ·have hbr':((4294967296:Int)≤((r+Y/4294967296:Nat):Int))=False:=by simp only [eq_iff_iff,iff_false];omega
         have next: ∃y:{p:Nat×Nat // Kn Y v d0 p.1 p.2},y.1.1<q∧y.1=(q-1,r+Y/4294967296):=⟨⟨(q-1,r+Y/4294967296),hG,by simp only;omega⟩,by simp only;omega,rfl⟩
         obtain⟨y,y1,y2⟩:=next
         rcases hbig with h|⟨h,w0⟩
         ·have h':((4294967296:Int)≤((q:Nat):Int))=True:=by simp only [eq_iff_iff,iff_true];exact h
          simp -implicitDefEqProofs only [go_sem,Nat.reduceAdd,Nat.reduceMul,Nat.reduceEqDiff,Nat.reduceLT,Nat.reduceLeDiff,reduceCtorEq,h',e4,e5,hbr'];refine⟨y,y1,Qa3 ?_⟩;simp [Qac,lkp,ren1,ren0,y2]
         ·simp -implicitDefEqProofs only [go_sem,Nat.reduceAdd,Nat.reduceMul,Nat.reduceEqDiff,Nat.reduceLT,Nat.reduceLeDiff,reduceCtorEq,h,w0,w1,w2,w3,e4,e5,hbr'];refine⟨y,y1,Qa3 ?_⟩;simp [Qac,lkp,ren1,ren0,y2]
       ·have hQ:=Qql hY1 hK hc;have hq2:q<4294967296:=by rw [hQ];exact Qkb hv hd0
        have h:((4294967296:Int)≤((q:Nat):Int))=False:=by simp only [eq_iff_iff,iff_false];omega
        have w0:=Qfd hq2 hy0;have w3:(((r*4294967296+d0:Nat):Int)<((q*(Y%4294967296):Nat):Int))=False:=by
         simp only [eq_iff_iff,iff_false];have:=mt ht.1 hc;omega
        simp -implicitDefEqProofs only [go_sem,Nat.reduceAdd,Nat.reduceMul,Nat.reduceEqDiff,Nat.reduceLT,Nat.reduceLeDiff,reduceCtorEq,h,w0,w1,w2,w3];clear hK hq hr ht e5 hc hq2 h w0 w1 w2 w3;subst hQ;simp -implicitDefEqProofs only [go_sem,Nat.reduceAdd,Nat.reduceEqDiff,Nat.reduceLT,reduceCtorEq,f1,f2,k1,hmin,Qjn];rw [←D1,←D2]
     ·rw [hQ]at e4;simp -implicitDefEqProofs only [go_sem,Nat.reduceAdd,Nat.reduceMul,Nat.reduceEqDiff,Nat.reduceLT,Nat.reduceLeDiff,reduceCtorEq,h,w0,w1,w2,w3,e4,e5,hbr'];simp -implicitDefEqProofs only [go_sem,Nat.reduceAdd,Nat.reduceMul,Nat.reduceEqDiff,Nat.reduceLT,Nat.reduceLeDiff,reduceCtorEq,l4,Qww,hyt,l5,l6];refine Qar mixed (fun p:{p:Nat×Nat // Kn Y v d0 p.1 p.2}=>St.of [(2,.int .u64 ((Y:Nat):Int)),(8,.int .u64 ((s:Nat):Int)),(9,.int .u64 ((Y/4294967296:Nat):Int)),(10,.int .u64 ((Y%4294967296:Nat):Int)),(14,.int .u64 ((d0:Nat):Int)),(15,.int .u64 (((u*4294967296+d1)/Y:Nat):Int)),(17,.int .u64 ((v:Nat):Int)),(18,.int .u64 ((p.1.1:Nat):Int)),(16,.int .u64 ((p.1.2:Nat):Int))] []) (fun p=>p.1.1) ⟨(v/(Y/4294967296),v%(Y/4294967296)),Ql3 hY1 hY2 hv hd0⟩ ?_ ?_
      ·exact Qa3 (by simp [Qac,lkp,ren1,ren0])
      ·rintro⟨⟨q,r⟩,hK⟩;have hq:=kn_q hY1 hY2 hv hK;have hr:r<4294967296:=hK.small;have ht:=Qqj hK;simp only at hq hr ht hK ⊢;have hy1:Y/4294967296<4294967296:=by omega
       have hy0:Y%4294967296<4294967296:=by omega
       have e5:=Qro hr hy1;have w1:=Qrm hr;have w2:=Qme hr hd0;by_cases hc:v*4294967296+d0<q*Y
       ·obtain⟨hq0,hG⟩:=Qqk hY1 hv hK hc;have e4:=Qrn hq0 hq;have hbig:(4294967296:Int)≤((q:Nat):Int)∨((4294967296:Int)≤((q:Nat):Int))=False∧IntKind.u64.wrap (((q:Nat):Int)*((Y%4294967296:Nat):Int))=((q*(Y%4294967296):Nat):Int):=by
         by_cases h:4294967296≤q
         ·left;omega
         ·right;exact⟨by simp only [eq_iff_iff,iff_false];omega,Qfd (by omega) hy0⟩
        have w3:(((r*4294967296+d0:Nat):Int)<((q*(Y%4294967296):Nat):Int))=True:=by
         simp only [eq_iff_iff,iff_true];have:=ht.2 hc;omega
        by_cases hbr:4294967296≤r+Y/4294967296
        ·have hbr':((4294967296:Int)≤((r+Y/4294967296:Nat):Int))=True:=by simp only [eq_iff_iff,iff_true];omega
         have hQ:=Ql4 hY1 hv hd0 hG hbr;rcases hbig with h|⟨h,w0⟩
         ·have h':((4294967296:Int)≤((q:Nat):Int))=True:=by simp only [eq_iff_iff,iff_true];exact h
          rw [hQ]at e4;simp -implicitDefEqProofs only [go_sem,Nat.reduceAdd,Nat.reduceMul,Nat.reduceEqDiff,Nat.reduceLT,Nat.reduceLeDiff,reduceCtorEq,h',e4,e5,hbr'];simp -implicitDefEqProofs only [go_sem,Nat.reduceAdd,Nat.reduceEqDiff,Nat.reduceLT,reduceCtorEq,f1,f2,k1,hmin,Qjn];rw [←D1,←D2]
         ·rw [hQ]at e4;simp -implicitDefEqProofs only [go_sem,Nat.reduceAdd,Nat.reduceMul,Nat.reduceEqDiff,Nat.reduceLT,Nat.reduceLeDiff,reduceCtorEq,h,w0,w1,w2,w3,e4,e5,hbr'];simp -implicitDefEqProofs only [go_sem,Nat.reduceAdd,Nat.reduceEqDiff,Nat.reduceLT,reduceCtorEq,f1,f2,k1,hmin,Qjn];rw [←D1,←D2]
        ·have hbr':((4294967296:Int)≤((r+Y/4294967296:Nat):Int))=False:=by simp only [eq_iff_iff,iff_false];omega
         have next: ∃y:{p:Nat×Nat // Kn Y v d0 p.1 p.2},y.1.1<q∧y.1=(q-1,r+Y/4294967296):=⟨⟨(q-1,r+Y/4294967296),hG,by simp only;omega⟩,by simp only;omega,rfl⟩
         obtain⟨y,y1,y2⟩:=next
         rcases hbig with h|⟨h,w0⟩
         ·have h':((4294967296:Int)≤((q:Nat):Int))=True:=by simp only [eq_iff_iff,iff_true];exact h
          simp -implicitDefEqProofs only [go_sem,Nat.reduceAdd,Nat.reduceMul,Nat.reduceEqDiff,Nat.reduceLT,Nat.reduceLeDiff,reduceCtorEq,h',e4,e5,hbr'];refine⟨y,y1,Qa3 ?_⟩;simp [Qac,lkp,ren1,ren0,y2]
         ·simp -implicitDefEqProofs only [go_sem,Nat.reduceAdd,Nat.reduceMul,Nat.reduceEqDiff,Nat.reduceLT,Nat.reduceLeDiff,reduceCtorEq,h,w0,w1,w2,w3,e4,e5,hbr'];refine⟨y,y1,Qa3 ?_⟩;simp [Qac,lkp,ren1,ren0,y2]
       ·have hQ:=Qql hY1 hK hc;have hq2:q<4294967296:=by rw [hQ];exact Qkb hv hd0
        have h:((4294967296:Int)≤((q:Nat):Int))=False:=by simp only [eq_iff_iff,iff_false];omega
        have w0:=Qfd hq2 hy0;have w3:(((r*4294967296+d0:Nat):Int)<((q*(Y%4294967296):Nat):Int))=False:=by
         simp only [eq_iff_iff,iff_false];have:=mt ht.1 hc;omega
        simp -implicitDefEqProofs only [go_sem,Nat.reduceAdd,Nat.reduceMul,Nat.reduceEqDiff,Nat.reduceLT,Nat.reduceLeDiff,reduceCtorEq,h,w0,w1,w2,w3];clear hK hq hr ht e5 hc hq2 h w0 w1 w2 w3;subst hQ;simp -implicitDefEqProofs only [go_sem,Nat.reduceAdd,Nat.reduceEqDiff,Nat.reduceLT,reduceCtorEq,f1,f2,k1,hmin,Qjn];rw [←D1,←D2]
    ·have hbr':((4294967296:Int)≤((r+Y/4294967296:Nat):Int))=False:=by simp only [eq_iff_iff,iff_false];omega
     have next: ∃y:{p:Nat×Nat // Kn Y u d1 p.1 p.2},y.1.1<q∧y.1=(q-1,r+Y/4294967296):=⟨⟨(q-1,r+Y/4294967296),hG,by simp only;omega⟩,by simp only;omega,rfl⟩
     obtain⟨y,y1,y2⟩:=next
     rcases hbig with h|⟨h,w0⟩
     ·have h':((4294967296:Int)≤((q:Nat):Int))=True:=by simp only [eq_iff_iff,iff_true];exact h
      simp -implicitDefEqProofs only [go_sem,Nat.reduceAdd,Nat.reduceMul,Nat.reduceEqDiff,Nat.reduceLT,Nat.reduceLeDiff,reduceCtorEq,h',e4,e5,hbr'];refine⟨y,y1,Qa3 ?_⟩;simp [Qac,lkp,ren1,ren0,y2]
     ·simp -implicitDefEqProofs only [go_sem,Nat.reduceAdd,Nat.reduceMul,Nat.reduceEqDiff,Nat.reduceLT,Nat.reduceLeDiff,reduceCtorEq,h,w0,w1,w2,w3,e4,e5,hbr'];refine⟨y,y1,Qa3 ?_⟩;simp [Qac,lkp,ren1,ren0,y2]
   ·have hQ:=Qql hY1 hK hc;have hq2:q<4294967296:=by rw [hQ];exact Qkb hu hd1
    have h:((4294967296:Int)≤((q:Nat):Int))=False:=by simp only [eq_iff_iff,iff_false];omega
    have w0:=Qfd hq2 hy0;have w3:(((r*4294967296+d1:Nat):Int)<((q*(Y%4294967296):Nat):Int))=False:=by
     simp only [eq_iff_iff,iff_false];have:=mt ht.1 hc;omega
    simp -implicitDefEqProofs only [go_sem,Nat.reduceAdd,Nat.reduceMul,Nat.reduceEqDiff,Nat.reduceLT,Nat.reduceLeDiff,reduceCtorEq,h,w0,w1,w2,w3];clear hK hq hr ht e5 hc hq2 h w0 w1 w2 w3;subst hQ;simp -implicitDefEqProofs only [go_sem,Nat.reduceAdd,Nat.reduceMul,Nat.reduceEqDiff,Nat.reduceLT,Nat.reduceLeDiff,reduceCtorEq,l4,Qww,hyt,l5,l6];refine Qar mixed (fun p:{p:Nat×Nat // Kn Y v d0 p.1 p.2}=>St.of [(2,.int .u64 ((Y:Nat):Int)),(8,.int .u64 ((s:Nat):Int)),(9,.int .u64 ((Y/4294967296:Nat):Int)),(10,.int .u64 ((Y%4294967296:Nat):Int)),(14,.int .u64 ((d0:Nat):Int)),(15,.int .u64 (((u*4294967296+d1)/Y:Nat):Int)),(17,.int .u64 ((v:Nat):Int)),(18,.int .u64 ((p.1.1:Nat):Int)),(16,.int .u64 ((p.1.2:Nat):Int))] []) (fun p=>p.1.1) ⟨(v/(Y/4294967296),v%(Y/4294967296)),Ql3 hY1 hY2 hv hd0⟩ ?_ ?_
    ·exact Qa3 (by simp [Qac,lkp,ren1,ren0])
    ·rintro⟨⟨q,r⟩,hK⟩;have hq:=kn_q hY1 hY2 hv hK;have hr:r<4294967296:=hK.small;have ht:=Qqj hK;simp only at hq hr ht hK ⊢;have hy1:Y/4294967296<4294967296:=by omega
     have hy0:Y%4294967296<4294967296:=by omega
     have e5:=Qro hr hy1;have w1:=Qrm hr;have w2:=Qme hr hd0;by_cases hc:v*4294967296+d0<q*Y
     ·obtain⟨hq0,hG⟩:=Qqk hY1 hv hK hc;have e4:=Qrn hq0 hq;have hbig:(4294967296:Int)≤((q:Nat):Int)∨((4294967296:Int)≤((q:Nat):Int))=False∧IntKind.u64.wrap (((q:Nat):Int)*((Y%4294967296:Nat):Int))=((q*(Y%4294967296):Nat):Int):=by
       by_cases h:4294967296≤q
       ·left;omega
       ·right;exact⟨by simp only [eq_iff_iff,iff_false];omega,Qfd (by omega) hy0⟩
      have w3:(((r*4294967296+d0:Nat):Int)<((q*(Y%4294967296):Nat):Int))=True:=by
       simp only [eq_iff_iff,iff_true];have:=ht.2 hc;omega
      by_cases hbr:4294967296≤r+Y/4294967296
      ·have hbr':((4294967296:Int)≤((r+Y/4294967296:Nat):Int))=True:=by simp only [eq_iff_iff,iff_true];omega
       have hQ:=Ql4 hY1 hv hd0 hG hbr;rcases hbig with h|⟨h,w0⟩
       ·have h':((4294967296:Int)≤((q:Nat):Int))=True:=by simp only [eq_iff_iff,iff_true];exact h
        rw [hQ]at e4;simp -implicitDefEqProofs only [go_sem,Nat.reduceAdd,Nat.reduceMul,Nat.reduceEqDiff,Nat.reduceLT,Nat.reduceLeDiff,reduceCtorEq,h',e4,e5,hbr'];simp -implicitDefEqProofs only [go_sem,Nat.reduceAdd,Nat.reduceEqDiff,Nat.reduceLT,reduceCtorEq,f1,f2,k1,hmin,Qjn];rw [←D1,←D2]
       ·rw [hQ]at e4;simp -implicitDefEqProofs only [go_sem,Nat.reduceAdd,Nat.reduceMul,Nat.reduceEqDiff,Nat.reduceLT,Nat.reduceLeDiff,reduceCtorEq,h,w0,w1,w2,w3,e4,e5,hbr'];simp -implicitDefEqProofs only [go_sem,Nat.reduceAdd,Nat.reduceEqDiff,Nat.reduceLT,reduceCtorEq,f1,f2,k1,hmin,Qjn];rw [←D1,←D2]
      ·have hbr':((4294967296:Int)≤((r+Y/4294967296:Nat):Int))=False:=by simp only [eq_iff_iff,iff_false];omega
       have next: ∃y:{p:Nat×Nat // Kn Y v d0 p.1 p.2},y.1.1<q∧y.1=(q-1,r+Y/4294967296):=⟨⟨(q-1,r+Y/4294967296),hG,by simp only;omega⟩,by simp only;omega,rfl⟩
       obtain⟨y,y1,y2⟩:=next
       rcases hbig with h|⟨h,w0⟩
       ·have h':((4294967296:Int)≤((q:Nat):Int))=True:=by simp only [eq_iff_iff,iff_true];exact h
        simp -implicitDefEqProofs only [go_sem,Nat.reduceAdd,Nat.reduceMul,Nat.reduceEqDiff,Nat.reduceLT,Nat.reduceLeDiff,reduceCtorEq,h',e4,e5,hbr'];refine⟨y,y1,Qa3 ?_⟩;simp [Qac,lkp,ren1,ren0,y2]
       ·simp -implicitDefEqProofs only [go_sem,Nat.reduceAdd,Nat.reduceMul,Nat.reduceEqDiff,Nat.reduceLT,Nat.reduceLeDiff,reduceCtorEq,h,w0,w1,w2,w3,e4,e5,hbr'];refine⟨y,y1,Qa3 ?_⟩;simp [Qac,lkp,ren1,ren0,y2]
     ·have hQ:=Qql hY1 hK hc;have hq2:q<4294967296:=by rw [hQ];exact Qkb hv hd0
      have h:((4294967296:Int)≤((q:Nat):Int))=False:=by simp only [eq_iff_iff,iff_false];omega
      have w0:=Qfd hq2 hy0;have w3:(((r*4294967296+d0:Nat):Int)<((q*(Y%4294967296):Nat):Int))=False:=by
       simp only [eq_iff_iff,iff_false];have:=mt ht.1 hc;omega
      simp -implicitDefEqProofs only [go_sem,Nat.reduceAdd,Nat.reduceMul,Nat.reduceEqDiff,Nat.reduceLT,Nat.reduceLeDiff,reduceCtorEq,h,w0,w1,w2,w3];clear hK hq hr ht e5 hc hq2 h w0 w1 w2 w3;subst hQ;simp -implicitDefEqProofs only [go_sem,Nat.reduceAdd,Nat.reduceEqDiff,Nat.reduceLT,reduceCtorEq,f1,f2,k1,hmin,Qjn];rw [←D1,←D2]
end Go.Proofs.YtjlkapdmgjocdaaGreat

namespace Go.Dg
theorem Q0j (A d B:Nat) (hB:0<B) (hd:0<d):(A/B%d*B+A%B)/d=A/d%B∧(A/B%d*B+A%B)%d=A%d:=by
 have h1:=Nat.div_add_mod A B;have h2:=Nat.div_add_mod (A/B) d;have hr:A/B%d<d:=Nat.mod_lt _ hd;have hl:A%B<B:=Nat.mod_lt _ hB;generalize A/B%d=r at*;generalize A/B/d=Q at*;generalize A%B=l at*;have e:A=d*(Q*B)+(r*B+l):=by
  rw [←h1,←h2,Nat.mul_add,Nat.mul_comm B r,Nat.mul_comm B,Nat.mul_assoc];omega
 have hlt:r*B+l<d*B:=by
  have:=Nat.mul_le_mul_right B (show r+1≤d from hr);rw [Nat.add_mul]at this;omega
 have hq:(r*B+l)/d<B:=by rw [Nat.div_lt_iff_lt_mul hd,Nat.mul_comm B];exact hlt
 constructor
 ·rw [e,Nat.mul_add_div hd,Nat.mul_add_mod_self_right,Nat.mod_eq_of_lt hq]
 ·rw [e,Nat.mul_add_mod]
theorem Qqm (B V S N:Nat):mix B V S N N=lows B V N:=by
 apply List.map_congr_left;intro j hj;rw [if_pos (by simpa using hj)]
theorem Q0k (a w r i:Nat) (hr:r≤64):shlV a w r i/WB^(i+w)%WB=shlC a r i:=by
 rw [Ql2,Nat.mod_eq_of_lt (Nat.lt_of_lt_of_le (Qmp a r i) (Nat.pow_le_pow_right (n:=2) (by decide) hr))]
end Go.Dg

namespace Go.Proofs.YtjlkapdmgjocdaaGreat
open Go.Vl Go.RowKit Go.Dg
theorem Zkd (a d:Nat) (hd:0<d) (hdl:d<18446744073709551616) (ha:(digs BW a).length≤1000000000):Qaf Tryz.prog 120 [dw (digs BW a),.int .u64 (d:Int)] (.tup [dw (digs BW (a/d)),.int .u64 ((a%d:Nat):Int)]):=by
 refine Qab (tb:=[]) 35 [.tmp 4,.tmp 5] [0,1,4,5,6,7,8,16] mixed Tryz.func120 rfl (by kernel_rfl) (by kernel_rfl) (by kernel_rfl) (by kernel_rfl) ?_;have hn0:((0:Int)≤((digs BW a).length:Int))=True:=by simp
 have hn1:((8:Nat):Int)*((digs BW a).length:Int)≤281474976710656:=by omega
 have hn2:((digs BW a).length:Int)≤9223372036854775807:=by omega
 have hlt:a<BW^(digs BW a).length:=Qbe BW_2 a;have hw:IntKind.i64.wrap (((digs BW a).length:Int)-1)=((digs BW a).length:Int)-1:=Qag (by omega) (by omega);simp -implicitDefEqProofs only [go_sem,Nat.reduceAdd,Nat.reduceMul,Nat.reduceEqDiff,Nat.reduceLT,Nat.reduceLeDiff,reduceCtorEq,dw,List.length_map,hn0,hn1,hn2,Int.toNat_natCast,hw];generalize hN:(digs BW a).length=N at*;have hrep:List.replicate N (PV.int .u64 0)=(mix BW 0 (a/d) N N).map fW:=by rw [Qqm,Qet];simp
 rw [hrep];refine Qar mixed (fun i:{i:Nat // i≤N}=>St.of [(0,dw (digs BW a)),(1,.int .u64 (d:Int)),(4,.nilS),(5,.int .u64 0),(6,.bs 102 1 0 N),(7,.int .u64 ((a/BW^i.1%d:Nat):Int)),(8,.int .i64 ((i.1:Int)-1))]
  [(102,{els:=(mix BW 0 (a/d) N i.1).map fW,esz:=1,ety:=130,fro:=0,live:=true,arr:=true})]) (fun i=>i.1) ⟨N,Nat.le_refl _⟩ ?_ ?_
 ·refine Qaj (θ:=[(102,102)]) rfl ?_ ?_
  ·simp [Qac,lkp,ren1,ren0,dw,Nat.div_eq_of_lt hlt]
  ·simp [Qax,lkp,Box.renames]
 ·rintro⟨i,hi⟩;cases i with
  |zero=>
   have h1:((0:Int)≤((0:Nat):Int)-1)=False:=by simp
   have hll:=Qak (B:=BW) (a/d) N;have htk:((lows BW (a/d) N).map fW).take N=(lows BW (a/d) N).map fW:=List.take_of_length_le (by simp [hll]);simp -implicitDefEqProofs only [go_sem,Nat.reduceAdd,Nat.reduceMul,Nat.reduceEqDiff,Nat.reduceLT,Nat.reduceLeDiff,reduceIte,reduceCtorEq,h1,Ql6,List.length_map,hll,htk];refine Qah _ _ _ _ _ _ _ _ _ (Qdo (lows BW (a/d) N) (by rw [hll];simp [maxLen];omega)) ?_;have e:a/BW^0%d=a%d:=by rw [Nat.pow_zero,Nat.div_one]
   simp -implicitDefEqProofs only [go_sem,Nat.reduceAdd,Nat.reduceEqDiff,Nat.reduceLT,reduceCtorEq,dw,e];rw [Qb6 BW_2,Nat.mod_eq_of_lt (Nat.lt_of_le_of_lt (Nat.div_le_self _ _) hlt)]
  |succ i=>
   have hs:(((i+1:Nat):Int)-1)=(i:Int):=by omega
   have h1:((0:Int)≤(i:Int))=True:=by simp
   have h2:((i:Int)<(N:Int))=True:=by simp;omega
   have hga:=Qa0 BW_2 (show i<(digs BW a).length by omega);have hml:=Qbp (B:=BW) 0 (a/d) N (i+1);obtain⟨e,hgo⟩: ∃e:Nat,((mix BW 0 (a/d) N (i+1)).map fW)[i]? =some (PV.int .u64 (e:Int)):=⟨_,by rw [List.getElem?_map,Qdu _ _ _ _ _ (by omega)];rfl⟩;have e0:a/BW^(i+1)=a/BW^i/BW:=by rw [Nat.pow_succ,Nat.div_div_eq_div_mul]
   obtain⟨s1,s2⟩:=Q0j (a/BW^i) d BW (by decide) hd;have e1:a/BW^i/d=a/d/BW^i:=by rw [Nat.div_div_eq_div_mul,Nat.div_div_eq_div_mul,Nat.mul_comm]
   have hc:=Za2 (a/BW^(i+1)%d) (a/BW^i%BW) d (Nat.mod_lt _ hd) hdl (Nat.mod_lt _ (by decide));rw [e0,s1,s2,e1]at hc;have hset:=Qyt (B:=BW) (V:=0) (S:=a/d) (N:=N) (i:=i) (d:=a/d/BW^i%BW) (by omega) rfl;have w4:IntKind.i64.wrap ((i:Int)-1)=(i:Int)-1:=Qag (by omega) (by omega);simp -implicitDefEqProofs only [go_sem,Nat.reduceAdd,Nat.reduceMul,Nat.reduceEqDiff,Nat.reduceLT,Nat.reduceLeDiff,reduceCtorEq,dw,hs,h1,Qci,hga,Int.toNat_natCast,e0];refine Qah _ _ _ _ _ _ _ _ _ hc ?_;simp -implicitDefEqProofs only [go_sem,Nat.reduceAdd,Nat.reduceMul,Nat.reduceEqDiff,Nat.reduceLT,Nat.reduceLeDiff,reduceIte,reduceCtorEq,h1,h2,hgo,Int.toNat_natCast,w4];refine⟨⟨i,by omega⟩,by simp only;omega,Qaj (θ:=[(102,102)]) rfl ?_ ?_⟩
   ·simp [Qac,lkp,ren1,ren0,dw]
   ·rw [Qc8,hset];simp [Qax,lkp,Box.renames]
end Go.Proofs.YtjlkapdmgjocdaaGreat

namespace Go.Proofs.YtjlkapdmgjocdaaGreat
open Go.Vl Go.RowKit Go.Dg
abbrev wB (E:List Nat):Box:={els:=E.map fW,esz:=1,ety:=130,fro:=0,live:=true,arr:=true}
theorem Qzf (E:List Nat) (off n:Nat) (hn:off+n≤E.length) (hE:E.length≤maxLen):
  Qdd Tryz.prog 99 [.bs 1000000 1 off n] [(1000000,wB E)] (.bs 1000000 1 off (Qfk ((E.drop off).take n)).length) [(1000000,wB E)]:=by
 have hm:=Qte;refine Qcz (tb:=[]) 21 [.tmp 2] [0,2,14] mixed Tryz.func99 rfl (by kernel_rfl) (by kernel_rfl) (by kernel_rfl) (by kernel_rfl) (by rfl) ?_;simp -implicitDefEqProofs only [go_sem,Nat.reduceMul,Nat.reduceEqDiff,Nat.reduceLT,Nat.reduceLeDiff,reduceCtorEq];refine Qar mixed (fun k:{k:Nat // k≤n∧Qfk ((E.drop off).take k)=Qfk ((E.drop off).take n)}=>St.of [(0,.bs 1000000 1 off k.1),(2,.nilS)] [(1000000,wB E)]) (fun k=>k.1) ⟨n,Nat.le_refl _,rfl⟩ ?_ ?_
 ·refine Qaj (θ:=[(1000000,1000000)]) rfl ?_ ?_
  ·simp [Qac,lkp,ren1,ren0]
  ·simp [Qax,lkp,Box.renames]
 ·rintro⟨k,hk,ht⟩;cases k with
  |zero=>
   have h1:((0:Int)<((0:Nat):Int))=False:=by simp
   simp -implicitDefEqProofs only [go_sem,Nat.reduceAdd,Nat.reduceMul,Nat.reduceEqDiff,Nat.reduceLT,Nat.reduceLeDiff,reduceCtorEq,h1];rw [←ht];refine Qb9 (.inl rfl) ?_;simp -implicitDefEqProofs only [go_sem,Nat.reduceEqDiff,reduceCtorEq];refine Qaj (θ:=[(1000000,1000000)]) rfl ?_ ?_
   ·simp [Qac,lkp,ren1,ren0,Qfk]
   ·simp [Qax,lkp,Box.renames]
  |succ k=>
   have h1:((0:Int)<((k+1:Nat):Int))=True:=by simp
   have h2:(0≤(k:Int))=True:=by simp
   have hw:=Qtd (n:=k) (by omega);have hlt:off+k<E.length:=by omega
   have hget:(E.map fW)[off+k]? =some (.int .u64 (E[off+k]:Int)):=by simp [hlt]
   have hcut:(E.drop off).take (k+1)=(E.drop off).take k++[E[off+k]]:=by
    rw [List.take_add_one,List.getElem?_drop,List.getElem?_eq_getElem hlt];rfl
   have h4:((k:Int)<((k+1:Nat):Int))=True:=by simp;omega
   cases hd:((E[off+k]:Int)==0)with
   |true=>
    have hd0:E[off+k]=0:=by simpa using hd
    have h3:((k:Int)≤((k+1:Nat):Int))=True:=by simp;omega
    simp -implicitDefEqProofs only [go_sem,Nat.reduceAdd,Nat.reduceMul,Nat.reduceEqDiff,Nat.reduceLT,Nat.reduceLeDiff,reduceCtorEq,h1,h2,hw,hget,hd,Int.toNat_natCast,h3,h4,wB];refine⟨⟨k,by omega,?_⟩,by simp,?_⟩
    ·rw [←ht,hcut,hd0,Qev]
    ·refine Qaj (θ:=[(1000000,1000000)]) rfl ?_ ?_
     ·simp [Qac,lkp,ren1,ren0]
     ·simp [Qax,lkp,Box.renames]
   |false=>
    have hd0:E[off+k]≠0:=by simpa using hd
    simp -implicitDefEqProofs only [go_sem,Nat.reduceAdd,Nat.reduceMul,Nat.reduceEqDiff,Nat.reduceLT,Nat.reduceLeDiff,reduceCtorEq,h1,h2,hw,hget,hd,Int.toNat_natCast,h4,wB];rw [←ht,hcut,Qhe _ hd0];refine Qb9 (.inl rfl) ?_;simp -implicitDefEqProofs only [go_sem,Nat.reduceEqDiff,reduceCtorEq];refine Qaj (θ:=[(1000000,1000000)]) rfl ?_ ?_
    ·simp [Qac,lkp,ren1,ren0];omega
    ·simp [Qax,lkp,Box.renames]
end Go.Proofs.YtjlkapdmgjocdaaGreat

namespace Go.Proofs.YtjlkapdmgjocdaaGreat
open Go.Vl Go.RowKit Go.Dg
theorem Zsz (E:List Nat) (off a b:Nat) (hba:b≤a) (hE:(E.drop off).take (digs BW a).length=digs BW a) (hEl:off+(digs BW a).length≤E.length) (ha:(digs BW a).length≤1000000000):
  Qdd Tryz.prog 106 [.bs 1000000 1 off (digs BW a).length,dw (digs BW b)] [(1000000,wB E)] (.bs 102 1 0 (digs BW (a-b)).length) [(1000000,wB E),(102,wB (lows BW (a-b) (digs BW a).length))]:=by

 refine Qcz (tb:=[(1101,[(1000000,102)],[])]) 41 [.tmp 4] [0,1,4,5,6,7,8,13,14,15,20] mixed Tryz.func106 rfl (by kernel_rfl) (by kernel_rfl) (by kernel_rfl) (by kernel_rfl) (by rfl) ?_;have hn0:((0:Int)≤((digs BW a).length:Int))=True:=by simp
 have hn1:((8:Nat):Int)*((digs BW a).length:Int)≤281474976710656:=by omega
 have hn2:((digs BW a).length:Int)≤9223372036854775807:=by omega
 simp -implicitDefEqProofs only [go_sem,Nat.reduceAdd,Nat.reduceMul,Nat.reduceEqDiff,Nat.reduceLT,Nat.reduceLeDiff,reduceCtorEq,dw,wB,hn0,hn1,hn2,Int.toNat_natCast];generalize hN:(digs BW a).length=N at*;rw [Qjm (a-b) N];refine Qar mixed (fun i:{i:Nat // i≤N}=>St.of [(0,.bs 1000000 1 off N),(1,dw (digs BW b)),(4,.nilS),(5,.bs 102 1 0 N),(6,.int .u64 (bor BW a b i.1:Int)),(13,.int .i64 (N:Int)),(14,.int .i64 (i.1:Int))]
  [(1000000,wB E),(102,{els:=(mix BW (a-b) 0 N i.1).map fW,esz:=1,ety:=130,fro:=0,live:=true,arr:=true})]) (fun i=>N-i.1) ⟨0,Nat.zero_le _⟩ ?_ ?_
 ·refine Qaj (θ:=[(1000000,1000000),(102,102)]) rfl ?_ ?_
  ·simp [Qac,lkp,ren1,ren0,dw,Qyi]
  ·simp [Qax,lkp,Box.renames]
 ·rintro⟨i,hi⟩;have hml:=Qbp (B:=BW) (a-b) 0 N i;by_cases hA:i<N
  ·have hA':((i:Int)<(N:Int))=True:=by simp;omega
   have h0:(0≤(i:Int))=True:=by simp
   have hga:=Qa0 BW_2 (show i<(digs BW a).length by omega);have hgE:(E.map fW)[off+i]? =some (PV.int .u64 ((a/BW^i%BW:Nat):Int)):=by
    rw [List.getElem?_map,←List.getElem?_drop,←List.getElem?_take_of_lt (show i<N by omega),hE,hga];rfl
   have hwk:=Qan (a:=i) (by omega);have hbl:=Qyj (B:=BW) a b i;have hbl2:=Qyj (B:=BW) a b (i+1);have hst:=Qyk BW_2 hba i;have hx:a/BW^i%BW<BW:=Nat.mod_lt _ (by decide);have hy:b/BW^i%BW<BW:=Nat.mod_lt _ (by decide);have hz:(a-b)/BW^i%BW<BW:=Nat.mod_lt _ (by decide);have hset:=Qew (B:=BW) (V:=a-b) (W:=a-b) (S:=0) (n:=N) (m:=i) (d:=(a-b)/BW^i%BW) (by decide) hA rfl rfl;have hy0: ¬i<(digs BW b).length→b/BW^i%BW=0:=fun h=>by rw [Qck BW_2 (Nat.le_of_not_lt h),Nat.zero_mod]
   have hgb:i<(digs BW b).length→(digs BW b)[i]? =some (b/BW^i%BW):=fun h=>Qa0 BW_2 h;obtain⟨e,hgo⟩: ∃e:Nat,((mix BW (a-b) 0 N i).map fW)[i]? =some (PV.int .u64 (e:Int)):=⟨_,by rw [List.getElem?_map,Qdu _ _ _ _ _ hA];rfl⟩;generalize a/BW^i%BW=x at*;generalize b/BW^i%BW=y at*;generalize (a-b)/BW^i%BW=z at*;have s1:(x+18446744073709551616-y-bor BW a b i)%18446744073709551616=z:=by simp only [BW]at*;omega
   have s2:(if x<y+bor BW a b i then 1 else 0)=bor BW a b (i+1):=by
    simp only [BW]at*;split<;>omega
   have hc:=Zay x y (bor BW a b i) hbl;rw [s1,s2]at hc;by_cases hB:i<(digs BW b).length
   ·have hB':((i:Int)<((digs BW b).length:Int))=True:=by simp;omega
    have hgb:=hgb hB;simp -implicitDefEqProofs only [go_sem,Nat.reduceAdd,Nat.reduceMul,Nat.reduceEqDiff,Nat.reduceLT,Nat.reduceLeDiff,reduceCtorEq,dw,List.length_map,hA',hB',h0,Qci,hgE,wB,hgb,Int.toNat_natCast];refine Qah _ _ _ _ _ _ _ _ _ hc ?_;simp -implicitDefEqProofs only [go_sem,Nat.reduceAdd,Nat.reduceMul,Nat.reduceEqDiff,Nat.reduceLT,Nat.reduceLeDiff,reduceIte,reduceCtorEq,hA',h0,Int.toNat_natCast,hwk,hgo];refine⟨⟨i+1,hA⟩,by simp only;omega,?_⟩;refine Qaj (θ:=[(1000000,1000000),(102,102)]) rfl ?_ ?_
    ·simp [Qac,lkp,ren1,ren0,dw]
    ·rw [Qc8,hset];simp [Qax,lkp,Box.renames]
   ·have hB':((i:Int)<((digs BW b).length:Int))=False:=by simp;omega
    obtain rfl:=hy0 hB;simp -implicitDefEqProofs only [go_sem,Nat.reduceAdd,Nat.reduceMul,Nat.reduceEqDiff,Nat.reduceLT,Nat.reduceLeDiff,reduceCtorEq,dw,List.length_map,hA',hB',h0,hgE,wB,Int.toNat_natCast];refine Qah _ _ _ _ _ _ _ _ _ hc ?_;simp -implicitDefEqProofs only [go_sem,Nat.reduceAdd,Nat.reduceMul,Nat.reduceEqDiff,Nat.reduceLT,Nat.reduceLeDiff,reduceIte,reduceCtorEq,hA',h0,Int.toNat_natCast,hwk,hgo];refine⟨⟨i+1,hA⟩,by simp only;omega,?_⟩;refine Qaj (θ:=[(1000000,1000000),(102,102)]) rfl ?_ ?_
    ·simp [Qac,lkp,ren1,ren0,dw]
    ·rw [Qc8,hset];simp [Qax,lkp,Box.renames]
  ·have hA':((i:Int)<(N:Int))=False:=by simp;omega
   obtain rfl:i=N:=by omega
   have hll:=Qak (B:=BW) (a-b) i;have hlt:a<BW^i:=by rw [←hN];exact Qbe BW_2 a
   have hm:mix BW (a-b) 0 i i=lows BW (a-b) i:=Qgq (by decide) (by rw [Nat.div_eq_of_lt (Nat.lt_of_le_of_lt (Nat.sub_le _ _) hlt),Nat.zero_div]);have hq:Qfk (((lows BW (a-b) i).drop 0).take i)=digs BW (a-b):=by
    rw [List.drop_zero,List.take_of_length_le (by rw [hll];exact Nat.le_refl _),Qb6 BW_2,Nat.mod_eq_of_lt (Nat.lt_of_le_of_lt (Nat.sub_le _ _) hlt)]
   have hc:=Qzf (lows BW (a-b) i) 0 i (by rw [hll];omega) (by rw [hll];simp [maxLen];omega);rw [hq]at hc;simp -implicitDefEqProofs only [go_sem,Nat.reduceAdd,Nat.reduceMul,Nat.reduceEqDiff,Nat.reduceLT,Nat.reduceLeDiff,reduceCtorEq,hA',wB,hm];refine Qcd _ _ _ _ _ _ _ _ _ hc ?_;simp -implicitDefEqProofs only [go_sem,Nat.reduceAdd,Nat.reduceEqDiff,Nat.reduceLT,reduceCtorEq,wB];refine Qb9 (.inl rfl) ?_;simp -implicitDefEqProofs only [go_sem,Nat.reduceEqDiff,reduceCtorEq];refine Qaj (θ:=[(1000000,1000000),(102,102)]) rfl ?_ ?_
   ·simp [Qac,lkp,ren1,ren0]
   ·simp [Qax,lkp,Box.renames]
end Go.Proofs.YtjlkapdmgjocdaaGreat
