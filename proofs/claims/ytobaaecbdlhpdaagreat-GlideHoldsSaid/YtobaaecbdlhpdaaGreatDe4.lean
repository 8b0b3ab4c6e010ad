/-
  TW11, TW12, TW13, TW14, TW15, TW16, De, De2, De3, TW17, De4 (merged for the claim).
-/
import Derived.Test.YtobaaecbdlhpdaaGreatTW10
import Derived.Test.YtobaaecbdlhpdaaGreatTW2
set_option linter.unusedSimpArgs false
set_option linter.unusedVariables false
namespace Go.Proofs.YtobaaecbdlhpdaaGreat
open Go.Vl Go.RowKit Go.Dg
theorem Qjk (neg:Bool) (m:Nat) (hl:(digs BW m).length≤1000000):Qaf Tryz.prog 52 [nP neg m] (Qhy (sv neg m)):=by
 have hna:(sv neg m).natAbs=m:=by cases neg<;>simp [sv]
 have hneg:decide (sv neg m<0)=(neg&&decide (0<m)):=by
  cases neg
  ·simp [sv]
  ·simp [sv]
 unfold Qhy;rw [hna];refine Qac (tb:=[]) 21 [.cell 2 66,.tmp 3] [0,1,2,3,7] mixed Tryz.func52 rfl (by kernel_rfl) (by kernel_rfl) (by kernel_rfl) (by kernel_rfl) ?_;simp -implicitDefEqProofs only [go_sem,Nat.reduceAdd,Nat.reduceMul,Nat.reduceEqDiff,Nat.reduceLT,Nat.reduceLeDiff,Nat.reduceSub,Nat.reduceBEq,reduceIte,reduceCtorEq,Int.reduceEq,Int.reduceNe,Nat.reduceBneDiff,Int.reduceLE,Int.reduceLT,Int.reduceToNat,Int.reduceAdd,Int.reduceSub,Int.reduceMul,Int.reduceNeg,nP,dw];refine Qag _ _ _ _ _ _ _ _ _ (Quu m (by omega)) ?_;by_cases h:65536<blen m
 ·have h':((65536:Int)<(blen m:Int))=True:=by simp only [eq_iff_iff,iff_true];omega
  rw [if_pos h,Qwn];simp -implicitDefEqProofs only [go_sem,Nat.reduceAdd,Nat.reduceMul,Nat.reduceEqDiff,Nat.reduceLT,Nat.reduceLeDiff,Nat.reduceSub,Nat.reduceBEq,reduceIte,reduceCtorEq,Int.reduceEq,Int.reduceNe,Nat.reduceBneDiff,Int.reduceLE,Int.reduceLT,Int.reduceToNat,Int.reduceAdd,Int.reduceSub,Int.reduceMul,Int.reduceNeg,h']
 ·have h':((65536:Int)<(blen m:Int))=False:=by simp only [eq_iff_iff,iff_false];omega
  rw [if_neg h];have hlen:decide ((0:Int)<((digs BW m).length:Int))=decide (0<m):=by
   simp only [decide_eq_decide];have:=mt (Qbi BW_2 (n:=m)).2;by_cases h0:m=0
   ·subst h0;simp [Qbd]
   ·have:=List.length_pos_iff.2 (mt (Qbi BW_2).1 h0);constructor<;>intro _<;>omega
  cases neg with
  |true=>
   simp -implicitDefEqProofs only [go_sem,Nat.reduceAdd,Nat.reduceMul,Nat.reduceEqDiff,Nat.reduceLT,Nat.reduceLeDiff,Nat.reduceSub,Nat.reduceBEq,reduceIte,reduceCtorEq,Int.reduceEq,Int.reduceNe,Nat.reduceBneDiff,Int.reduceLE,Int.reduceLT,Int.reduceToNat,Int.reduceAdd,Int.reduceSub,Int.reduceMul,Int.reduceNeg,h',nP,dw,List.length_map];refine Qag _ _ _ _ _ _ _ _ _ (Qwv m hl) ?_;simp -implicitDefEqProofs only [go_sem,Nat.reduceAdd,Nat.reduceMul,Nat.reduceEqDiff,Nat.reduceLT,Nat.reduceLeDiff,Nat.reduceSub,Nat.reduceBEq,reduceIte,reduceCtorEq,Int.reduceEq,Int.reduceNe,Nat.reduceBneDiff,Int.reduceLE,Int.reduceLT,Int.reduceToNat,Int.reduceAdd,Int.reduceSub,Int.reduceMul,Int.reduceNeg,wPV,hna,hneg,hlen,Bool.true_and];exact Qaa _ _ (by kernel_rfl)
  |false=>
   simp -implicitDefEqProofs only [go_sem,Nat.reduceAdd,Nat.reduceMul,Nat.reduceEqDiff,Nat.reduceLT,Nat.reduceLeDiff,Nat.reduceSub,Nat.reduceBEq,reduceIte,reduceCtorEq,Int.reduceEq,Int.reduceNe,Nat.reduceBneDiff,Int.reduceLE,Int.reduceLT,Int.reduceToNat,Int.reduceAdd,Int.reduceSub,Int.reduceMul,Int.reduceNeg,h',nP,dw,List.length_map];refine Qag _ _ _ _ _ _ _ _ _ (Qwv m hl) ?_;simp -implicitDefEqProofs only [go_sem,Nat.reduceAdd,Nat.reduceMul,Nat.reduceEqDiff,Nat.reduceLT,Nat.reduceLeDiff,Nat.reduceSub,Nat.reduceBEq,reduceIte,reduceCtorEq,Int.reduceEq,Int.reduceNe,Nat.reduceBneDiff,Int.reduceLE,Int.reduceLT,Int.reduceToNat,Int.reduceAdd,Int.reduceSub,Int.reduceMul,Int.reduceNeg,wPV,hna,hneg,Bool.false_and];exact Qaa _ _ (by kernel_rfl)
end Go.Proofs.YtobaaecbdlhpdaaGreat

namespace Go.Proofs.YtobaaecbdlhpdaaGreat
open Go.Vl Go.RowKit Go.Dg
theorem bfold (r:List UInt8): ∀a:Nat,r.foldl (fun n b=>n*256+b.toNat) a=a*256^r.length+bnum r:=by
 induction r with
 |nil=>intro a;simp [bnum]
 |cons b r ih=>
  intro a;have h0:bnum (b::r)=b.toNat*256^r.length+bnum r:=by
   have h:=ih (0*256+b.toNat);rw [Nat.zero_mul,Nat.zero_add]at h;rw [←h,bnum,List.foldl_cons,Nat.zero_mul,Nat.zero_add]
  rw [List.foldl_cons,ih,h0,List.length_cons,Nat.pow_succ,Nat.add_mul,Nat.mul_assoc,Nat.mul_comm 256];omega
theorem Qmd (b:UInt8) (r:List UInt8):bnum (b::r)=b.toNat*256^r.length+bnum r:=by
 have h:=bfold r (0*256+b.toNat);rw [Nat.zero_mul,Nat.zero_add]at h;rw [←h,bnum,List.foldl_cons,Nat.zero_mul,Nat.zero_add]
theorem Qio {neg:Bool} {l:List UInt8} (h:Qbe neg l=true):lows BW (bnum l) ((l.length+7)/8)=digs BW (bnum l):=by
 refine Q1h BW_2 ?_ ?_
 ·refine Nat.lt_of_lt_of_le (Qte _ l rfl) ?_;rw [show BW=256^8 from rfl,←Nat.pow_mul];exact Nat.pow_le_pow_right (by decide) (by omega)
 ·intro j hj;cases l with
  |nil=>simp at hj
  |cons b r=>
   have hb:b.toNat≠0:=by
    intro e;have:b=0:=UInt8.toNat_inj.1 (by simpa using e);subst this;simp [Qbe]at h
   have hge:256^r.length≤bnum (b::r):=by
    rw [Qmd];have:=Nat.mul_le_mul_right (256^r.length) (Nat.pos_of_ne_zero hb);omega
   have hle:BW^j≤256^r.length:=by
    rw [show BW=256^8 from rfl,←Nat.pow_mul];exact Nat.pow_le_pow_right (by decide) (by simp at hj;omega)
   have:=Nat.div_pos (Nat.le_trans hle hge) (Nat.pow_pos (n:=j) (show 0<BW by decide));omega
theorem Qnj (neg:Bool) (s:ByteArray) (h:Qbe neg s.data.toList=true) (hs:s.size≤1000000):Qaf Tryz.prog 57 [.agg [.bool neg,.str s]] (nP neg (bnum s.data.toList)):=by
 have hl:=Qp2 s hs;rw [Qio h]at hl;refine Qac (tb:=[]) 9 [.cell 2 105] [0,1,2] mixed Tryz.func57 rfl (by kernel_rfl) (by kernel_rfl) (by kernel_rfl) (by kernel_rfl) ?_;simp -implicitDefEqProofs only [go_sem,Nat.reduceAdd,Nat.reduceMul,Nat.reduceEqDiff,Nat.reduceLT,Nat.reduceLeDiff,Nat.reduceSub,Nat.reduceBEq,reduceIte,reduceCtorEq,Int.reduceEq,Int.reduceNe,Nat.reduceBneDiff,Int.reduceLE,Int.reduceLT,Int.reduceToNat,Int.reduceAdd,Int.reduceSub,Int.reduceMul,Int.reduceNeg];refine Qag _ _ _ _ _ _ _ _ _ hl ?_;simp -implicitDefEqProofs only [go_sem,Nat.reduceAdd,Nat.reduceMul,Nat.reduceEqDiff,Nat.reduceLT,Nat.reduceLeDiff,Nat.reduceSub,Nat.reduceBEq,reduceIte,reduceCtorEq,Int.reduceEq,Int.reduceNe,Nat.reduceBneDiff,Int.reduceLE,Int.reduceLT,Int.reduceToNat,Int.reduceAdd,Int.reduceSub,Int.reduceMul,Int.reduceNeg,nP,dw];exact Qaa _ _ (by kernel_rfl)
end Go.Proofs.YtobaaecbdlhpdaaGreat

namespace Go.Proofs.YtobaaecbdlhpdaaGreat
open Go.Vl Go.RowKit Go.Dg
def wnum (neg:Bool) (s:ByteArray):Int:=sv neg (bnum s.data.toList)
theorem Qf0 (s:ByteArray) (hs:s.size≤100000):(digs BW (bnum s.data.toList)).length≤100000:=by
 rw [Qhr]at hs;refine Nat.le_trans ((Qau BW_2 _ s.data.toList.length).2 ?_) hs;exact Nat.lt_of_lt_of_le (Qte _ _ rfl) (Nat.pow_le_pow_left (by decide) _)
theorem Zoj (a b m k:Nat) (hm:m≤a+b) (h1:(digs BW a).length≤k) (h2:(digs BW b).length≤k):(digs BW m).length≤k+1:=by
 rw [Qau BW_2]at h1 h2 ⊢;rw [Nat.pow_succ];generalize BW^k=K at*;simp only [BW];omega
def outN (n:Int):Int:=if 65536<blen n.natAbs then 0 else n
def outE (n:Int):Int:=if 65536<blen n.natAbs then 7 else 0
theorem Qg8 (n:Int):Qhy n= .tup [wPV (outN n),.int .i64 (outE n)]:=by
 unfold Qhy outN outE;split<;>rfl
theorem Zok (an bn:Bool) (a b:ByteArray) (h1:Qbe an a.data.toList=true) (h2:Qbe bn b.data.toList=true) (ha:a.size≤100000) (hb:b.size≤100000):Qaf Tryz.prog 59 [.agg [.bool an,.str a],.agg [.bool bn,.str b]] (Qhy (wnum an a+wnum bn b)):=by
 have hL1:=Qf0 a ha;have hL2:=Qf0 b hb;have h:(Qbe an a.data.toList&&Qbe bn b.data.toList)=true:=by rw [h1,h2];rfl
 obtain⟨n,m,hs,e,hm⟩:=Zfe an bn (bnum a.data.toList) (bnum b.data.toList) (by omega) (by omega);have hLm:(digs BW m).length≤1000000:=by
  exact Nat.le_trans (Zoj _ _ _ _ hm hL1 hL2) (by decide)
 rw [wnum,wnum,←e];refine Qac (tb:=[]) 19 [.cell 4 66,.tmp 5] [0,1,2,3,4,5,9] mixed Tryz.func59 rfl (by kernel_rfl) (by kernel_rfl) (by kernel_rfl) (by kernel_rfl) ?_;simp -implicitDefEqProofs only [go_sem,Nat.reduceAdd,Nat.reduceMul,Nat.reduceEqDiff,Nat.reduceLT,Nat.reduceLeDiff,Nat.reduceSub,Nat.reduceBEq,reduceIte,reduceCtorEq,Int.reduceEq,Int.reduceNe,Nat.reduceBneDiff,Int.reduceLE,Int.reduceLT,Int.reduceToNat,Int.reduceAdd,Int.reduceSub,Int.reduceMul,Int.reduceNeg];refine Qag _ _ _ _ _ _ _ _ _ (Qr1 an bn a b) ?_;simp -implicitDefEqProofs only [go_sem,Nat.reduceAdd,Nat.reduceMul,Nat.reduceEqDiff,Nat.reduceLT,Nat.reduceLeDiff,Nat.reduceSub,Nat.reduceBEq,reduceIte,reduceCtorEq,Int.reduceEq,Int.reduceNe,Nat.reduceBneDiff,Int.reduceLE,Int.reduceLT,Int.reduceToNat,Int.reduceAdd,Int.reduceSub,Int.reduceMul,Int.reduceNeg,h];refine Qag _ _ _ _ _ _ _ _ _ (Qnj an a h1 (by omega)) ?_;simp -implicitDefEqProofs only [go_sem,Nat.reduceAdd,Nat.reduceMul,Nat.reduceEqDiff,Nat.reduceLT,Nat.reduceLeDiff,Nat.reduceSub,Nat.reduceBEq,reduceIte,reduceCtorEq,Int.reduceEq,Int.reduceNe,Nat.reduceBneDiff,Int.reduceLE,Int.reduceLT,Int.reduceToNat,Int.reduceAdd,Int.reduceSub,Int.reduceMul,Int.reduceNeg,nP,dw];refine Qag _ _ _ _ _ _ _ _ _ (Qnj bn b h2 (by omega)) ?_
 simp -implicitDefEqProofs only [go_sem,Nat.reduceAdd,Nat.reduceMul,Nat.reduceEqDiff,Nat.reduceLT,Nat.reduceLeDiff,Nat.reduceSub,Nat.reduceBEq,reduceIte,reduceCtorEq,Int.reduceEq,Int.reduceNe,Nat.reduceBneDiff,Int.reduceLE,Int.reduceLT,Int.reduceToNat,Int.reduceAdd,Int.reduceSub,Int.reduceMul,Int.reduceNeg,nP,dw];refine Qag _ _ _ _ _ _ _ _ _ hs ?_;simp -implicitDefEqProofs only [go_sem,Nat.reduceAdd,Nat.reduceMul,Nat.reduceEqDiff,Nat.reduceLT,Nat.reduceLeDiff,Nat.reduceSub,Nat.reduceBEq,reduceIte,reduceCtorEq,Int.reduceEq,Int.reduceNe,Nat.reduceBneDiff,Int.reduceLE,Int.reduceLT,Int.reduceToNat,Int.reduceAdd,Int.reduceSub,Int.reduceMul,Int.reduceNeg,nP,dw];refine Qag _ _ _ _ _ _ _ _ _ (Qjk n m hLm) ?_;unfold Qhy;split
 ·simp -implicitDefEqProofs only [go_sem,Nat.reduceAdd,Nat.reduceMul,Nat.reduceEqDiff,Nat.reduceLT,Nat.reduceLeDiff,Nat.reduceSub,Nat.reduceBEq,reduceIte,reduceCtorEq,Int.reduceEq,Int.reduceNe,Nat.reduceBneDiff,Int.reduceLE,Int.reduceLT,Int.reduceToNat,Int.reduceAdd,Int.reduceSub,Int.reduceMul,Int.reduceNeg,wPV];exact Qaa _ _ (by kernel_rfl)
 ·simp -implicitDefEqProofs only [go_sem,Nat.reduceAdd,Nat.reduceMul,Nat.reduceEqDiff,Nat.reduceLT,Nat.reduceLeDiff,Nat.reduceSub,Nat.reduceBEq,reduceIte,reduceCtorEq,Int.reduceEq,Int.reduceNe,Nat.reduceBneDiff,Int.reduceLE,Int.reduceLT,Int.reduceToNat,Int.reduceAdd,Int.reduceSub,Int.reduceMul,Int.reduceNeg,wPV];exact Qaa _ _ (by kernel_rfl)
end Go.Proofs.YtobaaecbdlhpdaaGreat

namespace Go.Proofs.YtobaaecbdlhpdaaGreat
open Go.Vl Go.RowKit Go.Dg
end Go.Proofs.YtobaaecbdlhpdaaGreat

namespace Go.Proofs.YtobaaecbdlhpdaaGreat
open Go.Vl Go.RowKit Go.Dg
end Go.Proofs.YtobaaecbdlhpdaaGreat

namespace Go.Proofs.YtobaaecbdlhpdaaGreat
open Go.Vl Go.RowKit Go.Dg
theorem Zkv (x y:Nat) (hx:x<18446744073709551616) (hy:y<18446744073709551616):Qaf Tryz.prog 89 [.int .u64 x,.int .u64 y] (.tup [.int .u64 ((x*y/18446744073709551616:Nat):Int),.int .u64 ((x*y%18446744073709551616:Nat):Int)]):=by
 refine Qac (tb:=[]) 51 [.tmp 4,.tmp 5] [0,1,4,5,6,7,8,9,10,11,12,13] mixed Tryz.func89 rfl (by kernel_rfl) (by kernel_rfl) (by kernel_rfl) (by kernel_rfl) ?_;simp -implicitDefEqProofs only [go_sem,Nat.reduceAdd,Nat.reduceMul,Nat.reduceEqDiff,Nat.reduceLT,Nat.reduceLeDiff,Nat.reduceSub,Nat.reduceBEq,reduceIte,reduceCtorEq,Int.reduceEq,Int.reduceNe,Nat.reduceBneDiff,Int.reduceLE,Int.reduceLT,Int.reduceToNat,Int.reduceAdd,Int.reduceSub,Int.reduceMul,Int.reduceNeg,Qdi,Qh7,←Int.natCast_mul,←Int.natCast_add,Zpv hx hy]
theorem Q5a (a b:Nat):IntKind.u64.wrap ((a:Int)+(b:Int))=(((a+b)%18446744073709551616:Nat):Int):=by rw [←Int.natCast_add,Qdi]
theorem Zc4 {x y o c:Nat} (hx:x<18446744073709551616) (hy:y<18446744073709551616) (ho:o<18446744073709551616) (hc:c<18446744073709551616):
  ((x*y%18446744073709551616+o)%18446744073709551616+c)%18446744073709551616=(o+c+x*y)%18446744073709551616∧
  ((x*y/18446744073709551616+(x*y%18446744073709551616+o)/18446744073709551616)%18446744073709551616+((x*y%18446744073709551616+o)%18446744073709551616+c)/18446744073709551616)%18446744073709551616=(o+c+x*y)/18446744073709551616:=by
 have h:x*y≤18446744073709551615*18446744073709551615:=Nat.mul_le_mul (by omega) (by omega);generalize x*y=p at*;omega
set_option maxRecDepth 2000 in
theorem Q5b (a b:Nat) (hab:(digs BW a).length+(digs BW b).length≤1000000000):Qaf Tryz.prog 106 [dw (digs BW a),dw (digs BW b)] (dw (digs BW (a*b))):=by
 refine Qac (tb:=[]) 80 [.tmp 4] [0,1,4,5,6,7,8,9,10,11,12,13,20,21,22,23,27,28,29,30] mixed Tryz.func106 rfl (by kernel_rfl) (by kernel_rfl) (by kernel_rfl) (by kernel_rfl) ?_;have hw0:=Qg5 (a:=(digs BW a).length) (b:=(digs BW b).length) (by omega);have hn0:((0:Int)≤(((digs BW a).length+(digs BW b).length:Nat):Int))=True:=by simp only [eq_iff_iff,iff_true];omega
 have hn1:((8:Nat):Int)*(((digs BW a).length+(digs BW b).length:Nat):Int)≤281474976710656:=by omega
 have hn2:(((digs BW a).length+(digs BW b).length:Nat):Int)≤9223372036854775807:=by omega
 simp -implicitDefEqProofs only [go_sem,Nat.reduceAdd,Nat.reduceMul,Nat.reduceEqDiff,Nat.reduceLT,Nat.reduceLeDiff,Nat.reduceSub,Nat.reduceBEq,reduceIte,reduceCtorEq,Int.reduceEq,Int.reduceNe,Nat.reduceBneDiff,Int.reduceLE,Int.reduceLT,Int.reduceToNat,Int.reduceAdd,Int.reduceSub,Int.reduceMul,Int.reduceNeg,dw,List.length_map,hw0,hn0,hn1,hn2,Int.toNat_natCast];have hrep:List.replicate ((digs BW a).length+(digs BW b).length) (PV.int .u64 0)=(lows BW 0 ((digs BW a).length+(digs BW b).length)).map fW:=by rw [Qea];simp
 rw [hrep];generalize hla:(digs BW a).length=la at*;generalize hlb:(digs BW b).length=lb at*;have hblt:b<BW^lb:=by rw [←hlb];exact Qbb BW_2 b
 refine Qa4 mixed (fun i:{i:Nat // i≤la}=>St.of [(0,dw (digs BW a)),(1,dw (digs BW b)),(4,.nilS),(5,.bs 105 1 0 (la+lb)),(20,dw (digs BW a)),(21,.int .i64 (la:Int)),(22,.int .i64 (i.1:Int))]
  [(105,{els:=(lows BW (a%BW^i.1*b) (la+lb)).map fW,esz:=1,ety:=82,fro:=0,live:=true,arr:=true})]) (fun i=>la-i.1) ⟨0,Nat.zero_le _⟩ ?_ ?_
 ·refine Qas (θ:=[(105,105)]) rfl ?_ ?_
  ·simp [Qae,lkp,ren1,ren0,dw]
  ·simp [Qar,lkp,Box.renames,Nat.mod_one]
 ·rintro⟨i,hi⟩;by_cases hA:i<la
  ·have hA':((i:Int)<(la:Int))=True:=by simp;omega
   have h0:(0≤(i:Int))=True:=by simp
   have hga:=Qav BW_2 (show i<(digs BW a).length by omega);simp -implicitDefEqProofs only [go_sem,Nat.reduceAdd,Nat.reduceMul,Nat.reduceEqDiff,Nat.reduceLT,Nat.reduceLeDiff,Nat.reduceSub,Nat.reduceBEq,reduceIte,reduceCtorEq,Int.reduceEq,Int.reduceNe,Nat.reduceBneDiff,Int.reduceLE,Int.reduceLT,Int.reduceToNat,Int.reduceAdd,Int.reduceSub,Int.reduceMul,Int.reduceNeg,dw,List.length_map,hla,hlb,hA',h0,Qb8,hga,Int.toNat_natCast];generalize hS:a%BW^i*b=S at*;generalize hx:a/BW^i%BW=x at*;have hxl:x<BW:=by rw [←hx];exact Nat.mod_lt _ (by decide)
   refine Qa4 mixed (fun k:{k:Nat // k≤lb}=>St.of [(0,dw (digs BW a)),(1,dw (digs BW b)),(4,.nilS),(5,.bs 105 1 0 (la+lb)),(6,.int .i64 (i:Int)),(7,.int .u64 (x:Int)),(8,.int .u64 (mulC BW S x i b k.1:Int)),(20,dw (digs BW a)),(21,.int .i64 (la:Int)),(22,.int .i64 (i:Int)),(27,dw (digs BW b)),(28,.int .i64 (lb:Int)),(29,.int .i64 (k.1:Int))]
    [(105,{els:=(mix BW (mulV BW S x i b k.1) S (la+lb) (i+k.1)).map fW,esz:=1,ety:=82,fro:=0,live:=true,arr:=true})]) (fun k=>lb-k.1) ⟨0,Nat.zero_le _⟩ ?_ ?_
   ·refine Qas (θ:=[(105,105)]) rfl ?_ ?_
    ·simp [Qae,lkp,ren1,ren0,dw,Qrf]
    ·simp only [Qar,lkp,Box.renames,Qrd,Nat.add_zero,and_self,and_true,true_and,if_true];rw [Qf9 (by decide) rfl];exact .inl rfl
   ·rintro⟨k,hk⟩;have hcl:=Zfy (B:=BW) (S:=S) (i:=i) (b:=b) (k:=k) (by decide) hxl;have hk0:(0≤(k:Int))=True:=by simp
    have hml:=Qbj (B:=BW) (mulV BW S x i b k) S (la+lb) (i+k);have hwik:=Qg5 (a:=i) (b:=k) (by omega);have hik0:((0:Int)≤((i+k:Nat):Int))=True:=by simp only [eq_iff_iff,iff_true];omega
    by_cases hB:k<lb
    ·have hB':((k:Int)<(lb:Int))=True:=by simp;omega
     have hgb:=Qav BW_2 (show k<(digs BW b).length by omega);have hwk:=Qak (a:=k) (by omega);have hin:i+k<la+lb:=by omega
     have hin':(((i+k:Nat):Int)<((la+lb:Nat):Int))=True:=by simp only [eq_iff_iff,iff_true];omega
     have hget:((mix BW (mulV BW S x i b k) S (la+lb) (i+k)).map fW)[i+k]? =some (PV.int .u64 ((S/BW^(i+k)%BW:Nat):Int)):=by rw [List.getElem?_map,Qdc _ _ _ _ _ hin,if_neg (Nat.lt_irrefl _)];rfl
     have hset:=Qed (B:=BW) (S:=S) (by decide) hin (Q7y (B:=BW) S x i b k) rfl;obtain⟨hs1,hs2⟩:=Qwd (B:=BW) (by decide) S x i b k;have hd1:S/BW^(i+k)%BW<BW:=Nat.mod_lt _ (by decide);have hd2:b/BW^k%BW<BW:=Nat.mod_lt _ (by decide);generalize S/BW^(i+k)%BW=o at*;generalize b/BW^k%BW=y at*;generalize mulC BW S x i b k=c at*;obtain⟨m1,m2⟩:=Zc4 hxl hd2 hd1 hcl;rw [hs1]at m1;rw [hs2]at m2;simp -implicitDefEqProofs only [go_sem,Nat.reduceAdd,Nat.reduceMul,Nat.reduceEqDiff,Nat.reduceLT,Nat.reduceLeDiff,Nat.reduceSub,Nat.reduceBEq,reduceIte,reduceCtorEq,Int.reduceEq,Int.reduceNe,Nat.reduceBneDiff,Int.reduceLE,Int.reduceLT,Int.reduceToNat,Int.reduceAdd,Int.reduceSub,Int.reduceMul,Int.reduceNeg,dw,List.length_map,hla,hlb,hB',hk0,Qb8,hgb,Int.toNat_natCast];refine Qag _ _ _ _ _ _ _ _ _ (Zkv x y hxl hd2) ?_;simp -implicitDefEqProofs only [go_sem,Nat.reduceAdd,Nat.reduceMul,Nat.reduceEqDiff,Nat.reduceLT,Nat.reduceLeDiff,Nat.reduceSub,Nat.reduceBEq,reduceIte,reduceCtorEq,Int.reduceEq,Int.reduceNe,Nat.reduceBneDiff,Int.reduceLE,Int.reduceLT,Int.reduceToNat,Int.reduceAdd,Int.reduceSub,Int.reduceMul,Int.reduceNeg,hwik,hik0,hin',List.length_map,hml,hget,Int.toNat_natCast];refine Qag _ _ _ _ _ _ _ _ _ (Qpw (x*y%18446744073709551616) o 0 (by decide)) ?_
     simp -implicitDefEqProofs only [go_sem,Nat.reduceAdd,Nat.reduceMul,Nat.reduceEqDiff,Nat.reduceLT,Nat.reduceLeDiff,Nat.reduceSub,Nat.reduceBEq,reduceIte,reduceCtorEq,Int.reduceEq,Int.reduceNe,Nat.reduceBneDiff,Int.reduceLE,Int.reduceLT,Int.reduceToNat,Int.reduceAdd,Int.reduceSub,Int.reduceMul,Int.reduceNeg,Q5a];refine Qag _ _ _ _ _ _ _ _ _ (Qpw ((x*y%18446744073709551616+o)%18446744073709551616) c 0 (by decide)) ?_;simp -implicitDefEqProofs only [go_sem,Nat.reduceAdd,Nat.reduceMul,Nat.reduceEqDiff,Nat.reduceLT,Nat.reduceLeDiff,Nat.reduceSub,Nat.reduceBEq,reduceIte,reduceCtorEq,Int.reduceEq,Int.reduceNe,Nat.reduceBneDiff,Int.reduceLE,Int.reduceLT,Int.reduceToNat,Int.reduceAdd,Int.reduceSub,Int.reduceMul,Int.reduceNeg,Q5a,m1,m2,hwik,hik0,hin',List.length_map,hml,hget,Int.toNat_natCast,hwk,Qcv,hset];refine⟨⟨k+1,hB⟩,by simp only;omega,Qas (θ:=[(105,105)]) rfl ?_ ?_⟩
     ·simp [Qae,lkp,ren1,ren0,dw]
     ·simp [Qar,lkp,Box.renames,Nat.add_assoc]
    ·have hB':((k:Int)<(lb:Int))=False:=by simp;omega
     obtain rfl:k=lb:=by omega
     have hwi:=Qak (a:=i) (by omega);have hin:i+k<la+k:=by omega
     have hin':(((i+k:Nat):Int)<((la+k:Nat):Int))=True:=by simp only [eq_iff_iff,iff_true];omega
     obtain⟨e,hget⟩: ∃e:Nat,((mix BW (mulV BW S x i b k) S (la+k) (i+k)).map fW)[i+k]? =some (PV.int .u64 (e:Int)):=⟨_,by rw [List.getElem?_map,Qdc _ _ _ _ _ hin];rfl⟩;have hV:mulV BW S x i b k=a%BW^(i+1)*b:=by rw [←hS,←hx];exact Q1g a i b k hblt
     have hS0:S/BW^(i+k)=0:=by
      rw [←hS];refine Nat.div_eq_of_lt ?_;have h1:=Nat.mod_lt a (Nat.pow_pos (n:=i) (show 0<BW by decide));rw [Nat.pow_add];rcases Nat.eq_zero_or_pos b with rfl|hb
      ·rw [Nat.mul_zero];exact Nat.mul_pos (Nat.pow_pos (by decide)) (Nat.pow_pos (by decide))
      ·exact Nat.lt_of_lt_of_le (Nat.mul_lt_mul_of_pos_right h1 hb) (Nat.mul_le_mul_left _ (Nat.le_of_lt hblt))
     have hC:=Qph (B:=BW) S x i b k;rw [hS0,Nat.add_zero]at hC;have hdig:mulV BW S x i b k/BW^(i+k)%BW=mulC BW S x i b k:=by rw [←hC,Nat.mod_eq_of_lt hcl]
     have hset:=Qed (B:=BW) (V:=mulV BW S x i b k) (W:=mulV BW S x i b k) (S:=S) (n:=la+k) (m:=i+k) (by decide) hin rfl hdig;have hmx:=Qf9 (B:=BW) (V:=mulV BW S x i b k) (S:=S) (n:=la+k) (m:=i+k+1) (by decide) (by
      rw [Nat.pow_succ,←Nat.div_div_eq_div_mul,←Nat.div_div_eq_div_mul,hS0,←hC,Nat.div_eq_of_lt hcl,Nat.zero_div])
     rw [hmx,hV]at hset;rw [hV]at hml hget;simp -implicitDefEqProofs only [go_sem,Nat.reduceAdd,Nat.reduceMul,Nat.reduceEqDiff,Nat.reduceLT,Nat.reduceLeDiff,Nat.reduceSub,Nat.reduceBEq,reduceIte,reduceCtorEq,Int.reduceEq,Int.reduceNe,Nat.reduceBneDiff,Int.reduceLE,Int.reduceLT,Int.reduceToNat,Int.reduceAdd,Int.reduceSub,Int.reduceMul,Int.reduceNeg,dw,List.length_map,hlb,hB',hwik,hik0,hin',hml,hget,hV,Int.toNat_natCast,hwi,Qcv,hset];refine⟨⟨i+1,hA⟩,by simp only;omega,Qas (θ:=[(105,105)]) rfl ?_ ?_⟩
     ·simp [Qae,lkp,ren1,ren0,dw]
     ·simp [Qar,lkp,Box.renames]
  ·have hA':((i:Int)<(la:Int))=False:=by simp;omega
   have hlt:a<BW^i:=(Qau BW_2 a i).1 (by omega);have hil:i=la:=by omega
   have hll:=Qai (B:=BW) (a%BW^i*b) (la+lb);have htk:((lows BW (a%BW^i*b) (la+lb)).map fW).take (la+lb)=(lows BW (a%BW^i*b) (la+lb)).map fW:=List.take_of_length_le (by simp [hll]);simp -implicitDefEqProofs only [go_sem,Nat.reduceAdd,Nat.reduceMul,Nat.reduceEqDiff,Nat.reduceLT,Nat.reduceLeDiff,Nat.reduceSub,Nat.reduceBEq,reduceIte,reduceCtorEq,Int.reduceEq,Int.reduceNe,Nat.reduceBneDiff,Int.reduceLE,Int.reduceLT,Int.reduceToNat,Int.reduceAdd,Int.reduceSub,Int.reduceMul,Int.reduceNeg,dw,List.length_map,hla,hA',hll,htk];refine Qag _ _ _ _ _ _ _ _ _ (Qc8 (lows BW (a%BW^i*b) (la+lb)) (by rw [hll];simp [maxLen];omega)) ?_;simp -implicitDefEqProofs only [go_sem,Nat.reduceAdd,Nat.reduceMul,Nat.reduceEqDiff,Nat.reduceLT,Nat.reduceLeDiff,Nat.reduceSub,Nat.reduceBEq,reduceIte,reduceCtorEq,Int.reduceEq,Int.reduceNe,Nat.reduceBneDiff,Int.reduceLE,Int.reduceLT,Int.reduceToNat,Int.reduceAdd,Int.reduceSub,Int.reduceMul,Int.reduceNeg,dw,List.length_map];rw [Qb1 BW_2,Nat.mod_eq_of_lt hlt,Nat.mod_eq_of_lt];rw [Nat.pow_add,←hil];rcases Nat.eq_zero_or_pos b with rfl|hb
   ·rw [Nat.mul_zero];exact Nat.mul_pos (Nat.pow_pos (by decide)) (Nat.pow_pos (by decide))
   ·exact Nat.lt_of_lt_of_le (Nat.mul_lt_mul_of_pos_right hlt hb) (Nat.mul_le_mul_left _ (Nat.le_of_lt hblt))
end Go.Proofs.YtobaaecbdlhpdaaGreat

namespace Go.Dg
theorem Qep (r:Nat) (hr:r≤64):WB=2^r*2^(64-r):=by
 rw [←Nat.pow_add,show r+(64-r)=64 by omega]
theorem Qtj (x r:Nat) (hr:r≤64):x*2^r%WB=2^r*(x%2^(64-r)):=by
 rw [Qep r hr,Nat.mul_comm x,Nat.mul_mod_mul_left]
theorem Qq5 (x c r:Nat) (hr:r≤64) (hc:c<2^r):(c ||| (x*2^r%WB))=(c+x*2^r)%WB∧(c+x*2^r)/WB=x/2^(64-r):=by
 have e1:=Qtj x r hr;have e2:(x*2^r)/WB=x/2^(64-r):=by
  rw [Qep r hr,Nat.mul_comm x,Nat.mul_div_mul_left _ _ (Nat.pow_pos (by decide))]
 have hlt:2^r*(x%2^(64-r))+c<WB:=by
  have h1:x%2^(64-r)<2^(64-r):=Nat.mod_lt _ (Nat.pow_pos (by decide));rw [Qep r hr];have:2^r*(x%2^(64-r))+2^r≤2^r*2^(64-r):=by
   rw [←Nat.mul_succ];exact Nat.mul_le_mul_left _ h1
  omega
 have e3:c+x*2^r=WB*(x/2^(64-r))+(2^r*(x%2^(64-r))+c):=by
  have:=Nat.div_add_mod (x*2^r) WB;rw [e1,e2]at this;omega
 constructor
 ·rw [e1,e3,Nat.mul_add_mod,Nat.mod_eq_of_lt hlt,Nat.or_comm,Nat.two_pow_add_eq_or_of_lt hc]
 ·rw [e3,Nat.mul_add_div (by decide),Nat.div_eq_of_lt hlt,Nat.add_zero]
def shlV (a w r i:Nat):Nat:=a%WB^i*2^r*WB^w
def shlC (a r i:Nat):Nat:=a%WB^i*2^r/WB^i
theorem Qln (a r i:Nat):shlC a r i<2^r:=by
 rw [shlC,Nat.div_lt_iff_lt_mul (Nat.pow_pos (by decide)),Nat.mul_comm];exact Nat.mul_lt_mul_of_pos_left (Nat.mod_lt _ (Nat.pow_pos (by decide))) (Nat.pow_pos (by decide))
theorem WBp (i:Nat):0<WB^i:=Nat.pow_pos (by decide)
theorem Qkz (a w r i:Nat):shlV a w r i/WB^(i+w)=shlC a r i:=by
 rw [shlV,shlC,Nat.add_comm i w,Nat.pow_add,←Nat.div_div_eq_div_mul,Nat.mul_div_cancel _ (WBp w)]
theorem Qq6 (a w r i:Nat):shlV a w r (i+1)=shlV a w r i+a/WB^i%WB*2^r*WB^(i+w):=by
 rw [shlV,shlV,Nat.pow_succ,Nat.mod_mul,Nat.add_mul,Nat.add_mul,Nat.pow_add];congr 1;simp only [Nat.mul_assoc,Nat.mul_comm,Nat.mul_left_comm]
theorem Qj1 (a w r i:Nat):shlV a w r (i+1)/WB^(i+w)=shlC a r i+a/WB^i%WB*2^r:=by
 rw [Qq6,Nat.add_mul_div_right _ _ (WBp _),Qkz]
theorem Qv6 (a w r i:Nat):shlV a w r i%WB^(i+w)=shlV a w r (i+1)%WB^(i+w):=by
 rw [Qq6,Nat.add_mul_mod_self_right]
theorem Q02 (a w r:Nat):shlV a w r 0=0:=by simp [shlV,Nat.mod_one]
theorem Q03 (a w r i:Nat) (h:a<WB^i):shlV a w r i=a*2^(64*w+r):=by
 rw [shlV,Nat.mod_eq_of_lt h,Nat.pow_add,Nat.pow_mul,show(2:Nat)^64=WB from rfl];simp only [Nat.mul_assoc,Nat.mul_comm,Nat.mul_left_comm]
theorem Qv7 (B V S n m:Nat) (hB:0<B) (h:V%B^m=S%B^m):mix B V S n m=lows B S n:=by
 apply List.map_congr_left;intro j _;split
 ·rename_i hj;exact Qlt hB h hj
 ·rfl
theorem Q04 {V W n j d:Nat} (hj:j<n) (h:V%WB^j=W%WB^j) (hd:W/WB^j%WB=d) (hu:W/WB^(j+1)=V/WB^(j+1)):(lows WB V n).set j d=lows WB W n:=by
 rw [←Qv7 WB W V n j (by decide) h.symm,Qed (V:=W) (W:=W) (by decide) hj rfl hd,Qf9 (by decide) hu]
theorem Q05 {V W n j d e:Nat} (hj:j+1<n) (h:V%WB^j=W%WB^j) (hd:W/WB^j%WB=d) (he:W/WB^(j+1)%WB=e) (hu:W/WB^(j+1+1)=V/WB^(j+1+1)):
  ((lows WB V n).set j d).set (j+1) e=lows WB W n:=by
 rw [←Qv7 WB W V n j (by decide) h.symm,Qed (V:=W) (W:=W) (by decide) (by omega) rfl hd,Qed (V:=W) (W:=W) (by decide) hj rfl he,Qf9 (by decide) hu]
theorem Q7o (a w i n:Nat) (hj:i+w<n):
  (lows WB (shlV a w 0 i) n).set (i+w) (a/WB^i%WB)=lows WB (shlV a w 0 (i+1)) n:=by
 have hc:shlC a 0 i=0:=by have:=Qln a 0 i;simp at this;exact this
 have h2:=Qj1 a w 0 i;rw [hc,Nat.pow_zero,Nat.mul_one,Nat.zero_add]at h2;have h1:=Qkz a w 0 i;rw [hc]at h1;refine Q04 hj (Qv6 a w 0 i) (by rw [h2,Nat.mod_mod]) ?_;rw [Nat.pow_succ,←Nat.div_div_eq_div_mul,←Nat.div_div_eq_div_mul,h1,h2,Nat.zero_div,Nat.div_eq_of_lt (Nat.mod_lt _ (by decide))]
theorem Q7p (a w r i n:Nat) (hr:r≤64) (hj:i+w+1<n):
  ((lows WB (shlV a w r i) n).set (i+w) (shlC a r i ||| (a/WB^i%WB*2^r%WB))).set (i+w+1) (a/WB^i%WB/2^(64-r))=lows WB (shlV a w r (i+1)) n:=by
 have hc:=Qln a r i;have h2:=Qj1 a w r i;have h1:=Qkz a w r i;obtain⟨e1,e2⟩:=Qq5 (a/WB^i%WB) (shlC a r i) r hr hc;have hx:a/WB^i%WB<WB:=Nat.mod_lt _ (by decide);have hx2:a/WB^i%WB/2^(64-r)<WB:=Nat.lt_of_le_of_lt (Nat.div_le_self _ _) hx;have hc2:shlC a r i<WB:=Nat.lt_of_lt_of_le hc (Nat.pow_le_pow_right (n:=2) (by decide) hr);rw [e1];refine Q05 hj (Qv6 a w r i) (by rw [h2]) ?_ ?_
 ·rw [Nat.pow_succ,←Nat.div_div_eq_div_mul,h2,e2,Nat.mod_eq_of_lt hx2]
 ·rw [Nat.pow_succ,Nat.pow_succ,←Nat.div_div_eq_div_mul,←Nat.div_div_eq_div_mul,←Nat.div_div_eq_div_mul,←Nat.div_div_eq_div_mul,h1,h2,e2,Nat.div_eq_of_lt hx2,Nat.div_eq_of_lt hc2,Nat.zero_div]
theorem Q06 (A i r:Nat) (h0:0<r) (hr:r<64):((A/WB^i%WB/2^r) ||| (A/WB^(i+1)%WB*2^(64-r)%WB))=A/2^r/WB^i%WB:=by
 have e0:A/WB^(i+1)=A/WB^i/WB:=by rw [Nat.pow_succ,Nat.div_div_eq_div_mul]
 have e1:A/2^r/WB^i=A/WB^i/2^r:=by rw [Nat.div_div_eq_div_mul,Nat.div_div_eq_div_mul,Nat.mul_comm]
 rw [e0,e1];generalize A/WB^i=X;have hlt:X%WB/2^r<2^(64-r):=by
  rw [Nat.div_lt_iff_lt_mul (Nat.pow_pos (by decide)),Nat.mul_comm,←Qep r (by omega)];exact Nat.mod_lt _ (by decide)
 obtain⟨s1,_⟩:=Qq5 (X/WB%WB) (X%WB/2^r) (64-r) (by omega) hlt;rw [s1];have hX:X=WB*(X/WB)+X%WB:=(Nat.div_add_mod X WB).symm;have hS:=Qep r (by omega);have e2:X/2^r=2^(64-r)*(X/WB)+X%WB/2^r:=by
  conv=>lhs;rw [hX,hS,Nat.mul_assoc]
  rw [Nat.mul_add_div (Nat.pow_pos (by decide)),←hS]
 rw [e2,Nat.mul_comm (2^(64-r)) (X/WB),Nat.add_comm];have hm:(X/WB%WB)*2^(64-r)%WB=X/WB*2^(64-r)%WB:=by rw [Nat.mod_mul_mod]
 rw [Nat.add_mod,hm,←Nat.add_mod]
theorem Zfo (A i r:Nat) (h:A/WB^(i+1)=0):A/WB^i%WB/2^r=A/2^r/WB^i%WB:=by
 have e1:A/2^r/WB^i=A/WB^i/2^r:=by rw [Nat.div_div_eq_div_mul,Nat.div_div_eq_div_mul,Nat.mul_comm]
 have hlt:A/WB^i<WB:=by
  rw [Nat.pow_succ,←Nat.div_div_eq_div_mul]at h;exact(Nat.div_eq_zero_iff_lt (by decide)).1 h
 rw [e1,Nat.mod_eq_of_lt hlt,Nat.mod_eq_of_lt (Nat.lt_of_le_of_lt (Nat.div_le_self _ _) hlt)]
section
variable {y1 y0 u d q r:Nat}
structure Guess (y1 y0 u d q r:Nat):Prop where
 part:q*y1+r=u
 big:(u*4294967296+d)/(y1*4294967296+y0)≤q
theorem Qtk (hy1:2147483648≤y1) (hu:u<y1*4294967296+y0) (hd:d<4294967296):Guess y1 y0 u d (u/y1) (u%y1):=by
 refine⟨by rw [Nat.mul_comm];exact Nat.div_add_mod u y1,?_⟩;have h1:(u*4294967296+d)/(y1*4294967296+y0)≤(u*4294967296+d)/(y1*4294967296):=Nat.div_le_div_left (by omega) (by omega);have h2:(u*4294967296+d)/(y1*4294967296)=u/y1:=by
  rw [Nat.mul_comm y1,←Nat.div_div_eq_div_mul];congr 1;omega
 omega
theorem Qn2 (h:Guess y1 y0 u d q r):(r*4294967296+d<q*y0↔u*4294967296+d<q*(y1*4294967296+y0)):=by
 have e:q*(y1*4294967296+y0)=q*y1*4294967296+q*y0:=by rw [Nat.mul_add,Nat.mul_assoc]
 have:=h.part;rw [e];omega
theorem Qxw (h:Guess y1 y0 u d q r) (hy:0<y1*4294967296+y0) (hq:(u*4294967296+d)<q*(y1*4294967296+y0)):0<q∧Guess y1 y0 u d (q-1) (r+y1):=by
 have hq0:0<q:=by
  rcases Nat.eq_zero_or_pos q with rfl|h
  ·omega
  ·exact h
 refine⟨hq0,?_,?_⟩
 ·obtain⟨p,rfl⟩: ∃p,q=p+1:=⟨q-1,by omega⟩;have:=h.part;rw [Nat.add_mul]at this;simp only [Nat.add_sub_cancel];omega
 ·have:=(Nat.div_lt_iff_lt_mul hy).2 hq;omega
theorem Qn3 (h:Guess y1 y0 u d q r) (hy:0<y1*4294967296+y0) (hq:q*(y1*4294967296+y0)≤u*4294967296+d):q=(u*4294967296+d)/(y1*4294967296+y0):=
 Nat.le_antisymm ((Nat.le_div_iff_mul_le hy).2 hq) h.big
theorem Qtl (hu:u<y1*4294967296+y0) (h:Guess y1 y0 u d q r) (hq:4294967296≤q):r<y0∧r<4294967296+y0:=by
 have h1:=Nat.mul_le_mul_right y1 hq;have h2:=h.part;omega
theorem Qxx (hu:u<y1*4294967296+y0) (hd:d<4294967296):(u*4294967296+d)/(y1*4294967296+y0)<4294967296:=by
 have:0<y1*4294967296+y0:=by omega
 rw [Nat.div_lt_iff_lt_mul this];omega
end
end Go.Dg

namespace Go.Dg
section
variable {B:Nat}
theorem Q7q (hB:0<B) (R D j:Nat) (hD:0<D):R%(D*B^(j+1))/B^j/D=R/D/B^j%B:=by
 rw [Nat.div_div_eq_div_mul,Nat.div_div_eq_div_mul,Nat.mul_comm (B^j) D,Nat.pow_succ,←Nat.mul_assoc,Nat.mod_mul_right_div_self]
theorem Zfp (R D j:Nat):R%(D*B^(j+1))%(D*B^j)=R%(D*B^j):=by
 rw [Nat.pow_succ,←Nat.mul_assoc,Nat.mod_mul_right_mod]
theorem Q7r (hB:0<B) (S D j:Nat) (hD:0<D):S%(D*B^j)/B^j=S/B^j%D:=by
 rw [Nat.mul_comm,Nat.mod_mul_right_div_self]
theorem Q7s (hB:0<B) (S D j:Nat):S%(D*B^j)%B^j=S%B^j:=by
 rw [Nat.mul_comm,Nat.mod_mul_right_mod]
theorem Qxy (hB:0<B) (W d k:Nat) (ht:0<d/B^k):W/d≤W/B^k/(d/B^k):=by
 have h1:d/B^k*B^k≤d:=Nat.div_mul_le_self d (B^k);have h2:W/d≤W/(B^k*(d/B^k)):=Nat.div_le_div_left (by rw [Nat.mul_comm];exact h1) (Nat.mul_pos (Nat.pow_pos hB) ht)
 rwa [←Nat.div_div_eq_div_mul]at h2
theorem Zfq (hB:0<B) (W k:Nat):W/B^k=W/B^(k+1)*B+W/B^k%B:=by
 have:=Qib hB W k;rw [Nat.mul_comm]at this;exact this
theorem Q07 (hB:0<B) {V W n j:Nat} {x:List Nat} (hj:j+x.length≤n) (h:V%B^j=W%B^j) (hx:x=lows B (W/B^j) x.length) (hu:W/B^(j+x.length)=V/B^(j+x.length)):
  (lows B V n).take j++x++(lows B V n).drop (j+x.length)=lows B W n:=by
 apply List.ext_getElem?;intro i;by_cases h1:i<n
 ·rw [Qbq _ _ _ h1];by_cases h2:i<j
  ·rw [List.append_assoc,List.getElem?_append_left (by simp [Qai];omega),List.getElem?_take_of_lt h2,Qbq _ _ _ h1,Qlt hB h h2]
  ·by_cases h3:i<j+x.length
   ·rw [List.append_assoc,List.getElem?_append_right (by simp [Qai];omega),List.getElem?_append_left (by simp [Qai];omega)];have e:i-((lows B V n).take j).length=i-j:=by simp [Qai];omega
    rw [e,hx,Qbq _ _ _ (by omega),Nat.div_div_eq_div_mul,←Nat.pow_add,show j+(i-j)=i by omega]
   ·rw [List.getElem?_append_right (by simp [Qai];omega),List.getElem?_drop];have e:j+x.length+(i-((lows B V n).take j++x).length)=i:=by simp [Qai];omega
    rw [e,Qbq _ _ _ h1];have e2:i=(j+x.length)+(i-(j+x.length)):=by omega
    rw [e2,Nat.pow_add,←Nat.div_div_eq_div_mul,←Nat.div_div_eq_div_mul,hu]
 ·rw [List.getElem?_eq_none (by simp [Qai];omega),List.getElem?_eq_none (by rw [Qai];omega)]
end
theorem Qh8 (hB:2≤18446744073709551616) (n i:Nat) (h:(digs WB n).length≤i):digs WB n++List.replicate (i-(digs WB n).length) 0=lows WB n i:=by
 apply List.ext_getElem?;intro k;by_cases h1:k<i
 ·rw [Qbq _ _ _ h1];by_cases h2:k<(digs WB n).length
  ·rw [List.getElem?_append_left h2,Qav hB h2]
  ·rw [List.getElem?_append_right (by omega),Qcd hB (Nat.le_of_not_lt h2),Nat.zero_mod,List.getElem?_replicate,if_pos (by omega)]
 ·rw [List.getElem?_eq_none (by simp;omega),List.getElem?_eq_none (by rw [Qai];omega)]
theorem Qlo (B V n j k:Nat) (h:j+k≤n):((lows B V n).drop j).take k=lows B (V/B^j) k:=by
 apply List.ext_getElem?;intro i;by_cases h1:i<k
 ·rw [List.getElem?_take_of_lt h1,List.getElem?_drop,Qbq _ _ _ (by omega),Qbq _ _ _ h1,Nat.div_div_eq_div_mul,←Nat.pow_add]
 ·rw [List.getElem?_eq_none (by simp;omega),List.getElem?_eq_none (by rw [Qai];omega)]
end Go.Dg

namespace Go.Dg
section
variable {y u d q r:Nat}
structure Kn (y u d q r:Nat):Prop where
 g:Guess (y/4294967296) (y%4294967296) u d q r
 small:r<4294967296
theorem Qeb (y:Nat):y/4294967296*4294967296+y%4294967296=y:=by omega
theorem Qk0 (h1:9223372036854775808≤y) (h2:y<18446744073709551616) (hu:u<y) (hd:d<4294967296):Kn y u d (u/(y/4294967296)) (u%(y/4294967296)):=by
 refine⟨Qtk (by omega) (by omega) hd,?_⟩;have:=Nat.mod_lt u (show 0<y/4294967296 by omega);omega
theorem kn_q (h1:9223372036854775808≤y) (h2:y<18446744073709551616) (hu:u<y) (h:Kn y u d q r):q≤4294967297:=by
 rcases Nat.lt_or_ge q 4294967298 with h'|h'
 ·omega
 ·have h3:=h.g.part;have h4:=Nat.mul_le_mul_right (y/4294967296) h';omega
theorem Qo3 (h:Kn y u d q r):(r*4294967296+d<q*(y%4294967296))↔u*4294967296+d<q*y:=by
 have:=Qn2 h.g
 rwa [Qeb]at this
theorem Qo4 (h1:9223372036854775808≤y) (hu:u<y) (h:Kn y u d q r) (hq:u*4294967296+d<q*y):0<q∧Guess (y/4294967296) (y%4294967296) u d (q-1) (r+y/4294967296):=by
 have:=Qxw h.g (by rw [Qeb];omega) (by rw [Qeb];exact hq);exact this
theorem Qk1 (h1:9223372036854775808≤y) (hu:u<y) (hd:d<4294967296) (h:Guess (y/4294967296) (y%4294967296) u d q r) (hr:4294967296≤r):q=(u*4294967296+d)/y:=by
 have hlt:q<4294967296:=by
  rcases Nat.lt_or_ge q 4294967296 with h'|h'
  ·exact h'
  ·have:=(Qtl (by rw [Qeb];exact hu) h h').1;omega
 have:=Qn3 h (by rw [Qeb];omega) (by
  have h3: ¬(r*4294967296+d<q*(y%4294967296)):=by
   have:q*(y%4294967296)≤4294967295*4294967295:=Nat.mul_le_mul (by omega) (by omega);omega
  rw [Qn2 h]at h3;omega)
 rwa [Qeb]at this
theorem Qo5 (h1:9223372036854775808≤y) (h:Kn y u d q r) (hq: ¬u*4294967296+d<q*y):q=(u*4294967296+d)/y:=by
 have:=Qn3 h.g (by rw [Qeb];omega) (by rw [Qeb];omega)
 rwa [Qeb]at this
theorem Qi9 (hu:u<y) (hd:d<4294967296):(u*4294967296+d)/y<4294967296:=by
 have:=Qxx (y1:=y/4294967296) (y0:=y%4294967296) (by rw [Qeb];exact hu) hd
 rwa [Qeb]at this
end
theorem Qxz {hi lo y s:Nat} (hs:s≤64) (hlo:lo<18446744073709551616) (hhi:hi<y) (hy:0<y):
  let Y:=y*2^s
  let u:=hi*2^s+lo/2^(64-s)
  let t:=lo*2^s%18446744073709551616
  let a:=u*4294967296+t/4294967296
  let b:=a%Y*4294967296+t%4294967296
  a/Y*4294967296+b/Y=(hi*18446744073709551616+lo)/y∧b%Y/2^s=(hi*18446744073709551616+lo)%y:=by
 intro Y u t a b;have hp:0<2^s:=Nat.pow_pos (by decide);have hY:0<Y:=Nat.mul_pos hy hp;have e1:(hi*18446744073709551616+lo)*2^s=u*18446744073709551616+t:=by
  have hd:lo*2^s/18446744073709551616=lo/2^(64-s):=by
   have:=Qep s hs;simp only [WB]at this;rw [this,Nat.mul_comm lo,Nat.mul_div_mul_left _ _ hp]
  have:=Nat.div_add_mod (lo*2^s) 18446744073709551616;rw [hd]at this;simp only [u,t];rw [Nat.add_mul,Nat.mul_right_comm];generalize hi*2^s=p at*;omega
 have e2:(hi*18446744073709551616+lo)*2^s=a*4294967296+t%4294967296:=by
  rw [e1];simp only [a];omega
 have e3:(hi*18446744073709551616+lo)*2^s=Y*(a/Y*4294967296+b/Y)+b%Y:=by
  have h3:=Nat.div_add_mod a Y;have h4:=Nat.div_add_mod b Y;rw [e2,Nat.mul_add,←Nat.mul_assoc];simp only [b]at h4 ⊢;omega
 have hb:b%Y<Y:=Nat.mod_lt _ hY;have e4:(hi*18446744073709551616+lo)*2^s/Y=a/Y*4294967296+b/Y:=by
  rw [e3,Nat.mul_add_div hY,Nat.div_eq_of_lt hb,Nat.add_zero]
 have e5:(hi*18446744073709551616+lo)*2^s%Y=b%Y:=by
  rw [e3,Nat.mul_add_mod,Nat.mod_eq_of_lt hb]
 constructor
 ·rw [←e4];exact Nat.mul_div_mul_right _ _ hp
 ·rw [←e5,Nat.mul_mod_mul_right,Nat.mul_div_cancel _ hp]
end Go.Dg

namespace Go.Proofs.YtobaaecbdlhpdaaGreat
open Go.Vl Go.RowKit Go.Dg
theorem Qur (a b:Nat):Int.tdiv (a:Int) (b:Int)=((a/b:Nat):Int):=rfl
theorem Zol (a b:Nat):Int.tmod (a:Int) (b:Int)=((a%b:Nat):Int):=rfl
theorem Zkw (y:Nat):y<2^blen y:=by
 rcases Nat.lt_or_ge y (2^blen y)with h|h
 ·exact h
 ·have:=Qlk _ _ h;omega
theorem Zkx {y:Nat} (h:0<y):2^(blen y-1)≤y∧0<blen y:=by
 have h0:0<blen y:=Qlk 0 y (by rw [Nat.pow_zero];omega);refine⟨?_,h0⟩;rcases Nat.lt_or_ge y (2^(blen y-1))with h1|h1
 ·have:=Qdb _ _ h1;omega
 ·exact h1
attribute [local go_sem high] Zdd
theorem Qbx (n:Int):IntKind.u64.wrap n=n%18446744073709551616:=by simp [IntKind.wrap,IntKind.bits,IntKind.signed]
theorem Qme {n:Nat} (h:n<18446744073709551616):IntKind.u64.wrap (n:Int)=n:=by rw [Qdi,Nat.mod_eq_of_lt h]
theorem Q5c (u y:Nat) (h:u<18446744073709551616):IntKind.u64.wrap ((u:Int)-IntKind.u64.wrap (((u/y:Nat):Int)*(y:Int)))=((u%y:Nat):Int):=by
 have h:=Nat.div_add_mod u y;rw [←Int.natCast_mul,Nat.mul_comm (u/_)];generalize y*(u/y)=p at*;generalize u%y=r at*;rw [Qbx,Qbx];omega
theorem Qww (u d Y:Nat) (hY:0<Y) (h2:Y<18446744073709551616):IntKind.u64.wrap (IntKind.u64.wrap (IntKind.u64.wrap ((u:Int)*4294967296)+(d:Int))-IntKind.u64.wrap ((((u*4294967296+d)/Y:Nat):Int)*(Y:Int)))=(((u*4294967296+d)%Y:Nat):Int):=by
 have h:=Nat.div_add_mod (u*4294967296+d) Y;have hm:=Nat.mod_lt (u*4294967296+d) hY;rw [←Int.natCast_mul,Nat.mul_comm ((u*4294967296+d)/Y)];generalize Y*((u*4294967296+d)/Y)=p at*;generalize (u*4294967296+d)%Y=r at*;rw [Qbx,Qbx,Qbx,Qbx];omega
theorem Zc5 {p q:Nat} (hp:p<4294967296) (hq:q<4294967296):IntKind.u64.wrap (IntKind.u64.wrap ((p:Int)*4294967296)+(q:Int))=((p*4294967296+q:Nat):Int):=by
 rw [Qbx,Qbx];omega
theorem Qet {p q:Nat} (hp:p<4294967296) (hq:q<4294967296):IntKind.u64.wrap ((p:Int)*(q:Int))=((p*q:Nat):Int):=by
 have:p*q≤4294967295*4294967295:=Nat.mul_le_mul (by omega) (by omega);rw [←Int.natCast_mul,Qbx];generalize p*q=n at*;omega
theorem Qpx {r:Nat} (hr:r<4294967296):IntKind.u64.wrap (4294967296*(r:Int))=((r*4294967296:Nat):Int):=by rw [Qbx];omega
theorem Qlb {r d:Nat} (hr:r<4294967296) (hd:d<4294967296):IntKind.u64.wrap (((r*4294967296:Nat):Int)+(d:Int))=((r*4294967296+d:Nat):Int):=by rw [Qbx];omega
theorem Qpy {q:Nat} (h0:0<q) (h:q≤4294967297):IntKind.u64.wrap ((q:Int)-1)=((q-1:Nat):Int):=by rw [Qbx];omega
theorem Qpz {r y:Nat} (h0:r<4294967296) (h:y<4294967296):IntKind.u64.wrap ((r:Int)+(y:Int))=((r+y:Nat):Int):=by rw [Qbx];omega
theorem m32:(2:Nat)^min 32 64=4294967296:=rfl
set_option maxHeartbeats 2000000 in
theorem Q5d (hi lo y:Nat) (hy:hi<y) (hyl:y<18446744073709551616) (hlo:lo<18446744073709551616):Qaf Tryz.prog 105 [.int .u64 (hi:Int),.int .u64 (lo:Int),.int .u64 (y:Int)] (.tup [.int .u64 (((hi*18446744073709551616+lo)/y:Nat):Int),.int .u64 (((hi*18446744073709551616+lo)%y:Nat):Int)]):=by
 have g1:(((y:Nat):Int)==0)=false:=by simp only [beq_eq_false_iff_ne,ne_eq];omega
 have g2:(((y:Nat):Int)≤((hi:Nat):Int))=False:=by simp only [eq_iff_iff,iff_false];omega
 have g3:(((y:Nat):Int)=0)=False:=by simp only [eq_iff_iff,iff_false];omega
 by_cases h0:hi=0
 ·subst h0;have g4:((((0:Nat):Nat):Int)==0)=true:=rfl;have g5:IntKind.u64.wrap (((lo/y:Nat):Int))=((lo/y:Nat):Int):=by rw [Qdi,Nat.mod_eq_of_lt (Nat.lt_of_le_of_lt (Nat.div_le_self _ _) hlo)]
  rw [Nat.zero_mul,Nat.zero_add];refine Qac (tb:=[]) 135 [.tmp 6,.tmp 7] [0,1,2,6,7,8,9,10,11,12,13,14,15,16,17,18,20,24,27,78,85,113,120] mixed Tryz.func105 rfl (by kernel_rfl) (by kernel_rfl) (by kernel_rfl) (by kernel_rfl) ?_;simp -implicitDefEqProofs only [go_sem,Nat.reduceAdd,Nat.reduceMul,Nat.reduceEqDiff,Nat.reduceLT,Nat.reduceLeDiff,Nat.reduceSub,Nat.reduceBEq,reduceIte,reduceCtorEq,Int.reduceEq,Int.reduceNe,Nat.reduceBneDiff,Int.reduceLE,Int.reduceLT,Int.reduceToNat,Int.reduceAdd,Int.reduceSub,Int.reduceMul,Int.reduceNeg,g1,g2,g3,g4,Qur,Zol,g5];exact Qaa _ _ (by kernel_rfl)
 ·have g4:(((hi:Nat):Int)==0)=false:=by simp only [beq_eq_false_iff_ne,ne_eq];omega
  obtain⟨b1,b2⟩:=Zkx (show 0<y by omega);have b3:=Zkw y;have b4:=Qdb 64 y hyl;obtain⟨s,hs⟩: ∃s,s=64-blen y:=⟨_,rfl⟩;have hs64:s<64:=by omega
  have hmin:min s 64=s:=by omega
  have hmin2:min (64-s) 64=64-s:=by omega
  obtain⟨D1,D2⟩:=Qxz (hi:=hi) (lo:=lo) (y:=y) (s:=s) (by omega) hlo hy (by omega);have hY1:9223372036854775808≤y*2^s:=by
   have:=Nat.mul_le_mul_right (2^s) b1;rw [←Nat.pow_add,show blen y-1+s=63 by omega]at this;exact this
  have hY2:y*2^s<18446744073709551616:=by
   have:=Nat.mul_lt_mul_of_pos_right b3 (show 0<2^s from Nat.pow_pos (by decide));rw [←Nat.pow_add,show blen y+s=64 by omega]at this;exact this
  have hu:hi*2^s+lo/2^(64-s)<y*2^s:=by
   have h1:lo/2^(64-s)<2^s:=by
    have:=Qep s (by omega);simp only [WB]at this;rw [this,Nat.mul_comm]at hlo;exact Nat.div_lt_of_lt_mul hlo
   have h2:hi*2^s+2^s≤y*2^s:=by rw [←Nat.succ_mul];exact Nat.mul_le_mul_right _ hy
   omega
  have hor:(hi*2^s%18446744073709551616%18446744073709551616 ||| lo/2^(64-s)%18446744073709551616)=hi*2^s+lo/2^(64-s):=by
   have h1:lo/2^(64-s)<2^s:=by
    have:=Qep s (by omega);simp only [WB]at this;rw [this,Nat.mul_comm]at hlo;exact Nat.div_lt_of_lt_mul hlo
   rw [Nat.mod_mod,Nat.mod_eq_of_lt (Nat.lt_of_le_of_lt (Nat.le_trans (Nat.le_add_right _ _) (Nat.le_of_lt hu)) hY2),Nat.mod_eq_of_lt (Nat.lt_of_le_of_lt (Nat.le_trans (Nat.le_add_left _ _) (Nat.le_of_lt hu)) hY2),Nat.mul_comm hi,Nat.two_pow_add_eq_or_of_lt h1]
  have k1:((((s:Nat):Int))<0)=False:=by simp only [eq_iff_iff,iff_false];omega
  have k2:IntKind.u64.wrap (64-((s:Nat):Int))=((64-s:Nat):Int):=by
   rw [show(64:Int)-((s:Nat):Int)=((64-s:Nat):Int)by omega,Qdi,Nat.mod_eq_of_lt (by omega)]
  have k3:((((64-s:Nat):Nat):Int)<0)=False:=by simp only [eq_iff_iff,iff_false];omega
  have k4:IntKind.u64.wrap (((64-blen y:Nat):Int))=((s:Nat):Int):=by rw [←hs,Qdi,Nat.mod_eq_of_lt (by omega)]
  have hyt:(((y*2^s/4294967296:Nat):Int)=0)=False:=by simp only [eq_iff_iff,iff_false];omega
  have k5:y*2^s%18446744073709551616=y*2^s:=Nat.mod_eq_of_lt hY2;refine Qac (tb:=[]) 135 [.tmp 6,.tmp 7] [0,1,2,6,7,8,9,10,11,12,13,14,15,16,17,18,20,24,27,78,85,113,120] mixed Tryz.func105 rfl (by kernel_rfl) (by kernel_rfl) (by kernel_rfl) (by kernel_rfl) ?_;simp -implicitDefEqProofs only [go_sem,Nat.reduceAdd,Nat.reduceMul,Nat.reduceEqDiff,Nat.reduceLT,Nat.reduceLeDiff,Nat.reduceSub,Nat.reduceBEq,reduceIte,reduceCtorEq,Int.reduceEq,Int.reduceNe,Nat.reduceBneDiff,Int.reduceLE,Int.reduceLT,Int.reduceToNat,Int.reduceAdd,Int.reduceSub,Int.reduceMul,Int.reduceNeg,g1,g2,g4];refine Qag _ _ _ _ _ _ _ _ _ (Q5k y hyl) ?_;simp -implicitDefEqProofs only [go_sem,Nat.reduceAdd,Nat.reduceMul,Nat.reduceEqDiff,Nat.reduceLT,Nat.reduceLeDiff,Nat.reduceSub,Nat.reduceBEq,reduceIte,reduceCtorEq,Int.reduceEq,Int.reduceNe,Nat.reduceBneDiff,Int.reduceLE,Int.reduceLT,Int.reduceToNat,Int.reduceAdd,Int.reduceSub,Int.reduceMul,Int.reduceNeg,k4,k1,k2,k3,hmin,hmin2,Int.toNat_natCast,Qmh,Qir,m32,Zel,k5,hor,Qur,hyt];clear g1 g2 g3 g4 k4 k5 hor b1 b2 b3 b4 hs;generalize hi*2^s+lo/2^(64-s)=u at*;generalize y*2^s=Y at*;have htl:lo*2^s%18446744073709551616<18446744073709551616:=Nat.mod_lt _ (by decide);generalize lo*2^s%18446744073709551616=t at*;have hd1:t/4294967296<4294967296:=by omega
  have hd0:t%4294967296<4294967296:=by omega
  generalize t/4294967296=d1 at*;generalize t%4294967296=d0 at*;have i5:=Qme (n:=u/(Y/4294967296)) (Nat.lt_of_le_of_lt (Nat.div_le_self _ _) (Nat.lt_trans hu hY2));have i6:=Q5c u (Y/4294967296) (Nat.lt_trans hu hY2);have l4:=Qww u d1 Y (by omega) hY2;obtain⟨v,hvd⟩: ∃v,v=(u*4294967296+d1)%Y:=⟨_,rfl⟩;have hv:v<Y:=by rw [hvd];exact Nat.mod_lt _ (by omega)
  rw [←hvd]at D1 D2 l4;have l5:=Qme (n:=v/(Y/4294967296)) (Nat.lt_of_le_of_lt (Nat.div_le_self _ _) (Nat.lt_trans hv hY2));have l6:=Q5c v (Y/4294967296) (Nat.lt_trans hv hY2);have f1:=Zc5 (Qi9 hu hd1) (Qi9 hv hd0);have f2:=Qww v d0 Y (by omega) hY2;simp only [i5,i6];clear hvd i5 i6;refine Qa4 mixed (fun p:{p:Nat×Nat // Kn Y u d1 p.1 p.2}=>St.of [(2,.int .u64 ((Y:Nat):Int)),(8,.int .u64 ((s:Nat):Int)),(9,.int .u64 ((Y/4294967296:Nat):Int)),(10,.int .u64 ((Y%4294967296:Nat):Int)),(11,.int .u64 ((u:Nat):Int)),(13,.int .u64 ((d1:Nat):Int)),(14,.int .u64 ((d0:Nat):Int)),(15,.int .u64 ((p.1.1:Nat):Int)),(16,.int .u64 ((p.1.2:Nat):Int))] []) (fun p=>p.1.1) ⟨(u/(Y/4294967296),u%(Y/4294967296)),Qk0 hY1 hY2 hu hd1⟩ ?_ ?_
  ·exact Qa3 (by simp [Qae,lkp,ren1,ren0])
  ·rintro⟨⟨q,r⟩,hK⟩;have hq:=kn_q hY1 hY2 hu hK;have hr:r<4294967296:=hK.small;have ht:=Qo3 hK;simp only at hq hr ht hK ⊢;have hy1:Y/4294967296<4294967296:=by omega
   have hy0:Y%4294967296<4294967296:=by omega
   have e5:=Qpz hr hy1;have w1:=Qpx hr;have w2:=Qlb hr hd1;by_cases hc:u*4294967296+d1<q*Y
   ·obtain⟨hq0,hG⟩:=Qo4 hY1 hu hK hc;have e4:=Qpy hq0 hq;have hbig:(4294967296:Int)≤((q:Nat):Int)∨((4294967296:Int)≤((q:Nat):Int))=False∧IntKind.u64.wrap (((q:Nat):Int)*((Y%4294967296:Nat):Int))=((q*(Y%4294967296):Nat):Int):=by
     by_cases h:4294967296≤q
     ·left;omega
     ·right;exact⟨by simp only [eq_iff_iff,iff_false];omega,Qet (by omega) hy0⟩
    have w3:(((r*4294967296+d1:Nat):Int)<((q*(Y%4294967296):Nat):Int))=True:=by
     simp only [eq_iff_iff,iff_true];have:=ht.2 hc;omega
    by_cases hbr:4294967296≤r+Y/4294967296
    ·have hbr':((4294967296:Int)≤((r+Y/4294967296:Nat):Int))=True:=by simp only [eq_iff_iff,iff_true];omega
     have hQ:=Qk1 hY1 hu hd1 hG hbr;rcases hbig with h|⟨h,w0⟩
     ·have h':((4294967296:Int)≤((q:Nat):Int))=True:=by simp only [eq_iff_iff,iff_true];exact h
      rw [hQ]at e4;simp -implicitDefEqProofs only [go_sem,Nat.reduceAdd,Nat.reduceMul,Nat.reduceEqDiff,Nat.reduceLT,Nat.reduceLeDiff,Nat.reduceSub,Nat.reduceBEq,reduceIte,reduceCtorEq,Int.reduceEq,Int.reduceNe,Nat.reduceBneDiff,Int.reduceLE,Int.reduceLT,Int.reduceToNat,Int.reduceAdd,Int.reduceSub,Int.reduceMul,Int.reduceNeg,h',e4,e5,hbr'];simp -implicitDefEqProofs only [go_sem,Nat.reduceAdd,Nat.reduceMul,Nat.reduceEqDiff,Nat.reduceLT,Nat.reduceLeDiff,Nat.reduceSub,Nat.reduceBEq,reduceIte,reduceCtorEq,Int.reduceEq,Int.reduceNe,Nat.reduceBneDiff,Int.reduceLE,Int.reduceLT,Int.reduceToNat,Int.reduceAdd,Int.reduceSub,Int.reduceMul,Int.reduceNeg,l4,Qur,hyt,l5,l6];refine Qa4 mixed (fun p:{p:Nat×Nat // Kn Y v d0 p.1 p.2}=>St.of [(2,.int .u64 ((Y:Nat):Int)),(8,.int .u64 ((s:Nat):Int)),(9,.int .u64 ((Y/4294967296:Nat):Int)),(10,.int .u64 ((Y%4294967296:Nat):Int)),(14,.int .u64 ((d0:Nat):Int)),(15,.int .u64 (((u*4294967296+d1)/Y:Nat):Int)),(17,.int .u64 ((v:Nat):Int)),(18,.int .u64 ((p.1.1:Nat):Int)),(16,.int .u64 ((p.1.2:Nat):Int))] []) (fun p=>p.1.1) ⟨(v/(Y/4294967296),v%(Y/4294967296)),Qk0 hY1 hY2 hv hd0⟩ ?_ ?_
      ·exact Qa3 (by simp [Qae,lkp,ren1,ren0])
      ·rintro⟨⟨q,r⟩,hK⟩;have hq:=kn_q hY1 hY2 hv hK;have hr:r<4294967296:=hK.small;have ht:=Qo3 hK;simp only at hq hr ht hK ⊢;have hy1:Y/4294967296<4294967296:=by omega
       have hy0:Y%4294967296<4294967296:=by omega
       have e5:=Qpz hr hy1;have w1:=Qpx hr;have w2:=Qlb hr hd0;by_cases hc:v*4294967296+d0<q*Y
       ·obtain⟨hq0,hG⟩:=Qo4 hY1 hv hK hc;have e4:=Qpy hq0 hq;have hbig:(4294967296:Int)≤((q:Nat):Int)∨((4294967296:Int)≤((q:Nat):Int))=False∧IntKind.u64.wrap (((q:Nat):Int)*((Y%4294967296:Nat):Int))=((q*(Y%4294967296):Nat):Int):=by
         by_cases h:4294967296≤q
         ·left;omega
         ·right;exact⟨by simp only [eq_iff_iff,iff_false];omega,Qet (by omega) hy0⟩
        have w3:(((r*4294967296+d0:Nat):Int)<((q*(Y%4294967296):Nat):Int))=True:=by
         simp only [eq_iff_iff,iff_true];have:=ht.2 hc;omega
        by_cases hbr:4294967296≤r+Y/4294967296
        ·have hbr':((4294967296:Int)≤((r+Y/4294967296:Nat):Int))=True:=by simp only [eq_iff_iff,iff_true];omega
         have hQ:=Qk1 hY1 hv hd0 hG hbr;rcases hbig with h|⟨h,w0⟩
         ·have h':((4294967296:Int)≤((q:Nat):Int))=True:=by simp only [eq_iff_iff,iff_true];exact h
          rw [hQ]at e4;simp -implicitDefEqProofs only [go_sem,Nat.reduceAdd,Nat.reduceMul,Nat.reduceEqDiff,Nat.reduceLT,Nat.reduceLeDiff,Nat.reduceSub,Nat.reduceBEq,reduceIte,reduceCtorEq,Int.reduceEq,Int.reduceNe,Nat.reduceBneDiff,Int.reduceLE,Int.reduceLT,Int.reduceToNat,Int.reduceAdd,Int.reduceSub,Int.reduceMul,Int.reduceNeg,h',e4,e5,hbr'];simp -implicitDefEqProofs only [go_sem,Nat.reduceAdd,Nat.reduceMul,Nat.reduceEqDiff,Nat.reduceLT,Nat.reduceLeDiff,Nat.reduceSub,Nat.reduceBEq,reduceIte,reduceCtorEq,Int.reduceEq,Int.reduceNe,Nat.reduceBneDiff,Int.reduceLE,Int.reduceLT,Int.reduceToNat,Int.reduceAdd,Int.reduceSub,Int.reduceMul,Int.reduceNeg,f1,f2,k1,hmin,Int.toNat_natCast,Qir];rw [←D1,←D2]
         ·rw [hQ]at e4;simp -implicitDefEqProofs only [go_sem,Nat.reduceAdd,Nat.reduceMul,Nat.reduceEqDiff,Nat.reduceLT,Nat.reduceLeDiff,Nat.reduceSub,Nat.reduceBEq,reduceIte,reduceCtorEq,Int.reduceEq,Int.reduceNe,Nat.reduceBneDiff,Int.reduceLE,Int.reduceLT,Int.reduceToNat,Int.reduceAdd,Int.reduceSub,Int.reduceMul,Int.reduceNeg,h,w0,w1,w2,w3,e4,e5,hbr'];simp -implicitDefEqProofs only [go_sem,Nat.reduceAdd,Nat.reduceMul,Nat.reduceEqDiff,Nat.reduceLT,Nat.reduceLeDiff,Nat.reduceSub,Nat.reduceBEq,reduceIte,reduceCtorEq,Int.reduceEq,Int.reduceNe,Nat.reduceBneDiff,Int.reduceLE,Int.reduceLT,Int.reduceToNat,Int.reduceAdd,Int.reduceSub,Int.reduceMul,Int.reduceNeg,f1,f2,k1,hmin,Int.toNat_natCast,Qir];rw [←D1,←D2]
        ·have hbr':((4294967296:Int)≤((r+Y/4294967296:Nat):Int))=False:=by simp only [eq_iff_iff,iff_false];omega
         have next: ∃y:{p:Nat×Nat // Kn Y v d0 p.1 p.2},y.1.1<q∧y.1=(q-1,r+Y/4294967296):=⟨⟨(q-1,r+Y/4294967296),hG,by simp only;omega⟩,by simp only;omega,rfl⟩
         obtain⟨y,y1,y2⟩:=next
         rcases hbig with h|⟨h,w0⟩
         ·have h':((4294967296:Int)≤((q:Nat):Int))=True:=by simp only [eq_iff_iff,iff_true];exact h
          simp -implicitDefEqProofs only [go_sem,Nat.reduceAdd,Nat.reduceMul,Nat.reduceEqDiff,Nat.reduceLT,Nat.reduceLeDiff,Nat.reduceSub,Nat.reduceBEq,reduceIte,reduceCtorEq,Int.reduceEq,Int.reduceNe,Nat.reduceBneDiff,Int.reduceLE,Int.reduceLT,Int.reduceToNat,Int.reduceAdd,Int.reduceSub,Int.reduceMul,Int.reduceNeg,h',e4,e5,hbr'];refine⟨y,y1,Qa3 ?_⟩;simp [Qae,lkp,ren1,ren0,y2]
         ·simp -implicitDefEqProofs only [go_sem,Nat.reduceAdd,Nat.reduceMul,Nat.reduceEqDiff,Nat.reduceLT,Nat.reduceLeDiff,Nat.reduceSub,Nat.reduceBEq,reduceIte,reduceCtorEq,Int.reduceEq,Int.reduceNe,Nat.reduceBneDiff,Int.reduceLE,Int.reduceLT,Int.reduceToNat,Int.reduceAdd,Int.reduceSub,Int.reduceMul,Int.reduceNeg,h,w0,w1,w2,w3,e4,e5,hbr'];refine⟨y,y1,Qa3 ?_⟩;simp [Qae,lkp,ren1,ren0,y2]
       ·have hQ:=Qo5 hY1 hK hc;have hq2:q<4294967296:=by rw [hQ];exact Qi9 hv hd0
        have h:((4294967296:Int)≤((q:Nat):Int))=False:=by simp only [eq_iff_iff,iff_false];omega
        have w0:=Qet hq2 hy0;have w3:(((r*4294967296+d0:Nat):Int)<((q*(Y%4294967296):Nat):Int))=False:=by
         simp only [eq_iff_iff,iff_false];have:=mt ht.1 hc;omega
        simp -implicitDefEqProofs only [go_sem,Nat.reduceAdd,Nat.reduceMul,Nat.reduceEqDiff,Nat.reduceLT,Nat.reduceLeDiff,Nat.reduceSub,Nat.reduceBEq,reduceIte,reduceCtorEq,Int.reduceEq,Int.reduceNe,Nat.reduceBneDiff,Int.reduceLE,Int.reduceLT,Int.reduceToNat,Int.reduceAdd,Int.reduceSub,Int.reduceMul,Int.reduceNeg,h,w0,w1,w2,w3];clear hK hq hr ht e5 hc hq2 h w0 w1 w2 w3;subst hQ;simp -implicitDefEqProofs only [go_sem,Nat.reduceAdd,Nat.reduceMul,Nat.reduceEqDiff,Nat.reduceLT,Nat.reduceLeDiff,Nat.reduceSub,Nat.reduceBEq,reduceIte,reduceCtorEq,Int.reduceEq,Int.reduceNe,Nat.reduceBneDiff,Int.reduceLE,Int.reduceLT,Int.reduceToNat,Int.reduceAdd,Int.reduceSub,Int.reduceMul,Int.reduceNeg,f1,f2,k1,hmin,Int.toNat_natCast,Qir];rw [←D1,←D2]
     ·rw [hQ]at e4;simp -implicitDefEqProofs only [go_sem,Nat.reduceAdd,Nat.reduceMul,Nat.reduceEqDiff,Nat.reduceLT,Nat.reduceLeDiff,Nat.reduceSub,Nat.reduceBEq,reduceIte,reduceCtorEq,Int.reduceEq,Int.reduceNe,Nat.reduceBneDiff,Int.reduceLE,Int.reduceLT,Int.reduceToNat,Int.reduceAdd,Int.reduceSub,Int.reduceMul,Int.reduceNeg,h,w0,w1,w2,w3,e4,e5,hbr'];simp -implicitDefEqProofs only [go_sem,Nat.reduceAdd,Nat.reduceMul,Nat.reduceEqDiff,Nat.reduceLT,Nat.reduceLeDiff,Nat.reduceSub,Nat.reduceBEq,reduceIte,reduceCtorEq,Int.reduceEq,Int.reduceNe,Nat.reduceBneDiff,Int.reduceLE,Int.reduceLT,Int.reduceToNat,Int.reduceAdd,Int.reduceSub,Int.reduceMul,Int.reduceNeg,l4,Qur,hyt,l5,l6];refine Qa4 mixed (fun p:{p:Nat×Nat // Kn Y v d0 p.1 p.2}=>St.of [(2,.int .u64 ((Y:Nat):Int)),(8,.int .u64 ((s:Nat):Int)),(9,.int .u64 ((Y/4294967296:Nat):Int)),(10,.int .u64 ((Y%4294967296:Nat):Int)),(14,.int .u64 ((d0:Nat):Int)),(15,.int .u64 (((u*4294967296+d1)/Y:Nat):Int)),(17,.int .u64 ((v:Nat):Int)),(18,.int .u64 ((p.1.1:Nat):Int)),(16,.int .u64 ((p.1.2:Nat):Int))] []) (fun p=>p.1.1) ⟨(v/(Y/4294967296),v%(Y/4294967296)),Qk0 hY1 hY2 hv hd0⟩ ?_ ?_
      ·exact Qa3 (by simp [Qae,lkp,ren1,ren0])
      ·rintro⟨⟨q,r⟩,hK⟩;have hq:=kn_q hY1 hY2 hv hK;have hr:r<4294967296:=hK.small;have ht:=Qo3 hK;simp only at hq hr ht hK ⊢;have hy1:Y/4294967296<4294967296:=by omega
       have hy0:Y%4294967296<4294967296:=by omega
       have e5:=Qpz hr hy1;have w1:=Qpx hr;have w2:=Qlb hr hd0;by_cases hc:v*4294967296+d0<q*Y
       ·obtain⟨hq0,hG⟩:=Qo4 hY1 hv hK hc;have e4:=Qpy hq0 hq;have hbig:(4294967296:Int)≤((q:Nat):Int)∨((4294967296:Int)≤((q:Nat):Int))=False∧IntKind.u64.wrap (((q:Nat):Int)*((Y%4294967296:Nat):Int))=((q*(Y%4294967296):Nat):Int):=by
         by_cases h:4294967296≤q
         ·left;omega
         ·right;exact⟨by simp only [eq_iff_iff,iff_false];omega,Qet (by omega) hy0⟩
        have w3:(((r*4294967296+d0:Nat):Int)<((q*(Y%4294967296):Nat):Int))=True:=by
         simp only [eq_iff_iff,iff_true];have:=ht.2 hc;omega
        by_cases hbr:4294967296≤r+Y/4294967296
        ·have hbr':((4294967296:Int)≤((r+Y/4294967296:Nat):Int))=True:=by simp only [eq_iff_iff,iff_true];omega
         have hQ:=Qk1 hY1 hv hd0 hG hbr;rcases hbig with h|⟨h,w0⟩
         ·have h':((4294967296:Int)≤((q:Nat):Int))=True:=by simp only [eq_iff_iff,iff_true];exact h
          rw [hQ]at e4;simp -implicitDefEqProofs only [go_sem,Nat.reduceAdd,Nat.reduceMul,Nat.reduceEqDiff,Nat.reduceLT,Nat.reduceLeDiff,Nat.reduceSub,Nat.reduceBEq,reduceIte,reduceCtorEq,Int.reduceEq,Int.reduceNe,Nat.reduceBneDiff,Int.reduceLE,Int.reduceLT,Int.reduceToNat,Int.reduceAdd,Int.reduceSub,Int.reduceMul,Int.reduceNeg,h',e4,e5,hbr'];simp -implicitDefEqProofs only [go_sem,Nat.reduceAdd,Nat.reduceMul,Nat.reduceEqDiff,Nat.reduceLT,Nat.reduceLeDiff,Nat.reduceSub,Nat.reduceBEq,reduceIte,reduceCtorEq,Int.reduceEq,Int.reduceNe,Nat.reduceBneDiff,Int.reduceLE,Int.reduceLT,Int.reduceToNat,Int.reduceAdd,Int.reduceSub,Int.reduceMul,Int.reduceNeg,f1,f2,k1,hmin,Int.toNat_natCast,Qir];rw [←D1,←D2]
         ·rw [hQ]at e4;simp -implicitDefEqProofs only [go_sem,Nat.reduceAdd,Nat.reduceMul,Nat.reduceEqDiff,Nat.reduceLT,Nat.reduceLeDiff,Nat.reduceSub,Nat.reduceBEq,reduceIte,reduceCtorEq,Int.reduceEq,Int.reduceNe,Nat.reduceBneDiff,Int.reduceLE,Int.reduceLT,Int.reduceToNat,Int.reduceAdd,Int.reduceSub,Int.reduceMul,Int.reduceNeg,h,w0,w1,w2,w3,e4,e5,hbr'];simp -implicitDefEqProofs only [go_sem,Nat.reduceAdd,Nat.reduceMul,Nat.reduceEqDiff,Nat.reduceLT,Nat.reduceLeDiff,Nat.reduceSub,Nat.reduceBEq,reduceIte,reduceCtorEq,Int.reduceEq,Int.reduceNe,Nat.reduceBneDiff,Int.reduceLE,Int.reduceLT,Int.reduceToNat,Int.reduceAdd,Int.reduceSub,Int.reduceMul,Int.reduceNeg,f1,f2,k1,hmin,Int.toNat_natCast,Qir];rw [←D1,←D2]
        ·have hbr':((4294967296:Int)≤((r+Y/4294967296:Nat):Int))=False:=by simp only [eq_iff_iff,iff_false];omega
         have next: ∃y:{p:Nat×Nat // Kn Y v d0 p.1 p.2},y.1.1<q∧y.1=(q-1,r+Y/4294967296):=⟨⟨(q-1,r+Y/4294967296),hG,by simp only;omega⟩,by simp only;omega,rfl⟩
         obtain⟨y,y1,y2⟩:=next
         rcases hbig with h|⟨h,w0⟩
         ·have h':((4294967296:Int)≤((q:Nat):Int))=True:=by simp only [eq_iff_iff,iff_true];exact h
          simp -implicitDefEqProofs only [go_sem,Nat.reduceAdd,Nat.reduceMul,Nat.reduceEqDiff,Nat.reduceLT,Nat.reduceLeDiff,Nat.reduceSub,Nat.reduceBEq,reduceIte,reduceCtorEq,Int.reduceEq,Int.reduceNe,Nat.reduceBneDiff,Int.reduceLE,Int.reduceLT,Int.reduceToNat,Int.reduceAdd,Int.reduceSub,Int.reduceMul,Int.reduceNeg,h',e4,e5,hbr'];refine⟨y,y1,Qa3 ?_⟩;simp [Qae,lkp,ren1,ren0,y2]
         ·simp -implicitDefEqProofs only [go_sem,Nat.reduceAdd,Nat.reduceMul,Nat.reduceEqDiff,Nat.reduceLT,Nat.reduceLeDiff,Nat.reduceSub,Nat.reduceBEq,reduceIte,reduceCtorEq,Int.reduceEq,Int.reduceNe,Nat.reduceBneDiff,Int.reduceLE,Int.reduceLT,Int.reduceToNat,Int.reduceAdd,Int.reduceSub,Int.reduceMul,Int.reduceNeg,h,w0,w1,w2,w3,e4,e5,hbr'];refine⟨y,y1,Qa3 ?_⟩;simp [Qae,lkp,ren1,ren0,y2]
       ·have hQ:=Qo5 hY1 hK hc;have hq2:q<4294967296:=by rw [hQ];exact Qi9 hv hd0
        have h:((4294967296:Int)≤((q:Nat):Int))=False:=by simp only [eq_iff_iff,iff_false];omega
        have w0:=Qet hq2 hy0;have w3:(((r*4294967296+d0:Nat):Int)<((q*(Y%4294967296):Nat):Int))=False:=by
         simp only [eq_iff_iff,iff_false];have:=mt ht.1 hc;omega
        simp -implicitDefEqProofs only [go_sem,Nat.reduceAdd,Nat.reduceMul,Nat.reduceEqDiff,Nat.reduceLT,Nat.reduceLeDiff,Nat.reduceSub,Nat.reduceBEq,reduceIte,reduceCtorEq,Int.reduceEq,Int.reduceNe,Nat.reduceBneDiff,Int.reduceLE,Int.reduceLT,Int.reduceToNat,Int.reduceAdd,Int.reduceSub,Int.reduceMul,Int.reduceNeg,h,w0,w1,w2,w3];clear hK hq hr ht e5 hc hq2 h w0 w1 w2 w3;subst hQ;simp -implicitDefEqProofs only [go_sem,Nat.reduceAdd,Nat.reduceMul,Nat.reduceEqDiff,Nat.reduceLT,Nat.reduceLeDiff,Nat.reduceSub,Nat.reduceBEq,reduceIte,reduceCtorEq,Int.reduceEq,Int.reduceNe,Nat.reduceBneDiff,Int.reduceLE,Int.reduceLT,Int.reduceToNat,Int.reduceAdd,Int.reduceSub,Int.reduceMul,Int.reduceNeg,f1,f2,k1,hmin,Int.toNat_natCast,Qir];rw [←D1,←D2]
    ·have hbr':((4294967296:Int)≤((r+Y/4294967296:Nat):Int))=False:=by simp only [eq_iff_iff,iff_false];omega
     have next: ∃y:{p:Nat×Nat // Kn Y u d1 p.1 p.2},y.1.1<q∧y.1=(q-1,r+Y/4294967296):=⟨⟨(q-1,r+Y/4294967296),hG,by simp only;omega⟩,by simp only;omega,rfl⟩
     obtain⟨y,y1,y2⟩:=next
     rcases hbig with h|⟨h,w0⟩
     ·have h':((4294967296:Int)≤((q:Nat):Int))=True:=by simp only [eq_iff_iff,iff_true];exact h
      simp -implicitDefEqProofs only [go_sem,Nat.reduceAdd,Nat.reduceMul,Nat.reduceEqDiff,Nat.reduceLT,Nat.reduceLeDiff,Nat.reduceSub,Nat.reduceBEq,reduceIte,reduceCtorEq,Int.reduceEq,Int.reduceNe,Nat.reduceBneDiff,Int.reduceLE,Int.reduceLT,Int.reduceToNat,Int.reduceAdd,Int.reduceSub,Int.reduceMul,Int.reduceNeg,h',e4,e5,hbr'];refine⟨y,y1,Qa3 ?_⟩;simp [Qae,lkp,ren1,ren0,y2]
     ·simp -implicitDefEqProofs only [go_sem,Nat.reduceAdd,Nat.reduceMul,Nat.reduceEqDiff,Nat.reduceLT,Nat.reduceLeDiff,Nat.reduceSub,Nat.reduceBEq,reduceIte,reduceCtorEq,Int.reduceEq,Int.reduceNe,Nat.reduceBneDiff,Int.reduceLE,Int.reduceLT,Int.reduceToNat,Int.reduceAdd,Int.reduceSub,Int.reduceMul,Int.reduceNeg,h,w0,w1,w2,w3,e4,e5,hbr'];refine⟨y,y1,Qa3 ?_⟩;simp [Qae,lkp,ren1,ren0,y2]
   ·have hQ:=Qo5 hY1 hK hc;have hq2:q<4294967296:=by rw [hQ];exact Qi9 hu hd1
    have h:((4294967296:Int)≤((q:Nat):Int))=False:=by simp only [eq_iff_iff,iff_false];omega
    have w0:=Qet hq2 hy0;have w3:(((r*4294967296+d1:Nat):Int)<((q*(Y%4294967296):Nat):Int))=False:=by
     simp only [eq_iff_iff,iff_false];have:=mt ht.1 hc;omega
    simp -implicitDefEqProofs only [go_sem,Nat.reduceAdd,Nat.reduceMul,Nat.reduceEqDiff,Nat.reduceLT,Nat.reduceLeDiff,Nat.reduceSub,Nat.reduceBEq,reduceIte,reduceCtorEq,Int.reduceEq,Int.reduceNe,Nat.reduceBneDiff,Int.reduceLE,Int.reduceLT,Int.reduceToNat,Int.reduceAdd,Int.reduceSub,Int.reduceMul,Int.reduceNeg,h,w0,w1,w2,w3];clear hK hq hr ht e5 hc hq2 h w0 w1 w2 w3;subst hQ;simp -implicitDefEqProofs only [go_sem,Nat.reduceAdd,Nat.reduceMul,Nat.reduceEqDiff,Nat.reduceLT,Nat.reduceLeDiff,Nat.reduceSub,Nat.reduceBEq,reduceIte,reduceCtorEq,Int.reduceEq,Int.reduceNe,Nat.reduceBneDiff,Int.reduceLE,Int.reduceLT,Int.reduceToNat,Int.reduceAdd,Int.reduceSub,Int.reduceMul,Int.reduceNeg,l4,Qur,hyt,l5,l6];refine Qa4 mixed (fun p:{p:Nat×Nat // Kn Y v d0 p.1 p.2}=>St.of [(2,.int .u64 ((Y:Nat):Int)),(8,.int .u64 ((s:Nat):Int)),(9,.int .u64 ((Y/4294967296:Nat):Int)),(10,.int .u64 ((Y%4294967296:Nat):Int)),(14,.int .u64 ((d0:Nat):Int)),(15,.int .u64 (((u*4294967296+d1)/Y:Nat):Int)),(17,.int .u64 ((v:Nat):Int)),(18,.int .u64 ((p.1.1:Nat):Int)),(16,.int .u64 ((p.1.2:Nat):Int))] []) (fun p=>p.1.1) ⟨(v/(Y/4294967296),v%(Y/4294967296)),Qk0 hY1 hY2 hv hd0⟩ ?_ ?_
    ·exact Qa3 (by simp [Qae,lkp,ren1,ren0])
    ·rintro⟨⟨q,r⟩,hK⟩;have hq:=kn_q hY1 hY2 hv hK;have hr:r<4294967296:=hK.small;have ht:=Qo3 hK;simp only at hq hr ht hK ⊢;have hy1:Y/4294967296<4294967296:=by omega
     have hy0:Y%4294967296<4294967296:=by omega
     have e5:=Qpz hr hy1;have w1:=Qpx hr;have w2:=Qlb hr hd0;by_cases hc:v*4294967296+d0<q*Y
     ·obtain⟨hq0,hG⟩:=Qo4 hY1 hv hK hc;have e4:=Qpy hq0 hq;have hbig:(4294967296:Int)≤((q:Nat):Int)∨((4294967296:Int)≤((q:Nat):Int))=False∧IntKind.u64.wrap (((q:Nat):Int)*((Y%4294967296:Nat):Int))=((q*(Y%4294967296):Nat):Int):=by
       by_cases h:4294967296≤q
       ·left;omega
       ·right;exact⟨by simp only [eq_iff_iff,iff_false];omega,Qet (by omega) hy0⟩
      have w3:(((r*4294967296+d0:Nat):Int)<((q*(Y%4294967296):Nat):Int))=True:=by
       simp only [eq_iff_iff,iff_true];have:=ht.2 hc;omega
      by_cases hbr:4294967296≤r+Y/4294967296
      ·have hbr':((4294967296:Int)≤((r+Y/4294967296:Nat):Int))=True:=by simp only [eq_iff_iff,iff_true];omega
       have hQ:=Qk1 hY1 hv hd0 hG hbr;rcases hbig with h|⟨h,w0⟩
       ·have h':((4294967296:Int)≤((q:Nat):Int))=True:=by simp only [eq_iff_iff,iff_true];exact h
        rw [hQ]at e4;simp -implicitDefEqProofs only [go_sem,Nat.reduceAdd,Nat.reduceMul,Nat.reduceEqDiff,Nat.reduceLT,Nat.reduceLeDiff,Nat.reduceSub,Nat.reduceBEq,reduceIte,reduceCtorEq,Int.reduceEq,Int.reduceNe,Nat.reduceBneDiff,Int.reduceLE,Int.reduceLT,Int.reduceToNat,Int.reduceAdd,Int.reduceSub,Int.reduceMul,Int.reduceNeg,h',e4,e5,hbr'];simp -implicitDefEqProofs only [go_sem,Nat.reduceAdd,Nat.reduceMul,Nat.reduceEqDiff,Nat.reduceLT,Nat.reduceLeDiff,Nat.reduceSub,Nat.reduceBEq,reduceIte,reduceCtorEq,Int.reduceEq,Int.reduceNe,Nat.reduceBneDiff,Int.reduceLE,Int.reduceLT,Int.reduceToNat,Int.reduceAdd,Int.reduceSub,Int.reduceMul,Int.reduceNeg,f1,f2,k1,hmin,Int.toNat_natCast,Qir];rw [←D1,←D2]
       ·rw [hQ]at e4;simp -implicitDefEqProofs only [go_sem,Nat.reduceAdd,Nat.reduceMul,Nat.reduceEqDiff,Nat.reduceLT,Nat.reduceLeDiff,Nat.reduceSub,Nat.reduceBEq,reduceIte,reduceCtorEq,Int.reduceEq,Int.reduceNe,Nat.reduceBneDiff,Int.reduceLE,Int.reduceLT,Int.reduceToNat,Int.reduceAdd,Int.reduceSub,Int.reduceMul,Int.reduceNeg,h,w0,w1,w2,w3,e4,e5,hbr'];simp -implicitDefEqProofs only [go_sem,Nat.reduceAdd,Nat.reduceMul,Nat.reduceEqDiff,Nat.reduceLT,Nat.reduceLeDiff,Nat.reduceSub,Nat.reduceBEq,reduceIte,reduceCtorEq,Int.reduceEq,Int.reduceNe,Nat.reduceBneDiff,Int.reduceLE,Int.reduceLT,Int.reduceToNat,Int.reduceAdd,Int.reduceSub,Int.reduceMul,Int.reduceNeg,f1,f2,k1,hmin,Int.toNat_natCast,Qir];rw [←D1,←D2]
      ·have hbr':((4294967296:Int)≤((r+Y/4294967296:Nat):Int))=False:=by simp only [eq_iff_iff,iff_false];omega
       have next: ∃y:{p:Nat×Nat // Kn Y v d0 p.1 p.2},y.1.1<q∧y.1=(q-1,r+Y/4294967296):=⟨⟨(q-1,r+Y/4294967296),hG,by simp only;omega⟩,by simp only;omega,rfl⟩
       obtain⟨y,y1,y2⟩:=next
       rcases hbig with h|⟨h,w0⟩
       ·have h':((4294967296:Int)≤((q:Nat):Int))=True:=by simp only [eq_iff_iff,iff_true];exact h
        simp -implicitDefEqProofs only [go_sem,Nat.reduceAdd,Nat.reduceMul,Nat.reduceEqDiff,Nat.reduceLT,Nat.reduceLeDiff,Nat.reduceSub,Nat.reduceBEq,reduceIte,reduceCtorEq,Int.reduceEq,Int.reduceNe,Nat.reduceBneDiff,Int.reduceLE,Int.reduceLT,Int.reduceToNat,Int.reduceAdd,Int.reduceSub,Int.reduceMul,Int.reduceNeg,h',e4,e5,hbr'];refine⟨y,y1,Qa3 ?_⟩;simp [Qae,lkp,ren1,ren0,y2]
       ·simp -implicitDefEqProofs only [go_sem,Nat.reduceAdd,Nat.reduceMul,Nat.reduceEqDiff,Nat.reduceLT,Nat.reduceLeDiff,Nat.reduceSub,Nat.reduceBEq,reduceIte,reduceCtorEq,Int.reduceEq,Int.reduceNe,Nat.reduceBneDiff,Int.reduceLE,Int.reduceLT,Int.reduceToNat,Int.reduceAdd,Int.reduceSub,Int.reduceMul,Int.reduceNeg,h,w0,w1,w2,w3,e4,e5,hbr'];refine⟨y,y1,Qa3 ?_⟩;simp [Qae,lkp,ren1,ren0,y2]
     ·have hQ:=Qo5 hY1 hK hc;have hq2:q<4294967296:=by rw [hQ];exact Qi9 hv hd0
      have h:((4294967296:Int)≤((q:Nat):Int))=False:=by simp only [eq_iff_iff,iff_false];omega
      have w0:=Qet hq2 hy0;have w3:(((r*4294967296+d0:Nat):Int)<((q*(Y%4294967296):Nat):Int))=False:=by
       simp only [eq_iff_iff,iff_false];have:=mt ht.1 hc;omega
      simp -implicitDefEqProofs only [go_sem,Nat.reduceAdd,Nat.reduceMul,Nat.reduceEqDiff,Nat.reduceLT,Nat.reduceLeDiff,Nat.reduceSub,Nat.reduceBEq,reduceIte,reduceCtorEq,Int.reduceEq,Int.reduceNe,Nat.reduceBneDiff,Int.reduceLE,Int.reduceLT,Int.reduceToNat,Int.reduceAdd,Int.reduceSub,Int.reduceMul,Int.reduceNeg,h,w0,w1,w2,w3];clear hK hq hr ht e5 hc hq2 h w0 w1 w2 w3;subst hQ;simp -implicitDefEqProofs only [go_sem,Nat.reduceAdd,Nat.reduceMul,Nat.reduceEqDiff,Nat.reduceLT,Nat.reduceLeDiff,Nat.reduceSub,Nat.reduceBEq,reduceIte,reduceCtorEq,Int.reduceEq,Int.reduceNe,Nat.reduceBneDiff,Int.reduceLE,Int.reduceLT,Int.reduceToNat,Int.reduceAdd,Int.reduceSub,Int.reduceMul,Int.reduceNeg,f1,f2,k1,hmin,Int.toNat_natCast,Qir];rw [←D1,←D2]
end Go.Proofs.YtobaaecbdlhpdaaGreat

namespace Go.Dg
theorem Qx0 (A d B:Nat) (hB:0<B) (hd:0<d):(A/B%d*B+A%B)/d=A/d%B∧(A/B%d*B+A%B)%d=A%d:=by
 have h1:=Nat.div_add_mod A B;have h2:=Nat.div_add_mod (A/B) d;have hr:A/B%d<d:=Nat.mod_lt _ hd;have hl:A%B<B:=Nat.mod_lt _ hB;generalize A/B%d=r at*;generalize A/B/d=Q at*;generalize A%B=l at*;have e:A=d*(Q*B)+(r*B+l):=by
  rw [←h1,←h2,Nat.mul_add,Nat.mul_comm B r,Nat.mul_comm B,Nat.mul_assoc];omega
 have hlt:r*B+l<d*B:=by
  have:=Nat.mul_le_mul_right B (show r+1≤d from hr);rw [Nat.add_mul]at this;omega
 have hq:(r*B+l)/d<B:=by rw [Nat.div_lt_iff_lt_mul hd,Nat.mul_comm B];exact hlt
 constructor
 ·rw [e,Nat.mul_add_div hd,Nat.mul_add_mod_self_right,Nat.mod_eq_of_lt hq]
 ·rw [e,Nat.mul_add_mod]
theorem Qo6 (B V S N:Nat):mix B V S N N=lows B V N:=by
 apply List.map_congr_left;intro j hj;rw [if_pos (by simpa using hj)]
theorem Qx1 (a w r i:Nat) (hr:r≤64):shlV a w r i/WB^(i+w)%WB=shlC a r i:=by
 rw [Qkz,Nat.mod_eq_of_lt (Nat.lt_of_lt_of_le (Qln a r i) (Nat.pow_le_pow_right (n:=2) (by decide) hr))]
end Go.Dg
