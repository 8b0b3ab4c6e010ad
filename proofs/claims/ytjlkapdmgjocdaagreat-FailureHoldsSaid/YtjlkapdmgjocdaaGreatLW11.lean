/-
  Bw, LW1, LW2, LW3, LW4, LW5, LW6, LW7, LW8, Dl, LW9, LW10, LW11 (merged for the claim).
-/
import Derived.Test.YtjlkapdmgjocdaaGreatUY
import Derived.Test.YtjlkapdmgjocdaaGreatLA10
import Derived.Shelf.Spec.BitsCarry
set_option linter.unusedSimpArgs false
set_option linter.unusedVariables false
namespace Go.Vl
open Go.RowKit
theorem Qd1 (n:Nat):IntKind.u64.wrap (n:Int)=((n%18446744073709551616:Nat):Int):=by
 simp [IntKind.wrap,IntKind.signed,IntKind.bits]
theorem Qsq (n:Nat):(n:Int).fdiv (2^min 32 64)=((n/4294967296:Nat):Int):=by
 rw [Int.fdiv_eq_ediv_of_nonneg _ (by decide)];rfl
theorem Zt0 (n:Nat):IntKind.u64.wrap ((BitVec.ofInt 64 (n:Int) &&& BitVec.ofInt 64 4294967295).toNat:Int)=((n%4294967296:Nat):Int):=by
 rw [Qd1];congr 1;rw [BitVec.toNat_and];have h1:(BitVec.ofInt 64 (n:Int)).toNat=n%18446744073709551616:=by simp
 have h2:(BitVec.ofInt 64 4294967295).toNat=2^32-1:=by decide
 rw [h1,h2,Nat.and_two_pow_sub_one_eq_mod];omega
theorem Zls {P:Program} {t:TypeId} (n:Nat):Qby .and t P (.int .u64 (n:Int)) (.int .u64 4294967295)=some (.int .u64 ((n%4294967296:Nat):Int)):=by
 rw [Zxk];exact congrArg (fun z=>some (PV.int .u64 z)) (Zt0 n)
attribute [go_sem high] Zls
theorem Zx3 {x y:Nat} (hx:x<18446744073709551616) (hy:y<18446744073709551616):
  ((x/4294967296*(y/4294967296)%18446744073709551616+(x/4294967296*(y%4294967296)%18446744073709551616+(x%4294967296*(y%4294967296)%18446744073709551616)/4294967296)%18446744073709551616/4294967296)%18446744073709551616+
   ((x/4294967296*(y%4294967296)%18446744073709551616+(x%4294967296*(y%4294967296)%18446744073709551616)/4294967296)%18446744073709551616%4294967296+x%4294967296*(y/4294967296)%18446744073709551616)%18446744073709551616/4294967296)%18446744073709551616=x*y/18446744073709551616:=by
 have a1:x/4294967296≤4294967295:=by omega
 have a0:x%4294967296≤4294967295:=by omega
 have b1:y/4294967296≤4294967295:=by omega
 have b0:y%4294967296≤4294967295:=by omega
 have ex:x=x/4294967296*4294967296+x%4294967296:=by omega
 have ey:y=y/4294967296*4294967296+y%4294967296:=by omega
 have hxy:x*y=x/4294967296*(y/4294967296)*18446744073709551616+(x/4294967296*(y%4294967296)+x%4294967296*(y/4294967296))*4294967296+x%4294967296*(y%4294967296):=by
  generalize x/4294967296=p at*;generalize x%4294967296=q at*;generalize y/4294967296=r at*;generalize y%4294967296=s at*;subst ex ey;simp only [Nat.add_mul,Nat.mul_add];rw [show p*4294967296*(r*4294967296)=p*r*18446744073709551616 by rw [Nat.mul_mul_mul_comm]];rw [show p*4294967296*s=p*s*4294967296 by rw [Nat.mul_right_comm],show q*(r*4294967296)=q*r*4294967296 by rw [Nat.mul_assoc]];omega
 have hlt:x*y≤18446744073709551615*18446744073709551615:=Nat.mul_le_mul (by omega) (by omega);have h11:=Nat.mul_le_mul a1 b1;have h10:=Nat.mul_le_mul a1 b0;have h01:=Nat.mul_le_mul a0 b1;have h00:=Nat.mul_le_mul a0 b0;rw [hxy]at hlt ⊢;generalize x/4294967296*(y/4294967296)=P at*;generalize x/4294967296*(y%4294967296)=Q at*;generalize x%4294967296*(y/4294967296)=R at*;generalize x%4294967296*(y%4294967296)=W at*;clear hxy ex ey a1 a0 b1 b0;omega
end Go.Vl

namespace Go.Proofs.YtjlkapdmgjocdaaGreat
open Go.Vl Go.RowKit
theorem Qtw {w:World} {im:Im} {k1 k2 k3:IntKind} {x y z:Int} {us:List Value} (h:RepL w im [.int k1 x,.int k2 y,.int k3 z] us):us=[.int k1 x,.int k2 y,.int k3 z]:=by
 cases h with
 |cons _ u _ us h t=>
 cases h;cases t with
 |cons _ u _ us h t=>
 cases h;cases t with
 |cons _ u _ us h t=>
 cases h;cases t;rfl
theorem Qrl (x y c:Nat) (hc:c≤1):Qaf Tryz.prog 126 [.int .u64 (x:Int),.int .u64 (y:Int),.int .u64 (c:Int)] (.tup [.int .u64 (((x+y+c)%18446744073709551616:Nat):Int),.int .u64 (((x+y+c)/18446744073709551616:Nat):Int)]):=by
 refine .inr ⟨by kernel_rfl,rfl,fun w im us hr=> ?_⟩;rw [Qtw hr];refine⟨.tuple #[.int .u64 (((x+y+c)%18446744073709551616:Nat):Int),.int .u64 (((x+y+c)/18446744073709551616:Nat):Int)],?_,.tup _ [_,_] (.cons _ _ _ _ (.int _ _) (.cons _ _ _ _ (.int _ _) .nil))⟩;rw [run_callFunc_extern Tryz.func126 (by kernel_rfl) (by kernel_rfl) (by kernel_rfl) (e:=add64Entry) (by kernel_rfl),run_add64 x y c (by omega) (by omega) (by omega) (by omega)];simp only [Result.andThen];congr 5<;>omega
theorem Zay (x y b:Nat) (hb:b≤1):Qaf Tryz.prog 127 [.int .u64 (x:Int),.int .u64 (y:Int),.int .u64 (b:Int)] (.tup [.int .u64 (((x+18446744073709551616-y-b)%18446744073709551616:Nat):Int),.int .u64 ((if x<y+b then 1 else 0:Nat):Int)]):=by
 refine .inr ⟨by kernel_rfl,rfl,fun w im us hr=> ?_⟩;rw [Qtw hr];refine⟨.tuple #[.int .u64 (((x+18446744073709551616-y-b)%18446744073709551616:Nat):Int),.int .u64 ((if x<y+b then 1 else 0:Nat):Int)],?_,.tup _ [_,_] (.cons _ _ _ _ (.int _ _) (.cons _ _ _ _ (.int _ _) .nil))⟩;rw [run_callFunc_extern Tryz.func127 (by kernel_rfl) (by kernel_rfl) (by kernel_rfl) (e:=sub64Entry) (by kernel_rfl),run_sub64 x y b hb];rfl
end Go.Proofs.YtjlkapdmgjocdaaGreat

namespace Go.Proofs.YtjlkapdmgjocdaaGreat
open Go.Vl Go.RowKit Go.Dg
abbrev BW:Nat:=18446744073709551616
theorem BW_2:2≤BW:=by decide
abbrev fW:Nat→PV:=fun d:Nat=>PV.int .u64 (d:Int)
def dw (l:List Nat):PV:= .slc (l.map fun d:Nat=>PV.int .u64 (d:Int))
theorem Qci (l:List Nat) (k:Nat):(l.map fun d:Nat=>PV.int .u64 (d:Int))[k]? =l[k]?.map fun d:Nat=>PV.int .u64 (d:Int):=List.getElem?_map
theorem Zmo (l:List Nat):((l.map fun d:Nat=>PV.int .u64 (d:Int)).all fun x=>x.cells.length==1)=true:=by rw [List.all_map,List.all_eq_true];intro d _;rfl
theorem Qdo (l:List Nat) (hl:l.length≤maxLen):Qaf Tryz.prog 99 [dw l] (dw (Qfk l)):=by
 have hm:=Qte;refine Qab (tb:=[]) 21 [.tmp 2] [0,2,14] mixed Tryz.func99 rfl (by kernel_rfl) (by kernel_rfl) (by kernel_rfl) (by kernel_rfl) ?_;simp -implicitDefEqProofs only [go_sem,Nat.reduceMul,Nat.reduceEqDiff,Nat.reduceLT,Nat.reduceLeDiff,reduceCtorEq,dw];refine Qar mixed (fun k:{k:Nat // k≤l.length∧Qfk (l.take k)=Qfk l}=>St.of [(0,dw (l.take k.1)),(2,.nilS)] []) (fun k=>k.1) ⟨l.length,Nat.le_refl _,by rw [List.take_length]⟩ ?_ ?_
 ·exact Qa3 (by simp [Qac,lkp,ren1,ren0,dw])
 ·rintro⟨k,hk,ht⟩;have hlen:(l.take k).length=k:=by simp;omega
  cases k with
  |zero=>
   have h1:((0:Int)<((0:Nat):Int))=False:=by simp
   simp -implicitDefEqProofs only [go_sem,Nat.reduceAdd,Nat.reduceMul,Nat.reduceEqDiff,Nat.reduceLT,Nat.reduceLeDiff,reduceCtorEq,dw,h1];rw [←ht];rfl
  |succ k=>
   have h1:((0:Int)<((k+1:Nat):Int))=True:=by simp
   have h2:(0≤(k:Int))=True:=by simp
   have hw:=Qtd (n:=k) (by omega);have hlt:k<l.length:=by omega
   have hget:(l.take (k+1))[k]? =some l[k]:=by simp [hlt]
   have hcut:l.take (k+1)=l.take k++[l[k]]:=by rw [List.take_add_one];simp [hlt]
   cases hd:((l[k]:Int)==0)with
   |true=>
    have hd0:l[k]=0:=by simpa using hd
    have h3:((k:Int)≤((k+1:Nat):Int))=True:=by simp;omega
    simp -implicitDefEqProofs only [go_sem,Nat.reduceAdd,Nat.reduceMul,Nat.reduceEqDiff,Nat.reduceLT,Nat.reduceLeDiff,reduceCtorEq,dw,List.length_map,hlen,h1,h2,hw,Qci,hget,hd,h3,Int.toNat_natCast,Zmo];refine⟨⟨k,by omega,?_⟩,by simp,?_⟩
    ·rw [←ht,hcut,hd0,Qev]
    ·refine Qa3 (by simp [Qac,lkp,ren1,ren0,dw];rw [←List.map_take];simp [List.take_take])
   |false=>
    have hd0:l[k]≠0:=by simpa using hd
    simp -implicitDefEqProofs only [go_sem,Nat.reduceAdd,Nat.reduceMul,Nat.reduceEqDiff,Nat.reduceLT,Nat.reduceLeDiff,reduceCtorEq,dw,List.length_map,hlen,h1,h2,hw,Qci,hget,hd,Int.toNat_natCast];rw [←ht,hcut,Qhe _ hd0]
def cmpW (a b:Nat):Int:=if(digs BW a).length=(digs BW b).length then cmpN a b else((digs BW a).length:Int)-((digs BW b).length:Int)
theorem Qek (a b:Nat):(cmpW a b<0)↔a<b:=by
 unfold cmpW;split
 ·unfold cmpN;split
  ·simp;assumption
  ·split<;>simp<;>omega
 ·rename_i h;constructor
  ·intro h2;exact Zly BW_2 (by omega)
  ·intro h2;rcases Nat.lt_trichotomy (digs BW a).length (digs BW b).length with h3|h3|h3
   ·omega
   ·exact absurd h3 h
   ·have:=Zly BW_2 h3;omega
theorem Qdz (a b:Nat) (ha:(digs BW a).length≤1000000000) (hb:(digs BW b).length≤1000000000):Qaf Tryz.prog 109 [dw (digs BW a),dw (digs BW b)] (.int .i64 (cmpW a b)):=by
 refine Qab (tb:=[]) 43 [.tmp 4] [0,1,4,5,10,20,23,33] mixed Tryz.func109 rfl (by kernel_rfl) (by kernel_rfl) (by kernel_rfl) (by kernel_rfl) ?_;by_cases hl:(digs BW a).length=(digs BW b).length
 ·have hl':(((digs BW a).length:Int) != ((digs BW b).length:Int))=false:=by simp [hl]
  have hw:IntKind.i64.wrap (((digs BW a).length:Int)-1)=((digs BW a).length:Int)-1:=Qag (by omega) (by omega);rw [cmpW,if_pos hl];simp -implicitDefEqProofs only [go_sem,Nat.reduceAdd,Nat.reduceMul,Nat.reduceEqDiff,Nat.reduceLT,Nat.reduceLeDiff,reduceCtorEq,Int.reduceNeg,dw,List.length_map,hl',hw];refine Qar mixed (fun i:{i:Nat // i≤(digs BW a).length∧a/BW^i=b/BW^i}=>St.of [(0,dw (digs BW a)),(1,dw (digs BW b)),(4,.int .i64 0),(5,.int .i64 ((i.1:Int)-1))] []) (fun i=>i.1)
   ⟨(digs BW a).length,Nat.le_refl _,by rw [Qck BW_2 (Nat.le_refl _),hl,Qck BW_2 (Nat.le_refl _)]⟩ ?_ ?_
  ·exact Qa3 (by simp [Qac,lkp,ren1,ren0,dw])
  ·rintro⟨i,hi,he⟩;cases i with
   |zero=>
    have h1:((0:Int)≤((0:Nat):Int)-1)=False:=by simp
    have hab:a=b:=by simpa using he
    subst hab;simp -implicitDefEqProofs only [go_sem,Nat.reduceAdd,Nat.reduceMul,Nat.reduceEqDiff,Nat.reduceLT,Nat.reduceLeDiff,reduceCtorEq,Int.reduceNeg,dw,h1,Zm9]
   |succ i=>
    have hs:(((i+1:Nat):Int)-1)=(i:Int):=by omega
    have h1:((0:Int)≤(i:Int))=True:=by simp
    have hga:=Qa0 BW_2 (show i<(digs BW a).length by omega);have hgb:=Qa0 BW_2 (show i<(digs BW b).length by omega);by_cases hlt:a/BW^i%BW<b/BW^i%BW
    ·have h2:(((a/BW^i%BW:Nat):Int)<((b/BW^i%BW:Nat):Int))=True:=by simp only [eq_iff_iff,iff_true];omega
     have hc:=Zm7 (Qs1 (by decide) he hlt);simp -implicitDefEqProofs only [go_sem,Nat.reduceAdd,Nat.reduceMul,Nat.reduceEqDiff,Nat.reduceLT,Nat.reduceLeDiff,reduceCtorEq,Int.reduceNeg,dw,hs,h1,Qci,hga,hgb,h2,hc];exact Qae _ _ (by kernel_rfl)
    ·have h2:(((a/BW^i%BW:Nat):Int)<((b/BW^i%BW:Nat):Int))=False:=by simp only [eq_iff_iff,iff_false];omega
     by_cases hgt:b/BW^i%BW<a/BW^i%BW
     ·have h3:(((b/BW^i%BW:Nat):Int)<((a/BW^i%BW:Nat):Int))=True:=by simp only [eq_iff_iff,iff_true];omega
      have hc:=Zm8 (Qs1 (by decide) he.symm hgt);simp -implicitDefEqProofs only [go_sem,Nat.reduceAdd,Nat.reduceMul,Nat.reduceEqDiff,Nat.reduceLT,Nat.reduceLeDiff,reduceCtorEq,Int.reduceNeg,dw,hs,h1,Qci,hga,hgb,h2,h3,hc];exact⟨Qae _ _ (by kernel_rfl),Qae _ _ (by kernel_rfl)⟩
     ·have h3:(((b/BW^i%BW:Nat):Int)<((a/BW^i%BW:Nat):Int))=False:=by simp only [eq_iff_iff,iff_false];omega
      have hw2:IntKind.i64.wrap ((i:Int)-1)=(i:Int)-1:=Qag (by omega) (by omega);simp -implicitDefEqProofs only [go_sem,Nat.reduceAdd,Nat.reduceMul,Nat.reduceEqDiff,Nat.reduceLT,Nat.reduceLeDiff,reduceCtorEq,Int.reduceNeg,dw,hs,h1,Qci,hga,hgb,h2,h3,hw2];refine⟨Qae _ _ (by kernel_rfl),Qae _ _ (by kernel_rfl),⟨i,by omega,Q0o (by decide) he (by omega)⟩,by simp,?_⟩;exact Qa3 (by simp [Qac,lkp,ren1,ren0,dw])
 ·have hl':(((digs BW a).length:Int) != ((digs BW b).length:Int))=true:=by simp;omega
  have hw:IntKind.i64.wrap (((digs BW a).length:Int)-((digs BW b).length:Int))=((digs BW a).length:Int)-((digs BW b).length:Int):=Qag (by omega) (by omega);rw [cmpW,if_neg hl];simp -implicitDefEqProofs only [go_sem,Nat.reduceAdd,Nat.reduceMul,Nat.reduceEqDiff,Nat.reduceLT,Nat.reduceLeDiff,reduceCtorEq,Int.reduceNeg,dw,List.length_map,hl',hw]
end Go.Proofs.YtjlkapdmgjocdaaGreat

namespace Go.Proofs.YtjlkapdmgjocdaaGreat
open Go.Vl Go.RowKit Go.Dg
theorem Qc8 (l:List Nat) (i:Nat) (d:Nat):(l.map fW).set i (PV.int .u64 (d:Int))=(l.set i d).map fW:=(List.map_set (f:=fW)).symm
theorem Qet (B n:Nat):lows B 0 n=List.replicate n 0:=by
 apply List.ext_getElem?;intro k;by_cases h:k<n
 ·rw [Qbv _ _ _ h];simp [h]
 ·rw [List.getElem?_eq_none (by rw [Qak];omega),List.getElem?_eq_none (by simp;omega)]
theorem Qjm (V n:Nat):List.replicate n (PV.int .u64 0)=(mix BW V 0 n 0).map fW:=by
 rw [Ql6,Qet];simp
theorem Qty (a b:Nat) (hba:b≤a) (ha:(digs BW a).length≤1000000000):Qaf Tryz.prog 106 [dw (digs BW a),dw (digs BW b)] (dw (digs BW (a-b))):=by
 refine Qab (tb:=[]) 41 [.tmp 4] [0,1,4,5,6,7,8,13,14,15,20] mixed Tryz.func106 rfl (by kernel_rfl) (by kernel_rfl) (by kernel_rfl) (by kernel_rfl) ?_;have hn0:((0:Int)≤((digs BW a).length:Int))=True:=by simp
 have hn1:((8:Nat):Int)*((digs BW a).length:Int)≤281474976710656:=by omega
 have hn2:((digs BW a).length:Int)≤9223372036854775807:=by omega
 simp -implicitDefEqProofs only [go_sem,Nat.reduceAdd,Nat.reduceMul,Nat.reduceEqDiff,Nat.reduceLT,Nat.reduceLeDiff,reduceCtorEq,dw,List.length_map,hn0,hn1,hn2,Int.toNat_natCast];generalize hN:(digs BW a).length=N at*;rw [Qjm (a-b) N];refine Qar mixed (fun i:{i:Nat // i≤N}=>St.of [(0,dw (digs BW a)),(1,dw (digs BW b)),(4,.nilS),(5,.bs 102 1 0 N),(6,.int .u64 (bor BW a b i.1:Int)),(13,.int .i64 (N:Int)),(14,.int .i64 (i.1:Int))]
  [(102,{els:=(mix BW (a-b) 0 N i.1).map fW,esz:=1,ety:=130,fro:=0,live:=true,arr:=true})]) (fun i=>N-i.1) ⟨0,Nat.zero_le _⟩ ?_ ?_
 ·refine Qaj (θ:=[(102,102)]) rfl ?_ ?_
  ·simp [Qac,lkp,ren1,ren0,dw,Qyi]
  ·simp [Qax,lkp,Box.renames]
 ·rintro⟨i,hi⟩;have hml:=Qbp (B:=BW) (a-b) 0 N i;by_cases hA:i<N
  ·have hA':((i:Int)<(N:Int))=True:=by simp;omega
   have h0:(0≤(i:Int))=True:=by simp
   have hga:=Qa0 BW_2 (show i<(digs BW a).length by omega);have hwk:=Qan (a:=i) (by omega);have hbl:=Qyj (B:=BW) a b i;have hbl2:=Qyj (B:=BW) a b (i+1);have hst:=Qyk BW_2 hba i;have hx:a/BW^i%BW<BW:=Nat.mod_lt _ (by decide);have hy:b/BW^i%BW<BW:=Nat.mod_lt _ (by decide);have hz:(a-b)/BW^i%BW<BW:=Nat.mod_lt _ (by decide);have hset:=Qew (B:=BW) (V:=a-b) (W:=a-b) (S:=0) (n:=N) (m:=i) (d:=(a-b)/BW^i%BW) (by decide) hA rfl rfl;have hy0: ¬i<(digs BW b).length→b/BW^i%BW=0:=fun h=>by rw [Qck BW_2 (Nat.le_of_not_lt h),Nat.zero_mod]
   have hgb:i<(digs BW b).length→(digs BW b)[i]? =some (b/BW^i%BW):=fun h=>Qa0 BW_2 h;obtain⟨e,hgo⟩: ∃e:Nat,((mix BW (a-b) 0 N i).map fW)[i]? =some (PV.int .u64 (e:Int)):=⟨_,by rw [List.getElem?_map,Qdu _ _ _ _ _ hA];rfl⟩;generalize a/BW^i%BW=x at*;generalize b/BW^i%BW=y at*;generalize (a-b)/BW^i%BW=z at*;have s1:(x+18446744073709551616-y-bor BW a b i)%18446744073709551616=z:=by simp only [BW]at*;omega
   have s2:(if x<y+bor BW a b i then 1 else 0)=bor BW a b (i+1):=by
    simp only [BW]at*;split<;>omega
   have hc:=Zay x y (bor BW a b i) hbl;rw [s1,s2]at hc;by_cases hB:i<(digs BW b).length
   ·have hB':((i:Int)<((digs BW b).length:Int))=True:=by simp;omega
    have hgb:=hgb hB;simp -implicitDefEqProofs only [go_sem,Nat.reduceAdd,Nat.reduceMul,Nat.reduceEqDiff,Nat.reduceLT,Nat.reduceLeDiff,reduceCtorEq,dw,List.length_map,hA',hB',h0,Qci,hga,hgb,Int.toNat_natCast];refine Qah _ _ _ _ _ _ _ _ _ hc ?_;simp -implicitDefEqProofs only [go_sem,Nat.reduceAdd,Nat.reduceMul,Nat.reduceEqDiff,Nat.reduceLT,Nat.reduceLeDiff,reduceIte,reduceCtorEq,hA',h0,Int.toNat_natCast,hwk,hgo];refine⟨⟨i+1,hA⟩,by simp only;omega,?_⟩;refine Qaj (θ:=[(102,102)]) rfl ?_ ?_
    ·simp [Qac,lkp,ren1,ren0,dw]
    ·rw [Qc8,hset];simp [Qax,lkp,Box.renames]
   ·have hB':((i:Int)<((digs BW b).length:Int))=False:=by simp;omega
    obtain rfl:=hy0 hB;simp -implicitDefEqProofs only [go_sem,Nat.reduceAdd,Nat.reduceMul,Nat.reduceEqDiff,Nat.reduceLT,Nat.reduceLeDiff,reduceCtorEq,dw,List.length_map,hA',hB',h0,Qci,hga,Int.toNat_natCast];refine Qah _ _ _ _ _ _ _ _ _ hc ?_;simp -implicitDefEqProofs only [go_sem,Nat.reduceAdd,Nat.reduceMul,Nat.reduceEqDiff,Nat.reduceLT,Nat.reduceLeDiff,reduceIte,reduceCtorEq,hA',h0,Int.toNat_natCast,hwk,hgo];refine⟨⟨i+1,hA⟩,by simp only;omega,?_⟩;refine Qaj (θ:=[(102,102)]) rfl ?_ ?_
    ·simp [Qac,lkp,ren1,ren0,dw]
    ·rw [Qc8,hset];simp [Qax,lkp,Box.renames]
  ·have hA':((i:Int)<(N:Int))=False:=by simp;omega
   obtain rfl:i=N:=by omega
   have htk:((lows BW (a-b) i).map fW).take i=(lows BW (a-b) i).map fW:=List.take_of_length_le (by simp [Qak]);have hll:=Qak (B:=BW) (a-b) i;have hlt:a<BW^i:=by rw [←hN];exact Qbe BW_2 a
   have hm:mix BW (a-b) 0 i i=lows BW (a-b) i:=Qgq (by decide) (by rw [Nat.div_eq_of_lt (Nat.lt_of_le_of_lt (Nat.sub_le _ _) hlt),Nat.zero_div]);simp -implicitDefEqProofs only [go_sem,Nat.reduceAdd,Nat.reduceMul,Nat.reduceEqDiff,Nat.reduceLT,Nat.reduceLeDiff,reduceIte,reduceCtorEq,hA',List.length_map,hll,htk,hm];refine Qah _ _ _ _ _ _ _ _ _ (Qdo (lows BW (a-b) i) (by rw [Qak];simp [maxLen];omega)) ?_;simp -implicitDefEqProofs only [go_sem,Nat.reduceAdd,Nat.reduceEqDiff,Nat.reduceLT,reduceCtorEq,dw];rw [Qb6 BW_2,Nat.mod_eq_of_lt (Nat.lt_of_le_of_lt (Nat.sub_le _ _) hlt)]
end Go.Proofs.YtjlkapdmgjocdaaGreat

namespace Go.Proofs.YtjlkapdmgjocdaaGreat
open Go.Vl Go.RowKit Go.Dg
theorem Zmq (a b:Nat) (ha:(digs BW a).length≤1000000000) (hb:(digs BW b).length≤1000000000):Qaf Tryz.prog 105 [dw (digs BW a),dw (digs BW b)] (dw (digs BW (a+b))):=by
 refine Qab (tb:=[]) 54 [.tmp 4] [0,1,4,5,6,7,8,13,21,22,23,28] mixed Tryz.func105 rfl (by kernel_rfl) (by kernel_rfl) (by kernel_rfl) (by kernel_rfl) ?_;by_cases hab:(digs BW a).length<(digs BW b).length
 ·have hab':(((digs BW a).length:Int)<((digs BW b).length:Int))=True:=by simp;omega
  have hPQ:(digs BW a).length≤(digs BW b).length:=by omega
  rw [Nat.add_comm a b];have hn0:((0:Int)≤(((digs BW b).length+1:Nat):Int))=True:=by simp only [eq_iff_iff,iff_true];omega
  have hn1:((8:Nat):Int)*(((digs BW b).length+1:Nat):Int)≤281474976710656:=by omega
  have hn2:(((digs BW b).length+1:Nat):Int)≤9223372036854775807:=by omega
  have hw1:=Qan (a:=(digs BW b).length) (by omega);simp -implicitDefEqProofs only [go_sem,Nat.reduceAdd,Nat.reduceMul,Nat.reduceEqDiff,Nat.reduceLT,Nat.reduceLeDiff,reduceCtorEq,dw,List.length_map,hab',hw1,hn0,hn1,hn2,Int.toNat_natCast];have hlt:b<BW^(digs BW b).length:=Qbe BW_2 b;have hlt2:a<BW^(digs BW b).length:=(Qaz BW_2 a _).1 hPQ;generalize hN:(digs BW b).length=N at*;rw [Qjm (b+a) (N+1)];refine Qar mixed (fun i:{i:Nat // i≤N}=>St.of [(0,dw (digs BW b)),(1,dw (digs BW a)),(4,.nilS),(5,.bs 303 1 0 (N+1)),(6,.int .u64 (carry BW b a i.1:Int)),(21,.int .i64 (N:Int)),(22,.int .i64 (i.1:Int))]
   [(303,{els:=(mix BW (b+a) 0 (N+1) i.1).map fW,esz:=1,ety:=130,fro:=0,live:=true,arr:=true})]) (fun i=>N-i.1) ⟨0,Nat.zero_le _⟩ ?_ ?_
  ·refine Qaj (θ:=[(303,303)]) rfl ?_ ?_
   ·simp [Qac,lkp,ren1,ren0,dw,Qpi]
   ·simp [Qax,lkp,Box.renames]
  ·rintro⟨i,hi⟩;have hml:=Qbp (B:=BW) (b+a) 0 (N+1) i;have hset:=Qew (B:=BW) (V:=b+a) (W:=b+a) (S:=0) (n:=N+1) (m:=i) (d:=(b+a)/BW^i%BW) (by decide) (by omega) rfl rfl;obtain⟨e,hgo⟩: ∃e:Nat,((mix BW (b+a) 0 (N+1) i).map fW)[i]? =some (PV.int .u64 (e:Int)):=⟨_,by rw [List.getElem?_map,Qdu _ _ _ _ _ (by omega)];rfl⟩;have h0:(0≤(i:Int))=True:=by simp
   have hiN:((i:Int)<((N+1:Nat):Int))=True:=by simp only [eq_iff_iff,iff_true];omega
   by_cases hA:i<N
   ·have hA':((i:Int)<(N:Int))=True:=by simp;omega
    have hga:=Qa0 BW_2 (show i<(digs BW b).length by omega);have hwk:=Qan (a:=i) (by omega);have hcl:=Qym (B:=BW) (by decide) b a i;obtain⟨s1,s2⟩:(b/BW^i%BW+a/BW^i%BW+carry BW b a i)%18446744073709551616=(b+a)/BW^i%BW∧(b/BW^i%BW+a/BW^i%BW+carry BW b a i)/18446744073709551616=carry BW b a (i+1):=Qyn (B:=BW) (by decide) b a i;have hy0: ¬i<(digs BW a).length→a/BW^i%BW=0:=fun h=>by rw [Qck BW_2 (Nat.le_of_not_lt h),Nat.zero_mod]
    have hgb:i<(digs BW a).length→(digs BW a)[i]? =some (a/BW^i%BW):=fun h=>Qa0 BW_2 h;have hc:=Qrl (b/BW^i%BW) (a/BW^i%BW) (carry BW b a i) hcl;rw [s1,s2]at hc;generalize b/BW^i%BW=x at*;generalize a/BW^i%BW=y at*;generalize (b+a)/BW^i%BW=z at*;by_cases hB:i<(digs BW a).length
    ·have hB':((i:Int)<((digs BW a).length:Int))=True:=by simp;omega
     have hgb:=hgb hB;simp -implicitDefEqProofs only [go_sem,Nat.reduceAdd,Nat.reduceMul,Nat.reduceEqDiff,Nat.reduceLT,Nat.reduceLeDiff,reduceCtorEq,dw,List.length_map,hA',hB',h0,Qci,hga,hgb,Int.toNat_natCast];refine Qah _ _ _ _ _ _ _ _ _ hc ?_;simp -implicitDefEqProofs only [go_sem,Nat.reduceAdd,Nat.reduceMul,Nat.reduceEqDiff,Nat.reduceLT,Nat.reduceLeDiff,reduceIte,reduceCtorEq,h0,hiN,Int.toNat_natCast,hwk,hgo];refine⟨⟨i+1,hA⟩,by simp only;omega,?_⟩;refine Qaj (θ:=[(303,303)]) rfl ?_ ?_
     ·simp [Qac,lkp,ren1,ren0,dw]
     ·rw [Qc8,hset];simp [Qax,lkp,Box.renames]
    ·have hB':((i:Int)<((digs BW a).length:Int))=False:=by simp;omega
     obtain rfl:=hy0 hB;simp -implicitDefEqProofs only [go_sem,Nat.reduceAdd,Nat.reduceMul,Nat.reduceEqDiff,Nat.reduceLT,Nat.reduceLeDiff,reduceCtorEq,dw,List.length_map,hA',hB',h0,Qci,hga,Int.toNat_natCast];refine Qah _ _ _ _ _ _ _ _ _ hc ?_;simp -implicitDefEqProofs only [go_sem,Nat.reduceAdd,Nat.reduceMul,Nat.reduceEqDiff,Nat.reduceLT,Nat.reduceLeDiff,reduceIte,reduceCtorEq,h0,hiN,Int.toNat_natCast,hwk,hgo];refine⟨⟨i+1,hA⟩,by simp only;omega,?_⟩;refine Qaj (θ:=[(303,303)]) rfl ?_ ?_
     ·simp [Qac,lkp,ren1,ren0,dw]
     ·rw [Qc8,hset];simp [Qax,lkp,Box.renames]
   ·have hA':((i:Int)<(N:Int))=False:=by simp;omega
    obtain rfl:i=N:=by omega
    have hsum:(b+a)/BW^i<2:=Nat.div_lt_of_lt_mul (by omega);have hcN:carry BW b a i=(b+a)/BW^i%BW:=by
     rw [carry,Nat.mod_eq_of_lt hlt,Nat.mod_eq_of_lt hlt2,Nat.mod_eq_of_lt (Nat.lt_trans hsum (by decide))]
    have hm:mix BW (b+a) 0 (i+1) (i+1)=lows BW (b+a) (i+1):=Qgq (by decide) (by rw [Nat.pow_succ,←Nat.div_div_eq_div_mul,Nat.div_eq_of_lt (Nat.lt_trans hsum (by decide)),Nat.zero_div]);rw [hm]at hset;have htk:((lows BW (b+a) (i+1)).map fW).take (i+1)=(lows BW (b+a) (i+1)).map fW:=List.take_of_length_le (by simp [Qak]);have hll:=Qak (B:=BW) (b+a) (i+1);have hbig:b+a<BW^(i+1):=by
     rw [Nat.pow_succ];have:BW^i*2≤BW^i*BW:=Nat.mul_le_mul_left _ (by decide);omega
    rw [hcN];simp -implicitDefEqProofs only [go_sem,Nat.reduceAdd,Nat.reduceMul,Nat.reduceEqDiff,Nat.reduceLT,Nat.reduceLeDiff,reduceIte,reduceCtorEq,dw,hA',h0,hiN,hN,Int.toNat_natCast,hgo,List.length_map,Qc8,hset,hll,htk];refine Qah _ _ _ _ _ _ _ _ _ (Qdo (lows BW (b+a) (i+1)) (by rw [Qak];simp [maxLen];omega)) ?_;simp -implicitDefEqProofs only [go_sem,Nat.reduceAdd,Nat.reduceEqDiff,Nat.reduceLT,reduceCtorEq,dw];rw [Qb6 BW_2,Nat.mod_eq_of_lt hbig]
 ·have hab':(((digs BW a).length:Int)<((digs BW b).length:Int))=False:=by simp;omega
  have hPQ:(digs BW b).length≤(digs BW a).length:=by omega
  have hn0:((0:Int)≤(((digs BW a).length+1:Nat):Int))=True:=by simp only [eq_iff_iff,iff_true];omega
  have hn1:((8:Nat):Int)*(((digs BW a).length+1:Nat):Int)≤281474976710656:=by omega
  have hn2:(((digs BW a).length+1:Nat):Int)≤9223372036854775807:=by omega
  have hw1:=Qan (a:=(digs BW a).length) (by omega);simp -implicitDefEqProofs only [go_sem,Nat.reduceAdd,Nat.reduceMul,Nat.reduceEqDiff,Nat.reduceLT,Nat.reduceLeDiff,reduceCtorEq,dw,List.length_map,hab',hw1,hn0,hn1,hn2,Int.toNat_natCast];have hlt:a<BW^(digs BW a).length:=Qbe BW_2 a;have hlt2:b<BW^(digs BW a).length:=(Qaz BW_2 b _).1 hPQ;generalize hN:(digs BW a).length=N at*;rw [Qjm (a+b) (N+1)];refine Qar mixed (fun i:{i:Nat // i≤N}=>St.of [(0,dw (digs BW a)),(1,dw (digs BW b)),(4,.nilS),(5,.bs 303 1 0 (N+1)),(6,.int .u64 (carry BW a b i.1:Int)),(21,.int .i64 (N:Int)),(22,.int .i64 (i.1:Int))]
   [(303,{els:=(mix BW (a+b) 0 (N+1) i.1).map fW,esz:=1,ety:=130,fro:=0,live:=true,arr:=true})]) (fun i=>N-i.1) ⟨0,Nat.zero_le _⟩ ?_ ?_
  ·refine Qaj (θ:=[(303,303)]) rfl ?_ ?_
   ·simp [Qac,lkp,ren1,ren0,dw,Qpi]
   ·simp [Qax,lkp,Box.renames]
  ·rintro⟨i,hi⟩;have hml:=Qbp (B:=BW) (a+b) 0 (N+1) i;have hset:=Qew (B:=BW) (V:=a+b) (W:=a+b) (S:=0) (n:=N+1) (m:=i) (d:=(a+b)/BW^i%BW) (by decide) (by omega) rfl rfl;obtain⟨e,hgo⟩: ∃e:Nat,((mix BW (a+b) 0 (N+1) i).map fW)[i]? =some (PV.int .u64 (e:Int)):=⟨_,by rw [List.getElem?_map,Qdu _ _ _ _ _ (by omega)];rfl⟩;have h0:(0≤(i:Int))=True:=by simp
   have hiN:((i:Int)<((N+1:Nat):Int))=True:=by simp only [eq_iff_iff,iff_true];omega
   by_cases hA:i<N
   ·have hA':((i:Int)<(N:Int))=True:=by simp;omega
    have hga:=Qa0 BW_2 (show i<(digs BW a).length by omega);have hwk:=Qan (a:=i) (by omega);have hcl:=Qym (B:=BW) (by decide) a b i;obtain⟨s1,s2⟩:(a/BW^i%BW+b/BW^i%BW+carry BW a b i)%18446744073709551616=(a+b)/BW^i%BW∧(a/BW^i%BW+b/BW^i%BW+carry BW a b i)/18446744073709551616=carry BW a b (i+1):=Qyn (B:=BW) (by decide) a b i;have hy0: ¬i<(digs BW b).length→b/BW^i%BW=0:=fun h=>by rw [Qck BW_2 (Nat.le_of_not_lt h),Nat.zero_mod]
    have hgb:i<(digs BW b).length→(digs BW b)[i]? =some (b/BW^i%BW):=fun h=>Qa0 BW_2 h;have hc:=Qrl (a/BW^i%BW) (b/BW^i%BW) (carry BW a b i) hcl;rw [s1,s2]at hc;generalize a/BW^i%BW=x at*;generalize b/BW^i%BW=y at*;generalize (a+b)/BW^i%BW=z at*;by_cases hB:i<(digs BW b).length
    ·have hB':((i:Int)<((digs BW b).length:Int))=True:=by simp;omega
     have hgb:=hgb hB;simp -implicitDefEqProofs only [go_sem,Nat.reduceAdd,Nat.reduceMul,Nat.reduceEqDiff,Nat.reduceLT,Nat.reduceLeDiff,reduceCtorEq,dw,List.length_map,hA',hB',h0,Qci,hga,hgb,Int.toNat_natCast];refine Qah _ _ _ _ _ _ _ _ _ hc ?_;simp -implicitDefEqProofs only [go_sem,Nat.reduceAdd,Nat.reduceMul,Nat.reduceEqDiff,Nat.reduceLT,Nat.reduceLeDiff,reduceIte,reduceCtorEq,h0,hiN,Int.toNat_natCast,hwk,hgo];refine⟨⟨i+1,hA⟩,by simp only;omega,?_⟩;refine Qaj (θ:=[(303,303)]) rfl ?_ ?_
     ·simp [Qac,lkp,ren1,ren0,dw]
     ·rw [Qc8,hset];simp [Qax,lkp,Box.renames]
    ·have hB':((i:Int)<((digs BW b).length:Int))=False:=by simp;omega
     obtain rfl:=hy0 hB;simp -implicitDefEqProofs only [go_sem,Nat.reduceAdd,Nat.reduceMul,Nat.reduceEqDiff,Nat.reduceLT,Nat.reduceLeDiff,reduceCtorEq,dw,List.length_map,hA',hB',h0,Qci,hga,Int.toNat_natCast];refine Qah _ _ _ _ _ _ _ _ _ hc ?_;simp -implicitDefEqProofs only [go_sem,Nat.reduceAdd,Nat.reduceMul,Nat.reduceEqDiff,Nat.reduceLT,Nat.reduceLeDiff,reduceIte,reduceCtorEq,h0,hiN,Int.toNat_natCast,hwk,hgo];refine⟨⟨i+1,hA⟩,by simp only;omega,?_⟩;refine Qaj (θ:=[(303,303)]) rfl ?_ ?_
     ·simp [Qac,lkp,ren1,ren0,dw]
     ·rw [Qc8,hset];simp [Qax,lkp,Box.renames]
   ·have hA':((i:Int)<(N:Int))=False:=by simp;omega
    obtain rfl:i=N:=by omega
    have hsum:(a+b)/BW^i<2:=Nat.div_lt_of_lt_mul (by omega);have hcN:carry BW a b i=(a+b)/BW^i%BW:=by
     rw [carry,Nat.mod_eq_of_lt hlt,Nat.mod_eq_of_lt hlt2,Nat.mod_eq_of_lt (Nat.lt_trans hsum (by decide))]
    have hm:mix BW (a+b) 0 (i+1) (i+1)=lows BW (a+b) (i+1):=Qgq (by decide) (by rw [Nat.pow_succ,←Nat.div_div_eq_div_mul,Nat.div_eq_of_lt (Nat.lt_trans hsum (by decide)),Nat.zero_div]);rw [hm]at hset;have htk:((lows BW (a+b) (i+1)).map fW).take (i+1)=(lows BW (a+b) (i+1)).map fW:=List.take_of_length_le (by simp [Qak]);have hll:=Qak (B:=BW) (a+b) (i+1);have hbig:a+b<BW^(i+1):=by
     rw [Nat.pow_succ];have:BW^i*2≤BW^i*BW:=Nat.mul_le_mul_left _ (by decide);omega
    rw [hcN];simp -implicitDefEqProofs only [go_sem,Nat.reduceAdd,Nat.reduceMul,Nat.reduceEqDiff,Nat.reduceLT,Nat.reduceLeDiff,reduceIte,reduceCtorEq,dw,hA',h0,hiN,hN,Int.toNat_natCast,hgo,List.length_map,Qc8,hset,hll,htk];refine Qah _ _ _ _ _ _ _ _ _ (Qdo (lows BW (a+b) (i+1)) (by rw [Qak];simp [maxLen];omega)) ?_;simp -implicitDefEqProofs only [go_sem,Nat.reduceAdd,Nat.reduceEqDiff,Nat.reduceLT,reduceCtorEq,dw];rw [Qb6 BW_2,Nat.mod_eq_of_lt hbig]
end Go.Proofs.YtjlkapdmgjocdaaGreat

namespace Go.Proofs.YtjlkapdmgjocdaaGreat
open Go.Vl Go.RowKit Go.Dg
def nP (neg:Bool) (m:Nat):PV:= .agg [.bool neg,dw (digs BW m)]
def sv (neg:Bool) (m:Nat):Int:=if neg then -(m:Int)else m
theorem Zw8 (neg:Bool) (m:Nat):Qaf Tryz.prog 116 [nP neg m] (nP (!neg) m):=by
 refine Qab (tb:=[]) 9 [.cell 2 128] [0,1,2] mixed Tryz.func116 rfl (by kernel_rfl) (by kernel_rfl) (by kernel_rfl) (by kernel_rfl) ?_;simp -implicitDefEqProofs only [go_sem,Nat.reduceAdd,Nat.reduceMul,Nat.reduceEqDiff,Nat.reduceLT,Nat.reduceLeDiff,reduceCtorEq,nP,dw]
theorem Za8 (neg:Bool) (m:Nat):Qaf Tryz.prog 117 [nP neg m] (.int .i64 (sv neg m).sign):=by
 refine Qab (tb:=[]) 11 [.tmp 2] [0,1,2,3,8] mixed Tryz.func117 rfl (by kernel_rfl) (by kernel_rfl) (by kernel_rfl) (by kernel_rfl) ?_;by_cases h0:m=0
 ·subst h0;have h1:(((0:Nat):Int)==0)=true:=rfl;have e:(sv neg 0).sign=0:=by cases neg<;>rfl
  rw [e];simp -implicitDefEqProofs only [go_sem,Nat.reduceAdd,Nat.reduceMul,Nat.reduceEqDiff,Nat.reduceLT,Nat.reduceLeDiff,reduceCtorEq,Int.reduceNeg,nP,dw,Qbi,List.map_nil,List.length_nil,h1]
 ·have h1:(((digs BW m).length:Int)==0)=false:=by
   have:=List.length_pos_iff.2 (mt (Qbo BW_2).1 h0);simp only [beq_eq_false_iff_ne,ne_eq];omega
  cases neg with
  |true=>
   have e:(sv true m).sign= -1:=Int.sign_eq_neg_one_of_neg (by simp [sv];omega);rw [e];simp -implicitDefEqProofs only [go_sem,Nat.reduceAdd,Nat.reduceMul,Nat.reduceEqDiff,Nat.reduceLT,Nat.reduceLeDiff,reduceCtorEq,Int.reduceNeg,nP,dw,List.length_map,h1]
  |false=>
   have e:(sv false m).sign=1:=Int.sign_eq_one_of_pos (by simp [sv];omega);rw [e];simp -implicitDefEqProofs only [go_sem,Nat.reduceAdd,Nat.reduceMul,Nat.reduceEqDiff,Nat.reduceLT,Nat.reduceLeDiff,reduceCtorEq,Int.reduceNeg,nP,dw,List.length_map,h1]
theorem Zmr (xn yn:Bool) (x y:Nat) (hx:(digs BW x).length≤1000000000) (hy:(digs BW y).length≤1000000000):
  ∃(n:Bool) (m:Nat),Qaf Tryz.prog 89 [nP xn x,nP yn y] (nP n m)∧sv n m=sv xn x+sv yn y∧m≤x+y:=by
 cases hs:(xn==yn)with
 |true=>
  obtain rfl:xn=yn:=by simpa using hs
  refine⟨xn,x+y,?_,by cases xn<;>simp [sv]<;>omega,Nat.le_refl _⟩;refine Qab (tb:=[]) 42 [.cell 4 128] [0,1,2,3,4,5,19] mixed Tryz.func89 rfl (by kernel_rfl) (by kernel_rfl) (by kernel_rfl) (by kernel_rfl) ?_;simp -implicitDefEqProofs only [go_sem,Nat.reduceAdd,Nat.reduceMul,Nat.reduceEqDiff,Nat.reduceLT,Nat.reduceLeDiff,reduceCtorEq,nP,dw,hs];refine Qah _ _ _ _ _ _ _ _ _ (Zmq x y hx hy) ?_;simp -implicitDefEqProofs only [go_sem,Nat.reduceAdd,Nat.reduceEqDiff,Nat.reduceLT,Nat.reduceLeDiff,reduceCtorEq,dw];exact Qae _ _ (by kernel_rfl)
 |false=>
  have hne:yn= !xn:=by cases xn<;>cases yn<;>simp at hs ⊢
  by_cases hc:y≤x
  ·refine⟨xn,x-y,?_,by subst hne;cases xn<;>simp [sv]<;>omega,by omega⟩;have h1:(0≤cmpW x y)=True:=by simp only [eq_iff_iff,iff_true];have:=Qek x y;omega
   refine Qab (tb:=[]) 42 [.cell 4 128] [0,1,2,3,4,5,19] mixed Tryz.func89 rfl (by kernel_rfl) (by kernel_rfl) (by kernel_rfl) (by kernel_rfl) ?_;simp -implicitDefEqProofs only [go_sem,Nat.reduceAdd,Nat.reduceMul,Nat.reduceEqDiff,Nat.reduceLT,Nat.reduceLeDiff,reduceCtorEq,nP,dw,hs];refine Qah _ _ _ _ _ _ _ _ _ (Qdz x y hx hy) ?_;simp -implicitDefEqProofs only [go_sem,Nat.reduceAdd,Nat.reduceMul,Nat.reduceEqDiff,Nat.reduceLT,Nat.reduceLeDiff,reduceCtorEq,h1];refine Qah _ _ _ _ _ _ _ _ _ (Qty x y hc hx) ?_;simp -implicitDefEqProofs only [go_sem,Nat.reduceAdd,Nat.reduceEqDiff,Nat.reduceLT,Nat.reduceLeDiff,reduceCtorEq,dw];exact Qae _ _ (by kernel_rfl)
  ·refine⟨yn,y-x,?_,by subst hne;cases xn<;>simp [sv]<;>omega,by omega⟩;have h1:(0≤cmpW x y)=False:=by simp only [eq_iff_iff,iff_false];have:=Qek x y;omega
   refine Qab (tb:=[]) 42 [.cell 4 128] [0,1,2,3,4,5,19] mixed Tryz.func89 rfl (by kernel_rfl) (by kernel_rfl) (by kernel_rfl) (by kernel_rfl) ?_;simp -implicitDefEqProofs only [go_sem,Nat.reduceAdd,Nat.reduceMul,Nat.reduceEqDiff,Nat.reduceLT,Nat.reduceLeDiff,reduceCtorEq,nP,dw,hs];refine Qah _ _ _ _ _ _ _ _ _ (Qdz x y hx hy) ?_;simp -implicitDefEqProofs only [go_sem,Nat.reduceAdd,Nat.reduceMul,Nat.reduceEqDiff,Nat.reduceLT,Nat.reduceLeDiff,reduceCtorEq,h1];refine Qah _ _ _ _ _ _ _ _ _ (Qty y x (by omega) hy) ?_;simp -implicitDefEqProofs only [go_sem,Nat.reduceAdd,Nat.reduceEqDiff,Nat.reduceLT,Nat.reduceLeDiff,reduceCtorEq,dw];exact Qae _ _ (by kernel_rfl)
def Qbj (neg:Bool) (l:List UInt8):Bool:=match l with
 | []=> !neg
 |b::_=>decide (l.length≤8192)&&b != 0
theorem Zs2 {s:ByteArray} {b:UInt8} {r:List UInt8} (h:s.data.toList=b::r):s[0]? =some b:=by
 rw [Qsr s 0 (by rw [h];simp)];simp only [h,List.getElem_cons_zero]
theorem Qwy (b:UInt8):((b.toNat:Int) != 0)=(b != 0):=by
 by_cases h:b=0
 ·subst h;rfl
 ·have:b.toNat≠0:=fun e=>h (UInt8.toNat_inj.1 (by simpa using e));have h1:((b.toNat:Int) != 0)=true:=by simp;omega
  have h2:(b != 0)=true:=by simp [h]
  rw [h1,h2]
end Go.Proofs.YtjlkapdmgjocdaaGreat

namespace Go.Proofs.YtjlkapdmgjocdaaGreat
open Go.Vl Go.RowKit Go.Dg
theorem Qf2 (neg:Bool) (s:ByteArray):Qaf Tryz.prog 70 [.agg [.bool neg,.str s]] (.bool (Qbj neg s.data.toList)):=by
 have hz:=Qib s;cases h:s.data.toList with
 |nil=>
  have h1:(([]:List UInt8)== [])=true:=rfl;refine Qab (tb:=[]) 19 [.tmp 2] [0,1,2,5] mixed Tryz.func70 rfl (by kernel_rfl) (by kernel_rfl) (by kernel_rfl) (by kernel_rfl) ?_;simp -implicitDefEqProofs only [go_sem,Nat.reduceAdd,Nat.reduceMul,Nat.reduceEqDiff,Nat.reduceLT,Nat.reduceLeDiff,reduceCtorEq,Qbj,h,h1]
 |cons b r=>
  have h0:=Zs2 h;have hne:(b::r== [])=false:=rfl;rw [h]at hz;refine Qab (tb:=[]) 19 [.tmp 2] [0,1,2,5] mixed Tryz.func70 rfl (by kernel_rfl) (by kernel_rfl) (by kernel_rfl) (by kernel_rfl) ?_;by_cases hb:(b != 0)=true
  ·by_cases h2:(b::r).length≤8192
   ·have h2':((s.size:Int)≤8192)=True:=by rw [hz];simp only [eq_iff_iff,iff_true];omega
    have e:Qbj neg (b::r)=true:=by simp only [Qbj,h2,decide_true,Bool.true_and,hb]
    rw [e];simp -implicitDefEqProofs only [go_sem,Nat.reduceAdd,Nat.reduceMul,Nat.reduceEqDiff,Nat.reduceLT,Nat.reduceLeDiff,reduceCtorEq,h,hne,h2',h0,Qwy,hb]
   ·have h2':((s.size:Int)≤8192)=False:=by rw [hz];simp only [eq_iff_iff,iff_false];omega
    have e:Qbj neg (b::r)=false:=by simp only [Qbj,h2,decide_false,Bool.false_and]
    rw [e];simp -implicitDefEqProofs only [go_sem,Nat.reduceAdd,Nat.reduceMul,Nat.reduceEqDiff,Nat.reduceLT,Nat.reduceLeDiff,reduceCtorEq,h,hne,h2',h0,Qwy,hb]
  ·have hb':(b != 0)=false:=by simpa using hb
   have e:Qbj neg (b::r)=false:=by simp only [Qbj,hb',Bool.and_false]
   rw [e];simp -implicitDefEqProofs only [go_sem,Nat.reduceAdd,Nat.reduceMul,Nat.reduceEqDiff,Nat.reduceLT,Nat.reduceLeDiff,reduceCtorEq,h,hne,h0,Qwy,hb']
theorem Qtz (an bn:Bool) (a b:ByteArray):Qaf Tryz.prog 86 [.agg [.bool an,.str a],.agg [.bool bn,.str b]] (.bool (Qbj an a.data.toList&&Qbj bn b.data.toList)):=by
 refine Qab (tb:=[]) 11 [.tmp 4] [0,1,2,3,4] mixed Tryz.func86 rfl (by kernel_rfl) (by kernel_rfl) (by kernel_rfl) (by kernel_rfl) ?_;simp -implicitDefEqProofs only [go_sem,Nat.reduceAdd,Nat.reduceMul,Nat.reduceEqDiff,Nat.reduceLT,Nat.reduceLeDiff,reduceCtorEq];refine Qah _ _ _ _ _ _ _ _ _ (Qf2 an a) ?_;cases h:Qbj an a.data.toList with
 |true=>
  simp -implicitDefEqProofs only [go_sem,Nat.reduceAdd,Nat.reduceEqDiff,Nat.reduceLT,reduceCtorEq,Bool.true_and];refine Qah _ _ _ _ _ _ _ _ _ (Qf2 bn b) ?_;simp -implicitDefEqProofs only [go_sem,Nat.reduceAdd,Nat.reduceEqDiff,Nat.reduceLT,reduceCtorEq]
 |false=>
  simp -implicitDefEqProofs only [go_sem,Nat.reduceAdd,Nat.reduceEqDiff,Nat.reduceLT,reduceCtorEq,Bool.false_and]
end Go.Proofs.YtjlkapdmgjocdaaGreat

namespace Go.Proofs.YtjlkapdmgjocdaaGreat
open Go.Vl Go.RowKit Go.Dg
def Qrq (T:List UInt8):Bool:=(List.range 256).all fun x=>match T[x]? with
 |some t=>decide (x<2^t.toNat)&&(decide (x=0∧t.toNat=0)||decide (2^(t.toNat-1)≤x∧0<t.toNat))
 |none=>false
theorem Qd7 {s:ByteArray} (h:Qrq s.data.toList=true) {x:Nat} (hx:x<256): ∃t:UInt8,s[x]? =some t∧t.toNat=blen x:=by
 have h1:=List.all_eq_true.1 h x (by simpa using hx);cases ht:s.data.toList[x]? with
 |none=>rw [ht]at h1;cases h1
 |some t=>
  rw [ht]at h1;simp only [Bool.and_eq_true,Bool.or_eq_true,decide_eq_true_eq]at h1;have hl:=(List.getElem?_eq_some_iff.1 ht);refine⟨t,by rw [Qsr s x hl.1];rw [←List.getElem?_eq_getElem hl.1,ht],?_⟩;obtain⟨h1,h2⟩:=h1;have:=Qds _ _ h1;rcases h2 with⟨rfl,h2⟩|⟨h2,h3⟩
  ·rw [h2,Qgn]
  ·have:=Qmm _ _ h2;omega
theorem Qjn (n k:Nat):(n:Int).fdiv (2^k)=((n/2^k:Nat):Int):=by
 rw [Int.fdiv_eq_ediv_of_nonneg _ (Int.pow_nonneg (by decide))];simp
theorem Qzg (n:Nat):(n:Int).fdiv (2^min 16 64)=((n/65536:Nat):Int):=by
 rw [Int.fdiv_eq_ediv_of_nonneg _ (by decide)];rfl
theorem Zkk (n:Nat):(n:Int).fdiv (2^min 8 64)=((n/256:Nat):Int):=by
 rw [Int.fdiv_eq_ediv_of_nonneg _ (by decide)];rfl
theorem Zs3 (x:Nat) (hx:x<18446744073709551616):Qaf Tryz.prog 137 [.int .u64 (x:Int)] (.int .i64 (blen x:Int)):=by
 have wc8:IntKind.i64.wrap 8=8:=rfl;have wc16:IntKind.i64.wrap 16=16:=rfl;have wc24:IntKind.i64.wrap 24=24:=rfl;have wc32:IntKind.i64.wrap 32=32:=rfl;have wc40:IntKind.i64.wrap 40=40:=rfl;have wc48:IntKind.i64.wrap 48=48:=rfl;have wc56:IntKind.i64.wrap 56=56:=rfl;by_cases q32:4294967296≤x
 ·have h32:(4294967296≤((x:Nat):Int))=True:=by simp only [eq_iff_iff,iff_true];omega
  by_cases q16:65536≤x/4294967296
  ·have h16:(65536≤((x/4294967296:Nat):Int))=True:=by simp only [eq_iff_iff,iff_true];omega
   by_cases q8:256≤(x/4294967296)/65536
   ·have h8:(256≤(((x/4294967296)/65536:Nat):Int))=True:=by simp only [eq_iff_iff,iff_true];omega
    have hx8:((x/4294967296)/65536)/256<256:=by omega
    have hw:=Qgs hx8;have h0:(0≤((((x/4294967296)/65536)/256:Nat):Int))=True:=by simp only [eq_iff_iff,iff_true];exact Int.natCast_nonneg _
    have hb:blen x=blen (((x/4294967296)/65536)/256)+56:=by have:=Qei 56 x (by simp only [Nat.reducePow];omega);simp only [Nat.reducePow]at this;rw [this,show((x/4294967296)/65536)/256=x/72057594037927936 by omega]
    refine Qab (tb:=[]) 25 [.tmp 2] [0,2,4,8,14] mixed Tryz.func137 rfl (by kernel_rfl) (by kernel_rfl) (by kernel_rfl) (by kernel_rfl) ?_;simp -implicitDefEqProofs only [go_sem,Nat.reduceAdd,Nat.reduceMul,Nat.reduceEqDiff,Nat.reduceLT,Nat.reduceLeDiff,reduceCtorEq,Int.reduceLT,Int.reduceToNat,Int.reduceAdd,h32,h16,h8,Qsq,Qzg,Zkk,hw,h0,Int.toNat_natCast,wc48,wc56];generalize hT:ByteArray.mk _=T;have hok:Qrq T.data.toList=true:=by rw [←hT];kernel_rfl
    obtain⟨t,ht,htb⟩:=Qd7 hok hx8;clear hT;have hw2:IntKind.i64.wrap (t.toNat:Int)=(t.toNat:Int):=wrapn (by have:=t.toNat_lt;omega);have hw3:IntKind.i64.wrap (56+(t.toNat:Int))=((blen x:Nat):Int):=by rw [Qag (by have:=t.toNat_lt;omega) (by have:=t.toNat_lt;omega),hb,←htb];omega
    rw [htb]at hw2 hw3;simp -implicitDefEqProofs only [go_sem,Nat.reduceAdd,Nat.reduceEqDiff,Nat.reduceLT,reduceCtorEq,ht,hw2,hw3,htb]
   ·have h8:(256≤(((x/4294967296)/65536:Nat):Int))=False:=by simp only [eq_iff_iff,iff_false];omega
    have hx8:(x/4294967296)/65536<256:=by omega
    have hw:=Qgs hx8;have h0:(0≤(((x/4294967296)/65536:Nat):Int))=True:=by simp only [eq_iff_iff,iff_true];exact Int.natCast_nonneg _
    have hb:blen x=blen ((x/4294967296)/65536)+48:=by have:=Qei 48 x (by simp only [Nat.reducePow];omega);simp only [Nat.reducePow]at this;rw [this,show(x/4294967296)/65536=x/281474976710656 by omega]
    refine Qab (tb:=[]) 25 [.tmp 2] [0,2,4,8,14] mixed Tryz.func137 rfl (by kernel_rfl) (by kernel_rfl) (by kernel_rfl) (by kernel_rfl) ?_;simp -implicitDefEqProofs only [go_sem,Nat.reduceAdd,Nat.reduceMul,Nat.reduceEqDiff,Nat.reduceLT,Nat.reduceLeDiff,reduceCtorEq,Int.reduceLT,Int.reduceToNat,Int.reduceAdd,h32,h16,h8,Qsq,Qzg,hw,h0,Int.toNat_natCast,wc48];generalize hT:ByteArray.mk _=T;have hok:Qrq T.data.toList=true:=by rw [←hT];kernel_rfl
    obtain⟨t,ht,htb⟩:=Qd7 hok hx8;clear hT;have hw2:IntKind.i64.wrap (t.toNat:Int)=(t.toNat:Int):=wrapn (by have:=t.toNat_lt;omega);have hw3:IntKind.i64.wrap (48+(t.toNat:Int))=((blen x:Nat):Int):=by rw [Qag (by have:=t.toNat_lt;omega) (by have:=t.toNat_lt;omega),hb,←htb];omega
    rw [htb]at hw2 hw3;simp -implicitDefEqProofs only [go_sem,Nat.reduceAdd,Nat.reduceEqDiff,Nat.reduceLT,reduceCtorEq,ht,hw2,hw3,htb]
  ·have h16:(65536≤((x/4294967296:Nat):Int))=False:=by simp only [eq_iff_iff,iff_false];omega
   by_cases q8:256≤x/4294967296
   ·have h8:(256≤((x/4294967296:Nat):Int))=True:=by simp only [eq_iff_iff,iff_true];omega
    have hx8:(x/4294967296)/256<256:=by omega
    have hw:=Qgs hx8;have h0:(0≤(((x/4294967296)/256:Nat):Int))=True:=by simp only [eq_iff_iff,iff_true];exact Int.natCast_nonneg _
    have hb:blen x=blen ((x/4294967296)/256)+40:=by have:=Qei 40 x (by simp only [Nat.reducePow];omega);simp only [Nat.reducePow]at this;rw [this,show(x/4294967296)/256=x/1099511627776 by omega]
    refine Qab (tb:=[]) 25 [.tmp 2] [0,2,4,8,14] mixed Tryz.func137 rfl (by kernel_rfl) (by kernel_rfl) (by kernel_rfl) (by kernel_rfl) ?_;simp -implicitDefEqProofs only [go_sem,Nat.reduceAdd,Nat.reduceMul,Nat.reduceEqDiff,Nat.reduceLT,Nat.reduceLeDiff,reduceCtorEq,Int.reduceLT,Int.reduceToNat,Int.reduceAdd,h32,h16,h8,Qsq,Zkk,hw,h0,Int.toNat_natCast,wc40];generalize hT:ByteArray.mk _=T;have hok:Qrq T.data.toList=true:=by rw [←hT];kernel_rfl
    obtain⟨t,ht,htb⟩:=Qd7 hok hx8;clear hT;have hw2:IntKind.i64.wrap (t.toNat:Int)=(t.toNat:Int):=wrapn (by have:=t.toNat_lt;omega);have hw3:IntKind.i64.wrap (40+(t.toNat:Int))=((blen x:Nat):Int):=by rw [Qag (by have:=t.toNat_lt;omega) (by have:=t.toNat_lt;omega),hb,←htb];omega
    rw [htb]at hw2 hw3;simp -implicitDefEqProofs only [go_sem,Nat.reduceAdd,Nat.reduceEqDiff,Nat.reduceLT,reduceCtorEq,ht,hw2,hw3,htb]
   ·have h8:(256≤((x/4294967296:Nat):Int))=False:=by simp only [eq_iff_iff,iff_false];omega
    have hx8:x/4294967296<256:=by omega
    have hw:=Qgs hx8;have h0:(0≤((x/4294967296:Nat):Int))=True:=by simp only [eq_iff_iff,iff_true];exact Int.natCast_nonneg _
    have hb:blen x=blen (x/4294967296)+32:=by have:=Qei 32 x (by simp only [Nat.reducePow];omega);simp only [Nat.reducePow]at this;rw [this,show x/4294967296=x/4294967296 by omega]
    refine Qab (tb:=[]) 25 [.tmp 2] [0,2,4,8,14] mixed Tryz.func137 rfl (by kernel_rfl) (by kernel_rfl) (by kernel_rfl) (by kernel_rfl) ?_;simp -implicitDefEqProofs only [go_sem,Nat.reduceAdd,Nat.reduceMul,Nat.reduceEqDiff,Nat.reduceLT,Nat.reduceLeDiff,reduceCtorEq,Int.reduceLT,Int.reduceToNat,h32,h16,h8,Qsq,hw,h0,Int.toNat_natCast];generalize hT:ByteArray.mk _=T;have hok:Qrq T.data.toList=true:=by rw [←hT];kernel_rfl
    obtain⟨t,ht,htb⟩:=Qd7 hok hx8;clear hT;have hw2:IntKind.i64.wrap (t.toNat:Int)=(t.toNat:Int):=wrapn (by have:=t.toNat_lt;omega);have hw3:IntKind.i64.wrap (32+(t.toNat:Int))=((blen x:Nat):Int):=by rw [Qag (by have:=t.toNat_lt;omega) (by have:=t.toNat_lt;omega),hb,←htb];omega
    rw [htb]at hw2 hw3;simp -implicitDefEqProofs only [go_sem,Nat.reduceAdd,Nat.reduceEqDiff,Nat.reduceLT,reduceCtorEq,ht,hw2,hw3,htb]
 ·have h32:(4294967296≤((x:Nat):Int))=False:=by simp only [eq_iff_iff,iff_false];omega
  by_cases q16:65536≤x
  ·have h16:(65536≤((x:Nat):Int))=True:=by simp only [eq_iff_iff,iff_true];omega
   by_cases q8:256≤x/65536
   ·have h8:(256≤((x/65536:Nat):Int))=True:=by simp only [eq_iff_iff,iff_true];omega
    have hx8:(x/65536)/256<256:=by omega
    have hw:=Qgs hx8;have h0:(0≤(((x/65536)/256:Nat):Int))=True:=by simp only [eq_iff_iff,iff_true];exact Int.natCast_nonneg _
    have hb:blen x=blen ((x/65536)/256)+24:=by have:=Qei 24 x (by simp only [Nat.reducePow];omega);simp only [Nat.reducePow]at this;rw [this,show(x/65536)/256=x/16777216 by omega]
    refine Qab (tb:=[]) 25 [.tmp 2] [0,2,4,8,14] mixed Tryz.func137 rfl (by kernel_rfl) (by kernel_rfl) (by kernel_rfl) (by kernel_rfl) ?_;simp -implicitDefEqProofs only [go_sem,Nat.reduceAdd,Nat.reduceMul,Nat.reduceEqDiff,Nat.reduceLT,Nat.reduceLeDiff,reduceCtorEq,Int.reduceLT,Int.reduceToNat,Int.reduceAdd,h32,h16,h8,Qzg,Zkk,hw,h0,Int.toNat_natCast,wc16,wc24];generalize hT:ByteArray.mk _=T;have hok:Qrq T.data.toList=true:=by rw [←hT];kernel_rfl
    obtain⟨t,ht,htb⟩:=Qd7 hok hx8;clear hT;have hw2:IntKind.i64.wrap (t.toNat:Int)=(t.toNat:Int):=wrapn (by have:=t.toNat_lt;omega);have hw3:IntKind.i64.wrap (24+(t.toNat:Int))=((blen x:Nat):Int):=by rw [Qag (by have:=t.toNat_lt;omega) (by have:=t.toNat_lt;omega),hb,←htb];omega
    rw [htb]at hw2 hw3;simp -implicitDefEqProofs only [go_sem,Nat.reduceAdd,Nat.reduceEqDiff,Nat.reduceLT,reduceCtorEq,ht,hw2,hw3,htb]
   ·have h8:(256≤((x/65536:Nat):Int))=False:=by simp only [eq_iff_iff,iff_false];omega
    have hx8:x/65536<256:=by omega
    have hw:=Qgs hx8;have h0:(0≤((x/65536:Nat):Int))=True:=by simp only [eq_iff_iff,iff_true];exact Int.natCast_nonneg _
    have hb:blen x=blen (x/65536)+16:=by have:=Qei 16 x (by simp only [Nat.reducePow];omega);simp only [Nat.reducePow]at this;rw [this,show x/65536=x/65536 by omega]
    refine Qab (tb:=[]) 25 [.tmp 2] [0,2,4,8,14] mixed Tryz.func137 rfl (by kernel_rfl) (by kernel_rfl) (by kernel_rfl) (by kernel_rfl) ?_;simp -implicitDefEqProofs only [go_sem,Nat.reduceAdd,Nat.reduceMul,Nat.reduceEqDiff,Nat.reduceLT,Nat.reduceLeDiff,reduceCtorEq,Int.reduceLT,Int.reduceToNat,Int.reduceAdd,h32,h16,h8,Qzg,hw,h0,Int.toNat_natCast,wc16];generalize hT:ByteArray.mk _=T;have hok:Qrq T.data.toList=true:=by rw [←hT];kernel_rfl
    obtain⟨t,ht,htb⟩:=Qd7 hok hx8;clear hT;have hw2:IntKind.i64.wrap (t.toNat:Int)=(t.toNat:Int):=wrapn (by have:=t.toNat_lt;omega);have hw3:IntKind.i64.wrap (16+(t.toNat:Int))=((blen x:Nat):Int):=by rw [Qag (by have:=t.toNat_lt;omega) (by have:=t.toNat_lt;omega),hb,←htb];omega
    rw [htb]at hw2 hw3;simp -implicitDefEqProofs only [go_sem,Nat.reduceAdd,Nat.reduceEqDiff,Nat.reduceLT,reduceCtorEq,ht,hw2,hw3,htb]
  ·have h16:(65536≤((x:Nat):Int))=False:=by simp only [eq_iff_iff,iff_false];omega
   by_cases q8:256≤x
   ·have h8:(256≤((x:Nat):Int))=True:=by simp only [eq_iff_iff,iff_true];omega
    have hx8:x/256<256:=by omega
    have hw:=Qgs hx8;have h0:(0≤((x/256:Nat):Int))=True:=by simp only [eq_iff_iff,iff_true];exact Int.natCast_nonneg _
    have hb:blen x=blen (x/256)+8:=by have:=Qei 8 x (by simp only [Nat.reducePow];omega);simp only [Nat.reducePow]at this;rw [this,show x/256=x/256 by omega]
    refine Qab (tb:=[]) 25 [.tmp 2] [0,2,4,8,14] mixed Tryz.func137 rfl (by kernel_rfl) (by kernel_rfl) (by kernel_rfl) (by kernel_rfl) ?_;simp -implicitDefEqProofs only [go_sem,Nat.reduceAdd,Nat.reduceMul,Nat.reduceEqDiff,Nat.reduceLT,Nat.reduceLeDiff,reduceCtorEq,Int.reduceLT,Int.reduceToNat,Int.reduceAdd,h32,h16,h8,Zkk,hw,h0,Int.toNat_natCast,wc8];generalize hT:ByteArray.mk _=T;have hok:Qrq T.data.toList=true:=by rw [←hT];kernel_rfl
    obtain⟨t,ht,htb⟩:=Qd7 hok hx8;clear hT;have hw2:IntKind.i64.wrap (t.toNat:Int)=(t.toNat:Int):=wrapn (by have:=t.toNat_lt;omega);have hw3:IntKind.i64.wrap (8+(t.toNat:Int))=((blen x:Nat):Int):=by rw [Qag (by have:=t.toNat_lt;omega) (by have:=t.toNat_lt;omega),hb,←htb];omega
    rw [htb]at hw2 hw3;simp -implicitDefEqProofs only [go_sem,Nat.reduceAdd,Nat.reduceEqDiff,Nat.reduceLT,reduceCtorEq,ht,hw2,hw3,htb]
   ·have h8:(256≤((x:Nat):Int))=False:=by simp only [eq_iff_iff,iff_false];omega
    have hx8:x<256:=by omega
    have hw:=Qgs hx8;have h0:(0≤((x:Nat):Int))=True:=by simp only [eq_iff_iff,iff_true];exact Int.natCast_nonneg _
    have hb:blen x=blen (x)+0:=by rfl
    refine Qab (tb:=[]) 25 [.tmp 2] [0,2,4,8,14] mixed Tryz.func137 rfl (by kernel_rfl) (by kernel_rfl) (by kernel_rfl) (by kernel_rfl) ?_;simp -implicitDefEqProofs only [go_sem,Nat.reduceAdd,Nat.reduceMul,Nat.reduceEqDiff,Nat.reduceLT,Nat.reduceLeDiff,reduceCtorEq,h32,h16,h8,hw,h0,Int.toNat_natCast];generalize hT:ByteArray.mk _=T;have hok:Qrq T.data.toList=true:=by rw [←hT];kernel_rfl
    obtain⟨t,ht,htb⟩:=Qd7 hok hx8;clear hT;have hw2:IntKind.i64.wrap (t.toNat:Int)=(t.toNat:Int):=wrapn (by have:=t.toNat_lt;omega);have hw3:IntKind.i64.wrap (0+(t.toNat:Int))=((blen x:Nat):Int):=by rw [Qag (by have:=t.toNat_lt;omega) (by have:=t.toNat_lt;omega),hb,←htb];omega
    rw [htb]at hw2 hw3;simp -implicitDefEqProofs only [go_sem,Nat.reduceAdd,Nat.reduceEqDiff,Nat.reduceLT,reduceCtorEq,ht,hw2,hw3,htb]
end Go.Proofs.YtjlkapdmgjocdaaGreat

namespace Go.Proofs.YtjlkapdmgjocdaaGreat
open Go.Vl Go.RowKit Go.Dg
theorem Za9 (x:Nat) (hx:x<18446744073709551616):Qaf Tryz.prog 121 [.int .u64 (x:Int)] (.int .i64 ((64-blen x:Nat):Int)):=by
 have hb:=Qds 64 x hx;have hw:IntKind.i64.wrap (64-((blen x:Nat):Int))=((64-blen x:Nat):Int):=by rw [Qag (by omega) (by omega)];omega
 refine Qab (tb:=[]) 6 [.tmp 2] [0,2] mixed Tryz.func121 rfl (by kernel_rfl) (by kernel_rfl) (by kernel_rfl) (by kernel_rfl) ?_;simp -implicitDefEqProofs only [go_sem,Nat.reduceAdd,Nat.reduceMul,Nat.reduceEqDiff,Nat.reduceLT,Nat.reduceLeDiff,reduceCtorEq];refine Qah _ _ _ _ _ _ _ _ _ (Zs3 x hx) ?_;simp -implicitDefEqProofs only [go_sem,Nat.reduceAdd,Nat.reduceEqDiff,Nat.reduceLT,reduceCtorEq,hw]
theorem Qwz (m:Nat) (hl:(digs BW m).length≤1000000000):Qaf Tryz.prog 107 [dw (digs BW m)] (.int .i64 (blen m:Int)):=by
 refine Qab (tb:=[]) 17 [.tmp 2] [0,2,5] mixed Tryz.func107 rfl (by kernel_rfl) (by kernel_rfl) (by kernel_rfl) (by kernel_rfl) ?_;by_cases h0:m=0
 ·subst h0;have h1:(((0:Nat):Int)==0)=true:=rfl;simp -implicitDefEqProofs only [go_sem,Nat.reduceAdd,Nat.reduceMul,Nat.reduceEqDiff,Nat.reduceLT,Nat.reduceLeDiff,reduceCtorEq,dw,Qbi,List.map_nil,List.length_nil,h1,Qgn];rfl
 ·have hp:0<(digs BW m).length:=List.length_pos_iff.2 (mt (Qbo BW_2).1 h0);have h1:(((digs BW m).length:Int)==0)=false:=by simp only [beq_eq_false_iff_ne,ne_eq];omega
  have ht:=Qd5 BW_2 h0;have hg:=Qa0 (n:=m) (k:=(digs BW m).length-1) BW_2 (by omega);rw [Nat.mod_eq_of_lt ht.2]at hg;have hb:blen m=blen (m/BW^((digs BW m).length-1))+64*((digs BW m).length-1):=Qx1 h0 64 (by decide);generalize m/BW^((digs BW m).length-1)=t at*;have htl:=Qds 64 t ht.2;generalize hL:(digs BW m).length=L at*;have hw1:IntKind.i64.wrap ((L:Int)*64)=((L*64:Nat):Int):=by rw [Qag (by omega) (by omega)];omega
  have hw2:IntKind.i64.wrap ((L:Int)-1)=((L-1:Nat):Int):=by rw [Qag (by omega) (by omega)];omega
  have hw3:IntKind.i64.wrap (((L*64:Nat):Int)-((64-blen t:Nat):Int))=((blen m:Nat):Int):=by rw [Qag (by omega) (by omega),hb];omega
  have h2:(0≤((L-1:Nat):Int))=True:=by simp only [eq_iff_iff,iff_true];exact Int.natCast_nonneg _
  simp -implicitDefEqProofs only [go_sem,Nat.reduceAdd,Nat.reduceMul,Nat.reduceEqDiff,Nat.reduceLT,Nat.reduceLeDiff,reduceCtorEq,dw,List.length_map,hL,h1,hw1,hw2,h2,Qci,hg,Int.toNat_natCast];refine Qah _ _ _ _ _ _ _ _ _ (Za9 t ht.2) ?_;simp -implicitDefEqProofs only [go_sem,Nat.reduceAdd,Nat.reduceEqDiff,Nat.reduceLT,reduceCtorEq,hw3]
end Go.Proofs.YtjlkapdmgjocdaaGreat

namespace Go.Dg
abbrev WB:Nat:=18446744073709551616
theorem Zuf (m:Nat) (hm:m<8):WB=256^(m+1)*256^(7-m):=by
 rw [←Nat.pow_add,show m+1+(7-m)=8 by omega]
theorem Qqy (T b m j:Nat):256^(8*j+m+1)*T+b*256^(8*j+m)=WB^j*(256^(m+1)*T+b*256^m):=by
 have e:WB^j=256^(8*j):=by rw [Nat.pow_mul]
 rw [e,Nat.mul_add,←Nat.mul_assoc,←Nat.pow_add,Nat.mul_left_comm (256^(8*j)) b,←Nat.pow_add,Nat.add_assoc]
theorem Qph (T b m j:Nat) (hb:b<256) (hm:m<8):
  (256^(8*j+m+1)*T+b*256^(8*j+m))/WB^j%WB=256^(m+1)*(T%256^(7-m))+b*256^m:=by
 have hp:0<256^m:=Nat.pow_pos (by decide);have hlt:b*256^m<256^(m+1):=by rw [Nat.pow_succ,Nat.mul_comm];exact Nat.mul_lt_mul_of_pos_left hb hp
 rw [Qqy,Nat.mul_div_cancel_left _ (Nat.pow_pos (by decide)),Zuf m hm];generalize b*256^m=r at*;generalize 256^(m+1)=A at*;generalize 256^(7-m)=q at*;have hA:0<A:=by omega
 rw [Nat.mod_mul,Nat.mul_add_mod,Nat.mod_eq_of_lt hlt,Nat.mul_add_div hA,Nat.div_eq_of_lt hlt,Nat.add_zero,Nat.add_comm]
theorem Qvo (T b m j i:Nat) (hb:b<256) (hm:m<8) (hi:i≠j):
  (256^(8*j+m+1)*T+b*256^(8*j+m))/WB^i%WB=(256^(8*j+m+1)*T)/WB^i%WB:=by
 have hp:0<256^m:=Nat.pow_pos (by decide);have hlt:b*256^m<256^(m+1):=by rw [Nat.pow_succ,Nat.mul_comm];exact Nat.mul_lt_mul_of_pos_left hb hp
 have e2:=Qqy T 0 m j;rw [Nat.zero_mul,Nat.add_zero,Nat.zero_mul,Nat.add_zero]at e2;rw [Qqy,e2];rcases Nat.lt_or_gt_of_ne hi with h|h
 ·obtain⟨d,rfl⟩:=Nat.exists_eq_add_of_lt h;have e: ∀X:Nat,WB^(i+d+1)*X/WB^i%WB=0:=by
   intro X;rw [show i+d+1=i+(d+1)by omega,Nat.pow_add,Nat.mul_assoc,Nat.mul_div_cancel_left _ (Nat.pow_pos (by decide)),Nat.pow_succ,Nat.mul_comm (WB^d),Nat.mul_assoc,Nat.mul_mod_right]
  rw [e,e]
 ·obtain⟨d,rfl⟩:=Nat.exists_eq_add_of_lt h;have e: ∀X:Nat,WB^j*X/WB^(j+d+1)=X/WB/WB^d:=by
   intro X;rw [show j+d+1=j+(1+d)by omega,Nat.pow_add,Nat.mul_div_mul_left _ _ (Nat.pow_pos (by decide)),Nat.pow_add,Nat.pow_one,Nat.div_div_eq_div_mul]
  rw [e,e];congr 2;rw [Zuf m hm];generalize b*256^m=r at*;generalize 256^(m+1)=A at*;generalize 256^(7-m)=q at*;have hA:0<A:=by omega
  rw [←Nat.div_div_eq_div_mul,←Nat.div_div_eq_div_mul,Nat.mul_add_div hA,Nat.div_eq_of_lt hlt,Nat.add_zero,Nat.add_zero,Nat.mul_div_cancel_left _ hA]
end Go.Dg

namespace Go.Proofs.YtjlkapdmgjocdaaGreat
open Go.Vl Go.RowKit Go.Dg
theorem Zkl {P:Program} {t:TypeId} (x y:Nat):Qby .or t P (.int .u64 (x:Int)) (.int .u64 (y:Int))=some (.int .u64 (((x%18446744073709551616) ||| (y%18446744073709551616):Nat):Int)):=by
 rw [b_or];have h:(BitVec.ofInt IntKind.u64.bits (x:Int) ||| BitVec.ofInt IntKind.u64.bits (y:Int)).toNat=(x%18446744073709551616) ||| (y%18446744073709551616):=by
  rw [BitVec.toNat_or];have h1: ∀n:Nat,(BitVec.ofInt IntKind.u64.bits (n:Int)).toNat=n%18446744073709551616:=by intro n;show(BitVec.ofInt 64 (n:Int)).toNat=_;simp
  rw [h1,h1]
 rw [h,Qd1,Nat.mod_eq_of_lt (Nat.or_lt_two_pow (n:=64) (Nat.mod_lt _ (by decide)) (Nat.mod_lt _ (by decide)))]
theorem Qnv (x k:Nat):IntKind.u64.wrap ((x:Int)*2^k)=((x*2^k%18446744073709551616:Nat):Int):=by
 rw [←Qd1];congr 1
theorem Zkm (n:Nat):Int.tdiv (n:Int) 8=((n/8:Nat):Int):=by
 rw [Int.tdiv_eq_ediv_of_nonneg (by omega)];rfl
theorem Zw9 (n:Nat):Int.tmod (n:Int) 8=((n%8:Nat):Int):=by
 rw [Int.tmod_eq_emod_of_nonneg (by omega)];rfl
theorem Q2m (T b m j:Nat) (hb:b<256) (hm:m<8):
  ((256^(8*j+m+1)*T/WB^j%WB) ||| (b*2^(m*8)%18446744073709551616))=(256^(8*j+m+1)*T+b*256^(8*j+m))/WB^j%WB:=by
 have h0:=Qph T 0 m j (by decide) hm;rw [Nat.zero_mul,Nat.add_zero,Nat.zero_mul,Nat.add_zero]at h0;rw [Qph T b m j hb hm,h0];have e8: ∀k,(256:Nat)^k=2^(k*8):=fun k=>by rw [Nat.mul_comm,Nat.pow_mul]
 have hp:0<256^m:=Nat.pow_pos (by decide);have hlt:b*256^m<256^(m+1):=by rw [Nat.pow_succ,Nat.mul_comm];exact Nat.mul_lt_mul_of_pos_left hb hp
 have hle:256^(m+1)≤18446744073709551616:=Nat.pow_le_pow_right (n:=256) (by decide) (show m+1≤8 by omega);rw [←e8 m,Nat.mod_eq_of_lt (Nat.lt_of_lt_of_le hlt hle)];rw [e8 (m+1)]at hlt ⊢;exact(Nat.two_pow_add_eq_or_of_lt hlt _).symm
attribute [local go_sem high] Zkl
def pre (l:List UInt8) (i:Nat):Nat:=bnum (l.take i)*256^(l.length-i)
theorem Qrr (s:ByteArray) (hs:s.size≤1000000):Qaf Tryz.prog 85 [.str s] (dw (lows BW (bnum s.data.toList) ((s.data.toList.length+7)/8))):=by
 rw [Qib]at hs;have hsz:=Qib s;have hget:=Qsr s;generalize s.data.toList=l at*;have w1:IntKind.i64.wrap ((l.length:Int)+7)=((l.length+7:Nat):Int):=by rw [Qag (by omega) (by omega)];omega
 have w2:=wrapn (n:=(l.length+7)/8) (by omega);have hn0:((0:Int)≤(((l.length+7)/8:Nat):Int))=True:=by simp only [eq_iff_iff,iff_true];exact Int.natCast_nonneg _
 have hn1:((8:Nat):Int)*(((l.length+7)/8:Nat):Int)≤281474976710656:=by omega
 have hn2:(((l.length+7)/8:Nat):Int)≤9223372036854775807:=by omega
 refine Qab (tb:=[]) 38 [.tmp 2] [0,2,3,4,5,12,13,14] mixed Tryz.func85 rfl (by kernel_rfl) (by kernel_rfl) (by kernel_rfl) (by kernel_rfl) ?_;simp -implicitDefEqProofs only [go_sem,Nat.reduceAdd,Nat.reduceMul,Nat.reduceEqDiff,Nat.reduceLT,Nat.reduceLeDiff,reduceCtorEq,Int.reduceEq,hsz,w1,w2,Zkm,hn0,hn1,hn2,Int.toNat_natCast];have hst:List.replicate ((l.length+7)/8) (PV.int .u64 0)=(lows BW (pre l 0) ((l.length+7)/8)).map fW:=by
  rw [pre,List.take_zero,show bnum []=0 from rfl,Nat.zero_mul,Qet];simp
 rw [hst];generalize hW:(l.length+7)/8=W at*;refine Qar mixed (fun i:{i:Nat // i≤l.length}=>St.of [(0,.str s),(2,.nilS),(3,.bs 104 1 0 W),(12,.int .i64 (l.length:Int)),(13,.int .i64 (i.1:Int))]
   [(104,{els:=(lows BW (pre l i.1) W).map fW,esz:=1,ety:=130,fro:=0,live:=true,arr:=true})]) (fun i=>l.length-i.1) ⟨0,Nat.zero_le _⟩ ?_ ?_
 ·refine Qaj (θ:=[(104,104)]) rfl ?_ ?_
  ·simp [Qac,lkp,ren1,ren0]
  ·simp [Qax,lkp,Box.renames]
 ·rintro⟨i,hi⟩;by_cases hA:i<l.length
  ·have hA':((i:Int)<(l.length:Int))=True:=by simp;omega
   have h0:(0≤(i:Int))=True:=by simp
   have hg:=hget i hA;have hwk:=Qan (a:=i) (by omega);have v1:IntKind.i64.wrap ((l.length:Int)-1)=((l.length-1:Nat):Int):=by rw [Qag (by omega) (by omega)];omega
   have v2:IntKind.i64.wrap (((l.length-1:Nat):Int)-(i:Int))=((l.length-1-i:Nat):Int):=by rw [Qag (by omega) (by omega)];omega
   have htk:l.take (i+1)=l.take i++[l[i]]:=by rw [List.take_add_one];simp [hA]
   have hb:l[i].toNat<256:=l[i].toNat_lt;generalize hk:l.length-1-i=k at*;have hkj:k=8*(k/8)+k%8:=by omega
   have hm:k%8<8:=Nat.mod_lt _ (by decide);have hjW:k/8<W:=by omega
   have p0:pre l i=256^(8*(k/8)+k%8+1)*bnum (l.take i):=by
    rw [pre,Nat.mul_comm,show l.length-i=8*(k/8)+k%8+1 by omega]
   have p1:pre l (i+1)=256^(8*(k/8)+k%8+1)*bnum (l.take i)+l[i].toNat*256^(8*(k/8)+k%8):=by
    rw [pre,htk,Qml,show l.length-(i+1)=8*(k/8)+k%8 by omega,Nat.add_mul,Nat.pow_succ,Nat.mul_assoc,Nat.mul_comm (bnum _),Nat.mul_comm 256]
   have hpw:=Q2m (bnum (l.take i)) l[i].toNat (k%8) (k/8) hb hm;have hoth:=fun c hc=>Qvo (bnum (l.take i)) l[i].toNat (k%8) (k/8) c hb hm hc;rw [←p1,←p0]at hpw;rw [←p1,←p0]at hoth;have hgo:((lows BW (pre l i) W).map fW)[k/8]? =some (PV.int .u64 ((pre l i/BW^(k/8)%BW:Nat):Int)):=by rw [List.getElem?_map,Qbv _ _ _ hjW];rfl
   have hset:(lows BW (pre l i) W).set (k/8) (pre l (i+1)/BW^(k/8)%BW)=lows BW (pre l (i+1)) W:=by
    apply List.ext_getElem?;intro c;rw [List.getElem?_set,Qak];by_cases hc:c<W
    ·rw [Qbv _ _ _ hc,Qbv _ _ _ hc];by_cases e:k/8=c
     ·subst e;simp [hjW]
     ·simp only [e,if_false];rw [hoth c (fun h=>e h.symm)]
    ·rw [List.getElem?_eq_none (by rw [Qak];omega),List.getElem?_eq_none (by rw [Qak];omega)];simp;omega
   have hll:=Qak (B:=BW) (pre l i) W;have u1:IntKind.i64.wrap (((k/8:Nat):Int))=((k/8:Nat):Int):=wrapn (by omega);have u2:IntKind.i64.wrap (((k%8:Nat):Int)*8)=((k%8*8:Nat):Int):=by rw [Qag (by omega) (by omega)];omega
   have u3:(((k%8*8:Nat):Int)<0)=False:=by simp only [eq_iff_iff,iff_false];omega
   have u4:min (k%8*8) 64=k%8*8:=by omega
   have u5:(0≤((k/8:Nat):Int))=True:=by simp only [eq_iff_iff,iff_true];exact Int.natCast_nonneg _
   have u6:(((k/8:Nat):Int)<(W:Int))=True:=by simp only [eq_iff_iff,iff_true];omega
   have u7:l[i].toNat%18446744073709551616=l[i].toNat:=Nat.mod_eq_of_lt (by omega);have u8:pre l i/BW^(k/8)%BW%18446744073709551616=pre l i/BW^(k/8)%BW:=Nat.mod_mod _ _;simp -implicitDefEqProofs only [go_sem,Nat.reduceAdd,Nat.reduceMul,Nat.reduceEqDiff,Nat.reduceLT,Nat.reduceLeDiff,reduceIte,reduceCtorEq,Int.reduceEq,hA',h0,hg,hsz,v1,v2,Zkm,Zw9,u1,u2,u3,u4,u5,u6,Int.toNat_natCast,hgo,Qd1,u7,Qnv];refine⟨Qae _ _ (by kernel_rfl),⟨i+1,hA⟩,by simp only;omega,?_⟩;rw [u8,Nat.mod_mod,hpw,Qc8,hset,hwk];refine Qaj (θ:=[(104,104)]) rfl ?_ ?_
   ·simp [Qac,lkp,ren1,ren0]
   ·simp [Qax,lkp,Box.renames]
  ·have hA':((i:Int)<(l.length:Int))=False:=by simp;omega
   have e:pre l i=bnum l:=by rw [pre,List.take_of_length_le (by omega),show l.length-i=0 by omega,Nat.pow_zero,Nat.mul_one]
   have hll:=Qak (B:=BW) (bnum l) W;have htk:((lows BW (bnum l) W).map fW).take W=(lows BW (bnum l) W).map fW:=List.take_of_length_le (by simp [hll]);simp -implicitDefEqProofs only [go_sem,Nat.reduceAdd,Nat.reduceMul,Nat.reduceEqDiff,Nat.reduceLT,Nat.reduceLeDiff,reduceIte,reduceCtorEq,hA',e,List.length_map,hll,htk,dw]
end Go.Proofs.YtjlkapdmgjocdaaGreat

namespace Go.Proofs.YtjlkapdmgjocdaaGreat
open Go.Vl Go.RowKit Go.Dg
theorem Qtx (m k:Nat):m/BW^(k/8)%BW/2^(k%8*8)%256=m/256^k%256:=by
 have hm:k%8<8:=Nat.mod_lt _ (by decide);have e8: ∀k,(256:Nat)^k=2^(k*8):=fun k=>by rw [Nat.mul_comm,Nat.pow_mul]
 have hk:k=8*(k/8)+k%8:=by omega
 have e1:(256:Nat)^k=BW^(k/8)*256^(k%8):=by
  conv=>lhs;rw [hk,Nat.pow_add,Nat.pow_mul]
 rw [←e8,e1,←Nat.div_div_eq_div_mul];generalize m/BW^(k/8)=v;have e2:BW=256^(k%8)*(256*256^(7-k%8)):=by
  rw [←Nat.mul_assoc,←Nat.pow_succ,←Nat.pow_add,show k%8+1+(7-k%8)=8 by omega]
 rw [e2,Nat.mod_mul_right_div_self,Nat.mod_mul_right_mod]
def stp (m D i:Nat):List Nat:=(List.range D).map fun c=>if c<i then m/256^(D-1-c)%256 else 0
theorem Qes (m D i:Nat):(stp m D i).length=D:=by simp [stp]
theorem Qnq (m D i c:Nat) (h:c<D):(stp m D i)[c]? =some (if c<i then m/256^(D-1-c)%256 else 0):=by simp [stp,h]
theorem Zj8 (m D:Nat):List.replicate D (PV.int .u8 0)=(stp m D 0).map f8:=by
 apply List.ext_getElem?;intro c;by_cases hc:c<D
 ·rw [List.getElem?_map,Qnq _ _ _ _ hc];simp [hc]
 ·rw [List.getElem?_eq_none (by simp;omega),List.getElem?_eq_none (by simp [Qes];omega)]
theorem Zsv (m D i:Nat) (hi:i<D):(stp m D i).set i (m/256^(D-1-i)%256)=stp m D (i+1):=by
 apply List.ext_getElem?;intro c;rw [List.getElem?_set,Qes];by_cases hc:c<D
 ·rw [Qnq _ _ _ _ hc,Qnq _ _ _ _ hc];by_cases e:i=c
  ·subst e;simp [hi]
  ·simp only [e,if_false];by_cases hlt:c<i
   ·rw [if_pos hlt,if_pos (by omega)]
   ·rw [if_neg hlt,if_neg (by omega)]
 ·rw [List.getElem?_eq_none (by rw [Qes];omega),List.getElem?_eq_none (by rw [Qes];omega)];simp;omega
theorem Zj9 (m:Nat):stp m (digs 256 m).length (digs 256 m).length=(digs 256 m).reverse:=by
 apply List.ext_getElem?;intro c;by_cases hc:c<(digs 256 m).length
 ·rw [Qnq _ _ _ _ hc,if_pos hc,List.getElem?_reverse hc,Qa0 (by decide) (by omega)]
 ·rw [List.getElem?_eq_none (by rw [Qes];omega),List.getElem?_eq_none (by simp;omega)]
theorem Zwq (l:List Nat) (i:Nat) (d:Nat):(l.map f8).set i (PV.int .u8 (d:Int))=(l.set i d).map f8:=(List.map_set (f:=f8)).symm
theorem Zka (n:Nat):IntKind.u8.wrap (n:Int)=((n%256:Nat):Int):=by
 simp [IntKind.wrap,IntKind.signed,IntKind.bits]
theorem Qzd (m:Nat) (hl:(digs BW m).length≤1000000):Qaf Tryz.prog 108 [dw (digs BW m)] (.str ⟨(magL m).toArray⟩):=by
 have hbl:(blen m+7)/8=(digs 256 m).length:=by
  by_cases h0:m=0
  ·subst h0;rw [Qgn,Qbi];rfl
  ·have ht:=Qd5 (B:=256) (by decide) h0;have hb:blen m=blen (m/256^((digs 256 m).length-1))+8*((digs 256 m).length-1):=Qx1 h0 8 (by decide);have h1:=Qds 8 _ ht.2;have h2:=Qgo ht.1;have hp:0<(digs 256 m).length:=List.length_pos_iff.2 (mt (Qbo (by decide)).1 h0);omega
 have hbm:blen m≤64*(digs BW m).length:=Qds _ _ (by rw [Nat.pow_mul];exact Qbe BW_2 m);have w1:IntKind.i64.wrap ((blen m:Int)+7)=((blen m+7:Nat):Int):=by rw [Qag (by omega) (by omega)];omega
 have w2:=wrapn (n:=(blen m+7)/8) (by omega);generalize hD:(digs 256 m).length=D at*;have hD2:D≤9000000:=by omega
 have hn0:((0:Int)≤((D:Nat):Int))=True:=by simp
 have hn1:((1:Nat):Int)*(D:Int)≤281474976710656:=by omega
 have hn2:(D:Int)≤9223372036854775807:=by omega
 rw [hbl]at w2;refine Qab (tb:=[]) 37 [.tmp 2] [0,2,3,4,5,12,13,14] mixed Tryz.func108 rfl (by kernel_rfl) (by kernel_rfl) (by kernel_rfl) (by kernel_rfl) ?_;simp -implicitDefEqProofs only [go_sem,Nat.reduceAdd,Nat.reduceMul,Nat.reduceEqDiff,Nat.reduceLT,Nat.reduceLeDiff,reduceCtorEq,dw];refine Qah _ _ _ _ _ _ _ _ _ (Qwz m (by omega)) ?_;simp -implicitDefEqProofs only [go_sem,Nat.reduceAdd,Nat.reduceMul,Nat.reduceEqDiff,Nat.reduceLT,Nat.reduceLeDiff,reduceCtorEq,Int.reduceEq,w1,Zkm,hbl,w2,hn0,hn1,hn2,Int.toNat_natCast];have hfull:=Zj9 m;rw [hD]at hfull;rw [Zj8 m D];refine Qar mixed (fun i:{i:Nat // i≤D}=>St.of [(0,dw (digs BW m)),(2,.str ⟨#[]⟩),(3,.bs 104 1 0 D),(12,.int .i64 (D:Int)),(13,.int .i64 (i.1:Int))]
   [(104,{els:=(stp m D i.1).map f8,esz:=1,ety:=5,fro:=0,live:=true,arr:=true})]) (fun i=>D-i.1) ⟨0,Nat.zero_le _⟩ ?_ ?_
 ·refine Qaj (θ:=[(104,104)]) rfl ?_ ?_
  ·simp [Qac,lkp,ren1,ren0,dw]
  ·simp [Qax,lkp,Box.renames]
 ·rintro⟨i,hi⟩;by_cases hA:i<D
  ·have hA':((i:Int)<(D:Int))=True:=by simp;omega
   have h0:(0≤(i:Int))=True:=by simp
   have hwk:=Qan (a:=i) (by omega);have v1:IntKind.i64.wrap ((D:Int)-1)=((D-1:Nat):Int):=by rw [Qag (by omega) (by omega)];omega
   have v2:IntKind.i64.wrap (((D-1:Nat):Int)-(i:Int))=((D-1-i:Nat):Int):=by rw [Qag (by omega) (by omega)];omega
   have hset:=Zsv m D i hA;have hne:m/256^(D-1-i)≠0:=(Qda (by decide) m _).1 (by omega);generalize hk:D-1-i=k at*;have hbw:=Qtx m k;have hwne:m/BW^(k/8)≠0:=by
    intro h;apply hne;have e1:(256:Nat)^k=BW^(k/8)*256^(k%8):=by
     conv=>lhs;rw [show k=8*(k/8)+k%8 by omega,Nat.pow_add,Nat.pow_mul]
    rw [e1,←Nat.div_div_eq_div_mul,h,Nat.zero_div]
   have hgw:=Qa0 (n:=m) (k:=k/8) BW_2 ((Qda BW_2 m _).2 hwne);generalize m/BW^(k/8)%BW=q at*;have u1:IntKind.i64.wrap (((k/8:Nat):Int))=((k/8:Nat):Int):=wrapn (by omega);have u2:IntKind.i64.wrap (((k%8:Nat):Int)*8)=((k%8*8:Nat):Int):=by rw [Qag (by omega) (by omega)];omega
   have u3:(((k%8*8:Nat):Int)<0)=False:=by simp only [eq_iff_iff,iff_false];omega
   have u4:min (k%8*8) 64=k%8*8:=by omega
   have u5:(0≤((k/8:Nat):Int))=True:=by simp only [eq_iff_iff,iff_true];exact Int.natCast_nonneg _
   obtain⟨e,hgo⟩: ∃e:Nat,((stp m D i).map f8)[i]? =some (PV.int .u8 (e:Int)):=⟨_,by rw [List.getElem?_map,Qnq _ _ _ _ hA];rfl⟩;have hsl:=Qes m D i;simp -implicitDefEqProofs only [go_sem,Nat.reduceAdd,Nat.reduceMul,Nat.reduceEqDiff,Nat.reduceLT,Nat.reduceLeDiff,reduceIte,reduceCtorEq,Int.reduceEq,dw,hA',h0,v1,v2,Zkm,Zw9,u1,u2,u3,u4,u5,Int.toNat_natCast,Qci,hgw,Qjn,Zka,hbw,hgo,hwk];refine⟨⟨i+1,hA⟩,by simp only;omega,?_⟩;refine Qaj (θ:=[(104,104)]) rfl ?_ ?_
   ·simp [Qac,lkp,ren1,ren0,dw]
   ·rw [Zwq,hset];simp [Qax,lkp,Box.renames]
  ·have hA':((i:Int)<(D:Int))=False:=by simp;omega
   obtain rfl:i=D:=by omega
   rw [hfull];have hrl:(digs 256 m).reverse.length=i:=by simp [hD]
   have htk:((digs 256 m).reverse.map f8).take i=(digs 256 m).reverse.map f8:=List.take_of_length_le (by simp [hD]);simp -implicitDefEqProofs only [go_sem,Nat.reduceAdd,Nat.reduceMul,Nat.reduceEqDiff,Nat.reduceLT,Nat.reduceLeDiff,reduceIte,reduceCtorEq,hA',List.length_map,hrl,htk,Q0u];rfl
end Go.Proofs.YtjlkapdmgjocdaaGreat

namespace Go.Proofs.YtjlkapdmgjocdaaGreat
open Go.Vl Go.RowKit Go.Dg
theorem Qkr (neg:Bool) (m:Nat) (hl:(digs BW m).length≤1000000):Qaf Tryz.prog 88 [nP neg m] (Qih (sv neg m)):=by
 have hna:(sv neg m).natAbs=m:=by cases neg<;>simp [sv]
 have hneg:decide (sv neg m<0)=(neg&&decide (0<m)):=by
  cases neg
  ·simp [sv]
  ·simp [sv]
 unfold Qih;rw [hna];refine Qab (tb:=[]) 21 [.cell 2 93,.tmp 3] [0,1,2,3,7] mixed Tryz.func88 rfl (by kernel_rfl) (by kernel_rfl) (by kernel_rfl) (by kernel_rfl) ?_;simp -implicitDefEqProofs only [go_sem,Nat.reduceAdd,Nat.reduceMul,Nat.reduceEqDiff,Nat.reduceLT,Nat.reduceLeDiff,reduceCtorEq,nP,dw];refine Qah _ _ _ _ _ _ _ _ _ (Qwz m (by omega)) ?_;by_cases h:65536<blen m
 ·have h':((65536:Int)<(blen m:Int))=True:=by simp only [eq_iff_iff,iff_true];omega
  rw [if_pos h,Qyw];simp -implicitDefEqProofs only [go_sem,Nat.reduceAdd,Nat.reduceMul,Nat.reduceEqDiff,Nat.reduceLT,Nat.reduceLeDiff,reduceCtorEq,h']
 ·have h':((65536:Int)<(blen m:Int))=False:=by simp only [eq_iff_iff,iff_false];omega
  rw [if_neg h];have hlen:decide ((0:Int)<((digs BW m).length:Int))=decide (0<m):=by
   simp only [decide_eq_decide];have:=mt (Qbo BW_2 (n:=m)).2;by_cases h0:m=0
   ·subst h0;simp [Qbi]
   ·have:=List.length_pos_iff.2 (mt (Qbo BW_2).1 h0);constructor<;>intro _<;>omega
  cases neg with
  |true=>
   simp -implicitDefEqProofs only [go_sem,Nat.reduceAdd,Nat.reduceMul,Nat.reduceEqDiff,Nat.reduceLT,Nat.reduceLeDiff,reduceCtorEq,h',List.length_map];refine Qah _ _ _ _ _ _ _ _ _ (Qzd m hl) ?_;simp -implicitDefEqProofs only [go_sem,Nat.reduceAdd,Nat.reduceEqDiff,Nat.reduceLT,Nat.reduceLeDiff,reduceCtorEq,wPV,hna,hneg,hlen,Bool.true_and];exact Qae _ _ (by kernel_rfl)
  |false=>
   simp -implicitDefEqProofs only [go_sem,Nat.reduceAdd,Nat.reduceMul,Nat.reduceEqDiff,Nat.reduceLT,Nat.reduceLeDiff,reduceCtorEq,h'];refine Qah _ _ _ _ _ _ _ _ _ (Qzd m hl) ?_;simp -implicitDefEqProofs only [go_sem,Nat.reduceAdd,Nat.reduceEqDiff,Nat.reduceLT,Nat.reduceLeDiff,reduceCtorEq,wPV,hna,hneg,Bool.false_and];exact Qae _ _ (by kernel_rfl)
end Go.Proofs.YtjlkapdmgjocdaaGreat
