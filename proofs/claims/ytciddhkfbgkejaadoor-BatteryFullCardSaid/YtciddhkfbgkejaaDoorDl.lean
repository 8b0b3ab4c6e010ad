/-
  XW2, XW3, XW4, XW5, XW6, XW7, XW8, Dl (merged for the claim).
-/
import Derived.Test.YtciddhkfbgkejaaDoorXW1
set_option linter.unusedSimpArgs false
set_option linter.unusedVariables false
namespace Go.Proofs.YtciddhkfbgkejaaDoor
open Go.Vl Go.RowKit Go.Dg
abbrev BW:Nat:=18446744073709551616
theorem BW_2:2≤BW:=by decide
abbrev fW:Nat→PV:=fun d:Nat=>PV.int .u64 (d:Int)
def dw (l:List Nat):PV:= .slc (l.map fun d:Nat=>PV.int .u64 (d:Int))
theorem Qb2 (l:List Nat) (k:Nat):(l.map fun d:Nat=>PV.int .u64 (d:Int))[k]? =l[k]?.map fun d:Nat=>PV.int .u64 (d:Int):=List.getElem?_map
theorem Zal (l:List Nat):((l.map fun d:Nat=>PV.int .u64 (d:Int)).all fun x=>x.cells.length==1)=true:=by rw [List.all_map,List.all_eq_true];intro d _;rfl
theorem Qc3 (l:List Nat) (hl:l.length≤maxLen):Qae Tryd.prog 33 [dw l] (dw (Qfd l)):=by
 have hm:=Qk2
 refine Qac (tb:=[]) 21 [.tmp 2] [0,2,14] mixed Tryd.func33 rfl (by kernel_rfl) (by kernel_rfl) (by kernel_rfl) (by kernel_rfl) ?_
 simp -implicitDefEqProofs only [go_sem,Nat.reduceAdd,Nat.reduceMul,Nat.reduceEqDiff,Nat.reduceLT,Nat.reduceLeDiff,Nat.reduceSub,Nat.reduceBEq,reduceIte,reduceCtorEq,Int.reduceEq,Int.reduceNe,Nat.reduceBneDiff,Int.reduceLE,Int.reduceLT,Int.reduceToNat,Int.reduceAdd,Int.reduceSub,Int.reduceMul,Int.reduceNeg,dw]
 refine Qa5 mixed (fun k:{k:Nat // k≤l.length∧Qfd (l.take k)=Qfd l}=>St.of [(0,dw (l.take k.1)),(2,.nilS)] []) (fun k=>k.1) ⟨l.length,Nat.le_refl _,by rw [List.take_length]⟩ ?_ ?_
 ·exact Qbl (by simp [Qaf,lkp,ren1,ren0,dw])
 ·rintro⟨k,hk,ht⟩
  have hlen:(l.take k).length=k:=by simp;omega
  cases k with
  |zero=>
   have h1:((0:Int)<((0:Nat):Int))=False:=by simp
   simp -implicitDefEqProofs only [go_sem,Nat.reduceAdd,Nat.reduceMul,Nat.reduceEqDiff,Nat.reduceLT,Nat.reduceLeDiff,Nat.reduceSub,Nat.reduceBEq,reduceIte,reduceCtorEq,Int.reduceEq,Int.reduceNe,Nat.reduceBneDiff,Int.reduceLE,Int.reduceLT,Int.reduceToNat,Int.reduceAdd,Int.reduceSub,Int.reduceMul,Int.reduceNeg,dw,List.length_map,hlen,h1]
   rw [←ht];rfl
  |succ k=>
   have h1:((0:Int)<((k+1:Nat):Int))=True:=by simp
   have h2:(0≤(k:Int))=True:=by simp
   have hw:=Qpw (n:=k) (by omega)
   have hlt:k<l.length:=by omega
   have hget:(l.take (k+1))[k]? =some l[k]:=by simp [hlt]
   have hcut:l.take (k+1)=l.take k++[l[k]]:=by rw [List.take_add_one];simp [hlt]
   cases hd:((l[k]:Int)==0)with
   |true=>
    have hd0:l[k]=0:=by simpa using hd
    have h3:((k:Int)≤((k+1:Nat):Int))=True:=by simp;omega
    simp -implicitDefEqProofs only [go_sem,Nat.reduceAdd,Nat.reduceMul,Nat.reduceEqDiff,Nat.reduceLT,Nat.reduceLeDiff,Nat.reduceSub,Nat.reduceBEq,reduceIte,reduceCtorEq,Int.reduceEq,Int.reduceNe,Nat.reduceBneDiff,Int.reduceLE,Int.reduceLT,Int.reduceToNat,Int.reduceAdd,Int.reduceSub,Int.reduceMul,Int.reduceNeg,dw,List.length_map,hlen,h1,h2,hw,Qb2,hget,hd,h3,Int.toNat_natCast,Zal]
    refine⟨⟨k,by omega,?_⟩,by simp,?_⟩
    ·rw [←ht,hcut,hd0,Qd0]
    ·refine Qbl (by simp [Qaf,lkp,ren1,ren0,dw];rw [←List.map_take];simp [List.take_take])
   |false=>
    have hd0:l[k]≠0:=by simpa using hd
    simp -implicitDefEqProofs only [go_sem,Nat.reduceAdd,Nat.reduceMul,Nat.reduceEqDiff,Nat.reduceLT,Nat.reduceLeDiff,Nat.reduceSub,Nat.reduceBEq,reduceIte,reduceCtorEq,Int.reduceEq,Int.reduceNe,Nat.reduceBneDiff,Int.reduceLE,Int.reduceLT,Int.reduceToNat,Int.reduceAdd,Int.reduceSub,Int.reduceMul,Int.reduceNeg,dw,List.length_map,hlen,h1,h2,hw,Qb2,hget,hd,Int.toNat_natCast]
    rw [←ht,hcut,Qh5 _ hd0]
def cmpW (a b:Nat):Int:=if(digs BW a).length=(digs BW b).length then cmpN a b else((digs BW a).length:Int)-((digs BW b).length:Int)
theorem Qdv (a b:Nat):(cmpW a b<0)↔a<b:=by
 unfold cmpW
 split
 ·unfold cmpN;split
  ·simp;assumption
  ·split<;>simp<;>omega
 ·rename_i h
  constructor
  ·intro h2;exact Q90 BW_2 (by omega)
  ·intro h2
   rcases Nat.lt_trichotomy (digs BW a).length (digs BW b).length with h3|h3|h3
   ·omega
   ·exact absurd h3 h
   ·have:=Q90 BW_2 h3;omega
theorem Qc9 (a b:Nat) (ha:(digs BW a).length≤1000000000) (hb:(digs BW b).length≤1000000000):Qae Tryd.prog 77 [dw (digs BW a),dw (digs BW b)] (.int .i64 (cmpW a b)):=by
 refine Qac (tb:=[]) 43 [.tmp 4] [0,1,4,5,10,20,23,33] mixed Tryd.func77 rfl (by kernel_rfl) (by kernel_rfl) (by kernel_rfl) (by kernel_rfl) ?_
 by_cases hl:(digs BW a).length=(digs BW b).length
 ·have hl':(((digs BW a).length:Int) != ((digs BW b).length:Int))=false:=by simp [hl]
  have hw:IntKind.i64.wrap (((digs BW a).length:Int)-1)=((digs BW a).length:Int)-1:=Qai (by omega) (by omega)
  rw [cmpW,if_pos hl]
  simp -implicitDefEqProofs only [go_sem,Nat.reduceAdd,Nat.reduceMul,Nat.reduceEqDiff,Nat.reduceLT,Nat.reduceLeDiff,Nat.reduceSub,Nat.reduceBEq,reduceIte,reduceCtorEq,Int.reduceEq,Int.reduceNe,Nat.reduceBneDiff,Int.reduceLE,Int.reduceLT,Int.reduceToNat,Int.reduceAdd,Int.reduceSub,Int.reduceMul,Int.reduceNeg,dw,List.length_map,hl',hw]
  refine Qa5 mixed (fun i:{i:Nat // i≤(digs BW a).length∧a/BW^i=b/BW^i}=>St.of [(0,dw (digs BW a)),(1,dw (digs BW b)),(4,.int .i64 0),(5,.int .i64 ((i.1:Int)-1))] []) (fun i=>i.1)
   ⟨(digs BW a).length,Nat.le_refl _,by rw [Qb5 BW_2 (Nat.le_refl _),hl,Qb5 BW_2 (Nat.le_refl _)]⟩ ?_ ?_
  ·exact Qbl (by simp [Qaf,lkp,ren1,ren0,dw])
  ·rintro⟨i,hi,he⟩
   cases i with
   |zero=>
    have h1:((0:Int)≤((0:Nat):Int)-1)=False:=by simp
    have hab:a=b:=by simpa using he
    subst hab
    simp -implicitDefEqProofs only [go_sem,Nat.reduceAdd,Nat.reduceMul,Nat.reduceEqDiff,Nat.reduceLT,Nat.reduceLeDiff,Nat.reduceSub,Nat.reduceBEq,reduceIte,reduceCtorEq,Int.reduceEq,Int.reduceNe,Nat.reduceBneDiff,Int.reduceLE,Int.reduceLT,Int.reduceToNat,Int.reduceAdd,Int.reduceSub,Int.reduceMul,Int.reduceNeg,dw,h1,Za8]
   |succ i=>
    have hs:(((i+1:Nat):Int)-1)=(i:Int):=by omega
    have h1:((0:Int)≤(i:Int))=True:=by simp
    have hga:=Qaq BW_2 (show i<(digs BW a).length by omega)
    have hgb:=Qaq BW_2 (show i<(digs BW b).length by omega)
    by_cases hlt:a/BW^i%BW<b/BW^i%BW
    ·have h2:(((a/BW^i%BW:Nat):Int)<((b/BW^i%BW:Nat):Int))=True:=by simp only [eq_iff_iff,iff_true];omega
     have hc:=Za6 (Qoo (by decide) he hlt)
     simp -implicitDefEqProofs only [go_sem,Nat.reduceAdd,Nat.reduceMul,Nat.reduceEqDiff,Nat.reduceLT,Nat.reduceLeDiff,Nat.reduceSub,Nat.reduceBEq,reduceIte,reduceCtorEq,Int.reduceEq,Int.reduceNe,Nat.reduceBneDiff,Int.reduceLE,Int.reduceLT,Int.reduceToNat,Int.reduceAdd,Int.reduceSub,Int.reduceMul,Int.reduceNeg,dw,hs,h1,Qb2,hga,hgb,h2,hc]
     exact Qaa _ _ (by kernel_rfl)
    ·have h2:(((a/BW^i%BW:Nat):Int)<((b/BW^i%BW:Nat):Int))=False:=by simp only [eq_iff_iff,iff_false];omega
     by_cases hgt:b/BW^i%BW<a/BW^i%BW
     ·have h3:(((b/BW^i%BW:Nat):Int)<((a/BW^i%BW:Nat):Int))=True:=by simp only [eq_iff_iff,iff_true];omega
      have hc:=Za7 (Qoo (by decide) he.symm hgt)
      simp -implicitDefEqProofs only [go_sem,Nat.reduceAdd,Nat.reduceMul,Nat.reduceEqDiff,Nat.reduceLT,Nat.reduceLeDiff,Nat.reduceSub,Nat.reduceBEq,reduceIte,reduceCtorEq,Int.reduceEq,Int.reduceNe,Nat.reduceBneDiff,Int.reduceLE,Int.reduceLT,Int.reduceToNat,Int.reduceAdd,Int.reduceSub,Int.reduceMul,Int.reduceNeg,dw,hs,h1,Qb2,hga,hgb,h2,h3,hc]
      exact⟨Qaa _ _ (by kernel_rfl),Qaa _ _ (by kernel_rfl)⟩
     ·have h3:(((b/BW^i%BW:Nat):Int)<((a/BW^i%BW:Nat):Int))=False:=by simp only [eq_iff_iff,iff_false];omega
      have hw2:IntKind.i64.wrap ((i:Int)-1)=(i:Int)-1:=Qai (by omega) (by omega)
      simp -implicitDefEqProofs only [go_sem,Nat.reduceAdd,Nat.reduceMul,Nat.reduceEqDiff,Nat.reduceLT,Nat.reduceLeDiff,Nat.reduceSub,Nat.reduceBEq,reduceIte,reduceCtorEq,Int.reduceEq,Int.reduceNe,Nat.reduceBneDiff,Int.reduceLE,Int.reduceLT,Int.reduceToNat,Int.reduceAdd,Int.reduceSub,Int.reduceMul,Int.reduceNeg,dw,hs,h1,Qb2,hga,hgb,h2,h3,hw2]
      refine⟨Qaa _ _ (by kernel_rfl),Qaa _ _ (by kernel_rfl),⟨i,by omega,Qud (by decide) he (by omega)⟩,by simp,?_⟩
      exact Qbl (by simp [Qaf,lkp,ren1,ren0,dw])
 ·have hl':(((digs BW a).length:Int) != ((digs BW b).length:Int))=true:=by simp;omega
  have hw:IntKind.i64.wrap (((digs BW a).length:Int)-((digs BW b).length:Int))=((digs BW a).length:Int)-((digs BW b).length:Int):=Qai (by omega) (by omega)
  rw [cmpW,if_neg hl]
  simp -implicitDefEqProofs only [go_sem,Nat.reduceAdd,Nat.reduceMul,Nat.reduceEqDiff,Nat.reduceLT,Nat.reduceLeDiff,Nat.reduceSub,Nat.reduceBEq,reduceIte,reduceCtorEq,Int.reduceEq,Int.reduceNe,Nat.reduceBneDiff,Int.reduceLE,Int.reduceLT,Int.reduceToNat,Int.reduceAdd,Int.reduceSub,Int.reduceMul,Int.reduceNeg,dw,List.length_map,hl',hw]
end Go.Proofs.YtciddhkfbgkejaaDoor

namespace Go.Proofs.YtciddhkfbgkejaaDoor
open Go.Vl Go.RowKit Go.Dg
theorem Qco (l:List Nat) (i:Nat) (d:Nat):(l.map fW).set i (PV.int .u64 (d:Int))=(l.set i d).map fW:=(List.map_set (f:=fW)).symm
theorem Qdx (B n:Nat):lows B 0 n=List.replicate n 0:=by
 apply List.ext_getElem?
 intro k
 by_cases h:k<n
 ·rw [Qbn _ _ _ h];simp [h]
 ·rw [List.getElem?_eq_none (by rw [Qah];omega),List.getElem?_eq_none (by simp;omega)]
theorem Qh2 (V n:Nat):List.replicate n (PV.int .u64 0)=(mix BW V 0 n 0).map fW:=by
 rw [Qjh,Qdx];simp
theorem Qqb (a b:Nat) (hba:b≤a) (ha:(digs BW a).length≤1000000000):Qae Tryd.prog 78 [dw (digs BW a),dw (digs BW b)] (dw (digs BW (a-b))):=by
 refine Qac (tb:=[]) 41 [.tmp 4] [0,1,4,5,6,7,8,13,14,15,20] mixed Tryd.func78 rfl (by kernel_rfl) (by kernel_rfl) (by kernel_rfl) (by kernel_rfl) ?_
 have hn0:((0:Int)≤((digs BW a).length:Int))=True:=by simp
 have hn1:((8:Nat):Int)*((digs BW a).length:Int)≤281474976710656:=by omega
 have hn2:((digs BW a).length:Int)≤9223372036854775807:=by omega
 simp -implicitDefEqProofs only [go_sem,Nat.reduceAdd,Nat.reduceMul,Nat.reduceEqDiff,Nat.reduceLT,Nat.reduceLeDiff,Nat.reduceSub,Nat.reduceBEq,reduceIte,reduceCtorEq,Int.reduceEq,Int.reduceNe,Nat.reduceBneDiff,Int.reduceLE,Int.reduceLT,Int.reduceToNat,Int.reduceAdd,Int.reduceSub,Int.reduceMul,Int.reduceNeg,dw,List.length_map,hn0,hn1,hn2,Int.toNat_natCast]
 generalize hN:(digs BW a).length=N at*
 rw [Qh2 (a-b) N]
 refine Qa5 mixed (fun i:{i:Nat // i≤N}=>St.of [(0,dw (digs BW a)),(1,dw (digs BW b)),(4,.nilS),(5,.bs 102 1 0 N),(6,.int .u64 (bor BW a b i.1:Int)),(13,.int .i64 (N:Int)),(14,.int .i64 (i.1:Int))]
  [(102,{els:=(mix BW (a-b) 0 N i.1).map fW,esz:=1,ety:=73,fro:=0,live:=true,arr:=true})]) (fun i=>N-i.1) ⟨0,Nat.zero_le _⟩ ?_ ?_
 ·refine Qap (θ:=[(102,102)]) rfl ?_ ?_
  ·simp [Qaf,lkp,ren1,ren0,dw,Qsm]
  ·simp [Qar,lkp,Box.renames]
 ·rintro⟨i,hi⟩
  have hml:=Qbh (B:=BW) (a-b) 0 N i
  by_cases hA:i<N
  ·have hA':((i:Int)<(N:Int))=True:=by simp;omega
   have h0:(0≤(i:Int))=True:=by simp
   have hga:=Qaq BW_2 (show i<(digs BW a).length by omega)
   have hwk:=Qal (a:=i) (by omega)
   have hbl:=Qsn (B:=BW) a b i
   have hbl2:=Qsn (B:=BW) a b (i+1)
   have hst:=Qso BW_2 hba i
   have hx:a/BW^i%BW<BW:=Nat.mod_lt _ (by decide)
   have hy:b/BW^i%BW<BW:=Nat.mod_lt _ (by decide)
   have hz:(a-b)/BW^i%BW<BW:=Nat.mod_lt _ (by decide)
   have hset:=Qd1 (B:=BW) (V:=a-b) (W:=a-b) (S:=0) (n:=N) (m:=i) (d:=(a-b)/BW^i%BW) (by decide) hA rfl rfl
   have hy0: ¬i<(digs BW b).length→b/BW^i%BW=0:=fun h=>by rw [Qb5 BW_2 (Nat.le_of_not_lt h),Nat.zero_mod]
   have hgb:i<(digs BW b).length→(digs BW b)[i]? =some (b/BW^i%BW):=fun h=>Qaq BW_2 h
   obtain⟨e,hgo⟩: ∃e:Nat,((mix BW (a-b) 0 N i).map fW)[i]? =some (PV.int .u64 (e:Int)):=⟨_,by rw [List.getElem?_map,Qc6 _ _ _ _ _ hA];rfl⟩
   generalize a/BW^i%BW=x at*
   generalize b/BW^i%BW=y at*
   generalize (a-b)/BW^i%BW=z at*
   have s1:(x+18446744073709551616-y-bor BW a b i)%18446744073709551616=z:=by simp only [BW]at*;omega
   have s2:(if x<y+bor BW a b i then 1 else 0)=bor BW a b (i+1):=by
    simp only [BW]at*
    split<;>omega
   have hc:=Q2h x y (bor BW a b i) hbl
   rw [s1,s2]at hc
   by_cases hB:i<(digs BW b).length
   ·have hB':((i:Int)<((digs BW b).length:Int))=True:=by simp;omega
    have hgb:=hgb hB
    simp -implicitDefEqProofs only [go_sem,Nat.reduceAdd,Nat.reduceMul,Nat.reduceEqDiff,Nat.reduceLT,Nat.reduceLeDiff,Nat.reduceSub,Nat.reduceBEq,reduceIte,reduceCtorEq,Int.reduceEq,Int.reduceNe,Nat.reduceBneDiff,Int.reduceLE,Int.reduceLT,Int.reduceToNat,Int.reduceAdd,Int.reduceSub,Int.reduceMul,Int.reduceNeg,dw,List.length_map,hA',hB',h0,Qb2,hga,hgb,Int.toNat_natCast]
    refine Qag _ _ _ _ _ _ _ _ _ hc ?_
    simp -implicitDefEqProofs only [go_sem,Nat.reduceAdd,Nat.reduceMul,Nat.reduceEqDiff,Nat.reduceLT,Nat.reduceLeDiff,Nat.reduceSub,Nat.reduceBEq,reduceIte,reduceCtorEq,Int.reduceEq,Int.reduceNe,Nat.reduceBneDiff,Int.reduceLE,Int.reduceLT,Int.reduceToNat,Int.reduceAdd,Int.reduceSub,Int.reduceMul,Int.reduceNeg,hA',h0,Int.toNat_natCast,hwk,hgo,List.length_map,hml]
    refine⟨⟨i+1,hA⟩,by simp only;omega,?_⟩
    refine Qap (θ:=[(102,102)]) rfl ?_ ?_
    ·simp [Qaf,lkp,ren1,ren0,dw]
    ·rw [Qco,hset]
     simp [Qar,lkp,Box.renames]
   ·have hB':((i:Int)<((digs BW b).length:Int))=False:=by simp;omega
    obtain rfl:=hy0 hB
    simp -implicitDefEqProofs only [go_sem,Nat.reduceAdd,Nat.reduceMul,Nat.reduceEqDiff,Nat.reduceLT,Nat.reduceLeDiff,Nat.reduceSub,Nat.reduceBEq,reduceIte,reduceCtorEq,Int.reduceEq,Int.reduceNe,Nat.reduceBneDiff,Int.reduceLE,Int.reduceLT,Int.reduceToNat,Int.reduceAdd,Int.reduceSub,Int.reduceMul,Int.reduceNeg,dw,List.length_map,hA',hB',h0,Qb2,hga,Int.toNat_natCast]
    refine Qag _ _ _ _ _ _ _ _ _ hc ?_
    simp -implicitDefEqProofs only [go_sem,Nat.reduceAdd,Nat.reduceMul,Nat.reduceEqDiff,Nat.reduceLT,Nat.reduceLeDiff,Nat.reduceSub,Nat.reduceBEq,reduceIte,reduceCtorEq,Int.reduceEq,Int.reduceNe,Nat.reduceBneDiff,Int.reduceLE,Int.reduceLT,Int.reduceToNat,Int.reduceAdd,Int.reduceSub,Int.reduceMul,Int.reduceNeg,hA',h0,Int.toNat_natCast,hwk,hgo,List.length_map,hml]
    refine⟨⟨i+1,hA⟩,by simp only;omega,?_⟩
    refine Qap (θ:=[(102,102)]) rfl ?_ ?_
    ·simp [Qaf,lkp,ren1,ren0,dw]
    ·rw [Qco,hset]
     simp [Qar,lkp,Box.renames]
  ·have hA':((i:Int)<(N:Int))=False:=by simp;omega
   obtain rfl:i=N:=by omega
   have htk:((lows BW (a-b) i).map fW).take i=(lows BW (a-b) i).map fW:=List.take_of_length_le (by simp [Qah])
   have hll:=Qah (B:=BW) (a-b) i
   have hlt:a<BW^i:=by rw [←hN];exact Qa0 BW_2 a
   have hm:mix BW (a-b) 0 i i=lows BW (a-b) i:=Qfl (by decide) (by rw [Nat.div_eq_of_lt (Nat.lt_of_le_of_lt (Nat.sub_le _ _) hlt),Nat.zero_div])
   simp -implicitDefEqProofs only [go_sem,Nat.reduceAdd,Nat.reduceMul,Nat.reduceEqDiff,Nat.reduceLT,Nat.reduceLeDiff,Nat.reduceSub,Nat.reduceBEq,reduceIte,reduceCtorEq,Int.reduceEq,Int.reduceNe,Nat.reduceBneDiff,Int.reduceLE,Int.reduceLT,Int.reduceToNat,Int.reduceAdd,Int.reduceSub,Int.reduceMul,Int.reduceNeg,hA',List.length_map,hll,htk,hm]
   refine Qag _ _ _ _ _ _ _ _ _ (Qc3 (lows BW (a-b) i) (by rw [Qah];simp [maxLen];omega)) ?_
   simp -implicitDefEqProofs only [go_sem,Nat.reduceAdd,Nat.reduceMul,Nat.reduceEqDiff,Nat.reduceLT,Nat.reduceLeDiff,Nat.reduceSub,Nat.reduceBEq,reduceIte,reduceCtorEq,Int.reduceEq,Int.reduceNe,Nat.reduceBneDiff,Int.reduceLE,Int.reduceLT,Int.reduceToNat,Int.reduceAdd,Int.reduceSub,Int.reduceMul,Int.reduceNeg,dw,List.length_map]
   rw [Qbu BW_2,Nat.mod_eq_of_lt (Nat.lt_of_le_of_lt (Nat.sub_le _ _) hlt)]
end Go.Proofs.YtciddhkfbgkejaaDoor

namespace Go.Proofs.YtciddhkfbgkejaaDoor
open Go.Vl Go.RowKit Go.Dg
theorem Zao (a b:Nat) (ha:(digs BW a).length≤1000000000) (hb:(digs BW b).length≤1000000000):Qae Tryd.prog 76 [dw (digs BW a),dw (digs BW b)] (dw (digs BW (a+b))):=by
 refine Qac (tb:=[]) 54 [.tmp 4] [0,1,4,5,6,7,8,13,21,22,23,28] mixed Tryd.func76 rfl (by kernel_rfl) (by kernel_rfl) (by kernel_rfl) (by kernel_rfl) ?_
 by_cases hab:(digs BW a).length<(digs BW b).length
 ·have hab':(((digs BW a).length:Int)<((digs BW b).length:Int))=True:=by simp;omega
  have hPQ:(digs BW a).length≤(digs BW b).length:=by omega
  rw [Nat.add_comm a b]
  have hn0:((0:Int)≤(((digs BW b).length+1:Nat):Int))=True:=by simp only [eq_iff_iff,iff_true];omega
  have hn1:((8:Nat):Int)*(((digs BW b).length+1:Nat):Int)≤281474976710656:=by omega
  have hn2:(((digs BW b).length+1:Nat):Int)≤9223372036854775807:=by omega
  have hw1:=Qal (a:=(digs BW b).length) (by omega)
  simp -implicitDefEqProofs only [go_sem,Nat.reduceAdd,Nat.reduceMul,Nat.reduceEqDiff,Nat.reduceLT,Nat.reduceLeDiff,Nat.reduceSub,Nat.reduceBEq,reduceIte,reduceCtorEq,Int.reduceEq,Int.reduceNe,Nat.reduceBneDiff,Int.reduceLE,Int.reduceLT,Int.reduceToNat,Int.reduceAdd,Int.reduceSub,Int.reduceMul,Int.reduceNeg,dw,List.length_map,hab',hw1,hn0,hn1,hn2,Int.toNat_natCast]
  have hlt:b<BW^(digs BW b).length:=Qa0 BW_2 b
  have hlt2:a<BW^(digs BW b).length:=(Qam BW_2 a _).1 hPQ
  generalize hN:(digs BW b).length=N at*
  rw [Qh2 (b+a) (N+1)]
  refine Qa5 mixed (fun i:{i:Nat // i≤N}=>St.of [(0,dw (digs BW b)),(1,dw (digs BW a)),(4,.nilS),(5,.bs 303 1 0 (N+1)),(6,.int .u64 (carry BW b a i.1:Int)),(21,.int .i64 (N:Int)),(22,.int .i64 (i.1:Int))]
   [(303,{els:=(mix BW (b+a) 0 (N+1) i.1).map fW,esz:=1,ety:=73,fro:=0,live:=true,arr:=true})]) (fun i=>N-i.1) ⟨0,Nat.zero_le _⟩ ?_ ?_
  ·refine Qap (θ:=[(303,303)]) rfl ?_ ?_
   ·simp [Qaf,lkp,ren1,ren0,dw,Ql2]
   ·simp [Qar,lkp,Box.renames]
  ·rintro⟨i,hi⟩
   have hml:=Qbh (B:=BW) (b+a) 0 (N+1) i
   have hset:=Qd1 (B:=BW) (V:=b+a) (W:=b+a) (S:=0) (n:=N+1) (m:=i) (d:=(b+a)/BW^i%BW) (by decide) (by omega) rfl rfl
   obtain⟨e,hgo⟩: ∃e:Nat,((mix BW (b+a) 0 (N+1) i).map fW)[i]? =some (PV.int .u64 (e:Int)):=⟨_,by rw [List.getElem?_map,Qc6 _ _ _ _ _ (by omega)];rfl⟩
   have h0:(0≤(i:Int))=True:=by simp
   have hiN:((i:Int)<((N+1:Nat):Int))=True:=by simp only [eq_iff_iff,iff_true];omega
   by_cases hA:i<N
   ·have hA':((i:Int)<(N:Int))=True:=by simp;omega
    have hga:=Qaq BW_2 (show i<(digs BW b).length by omega)
    have hwk:=Qal (a:=i) (by omega)
    have hcl:=Qsq (B:=BW) (by decide) b a i
    obtain⟨s1,s2⟩:(b/BW^i%BW+a/BW^i%BW+carry BW b a i)%18446744073709551616=(b+a)/BW^i%BW∧(b/BW^i%BW+a/BW^i%BW+carry BW b a i)/18446744073709551616=carry BW b a (i+1):=Qsr (B:=BW) (by decide) b a i
    have hy0: ¬i<(digs BW a).length→a/BW^i%BW=0:=fun h=>by rw [Qb5 BW_2 (Nat.le_of_not_lt h),Nat.zero_mod]
    have hgb:i<(digs BW a).length→(digs BW a)[i]? =some (a/BW^i%BW):=fun h=>Qaq BW_2 h
    have hc:=Qn8 (b/BW^i%BW) (a/BW^i%BW) (carry BW b a i) hcl
    rw [s1,s2]at hc
    generalize b/BW^i%BW=x at*
    generalize a/BW^i%BW=y at*
    generalize (b+a)/BW^i%BW=z at*
    by_cases hB:i<(digs BW a).length
    ·have hB':((i:Int)<((digs BW a).length:Int))=True:=by simp;omega
     have hgb:=hgb hB
     simp -implicitDefEqProofs only [go_sem,Nat.reduceAdd,Nat.reduceMul,Nat.reduceEqDiff,Nat.reduceLT,Nat.reduceLeDiff,Nat.reduceSub,Nat.reduceBEq,reduceIte,reduceCtorEq,Int.reduceEq,Int.reduceNe,Nat.reduceBneDiff,Int.reduceLE,Int.reduceLT,Int.reduceToNat,Int.reduceAdd,Int.reduceSub,Int.reduceMul,Int.reduceNeg,dw,List.length_map,hA',hB',h0,Qb2,hga,hgb,Int.toNat_natCast]
     refine Qag _ _ _ _ _ _ _ _ _ hc ?_
     simp -implicitDefEqProofs only [go_sem,Nat.reduceAdd,Nat.reduceMul,Nat.reduceEqDiff,Nat.reduceLT,Nat.reduceLeDiff,Nat.reduceSub,Nat.reduceBEq,reduceIte,reduceCtorEq,Int.reduceEq,Int.reduceNe,Nat.reduceBneDiff,Int.reduceLE,Int.reduceLT,Int.reduceToNat,Int.reduceAdd,Int.reduceSub,Int.reduceMul,Int.reduceNeg,hA',h0,hiN,Int.toNat_natCast,hwk,hgo,List.length_map,hml]
     refine⟨⟨i+1,hA⟩,by simp only;omega,?_⟩
     refine Qap (θ:=[(303,303)]) rfl ?_ ?_
     ·simp [Qaf,lkp,ren1,ren0,dw]
     ·rw [Qco,hset]
      simp [Qar,lkp,Box.renames]
    ·have hB':((i:Int)<((digs BW a).length:Int))=False:=by simp;omega
     obtain rfl:=hy0 hB
     simp -implicitDefEqProofs only [go_sem,Nat.reduceAdd,Nat.reduceMul,Nat.reduceEqDiff,Nat.reduceLT,Nat.reduceLeDiff,Nat.reduceSub,Nat.reduceBEq,reduceIte,reduceCtorEq,Int.reduceEq,Int.reduceNe,Nat.reduceBneDiff,Int.reduceLE,Int.reduceLT,Int.reduceToNat,Int.reduceAdd,Int.reduceSub,Int.reduceMul,Int.reduceNeg,dw,List.length_map,hA',hB',h0,Qb2,hga,Int.toNat_natCast]
     refine Qag _ _ _ _ _ _ _ _ _ hc ?_
     simp -implicitDefEqProofs only [go_sem,Nat.reduceAdd,Nat.reduceMul,Nat.reduceEqDiff,Nat.reduceLT,Nat.reduceLeDiff,Nat.reduceSub,Nat.reduceBEq,reduceIte,reduceCtorEq,Int.reduceEq,Int.reduceNe,Nat.reduceBneDiff,Int.reduceLE,Int.reduceLT,Int.reduceToNat,Int.reduceAdd,Int.reduceSub,Int.reduceMul,Int.reduceNeg,hA',h0,hiN,Int.toNat_natCast,hwk,hgo,List.length_map,hml]
     refine⟨⟨i+1,hA⟩,by simp only;omega,?_⟩
     refine Qap (θ:=[(303,303)]) rfl ?_ ?_
     ·simp [Qaf,lkp,ren1,ren0,dw]
     ·rw [Qco,hset]
      simp [Qar,lkp,Box.renames]
   ·have hA':((i:Int)<(N:Int))=False:=by simp;omega
    obtain rfl:i=N:=by omega
    have hsum:(b+a)/BW^i<2:=Nat.div_lt_of_lt_mul (by omega)
    have hcN:carry BW b a i=(b+a)/BW^i%BW:=by
     rw [carry,Nat.mod_eq_of_lt hlt,Nat.mod_eq_of_lt hlt2,Nat.mod_eq_of_lt (Nat.lt_trans hsum (by decide))]
    have hm:mix BW (b+a) 0 (i+1) (i+1)=lows BW (b+a) (i+1):=Qfl (by decide) (by rw [Nat.pow_succ,←Nat.div_div_eq_div_mul,Nat.div_eq_of_lt (Nat.lt_trans hsum (by decide)),Nat.zero_div])
    rw [hm]at hset
    have htk:((lows BW (b+a) (i+1)).map fW).take (i+1)=(lows BW (b+a) (i+1)).map fW:=List.take_of_length_le (by simp [Qah])
    have hll:=Qah (B:=BW) (b+a) (i+1)
    have hbig:b+a<BW^(i+1):=by
     rw [Nat.pow_succ]
     have:BW^i*2≤BW^i*BW:=Nat.mul_le_mul_left _ (by decide)
     omega
    rw [hcN]
    simp -implicitDefEqProofs only [go_sem,Nat.reduceAdd,Nat.reduceMul,Nat.reduceEqDiff,Nat.reduceLT,Nat.reduceLeDiff,Nat.reduceSub,Nat.reduceBEq,reduceIte,reduceCtorEq,Int.reduceEq,Int.reduceNe,Nat.reduceBneDiff,Int.reduceLE,Int.reduceLT,Int.reduceToNat,Int.reduceAdd,Int.reduceSub,Int.reduceMul,Int.reduceNeg,dw,hA',h0,hiN,hN,Int.toNat_natCast,hgo,List.length_map,hml,Qco,hset,hll,htk]
    refine Qag _ _ _ _ _ _ _ _ _ (Qc3 (lows BW (b+a) (i+1)) (by rw [Qah];simp [maxLen];omega)) ?_
    simp -implicitDefEqProofs only [go_sem,Nat.reduceAdd,Nat.reduceMul,Nat.reduceEqDiff,Nat.reduceLT,Nat.reduceLeDiff,Nat.reduceSub,Nat.reduceBEq,reduceIte,reduceCtorEq,Int.reduceEq,Int.reduceNe,Nat.reduceBneDiff,Int.reduceLE,Int.reduceLT,Int.reduceToNat,Int.reduceAdd,Int.reduceSub,Int.reduceMul,Int.reduceNeg,dw,List.length_map]
    rw [Qbu BW_2,Nat.mod_eq_of_lt hbig]
 ·have hab':(((digs BW a).length:Int)<((digs BW b).length:Int))=False:=by simp;omega
  have hPQ:(digs BW b).length≤(digs BW a).length:=by omega
  have hn0:((0:Int)≤(((digs BW a).length+1:Nat):Int))=True:=by simp only [eq_iff_iff,iff_true];omega
  have hn1:((8:Nat):Int)*(((digs BW a).length+1:Nat):Int)≤281474976710656:=by omega
  have hn2:(((digs BW a).length+1:Nat):Int)≤9223372036854775807:=by omega
  have hw1:=Qal (a:=(digs BW a).length) (by omega)
  simp -implicitDefEqProofs only [go_sem,Nat.reduceAdd,Nat.reduceMul,Nat.reduceEqDiff,Nat.reduceLT,Nat.reduceLeDiff,Nat.reduceSub,Nat.reduceBEq,reduceIte,reduceCtorEq,Int.reduceEq,Int.reduceNe,Nat.reduceBneDiff,Int.reduceLE,Int.reduceLT,Int.reduceToNat,Int.reduceAdd,Int.reduceSub,Int.reduceMul,Int.reduceNeg,dw,List.length_map,hab',hw1,hn0,hn1,hn2,Int.toNat_natCast]
  have hlt:a<BW^(digs BW a).length:=Qa0 BW_2 a
  have hlt2:b<BW^(digs BW a).length:=(Qam BW_2 b _).1 hPQ
  generalize hN:(digs BW a).length=N at*
  rw [Qh2 (a+b) (N+1)]
  refine Qa5 mixed (fun i:{i:Nat // i≤N}=>St.of [(0,dw (digs BW a)),(1,dw (digs BW b)),(4,.nilS),(5,.bs 303 1 0 (N+1)),(6,.int .u64 (carry BW a b i.1:Int)),(21,.int .i64 (N:Int)),(22,.int .i64 (i.1:Int))]
   [(303,{els:=(mix BW (a+b) 0 (N+1) i.1).map fW,esz:=1,ety:=73,fro:=0,live:=true,arr:=true})]) (fun i=>N-i.1) ⟨0,Nat.zero_le _⟩ ?_ ?_
  ·refine Qap (θ:=[(303,303)]) rfl ?_ ?_
   ·simp [Qaf,lkp,ren1,ren0,dw,Ql2]
   ·simp [Qar,lkp,Box.renames]
  ·rintro⟨i,hi⟩
   have hml:=Qbh (B:=BW) (a+b) 0 (N+1) i
   have hset:=Qd1 (B:=BW) (V:=a+b) (W:=a+b) (S:=0) (n:=N+1) (m:=i) (d:=(a+b)/BW^i%BW) (by decide) (by omega) rfl rfl
   obtain⟨e,hgo⟩: ∃e:Nat,((mix BW (a+b) 0 (N+1) i).map fW)[i]? =some (PV.int .u64 (e:Int)):=⟨_,by rw [List.getElem?_map,Qc6 _ _ _ _ _ (by omega)];rfl⟩
   have h0:(0≤(i:Int))=True:=by simp
   have hiN:((i:Int)<((N+1:Nat):Int))=True:=by simp only [eq_iff_iff,iff_true];omega
   by_cases hA:i<N
   ·have hA':((i:Int)<(N:Int))=True:=by simp;omega
    have hga:=Qaq BW_2 (show i<(digs BW a).length by omega)
    have hwk:=Qal (a:=i) (by omega)
    have hcl:=Qsq (B:=BW) (by decide) a b i
    obtain⟨s1,s2⟩:(a/BW^i%BW+b/BW^i%BW+carry BW a b i)%18446744073709551616=(a+b)/BW^i%BW∧(a/BW^i%BW+b/BW^i%BW+carry BW a b i)/18446744073709551616=carry BW a b (i+1):=Qsr (B:=BW) (by decide) a b i
    have hy0: ¬i<(digs BW b).length→b/BW^i%BW=0:=fun h=>by rw [Qb5 BW_2 (Nat.le_of_not_lt h),Nat.zero_mod]
    have hgb:i<(digs BW b).length→(digs BW b)[i]? =some (b/BW^i%BW):=fun h=>Qaq BW_2 h
    have hc:=Qn8 (a/BW^i%BW) (b/BW^i%BW) (carry BW a b i) hcl
    rw [s1,s2]at hc
    generalize a/BW^i%BW=x at*
    generalize b/BW^i%BW=y at*
    generalize (a+b)/BW^i%BW=z at*
    by_cases hB:i<(digs BW b).length
    ·have hB':((i:Int)<((digs BW b).length:Int))=True:=by simp;omega
     have hgb:=hgb hB
     simp -implicitDefEqProofs only [go_sem,Nat.reduceAdd,Nat.reduceMul,Nat.reduceEqDiff,Nat.reduceLT,Nat.reduceLeDiff,Nat.reduceSub,Nat.reduceBEq,reduceIte,reduceCtorEq,Int.reduceEq,Int.reduceNe,Nat.reduceBneDiff,Int.reduceLE,Int.reduceLT,Int.reduceToNat,Int.reduceAdd,Int.reduceSub,Int.reduceMul,Int.reduceNeg,dw,List.length_map,hA',hB',h0,Qb2,hga,hgb,Int.toNat_natCast]
     refine Qag _ _ _ _ _ _ _ _ _ hc ?_
     simp -implicitDefEqProofs only [go_sem,Nat.reduceAdd,Nat.reduceMul,Nat.reduceEqDiff,Nat.reduceLT,Nat.reduceLeDiff,Nat.reduceSub,Nat.reduceBEq,reduceIte,reduceCtorEq,Int.reduceEq,Int.reduceNe,Nat.reduceBneDiff,Int.reduceLE,Int.reduceLT,Int.reduceToNat,Int.reduceAdd,Int.reduceSub,Int.reduceMul,Int.reduceNeg,hA',h0,hiN,Int.toNat_natCast,hwk,hgo,List.length_map,hml]
     refine⟨⟨i+1,hA⟩,by simp only;omega,?_⟩
     refine Qap (θ:=[(303,303)]) rfl ?_ ?_
     ·simp [Qaf,lkp,ren1,ren0,dw]
     ·rw [Qco,hset]
      simp [Qar,lkp,Box.renames]
    ·have hB':((i:Int)<((digs BW b).length:Int))=False:=by simp;omega
     obtain rfl:=hy0 hB
     simp -implicitDefEqProofs only [go_sem,Nat.reduceAdd,Nat.reduceMul,Nat.reduceEqDiff,Nat.reduceLT,Nat.reduceLeDiff,Nat.reduceSub,Nat.reduceBEq,reduceIte,reduceCtorEq,Int.reduceEq,Int.reduceNe,Nat.reduceBneDiff,Int.reduceLE,Int.reduceLT,Int.reduceToNat,Int.reduceAdd,Int.reduceSub,Int.reduceMul,Int.reduceNeg,dw,List.length_map,hA',hB',h0,Qb2,hga,Int.toNat_natCast]
     refine Qag _ _ _ _ _ _ _ _ _ hc ?_
     simp -implicitDefEqProofs only [go_sem,Nat.reduceAdd,Nat.reduceMul,Nat.reduceEqDiff,Nat.reduceLT,Nat.reduceLeDiff,Nat.reduceSub,Nat.reduceBEq,reduceIte,reduceCtorEq,Int.reduceEq,Int.reduceNe,Nat.reduceBneDiff,Int.reduceLE,Int.reduceLT,Int.reduceToNat,Int.reduceAdd,Int.reduceSub,Int.reduceMul,Int.reduceNeg,hA',h0,hiN,Int.toNat_natCast,hwk,hgo,List.length_map,hml]
     refine⟨⟨i+1,hA⟩,by simp only;omega,?_⟩
     refine Qap (θ:=[(303,303)]) rfl ?_ ?_
     ·simp [Qaf,lkp,ren1,ren0,dw]
     ·rw [Qco,hset]
      simp [Qar,lkp,Box.renames]
   ·have hA':((i:Int)<(N:Int))=False:=by simp;omega
    obtain rfl:i=N:=by omega
    have hsum:(a+b)/BW^i<2:=Nat.div_lt_of_lt_mul (by omega)
    have hcN:carry BW a b i=(a+b)/BW^i%BW:=by
     rw [carry,Nat.mod_eq_of_lt hlt,Nat.mod_eq_of_lt hlt2,Nat.mod_eq_of_lt (Nat.lt_trans hsum (by decide))]
    have hm:mix BW (a+b) 0 (i+1) (i+1)=lows BW (a+b) (i+1):=Qfl (by decide) (by rw [Nat.pow_succ,←Nat.div_div_eq_div_mul,Nat.div_eq_of_lt (Nat.lt_trans hsum (by decide)),Nat.zero_div])
    rw [hm]at hset
    have htk:((lows BW (a+b) (i+1)).map fW).take (i+1)=(lows BW (a+b) (i+1)).map fW:=List.take_of_length_le (by simp [Qah])
    have hll:=Qah (B:=BW) (a+b) (i+1)
    have hbig:a+b<BW^(i+1):=by
     rw [Nat.pow_succ]
     have:BW^i*2≤BW^i*BW:=Nat.mul_le_mul_left _ (by decide)
     omega
    rw [hcN]
    simp -implicitDefEqProofs only [go_sem,Nat.reduceAdd,Nat.reduceMul,Nat.reduceEqDiff,Nat.reduceLT,Nat.reduceLeDiff,Nat.reduceSub,Nat.reduceBEq,reduceIte,reduceCtorEq,Int.reduceEq,Int.reduceNe,Nat.reduceBneDiff,Int.reduceLE,Int.reduceLT,Int.reduceToNat,Int.reduceAdd,Int.reduceSub,Int.reduceMul,Int.reduceNeg,dw,hA',h0,hiN,hN,Int.toNat_natCast,hgo,List.length_map,hml,Qco,hset,hll,htk]
    refine Qag _ _ _ _ _ _ _ _ _ (Qc3 (lows BW (a+b) (i+1)) (by rw [Qah];simp [maxLen];omega)) ?_
    simp -implicitDefEqProofs only [go_sem,Nat.reduceAdd,Nat.reduceMul,Nat.reduceEqDiff,Nat.reduceLT,Nat.reduceLeDiff,Nat.reduceSub,Nat.reduceBEq,reduceIte,reduceCtorEq,Int.reduceEq,Int.reduceNe,Nat.reduceBneDiff,Int.reduceLE,Int.reduceLT,Int.reduceToNat,Int.reduceAdd,Int.reduceSub,Int.reduceMul,Int.reduceNeg,dw,List.length_map]
    rw [Qbu BW_2,Nat.mod_eq_of_lt hbig]
end Go.Proofs.YtciddhkfbgkejaaDoor

namespace Go.Proofs.YtciddhkfbgkejaaDoor
open Go.Vl Go.RowKit Go.Dg
def nP (neg:Bool) (m:Nat):PV:= .agg [.bool neg,dw (digs BW m)]
def sv (neg:Bool) (m:Nat):Int:=if neg then -(m:Int)else m
theorem Zk1 (neg:Bool) (m:Nat):Qae Tryd.prog 58 [nP neg m] (nP (!neg) m):=by
 refine Qac (tb:=[]) 9 [.cell 2 79] [0,1,2] mixed Tryd.func58 rfl (by kernel_rfl) (by kernel_rfl) (by kernel_rfl) (by kernel_rfl) ?_
 simp -implicitDefEqProofs only [go_sem,Nat.reduceAdd,Nat.reduceMul,Nat.reduceEqDiff,Nat.reduceLT,Nat.reduceLeDiff,Nat.reduceSub,Nat.reduceBEq,reduceIte,reduceCtorEq,Int.reduceEq,Int.reduceNe,Nat.reduceBneDiff,Int.reduceLE,Int.reduceLT,Int.reduceToNat,Int.reduceAdd,Int.reduceSub,Int.reduceMul,Int.reduceNeg,nP,dw]
theorem Q2s (neg:Bool) (m:Nat):Qae Tryd.prog 59 [nP neg m] (.int .i64 (sv neg m).sign):=by
 refine Qac (tb:=[]) 11 [.tmp 2] [0,1,2,3,8] mixed Tryd.func59 rfl (by kernel_rfl) (by kernel_rfl) (by kernel_rfl) (by kernel_rfl) ?_
 by_cases h0:m=0
 ·subst h0
  have h1:(((0:Nat):Int)==0)=true:=rfl
  have e:(sv neg 0).sign=0:=by cases neg<;>rfl
  rw [e]
  simp -implicitDefEqProofs only [go_sem,Nat.reduceAdd,Nat.reduceMul,Nat.reduceEqDiff,Nat.reduceLT,Nat.reduceLeDiff,Nat.reduceSub,Nat.reduceBEq,reduceIte,reduceCtorEq,Int.reduceEq,Int.reduceNe,Nat.reduceBneDiff,Int.reduceLE,Int.reduceLT,Int.reduceToNat,Int.reduceAdd,Int.reduceSub,Int.reduceMul,Int.reduceNeg,nP,dw,Qa8,List.map_nil,List.length_nil,h1]
 ·have h1:(((digs BW m).length:Int)==0)=false:=by
   have:=List.length_pos_iff.2 (mt (Qbg BW_2).1 h0)
   simp only [beq_eq_false_iff_ne,ne_eq];omega
  cases neg with
  |true=>
   have e:(sv true m).sign= -1:=Int.sign_eq_neg_one_of_neg (by simp [sv];omega)
   rw [e]
   simp -implicitDefEqProofs only [go_sem,Nat.reduceAdd,Nat.reduceMul,Nat.reduceEqDiff,Nat.reduceLT,Nat.reduceLeDiff,Nat.reduceSub,Nat.reduceBEq,reduceIte,reduceCtorEq,Int.reduceEq,Int.reduceNe,Nat.reduceBneDiff,Int.reduceLE,Int.reduceLT,Int.reduceToNat,Int.reduceAdd,Int.reduceSub,Int.reduceMul,Int.reduceNeg,nP,dw,List.length_map,h1]
  |false=>
   have e:(sv false m).sign=1:=Int.sign_eq_one_of_pos (by simp [sv];omega)
   rw [e]
   simp -implicitDefEqProofs only [go_sem,Nat.reduceAdd,Nat.reduceMul,Nat.reduceEqDiff,Nat.reduceLT,Nat.reduceLeDiff,Nat.reduceSub,Nat.reduceBEq,reduceIte,reduceCtorEq,Int.reduceEq,Int.reduceNe,Nat.reduceBneDiff,Int.reduceLE,Int.reduceLT,Int.reduceToNat,Int.reduceAdd,Int.reduceSub,Int.reduceMul,Int.reduceNeg,nP,dw,List.length_map,h1]
theorem Q2t (xn yn:Bool) (x y:Nat) (hx:(digs BW x).length≤1000000000) (hy:(digs BW y).length≤1000000000):
  ∃(n:Bool) (m:Nat),Qae Tryd.prog 57 [nP xn x,nP yn y] (nP n m)∧sv n m=sv xn x+sv yn y∧m≤x+y:=by
 cases hs:(xn==yn)with
 |true=>
  obtain rfl:xn=yn:=by simpa using hs
  refine⟨xn,x+y,?_,by cases xn<;>simp [sv]<;>omega,Nat.le_refl _⟩
  refine Qac (tb:=[]) 42 [.cell 4 79] [0,1,2,3,4,5,19] mixed Tryd.func57 rfl (by kernel_rfl) (by kernel_rfl) (by kernel_rfl) (by kernel_rfl) ?_
  simp -implicitDefEqProofs only [go_sem,Nat.reduceAdd,Nat.reduceMul,Nat.reduceEqDiff,Nat.reduceLT,Nat.reduceLeDiff,Nat.reduceSub,Nat.reduceBEq,reduceIte,reduceCtorEq,Int.reduceEq,Int.reduceNe,Nat.reduceBneDiff,Int.reduceLE,Int.reduceLT,Int.reduceToNat,Int.reduceAdd,Int.reduceSub,Int.reduceMul,Int.reduceNeg,nP,dw,hs]
  refine Qag _ _ _ _ _ _ _ _ _ (Zao x y hx hy) ?_
  simp -implicitDefEqProofs only [go_sem,Nat.reduceAdd,Nat.reduceMul,Nat.reduceEqDiff,Nat.reduceLT,Nat.reduceLeDiff,Nat.reduceSub,Nat.reduceBEq,reduceIte,reduceCtorEq,Int.reduceEq,Int.reduceNe,Nat.reduceBneDiff,Int.reduceLE,Int.reduceLT,Int.reduceToNat,Int.reduceAdd,Int.reduceSub,Int.reduceMul,Int.reduceNeg,nP,dw]
  exact Qaa _ _ (by kernel_rfl)
 |false=>
  have hne:yn= !xn:=by cases xn<;>cases yn<;>simp at hs ⊢
  by_cases hc:y≤x
  ·refine⟨xn,x-y,?_,by subst hne;cases xn<;>simp [sv]<;>omega,by omega⟩
   have h1:(0≤cmpW x y)=True:=by simp only [eq_iff_iff,iff_true];have:=Qdv x y;omega
   refine Qac (tb:=[]) 42 [.cell 4 79] [0,1,2,3,4,5,19] mixed Tryd.func57 rfl (by kernel_rfl) (by kernel_rfl) (by kernel_rfl) (by kernel_rfl) ?_
   simp -implicitDefEqProofs only [go_sem,Nat.reduceAdd,Nat.reduceMul,Nat.reduceEqDiff,Nat.reduceLT,Nat.reduceLeDiff,Nat.reduceSub,Nat.reduceBEq,reduceIte,reduceCtorEq,Int.reduceEq,Int.reduceNe,Nat.reduceBneDiff,Int.reduceLE,Int.reduceLT,Int.reduceToNat,Int.reduceAdd,Int.reduceSub,Int.reduceMul,Int.reduceNeg,nP,dw,hs]
   refine Qag _ _ _ _ _ _ _ _ _ (Qc9 x y hx hy) ?_
   simp -implicitDefEqProofs only [go_sem,Nat.reduceAdd,Nat.reduceMul,Nat.reduceEqDiff,Nat.reduceLT,Nat.reduceLeDiff,Nat.reduceSub,Nat.reduceBEq,reduceIte,reduceCtorEq,Int.reduceEq,Int.reduceNe,Nat.reduceBneDiff,Int.reduceLE,Int.reduceLT,Int.reduceToNat,Int.reduceAdd,Int.reduceSub,Int.reduceMul,Int.reduceNeg,h1]
   refine Qag _ _ _ _ _ _ _ _ _ (Qqb x y hc hx) ?_
   simp -implicitDefEqProofs only [go_sem,Nat.reduceAdd,Nat.reduceMul,Nat.reduceEqDiff,Nat.reduceLT,Nat.reduceLeDiff,Nat.reduceSub,Nat.reduceBEq,reduceIte,reduceCtorEq,Int.reduceEq,Int.reduceNe,Nat.reduceBneDiff,Int.reduceLE,Int.reduceLT,Int.reduceToNat,Int.reduceAdd,Int.reduceSub,Int.reduceMul,Int.reduceNeg,nP,dw]
   exact Qaa _ _ (by kernel_rfl)
  ·refine⟨yn,y-x,?_,by subst hne;cases xn<;>simp [sv]<;>omega,by omega⟩
   have h1:(0≤cmpW x y)=False:=by simp only [eq_iff_iff,iff_false];have:=Qdv x y;omega
   refine Qac (tb:=[]) 42 [.cell 4 79] [0,1,2,3,4,5,19] mixed Tryd.func57 rfl (by kernel_rfl) (by kernel_rfl) (by kernel_rfl) (by kernel_rfl) ?_
   simp -implicitDefEqProofs only [go_sem,Nat.reduceAdd,Nat.reduceMul,Nat.reduceEqDiff,Nat.reduceLT,Nat.reduceLeDiff,Nat.reduceSub,Nat.reduceBEq,reduceIte,reduceCtorEq,Int.reduceEq,Int.reduceNe,Nat.reduceBneDiff,Int.reduceLE,Int.reduceLT,Int.reduceToNat,Int.reduceAdd,Int.reduceSub,Int.reduceMul,Int.reduceNeg,nP,dw,hs]
   refine Qag _ _ _ _ _ _ _ _ _ (Qc9 x y hx hy) ?_
   simp -implicitDefEqProofs only [go_sem,Nat.reduceAdd,Nat.reduceMul,Nat.reduceEqDiff,Nat.reduceLT,Nat.reduceLeDiff,Nat.reduceSub,Nat.reduceBEq,reduceIte,reduceCtorEq,Int.reduceEq,Int.reduceNe,Nat.reduceBneDiff,Int.reduceLE,Int.reduceLT,Int.reduceToNat,Int.reduceAdd,Int.reduceSub,Int.reduceMul,Int.reduceNeg,h1]
   refine Qag _ _ _ _ _ _ _ _ _ (Qqb y x (by omega) hy) ?_
   simp -implicitDefEqProofs only [go_sem,Nat.reduceAdd,Nat.reduceMul,Nat.reduceEqDiff,Nat.reduceLT,Nat.reduceLeDiff,Nat.reduceSub,Nat.reduceBEq,reduceIte,reduceCtorEq,Int.reduceEq,Int.reduceNe,Nat.reduceBneDiff,Int.reduceLE,Int.reduceLT,Int.reduceToNat,Int.reduceAdd,Int.reduceSub,Int.reduceMul,Int.reduceNeg,nP,dw]
   exact Qaa _ _ (by kernel_rfl)
def Qbb (neg:Bool) (l:List UInt8):Bool:=match l with
 | []=> !neg
 |b::_=>decide (l.length≤8192)&&b != 0
theorem Zhp {s:ByteArray} {b:UInt8} {r:List UInt8} (h:s.data.toList=b::r):s[0]? =some b:=by
 rw [Qog s 0 (by rw [h];simp)]
 simp only [h,List.getElem_cons_zero]
theorem Qr8 (b:UInt8):((b.toNat:Int) != 0)=(b != 0):=by
 by_cases h:b=0
 ·subst h;rfl
 ·have:b.toNat≠0:=fun e=>h (UInt8.toNat_inj.1 (by simpa using e))
  have h1:((b.toNat:Int) != 0)=true:=by simp;omega
  have h2:(b != 0)=true:=by simp [h]
  rw [h1,h2]
end Go.Proofs.YtciddhkfbgkejaaDoor

namespace Go.Proofs.YtciddhkfbgkejaaDoor
open Go.Vl Go.RowKit Go.Dg
theorem Qjv (neg:Bool) (s:ByteArray):Qae Tryd.prog 69 [.agg [.bool neg,.str s]] (.bool (Qbb neg s.data.toList)):=by
 have hz:=Qjy s
 cases h:s.data.toList with
 |nil=>
  have h1:(([]:List UInt8)== [])=true:=rfl
  refine Qac (tb:=[]) 19 [.tmp 2] [0,1,2,5] mixed Tryd.func69 rfl (by kernel_rfl) (by kernel_rfl) (by kernel_rfl) (by kernel_rfl) ?_
  simp -implicitDefEqProofs only [go_sem,Nat.reduceAdd,Nat.reduceMul,Nat.reduceEqDiff,Nat.reduceLT,Nat.reduceLeDiff,Nat.reduceSub,Nat.reduceBEq,reduceIte,reduceCtorEq,Int.reduceEq,Int.reduceNe,Nat.reduceBneDiff,Int.reduceLE,Int.reduceLT,Int.reduceToNat,Int.reduceAdd,Int.reduceSub,Int.reduceMul,Int.reduceNeg,Qbb,h,h1]
 |cons b r=>
  have h0:=Zhp h
  have hne:(b::r== [])=false:=rfl
  rw [h]at hz
  refine Qac (tb:=[]) 19 [.tmp 2] [0,1,2,5] mixed Tryd.func69 rfl (by kernel_rfl) (by kernel_rfl) (by kernel_rfl) (by kernel_rfl) ?_
  by_cases hb:(b != 0)=true
  ·by_cases h2:(b::r).length≤8192
   ·have h2':((s.size:Int)≤8192)=True:=by rw [hz];simp only [eq_iff_iff,iff_true];omega
    have e:Qbb neg (b::r)=true:=by simp only [Qbb,h2,decide_true,Bool.true_and,hb]
    rw [e]
    simp -implicitDefEqProofs only [go_sem,Nat.reduceAdd,Nat.reduceMul,Nat.reduceEqDiff,Nat.reduceLT,Nat.reduceLeDiff,Nat.reduceSub,Nat.reduceBEq,reduceIte,reduceCtorEq,Int.reduceEq,Int.reduceNe,Nat.reduceBneDiff,Int.reduceLE,Int.reduceLT,Int.reduceToNat,Int.reduceAdd,Int.reduceSub,Int.reduceMul,Int.reduceNeg,h,hne,h2',h0,Qr8,hb]
   ·have h2':((s.size:Int)≤8192)=False:=by rw [hz];simp only [eq_iff_iff,iff_false];omega
    have e:Qbb neg (b::r)=false:=by simp only [Qbb,h2,decide_false,Bool.false_and]
    rw [e]
    simp -implicitDefEqProofs only [go_sem,Nat.reduceAdd,Nat.reduceMul,Nat.reduceEqDiff,Nat.reduceLT,Nat.reduceLeDiff,Nat.reduceSub,Nat.reduceBEq,reduceIte,reduceCtorEq,Int.reduceEq,Int.reduceNe,Nat.reduceBneDiff,Int.reduceLE,Int.reduceLT,Int.reduceToNat,Int.reduceAdd,Int.reduceSub,Int.reduceMul,Int.reduceNeg,h,hne,h2',h0,Qr8,hb]
  ·have hb':(b != 0)=false:=by simpa using hb
   have e:Qbb neg (b::r)=false:=by simp only [Qbb,hb',Bool.and_false]
   rw [e]
   simp -implicitDefEqProofs only [go_sem,Nat.reduceAdd,Nat.reduceMul,Nat.reduceEqDiff,Nat.reduceLT,Nat.reduceLeDiff,Nat.reduceSub,Nat.reduceBEq,reduceIte,reduceCtorEq,Int.reduceEq,Int.reduceNe,Nat.reduceBneDiff,Int.reduceLE,Int.reduceLT,Int.reduceToNat,Int.reduceAdd,Int.reduceSub,Int.reduceMul,Int.reduceNeg,h,hne,h0,Qr8,hb']
theorem Qlh (an bn:Bool) (a b:ByteArray):Qae Tryd.prog 55 [.agg [.bool an,.str a],.agg [.bool bn,.str b]] (.bool (Qbb an a.data.toList&&Qbb bn b.data.toList)):=by
 refine Qac (tb:=[]) 11 [.tmp 4] [0,1,2,3,4] mixed Tryd.func55 rfl (by kernel_rfl) (by kernel_rfl) (by kernel_rfl) (by kernel_rfl) ?_
 simp -implicitDefEqProofs only [go_sem,Nat.reduceAdd,Nat.reduceMul,Nat.reduceEqDiff,Nat.reduceLT,Nat.reduceLeDiff,Nat.reduceSub,Nat.reduceBEq,reduceIte,reduceCtorEq,Int.reduceEq,Int.reduceNe,Nat.reduceBneDiff,Int.reduceLE,Int.reduceLT,Int.reduceToNat,Int.reduceAdd,Int.reduceSub,Int.reduceMul,Int.reduceNeg]
 refine Qag _ _ _ _ _ _ _ _ _ (Qjv an a) ?_
 cases h:Qbb an a.data.toList with
 |true=>
  simp -implicitDefEqProofs only [go_sem,Nat.reduceAdd,Nat.reduceMul,Nat.reduceEqDiff,Nat.reduceLT,Nat.reduceLeDiff,Nat.reduceSub,Nat.reduceBEq,reduceIte,reduceCtorEq,Int.reduceEq,Int.reduceNe,Nat.reduceBneDiff,Int.reduceLE,Int.reduceLT,Int.reduceToNat,Int.reduceAdd,Int.reduceSub,Int.reduceMul,Int.reduceNeg,Bool.true_and]
  refine Qag _ _ _ _ _ _ _ _ _ (Qjv bn b) ?_
  simp -implicitDefEqProofs only [go_sem,Nat.reduceAdd,Nat.reduceMul,Nat.reduceEqDiff,Nat.reduceLT,Nat.reduceLeDiff,Nat.reduceSub,Nat.reduceBEq,reduceIte,reduceCtorEq,Int.reduceEq,Int.reduceNe,Nat.reduceBneDiff,Int.reduceLE,Int.reduceLT,Int.reduceToNat,Int.reduceAdd,Int.reduceSub,Int.reduceMul,Int.reduceNeg]
 |false=>
  simp -implicitDefEqProofs only [go_sem,Nat.reduceAdd,Nat.reduceMul,Nat.reduceEqDiff,Nat.reduceLT,Nat.reduceLeDiff,Nat.reduceSub,Nat.reduceBEq,reduceIte,reduceCtorEq,Int.reduceEq,Int.reduceNe,Nat.reduceBneDiff,Int.reduceLE,Int.reduceLT,Int.reduceToNat,Int.reduceAdd,Int.reduceSub,Int.reduceMul,Int.reduceNeg,Bool.false_and]
end Go.Proofs.YtciddhkfbgkejaaDoor

namespace Go.Proofs.YtciddhkfbgkejaaDoor
open Go.Vl Go.RowKit Go.Dg
def Qof (T:List UInt8):Bool:=(List.range 256).all fun x=>match T[x]? with
 |some t=>decide (x<2^t.toNat)&&(decide (x=0∧t.toNat=0)||decide (2^(t.toNat-1)≤x∧0<t.toNat))
 |none=>false
theorem Qdm {s:ByteArray} (h:Qof s.data.toList=true) {x:Nat} (hx:x<256): ∃t:UInt8,s[x]? =some t∧t.toNat=blen x:=by
 have h1:=List.all_eq_true.1 h x (by simpa using hx)
 cases ht:s.data.toList[x]? with
 |none=>rw [ht]at h1;cases h1
 |some t=>
  rw [ht]at h1
  simp only [Bool.and_eq_true,Bool.or_eq_true,decide_eq_true_eq]at h1
  have hl:=(List.getElem?_eq_some_iff.1 ht)
  refine⟨t,by rw [Qog s x hl.1];rw [←List.getElem?_eq_getElem hl.1,ht],?_⟩
  obtain⟨h1,h2⟩:=h1
  have:=Qcx _ _ h1
  rcases h2 with⟨rfl,h2⟩|⟨h2,h3⟩
  ·rw [h2,Qff]
  ·have:=Qjz _ _ h2
   omega
theorem Qh3 (n k:Nat):(n:Int).fdiv (2^k)=((n/2^k:Nat):Int):=by
 rw [Int.fdiv_eq_ediv_of_nonneg _ (Int.pow_nonneg (by decide))]
 simp
theorem Qi7 (n:Nat):(n:Int).fdiv (2^min 16 64)=((n/65536:Nat):Int):=by
 rw [Int.fdiv_eq_ediv_of_nonneg _ (by decide)];rfl
theorem Qqc (n:Nat):(n:Int).fdiv (2^min 8 64)=((n/256:Nat):Int):=by
 rw [Int.fdiv_eq_ediv_of_nonneg _ (by decide)];rfl
theorem Zhq (x:Nat) (hx:x<18446744073709551616):Qae Tryd.prog 89 [.int .u64 (x:Int)] (.int .i64 (blen x:Int)):=by
 have wc8:IntKind.i64.wrap 8=8:=rfl
 have wc16:IntKind.i64.wrap 16=16:=rfl
 have wc24:IntKind.i64.wrap 24=24:=rfl
 have wc32:IntKind.i64.wrap 32=32:=rfl
 have wc40:IntKind.i64.wrap 40=40:=rfl
 have wc48:IntKind.i64.wrap 48=48:=rfl
 have wc56:IntKind.i64.wrap 56=56:=rfl
 by_cases q32:4294967296≤x
 ·have h32:(4294967296≤((x:Nat):Int))=True:=by simp only [eq_iff_iff,iff_true];omega
  by_cases q16:65536≤x/4294967296
  ·have h16:(65536≤((x/4294967296:Nat):Int))=True:=by simp only [eq_iff_iff,iff_true];omega
   by_cases q8:256≤(x/4294967296)/65536
   ·have h8:(256≤(((x/4294967296)/65536:Nat):Int))=True:=by simp only [eq_iff_iff,iff_true];omega
    have hx8:((x/4294967296)/65536)/256<256:=by omega
    have hw:=Qf0 hx8
    have h0:(0≤((((x/4294967296)/65536)/256:Nat):Int))=True:=by simp only [eq_iff_iff,iff_true];exact Int.natCast_nonneg _
    have hb:blen x=blen (((x/4294967296)/65536)/256)+56:=by have:=Qdq 56 x (by simp only [Nat.reducePow];omega);simp only [Nat.reducePow]at this;rw [this,show((x/4294967296)/65536)/256=x/72057594037927936 by omega]
    refine Qac (tb:=[]) 25 [.tmp 2] [0,2,4,8,14] mixed Tryd.func89 rfl (by kernel_rfl) (by kernel_rfl) (by kernel_rfl) (by kernel_rfl) ?_
    simp -implicitDefEqProofs only [go_sem,Nat.reduceAdd,Nat.reduceMul,Nat.reduceEqDiff,Nat.reduceLT,Nat.reduceLeDiff,Nat.reduceSub,Nat.reduceBEq,reduceIte,reduceCtorEq,Int.reduceEq,Int.reduceNe,Nat.reduceBneDiff,Int.reduceLE,Int.reduceLT,Int.reduceToNat,Int.reduceAdd,Int.reduceSub,Int.reduceMul,Int.reduceNeg,h32,h16,h8,Qg4,Qi7,Qqc,hw,h0,Int.toNat_natCast,wc8,wc16,wc24,wc32,wc40,wc48,wc56]
    generalize hT:ByteArray.mk _=T
    have hok:Qof T.data.toList=true:=by rw [←hT];kernel_rfl
    obtain⟨t,ht,htb⟩:=Qdm hok hx8
    clear hT
    have hw2:IntKind.i64.wrap (t.toNat:Int)=(t.toNat:Int):=wrapn (by have:=t.toNat_lt;omega)
    have hw3:IntKind.i64.wrap (56+(t.toNat:Int))=((blen x:Nat):Int):=by rw [Qai (by have:=t.toNat_lt;omega) (by have:=t.toNat_lt;omega),hb,←htb];omega
    rw [htb]at hw2 hw3
    simp -implicitDefEqProofs only [go_sem,Nat.reduceAdd,Nat.reduceMul,Nat.reduceEqDiff,Nat.reduceLT,Nat.reduceLeDiff,Nat.reduceSub,Nat.reduceBEq,reduceIte,reduceCtorEq,Int.reduceEq,Int.reduceNe,Nat.reduceBneDiff,Int.reduceLE,Int.reduceLT,Int.reduceToNat,Int.reduceAdd,Int.reduceSub,Int.reduceMul,Int.reduceNeg,ht,hw2,hw3,htb,wc8,wc16,wc24,wc32,wc40,wc48,wc56]
   ·have h8:(256≤(((x/4294967296)/65536:Nat):Int))=False:=by simp only [eq_iff_iff,iff_false];omega
    have hx8:(x/4294967296)/65536<256:=by omega
    have hw:=Qf0 hx8
    have h0:(0≤(((x/4294967296)/65536:Nat):Int))=True:=by simp only [eq_iff_iff,iff_true];exact Int.natCast_nonneg _
    have hb:blen x=blen ((x/4294967296)/65536)+48:=by have:=Qdq 48 x (by simp only [Nat.reducePow];omega);simp only [Nat.reducePow]at this;rw [this,show(x/4294967296)/65536=x/281474976710656 by omega]
    refine Qac (tb:=[]) 25 [.tmp 2] [0,2,4,8,14] mixed Tryd.func89 rfl (by kernel_rfl) (by kernel_rfl) (by kernel_rfl) (by kernel_rfl) ?_
    simp -implicitDefEqProofs only [go_sem,Nat.reduceAdd,Nat.reduceMul,Nat.reduceEqDiff,Nat.reduceLT,Nat.reduceLeDiff,Nat.reduceSub,Nat.reduceBEq,reduceIte,reduceCtorEq,Int.reduceEq,Int.reduceNe,Nat.reduceBneDiff,Int.reduceLE,Int.reduceLT,Int.reduceToNat,Int.reduceAdd,Int.reduceSub,Int.reduceMul,Int.reduceNeg,h32,h16,h8,Qg4,Qi7,Qqc,hw,h0,Int.toNat_natCast,wc8,wc16,wc24,wc32,wc40,wc48,wc56]
    generalize hT:ByteArray.mk _=T
    have hok:Qof T.data.toList=true:=by rw [←hT];kernel_rfl
    obtain⟨t,ht,htb⟩:=Qdm hok hx8
    clear hT
    have hw2:IntKind.i64.wrap (t.toNat:Int)=(t.toNat:Int):=wrapn (by have:=t.toNat_lt;omega)
    have hw3:IntKind.i64.wrap (48+(t.toNat:Int))=((blen x:Nat):Int):=by rw [Qai (by have:=t.toNat_lt;omega) (by have:=t.toNat_lt;omega),hb,←htb];omega
    rw [htb]at hw2 hw3
    simp -implicitDefEqProofs only [go_sem,Nat.reduceAdd,Nat.reduceMul,Nat.reduceEqDiff,Nat.reduceLT,Nat.reduceLeDiff,Nat.reduceSub,Nat.reduceBEq,reduceIte,reduceCtorEq,Int.reduceEq,Int.reduceNe,Nat.reduceBneDiff,Int.reduceLE,Int.reduceLT,Int.reduceToNat,Int.reduceAdd,Int.reduceSub,Int.reduceMul,Int.reduceNeg,ht,hw2,hw3,htb,wc8,wc16,wc24,wc32,wc40,wc48,wc56]
  ·have h16:(65536≤((x/4294967296:Nat):Int))=False:=by simp only [eq_iff_iff,iff_false];omega
   by_cases q8:256≤x/4294967296
   ·have h8:(256≤((x/4294967296:Nat):Int))=True:=by simp only [eq_iff_iff,iff_true];omega
    have hx8:(x/4294967296)/256<256:=by omega
    have hw:=Qf0 hx8
    have h0:(0≤(((x/4294967296)/256:Nat):Int))=True:=by simp only [eq_iff_iff,iff_true];exact Int.natCast_nonneg _
    have hb:blen x=blen ((x/4294967296)/256)+40:=by have:=Qdq 40 x (by simp only [Nat.reducePow];omega);simp only [Nat.reducePow]at this;rw [this,show(x/4294967296)/256=x/1099511627776 by omega]
    refine Qac (tb:=[]) 25 [.tmp 2] [0,2,4,8,14] mixed Tryd.func89 rfl (by kernel_rfl) (by kernel_rfl) (by kernel_rfl) (by kernel_rfl) ?_
    simp -implicitDefEqProofs only [go_sem,Nat.reduceAdd,Nat.reduceMul,Nat.reduceEqDiff,Nat.reduceLT,Nat.reduceLeDiff,Nat.reduceSub,Nat.reduceBEq,reduceIte,reduceCtorEq,Int.reduceEq,Int.reduceNe,Nat.reduceBneDiff,Int.reduceLE,Int.reduceLT,Int.reduceToNat,Int.reduceAdd,Int.reduceSub,Int.reduceMul,Int.reduceNeg,h32,h16,h8,Qg4,Qi7,Qqc,hw,h0,Int.toNat_natCast,wc8,wc16,wc24,wc32,wc40,wc48,wc56]
    generalize hT:ByteArray.mk _=T
    have hok:Qof T.data.toList=true:=by rw [←hT];kernel_rfl
    obtain⟨t,ht,htb⟩:=Qdm hok hx8
    clear hT
    have hw2:IntKind.i64.wrap (t.toNat:Int)=(t.toNat:Int):=wrapn (by have:=t.toNat_lt;omega)
    have hw3:IntKind.i64.wrap (40+(t.toNat:Int))=((blen x:Nat):Int):=by rw [Qai (by have:=t.toNat_lt;omega) (by have:=t.toNat_lt;omega),hb,←htb];omega
    rw [htb]at hw2 hw3
    simp -implicitDefEqProofs only [go_sem,Nat.reduceAdd,Nat.reduceMul,Nat.reduceEqDiff,Nat.reduceLT,Nat.reduceLeDiff,Nat.reduceSub,Nat.reduceBEq,reduceIte,reduceCtorEq,Int.reduceEq,Int.reduceNe,Nat.reduceBneDiff,Int.reduceLE,Int.reduceLT,Int.reduceToNat,Int.reduceAdd,Int.reduceSub,Int.reduceMul,Int.reduceNeg,ht,hw2,hw3,htb,wc8,wc16,wc24,wc32,wc40,wc48,wc56]
   ·have h8:(256≤((x/4294967296:Nat):Int))=False:=by simp only [eq_iff_iff,iff_false];omega
    have hx8:x/4294967296<256:=by omega
    have hw:=Qf0 hx8
    have h0:(0≤((x/4294967296:Nat):Int))=True:=by simp only [eq_iff_iff,iff_true];exact Int.natCast_nonneg _
    have hb:blen x=blen (x/4294967296)+32:=by have:=Qdq 32 x (by simp only [Nat.reducePow];omega);simp only [Nat.reducePow]at this;rw [this,show x/4294967296=x/4294967296 by omega]
    refine Qac (tb:=[]) 25 [.tmp 2] [0,2,4,8,14] mixed Tryd.func89 rfl (by kernel_rfl) (by kernel_rfl) (by kernel_rfl) (by kernel_rfl) ?_
    simp -implicitDefEqProofs only [go_sem,Nat.reduceAdd,Nat.reduceMul,Nat.reduceEqDiff,Nat.reduceLT,Nat.reduceLeDiff,Nat.reduceSub,Nat.reduceBEq,reduceIte,reduceCtorEq,Int.reduceEq,Int.reduceNe,Nat.reduceBneDiff,Int.reduceLE,Int.reduceLT,Int.reduceToNat,Int.reduceAdd,Int.reduceSub,Int.reduceMul,Int.reduceNeg,h32,h16,h8,Qg4,Qi7,Qqc,hw,h0,Int.toNat_natCast,wc8,wc16,wc24,wc32,wc40,wc48,wc56]
    generalize hT:ByteArray.mk _=T
    have hok:Qof T.data.toList=true:=by rw [←hT];kernel_rfl
    obtain⟨t,ht,htb⟩:=Qdm hok hx8
    clear hT
    have hw2:IntKind.i64.wrap (t.toNat:Int)=(t.toNat:Int):=wrapn (by have:=t.toNat_lt;omega)
    have hw3:IntKind.i64.wrap (32+(t.toNat:Int))=((blen x:Nat):Int):=by rw [Qai (by have:=t.toNat_lt;omega) (by have:=t.toNat_lt;omega),hb,←htb];omega
    rw [htb]at hw2 hw3
    simp -implicitDefEqProofs only [go_sem,Nat.reduceAdd,Nat.reduceMul,Nat.reduceEqDiff,Nat.reduceLT,Nat.reduceLeDiff,Nat.reduceSub,Nat.reduceBEq,reduceIte,reduceCtorEq,Int.reduceEq,Int.reduceNe,Nat.reduceBneDiff,Int.reduceLE,Int.reduceLT,Int.reduceToNat,Int.reduceAdd,Int.reduceSub,Int.reduceMul,Int.reduceNeg,ht,hw2,hw3,htb,wc8,wc16,wc24,wc32,wc40,wc48,wc56]
 ·have h32:(4294967296≤((x:Nat):Int))=False:=by simp only [eq_iff_iff,iff_false];omega
  by_cases q16:65536≤x
  ·have h16:(65536≤((x:Nat):Int))=True:=by simp only [eq_iff_iff,iff_true];omega
   by_cases q8:256≤x/65536
   ·have h8:(256≤((x/65536:Nat):Int))=True:=by simp only [eq_iff_iff,iff_true];omega
    have hx8:(x/65536)/256<256:=by omega
    have hw:=Qf0 hx8
    have h0:(0≤(((x/65536)/256:Nat):Int))=True:=by simp only [eq_iff_iff,iff_true];exact Int.natCast_nonneg _
    have hb:blen x=blen ((x/65536)/256)+24:=by have:=Qdq 24 x (by simp only [Nat.reducePow];omega);simp only [Nat.reducePow]at this;rw [this,show(x/65536)/256=x/16777216 by omega]
    refine Qac (tb:=[]) 25 [.tmp 2] [0,2,4,8,14] mixed Tryd.func89 rfl (by kernel_rfl) (by kernel_rfl) (by kernel_rfl) (by kernel_rfl) ?_
    simp -implicitDefEqProofs only [go_sem,Nat.reduceAdd,Nat.reduceMul,Nat.reduceEqDiff,Nat.reduceLT,Nat.reduceLeDiff,Nat.reduceSub,Nat.reduceBEq,reduceIte,reduceCtorEq,Int.reduceEq,Int.reduceNe,Nat.reduceBneDiff,Int.reduceLE,Int.reduceLT,Int.reduceToNat,Int.reduceAdd,Int.reduceSub,Int.reduceMul,Int.reduceNeg,h32,h16,h8,Qg4,Qi7,Qqc,hw,h0,Int.toNat_natCast,wc8,wc16,wc24,wc32,wc40,wc48,wc56]
    generalize hT:ByteArray.mk _=T
    have hok:Qof T.data.toList=true:=by rw [←hT];kernel_rfl
    obtain⟨t,ht,htb⟩:=Qdm hok hx8
    clear hT
    have hw2:IntKind.i64.wrap (t.toNat:Int)=(t.toNat:Int):=wrapn (by have:=t.toNat_lt;omega)
    have hw3:IntKind.i64.wrap (24+(t.toNat:Int))=((blen x:Nat):Int):=by rw [Qai (by have:=t.toNat_lt;omega) (by have:=t.toNat_lt;omega),hb,←htb];omega
    rw [htb]at hw2 hw3
    simp -implicitDefEqProofs only [go_sem,Nat.reduceAdd,Nat.reduceMul,Nat.reduceEqDiff,Nat.reduceLT,Nat.reduceLeDiff,Nat.reduceSub,Nat.reduceBEq,reduceIte,reduceCtorEq,Int.reduceEq,Int.reduceNe,Nat.reduceBneDiff,Int.reduceLE,Int.reduceLT,Int.reduceToNat,Int.reduceAdd,Int.reduceSub,Int.reduceMul,Int.reduceNeg,ht,hw2,hw3,htb,wc8,wc16,wc24,wc32,wc40,wc48,wc56]
   ·have h8:(256≤((x/65536:Nat):Int))=False:=by simp only [eq_iff_iff,iff_false];omega
    have hx8:x/65536<256:=by omega
    have hw:=Qf0 hx8
    have h0:(0≤((x/65536:Nat):Int))=True:=by simp only [eq_iff_iff,iff_true];exact Int.natCast_nonneg _
    have hb:blen x=blen (x/65536)+16:=by have:=Qdq 16 x (by simp only [Nat.reducePow];omega);simp only [Nat.reducePow]at this;rw [this,show x/65536=x/65536 by omega]
    refine Qac (tb:=[]) 25 [.tmp 2] [0,2,4,8,14] mixed Tryd.func89 rfl (by kernel_rfl) (by kernel_rfl) (by kernel_rfl) (by kernel_rfl) ?_
    simp -implicitDefEqProofs only [go_sem,Nat.reduceAdd,Nat.reduceMul,Nat.reduceEqDiff,Nat.reduceLT,Nat.reduceLeDiff,Nat.reduceSub,Nat.reduceBEq,reduceIte,reduceCtorEq,Int.reduceEq,Int.reduceNe,Nat.reduceBneDiff,Int.reduceLE,Int.reduceLT,Int.reduceToNat,Int.reduceAdd,Int.reduceSub,Int.reduceMul,Int.reduceNeg,h32,h16,h8,Qg4,Qi7,Qqc,hw,h0,Int.toNat_natCast,wc8,wc16,wc24,wc32,wc40,wc48,wc56]
    generalize hT:ByteArray.mk _=T
    have hok:Qof T.data.toList=true:=by rw [←hT];kernel_rfl
    obtain⟨t,ht,htb⟩:=Qdm hok hx8
    clear hT
    have hw2:IntKind.i64.wrap (t.toNat:Int)=(t.toNat:Int):=wrapn (by have:=t.toNat_lt;omega)
    have hw3:IntKind.i64.wrap (16+(t.toNat:Int))=((blen x:Nat):Int):=by rw [Qai (by have:=t.toNat_lt;omega) (by have:=t.toNat_lt;omega),hb,←htb];omega
    rw [htb]at hw2 hw3
    simp -implicitDefEqProofs only [go_sem,Nat.reduceAdd,Nat.reduceMul,Nat.reduceEqDiff,Nat.reduceLT,Nat.reduceLeDiff,Nat.reduceSub,Nat.reduceBEq,reduceIte,reduceCtorEq,Int.reduceEq,Int.reduceNe,Nat.reduceBneDiff,Int.reduceLE,Int.reduceLT,Int.reduceToNat,Int.reduceAdd,Int.reduceSub,Int.reduceMul,Int.reduceNeg,ht,hw2,hw3,htb,wc8,wc16,wc24,wc32,wc40,wc48,wc56]
  ·have h16:(65536≤((x:Nat):Int))=False:=by simp only [eq_iff_iff,iff_false];omega
   by_cases q8:256≤x
   ·have h8:(256≤((x:Nat):Int))=True:=by simp only [eq_iff_iff,iff_true];omega
    have hx8:x/256<256:=by omega
    have hw:=Qf0 hx8
    have h0:(0≤((x/256:Nat):Int))=True:=by simp only [eq_iff_iff,iff_true];exact Int.natCast_nonneg _
    have hb:blen x=blen (x/256)+8:=by have:=Qdq 8 x (by simp only [Nat.reducePow];omega);simp only [Nat.reducePow]at this;rw [this,show x/256=x/256 by omega]
    refine Qac (tb:=[]) 25 [.tmp 2] [0,2,4,8,14] mixed Tryd.func89 rfl (by kernel_rfl) (by kernel_rfl) (by kernel_rfl) (by kernel_rfl) ?_
    simp -implicitDefEqProofs only [go_sem,Nat.reduceAdd,Nat.reduceMul,Nat.reduceEqDiff,Nat.reduceLT,Nat.reduceLeDiff,Nat.reduceSub,Nat.reduceBEq,reduceIte,reduceCtorEq,Int.reduceEq,Int.reduceNe,Nat.reduceBneDiff,Int.reduceLE,Int.reduceLT,Int.reduceToNat,Int.reduceAdd,Int.reduceSub,Int.reduceMul,Int.reduceNeg,h32,h16,h8,Qg4,Qi7,Qqc,hw,h0,Int.toNat_natCast,wc8,wc16,wc24,wc32,wc40,wc48,wc56]
    generalize hT:ByteArray.mk _=T
    have hok:Qof T.data.toList=true:=by rw [←hT];kernel_rfl
    obtain⟨t,ht,htb⟩:=Qdm hok hx8
    clear hT
    have hw2:IntKind.i64.wrap (t.toNat:Int)=(t.toNat:Int):=wrapn (by have:=t.toNat_lt;omega)
    have hw3:IntKind.i64.wrap (8+(t.toNat:Int))=((blen x:Nat):Int):=by rw [Qai (by have:=t.toNat_lt;omega) (by have:=t.toNat_lt;omega),hb,←htb];omega
    rw [htb]at hw2 hw3
    simp -implicitDefEqProofs only [go_sem,Nat.reduceAdd,Nat.reduceMul,Nat.reduceEqDiff,Nat.reduceLT,Nat.reduceLeDiff,Nat.reduceSub,Nat.reduceBEq,reduceIte,reduceCtorEq,Int.reduceEq,Int.reduceNe,Nat.reduceBneDiff,Int.reduceLE,Int.reduceLT,Int.reduceToNat,Int.reduceAdd,Int.reduceSub,Int.reduceMul,Int.reduceNeg,ht,hw2,hw3,htb,wc8,wc16,wc24,wc32,wc40,wc48,wc56]
   ·have h8:(256≤((x:Nat):Int))=False:=by simp only [eq_iff_iff,iff_false];omega
    have hx8:x<256:=by omega
    have hw:=Qf0 hx8
    have h0:(0≤((x:Nat):Int))=True:=by simp only [eq_iff_iff,iff_true];exact Int.natCast_nonneg _
    have hb:blen x=blen (x)+0:=by rfl
    refine Qac (tb:=[]) 25 [.tmp 2] [0,2,4,8,14] mixed Tryd.func89 rfl (by kernel_rfl) (by kernel_rfl) (by kernel_rfl) (by kernel_rfl) ?_
    simp -implicitDefEqProofs only [go_sem,Nat.reduceAdd,Nat.reduceMul,Nat.reduceEqDiff,Nat.reduceLT,Nat.reduceLeDiff,Nat.reduceSub,Nat.reduceBEq,reduceIte,reduceCtorEq,Int.reduceEq,Int.reduceNe,Nat.reduceBneDiff,Int.reduceLE,Int.reduceLT,Int.reduceToNat,Int.reduceAdd,Int.reduceSub,Int.reduceMul,Int.reduceNeg,h32,h16,h8,Qg4,Qi7,Qqc,hw,h0,Int.toNat_natCast,wc8,wc16,wc24,wc32,wc40,wc48,wc56]
    generalize hT:ByteArray.mk _=T
    have hok:Qof T.data.toList=true:=by rw [←hT];kernel_rfl
    obtain⟨t,ht,htb⟩:=Qdm hok hx8
    clear hT
    have hw2:IntKind.i64.wrap (t.toNat:Int)=(t.toNat:Int):=wrapn (by have:=t.toNat_lt;omega)
    have hw3:IntKind.i64.wrap (0+(t.toNat:Int))=((blen x:Nat):Int):=by rw [Qai (by have:=t.toNat_lt;omega) (by have:=t.toNat_lt;omega),hb,←htb];omega
    rw [htb]at hw2 hw3
    simp -implicitDefEqProofs only [go_sem,Nat.reduceAdd,Nat.reduceMul,Nat.reduceEqDiff,Nat.reduceLT,Nat.reduceLeDiff,Nat.reduceSub,Nat.reduceBEq,reduceIte,reduceCtorEq,Int.reduceEq,Int.reduceNe,Nat.reduceBneDiff,Int.reduceLE,Int.reduceLT,Int.reduceToNat,Int.reduceAdd,Int.reduceSub,Int.reduceMul,Int.reduceNeg,ht,hw2,hw3,htb,wc8,wc16,wc24,wc32,wc40,wc48,wc56]
end Go.Proofs.YtciddhkfbgkejaaDoor

namespace Go.Proofs.YtciddhkfbgkejaaDoor
open Go.Vl Go.RowKit Go.Dg
theorem Q2u (x:Nat) (hx:x<18446744073709551616):Qae Tryd.prog 75 [.int .u64 (x:Int)] (.int .i64 ((64-blen x:Nat):Int)):=by
 have hb:=Qcx 64 x hx
 have hw:IntKind.i64.wrap (64-((blen x:Nat):Int))=((64-blen x:Nat):Int):=by rw [Qai (by omega) (by omega)];omega
 refine Qac (tb:=[]) 6 [.tmp 2] [0,2] mixed Tryd.func75 rfl (by kernel_rfl) (by kernel_rfl) (by kernel_rfl) (by kernel_rfl) ?_
 simp -implicitDefEqProofs only [go_sem,Nat.reduceAdd,Nat.reduceMul,Nat.reduceEqDiff,Nat.reduceLT,Nat.reduceLeDiff,Nat.reduceSub,Nat.reduceBEq,reduceIte,reduceCtorEq,Int.reduceEq,Int.reduceNe,Nat.reduceBneDiff,Int.reduceLE,Int.reduceLT,Int.reduceToNat,Int.reduceAdd,Int.reduceSub,Int.reduceMul,Int.reduceNeg]
 refine Qag _ _ _ _ _ _ _ _ _ (Zhq x hx) ?_
 simp -implicitDefEqProofs only [go_sem,Nat.reduceAdd,Nat.reduceMul,Nat.reduceEqDiff,Nat.reduceLT,Nat.reduceLeDiff,Nat.reduceSub,Nat.reduceBEq,reduceIte,reduceCtorEq,Int.reduceEq,Int.reduceNe,Nat.reduceBneDiff,Int.reduceLE,Int.reduceLT,Int.reduceToNat,Int.reduceAdd,Int.reduceSub,Int.reduceMul,Int.reduceNeg,hw]
theorem Q2v (m:Nat) (hl:(digs BW m).length≤1000000000):Qae Tryd.prog 51 [dw (digs BW m)] (.int .i64 (blen m:Int)):=by
 refine Qac (tb:=[]) 17 [.tmp 2] [0,2,5] mixed Tryd.func51 rfl (by kernel_rfl) (by kernel_rfl) (by kernel_rfl) (by kernel_rfl) ?_
 by_cases h0:m=0
 ·subst h0
  have h1:(((0:Nat):Int)==0)=true:=rfl
  simp -implicitDefEqProofs only [go_sem,Nat.reduceAdd,Nat.reduceMul,Nat.reduceEqDiff,Nat.reduceLT,Nat.reduceLeDiff,Nat.reduceSub,Nat.reduceBEq,reduceIte,reduceCtorEq,Int.reduceEq,Int.reduceNe,Nat.reduceBneDiff,Int.reduceLE,Int.reduceLT,Int.reduceToNat,Int.reduceAdd,Int.reduceSub,Int.reduceMul,Int.reduceNeg,dw,Qa8,List.map_nil,List.length_nil,h1,Qff]
  rfl
 ·have hp:0<(digs BW m).length:=List.length_pos_iff.2 (mt (Qbg BW_2).1 h0)
  have h1:(((digs BW m).length:Int)==0)=false:=by simp only [beq_eq_false_iff_ne,ne_eq];omega
  have ht:=Qdh BW_2 h0
  have hg:=Qaq (n:=m) (k:=(digs BW m).length-1) BW_2 (by omega)
  rw [Nat.mod_eq_of_lt ht.2]at hg
  have hb:blen m=blen (m/BW^((digs BW m).length-1))+64*((digs BW m).length-1):=Qsa h0 64 (by decide)
  generalize m/BW^((digs BW m).length-1)=t at*
  have htl:=Qcx 64 t ht.2
  generalize hL:(digs BW m).length=L at*
  have hw1:IntKind.i64.wrap ((L:Int)*64)=((L*64:Nat):Int):=by rw [Qai (by omega) (by omega)];omega
  have hw2:IntKind.i64.wrap ((L:Int)-1)=((L-1:Nat):Int):=by rw [Qai (by omega) (by omega)];omega
  have hw3:IntKind.i64.wrap (((L*64:Nat):Int)-((64-blen t:Nat):Int))=((blen m:Nat):Int):=by rw [Qai (by omega) (by omega),hb];omega
  have h2:(0≤((L-1:Nat):Int))=True:=by simp only [eq_iff_iff,iff_true];exact Int.natCast_nonneg _
  simp -implicitDefEqProofs only [go_sem,Nat.reduceAdd,Nat.reduceMul,Nat.reduceEqDiff,Nat.reduceLT,Nat.reduceLeDiff,Nat.reduceSub,Nat.reduceBEq,reduceIte,reduceCtorEq,Int.reduceEq,Int.reduceNe,Nat.reduceBneDiff,Int.reduceLE,Int.reduceLT,Int.reduceToNat,Int.reduceAdd,Int.reduceSub,Int.reduceMul,Int.reduceNeg,dw,List.length_map,hL,h1,hw1,hw2,h2,Qb2,hg,Int.toNat_natCast]
  refine Qag _ _ _ _ _ _ _ _ _ (Q2u t ht.2) ?_
  simp -implicitDefEqProofs only [go_sem,Nat.reduceAdd,Nat.reduceMul,Nat.reduceEqDiff,Nat.reduceLT,Nat.reduceLeDiff,Nat.reduceSub,Nat.reduceBEq,reduceIte,reduceCtorEq,Int.reduceEq,Int.reduceNe,Nat.reduceBneDiff,Int.reduceLE,Int.reduceLT,Int.reduceToNat,Int.reduceAdd,Int.reduceSub,Int.reduceMul,Int.reduceNeg,hw3]
end Go.Proofs.YtciddhkfbgkejaaDoor

namespace Go.Dg
abbrev WB:Nat:=18446744073709551616
theorem Zh8 (m:Nat) (hm:m<8):WB=256^(m+1)*256^(7-m):=by
 rw [←Nat.pow_add,show m+1+(7-m)=8 by omega]
theorem Qm3 (T b m j:Nat):256^(8*j+m+1)*T+b*256^(8*j+m)=WB^j*(256^(m+1)*T+b*256^m):=by
 have e:WB^j=256^(8*j):=by rw [Nat.pow_mul]
 rw [e,Nat.mul_add,←Nat.mul_assoc,←Nat.pow_add,Nat.mul_left_comm (256^(8*j)) b,←Nat.pow_add,Nat.add_assoc]
theorem Ql1 (T b m j:Nat) (hb:b<256) (hm:m<8):
  (256^(8*j+m+1)*T+b*256^(8*j+m))/WB^j%WB=256^(m+1)*(T%256^(7-m))+b*256^m:=by
 have hp:0<256^m:=Nat.pow_pos (by decide)
 have hlt:b*256^m<256^(m+1):=by rw [Nat.pow_succ,Nat.mul_comm];exact Nat.mul_lt_mul_of_pos_left hb hp
 rw [Qm3,Nat.mul_div_cancel_left _ (Nat.pow_pos (by decide)),Zh8 m hm]
 generalize b*256^m=r at*
 generalize 256^(m+1)=A at*
 generalize 256^(7-m)=q at*
 have hA:0<A:=by omega
 rw [Nat.mod_mul,Nat.mul_add_mod,Nat.mod_eq_of_lt hlt,Nat.mul_add_div hA,Nat.div_eq_of_lt hlt,Nat.add_zero,Nat.add_comm]
theorem Qqm (T b m j i:Nat) (hb:b<256) (hm:m<8) (hi:i≠j):
  (256^(8*j+m+1)*T+b*256^(8*j+m))/WB^i%WB=(256^(8*j+m+1)*T)/WB^i%WB:=by
 have hp:0<256^m:=Nat.pow_pos (by decide)
 have hlt:b*256^m<256^(m+1):=by rw [Nat.pow_succ,Nat.mul_comm];exact Nat.mul_lt_mul_of_pos_left hb hp
 have e2:=Qm3 T 0 m j
 rw [Nat.zero_mul,Nat.add_zero,Nat.zero_mul,Nat.add_zero]at e2
 rw [Qm3,e2]
 rcases Nat.lt_or_gt_of_ne hi with h|h
 ·obtain⟨d,rfl⟩:=Nat.exists_eq_add_of_lt h
  have e: ∀X:Nat,WB^(i+d+1)*X/WB^i%WB=0:=by
   intro X
   rw [show i+d+1=i+(d+1)by omega,Nat.pow_add,Nat.mul_assoc,Nat.mul_div_cancel_left _ (Nat.pow_pos (by decide)),Nat.pow_succ,Nat.mul_comm (WB^d),Nat.mul_assoc,Nat.mul_mod_right]
  rw [e,e]
 ·obtain⟨d,rfl⟩:=Nat.exists_eq_add_of_lt h
  have e: ∀X:Nat,WB^j*X/WB^(j+d+1)=X/WB/WB^d:=by
   intro X
   rw [show j+d+1=j+(1+d)by omega,Nat.pow_add,Nat.mul_div_mul_left _ _ (Nat.pow_pos (by decide)),Nat.pow_add,Nat.pow_one,Nat.div_div_eq_div_mul]
  rw [e,e]
  congr 2
  rw [Zh8 m hm]
  generalize b*256^m=r at*
  generalize 256^(m+1)=A at*
  generalize 256^(7-m)=q at*
  have hA:0<A:=by omega
  rw [←Nat.div_div_eq_div_mul,←Nat.div_div_eq_div_mul,Nat.mul_add_div hA,Nat.div_eq_of_lt hlt,Nat.add_zero,Nat.add_zero,Nat.mul_div_cancel_left _ hA]
end Go.Dg
