/-
  SW24, US3, SW20, De5, SW25 (merged for the claim).
-/
import Derived.Test.YtlpiamlgibomhaaGreatSW19
import Derived.Test.YtlpiamlgibomhaaGreatUW
import Derived.Test.YtlpiamlgibomhaaGreatDe3
set_option linter.unusedSimpArgs false
set_option linter.unusedVariables false
namespace Go.Proofs.YtlpiamlgibomhaaGreat
open Go.Vl Go.RowKit Go.Dg
theorem Zon (l:List Nat):((l.map fW).all fun e=>e.cells.length==1&&e.cells.all PV.okCell)=true:=by
 rw [List.all_map,List.all_eq_true];intro _ _;rfl
theorem Zcf (l:List Nat) (hl:0<l.length) (hl2:l.length≤1000000000):Qc9 Tryz.prog 181 [dw l] [] (.bs 302 1 0 l.length) [(302,wB l)]:=by
 have h0:l.isEmpty=false:=by cases l with|nil=>simp at hl|cons=>rfl
 have h1:(l.length*8≤140737488355328)=True:=by simp only [eq_iff_iff,iff_true];omega
 have h2:(l.length≤maxLen)=True:=by simp only [eq_iff_iff,iff_true];unfold maxLen;omega
 refine Qcx (tb:=[]) 8 [.tmp 2] [0,2,4] mixed Tryz.func181 rfl (by kernel_rfl) (by kernel_rfl) (by kernel_rfl) (by kernel_rfl) (by rfl) ?_
 simp -implicitDefEqProofs only [go_sem,Nat.reduceAdd,Nat.reduceMul,Nat.reduceEqDiff,Nat.reduceLT,Nat.reduceLeDiff,reduceCtorEq,dw,h0,List.length_map,h1,h2,Zon]
 refine Qb1 (.inl rfl) ?_
 simp -implicitDefEqProofs only [go_sem,Nat.reduceEqDiff,reduceCtorEq,List.length_map]
 refine Qal (θ:=[(302,302)]) rfl ?_ ?_
 ·simp [Qad,lkp,ren1,ren0]
 ·simp [Qak,lkp,Box.renames]
attribute [local go_sem high] Q6k
theorem Zmt (a k:Nat) (ha:(digs BW a).length≤1000000000) (hk:k≤1000000000):Qag Tryz.prog 178 [dw (digs BW a),.int .i64 (k:Int)] (dw (digs BW (a/2^k))):=by
 have hlt:a<BW^(digs BW a).length:=Qaz BW_2 a
 obtain⟨W,hW⟩: ∃W,W=k/64:=⟨_,rfl⟩
 obtain⟨r,hr⟩: ∃r,r=k%64:=⟨_,rfl⟩
 have hr64:r<64:=by rw [hr];exact Nat.mod_lt _ (by decide)
 have hkr:k=64*W+r:=by omega
 have d1:Int.tdiv (k:Int) 64=(W:Int):=by rw [Zeg,hW]
 have d2:Int.tmod (k:Int) 64=(r:Int):=by rw [Zeh,hr]
 have hWl:W≤1000000000:=by omega
 clear hW hr
 have q1:=wrapn (n:=W) (by omega)
 have hpk:2^k=BW^W*2^r:=by rw [hkr,Nat.pow_add,Nat.pow_mul]
 have hq:a/2^k=a/BW^W/2^r:=by rw [hpk,Nat.div_div_eq_div_mul]

 refine Qac (tb:=[(403,[],[(302,403)])]) 59 [.tmp 4] [0,1,4,5,6,7,8,16,22,24,25,26,39] mixed Tryz.func178 rfl (by kernel_rfl) (by kernel_rfl) (by kernel_rfl) (by kernel_rfl) ?_
 by_cases hN:(digs BW a).length≤W
 ·have g1:(((digs BW a).length:Int)≤(W:Int))=True:=by simp only [eq_iff_iff,iff_true];omega
  have e:digs BW (a/2^k)=[]:=by
   rw [hq,Qa7 BW_2 hN,Nat.zero_div,Qax]
  rw [e]
  simp -implicitDefEqProofs only [go_sem,Nat.reduceAdd,Nat.reduceMul,Nat.reduceEqDiff,Nat.reduceLT,Nat.reduceLeDiff,reduceCtorEq,Int.reduceEq,dw,List.length_map,d1,d2,q1,g1,List.map_nil]
 have g1:(((digs BW a).length:Int)≤(W:Int))=False:=by simp only [eq_iff_iff,iff_false];omega
 have hA0: ∀j,a/BW^(W+j)=a/BW^W/BW^j:=fun j=>by rw [Nat.pow_add,Nat.div_div_eq_div_mul]
 have hn0:(0≤(W:Int))=True:=by simp
 have hn1:((W:Int)≤((digs BW a).length:Int))=True:=by simp only [eq_iff_iff,iff_true];omega
 have hsl:(((digs BW a).map fW).take (digs BW a).length).drop W=(lows BW (a/BW^W) ((digs BW a).length-W)).map fW:=by
  rw [List.take_of_length_le (by simp),←List.map_drop]
  congr 1
  apply List.ext_getElem?
  intro j
  rw [List.getElem?_drop]
  by_cases hj:W+j<(digs BW a).length
  ·rw [Qao BW_2 hj,Qbp _ _ _ (by omega),hA0]
  ·rw [List.getElem?_eq_none (by omega),List.getElem?_eq_none (by rw [Qai];omega)]
 have hcell:=Zem (digs BW a)
 have hAlt:a/BW^W<BW^((digs BW a).length-W):=by
  refine Nat.div_lt_of_lt_mul ?_
  rw [←Nat.pow_add,show W+((digs BW a).length-W)=(digs BW a).length by omega]
  exact hlt
 have hll:=Qai (B:=BW) (a/BW^W) ((digs BW a).length-W)
 simp -implicitDefEqProofs only [go_sem,Nat.reduceAdd,Nat.reduceMul,Nat.reduceEqDiff,Nat.reduceLT,Nat.reduceLeDiff,reduceCtorEq,Int.reduceEq,dw,List.length_map,d1,d2,q1,g1,hn0,hn1,Int.toNat_natCast,hsl,hcell]
 refine Qbs _ _ _ _ _ _ _ _ _ (Zcf (lows BW (a/BW^W) ((digs BW a).length-W)) (by rw [hll];omega) (by rw [hll];omega)) ?_
 rw [hll]
 by_cases hr0:r=0
 ·subst hr0
  have g0:((0:Int)<(((0:Nat):Nat):Int))=False:=by simp
  have htk:((lows BW (a/BW^W) ((digs BW a).length-W)).map fW).take ((digs BW a).length-W)=(lows BW (a/BW^W) ((digs BW a).length-W)).map fW:=List.take_of_length_le (by simp [hll])
  simp -implicitDefEqProofs only [go_sem,Nat.reduceAdd,Nat.reduceMul,Nat.reduceEqDiff,Nat.reduceLT,Nat.reduceLeDiff,reduceCtorEq,wB,g0,List.length_map,hll,htk]
  refine Qaf _ _ _ _ _ _ _ _ _ (Qc6 (lows BW (a/BW^W) ((digs BW a).length-W)) (by rw [hll];simp [maxLen];omega)) ?_
  simp -implicitDefEqProofs only [go_sem,Nat.reduceAdd,Nat.reduceEqDiff,Nat.reduceLT,reduceCtorEq,dw]
  rw [Qbk BW_2,Nat.mod_eq_of_lt hAlt,hq,Nat.pow_zero,Nat.div_one]
 ·have g0:((0:Int)<((r:Nat):Int))=True:=by simp only [eq_iff_iff,iff_true];omega
  simp -implicitDefEqProofs only [go_sem,Nat.reduceAdd,Nat.reduceMul,Nat.reduceEqDiff,Nat.reduceLT,Nat.reduceLeDiff,reduceCtorEq,wB,g0]
  have hdig:=fun(j:Nat) (h:W+j<(digs BW a).length)=>Qao (n:=a) BW_2 h
  generalize hn:(digs BW a).length-W=n at*
  have hNn:(digs BW a).length=W+n:=by omega
  have k1:(((r:Nat):Int)<0)=False:=by simp only [eq_iff_iff,iff_false];omega
  have k2:min r 64=r:=by omega
  have k3:IntKind.i64.wrap (64-((r:Nat):Int))=((64-r:Nat):Int):=by rw [Qah (by omega) (by omega)];omega
  have k4:((((64-r:Nat):Nat):Int)<0)=False:=by simp only [eq_iff_iff,iff_false];omega
  have k5:min (64-r) 64=64-r:=by omega
  rw [hq]
  generalize hAA:a/BW^W=A at*
  refine Qas mixed (fun i:{i:Nat // i≤n}=>St.of [(0,dw (digs BW a)),(4,.nilS),(5,.int .i64 (W:Int)),(6,.int .i64 (r:Int)),(7,.bs 403 1 0 n),(24,.int .i64 (n:Int)),(25,.int .i64 (i.1:Int))]
   [(403,wB (mix BW (A/2^r) A n i.1))]) (fun i=>n-i.1) ⟨0,Nat.zero_le _⟩ ?_ ?_
  ·refine Qal (θ:=[(403,403)]) rfl ?_ ?_
   ·simp [Qad,lkp,ren1,ren0,dw]
   ·simp [Qak,lkp,Box.renames,Qg3]
  ·rintro⟨i,hi⟩
   have hml:=Qbf (B:=BW) (A/2^r) A n i
   by_cases hA:i<n
   ·have hA':((i:Int)<(n:Int))=True:=by simp;omega
    have hi0:(0≤(i:Int))=True:=by simp
    have hwk:=Qaj (a:=i) (by omega)
    have hgo:((mix BW (A/2^r) A n i).map fW)[i]? =some (PV.int .u64 ((A/BW^i%BW:Nat):Int)):=by
     rw [List.getElem?_map,Qcn _ _ _ _ _ hA,if_neg (Nat.lt_irrefl _)];rfl
    by_cases hB:i+1<n
    ·have hB':(((i+1:Nat):Int)<(n:Int))=True:=by simp only [eq_iff_iff,iff_true];omega
     have hsd:=Qy3 A i r (by omega) hr64
     have hset:=Qdx (B:=BW) (V:=A/2^r) (W:=A/2^r) (S:=A) (n:=n) (m:=i) (by decide) hA rfl rfl
     have hga:(digs BW a)[W+i+1]? =some (A/BW^(i+1)%BW):=by
      have h:=hdig (i+1) (by omega)
      rw [hA0 (i+1)]at h
      exact h
     have w1:=Qcf (a:=W) (b:=i) (by omega)
     have w2:=Qaj (a:=W+i) (by omega)
     have b1:(0≤((W+i+1:Nat):Int))=True:=by simp only [eq_iff_iff,iff_true];omega
     have hgo2:(((mix BW (A/2^r) A n i).map fW).set i (.int .u64 ((A/BW^i%BW/2^r:Nat):Int)))[i]? =some (PV.int .u64 ((A/BW^i%BW/2^r:Nat):Int)):=by
      rw [List.getElem?_set_self (by rw [List.length_map,hml];exact hA)]
     have e1:A/BW^i%BW/2^r%18446744073709551616=A/BW^i%BW/2^r:=Nat.mod_eq_of_lt (Nat.lt_of_le_of_lt (Nat.div_le_self _ _) (Nat.mod_lt _ (by decide)))
     simp -implicitDefEqProofs only [go_sem,Nat.reduceAdd,Nat.reduceMul,Nat.reduceEqDiff,Nat.reduceLT,Nat.reduceLeDiff,reduceIte,reduceCtorEq,wB,dw,hA',hi0,Int.toNat_natCast,List.length_map,hml,hgo,k1,k2,Qhw,hwk,hB',List.length_set,hgo2,w1,w2,b1,Qb8,hga,k3,k4,k5,Qkt,Nat.mod_mod,e1,List.set_set]
     refine⟨Qaa _ _ (by kernel_rfl),⟨i+1,hA⟩,by simp only;omega,Qal (θ:=[(403,403)]) rfl ?_ ?_⟩
     ·simp [Qad,lkp,ren1,ren0,dw]
     ·simp only [WB]at hsd
      rw [Qcs,hsd,hset]
      simp [Qak,lkp,Box.renames]
    ·have hB':(((i+1:Nat):Int)<(n:Int))=False:=by simp only [eq_iff_iff,iff_false];omega
     have hsd:=Zex A i r (by rw [show i+1=n by omega];exact Nat.div_eq_of_lt hAlt)
     have hset:=Qdx (B:=BW) (V:=A/2^r) (W:=A/2^r) (S:=A) (n:=n) (m:=i) (by decide) hA rfl rfl
     simp -implicitDefEqProofs only [go_sem,Nat.reduceAdd,Nat.reduceMul,Nat.reduceEqDiff,Nat.reduceLT,Nat.reduceLeDiff,reduceIte,reduceCtorEq,wB,dw,hA',hi0,Int.toNat_natCast,List.length_map,hml,hgo,k1,k2,Qhw,hwk,hB',List.length_set]
     refine⟨⟨i+1,hA⟩,by simp only;omega,Qal (θ:=[(403,403)]) rfl ?_ ?_⟩
     ·simp [Qad,lkp,ren1,ren0,dw]
     ·simp only [WB]at hsd
      rw [Qcs,hsd,hset]
      simp [Qak,lkp,Box.renames]
   ·have hA':((i:Int)<(n:Int))=False:=by simp;omega
    obtain rfl:i=n:=by omega
    have hm:mix BW (A/2^r) A i i=lows BW (A/2^r) i:=Qkn _ _ _ _
    have hl2:=Qai (B:=BW) (A/2^r) i
    have htk:((lows BW (A/2^r) i).map fW).take i=(lows BW (A/2^r) i).map fW:=List.take_of_length_le (by simp [hl2])
    simp -implicitDefEqProofs only [go_sem,Nat.reduceAdd,Nat.reduceMul,Nat.reduceEqDiff,Nat.reduceLT,Nat.reduceLeDiff,reduceCtorEq,wB,hA',hm,List.length_map,hl2,htk]
    refine Qaf _ _ _ _ _ _ _ _ _ (Qc6 (lows BW (A/2^r) i) (by rw [hl2];simp [maxLen];omega)) ?_
    simp -implicitDefEqProofs only [go_sem,Nat.reduceAdd,Nat.reduceEqDiff,Nat.reduceLT,reduceCtorEq,dw]
    rw [Qbk BW_2,Nat.mod_eq_of_lt (Nat.lt_of_le_of_lt (Nat.div_le_self _ _) hAlt)]
end Go.Proofs.YtlpiamlgibomhaaGreat

namespace Go.Vl
open Go.RowKit
variable {P:Program} {tb:Tab} {nt:Nat} {ks:List Nat} {ops:Array Oper} {base i:Nat} {rest:List Oper} {accs:List Acc} {draw:Bool} {k:List It} {Q:Exit→St→Prop} {st:St}
theorem Qab {dst:Option Tmp} {f f':FuncId} {args args':List PV} {es:List Eff} {l:Acc} {r:PV} (hs:Qag P f' args' r) (hf:f'=f) (ha:args'=args)
  (h:gops P tb nt ks ops base (i+1) rest (l::accs) draw k Q ((Qaq (if Qfs r then []else es) st).put dst r)):gcall P tb nt ks f args es l ops base i dst rest accs draw k Q st:=by
 subst hf;subst ha;exact⟨r,hs,h⟩
end Go.Vl

namespace Go.Proofs.YtlpiamlgibomhaaGreat
open Go.Vl Go.RowKit Go.Dg
theorem Qic {d:Nat} (h:d<BW):Qcz [d]=digs BW d:=by
 rw [Qkh BW_2 [d] (by simpa using h)];simp [val]
theorem Qx1 {m:Nat} (h:m<18446744073709551616):blen m≤64:=Qde 64 m h
theorem Qgw (n:Int):IntKind.u64.wrap n=n%18446744073709551616:=by simp [IntKind.wrap,IntKind.bits,IntKind.signed]
theorem Qen (n:Int) (h1: -9223372036854775808≤n) (h2:n≤9223372036854775807):Qag Tryz.prog 47 [.int .i64 n] (wPV n):=by
 obtain⟨m,hm⟩: ∃m:Nat,m=n.natAbs:=⟨_,rfl⟩
 have hml:m<18446744073709551616:=by omega
 have ht:=Qc6 [m] (by simp [maxLen])
 rw [Qic hml]at ht
 have hL:(digs BW m).length≤1000000:=Nat.le_trans ((Qam BW_2 m 1).2 (by simpa using hml)) (by decide)
 have hw:=fun neg=>Qi0 neg m hL
 have hb:blen n.natAbs≤64:=by rw [←hm];exact Qx1 hml
 by_cases hn:n<0
 ·have hn':(n<0)=True:=by simp [hn]
  have e1:IntKind.u64.wrap n=((18446744073709551616-m:Nat):Int):=by rw [Qgw];omega
  have e2:IntKind.u64.wrap (0-((18446744073709551616-m:Nat):Int))=(m:Int):=by rw [Qgw];omega
  have hw1:=hw true
  have e3:sv true m=n:=by simp [sv];omega
  rw [e3,Qhj,if_neg (by omega)]at hw1
  refine Qac (tb:=[]) 23 [.cell 2 31] [0,2,3,4,9] mixed Tryz.func47 rfl (by kernel_rfl) (by kernel_rfl) (by kernel_rfl) (by kernel_rfl) ?_
  repeat (first|(simp -implicitDefEqProofs only [go_sem,Nat.reduceAdd,Nat.reduceMul,Nat.reduceEqDiff,Nat.reduceLT,Nat.reduceLeDiff,reduceCtorEq,hn',e1,e2,nP,dw,wPV,List.map_cons,List.map_nil])|((with_reducible refine Qab (ht) ?_ ?_ ?_);(with_reducible rfl);rfl)|((with_reducible refine Qab (hw1) ?_ ?_ ?_);(with_reducible rfl);rfl))
 ·have hn':(n<0)=False:=by simp [hn]
  have e1:IntKind.u64.wrap n=(m:Int):=by rw [Qgw];omega
  have hw1:=hw false
  have e3:sv false m=n:=by simp [sv];omega
  rw [e3,Qhj,if_neg (by omega)]at hw1
  refine Qac (tb:=[]) 23 [.cell 2 31] [0,2,3,4,9] mixed Tryz.func47 rfl (by kernel_rfl) (by kernel_rfl) (by kernel_rfl) (by kernel_rfl) ?_
  repeat (first|(simp -implicitDefEqProofs only [go_sem,Nat.reduceAdd,Nat.reduceMul,Nat.reduceEqDiff,Nat.reduceLT,Nat.reduceLeDiff,reduceCtorEq,hn',e1,nP,dw,wPV,List.map_cons,List.map_nil])|((with_reducible refine Qab (ht) ?_ ?_ ?_);(with_reducible rfl);rfl)|((with_reducible refine Qab (hw1) ?_ ?_ ?_);(with_reducible rfl);rfl))
def Qdh (n:Int):PV:=if -9223372036854775808≤n∧n≤9223372036854775807 then .tup [.int .i64 n,.int .i64 0]else .tup [.int .i64 0,.int .i64 3]
theorem Zmu (neg:Bool) (s:ByteArray) (h:Qbg neg s.data.toList=true) (hs:s.size≤100000):Qag Tryz.prog 61 [.agg [.bool neg,.str s]] (Qdh (wnum neg s)):=by
 have hv:=Qfb neg s
 rw [h]at hv
 have ho:=Qmj neg s h (by omega)
 have hL:=Qfr s hs
 unfold wnum
 generalize bnum s.data.toList=m at*
 by_cases h0:m=0
 ·subst h0
  have e:Qdh (sv neg 0)= .tup [.int .i64 0,.int .i64 0]:=by cases neg<;>rfl
  have h1:(((0:Nat):Int)==0)=true:=rfl
  rw [e]
  refine Qac (tb:=[]) 53 [.tmp 2,.tmp 3] [0,1,2,3,4,7,10,15,39] mixed Tryz.func61 rfl (by kernel_rfl) (by kernel_rfl) (by kernel_rfl) (by kernel_rfl) ?_
  repeat (first|(simp -implicitDefEqProofs only [go_sem,Nat.reduceAdd,Nat.reduceMul,Nat.reduceEqDiff,Nat.reduceLT,Nat.reduceLeDiff,reduceCtorEq,nP,dw,Qax,List.map_nil,List.length_nil,h1])|((with_reducible refine Qab (hv) ?_ ?_ ?_);(with_reducible rfl);rfl)|((with_reducible refine Qab (ho) ?_ ?_ ?_);(with_reducible rfl);rfl))
 ·have hp:0<(digs BW m).length:=List.length_pos_iff.2 (mt (Qbh BW_2).1 h0)
  have h1:(((digs BW m).length:Int)==0)=false:=by simp only [beq_eq_false_iff_ne,ne_eq];omega
  have hlen:=Qam BW_2 m 1
  rw [Nat.pow_one]at hlen
  have hg:=Qao BW_2 hp
  rw [Nat.pow_zero,Nat.div_one]at hg
  by_cases hl:m<BW
  ·have hl1:((1:Int)<((digs BW m).length:Int))=False:=by have:=hlen.2 hl;simp only [eq_iff_iff,iff_false];omega
   rw [Nat.mod_eq_of_lt hl]at hg
   simp only [BW]at hl
   cases neg with
   |false=>
    by_cases hbig:9223372036854775808≤m
    ·have g1:((9223372036854775808:Int)≤(m:Int))=True:=by simp only [eq_iff_iff,iff_true];omega
     have e:Qdh (sv false m)= .tup [.int .i64 0,.int .i64 3]:=by rw [Qdh,if_neg];simp [sv];omega
     rw [e]
     refine Qac (tb:=[]) 53 [.tmp 2,.tmp 3] [0,1,2,3,4,7,10,15,39] mixed Tryz.func61 rfl (by kernel_rfl) (by kernel_rfl) (by kernel_rfl) (by kernel_rfl) ?_
     repeat (first|(simp -implicitDefEqProofs only [go_sem,Nat.reduceAdd,Nat.reduceMul,Nat.reduceEqDiff,Nat.reduceLT,Nat.reduceLeDiff,reduceCtorEq,nP,dw,List.length_map,h1,hl1,Qb8,hg,g1])|((with_reducible refine Qab (hv) ?_ ?_ ?_);(with_reducible rfl);rfl)|((with_reducible refine Qab (ho) ?_ ?_ ?_);(with_reducible rfl);rfl))
    ·have g1:((9223372036854775808:Int)≤(m:Int))=False:=by simp only [eq_iff_iff,iff_false];omega
     have g2:((9223372036854775808:Int)<(m:Int))=False:=by simp only [eq_iff_iff,iff_false];omega
     have e:Qdh (sv false m)= .tup [.int .i64 (m:Int),.int .i64 0]:=by rw [Qdh,if_pos (by simp [sv];omega)];rfl
     have w1:=wrapn (n:=m) (by omega)
     rw [e]
     refine Qac (tb:=[]) 53 [.tmp 2,.tmp 3] [0,1,2,3,4,7,10,15,39] mixed Tryz.func61 rfl (by kernel_rfl) (by kernel_rfl) (by kernel_rfl) (by kernel_rfl) ?_
     repeat (first|(simp -implicitDefEqProofs only [go_sem,Nat.reduceAdd,Nat.reduceMul,Nat.reduceEqDiff,Nat.reduceLT,Nat.reduceLeDiff,reduceCtorEq,nP,dw,List.length_map,h1,hl1,Qb8,hg,g1,g2,w1])|((with_reducible refine Qab (hv) ?_ ?_ ?_);(with_reducible rfl);rfl)|((with_reducible refine Qab (ho) ?_ ?_ ?_);(with_reducible rfl);rfl))
   |true=>
    by_cases hbig:9223372036854775808<m
    ·have g2:((9223372036854775808:Int)<(m:Int))=True:=by simp only [eq_iff_iff,iff_true];omega
     have e:Qdh (sv true m)= .tup [.int .i64 0,.int .i64 3]:=by rw [Qdh,if_neg];simp [sv];omega
     rw [e]
     refine Qac (tb:=[]) 53 [.tmp 2,.tmp 3] [0,1,2,3,4,7,10,15,39] mixed Tryz.func61 rfl (by kernel_rfl) (by kernel_rfl) (by kernel_rfl) (by kernel_rfl) ?_
     repeat (first|(simp -implicitDefEqProofs only [go_sem,Nat.reduceAdd,Nat.reduceMul,Nat.reduceEqDiff,Nat.reduceLT,Nat.reduceLeDiff,reduceCtorEq,nP,dw,List.length_map,h1,hl1,Qb8,hg,g2])|((with_reducible refine Qab (hv) ?_ ?_ ?_);(with_reducible rfl);rfl)|((with_reducible refine Qab (ho) ?_ ?_ ?_);(with_reducible rfl);rfl))
    ·have g2:((9223372036854775808:Int)<(m:Int))=False:=by simp only [eq_iff_iff,iff_false];omega
     have e:Qdh (sv true m)= .tup [.int .i64 (-(m:Int)),.int .i64 0]:=by rw [Qdh,if_pos (by simp [sv];omega)];rfl
     have w1:IntKind.i64.wrap (IntKind.u64.wrap (0-(m:Int)))= -(m:Int):=by
      rw [Qgw];simp [IntKind.wrap,IntKind.bits,IntKind.signed];omega
     rw [e]
     refine Qac (tb:=[]) 53 [.tmp 2,.tmp 3] [0,1,2,3,4,7,10,15,39] mixed Tryz.func61 rfl (by kernel_rfl) (by kernel_rfl) (by kernel_rfl) (by kernel_rfl) ?_
     repeat (first|(simp -implicitDefEqProofs only [go_sem,Nat.reduceAdd,Nat.reduceMul,Nat.reduceEqDiff,Nat.reduceLT,Nat.reduceLeDiff,reduceCtorEq,nP,dw,List.length_map,h1,hl1,Qb8,hg,g2,w1])|((with_reducible refine Qab (hv) ?_ ?_ ?_);(with_reducible rfl);rfl)|((with_reducible refine Qab (ho) ?_ ?_ ?_);(with_reducible rfl);rfl))
  ·have hl1:((1:Int)<((digs BW m).length:Int))=True:=by
    have:=mt hlen.1 hl;simp only [eq_iff_iff,iff_true];omega
   simp only [BW]at hl
   have e:Qdh (sv neg m)= .tup [.int .i64 0,.int .i64 3]:=by rw [Qdh,if_neg];cases neg<;>simp [sv]<;>omega
   rw [e]
   refine Qac (tb:=[]) 53 [.tmp 2,.tmp 3] [0,1,2,3,4,7,10,15,39] mixed Tryz.func61 rfl (by kernel_rfl) (by kernel_rfl) (by kernel_rfl) (by kernel_rfl) ?_
   repeat (first|(simp -implicitDefEqProofs only [go_sem,Nat.reduceAdd,Nat.reduceMul,Nat.reduceEqDiff,Nat.reduceLT,Nat.reduceLeDiff,reduceCtorEq,nP,dw,List.length_map,h1,hl1])|((with_reducible refine Qab (hv) ?_ ?_ ?_);(with_reducible rfl);rfl)|((with_reducible refine Qab (ho) ?_ ?_ ?_);(with_reducible rfl);rfl))
theorem Q4n (neg:Bool) (s:ByteArray) (h:Qbg neg s.data.toList=true) (hs:s.size≤100000):Qag Tryz.prog 141 [.agg [.bool neg,.str s]] (.int .i64 (wnum neg s).sign):=by
 have hv:=Qfb neg s
 rw [h]at hv
 have ho:=Qmj neg s h (by omega)
 have hg:=Qy5 neg (bnum s.data.toList)
 refine Qac (tb:=[]) 9 [.tmp 2] [0,1,2,5] mixed Tryz.func141 rfl (by kernel_rfl) (by kernel_rfl) (by kernel_rfl) (by kernel_rfl) ?_
 repeat (first|(simp -implicitDefEqProofs only [go_sem,Nat.reduceAdd,Nat.reduceMul,Nat.reduceEqDiff,Nat.reduceLT,Nat.reduceLeDiff,reduceCtorEq,nP,dw])|((with_reducible refine Qab (hv) ?_ ?_ ?_);(with_reducible rfl);rfl)|((with_reducible refine Qab (ho) ?_ ?_ ?_);(with_reducible rfl);rfl)|((with_reducible refine Qab (hg) ?_ ?_ ?_);(with_reducible rfl);rfl))
 rfl
theorem Zmv (neg:Bool) (s:ByteArray) (h:Qbg neg s.data.toList=true) (hs:s.size≤100000):Qag Tryz.prog 164 [.agg [.bool neg,.str s]] (.int .i64 (blen (bnum s.data.toList):Int)):=by
 have hv:=Qfb neg s
 rw [h]at hv
 have ho:=Qn5 s (by omega)
 rw [Qht h]at ho
 have hg:=Qrv (bnum s.data.toList) (Nat.le_trans (Qfr s hs) (by decide))
 refine Qac (tb:=[]) 10 [.tmp 2] [0,1,2,5] mixed Tryz.func164 rfl (by kernel_rfl) (by kernel_rfl) (by kernel_rfl) (by kernel_rfl) ?_
 repeat (first|(simp -implicitDefEqProofs only [go_sem,Nat.reduceAdd,Nat.reduceMul,Nat.reduceEqDiff,Nat.reduceLT,Nat.reduceLeDiff,reduceCtorEq,dw])|((with_reducible refine Qab (hv) ?_ ?_ ?_);(with_reducible rfl);rfl)|((with_reducible refine Qab (ho) ?_ ?_ ?_);(with_reducible rfl);rfl)|((with_reducible refine Qab (hg) ?_ ?_ ?_);(with_reducible rfl);rfl))
theorem Qx2 (an bn:Bool) (a b:ByteArray) (h1:Qbg an a.data.toList=true) (h2:Qbg bn b.data.toList=true) (ha:a.size≤100000) (hb:b.size≤100000):
  Qag Tryz.prog 89 [.agg [.bool an,.str a],.agg [.bool bn,.str b]] (.int .i64 (wnum an a-wnum bn b).sign):=by
 have hv:=Qpz an bn a b
 rw [h1,h2]at hv
 have hL1:=Qfr a ha
 have hL2:=Qfr b hb
 have hoa:=Qmj an a h1 (by omega)
 have hob:=Qmj bn b h2 (by omega)
 have hn:=Zk5 bn (bnum b.data.toList)
 obtain⟨n,m,hs,e,hm⟩:=Zdu an (!bn) (bnum a.data.toList) (bnum b.data.toList) (by omega) (by omega)
 have hg:=Qy5 n m
 have e2:sv (!bn) (bnum b.data.toList)= -(sv bn (bnum b.data.toList)):=by cases bn<;>simp [sv]
 have e3:sv n m=wnum an a-wnum bn b:=by rw [e,e2,wnum,wnum,Int.sub_eq_add_neg]
 rw [e3]at hg
 rw [Bool.true_and]at hv
 refine Qac (tb:=[]) 16 [.tmp 4] [0,1,2,3,4,8] mixed Tryz.func89 rfl (by kernel_rfl) (by kernel_rfl) (by kernel_rfl) (by kernel_rfl) ?_
 repeat (first|(simp -implicitDefEqProofs only [go_sem,Nat.reduceAdd,Nat.reduceMul,Nat.reduceEqDiff,Nat.reduceLT,Nat.reduceLeDiff,reduceCtorEq,nP,dw])|((with_reducible refine Qab (hv) ?_ ?_ ?_);(with_reducible rfl);rfl)|((with_reducible refine Qab (hoa) ?_ ?_ ?_);(with_reducible rfl);rfl)|((with_reducible refine Qab (hob) ?_ ?_ ?_);(with_reducible rfl);rfl)|((with_reducible refine Qab (hn) ?_ ?_ ?_);(with_reducible rfl);rfl)|((with_reducible refine Qab (hs) ?_ ?_ ?_);(with_reducible rfl);rfl)|((with_reducible refine Qab (hg) ?_ ?_ ?_);(with_reducible rfl);rfl)|(with_reducible exact Qaa _ _ (by kernel_rfl))|(with_reducible refine And.intro (Qaa _ _ (by kernel_rfl)) ?_))
end Go.Proofs.YtlpiamlgibomhaaGreat

namespace Go.Dg
theorem Qx3 {α:Type} (E L:List α) (i n:Nat) (z:α) (hL:L.length≤n) (hi:i+n≤E.length):
  (E.take i++List.replicate n z++E.drop (i+n)).take i++L++(E.take i++List.replicate n z++E.drop (i+n)).drop (i+L.length)=E.take i++(L++List.replicate (n-L.length) z)++E.drop (i+n):=by
 have hl:(E.take i).length=i:=by simp;omega
 rw [List.append_assoc (E.take i) (List.replicate n z)]
 generalize hT:E.take i=T at*
 generalize E.drop (i+n)=D
 have e1:(T++(List.replicate n z++D)).take i=T:=by rw [←hl];exact List.take_left
 have e2:(T++(List.replicate n z++D)).drop (i+L.length)=List.replicate (n-L.length) z++D:=by
  rw [←List.drop_drop,←hl,List.drop_left,List.drop_append]
  simp only [List.drop_replicate,List.length_replicate]
  rw [show L.length-n=0 by omega,List.drop_zero]
 rw [e1,e2]
 simp only [List.append_assoc]
theorem Zmw {b:Nat} (hb:b≠0):
  (digs WB (b*2^(64-blen (b/WB^((digs WB b).length-1))))).length=(digs WB b).length:=by
 have hp:0<(digs WB b).length:=List.length_pos_iff.2 (mt (Qbh (by decide)).1 hb)
 have ht:=Qdq (B:=WB) (by decide) hb
 obtain⟨K,hK⟩: ∃K,(digs WB b).length=K+1:=⟨(digs WB b).length-1,by omega⟩
 rw [hK,Nat.add_sub_cancel]at ht ⊢
 have h64:=Qde 64 _ ht.2
 have hlt:b/WB^K<2^blen (b/WB^K):=by
  rcases Nat.lt_or_ge (b/WB^K) (2^blen (b/WB^K))with h|h
  ·exact h
  ·have:=Qlg _ _ h;omega
 apply Nat.le_antisymm
 ·refine(Qam (by decide) _ _).2 ?_
  have h1:b<2^blen (b/WB^K)*WB^K:=(Nat.div_lt_iff_lt_mul (WBp K)).1 hlt
  have h2:=Nat.mul_lt_mul_of_pos_right h1 (show 0<2^(64-blen (b/WB^K))from Nat.pow_pos (by decide))
  rw [Nat.mul_right_comm,←Nat.pow_add,show blen (b/WB^K)+(64-blen (b/WB^K))=64 by omega]at h2
  rw [Nat.pow_succ,Nat.mul_comm (WB^K)]
  exact h2
 ·have h3:K<(digs WB b).length:=by omega
  have h4:=(Qca (by decide) b K).1 h3
  refine(Qca (by decide) _ K).2 ?_
  have h5:b/WB^K≤b*2^(64-blen (b/WB^K))/WB^K:=Nat.div_le_div_right (Nat.le_mul_of_pos_right b (Nat.pow_pos (by decide)))
  exact Nat.ne_of_gt (Nat.lt_of_lt_of_le (Nat.pos_of_ne_zero h4) h5)
end Go.Dg

namespace Go.Proofs.YtlpiamlgibomhaaGreat
open Go.Vl Go.RowKit Go.Dg
theorem Zjv (a b:Nat) (h:a<b) (ha:(digs BW a).length≤100000000) (hbl:(digs BW b).length≤100000000):Qag Tryz.prog 163 [dw (digs BW a),dw (digs BW b)] (.tup [dw (digs BW (a/b)),dw (digs BW (a%b))]):=by
 have hc:=Qdg a b (by omega) (by omega)
 have g1:(cmpW a b<0)=True:=by simp only [eq_iff_iff,iff_true];exact(Qd3 a b).2 h
 rw [Nat.div_eq_of_lt h,Nat.mod_eq_of_lt h,Qax]
 refine Qac (tb:=[]) 145 [.tmp 4,.tmp 5] [0,1,4,5,6,7,8,9,10,11,12,13,14,15,16,17,21,25,68,82,121] mixed Tryz.func163 rfl (by kernel_rfl) (by kernel_rfl) (by kernel_rfl) (by kernel_rfl) ?_
 repeat (first|(simp -implicitDefEqProofs only [go_sem,Nat.reduceAdd,Nat.reduceMul,Nat.reduceEqDiff,Nat.reduceLT,Nat.reduceLeDiff,reduceCtorEq,dw,g1,List.map_nil])|((with_reducible refine Qab (hc) ?_ ?_ ?_);(with_reducible rfl);rfl)|(with_reducible exact Qaa _ _ (by kernel_rfl))|(with_reducible refine And.intro (Qaa _ _ (by kernel_rfl)) ?_))
theorem Zcg (a b:Nat) (h:b≤a) (hb:0<b) (h1:b<18446744073709551616) (ha:(digs BW a).length≤100000000):Qag Tryz.prog 163 [dw (digs BW a),dw (digs BW b)] (.tup [dw (digs BW (a/b)),dw (digs BW (a%b))]):=by
 have hd:digs BW b=[b]:=by rw [Qe0 BW_2 (by omega),Nat.mod_eq_of_lt h1,Nat.div_eq_of_lt h1,Qax]
 have hc:=Qdg a b (by omega) (by rw [hd];simp)
 have g1:(cmpW a b<0)=False:=by simp only [eq_iff_iff,iff_false];rw [Qd3];omega
 have hs:=Zb9 a b hb h1 (by omega)
 have hr:a%b<BW:=Nat.lt_trans (Nat.mod_lt _ hb) h1
 have ht:=Qc6 [a%b] (by simp [maxLen])
 rw [Qic hr]at ht
 rw [hd]at hc ⊢
 have z1:(((0+1:Nat):Int)==1)=true:=rfl
 have z2:(((1:Nat):Int)==1)=true:=rfl
 refine Qac (tb:=[]) 145 [.tmp 4,.tmp 5] [0,1,4,5,6,7,8,9,10,11,12,13,14,15,16,17,21,25,68,82,121] mixed Tryz.func163 rfl (by kernel_rfl) (by kernel_rfl) (by kernel_rfl) (by kernel_rfl) ?_
 repeat (first|(simp -implicitDefEqProofs only [go_sem,Nat.reduceAdd,Nat.reduceMul,Nat.reduceEqDiff,Nat.reduceLT,Nat.reduceLeDiff,reduceCtorEq,dw,g1,List.map_nil,List.map_cons,z1,z2])|((with_reducible refine Qab (hc) ?_ ?_ ?_);(with_reducible rfl);rfl)|((with_reducible refine Qab (hs) ?_ ?_ ?_);(with_reducible rfl);rfl)|((with_reducible refine Qab (ht) ?_ ?_ ?_);(with_reducible rfl);rfl)|(with_reducible exact Qaa _ _ (by kernel_rfl))|(with_reducible refine And.intro (Qaa _ _ (by kernel_rfl)) ?_))
end Go.Proofs.YtlpiamlgibomhaaGreat
