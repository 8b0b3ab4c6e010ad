/-
  HA3, HA4, HA5, UW, HA6, Bx, HA7, HA8, Dt, HA9, Db, HA10, Bw, HW1, HW2 (merged for the claim).
-/
import Derived.Test.YtciddhkfbgkejaaGreatDoorDm
import Derived.Test.YtciddhkfbgkejaaGreatDoorUV
import Derived.Shelf.Spec.BitsCarry
set_option linter.unusedSimpArgs false
set_option linter.unusedVariables false
namespace Go.Proofs.YtciddhkfbgkejaaGreatDoor
open Go.Vl Go.RowKit Go.Dg
theorem Qpt (a b:Nat) (ha:(digs E9 a).length≤1000000000):Qad Tryz.prog 138 [di (digs E9 a),di (digs E9 b)] (.int .i64 (cmpN a b)):=by
 refine Qac (tb:=[]) 41 [.tmp 4] [0,1,4,5,10,15,20,31,40] mixed Tryz.func138 rfl (by kernel_rfl) (by kernel_rfl) (by kernel_rfl) (by kernel_rfl) ?_
 by_cases hl:(digs E9 a).length=(digs E9 b).length
 ·have hl':(((digs E9 a).length:Int) != ((digs E9 b).length:Int))=false:=by simp [hl]
  have hw:IntKind.i64.wrap (((digs E9 a).length:Int)-1)=((digs E9 a).length:Int)-1:=Qah (by omega) (by omega)
  simp -implicitDefEqProofs only [go_sem,Nat.reduceAdd,Nat.reduceMul,Nat.reduceEqDiff,Nat.reduceLT,Nat.reduceLeDiff,reduceCtorEq,Int.reduceNeg,di,List.length_map,hl',hw]
  refine Qar mixed (fun i:{i:Nat // i≤(digs E9 a).length∧a/E9^i=b/E9^i}=>St.of [(0,di (digs E9 a)),(1,di (digs E9 b)),(4,.int .i64 0),(5,.int .i64 ((i.1:Int)-1))] []) (fun i=>i.1)
   ⟨(digs E9 a).length,Nat.le_refl _,by rw [Qba E9_2 (Nat.le_refl _),hl,Qba E9_2 (Nat.le_refl _)]⟩ ?_ ?_
  ·exact Qa9 (by simp [Qaf,lkp,ren1,ren0,di])
  ·rintro⟨i,hi,he⟩
   cases i with
   |zero=>
    have h1:((0:Int)≤((0:Nat):Int)-1)=False:=by simp
    have hab:a=b:=by simpa using he
    subst hab
    simp -implicitDefEqProofs only [go_sem,Nat.reduceAdd,Nat.reduceMul,Nat.reduceEqDiff,Nat.reduceLT,Nat.reduceLeDiff,reduceCtorEq,Int.reduceNeg,di,h1,Q1j]
   |succ i=>
    have hs:(((i+1:Nat):Int)-1)=(i:Int):=by omega
    have h1:((0:Int)≤(i:Int))=True:=by simp
    have hga:=Qao E9_2 (show i<(digs E9 a).length by omega)
    have hgb:=Qao E9_2 (show i<(digs E9 b).length by omega)
    by_cases hlt:a/E9^i%E9<b/E9^i%E9
    ·have h2:(((a/E9^i%E9:Nat):Int)<((b/E9^i%E9:Nat):Int))=True:=by simp only [eq_iff_iff,iff_true];omega
     have hc:=Qpj (Qil (by decide) he hlt)
     simp -implicitDefEqProofs only [go_sem,Nat.reduceAdd,Nat.reduceMul,Nat.reduceEqDiff,Nat.reduceLT,Nat.reduceLeDiff,reduceCtorEq,Int.reduceNeg,di,hs,h1,Qep,hga,hgb,h2,hc]
     exact Qaa _ _ (by kernel_rfl)
    ·have h2:(((a/E9^i%E9:Nat):Int)<((b/E9^i%E9:Nat):Int))=False:=by simp only [eq_iff_iff,iff_false];omega
     by_cases hgt:b/E9^i%E9<a/E9^i%E9
     ·have h3:(((b/E9^i%E9:Nat):Int)<((a/E9^i%E9:Nat):Int))=True:=by simp only [eq_iff_iff,iff_true];omega
      have hc:=Qtp (Qil (by decide) he.symm hgt)
      simp -implicitDefEqProofs only [go_sem,Nat.reduceAdd,Nat.reduceMul,Nat.reduceEqDiff,Nat.reduceLT,Nat.reduceLeDiff,reduceCtorEq,Int.reduceNeg,di,hs,h1,Qep,hga,hgb,h2,h3,hc]
      exact⟨Qaa _ _ (by kernel_rfl),Qaa _ _ (by kernel_rfl)⟩
     ·have h3:(((b/E9^i%E9:Nat):Int)<((a/E9^i%E9:Nat):Int))=False:=by simp only [eq_iff_iff,iff_false];omega
      have hw2:IntKind.i64.wrap ((i:Int)-1)=(i:Int)-1:=Qah (by omega) (by omega)
      simp -implicitDefEqProofs only [go_sem,Nat.reduceAdd,Nat.reduceMul,Nat.reduceEqDiff,Nat.reduceLT,Nat.reduceLeDiff,reduceCtorEq,Int.reduceNeg,di,hs,h1,Qep,hga,hgb,h2,h3,hw2]
      refine⟨Qaa _ _ (by kernel_rfl),Qaa _ _ (by kernel_rfl),⟨i,by omega,Qoa (by decide) he (by omega)⟩,by simp,?_⟩
      exact Qa9 (by simp [Qaf,lkp,ren1,ren0,di])
 ·have hl':(((digs E9 a).length:Int) != ((digs E9 b).length:Int))=true:=by simp;omega
  by_cases hlt:(digs E9 a).length<(digs E9 b).length
  ·have h2:(((digs E9 a).length:Int)<((digs E9 b).length:Int))=True:=by simp;omega
   have hc:=Qpj (Qv1 E9_2 hlt)
   simp -implicitDefEqProofs only [go_sem,Nat.reduceAdd,Nat.reduceMul,Nat.reduceEqDiff,Nat.reduceLT,Nat.reduceLeDiff,reduceCtorEq,Int.reduceNeg,di,List.length_map,hl',h2,hc]
  ·have h2:(((digs E9 a).length:Int)<((digs E9 b).length:Int))=False:=by simp;omega
   have hc:=Qtp (Qv1 E9_2 (show(digs E9 b).length<(digs E9 a).length by omega))
   simp -implicitDefEqProofs only [go_sem,Nat.reduceAdd,Nat.reduceMul,Nat.reduceEqDiff,Nat.reduceLT,Nat.reduceLeDiff,reduceCtorEq,Int.reduceNeg,di,List.length_map,hl',h2,hc]
def rI (n:Int):PV:= .agg [.bool (decide (n<0)),di (digs E9 n.natAbs)]
theorem Qfw (neg:Bool) (m:Nat):Qad Tryz.prog 135 [.bool neg,di (digs E9 m)] (rI (if neg then -(m:Int)else m)):=by
 refine Qac (tb:=[]) 13 [.cell 4 76] [0,1,4] mixed Tryz.func135 rfl (by kernel_rfl) (by kernel_rfl) (by kernel_rfl) (by kernel_rfl) ?_
 by_cases hm:m=0
 ·subst hm
  cases neg
  ·simp -implicitDefEqProofs only [go_sem,Nat.reduceAdd,Nat.reduceMul,Nat.reduceEqDiff,Nat.reduceLT,Nat.reduceLeDiff,reduceCtorEq,di,rI,Qay,Int.natAbs_zero,Int.lt_irrefl]
   simp [Qay]
  ·simp -implicitDefEqProofs only [go_sem,Nat.reduceAdd,Nat.reduceMul,Nat.reduceEqDiff,Nat.reduceLT,Nat.reduceLeDiff,reduceCtorEq,di,rI,Qay]
   simp [Qay]
 ·have h1:((0:Int)<((digs E9 m).length:Int))=True:=by
   have:=mt (Qbj E9_2).1 hm
   simp only [eq_iff_iff,iff_true]
   have:=List.length_pos_iff.2 this
   omega
  cases neg
  ·simp -implicitDefEqProofs only [go_sem,Nat.reduceAdd,Nat.reduceMul,Nat.reduceEqDiff,Nat.reduceLT,Nat.reduceLeDiff,reduceCtorEq,di,rI,List.length_map,h1]
   have: ¬((m:Int)<0):=by omega
   simp [this]
  ·simp -implicitDefEqProofs only [go_sem,Nat.reduceAdd,Nat.reduceMul,Nat.reduceEqDiff,Nat.reduceLT,Nat.reduceLeDiff,reduceCtorEq,di,rI,List.length_map,h1]
   have: -(m:Int)<0:=by omega
   simp only [this,decide_true,Int.natAbs_neg,Int.natAbs_natCast]
end Go.Proofs.YtciddhkfbgkejaaGreatDoor

namespace Go.Proofs.YtciddhkfbgkejaaGreatDoor
open Go.Vl Go.RowKit Go.Dg
theorem Qpu (a b:Nat) (hba:b≤a) (ha:(digs E9 a).length≤1000000000):Qad Tryz.prog 139 [di (digs E9 a),di (digs E9 b)] (di (digs E9 (a-b))):=by
 refine Qac (tb:=[]) 41 [.tmp 4] [0,1,4,5,6,7,8,12,24,32] mixed Tryz.func139 rfl (by kernel_rfl) (by kernel_rfl) (by kernel_rfl) (by kernel_rfl) ?_
 simp -implicitDefEqProofs only [go_sem,Nat.reduceAdd,Nat.reduceMul,Nat.reduceEqDiff,Nat.reduceLT,Nat.reduceLeDiff,reduceCtorEq,di]
 refine Qar mixed (fun i:{i:Nat // i≤(digs E9 a).length}=>St.of [(0,di (digs E9 a)),(1,di (digs E9 b)),(4,.nilS),(5,.bs 7 1 0 i.1),(6,.int .i64 (bor E9 a b i.1:Int)),(7,.int .i64 (i.1:Int))]
  [(7,{els:=(lows E9 (a-b) i.1).map fI,esz:=1,ety:=3,fro:=0,live:=true,arr:=true})]) (fun i=>(digs E9 a).length-i.1) ⟨0,Nat.zero_le _⟩ ?_ ?_
 ·refine Qgc 5 7 1 3 rfl rfl rfl (by decide) [(7,7)] rfl ?_ ?_
  ·simp [Qaf,lkp,ren1,ren0,di,Qpk]
  ·simp [Qam,lkp,Box.renames,lows]
 ·rintro⟨i,hi⟩
  have h0:(0≤(i:Int))=True:=by simp
  have hll:=Qai (B:=E9) (a-b) i
  have hbl:=Qob (B:=E9) a b i
  have hbl2:=Qob (B:=E9) a b (i+1)
  have hst:=Qpl E9_2 hba i
  have hda:a/E9^i%E9<E9:=Nat.mod_lt _ (by decide)
  have hdb:b/E9^i%E9<E9:=Nat.mod_lt _ (by decide)
  have hdc:(a-b)/E9^i%E9<E9:=Nat.mod_lt _ (by decide)
  have hb1:((i+1)*8≤140737488355328)=True:=by simp;omega
  have hb2:(i+1≤maxLen)=True:=by simp [maxLen];omega
  have hwi:=Qaj (a:=i) (by omega)
  by_cases hA:i<(digs E9 a).length
  ·have hA':((i:Int)<((digs E9 a).length:Int))=True:=by simp;omega
   have hga:=Qao E9_2 hA
   have next: ∀s,Le s (St.of [(0,di (digs E9 a)),(1,di (digs E9 b)),(4,.nilS),(5,.bs 7 1 0 (i+1)),(6,.int .i64 (bor E9 a b (i+1):Int)),(7,.int .i64 ((i+1:Nat):Int))]
     [(7,{els:=(lows E9 (a-b) (i+1)).map fI,esz:=1,ety:=3,fro:=0,live:=true,arr:=true})])→
     ∃y:{i:Nat // i≤(digs E9 a).length},(digs E9 a).length-y.1<(digs E9 a).length-i∧
      Le s (St.of [(0,di (digs E9 a)),(1,di (digs E9 b)),(4,.nilS),(5,.bs 7 1 0 y.1),(6,.int .i64 (bor E9 a b y.1:Int)),(7,.int .i64 (y.1:Int))]
       [(7,{els:=(lows E9 (a-b) y.1).map fI,esz:=1,ety:=3,fro:=0,live:=true,arr:=true})]):=
    fun s hle=>⟨⟨i+1,hA⟩,by simp only;omega,hle⟩
   generalize hx:a/E9^i%E9=x at*
   generalize hy:b/E9^i%E9=y at*
   have hz:(a-b)/E9^i%E9+y+bor E9 a b i=x+E9*bor E9 a b (i+1):=hst
   have w1:IntKind.i64.wrap ((x:Int)-(bor E9 a b i:Int))=(x:Int)-(bor E9 a b i:Int):=Qah (by simp only [E9]at*;omega) (by simp only [E9]at*;omega)
   have w2:IntKind.i64.wrap ((x:Int)-(bor E9 a b i:Int)-(y:Int))=(x:Int)-(bor E9 a b i:Int)-(y:Int):=Qah (by simp only [E9]at*;omega) (by simp only [E9]at*;omega)
   have fin: ∀t:Int,t=(x:Int)-(bor E9 a b i:Int)-(y:Int)→(t<0→bor E9 a b (i+1)=1∧t+1000000000=(((a-b)/E9^i%E9:Nat):Int))∧(¬t<0→bor E9 a b (i+1)=0∧t=(((a-b)/E9^i%E9:Nat):Int)):=by
    intro t ht
    simp only [E9]at*
    constructor
    ·intro h;constructor<;>omega
    ·intro h;constructor<;>omega
   by_cases hB:i<(digs E9 b).length
   ·have hB':((i:Int)<((digs E9 b).length:Int))=True:=by simp;omega
    have hgb:=Qao E9_2 hB
    rw [hy]at hgb
    obtain⟨f1,f2⟩:=fin _ rfl
    by_cases hn:(x:Int)-(bor E9 a b i:Int)-(y:Int)<0
    ·have hn':((x:Int)-(bor E9 a b i:Int)-(y:Int)<0)=True:=by simp only [eq_iff_iff,iff_true];exact hn
     obtain⟨k1,k2⟩:=f1 hn
     have w3:IntKind.i64.wrap ((x:Int)-(bor E9 a b i:Int)-(y:Int)+1000000000)=(((a-b)/E9^i%E9:Nat):Int):=by rw [k2];exact wrapn (by simp only [E9]at*;omega)
     simp -implicitDefEqProofs only [go_sem,Nat.reduceAdd,Nat.reduceMul,Nat.reduceEqDiff,Nat.reduceLT,Nat.reduceLeDiff,reduceIte,reduceCtorEq,Nat.reduceBneDiff,di,List.length_map,hA',hB',h0,Qep,hga,hgb,w1,w2,w3,hn',hll,Qki,hb1,hb2,hwi]
     refine next _ (Qak (θ:=[(7,1203)]) rfl ?_ ?_)
     ·simp [Qaf,lkp,ren1,ren0,di,k1]
     ·simp [Qam,lkp,Box.renames,Qdf]
    ·have hn':((x:Int)-(bor E9 a b i:Int)-(y:Int)<0)=False:=by simp only [eq_iff_iff,iff_false];exact hn
     obtain⟨k1,k2⟩:=f2 hn
     simp -implicitDefEqProofs only [go_sem,Nat.reduceAdd,Nat.reduceMul,Nat.reduceEqDiff,Nat.reduceLT,Nat.reduceLeDiff,reduceIte,reduceCtorEq,Nat.reduceBneDiff,di,List.length_map,hA',hB',h0,Qep,hga,hgb,w1,w2,hn',hll,Qki,hb1,hb2,hwi]
     refine next _ (Qak (θ:=[(7,1203)]) rfl ?_ ?_)
     ·simp [Qaf,lkp,ren1,ren0,di,k1]
     ·simp [Qam,lkp,Box.renames,Qdf,k2]
   ·have hB':((i:Int)<((digs E9 b).length:Int))=False:=by simp;omega
    have hy0:y=0:=by rw [←hy,Qba E9_2 (Nat.le_of_not_lt hB),Nat.zero_mod]
    obtain⟨f1,f2⟩:=fin ((x:Int)-(bor E9 a b i:Int)) (by omega)
    by_cases hn:(x:Int)-(bor E9 a b i:Int)<0
    ·have hn':((x:Int)-(bor E9 a b i:Int)<0)=True:=by simp only [eq_iff_iff,iff_true];exact hn
     obtain⟨k1,k2⟩:=f1 hn
     have w3:IntKind.i64.wrap ((x:Int)-(bor E9 a b i:Int)+1000000000)=(((a-b)/E9^i%E9:Nat):Int):=by rw [k2];exact wrapn (by simp only [E9]at*;omega)
     simp -implicitDefEqProofs only [go_sem,Nat.reduceAdd,Nat.reduceMul,Nat.reduceEqDiff,Nat.reduceLT,Nat.reduceLeDiff,reduceIte,reduceCtorEq,Nat.reduceBneDiff,di,List.length_map,hA',hB',h0,Qep,hga,w1,w3,hn',hll,Qki,hb1,hb2,hwi]
     refine next _ (Qak (θ:=[(7,1203)]) rfl ?_ ?_)
     ·simp [Qaf,lkp,ren1,ren0,di,k1]
     ·simp [Qam,lkp,Box.renames,Qdf]
    ·have hn':((x:Int)-(bor E9 a b i:Int)<0)=False:=by simp only [eq_iff_iff,iff_false];exact hn
     obtain⟨k1,k2⟩:=f2 hn
     simp -implicitDefEqProofs only [go_sem,Nat.reduceAdd,Nat.reduceMul,Nat.reduceEqDiff,Nat.reduceLT,Nat.reduceLeDiff,reduceIte,reduceCtorEq,Nat.reduceBneDiff,di,List.length_map,hA',hB',h0,Qep,hga,w1,hn',hll,Qki,hb1,hb2,hwi]
     refine next _ (Qak (θ:=[(7,1203)]) rfl ?_ ?_)
     ·simp [Qaf,lkp,ren1,ren0,di,k1]
     ·simp [Qam,lkp,Box.renames,Qdf,k2]
  ·have hA':((i:Int)<((digs E9 a).length:Int))=False:=by simp;omega
   have htk:((lows E9 (a-b) i).map fI).take i=(lows E9 (a-b) i).map fI:=List.take_of_length_le (by simp [hll])
   have hlt:a-b<E9^i:=Nat.lt_of_le_of_lt (Nat.sub_le _ _) ((Qal E9_2 a i).1 (by omega))
   simp -implicitDefEqProofs only [go_sem,Nat.reduceAdd,Nat.reduceMul,Nat.reduceEqDiff,Nat.reduceLT,Nat.reduceLeDiff,reduceIte,reduceCtorEq,di,List.length_map,hA',hll,htk]
   refine Qag _ _ _ _ _ _ _ _ _ (Qju (lows E9 (a-b) i) (by rw [hll];simp [maxLen];omega)) ?_
   simp -implicitDefEqProofs only [go_sem,Nat.reduceAdd,Nat.reduceEqDiff,Nat.reduceLT,reduceCtorEq,di,List.length_map]
   rw [Qbo E9_2,Nat.mod_eq_of_lt hlt]
end Go.Proofs.YtciddhkfbgkejaaGreatDoor

namespace Go.Proofs.YtciddhkfbgkejaaGreatDoor
open Go.Vl Go.RowKit Go.Dg
theorem Qrp (n:Nat):lows E9 0 n=List.replicate n 0:=by
 apply List.ext_getElem?
 intro k
 by_cases h:k<n
 ·rw [Qbv _ _ _ h];simp [h]
 ·rw [List.getElem?_eq_none (by rw [Qai];omega),List.getElem?_eq_none (by simp;omega)]
theorem Qwa (l:List Nat) (i:Nat) (d:Nat):(l.map fI).set i (PV.int .i64 (d:Int))=(l.set i d).map fI:=(List.map_set (f:=fI)).symm
theorem Zhh (l:List Nat) (k:Nat):(l.map fI)[k]? =l[k]?.map fun d:Nat=>PV.int .i64 (d:Int):=List.getElem?_map
theorem Qwb (a b:Nat) (hab:(digs E9 a).length+(digs E9 b).length≤1000000000):Qad Tryz.prog 140 [di (digs E9 a),di (digs E9 b)] (di (digs E9 (a*b))):=by
 refine Qac (tb:=[]) 66 [.tmp 4] [0,1,4,5,6,7,8,9,19,29,43] mixed Tryz.func140 rfl (by kernel_rfl) (by kernel_rfl) (by kernel_rfl) (by kernel_rfl) ?_
 have hw0:=Qcm (a:=(digs E9 a).length) (b:=(digs E9 b).length) (by omega)
 have hn0:((0:Int)≤(((digs E9 a).length+(digs E9 b).length:Nat):Int))=True:=by simp only [eq_iff_iff,iff_true];omega
 have hn1:((8:Nat):Int)*(((digs E9 a).length+(digs E9 b).length:Nat):Int)≤281474976710656:=by omega
 have hn2:(((digs E9 a).length+(digs E9 b).length:Nat):Int)≤9223372036854775807:=by omega
 simp -implicitDefEqProofs only [go_sem,Nat.reduceAdd,Nat.reduceMul,Nat.reduceEqDiff,Nat.reduceLT,Nat.reduceLeDiff,reduceCtorEq,di,List.length_map,hw0,hn0,hn1,hn2]
 have hrep:List.replicate ((digs E9 a).length+(digs E9 b).length) (PV.int .i64 0)=(lows E9 0 ((digs E9 a).length+(digs E9 b).length)).map fI:=by rw [Qrp];simp
 rw [hrep]
 generalize hla:(digs E9 a).length=la at*
 generalize hlb:(digs E9 b).length=lb at*
 refine Qar mixed (fun i:{i:Nat // i≤la}=>St.of [(0,di (digs E9 a)),(1,di (digs E9 b)),(4,.nilS),(5,.bs 105 1 0 (la+lb)),(6,.int .i64 (i.1:Int))]
  [(105,{els:=(lows E9 (a%E9^i.1*b) (la+lb)).map fI,esz:=1,ety:=3,fro:=0,live:=true,arr:=true})]) (fun i=>la-i.1) ⟨0,Nat.zero_le _⟩ ?_ ?_
 ·refine Qak (θ:=[(105,105)]) rfl ?_ ?_
  ·simp [Qaf,lkp,ren1,ren0,di]
  ·simp [Qam,lkp,Box.renames,Nat.mod_one]
 ·rintro⟨i,hi⟩
  by_cases hA:i<la
  ·have hA':((i:Int)<(la:Int))=True:=by simp;omega
   have h0:(0≤(i:Int))=True:=by simp
   have hga:=Qao E9_2 (show i<(digs E9 a).length by omega)
   have hblt:b<E9^lb:=by rw [←hlb];exact Qav E9_2 b
   simp -implicitDefEqProofs only [go_sem,Nat.reduceAdd,Nat.reduceMul,Nat.reduceEqDiff,Nat.reduceLT,Nat.reduceLeDiff,reduceCtorEq,di,List.length_map,hla,hA']
   generalize hS:a%E9^i*b=S at*
   generalize hx:a/E9^i%E9=x at*
   have hxl:x<E9:=by rw [←hx];exact Nat.mod_lt _ (by decide)
   refine Qar mixed (fun k:{k:Nat // k≤lb+1}=>St.of [(0,di (digs E9 a)),(1,di (digs E9 b)),(4,.nilS),(5,.bs 105 1 0 (la+lb)),(6,.int .i64 (i:Int)),(7,.int .i64 (mulC E9 S x i b k.1:Int)),(8,.int .i64 (k.1:Int))]
    [(105,{els:=(mix E9 (mulV E9 S x i b k.1) S (la+lb) (i+k.1)).map fI,esz:=1,ety:=3,fro:=0,live:=true,arr:=true})]) (fun k=>lb+1-k.1) ⟨0,Nat.zero_le _⟩ ?_ ?_
   ·refine Qak (θ:=[(105,105)]) rfl ?_ ?_
    ·simp [Qaf,lkp,ren1,ren0,di,Ql4]
    ·simp only [Qam,lkp,Box.renames,Ql3,Nat.add_zero,and_self,and_true,true_and,if_true]
     rw [Qem (by decide) rfl]
     exact .inl rfl
   ·rintro⟨k,hk⟩
    have hcl:=Q1l (B:=E9) (S:=S) (i:=i) (b:=b) (k:=k) (by decide) hxl
    obtain⟨hs1,hs2⟩:(S/E9^(i+k)%E9+mulC E9 S x i b k+x*(b/E9^k%E9))%1000000000=mulV E9 S x i b (k+1)/E9^(i+k)%E9∧(S/E9^(i+k)%E9+mulC E9 S x i b k+x*(b/E9^k%E9))/1000000000=mulC E9 S x i b (k+1):=Qpm (B:=E9) (by decide) S x i b k
    have hk0:(0≤(k:Int))=True:=by simp
    have hd1:S/E9^(i+k)%E9<E9:=Nat.mod_lt _ (by decide)
    have hd2:b/E9^k%E9<E9:=Nat.mod_lt _ (by decide)
    have hend:k=lb+1→mulC E9 S x i b k=0:=by
     rintro rfl;rw [←hS,←hx];exact Q9m (by decide) hblt
    have hwik:=Qcm (a:=i) (b:=k) (by omega)
    have hik0:((0:Int)≤((i+k:Nat):Int))=True:=by simp only [eq_iff_iff,iff_true];omega
    have hwk:=Qaj (a:=k) (by omega)
    have hmul:x*(b/E9^k%E9)≤999999999*999999999:=Nat.mul_le_mul (by simp only [E9]at*;omega) (by simp only [E9]at*;omega)
    have hml:=Qbf (B:=E9) (mulV E9 S x i b k) S (la+lb) (i+k)
    by_cases hmore:k<lb∨0<mulC E9 S x i b k
    ·have hklb:k≤lb:=by
      rcases hmore with h|h
      ·omega
      ·rcases Nat.lt_or_ge lb k with h'|h'
       ·have:=hend (by omega);omega
       ·exact h'
     have hin:i+k<la+lb:=by omega
     have hin':(((i+k:Nat):Int)<((la+lb:Nat):Int))=True:=by simp only [eq_iff_iff,iff_true];omega
     have hget:(mix E9 (mulV E9 S x i b k) S (la+lb) (i+k))[i+k]? =some (S/E9^(i+k)%E9):=by rw [Qcx _ _ _ _ _ hin,if_neg (Nat.lt_irrefl _)]
     have hset:=Qd4 (B:=E9) (S:=S) (by decide) hin (Qv2 (B:=E9) S x i b k) rfl
     have next: ∀s,Le s (St.of [(0,di (digs E9 a)),(1,di (digs E9 b)),(4,.nilS),(5,.bs 105 1 0 (la+lb)),(6,.int .i64 (i:Int)),(7,.int .i64 (mulC E9 S x i b (k+1):Int)),(8,.int .i64 ((k+1:Nat):Int))]
       [(105,{els:=(mix E9 (mulV E9 S x i b (k+1)) S (la+lb) (i+k+1)).map fI,esz:=1,ety:=3,fro:=0,live:=true,arr:=true})])→
       ∃y:{k:Nat // k≤lb+1},lb+1-y.1<lb+1-k∧Le s (St.of [(0,di (digs E9 a)),(1,di (digs E9 b)),(4,.nilS),(5,.bs 105 1 0 (la+lb)),(6,.int .i64 (i:Int)),(7,.int .i64 (mulC E9 S x i b y.1:Int)),(8,.int .i64 (y.1:Int))]
        [(105,{els:=(mix E9 (mulV E9 S x i b y.1) S (la+lb) (i+y.1)).map fI,esz:=1,ety:=3,fro:=0,live:=true,arr:=true})]):=
      fun s h=>⟨⟨k+1,by omega⟩,by simp only;omega,h⟩
     have w1:=Qcm (a:=S/E9^(i+k)%E9) (b:=mulC E9 S x i b k) (by simp only [E9]at*;omega)
     by_cases hB:k<lb
     ·have hB':((k:Int)<(lb:Int))=True:=by simp;omega
      have hgb:=Qao E9_2 (show k<(digs E9 b).length by omega)
      have w2:IntKind.i64.wrap ((x:Int)*((b/E9^k%E9:Nat):Int))=((x*(b/E9^k%E9):Nat):Int):=by
       rw [←Int.natCast_mul];exact wrapn (by omega)
      have w3:=Qcm (a:=S/E9^(i+k)%E9+mulC E9 S x i b k) (b:=x*(b/E9^k%E9)) (by simp only [E9]at*;omega)
      have w4:=wrapn (n:=(S/E9^(i+k)%E9+mulC E9 S x i b k+x*(b/E9^k%E9))/1000000000) (by simp only [E9]at*;omega)
      simp -implicitDefEqProofs only [go_sem,Nat.reduceAdd,Nat.reduceMul,Nat.reduceEqDiff,Nat.reduceLT,Nat.reduceLeDiff,reduceIte,reduceCtorEq,Int.reduceEq,di,List.length_map,hla,hlb,hA',hB',h0,hk0,Qep,Zhh,hga,hgb,hget,w1,w2,w3,w4,Qpr,Qps,hwik,hik0,hin',hwk,hml,Qwa,hs1,hset]
      refine⟨Qaa _ _ (by kernel_rfl),next _ (Qak (θ:=[(105,105)]) rfl ?_ ?_)⟩
      ·simp [Qaf,lkp,ren1,ren0,di,hs2]
      ·simp [Qam,lkp,Box.renames]
     ·have hB':((k:Int)<(lb:Int))=False:=by simp;omega
      have hC:=hmore.resolve_left hB
      have hC':((0:Int)<(mulC E9 S x i b k:Int))=True:=by simp;omega
      have hb0:b/E9^k%E9=0:=by rw [Qba E9_2 (by omega),Nat.zero_mod]
      rw [hb0,Nat.mul_zero,Nat.add_zero]at hs1 hs2
      have w4:=wrapn (n:=(S/E9^(i+k)%E9+mulC E9 S x i b k)/1000000000) (by simp only [E9]at*;omega)
      simp -implicitDefEqProofs only [go_sem,Nat.reduceAdd,Nat.reduceMul,Nat.reduceEqDiff,Nat.reduceLT,Nat.reduceLeDiff,reduceIte,reduceCtorEq,Int.reduceEq,di,List.length_map,hla,hlb,hA',hB',hC',h0,hk0,Qep,Zhh,hga,hget,w1,w4,Qpr,Qps,hwik,hik0,hin',hwk,hml,Qwa,hs1,hset]
      refine next _ (Qak (θ:=[(105,105)]) rfl ?_ ?_)
      ·simp [Qaf,lkp,ren1,ren0,di,hs2]
      ·simp [Qam,lkp,Box.renames]
    ·have hB':((k:Int)<(lb:Int))=False:=by simp;omega
     have hC0:mulC E9 S x i b k=0:=by omega
     have hC':((0:Int)<(mulC E9 S x i b k:Int))=False:=by simp;omega
     have hwi:=Qaj (a:=i) (by omega)
     have hV:mulV E9 S x i b k=a%E9^(i+1)*b:=by
      rw [←hS,←hx];exact Ql5 a i b k (Nat.lt_of_lt_of_le hblt (Nat.pow_le_pow_right (by decide) (by omega)))
     have hmx:=Qem (B:=E9) (V:=mulV E9 S x i b k) (S:=S) (n:=la+lb) (m:=i+k) (by decide) (by have:=Qle (B:=E9) S x i b k;omega)
     rw [hV]at hmx
     simp -implicitDefEqProofs only [go_sem,Nat.reduceAdd,Nat.reduceMul,Nat.reduceEqDiff,Nat.reduceLT,Nat.reduceLeDiff,reduceIte,reduceCtorEq,di,List.length_map,hla,hlb,hA',hB',hC',hwi]
     refine⟨⟨i+1,hA⟩,by simp only;omega,Qak (θ:=[(105,105)]) rfl ?_ ?_⟩
     ·simp [Qaf,lkp,ren1,ren0,di]
     ·simp [Qam,lkp,Box.renames,hmx,hV]
  ·have hA':((i:Int)<(la:Int))=False:=by simp;omega
   have hlt:a<E9^i:=(Qal E9_2 a i).1 (by omega)
   have hblt:b<E9^lb:=by rw [←hlb];exact Qav E9_2 b
   have hil:i=la:=by omega
   have hll:=Qai (B:=E9) (a%E9^i*b) (la+lb)
   have htk:((lows E9 (a%E9^i*b) (la+lb)).map fI).take (la+lb)=(lows E9 (a%E9^i*b) (la+lb)).map fI:=List.take_of_length_le (by simp [hll])
   simp -implicitDefEqProofs only [go_sem,Nat.reduceAdd,Nat.reduceMul,Nat.reduceEqDiff,Nat.reduceLT,Nat.reduceLeDiff,reduceIte,reduceCtorEq,di,List.length_map,hla,hA',hll,htk]
   refine Qag _ _ _ _ _ _ _ _ _ (Qju (lows E9 (a%E9^i*b) (la+lb)) (by rw [hll];simp [maxLen];omega)) ?_
   simp -implicitDefEqProofs only [go_sem,Nat.reduceAdd,Nat.reduceEqDiff,Nat.reduceLT,reduceCtorEq,di,List.length_map]
   rw [Qbo E9_2,Nat.mod_eq_of_lt hlt,Nat.mod_eq_of_lt]
   rw [Nat.pow_add,←hil]
   rcases Nat.eq_zero_or_pos b with rfl|hb
   ·rw [Nat.mul_zero];exact Nat.mul_pos (Nat.pow_pos (by decide)) (Nat.pow_pos (by decide))
   ·exact Nat.lt_of_lt_of_le (Nat.mul_lt_mul_of_pos_right hlt hb) (Nat.mul_le_mul_left _ (Nat.le_of_lt hblt))
theorem Qwc {n:Nat} (h0:n≠0) (h:n<E9):digs E9 n=[n]:=by
 rw [Qfe E9_2 h0,Nat.mod_eq_of_lt h,Nat.div_eq_of_lt h,Qay]
theorem Qwd (a n:Nat) (hn:n<E9) (ha:(digs E9 a).length≤100000000):Qad Tryz.prog 189 [di (digs E9 a),.int .i64 (n:Int)] (di (digs E9 (a*n))):=by
 refine Qac (tb:=[]) 11 [.tmp 4] [0,1,4,6] mixed Tryz.func189 rfl (by kernel_rfl) (by kernel_rfl) (by kernel_rfl) (by kernel_rfl) ?_
 by_cases h0:n=0
 ·subst h0
  have h1:(((0:Nat):Int)==0)=true:=rfl
  simp -implicitDefEqProofs only [go_sem,Nat.reduceAdd,Nat.reduceMul,Nat.reduceEqDiff,Nat.reduceLT,Nat.reduceLeDiff,reduceCtorEq,di,h1]
  simp [Qay]
 ·have h1:((n:Int)==0)=false:=by simp;omega
  simp -implicitDefEqProofs only [go_sem,Nat.reduceAdd,Nat.reduceMul,Nat.reduceEqDiff,Nat.reduceLT,Nat.reduceLeDiff,reduceIte,reduceCtorEq,di,h1]
  have:=Qwb a n (by rw [Qwc h0 hn];simp;omega)
  rw [Qwc h0 hn]at this
  refine Qag _ _ _ _ _ _ _ _ _ this ?_
  simp -implicitDefEqProofs only [go_sem,Nat.reduceAdd,Nat.reduceEqDiff,Nat.reduceLT,reduceCtorEq,di]
end Go.Proofs.YtciddhkfbgkejaaGreatDoor

namespace Go.Vl
open Go.RowKit
theorem Zrq (P:Program) (t:TypeId) (xs ys:List PV):Qbz .eql t P (.agg xs) (.agg ys)=match Qc2 P t with
  |some sh=>match Qbm sh xs ys with
   |some b=>some (.bool b)
   |none=>none
  |none=>none:=by
 unfold Qbz
 cases Qc2 P t with
 |none=>rfl
 |some sh=>simp only;cases Qbm sh xs ys<;>rfl
theorem Zrr (P:Program) (t:TypeId) (xs ys:List PV):Qbz .neq t P (.agg xs) (.agg ys)=match Qc2 P t with
  |some sh=>match Qbm sh xs ys with
   |some b=>some (.bool !b)
   |none=>none
  |none=>none:=by
 unfold Qbz
 cases Qc2 P t with
 |none=>rfl
 |some sh=>simp only;cases Qbm sh xs ys<;>rfl
attribute [go_sem] Zrq Zrr
end Go.Vl

namespace Go.Proofs.YtciddhkfbgkejaaGreatDoor
open Go.Vl Go.RowKit Go.Dg
theorem Qog {a b:Nat} (h:a≤b):(digs E9 a).length≤(digs E9 b).length:=
 (Qal E9_2 a _).2 (Nat.lt_of_le_of_lt h (Qav E9_2 b))
theorem Q90 {m:Nat} (h:m≠0):0<(digs E9 m).length:=List.length_pos_iff.2 (mt (Qbj E9_2).1 h)
theorem Qrq (n:Int):Qad Tryz.prog 104 [rI n] (rI (-n)):=by
 refine Qac (tb:=[]) 9 [.cell 2 76] [0,1,2] mixed Tryz.func104 rfl (by kernel_rfl) (by kernel_rfl) (by kernel_rfl) (by kernel_rfl) ?_
 simp -implicitDefEqProofs only [go_sem,Nat.reduceAdd,Nat.reduceMul,Nat.reduceEqDiff,Nat.reduceLT,Nat.reduceLeDiff,reduceCtorEq,rI,di]
 refine Qag _ _ _ _ _ _ _ _ _ (Qfw _ n.natAbs) ?_
 have e:(if(!decide (n<0))=true then -(n.natAbs:Int)else(n.natAbs:Int))= -n:=by
  by_cases h:n<0
  ·simp [h];omega
  ·simp [h];omega
 rw [e]
 simp -implicitDefEqProofs only [go_sem,Nat.reduceAdd,Nat.reduceEqDiff,reduceCtorEq,rI,di]
theorem Qmc (n:Int):Qad Tryz.prog 128 [rI n] (.int .i64 n.sign):=by
 refine Qac (tb:=[]) 9 [.tmp 2] [0,1,2,6,8] mixed Tryz.func128 rfl (by kernel_rfl) (by kernel_rfl) (by kernel_rfl) (by kernel_rfl) ?_
 by_cases h0:n=0
 ·subst h0
  have hz:(((0:Nat):Int)==0)=true:=rfl
  simp -implicitDefEqProofs only [go_sem,Nat.reduceAdd,Nat.reduceMul,Nat.reduceEqDiff,Nat.reduceLT,Nat.reduceLeDiff,reduceCtorEq,Int.reduceLT,Int.reduceNeg,rI,di,Int.natAbs_zero,Qay,List.map_nil,List.length_nil,hz]
  rfl
 ·have h1:(((digs E9 n.natAbs).length:Int)==0)=false:=by
   have:=Q90 (show n.natAbs≠0 by omega)
   simp only [beq_eq_false_iff_ne,ne_eq];omega
  by_cases h:n<0
  ·have hd:decide (n<0)=true:=by simp [h]
   simp -implicitDefEqProofs only [go_sem,Nat.reduceAdd,Nat.reduceMul,Nat.reduceEqDiff,Nat.reduceLT,Nat.reduceLeDiff,reduceCtorEq,Int.reduceNeg,rI,di,List.length_map,h1,hd]
   rw [Int.sign_eq_neg_one_of_neg h]
  ·have hd:decide (n<0)=false:=by simp [h]
   simp -implicitDefEqProofs only [go_sem,Nat.reduceAdd,Nat.reduceMul,Nat.reduceEqDiff,Nat.reduceLT,Nat.reduceLeDiff,reduceCtorEq,Int.reduceNeg,rI,di,List.length_map,h1,hd]
   rw [Int.sign_eq_one_of_pos (by omega)]
theorem Qwe (x y:Int) (hl:(digs E9 (x.natAbs+y.natAbs)).length≤1000000000):Qad Tryz.prog 83 [rI x,rI y] (rI (x+y)):=by
 have hx:(digs E9 x.natAbs).length≤1000000000:=Nat.le_trans (Qog (Nat.le_add_right _ _)) hl
 have hy:(digs E9 y.natAbs).length≤1000000000:=Nat.le_trans (Qog (Nat.le_add_left _ _)) hl
 refine Qac (tb:=[]) 40 [.cell 4 76] [0,1,2,3,4,9,23] mixed Tryz.func83 rfl (by kernel_rfl) (by kernel_rfl) (by kernel_rfl) (by kernel_rfl) ?_
 cases hs:(decide (x<0)==decide (y<0))with
 |true=>
  simp -implicitDefEqProofs only [go_sem,Nat.reduceAdd,Nat.reduceMul,Nat.reduceEqDiff,Nat.reduceLT,Nat.reduceLeDiff,reduceCtorEq,rI,di,hs]
  refine Qag _ _ _ _ _ _ _ _ _ (Zjc _ _ hl) ?_
  simp -implicitDefEqProofs only [go_sem,Nat.reduceAdd,Nat.reduceEqDiff,Nat.reduceLT,reduceCtorEq,rI,di]
  refine Qag _ _ _ _ _ _ _ _ _ (Qfw _ _) ?_
  have e:(if decide (x<0)=true then -((x.natAbs+y.natAbs:Nat):Int)else((x.natAbs+y.natAbs:Nat):Int))=x+y:=by
   by_cases h:x<0<;>by_cases h':y<0<;>simp [h,h']at hs ⊢ <;>omega
  rw [e]
  simp -implicitDefEqProofs only [go_sem,Nat.reduceAdd,Nat.reduceEqDiff,reduceCtorEq,rI,di]
  exact Qaa _ _ (by kernel_rfl)
 |false=>
  simp -implicitDefEqProofs only [go_sem,Nat.reduceAdd,Nat.reduceMul,Nat.reduceEqDiff,Nat.reduceLT,Nat.reduceLeDiff,reduceCtorEq,rI,di,hs]
  refine Qag _ _ _ _ _ _ _ _ _ (Qpt _ _ hx) ?_
  by_cases hc:y.natAbs≤x.natAbs
  ·have hc':(0≤cmpN x.natAbs y.natAbs)=True:=by simp [cmpN];omega
   simp -implicitDefEqProofs only [go_sem,Nat.reduceAdd,Nat.reduceMul,Nat.reduceEqDiff,Nat.reduceLT,Nat.reduceLeDiff,reduceCtorEq,hc']
   refine Qag _ _ _ _ _ _ _ _ _ (Qpu _ _ hc hx) ?_
   simp -implicitDefEqProofs only [go_sem,Nat.reduceAdd,Nat.reduceEqDiff,Nat.reduceLT,reduceCtorEq,di]
   refine Qag _ _ _ _ _ _ _ _ _ (Qfw _ _) ?_
   have e:(if decide (x<0)=true then -((x.natAbs-y.natAbs:Nat):Int)else((x.natAbs-y.natAbs:Nat):Int))=x+y:=by
    by_cases h:x<0<;>by_cases h':y<0<;>simp [h,h']at hs ⊢ <;>omega
   rw [e]
   simp -implicitDefEqProofs only [go_sem,Nat.reduceAdd,Nat.reduceEqDiff,reduceCtorEq,rI,di]
   exact Qaa _ _ (by kernel_rfl)
  ·have hc':(0≤cmpN x.natAbs y.natAbs)=False:=by simp [cmpN];omega
   simp -implicitDefEqProofs only [go_sem,Nat.reduceAdd,Nat.reduceMul,Nat.reduceEqDiff,Nat.reduceLT,Nat.reduceLeDiff,reduceCtorEq,hc']
   refine Qag _ _ _ _ _ _ _ _ _ (Qpu _ _ (Nat.le_of_lt (Nat.lt_of_not_le hc)) hy) ?_
   simp -implicitDefEqProofs only [go_sem,Nat.reduceAdd,Nat.reduceEqDiff,Nat.reduceLT,reduceCtorEq,di]
   refine Qag _ _ _ _ _ _ _ _ _ (Qfw _ _) ?_
   have e:(if decide (y<0)=true then -((y.natAbs-x.natAbs:Nat):Int)else((y.natAbs-x.natAbs:Nat):Int))=x+y:=by
    by_cases h:x<0<;>by_cases h':y<0<;>simp [h,h']at hs ⊢ <;>omega
   rw [e]
   simp -implicitDefEqProofs only [go_sem,Nat.reduceAdd,Nat.reduceEqDiff,reduceCtorEq,rI,di]
   exact Qaa _ _ (by kernel_rfl)
theorem Qmd (x y:Int) (hl:(digs E9 (x.natAbs+y.natAbs)).length≤1000000000):Qad Tryz.prog 134 [rI x,rI y] (rI (x-y)):=by
 refine Qac (tb:=[]) 9 [.cell 4 76] [0,1,2,3,4] mixed Tryz.func134 rfl (by kernel_rfl) (by kernel_rfl) (by kernel_rfl) (by kernel_rfl) ?_
 simp -implicitDefEqProofs only [go_sem,Nat.reduceAdd,Nat.reduceMul,Nat.reduceEqDiff,Nat.reduceLT,Nat.reduceLeDiff,reduceCtorEq,rI,di]
 refine Qag _ _ _ _ _ _ _ _ _ (Qrq y) ?_
 simp -implicitDefEqProofs only [go_sem,Nat.reduceAdd,Nat.reduceEqDiff,Nat.reduceLT,reduceCtorEq,rI,di]
 refine Qag _ _ _ _ _ _ _ _ _ (Qwe x (-y) (by rw [Int.natAbs_neg];exact hl)) ?_
 simp -implicitDefEqProofs only [go_sem,Nat.reduceAdd,Nat.reduceEqDiff,reduceCtorEq,rI,di,Int.sub_eq_add_neg]
 exact Qaa _ _ (by kernel_rfl)
theorem Qge (x y:Int) (hl:(digs E9 x.natAbs).length+(digs E9 y.natAbs).length≤1000000000):Qad Tryz.prog 84 [rI x,rI y] (rI (x*y)):=by
 refine Qac (tb:=[]) 16 [.cell 4 76] [0,1,2,3,4] mixed Tryz.func84 rfl (by kernel_rfl) (by kernel_rfl) (by kernel_rfl) (by kernel_rfl) ?_
 simp -implicitDefEqProofs only [go_sem,Nat.reduceAdd,Nat.reduceMul,Nat.reduceEqDiff,Nat.reduceLT,Nat.reduceLeDiff,reduceCtorEq,rI,di]
 refine Qag _ _ _ _ _ _ _ _ _ (Qwb _ _ hl) ?_
 simp -implicitDefEqProofs only [go_sem,Nat.reduceAdd,Nat.reduceEqDiff,Nat.reduceLT,reduceCtorEq,di]
 refine Qag _ _ _ _ _ _ _ _ _ (Qfw _ _) ?_
 have e:(if(!decide (x<0)==decide (y<0))=true then -((x.natAbs*y.natAbs:Nat):Int)else((x.natAbs*y.natAbs:Nat):Int))=x*y:=by
  rw [Int.natCast_mul]
  by_cases h:x<0<;>by_cases h':y<0
  ·simp [h,h',Int.neg_mul,Int.mul_neg,Int.ofNat_natAbs_of_nonpos (Int.le_of_lt h),Int.ofNat_natAbs_of_nonpos (Int.le_of_lt h')]
  ·simp [h,h',Int.neg_mul,Int.mul_neg,Int.ofNat_natAbs_of_nonpos (Int.le_of_lt h),Int.natAbs_of_nonneg (Int.not_lt.1 h')]
  ·simp [h,h',Int.neg_mul,Int.mul_neg,Int.natAbs_of_nonneg (Int.not_lt.1 h),Int.ofNat_natAbs_of_nonpos (Int.le_of_lt h')]
  ·simp [h,h',Int.natAbs_of_nonneg (Int.not_lt.1 h),Int.natAbs_of_nonneg (Int.not_lt.1 h')]
 rw [e]
 simp -implicitDefEqProofs only [go_sem,Nat.reduceAdd,Nat.reduceEqDiff,reduceCtorEq,rI,di]
 exact Qaa _ _ (by kernel_rfl)
theorem Qx7 (x y:Int) (hl:(digs E9 (x.natAbs+y.natAbs)).length≤1000000000):Qad Tryz.prog 77 [rI x,rI y] (.int .i64 (x-y).sign):=by
 refine Qac (tb:=[]) 9 [.tmp 4] [0,1,2,3,4] mixed Tryz.func77 rfl (by kernel_rfl) (by kernel_rfl) (by kernel_rfl) (by kernel_rfl) ?_
 simp -implicitDefEqProofs only [go_sem,Nat.reduceAdd,Nat.reduceMul,Nat.reduceEqDiff,Nat.reduceLT,Nat.reduceLeDiff,reduceCtorEq,rI,di]
 refine Qag _ _ _ _ _ _ _ _ _ (Qmd x y hl) ?_
 simp -implicitDefEqProofs only [go_sem,Nat.reduceAdd,Nat.reduceEqDiff,Nat.reduceLT,reduceCtorEq,rI,di]
 refine Qag _ _ _ _ _ _ _ _ _ (Qmc (x-y)) ?_
 simp -implicitDefEqProofs only [go_sem,Nat.reduceAdd,Nat.reduceEqDiff,Nat.reduceLT,reduceCtorEq]
theorem Zpa (n:Nat) (h:n<9223372036854775809):Qdj [n%E9,n/E9%E9,n/E9/E9]=digs E9 n:=by
 have e: [n%E9,n/E9%E9,n/E9/E9]=lows E9 n 3:=by
  have h3:n/E9/E9=n/E9^2%E9:=by
   rw [Nat.div_div_eq_div_mul,show E9*E9=E9^2 from rfl]
   exact(Nat.mod_eq_of_lt (Nat.div_lt_of_lt_mul (Nat.lt_trans h (by decide)))).symm
  rw [h3]
  simp [lows,List.range_succ]
 rw [e,Qbo E9_2,Nat.mod_eq_of_lt (Nat.lt_trans h (by decide))]
theorem Q18 {n:Nat} (h:n<9223372036854775809):(digs E9 n).length≤3:=(Qal E9_2 n 3).2 (Nat.lt_trans h (by decide))
theorem Zjd:rI 0= .agg [.bool false,.slc []]:=by simp [rI,di,Qay]
theorem Qcj (n:Int) (h1: -9223372036854775808≤n) (h2:n≤9223372036854775807):Qad Tryz.prog 78 [.int .i64 n] (rI n):=by
 refine Qac (tb:=[]) 32 [.cell 2 76] [0,2,4] mixed Tryz.func78 rfl (by kernel_rfl) (by kernel_rfl) (by kernel_rfl) (by kernel_rfl) ?_
 by_cases hn:0≤n
 ·obtain⟨m,rfl⟩: ∃m:Nat,n=m:=⟨n.toNat,by omega⟩
  have h0:((m:Int)≥0)=True:=by simp
  have e1:=wrapn (n:=m/1000000000) (by omega)
  have e2:=wrapn (n:=m/1000000000/1000000000) (by omega)
  simp -implicitDefEqProofs only [go_sem,Nat.reduceAdd,Nat.reduceMul,Nat.reduceEqDiff,Nat.reduceLT,Nat.reduceLeDiff,reduceIte,reduceCtorEq,Int.reduceEq,h0,Qpr,Qps,e1,e2]
  refine Qag _ _ _ _ _ _ _ _ _ (Qju [m%E9,m/E9%E9,m/E9/E9] (by simp [maxLen])) ?_
  rw [Zpa m (by omega)]
  simp -implicitDefEqProofs only [go_sem,Nat.reduceAdd,Nat.reduceEqDiff,Nat.reduceLT,reduceCtorEq,di]
  refine Qag _ _ _ _ _ _ _ _ _ (Qfw _ m) ?_
  simp -implicitDefEqProofs only [go_sem,Nat.reduceAdd,Nat.reduceEqDiff,reduceCtorEq,rI,di]
 ·obtain⟨m,rfl⟩: ∃m:Nat,n= -m:=⟨n.natAbs,by omega⟩
  have h0:(0≤ -(m:Int))=False:=by simp;omega
  have q1:Int.tmod (-(m:Int)) 1000000000= -((m%1000000000:Nat):Int):=by rw [Int.neg_tmod,Qpr]
  have q2:Int.tdiv (-(m:Int)) 1000000000= -((m/1000000000:Nat):Int):=by rw [Int.neg_tdiv,Qps]
  have q3:Int.tmod (-((m/1000000000:Nat):Int)) 1000000000= -((m/1000000000%1000000000:Nat):Int):=by rw [Int.neg_tmod,Qpr]
  have q4:Int.tdiv (-((m/1000000000:Nat):Int)) 1000000000= -((m/1000000000/1000000000:Nat):Int):=by rw [Int.neg_tdiv,Qps]
  have e1:IntKind.i64.wrap (-((m/1000000000:Nat):Int))= -((m/1000000000:Nat):Int):=Qah (by omega) (by omega)
  have e2:IntKind.i64.wrap (-((m/1000000000/1000000000:Nat):Int))= -((m/1000000000/1000000000:Nat):Int):=Qah (by omega) (by omega)
  have n1:IntKind.i64.wrap (0- -((m%1000000000:Nat):Int))=((m%1000000000:Nat):Int):=by rw [Qah (by omega) (by omega)];omega
  have n2:IntKind.i64.wrap (0- -((m/1000000000%1000000000:Nat):Int))=((m/1000000000%1000000000:Nat):Int):=by rw [Qah (by omega) (by omega)];omega
  have n3:IntKind.i64.wrap (0- -((m/1000000000/1000000000:Nat):Int))=((m/1000000000/1000000000:Nat):Int):=by rw [Qah (by omega) (by omega)];omega
  simp -implicitDefEqProofs only [go_sem,Nat.reduceAdd,Nat.reduceMul,Nat.reduceEqDiff,Nat.reduceLT,Nat.reduceLeDiff,reduceIte,reduceCtorEq,Int.reduceEq,h0,q1,q2,e1,q3,q4,e2,n1,n2,n3]
  refine Qag _ _ _ _ _ _ _ _ _ (Qju [m%E9,m/E9%E9,m/E9/E9] (by simp [maxLen])) ?_
  rw [Zpa m (by omega)]
  simp -implicitDefEqProofs only [go_sem,Nat.reduceAdd,Nat.reduceEqDiff,Nat.reduceLT,reduceCtorEq,di]
  refine Qag _ _ _ _ _ _ _ _ _ (Qfw _ m) ?_
  simp -implicitDefEqProofs only [go_sem,Nat.reduceAdd,Nat.reduceEqDiff,Nat.reduceLT,reduceCtorEq,rI,di]
  have hsub:=Qmd (-(m:Int)) 0 (by simp;exact Nat.le_trans (Q18 (by omega)) (by decide))
  rw [Int.sub_zero,Zjd]at hsub
  refine Qag _ _ _ _ _ _ _ _ _ hsub ?_
  simp -implicitDefEqProofs only [go_sem,Nat.reduceAdd,Nat.reduceEqDiff,reduceCtorEq,rI,di]
end Go.Proofs.YtciddhkfbgkejaaGreatDoor

namespace Go.Vl
open Go.RowKit
theorem Zic {st:St} {t:Nat} (ht:st.var t=some .nilS):Le st (st.setVar t (.slc [])):=by
 rintro C a w ⟨ρ,im,h⟩
 have hv:=(h.var t _ ht).nilS_inv
 refine⟨ρ,im,h.root,h.nt,h.dfr,h.imc,?_,h.rho,h.box,h.inj⟩
 intro t' v' hv'
 simp only [St.setVar,upd]at hv'
 split at hv'
 ·rename_i e
  cases hv'
  subst e
  rw [hv]
  exact .ext _ _ (.slcNil 0 (Nat.zero_le _))
 ·exact h.var t' v' hv'
theorem Q9a {vs:List (Nat×PV)} {bs:List (Nat×Box)} {o:List (List PV)} {y:Yl} (t:Nat) (ht:lkp vs t=some .nilS):
  Le (St.ofG vs bs o y) (St.ofG ((t,.slc [])::vs) bs o y):=Zic (st:=St.ofG vs bs o y) ht
theorem Zid (P:Program) (p:Nat×List (Nat×Nat)×List (Nat×Nat)) (tb:Tab) (id:Nat) (bx:Bx) (fo:Operand) (as0:Array Operand) (ts:Array TypeId) (f:FuncId) (first cap args:List PV):Qa6 P (p::tb) id (.call ⟨.value fo,as0,ts⟩) (.fn f first cap::args) bx=
  (match lkp (p::tb) id with
   |none=>M.bind (Qgl first) (fun x=> .bind (Qf5 args) fun y=> .bind (Qgl cap) fun z=> .pure (.call f (x.1++y.1++z.1) (x.2++y.2++z.2))) bx
   |some t=>Qdw t.1 t.2 f (first++args++cap) bx):=by
 cases h:lkp (p::tb) id with
 |none=>rw [Zh9 (h:=h)]
 |some t=>obtain⟨θ,ν⟩:=t;rw [Zia (h:=h)]
theorem ble6:Nat.ble 1000000 1000000=true:=rfl
theorem Zrx:Nat.ble 1000000 1000001=true:=rfl
attribute [go_sem] Zid ble6 Zrx
theorem Zry (P:Program) (t:TypeId) (x y:ByteArray):Qbz .eql t P (.str x) (.str y)=some (.bool (x.data.toList==y.data.toList)):=by
 rw [Zn7,←Go.ByteArray.toList_eq x,←Go.ByteArray.toList_eq y];rfl
theorem Zrz (P:Program) (t:TypeId) (x y:ByteArray):Qbz .neq t P (.str x) (.str y)=some (.bool !(x.data.toList==y.data.toList)):=by
 rw [Zn7,←Go.ByteArray.toList_eq x,←Go.ByteArray.toList_eq y];rfl
attribute [go_sem high] Zry Zrz
def bnum (l:List UInt8):Nat:=l.foldl (fun n b=>n*256+b.toNat) 0
theorem Qlu (l:List UInt8) (b:UInt8):bnum (l++[b])=bnum l*256+b.toNat:=by simp [bnum]
theorem Qtg: ∀(n:Nat) (l:List UInt8),l.length=n→bnum l<256^n
 |0,l,h=>by obtain rfl:=List.length_eq_zero_iff.1 h;simp [bnum]
 |n+1,l,h=>by
  have hne:l≠ []:=by intro e;rw [e]at h;simp at h
  have e:=List.dropLast_concat_getLast hne
  have ih:=Qtg n l.dropLast (by simp [h])
  rw [←e,Qlu,Nat.pow_succ]
  have:=(l.getLast hne).toNat_lt
  omega
theorem Qlv (s:ByteArray):s.size=s.data.toList.length:=rfl
theorem Qra (s:ByteArray) (k:Nat) (h:k<s.data.toList.length):s[k]? =some s.data.toList[k]:=by
 have h':k<s.size:=h
 rw [getElem?_pos s k h']
 rfl
end Go.Vl

namespace Go.Proofs.YtciddhkfbgkejaaGreatDoor
open Go.Vl Go.RowKit Go.Dg
end Go.Proofs.YtciddhkfbgkejaaGreatDoor

namespace Go.Proofs.YtciddhkfbgkejaaGreatDoor
open Go.Vl Go.RowKit Go.Dg
abbrev rB (E:List Nat):Box:={els:=E.map fI,esz:=1,ety:=3,fro:=0,live:=true,arr:=true}
theorem Q91 (E:List Nat) (n:Nat) (hn:n≤E.length) (hE:E.length≤maxLen):
  Qe4 Tryz.prog 136 [.bs 1000000 1 0 n] [(1000000,rB E)] (.bs 1000000 1 0 (Qdj (E.take n)).length) [(1000000,rB E)]:=by
 have hm:=Qd0
 refine Qg6 (tb:=[]) 21 [.tmp 2] [0,2,14] mixed Tryz.func136 rfl (by kernel_rfl) (by kernel_rfl) (by kernel_rfl) (by kernel_rfl) (by rfl) ?_
 simp -implicitDefEqProofs only [go_sem,Nat.reduceMul,Nat.reduceEqDiff,Nat.reduceLT,Nat.reduceLeDiff,reduceCtorEq]
 refine Qar mixed (fun k:{k:Nat // k≤n∧Qdj (E.take k)=Qdj (E.take n)}=>St.of [(0,.bs 1000000 1 0 k.1),(2,.nilS)] [(1000000,rB E)]) (fun k=>k.1) ⟨n,Nat.le_refl _,rfl⟩ ?_ ?_
 ·refine Qak (θ:=[(1000000,1000000)]) rfl ?_ ?_
  ·simp [Qaf,lkp,ren1,ren0]
  ·simp [Qam,lkp,Box.renames]
 ·rintro⟨k,hk,ht⟩
  cases k with
  |zero=>
   have h1:((0:Int)<((0:Nat):Int))=False:=by simp
   simp -implicitDefEqProofs only [go_sem,Nat.reduceAdd,Nat.reduceMul,Nat.reduceEqDiff,Nat.reduceLT,Nat.reduceLeDiff,reduceCtorEq,h1]
   rw [←ht]
   refine Qds (.inl rfl) ?_
   simp -implicitDefEqProofs only [go_sem,Nat.reduceEqDiff,reduceCtorEq]
   refine Qak (θ:=[(1000000,1000000)]) rfl ?_ ?_
   ·simp [Qaf,lkp,ren1,ren0,Qdj]
   ·simp [Qam,lkp,Box.renames]
  |succ k=>
   have h1:((0:Int)<((k+1:Nat):Int))=True:=by simp
   have h2:(0≤(k:Int))=True:=by simp
   have hw:=Qip (n:=k) (by omega)
   have hlt:k<E.length:=by omega
   have hget:(E.map fI)[k]? =some (.int .i64 (E[k]:Int)):=by simp [hlt]
   have hcut:E.take (k+1)=E.take k++[E[k]]:=by rw [List.take_add_one];simp [hlt]
   have h4:((k:Int)<((k+1:Nat):Int))=True:=by simp;omega
   cases hd:((E[k]:Int)==0)with
   |true=>
    have hd0:E[k]=0:=by simpa using hd
    have h3:((k:Int)≤((k+1:Nat):Int))=True:=by simp;omega
    simp -implicitDefEqProofs only [go_sem,Nat.reduceAdd,Nat.reduceMul,Nat.reduceEqDiff,Nat.reduceLT,Nat.reduceLeDiff,reduceCtorEq,h1,h2,hw,hget,hd,Int.toNat_natCast,h3,h4,rB]
    refine⟨⟨k,by omega,?_⟩,by simp,?_⟩
    ·rw [←ht,hcut,hd0,Qcw]
    ·refine Qak (θ:=[(1000000,1000000)]) rfl ?_ ?_
     ·simp [Qaf,lkp,ren1,ren0]
     ·simp [Qam,lkp,Box.renames]
   |false=>
    have hd0:E[k]≠0:=by simpa using hd
    simp -implicitDefEqProofs only [go_sem,Nat.reduceAdd,Nat.reduceMul,Nat.reduceEqDiff,Nat.reduceLT,Nat.reduceLeDiff,reduceCtorEq,h1,h2,hw,hget,hd,Int.toNat_natCast,h4,rB]
    rw [←ht,hcut,Qff _ hd0]
    refine Qds (.inl rfl) ?_
    simp -implicitDefEqProofs only [go_sem,Nat.reduceEqDiff,reduceCtorEq]
    refine Qak (θ:=[(1000000,1000000)]) rfl ?_ ?_
    ·simp [Qaf,lkp,ren1,ren0];omega
    ·simp [Qam,lkp,Box.renames]
end Go.Proofs.YtciddhkfbgkejaaGreatDoor

namespace Go.Dg
variable {B:Nat}
theorem Q1z (v A x:Nat) (b:Nat) (hx:x<b) (h:v=A*b+x):(A%256*b+x)/256=v/256%b∧(A%256*b+x)%256=v%256:=by
 subst h
 have e:A*b+x=(A/256*b)*256+(A%256*b+x):=by
  have:A=A/256*256+A%256:=by omega
  conv=>lhs;rw [this]
  rw [Nat.add_mul,Nat.mul_right_comm]
  omega
 have hr:A%256*b+x<256*b:=by
  have h1:A%256≤255:=by omega
  have:=Nat.mul_le_mul_right b h1
  omega
 rw [e]
 generalize hR:A%256*b+x=R at*
 constructor
 ·rw [Nat.add_comm,Nat.add_mul_div_right _ _ (by decide),Nat.add_comm,Nat.mul_comm (A/256) b,Nat.mul_add_mod]
  exact(Nat.mod_eq_of_lt (Nat.div_lt_of_lt_mul hr)).symm
 ·omega
theorem Qv5 (v i:Nat):v/256/B^i=v/B^i/256:=by rw [Nat.div_div_eq_div_mul,Nat.mul_comm,←Nat.div_div_eq_div_mul]
theorem Qin {V S N i d:Nat} (hi:i<N) (hd:S/B^i%B=d):(mix B V S N (i+1)).set i d=mix B V S N i:=by
 apply List.ext_getElem?
 intro j
 rw [List.getElem?_set]
 by_cases hj:j<N
 ·rw [Qcx _ _ _ _ _ hj,Qcx _ _ _ _ _ hj,Qbf]
  by_cases e:i=j
  ·subst e;simp [hj,hd]
  ·simp only [e,if_false]
   by_cases hlt:j<i
   ·rw [if_pos (by omega),if_pos hlt]
   ·rw [if_neg (by omega),if_neg hlt]
 ·rw [List.getElem?_eq_none (by rw [Qbf];omega),List.getElem?_eq_none (by rw [Qbf];omega),Qbf]
  simp;omega
theorem Qrm (v N n:Nat) (h:n≤N):(lows B v N).take n=lows B v n:=by
 apply List.ext_getElem?
 intro j
 by_cases hj:j<n
 ·rw [List.getElem?_take_of_lt hj,Qbv _ _ _ (by omega),Qbv _ _ _ hj]
 ·rw [List.getElem?_eq_none (by rw [List.length_take,Qai];omega),List.getElem?_eq_none (by rw [Qai];omega)]
end Go.Dg

namespace Go.Proofs.YtciddhkfbgkejaaGreatDoor
open Go.Vl Go.RowKit Go.Dg
abbrev f8:Nat→PV:=fun d:Nat=>PV.int .u8 (d:Int)
def magL (n:Nat):List UInt8:=(digs 256 n).reverse.map fun d=>UInt8.ofNat d
def wPV (n:Int):PV:= .agg [.bool (decide (n<0)),.str ⟨(magL n.natAbs).toArray⟩]
theorem Qoh (l:List Nat):Qd6 (l.map f8)=some (l.map fun d=>UInt8.ofNat d):=by
 induction l with
 |nil=>rfl
 |cons d l ih=>simp only [List.map_cons,Qd6,ih];rfl
theorem Qfx {n:Nat} (h:n<256):IntKind.u8.wrap (n:Int)=(n:Int):=by
 simp [IntKind.wrap,IntKind.signed,IntKind.bits];omega
theorem Zje (n:Nat):Int.tmod (n:Int) 256=((n%256:Nat):Int):=by
 rw [Int.tmod_eq_emod_of_nonneg (by omega)];rfl
theorem Zjf (n:Nat):Int.tdiv (n:Int) 256=((n/256:Nat):Int):=by
 rw [Int.tdiv_eq_ediv_of_nonneg (by omega)];rfl
theorem Zhi (l:List Nat):(((l.map f8).flatMap PV.cells).all PV.okCell)=true:=by
 rw [List.all_flatMap,List.all_map,List.all_eq_true];intro _ _;rfl
theorem Q92 (B n:Nat):lows B n 0=[]:=rfl
theorem Zsb (n:Int) (hl:(digs E9 n.natAbs).length≤1000000) (hl2:(digs 256 n.natAbs).length≤100000000):Qad Tryz.prog 87 [rI n] (wPV n):=by
 have hm:=Qd0

 refine Qac (tb:=[(1201,[(1000000,202)],[])]) 62 [.cell 2 71] [0,1,2,3,4,5,6,7,8,14,19,47] mixed Tryz.func87 rfl (by kernel_rfl) (by kernel_rfl) (by kernel_rfl) (by kernel_rfl) ?_
 have hs1:((digs E9 n.natAbs).length*8≤140737488355328)=True:=by simp only [eq_iff_iff,iff_true];omega
 have hs2:((digs E9 n.natAbs).length≤maxLen)=True:=by simp only [eq_iff_iff,iff_true];unfold maxLen;omega
 have hok:((digs E9 n.natAbs).map fI).all (fun e=>e.cells.length==1&&e.cells.all PV.okCell)=true:=by rw [List.all_map,List.all_eq_true];intro _ _;rfl
 simp -implicitDefEqProofs only [go_sem,Nat.reduceAdd,Nat.reduceMul,Nat.reduceEqDiff,Nat.reduceLT,Nat.reduceLeDiff,reduceCtorEq,rI,di,List.length_map,hs1,hs2,hok]
 generalize hX:n.natAbs=X at*
 generalize hN:(digs E9 X).length=N at*
 have hXN:lows E9 X N=digs E9 X:=by rw [←hN];exact Qgp E9_2 X
 refine Qar mixed (fun k:{k:Nat // k≤(digs 256 X).length∧ ∀j,j<k→X/256^j≠0}=>St.of [(1,.bp 0 2 0 0),(2,.bp 1 2 0 0),(3,.bs 7 1 0 k.1),(4,.bs 202 1 0 (digs E9 (X/256^k.1)).length)]
   [(0,{els:=[.agg [.bool (decide (n<0)),di (digs E9 X)]],esz:=2,ety:=76,fro:=0,live:=true,arr:=false}),(1,{els:=[.agg [.bool false,.str ⟨#[]⟩]],esz:=2,ety:=71,fro:=0,live:=true,arr:=false}),
    (7,{els:=(lows 256 X k.1).map f8,esz:=1,ety:=5,fro:=0,live:=true,arr:=true}),(202,rB (lows E9 (X/256^k.1) N))]) (fun k=>X/256^k.1) ⟨0,Nat.zero_le _,by omega⟩ ?_ ?_
 ·refine Qgc 3 7 1 5 rfl rfl rfl (by decide) [(0,0),(1,1),(7,7),(202,202)] rfl ?_ ?_
  ·simp [Qaf,lkp,ren1,ren0,hN]
  ·simp only [Nat.pow_zero,Nat.div_one,hXN,Q92]
   simp [Qam,lkp,Box.renames,di]
   exact⟨⟨rfl,rfl⟩,rfl,rfl⟩
 ·rintro⟨k,hk,hmore⟩
  generalize hv:X/256^k=v at*
  by_cases hz:v=0
  ·subst hz
   have hlt:X<256^k:=by
    rcases Nat.lt_or_ge X (256^k)with h|h
    ·exact h
    ·have:=Nat.div_pos h (Nat.pow_pos (by decide))
     omega
   have hD:lows 256 X k=digs 256 X:=Ql6 (by decide) hlt hmore
   have hkD:(digs 256 X).length=k:=by rw [←hD,Qai]
   have hp:(0<((digs E9 0).length:Int))=False:=by rw [Qay];simp
   have hw:IntKind.i64.wrap ((k:Int)-1)=(k:Int)-1:=Qah (by omega) (by omega)
   rw [hD]
   have hW:wPV n= .agg [.bool (decide (n<0)),.str ⟨((digs 256 X).reverse.map fun d=>UInt8.ofNat d).toArray⟩]:=by rw [wPV,magL,hX]
   rw [hW]
   generalize digs 256 X=D at*
   simp -implicitDefEqProofs only [go_sem,Nat.reduceAdd,Nat.reduceMul,Nat.reduceEqDiff,Nat.reduceLT,Nat.reduceLeDiff,reduceCtorEq,hp,rB,hw]
   refine Qar mixed (fun i:{i:Nat // i≤k}=>St.of [(1,.bp 0 2 0 0),(2,.bp 1 2 0 0),(3,.bs 7 1 0 k),(7,.bs 8 1 0 (k-i.1)),(8,.int .i64 ((i.1:Int)-1))]
     [(0,{els:=[.agg [.bool (decide (n<0)),di (digs E9 X)]],esz:=2,ety:=76,fro:=0,live:=true,arr:=false}),(1,{els:=[.agg [.bool false,.str ⟨#[]⟩]],esz:=2,ety:=71,fro:=0,live:=true,arr:=false}),
      (7,{els:=D.map f8,esz:=1,ety:=5,fro:=0,live:=true,arr:=true}),(8,{els:=(D.drop i.1).reverse.map f8,esz:=1,ety:=5,fro:=0,live:=true,arr:=true})]) (fun i=>i.1) ⟨k,Nat.le_refl _⟩ ?_ ?_
   ·refine Qgc 7 8 1 5 rfl rfl rfl (by decide) [(0,0),(1,1),(7,7),(8,8)] rfl ?_ ?_
    ·simp [Qaf,lkp,ren1,ren0]
    ·simp [Qam,lkp,Box.renames,di,←hkD]
     exact⟨⟨rfl,rfl⟩,rfl,rfl⟩
   ·rintro⟨i,hi⟩
    cases i with
    |zero=>
     have h1:((0:Int)≤((0:Nat):Int)-1)=False:=by simp
     have htk:(D.reverse.map f8).take k=D.reverse.map f8:=List.take_of_length_le (by simp;omega)
     simp -implicitDefEqProofs only [go_sem,Nat.reduceAdd,Nat.reduceMul,Nat.reduceEqDiff,Nat.reduceLT,Nat.reduceLeDiff,reduceIte,reduceCtorEq,h1,Nat.sub_zero,List.drop_zero,List.length_map,List.length_reverse,hkD,htk,Qoh,di]
    |succ i=>
     have hs:(((i+1:Nat):Int)-1)=(i:Int):=by omega
     have h1:((0:Int)≤(i:Int))=True:=by simp
     have h2:((i:Int)<(k:Int))=True:=by simp;omega
     have w4:IntKind.i64.wrap ((i:Int)-1)=(i:Int)-1:=Qah (by omega) (by omega)
     have hget:(D.map f8)[i]? =some (.int .u8 ((D[i]'(by omega):Nat):Int)):=by rw [List.getElem?_map,List.getElem?_eq_getElem (by omega)];rfl
     have hdl:(D.drop (i+1)).length=k-(i+1):=by simp;omega
     have hdr:D.drop i=D[i]'(by omega)::D.drop (i+1):=List.drop_eq_getElem_cons (by omega)
     have q1:(k-(i+1)==k-(i+1))=true:=beq_self_eq_true _
     have q2:(k-(i+1)+1≤140737488355328)=True:=by simp only [eq_iff_iff,iff_true];omega
     have q3:(k-(i+1)+1≤maxLen)=True:=by simp only [eq_iff_iff,iff_true];unfold maxLen;omega
     simp -implicitDefEqProofs only [go_sem,Nat.reduceAdd,Nat.reduceMul,Nat.reduceEqDiff,Nat.reduceLT,Nat.reduceLeDiff,reduceIte,reduceCtorEq,Nat.reduceBneDiff,hs,h1,h2,w4,hget,Int.toNat_natCast,List.length_map,List.length_reverse,hdl,q1,q2,q3,Zhi,Nat.mul_one]
     have q5:k-i=k-(i+1)+1:=by omega
     have q6:k-i-1=k-(i+1):=by omega
     have q7:(D.drop i).reverse.map f8=(D.drop (i+1)).reverse.map f8++[f8 (D[i]'(by omega))]:=by rw [hdr,List.reverse_cons,List.map_append];rfl
     refine⟨⟨i,by omega⟩,by simp only;omega,?_⟩
     simp only [q6,q7]
     rw [q5]
     refine Qak (θ:=[(0,0),(1,1),(7,7),(8,1706)]) rfl ?_ ?_
     ·simp [Qaf,lkp,ren1,ren0]
     ·simp [Qam,lkp,Box.renames,di]
      exact⟨⟨rfl,rfl⟩,rfl,rfl⟩
  ·have hp:(0<((digs E9 v).length:Int))=True:=by have:=Q90 hz;simp;omega
   have hvX:v≤X:=by rw [←hv];exact Nat.div_le_self _ _
   have hnN:(digs E9 v).length≤N:=by rw [←hN];exact Qog hvX
   have hnp:=Q90 hz
   have hend:v/E9^(digs E9 v).length=0:=Qba E9_2 (Nat.le_refl _)
   have hvlt:=Qav E9_2 v
   generalize hnn:(digs E9 v).length=nn at*
   have hw:IntKind.i64.wrap ((nn:Int)-1)=(nn:Int)-1:=Qah (by omega) (by omega)
   simp -implicitDefEqProofs only [go_sem,Nat.reduceAdd,Nat.reduceMul,Nat.reduceEqDiff,Nat.reduceLT,Nat.reduceLeDiff,reduceCtorEq,hp,rB,hw]
   refine Qar mixed (fun i:{i:Nat // i≤nn}=>St.of [(1,.bp 0 2 0 0),(2,.bp 1 2 0 0),(3,.bs 7 1 0 k),(4,.bs 202 1 0 nn),(5,.int .i64 ((v/E9^i.1%256:Nat):Int)),(6,.int .i64 ((i.1:Int)-1))]
     [(0,{els:=[.agg [.bool (decide (n<0)),di (digs E9 X)]],esz:=2,ety:=76,fro:=0,live:=true,arr:=false}),(1,{els:=[.agg [.bool false,.str ⟨#[]⟩]],esz:=2,ety:=71,fro:=0,live:=true,arr:=false}),
      (7,{els:=(lows 256 X k).map f8,esz:=1,ety:=5,fro:=0,live:=true,arr:=true}),(202,{els:=(mix E9 v (v/256) N i.1).map fI,esz:=1,ety:=3,fro:=0,live:=true,arr:=true})]) (fun i=>i.1) ⟨nn,Nat.le_refl _⟩ ?_ ?_
   ·refine Qak (θ:=[(0,0),(1,1),(7,7),(202,202)]) rfl ?_ ?_
    ·simp [Qaf,lkp,ren1,ren0,hend]
    ·have e:mix E9 v (v/256) N nn=lows E9 v N:=Qem (by decide) (by rw [Qv5,hend])
     simp only [e]
     simp [Qam,lkp,Box.renames,di]
     exact⟨⟨rfl,rfl⟩,rfl,rfl⟩
   ·rintro⟨i,hi⟩
    cases i with
    |zero=>
     have h1:((0:Int)≤((0:Nat):Int)-1)=False:=by simp
     have hks:=Qai (B:=256) X k
     have q1:(k==k)=true:=beq_self_eq_true k
     have q2:(k+1≤140737488355328)=True:=by simp only [eq_iff_iff,iff_true];omega
     have q3:(k+1≤maxLen)=True:=by simp only [eq_iff_iff,iff_true];unfold maxLen;omega
     have q4:IntKind.u8.wrap ((v/E9^0%256:Nat):Int)=((v/E9^0%256:Nat):Int):=Qfx (Nat.mod_lt _ (by decide))
     simp -implicitDefEqProofs only [go_sem,Nat.reduceAdd,Nat.reduceMul,Nat.reduceEqDiff,Nat.reduceLT,Nat.reduceLeDiff,reduceIte,reduceCtorEq,Nat.reduceBneDiff,h1,List.length_map,hks,q1,q2,q3,q4,Zhi,Nat.mul_one]
     have e0:mix E9 v (v/256) N 0=lows E9 (v/256) N:=Qg8 _ _ _
     rw [e0]
     have hlN:=Qai (B:=E9) (v/256) N
     refine Qby _ _ _ _ _ _ _ _ _ (Q91 (lows E9 (v/256) N) nn (by omega) (by unfold maxLen;omega)) ?_
     have hq:Qdj ((lows E9 (v/256) N).take nn)=digs E9 (v/256):=by
      rw [Qrm _ _ _ hnN,Qbo E9_2,Nat.mod_eq_of_lt (Nat.lt_of_le_of_lt (Nat.div_le_self _ _) hvlt)]
     have hv1:X/256^(k+1)=v/256:=by rw [Nat.pow_succ,←Nat.div_div_eq_div_mul,hv]
     rw [hq]
     simp -implicitDefEqProofs only [go_sem,Nat.reduceAdd,Nat.reduceEqDiff,Nat.reduceLT,reduceCtorEq]
     refine⟨⟨k+1,(Qce (by decide) X k).2 (by rw [hv];exact hz),?_⟩,?_,?_⟩
     ·intro j hj
      by_cases hjk:j<k
      ·exact hmore j hjk
      ·have:j=k:=by omega
       subst this
       rw [hv];exact hz
     ·simp only [hv1];omega
     ·simp only [hv1,Qdf,hv]
      refine Qak (θ:=[(0,0),(1,1),(7,1104),(202,202)]) rfl ?_ ?_
      ·simp [Qaf,lkp,ren1,ren0]
      ·simp [Qam,lkp,Box.renames,di]
       exact⟨⟨rfl,rfl⟩,rfl,rfl⟩
    |succ i=>
     have hs:(((i+1:Nat):Int)-1)=(i:Int):=by omega
     have h1:((0:Int)≤(i:Int))=True:=by simp
     have h2:((i:Int)<(nn:Int))=True:=by simp;omega
     have hx:v/E9^i%E9<E9:=Nat.mod_lt _ (by decide)
     have hr:v/E9^(i+1)%256<256:=Nat.mod_lt _ (by decide)
     obtain⟨b1,b2⟩:=Q1z (v/E9^i) (v/E9^(i+1)) (v/E9^i%E9) E9 hx (by rw [Nat.mul_comm];exact Qht (by decide) v i)
     have hget:((mix E9 v (v/256) N (i+1)).map fI)[i]? =some (.int .i64 ((v/E9^i%E9:Nat):Int)):=by
      rw [List.getElem?_map,Qcx _ _ _ _ _ (by omega),if_pos (by omega)];rfl
     have hset:=Qin (B:=E9) (V:=v) (S:=v/256) (N:=N) (i:=i) (d:=v/E9^i/256%E9) (by omega) (by rw [Qv5])
     generalize v/E9^i%E9=x at*
     generalize v/E9^(i+1)%256=r at*
     have w1:IntKind.i64.wrap ((r:Int)*1000000000)=(r:Int)*1000000000:=Qah (by omega) (by omega)
     have w2:IntKind.i64.wrap ((r:Int)*1000000000+(x:Int))=((r*E9+x:Nat):Int):=by
      simp only [E9]at*
      rw [Qah (by omega) (by omega)];omega
     have w3:IntKind.i64.wrap (((r*E9+x)/256:Nat):Int)=(((r*E9+x)/256:Nat):Int):=wrapn (by simp only [E9]at*;omega)
     have w4:IntKind.i64.wrap ((i:Int)-1)=(i:Int)-1:=Qah (by omega) (by omega)
     have w5:IntKind.i64.wrap ((v/E9^i/256%E9:Nat):Int)=((v/E9^i/256%E9:Nat):Int):=by rw [←b1];exact w3
     simp -implicitDefEqProofs only [go_sem,Nat.reduceAdd,Nat.reduceMul,Nat.reduceEqDiff,Nat.reduceLT,Nat.reduceLeDiff,reduceIte,reduceCtorEq,Int.reduceEq,hs,h1,h2,hget,w1,w2,w3,w4,Zjf,Zje,Int.toNat_natCast,b1,b2]
     refine⟨⟨i,by omega⟩,by simp only;omega,?_⟩
     refine Qak (θ:=[(0,0),(1,1),(7,7),(202,202)]) rfl ?_ ?_
     ·simp [Qaf,lkp,ren1,ren0]
     ·rw [w5,Qwa,hset]
      simp [Qam,lkp,Box.renames,di]
      exact⟨⟨rfl,rfl⟩,rfl,rfl⟩
end Go.Proofs.YtciddhkfbgkejaaGreatDoor

namespace Go.Dg
variable {B:Nat}

def blen (m:Nat):Nat:=if h:m=0 then 0 else blen (m/2)+1
termination_by m
decreasing_by exact Nat.div_lt_self (Nat.pos_of_ne_zero h) (by decide)
theorem Qgm:blen 0=0:=by unfold blen;simp
theorem Qgn {m:Nat} (h:m≠0):blen m=blen (m/2)+1:=by
  conv=>lhs;unfold blen
  simp [h]
theorem Qd9: ∀(k m:Nat),m/2^k≠0→blen m=blen (m/2^k)+k
  |0,m,_=>by simp
  |k+1,m,h=>by
    have e:m/2^(k+1)=m/2/2^k:=by rw [Nat.div_div_eq_div_mul,Nat.pow_succ,Nat.mul_comm]
    have hm:m≠0:=by intro h0;rw [h0]at h;simp at h
    rw [Qgn hm,e,Qd9 k (m/2) (by rw [←e];exact h)]
    omega
theorem Qde: ∀(k m:Nat),m<2^k→blen m≤k
  |0,m,h=>by
        obtain rfl:m=0:=by simpa using h
        rw [Qgm];exact Nat.le_refl _
  |k+1,m,h=>by
    by_cases h0:m=0
    · rw [h0,Qgm];omega
    · rw [Qgn h0]
      have:=Qde k (m/2) (by rw [Nat.pow_succ]at h;omega)
      omega
theorem Qlw: ∀(k m:Nat),2^k≤m→k<blen m
  |0,m,h=>by
    have h0:m≠0:=by intro e;rw [e]at h;simp at h
    rw [Qgn h0];omega
  |k+1,m,h=>by
    have h0:m≠0:=by intro e;rw [e]at h;have:=Nat.pow_pos (n:=k+1) (show 0<2 by decide);omega
    rw [Qgn h0]
    have:=Qlw k (m/2) (by rw [Nat.pow_succ]at h;omega)
    omega
/-- The highest digit. -/
theorem Qdz (hB:2≤B) {m:Nat} (h:m≠0):m/B^((digs B m).length-1)≠0∧m/B^((digs B m).length-1)<B:=by
  have hp:0<(digs B m).length:=List.length_pos_iff.2 (mt (Qbj hB).1 h)
  refine⟨(Qce hB m _).1 (by omega),?_⟩
  have:=Qav hB m
  have e:B^(digs B m).length=B^((digs B m).length-1)*B:=by rw [←Nat.pow_succ];congr 1;omega
  rw [e]at this
  exact Nat.div_lt_of_lt_mul this
theorem Qvs {m:Nat} (h:m≠0) (c:Nat) (hc:0<c):blen m=blen (m/(2^c)^((digs (2^c) m).length-1))+c*((digs (2^c) m).length-1):=by
  have hB:2≤2^c:=by
    have:=Nat.pow_le_pow_right (show 0<2 by decide) hc
    simpa using this
  have:=Qdz hB h
  rw [←Nat.pow_mul]at this ⊢
  exact Qd9 _ _ this.1
end Go.Dg

namespace Go.Proofs.YtciddhkfbgkejaaGreatDoor
open Go.Vl Go.RowKit Go.Dg
theorem Qdm (m:Nat):(magL m).length=(digs 256 m).length:=by simp [magL]
theorem Qma (m:Nat):(⟨(magL m).toArray⟩:ByteArray).size=(digs 256 m).length:=by rw [Qlv,←Qdm]
theorem Q9y {m:Nat} (h:m≠0): ∃d:UInt8,(⟨(magL m).toArray⟩:ByteArray)[0]? =some d∧d.toNat=m/256^((digs 256 m).length-1):=by
 have hp:0<(digs 256 m).length:=List.length_pos_iff.2 (mt (Qbj (by decide)).1 h)
 have ht:=Qdz (B:=256) (by decide) h
 have hg:=Qao (B:=256) (n:=m) (k:=(digs 256 m).length-1) (by decide) (by omega)
 rw [Nat.mod_eq_of_lt ht.2]at hg
 have hl:0<(⟨(magL m).toArray⟩:ByteArray).data.toList.length:=by show 0<(magL m).length;rw [Qdm];exact hp
 refine⟨_,Qra _ 0 hl,?_⟩
 have e:(⟨(magL m).toArray⟩:ByteArray).data.toList[0]=UInt8.ofNat (m/256^((digs 256 m).length-1)):=by
  show(magL m)[0]'(by rw [Qdm];exact hp)=_
  have:(magL m)[0]? =some (UInt8.ofNat (m/256^((digs 256 m).length-1))):=by
   rw [magL,List.getElem?_map,List.getElem?_reverse (by omega),Nat.sub_zero,hg];rfl
  exact Option.some.inj (by rw [←this,List.getElem?_eq_getElem])
 rw [e,UInt8.toNat_ofNat_of_lt' ht.2]
def Qe8 (n:Int):PV:=if 65536<blen n.natAbs then .tup [wPV 0,.int .i64 7]else .tup [wPV n,.int .i64 0]
theorem Qv8:wPV 0= .agg [.bool false,.str ⟨#[]⟩]:=by simp [wPV,magL,Qay]
end Go.Proofs.YtciddhkfbgkejaaGreatDoor

namespace Go.Vl
open Go.RowKit
theorem Qdt (n:Nat):IntKind.u64.wrap (n:Int)=((n%18446744073709551616:Nat):Int):=by
 simp [IntKind.wrap,IntKind.signed,IntKind.bits]
theorem Qii (n:Nat):(n:Int).fdiv (2^min 32 64)=((n/4294967296:Nat):Int):=by
 rw [Int.fdiv_eq_ediv_of_nonneg _ (by decide)]
 rfl
theorem Zoj (n:Nat):IntKind.u64.wrap ((BitVec.ofInt 64 (n:Int) &&& BitVec.ofInt 64 4294967295).toNat:Int)=((n%4294967296:Nat):Int):=by
 rw [Qdt]
 congr 1
 rw [BitVec.toNat_and]
 have h1:(BitVec.ofInt 64 (n:Int)).toNat=n%18446744073709551616:=by simp
 have h2:(BitVec.ofInt 64 4294967295).toNat=2^32-1:=by decide
 rw [h1,h2,Nat.and_two_pow_sub_one_eq_mod]
 omega
theorem Zg8 {P:Program} {t:TypeId} (n:Nat):Qbz .and t P (.int .u64 (n:Int)) (.int .u64 4294967295)=some (.int .u64 ((n%4294967296:Nat):Int)):=by
 rw [Zrd]
 exact congrArg (fun z=>some (PV.int .u64 z)) (Zoj n)
attribute [go_sem high] Zg8
theorem Zrw {x y:Nat} (hx:x<18446744073709551616) (hy:y<18446744073709551616):
  ((x/4294967296*(y/4294967296)%18446744073709551616+(x/4294967296*(y%4294967296)%18446744073709551616+(x%4294967296*(y%4294967296)%18446744073709551616)/4294967296)%18446744073709551616/4294967296)%18446744073709551616+
   ((x/4294967296*(y%4294967296)%18446744073709551616+(x%4294967296*(y%4294967296)%18446744073709551616)/4294967296)%18446744073709551616%4294967296+x%4294967296*(y/4294967296)%18446744073709551616)%18446744073709551616/4294967296)%18446744073709551616=x*y/18446744073709551616:=by
 have a1:x/4294967296≤4294967295:=by omega
 have a0:x%4294967296≤4294967295:=by omega
 have b1:y/4294967296≤4294967295:=by omega
 have b0:y%4294967296≤4294967295:=by omega
 have ex:x=x/4294967296*4294967296+x%4294967296:=by omega
 have ey:y=y/4294967296*4294967296+y%4294967296:=by omega
 have hxy:x*y=x/4294967296*(y/4294967296)*18446744073709551616+(x/4294967296*(y%4294967296)+x%4294967296*(y/4294967296))*4294967296+x%4294967296*(y%4294967296):=by
  generalize x/4294967296=p at*
  generalize x%4294967296=q at*
  generalize y/4294967296=r at*
  generalize y%4294967296=s at*
  subst ex ey
  simp only [Nat.add_mul,Nat.mul_add]
  rw [show p*4294967296*(r*4294967296)=p*r*18446744073709551616 by rw [Nat.mul_mul_mul_comm]]
  rw [show p*4294967296*s=p*s*4294967296 by rw [Nat.mul_right_comm],show q*(r*4294967296)=q*r*4294967296 by rw [Nat.mul_assoc]]
  omega
 have hlt:x*y≤18446744073709551615*18446744073709551615:=Nat.mul_le_mul (by omega) (by omega)
 have h11:=Nat.mul_le_mul a1 b1
 have h10:=Nat.mul_le_mul a1 b0
 have h01:=Nat.mul_le_mul a0 b1
 have h00:=Nat.mul_le_mul a0 b0
 rw [hxy]at hlt ⊢
 generalize x/4294967296*(y/4294967296)=P at*
 generalize x/4294967296*(y%4294967296)=Q at*
 generalize x%4294967296*(y/4294967296)=R at*
 generalize x%4294967296*(y%4294967296)=W at*
 clear hxy ex ey a1 a0 b1 b0
 omega
end Go.Vl

namespace Go.Proofs.YtciddhkfbgkejaaGreatDoor
open Go.Vl Go.RowKit
theorem Qsd {w:World} {im:Im} {k1 k2 k3:IntKind} {x y z:Int} {us:List Value} (h:RepL w im [.int k1 x,.int k2 y,.int k3 z] us):us=[.int k1 x,.int k2 y,.int k3 z]:=by
 cases h with
 |cons _ u _ us h t=>
 cases h
 cases t with
 |cons _ u _ us h t=>
 cases h
 cases t with
 |cons _ u _ us h t=>
 cases h
 cases t
 rfl
theorem Qqc (x y c:Nat) (hc:c≤1):Qad Tryz.prog 216 [.int .u64 (x:Int),.int .u64 (y:Int),.int .u64 (c:Int)] (.tup [.int .u64 (((x+y+c)%18446744073709551616:Nat):Int),.int .u64 (((x+y+c)/18446744073709551616:Nat):Int)]):=by
 refine .inr ⟨by kernel_rfl,rfl,fun w im us hr=> ?_⟩
 rw [Qsd hr]
 refine⟨.tuple #[.int .u64 (((x+y+c)%18446744073709551616:Nat):Int),.int .u64 (((x+y+c)/18446744073709551616:Nat):Int)],?_,.tup _ [_,_] (.cons _ _ _ _ (.int _ _) (.cons _ _ _ _ (.int _ _) .nil))⟩
 rw [run_callFunc_extern Tryz.func216 (by kernel_rfl) (by kernel_rfl) (by kernel_rfl) (e:=add64Entry) (by kernel_rfl),run_add64 x y c (by omega) (by omega) (by omega) (by omega)]
 simp only [Result.andThen]
 congr 5<;>omega
theorem Q7e (x y b:Nat) (hb:b≤1):Qad Tryz.prog 217 [.int .u64 (x:Int),.int .u64 (y:Int),.int .u64 (b:Int)] (.tup [.int .u64 (((x+18446744073709551616-y-b)%18446744073709551616:Nat):Int),.int .u64 ((if x<y+b then 1 else 0:Nat):Int)]):=by
 refine .inr ⟨by kernel_rfl,rfl,fun w im us hr=> ?_⟩
 rw [Qsd hr]
 refine⟨.tuple #[.int .u64 (((x+18446744073709551616-y-b)%18446744073709551616:Nat):Int),.int .u64 ((if x<y+b then 1 else 0:Nat):Int)],?_,.tup _ [_,_] (.cons _ _ _ _ (.int _ _) (.cons _ _ _ _ (.int _ _) .nil))⟩
 rw [run_callFunc_extern Tryz.func217 (by kernel_rfl) (by kernel_rfl) (by kernel_rfl) (e:=sub64Entry) (by kernel_rfl),run_sub64 x y b hb]
 rfl
end Go.Proofs.YtciddhkfbgkejaaGreatDoor

namespace Go.Proofs.YtciddhkfbgkejaaGreatDoor
open Go.Vl Go.RowKit Go.Dg
abbrev BW:Nat:=18446744073709551616
theorem BW_2:2≤BW:=by decide
abbrev fW:Nat→PV:=fun d:Nat=>PV.int .u64 (d:Int)
def dw (l:List Nat):PV:= .slc (l.map fun d:Nat=>PV.int .u64 (d:Int))
theorem Qcd (l:List Nat) (k:Nat):(l.map fun d:Nat=>PV.int .u64 (d:Int))[k]? =l[k]?.map fun d:Nat=>PV.int .u64 (d:Int):=List.getElem?_map
theorem Zh4 (l:List Nat):((l.map fun d:Nat=>PV.int .u64 (d:Int)).all fun x=>x.cells.length==1)=true:=by rw [List.all_map,List.all_eq_true];intro d _;rfl
theorem Qdh (l:List Nat) (hl:l.length≤maxLen):Qad Tryz.prog 147 [dw l] (dw (Qdj l)):=by
 have hm:=Qd0
 refine Qac (tb:=[]) 21 [.tmp 2] [0,2,14] mixed Tryz.func147 rfl (by kernel_rfl) (by kernel_rfl) (by kernel_rfl) (by kernel_rfl) ?_
 simp -implicitDefEqProofs only [go_sem,Nat.reduceMul,Nat.reduceEqDiff,Nat.reduceLT,Nat.reduceLeDiff,reduceCtorEq,dw]
 refine Qar mixed (fun k:{k:Nat // k≤l.length∧Qdj (l.take k)=Qdj l}=>St.of [(0,dw (l.take k.1)),(2,.nilS)] []) (fun k=>k.1) ⟨l.length,Nat.le_refl _,by rw [List.take_length]⟩ ?_ ?_
 ·exact Qa9 (by simp [Qaf,lkp,ren1,ren0,dw])
 ·rintro⟨k,hk,ht⟩
  have hlen:(l.take k).length=k:=by simp;omega
  cases k with
  |zero=>
   have h1:((0:Int)<((0:Nat):Int))=False:=by simp
   simp -implicitDefEqProofs only [go_sem,Nat.reduceAdd,Nat.reduceMul,Nat.reduceEqDiff,Nat.reduceLT,Nat.reduceLeDiff,reduceCtorEq,dw,List.length_map,hlen,h1]
   rw [←ht];rfl
  |succ k=>
   have h1:((0:Int)<((k+1:Nat):Int))=True:=by simp
   have h2:(0≤(k:Int))=True:=by simp
   have hw:=Qip (n:=k) (by omega)
   have hlt:k<l.length:=by omega
   have hget:(l.take (k+1))[k]? =some l[k]:=by simp [hlt]
   have hcut:l.take (k+1)=l.take k++[l[k]]:=by rw [List.take_add_one];simp [hlt]
   cases hd:((l[k]:Int)==0)with
   |true=>
    have hd0:l[k]=0:=by simpa using hd
    have h3:((k:Int)≤((k+1:Nat):Int))=True:=by simp;omega
    simp -implicitDefEqProofs only [go_sem,Nat.reduceAdd,Nat.reduceMul,Nat.reduceEqDiff,Nat.reduceLT,Nat.reduceLeDiff,reduceCtorEq,dw,List.length_map,hlen,h1,h2,hw,Qcd,hget,hd,h3,Int.toNat_natCast,Zh4]
    refine⟨⟨k,by omega,?_⟩,by simp,?_⟩
    ·rw [←ht,hcut,hd0,Qcw]
    ·refine Qa9 (by simp [Qaf,lkp,ren1,ren0,dw];rw [←List.map_take];simp [List.take_take])
   |false=>
    have hd0:l[k]≠0:=by simpa using hd
    simp -implicitDefEqProofs only [go_sem,Nat.reduceAdd,Nat.reduceMul,Nat.reduceEqDiff,Nat.reduceLT,Nat.reduceLeDiff,reduceCtorEq,dw,List.length_map,hlen,h1,h2,hw,Qcd,hget,hd,Int.toNat_natCast]
    rw [←ht,hcut,Qff _ hd0]
def cmpW (a b:Nat):Int:=if(digs BW a).length=(digs BW b).length then cmpN a b else((digs BW a).length:Int)-((digs BW b).length:Int)
theorem Qec (a b:Nat):(cmpW a b<0)↔a<b:=by
 unfold cmpW
 split
 ·unfold cmpN;split
  ·simp;assumption
  ·split<;>simp<;>omega
 ·rename_i h
  constructor
  ·intro h2;exact Qv1 BW_2 (by omega)
  ·intro h2
   rcases Nat.lt_trichotomy (digs BW a).length (digs BW b).length with h3|h3|h3
   ·omega
   ·exact absurd h3 h
   ·have:=Qv1 BW_2 h3;omega
theorem Qdo (a b:Nat) (ha:(digs BW a).length≤1000000000) (hb:(digs BW b).length≤1000000000):Qad Tryz.prog 194 [dw (digs BW a),dw (digs BW b)] (.int .i64 (cmpW a b)):=by
 refine Qac (tb:=[]) 43 [.tmp 4] [0,1,4,5,10,20,23,33] mixed Tryz.func194 rfl (by kernel_rfl) (by kernel_rfl) (by kernel_rfl) (by kernel_rfl) ?_
 by_cases hl:(digs BW a).length=(digs BW b).length
 ·have hl':(((digs BW a).length:Int) != ((digs BW b).length:Int))=false:=by simp [hl]
  have hw:IntKind.i64.wrap (((digs BW a).length:Int)-1)=((digs BW a).length:Int)-1:=Qah (by omega) (by omega)
  rw [cmpW,if_pos hl]
  simp -implicitDefEqProofs only [go_sem,Nat.reduceAdd,Nat.reduceMul,Nat.reduceEqDiff,Nat.reduceLT,Nat.reduceLeDiff,reduceCtorEq,Int.reduceNeg,dw,List.length_map,hl',hw]
  refine Qar mixed (fun i:{i:Nat // i≤(digs BW a).length∧a/BW^i=b/BW^i}=>St.of [(0,dw (digs BW a)),(1,dw (digs BW b)),(4,.int .i64 0),(5,.int .i64 ((i.1:Int)-1))] []) (fun i=>i.1)
   ⟨(digs BW a).length,Nat.le_refl _,by rw [Qba BW_2 (Nat.le_refl _),hl,Qba BW_2 (Nat.le_refl _)]⟩ ?_ ?_
  ·exact Qa9 (by simp [Qaf,lkp,ren1,ren0,dw])
  ·rintro⟨i,hi,he⟩
   cases i with
   |zero=>
    have h1:((0:Int)≤((0:Nat):Int)-1)=False:=by simp
    have hab:a=b:=by simpa using he
    subst hab
    simp -implicitDefEqProofs only [go_sem,Nat.reduceAdd,Nat.reduceMul,Nat.reduceEqDiff,Nat.reduceLT,Nat.reduceLeDiff,reduceCtorEq,Int.reduceNeg,dw,h1,Q1j]
   |succ i=>
    have hs:(((i+1:Nat):Int)-1)=(i:Int):=by omega
    have h1:((0:Int)≤(i:Int))=True:=by simp
    have hga:=Qao BW_2 (show i<(digs BW a).length by omega)
    have hgb:=Qao BW_2 (show i<(digs BW b).length by omega)
    by_cases hlt:a/BW^i%BW<b/BW^i%BW
    ·have h2:(((a/BW^i%BW:Nat):Int)<((b/BW^i%BW:Nat):Int))=True:=by simp only [eq_iff_iff,iff_true];omega
     have hc:=Qpj (Qil (by decide) he hlt)
     simp -implicitDefEqProofs only [go_sem,Nat.reduceAdd,Nat.reduceMul,Nat.reduceEqDiff,Nat.reduceLT,Nat.reduceLeDiff,reduceCtorEq,Int.reduceNeg,dw,hs,h1,Qcd,hga,hgb,h2,hc]
     exact Qaa _ _ (by kernel_rfl)
    ·have h2:(((a/BW^i%BW:Nat):Int)<((b/BW^i%BW:Nat):Int))=False:=by simp only [eq_iff_iff,iff_false];omega
     by_cases hgt:b/BW^i%BW<a/BW^i%BW
     ·have h3:(((b/BW^i%BW:Nat):Int)<((a/BW^i%BW:Nat):Int))=True:=by simp only [eq_iff_iff,iff_true];omega
      have hc:=Qtp (Qil (by decide) he.symm hgt)
      simp -implicitDefEqProofs only [go_sem,Nat.reduceAdd,Nat.reduceMul,Nat.reduceEqDiff,Nat.reduceLT,Nat.reduceLeDiff,reduceCtorEq,Int.reduceNeg,dw,hs,h1,Qcd,hga,hgb,h2,h3,hc]
      exact⟨Qaa _ _ (by kernel_rfl),Qaa _ _ (by kernel_rfl)⟩
     ·have h3:(((b/BW^i%BW:Nat):Int)<((a/BW^i%BW:Nat):Int))=False:=by simp only [eq_iff_iff,iff_false];omega
      have hw2:IntKind.i64.wrap ((i:Int)-1)=(i:Int)-1:=Qah (by omega) (by omega)
      simp -implicitDefEqProofs only [go_sem,Nat.reduceAdd,Nat.reduceMul,Nat.reduceEqDiff,Nat.reduceLT,Nat.reduceLeDiff,reduceCtorEq,Int.reduceNeg,dw,hs,h1,Qcd,hga,hgb,h2,h3,hw2]
      refine⟨Qaa _ _ (by kernel_rfl),Qaa _ _ (by kernel_rfl),⟨i,by omega,Qoa (by decide) he (by omega)⟩,by simp,?_⟩
      exact Qa9 (by simp [Qaf,lkp,ren1,ren0,dw])
 ·have hl':(((digs BW a).length:Int) != ((digs BW b).length:Int))=true:=by simp;omega
  have hw:IntKind.i64.wrap (((digs BW a).length:Int)-((digs BW b).length:Int))=((digs BW a).length:Int)-((digs BW b).length:Int):=Qah (by omega) (by omega)
  rw [cmpW,if_neg hl]
  simp -implicitDefEqProofs only [go_sem,Nat.reduceAdd,Nat.reduceMul,Nat.reduceEqDiff,Nat.reduceLT,Nat.reduceLeDiff,reduceCtorEq,Int.reduceNeg,dw,List.length_map,hl',hw]
end Go.Proofs.YtciddhkfbgkejaaGreatDoor
