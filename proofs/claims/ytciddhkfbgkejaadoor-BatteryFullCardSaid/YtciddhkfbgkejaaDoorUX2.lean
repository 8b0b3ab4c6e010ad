/-
  XI6, XB8, XB9, XB10, XB11, UX2 (merged for the claim).
-/
import Derived.Test.YtciddhkfbgkejaaDoorXI4
import Derived.Test.YtciddhkfbgkejaaDoorDwi
import Derived.Test.YtciddhkfbgkejaaDoorXM8
import Derived.Test.YtciddhkfbgkejaaDoorDsn
set_option linter.unusedSimpArgs false
set_option linter.unusedVariables false
namespace Go.Proofs.YtciddhkfbgkejaaDoor
open Go.Vl Go.RowKit Go.Dg
def posS (s:Sg) (i:Nat):Int:=rnd (exQ [s] s.f i) (exO [s] s.f)
def alV (l:List Wd) (s:Sg):PV:=Qzv l (posS s 0) (posS s 1) (posS s 2) s.f
theorem Qp4 {s:Sg} (h:Qbd s=true):Qbq [s]=true:=by
 unfold Qbq vpTo
 simp [vpAt,h,List.range_succ]
theorem Qzw {s:Sg} (h:Qbd s=true):lasts [s] s.f=true:=by
 have:=(Qb6 h).1
 simp only [lasts,pBeg,pEnd,Bool.and_eq_true,decide_eq_true_eq]
 simp
 omega
theorem Zjj {s:Sg} (hs:okSg s) (h:Qbd s=true):Qae Tryd.prog 48 [.slc [sgPV s],.int .i64 s.f] (.tup [.agg [.int .i64 (posS s 0),.int .i64 (posS s 1),.int .i64 (posS s 2)],.int .i64 0]):=by
 have h1:=Zmz [s] s.f (fun x hx=>by rw [List.mem_singleton.1 hx];exact hs) (by simp) hs.f
 unfold atPV at h1
 rw [if_pos (Qp4 h),if_pos (Qzw h)]at h1
 exact h1
theorem Q4o (p:List Sg) (i:Nat) (h:i<p.length):((p.map sgPV).take (i+1)).drop i=[sgPV p[i]]:=by
 rw [Qc2 _ i (by simpa using h),List.drop_append_of_le_length (by simp;omega),List.drop_eq_nil_of_le (by simp;omega)];simp
theorem Zct (p:List Sg):((p.map sgPV).all fun x=>x.cells.length==6)=true:=by rw [List.all_map,List.all_eq_true];intro _ _;rfl
theorem Zab (l:List Wd) (T:List Sg):((T.map (alV l)).flatMap PV.cells).all PV.okCell=true:=by
 rw [List.all_eq_true];intro c hc
 simp only [List.mem_flatMap,List.mem_map]at hc
 obtain⟨_,⟨s,_,rfl⟩,h⟩:=hc
 simp only [alV,Qzv,PV.cells,List.mem_cons,List.not_mem_nil,or_false]at h
 rcases h with rfl|rfl|rfl<;>rfl
set_option maxHeartbeats 4000000 in
theorem Zcu (l:List Wd) (p:List Sg) (hp: ∀s∈p,okSg s) (hl:l.length≤maxLen) (hpl:p.length≤1000000):Qae Tryd.prog 31 [wsPV l,Qc4 p] (if Qbj l=true∧Qbq p=true then .tup [.slc (p.map (alV l)),.int .i64 0]else .tup [.slc [],.int .i64 2]):=by
 have v1:=Qp2 l hl
 have v2:=Qf3 p hp hpl
 unfold Qc4 at v2 ⊢
 cases hv:Qbj l with
 |false=>
  rw [hv]at v1
  refine Qac (tb:=[]) 49 [.tmp 4,.tmp 5] [0,1,4,5,6,7,8,9,18,19,20,21,22] mixed Tryd.func31 rfl (by kernel_rfl) (by kernel_rfl) (by kernel_rfl) (by kernel_rfl) ?_
  repeat (first|(simp -implicitDefEqProofs only [go_sem,Nat.reduceAdd,Nat.reduceMul,Nat.reduceEqDiff,Nat.reduceLT,Nat.reduceLeDiff,Nat.reduceSub,Nat.reduceBEq,reduceIte,reduceCtorEq,Int.reduceEq,Int.reduceNe,Nat.reduceBneDiff,Int.reduceLE,Int.reduceLT,Int.reduceToNat,Int.reduceAdd,Int.reduceSub,Int.reduceMul,Int.reduceNeg,Bool.not_false,Bool.false_eq_true,false_and])|((with_reducible refine Qab (v1) ?_ ?_ ?_);(with_reducible rfl);rfl)|(with_reducible exact Qaa _ _ (by kernel_rfl))|(with_reducible refine And.intro (Qaa _ _ (by kernel_rfl)) ?_))
 |true=>
 cases hV:Qbq p with
 |false=>
  rw [hv]at v1
  rw [hV]at v2
  refine Qac (tb:=[]) 49 [.tmp 4,.tmp 5] [0,1,4,5,6,7,8,9,18,19,20,21,22] mixed Tryd.func31 rfl (by kernel_rfl) (by kernel_rfl) (by kernel_rfl) (by kernel_rfl) ?_
  repeat (first|(simp -implicitDefEqProofs only [go_sem,Nat.reduceAdd,Nat.reduceMul,Nat.reduceEqDiff,Nat.reduceLT,Nat.reduceLeDiff,Nat.reduceSub,Nat.reduceBEq,reduceIte,reduceCtorEq,Int.reduceEq,Int.reduceNe,Nat.reduceBneDiff,Int.reduceLE,Int.reduceLT,Int.reduceToNat,Int.reduceAdd,Int.reduceSub,Int.reduceMul,Int.reduceNeg,Bool.not_false,Bool.not_true,Bool.false_eq_true,and_false])|((with_reducible refine Qab (v1) ?_ ?_ ?_);(with_reducible rfl);rfl)|((with_reducible refine Qab (v2) ?_ ?_ ?_);(with_reducible rfl);rfl)|(with_reducible exact Qaa _ _ (by kernel_rfl))|(with_reducible refine And.intro (Qaa _ _ (by kernel_rfl)) ?_))
 |true=>
  rw [hv]at v1
  rw [hV]at v2
  rw [if_pos ⟨rfl,rfl⟩]
  have h8:=(Qdi hv).2
  refine Qac (tb:=[]) 49 [.tmp 4,.tmp 5] [0,1,4,5,6,7,8,9,18,19,20,21,22] mixed Tryd.func31 rfl (by kernel_rfl) (by kernel_rfl) (by kernel_rfl) (by kernel_rfl) ?_
  repeat (first|(simp -implicitDefEqProofs only [go_sem,Nat.reduceAdd,Nat.reduceMul,Nat.reduceEqDiff,Nat.reduceLT,Nat.reduceLeDiff,Nat.reduceSub,Nat.reduceBEq,reduceIte,reduceCtorEq,Int.reduceEq,Int.reduceNe,Nat.reduceBneDiff,Int.reduceLE,Int.reduceLT,Int.reduceToNat,Int.reduceAdd,Int.reduceSub,Int.reduceMul,Int.reduceNeg,Bool.not_true,List.length_map])|((with_reducible refine Qab (v1) ?_ ?_ ?_);(with_reducible rfl);rfl)|((with_reducible refine Qab (v2) ?_ ?_ ?_);(with_reducible rfl);rfl)|(with_reducible exact Qaa _ _ (by kernel_rfl))|(with_reducible refine And.intro (Qaa _ _ (by kernel_rfl)) ?_))
  refine Qa5 mixed (fun i:{i:Nat // i≤p.length}=>St.of [(0,wsPV l),(1,.slc (p.map sgPV)),(6,.bs 7 3 0 i.1),(19,.slc (p.map sgPV)),(20,.int .i64 (p.length:Int)),(21,.int .i64 (i.1:Int))] [(7,{els:=(p.take i.1).map (alV l),esz:=3,ety:=29,fro:=0,live:=true,arr:=true})]) (fun i=>p.length-i.1) ⟨0,Nat.zero_le _⟩ ?_ ?_
  ·refine Qza 6 7 3 29 rfl rfl rfl (by decide) [(7,7)] rfl ?_ ?_
   ·simp [Qaf,lkp,ren1,ren0,Qav,wsPV]
   ·exact⟨⟨rfl,rfl,rfl,rfl,rfl,.inl ⟨rfl,rfl⟩⟩,trivial⟩
  ·rintro⟨i,hi⟩
   simp only
   by_cases hA:i<p.length
   ·skip
    have hA':=ltT hA
    have n0:=nnT i
    have hg:=Qf2 p i hA
    have hsl:((p.map sgPV).take (i+1)).drop i=[.agg [.int .i64 p[i].f,.int .i64 p[i].t,.int .i64 p[i].o,.slc (p[i].x.map (PV.int .i64)),.slc (p[i].y.map (PV.int .i64)),.slc (p[i].z.map (PV.int .i64))]]:=Q4o p i hA
    have hs:=hp _ (List.getElem_mem hA)
    have hvs:=Qfm hV _ hA
    have f1:=Zjj hs hvs
    have f2:=Qzu l (posS p[i] 0) (posS p[i] 1) (posS p[i] 2) p[i].f h8
    have f3:=Zcs l (posS p[i] 0) (posS p[i] 1) (posS p[i] 2) p[i].f hv
    have hwk:=Qal (a:=i) (by omega)
    have hsn:(p.take (i+1)).map (alV l)=(p.take i).map (alV l)++[Qzv l (posS p[i] 0) (posS p[i] 1) (posS p[i] 2) p[i].f]:=by rw [Qc2 p i hA,List.map_append];rfl
    have hln:((p.take i).map (alV l)).length=i:=by simp;omega
    have hok:=Zab l (p.take i)
    have k1:((i+1)*24≤140737488355328)=True:=eq_true (by omega)
    have k2:(i+1≤maxLen)=True:=eq_true (by unfold maxLen;omega)
    have k3:((i:Int)≤((i+1:Nat):Int))=True:=eq_true (by omega)
    have k4:(((i+1:Nat):Int)≤(p.length:Int))=True:=eq_true (by omega)
    have hall:=Zct p
    generalize hT2:(p.take (i+1)).map (alV l)=T2 at*
    generalize (p.take i).map (alV l)=T at*
    generalize p[i]=s at*
    generalize mask (blW (posS s 0) (posS s 1) (posS s 2) s.f) l=m at*
    unfold Qzv at f3 hsn
    generalize atW Wd.ux l (posS s 0) (posS s 1) (posS s 2) s.f=u0 at*
    generalize atW Wd.uy l (posS s 0) (posS s 1) (posS s 2) s.f=u1 at*
    generalize atW Wd.uz l (posS s 0) (posS s 1) (posS s 2) s.f=u2 at*
    generalize posS s 0=x0 at*
    generalize posS s 1=x1 at*
    generalize posS s 2=x2 at*
    unfold sgPV Qa9 at f1
    repeat (first|(simp -implicitDefEqProofs only [go_sem,Nat.reduceAdd,Nat.reduceMul,Nat.reduceEqDiff,Nat.reduceLT,Nat.reduceLeDiff,Nat.reduceSub,Nat.reduceBEq,reduceIte,reduceCtorEq,Int.reduceEq,Int.reduceNe,Nat.reduceBneDiff,Int.reduceLE,Int.reduceLT,Int.reduceToNat,Int.reduceAdd,Int.reduceSub,Int.reduceMul,Int.reduceNeg,hA',n0,hg,hsl,hwk,k3,k4,hall,Int.toNat_natCast,List.length_map])|((with_reducible refine Qab (f1) ?_ ?_ ?_);(with_reducible rfl);rfl)|(with_reducible exact Qaa _ _ (by kernel_rfl))|(with_reducible refine And.intro (Qaa _ _ (by kernel_rfl)) ?_))
    repeat (first|(simp -implicitDefEqProofs only [go_sem,Nat.reduceAdd,Nat.reduceMul,Nat.reduceEqDiff,Nat.reduceLT,Nat.reduceLeDiff,Nat.reduceSub,Nat.reduceBEq,reduceIte,reduceCtorEq,Int.reduceEq,Int.reduceNe,Nat.reduceBneDiff,Int.reduceLE,Int.reduceLT,Int.reduceToNat,Int.reduceAdd,Int.reduceSub,Int.reduceMul,Int.reduceNeg,hln,hok,hwk,k1,k2,Int.toNat_natCast,List.length_map])|((with_reducible refine Qab (f2) ?_ ?_ ?_);(with_reducible rfl);rfl)|((with_reducible refine Qab (f3) ?_ ?_ ?_);(with_reducible rfl);rfl)|(with_reducible exact Qaa _ _ (by kernel_rfl))|(with_reducible refine And.intro (Qaa _ _ (by kernel_rfl)) ?_))
    refine⟨⟨i+1,hA⟩,by simp only;omega,Qap (θ:=[(7,809)]) rfl ?_ ?_⟩
    ·simp [Qaf,lkp,ren1,ren0,Qav,wsPV]
    ·simp only [hT2,hsn]
     exact⟨⟨rfl,rfl,rfl,rfl,rfl,.inl ⟨rfl,rfl⟩⟩,trivial⟩
   ·have hA':=ltF hA
    obtain rfl:i=p.length:=by omega
    have ht:p.take p.length=p:=List.take_length
    have ht2:(p.map (alV l)).take p.length=p.map (alV l):=List.take_of_length_le (by simp)
    have hok:=Zab l p
    rw [ht]
    have hln:(p.map (alV l)).length=p.length:=by simp
    generalize p.map (alV l)=T at*
    repeat (first|(simp -implicitDefEqProofs only [go_sem,Nat.reduceAdd,Nat.reduceMul,Nat.reduceEqDiff,Nat.reduceLT,Nat.reduceLeDiff,Nat.reduceSub,Nat.reduceBEq,reduceIte,reduceCtorEq,Int.reduceEq,Int.reduceNe,Nat.reduceBneDiff,Int.reduceLE,Int.reduceLT,Int.reduceToNat,Int.reduceAdd,Int.reduceSub,Int.reduceMul,Int.reduceNeg,hA',ht2,hok,hln,List.length_map])|(with_reducible exact Qaa _ _ (by kernel_rfl))|(with_reducible refine And.intro (Qaa _ _ (by kernel_rfl)) ?_))
end Go.Proofs.YtciddhkfbgkejaaDoor

namespace Go.Proofs.YtciddhkfbgkejaaDoor
open Go.Vl Go.RowKit Go.Dg
def cstW (l:List Wd) (B:Bat) (s:Sg):Int:=Qfi s B (atW Wd.ux l (posS s 0) (posS s 1) (posS s 2) s.f) (atW Wd.uy l (posS s 0) (posS s 1) (posS s 2) s.f) (atW Wd.uz l (posS s 0) (posS s 1) (posS s 2) s.f)
def csL (l:List Wd) (B:Bat) (p:List Sg):List Int:=p.map (cstW l B)
theorem Qrq (l:List Wd) (B:Bat) (p:List Sg):(csL l B p).length=p.length:=by simp [csL]
theorem Zcj (l:List Wd) (B:Bat) (p:List Sg) {i:Nat} (h:i<p.length):(csL l B p).getD i 0=cstW l B p[i]:=by simp [csL,h]
theorem Zja {s:Sg} (hv:Qbd s=true) {B:Bat} (hB:Qax B=true) {l:List Wd} (hw:Qbj l=true):0≤cstW l B s∧cstW l B s≤400000000000000000:=by
 obtain⟨⟨v1,v2,v3,v4,v5⟩,hax, -⟩:=Qb6 hv
 exact Qsh (by unfold rngS;simp only [Bool.and_eq_true,decide_eq_true_eq];omega) (hax s.x (by simp [Sg.ax])) (hax s.y (by simp [Sg.ax])) (hax s.z (by simp [Sg.ax])) hB (Ql8 (.inl rfl) hw _ _ _ _) (Ql8 (.inr (.inl rfl)) hw _ _ _ _) (Ql8 (.inr (.inr rfl)) hw _ _ _ _)
theorem Qtq {p:List Sg} (hV:Qbq p=true) {B:Bat} (hB:Qax B=true) {l:List Wd} (hw:Qbj l=true):okC (csL l B p):=by
 intro c hc
 obtain⟨s,hs,rfl⟩:=List.mem_map.1 hc
 obtain⟨i,hi,rfl⟩:=List.mem_iff_getElem.1 hs
 exact Zja (Qfm hV i hi) hB hw
theorem Zjb (l:List Wd) (p:List Sg) {i:Nat} (h:i<p.length):(p.map (alV l))[i]? =some (.agg [.int .i64 (atW Wd.ux l (posS p[i] 0) (posS p[i] 1) (posS p[i] 2) p[i].f),.int .i64 (atW Wd.uy l (posS p[i] 0) (posS p[i] 1) (posS p[i] 2) p[i].f),.int .i64 (atW Wd.uz l (posS p[i] 0) (posS p[i] 1) (posS p[i] 2) p[i].f)]):=by
 rw [List.getElem?_map,List.getElem?_eq_getElem h];rfl
def Qgi (p:List Sg) (B:Bat) (l:List Wd):Bool:=Qbq p&&(Qax B&&Qbj l)
set_option maxHeartbeats 8000000 in
theorem Qzp (p:List Sg) (B:Bat) (l:List Wd) (hp: ∀s∈p,okSg s) (hl:l.length≤maxLen) (hpl:p.length≤1000000):
  Qae Tryd.prog 15 [Qc4 p,baPV B,wsPV l] (if Qgi p B l=true then .tup [.slc ((smL (csL l B p) (cutE (csL l B p))).map (PV.int .i64)),.int .i64 0]else .tup [.slc [],.int .i64 2]):=by
 have v1:=Qf3 p hp hpl
 have v2:=Qtp B
 have v3:=Qp2 l hl
 have f1:=Zcu l p hp hl hpl
 unfold Qgi
 unfold Qc4 at v1 f1 ⊢
 cases hV:Qbq p with
 |false=>
  rw [hV]at v1
  unfold baPV at v2 ⊢
  refine Qac (tb:=[]) 67 [.tmp 6,.tmp 7] [0,1,2,4,6,7,8,10,11,12,13,14,15,28,35,36,37,38,60] mixed Tryd.func15 rfl (by kernel_rfl) (by kernel_rfl) (by kernel_rfl) (by kernel_rfl) ?_
  repeat (first|(simp -implicitDefEqProofs only [go_sem,Nat.reduceAdd,Nat.reduceMul,Nat.reduceEqDiff,Nat.reduceLT,Nat.reduceLeDiff,Nat.reduceSub,Nat.reduceBEq,reduceIte,reduceCtorEq,Int.reduceEq,Int.reduceNe,Nat.reduceBneDiff,Int.reduceLE,Int.reduceLT,Int.reduceToNat,Int.reduceAdd,Int.reduceSub,Int.reduceMul,Int.reduceNeg,Bool.not_false,Bool.false_eq_true,Bool.false_and])|((with_reducible refine Qab (v1) ?_ ?_ ?_);(with_reducible rfl);rfl)|(with_reducible exact Qaa _ _ (by kernel_rfl))|(with_reducible refine And.intro (Qaa _ _ (by kernel_rfl)) ?_))
 |true=>
 rw [hV]at v1
 cases hB:Qax B with
 |false=>
  rw [hB]at v2
  unfold baPV at v2 ⊢
  refine Qac (tb:=[]) 67 [.tmp 6,.tmp 7] [0,1,2,4,6,7,8,10,11,12,13,14,15,28,35,36,37,38,60] mixed Tryd.func15 rfl (by kernel_rfl) (by kernel_rfl) (by kernel_rfl) (by kernel_rfl) ?_
  repeat (first|(simp -implicitDefEqProofs only [go_sem,Nat.reduceAdd,Nat.reduceMul,Nat.reduceEqDiff,Nat.reduceLT,Nat.reduceLeDiff,Nat.reduceSub,Nat.reduceBEq,reduceIte,reduceCtorEq,Int.reduceEq,Int.reduceNe,Nat.reduceBneDiff,Int.reduceLE,Int.reduceLT,Int.reduceToNat,Int.reduceAdd,Int.reduceSub,Int.reduceMul,Int.reduceNeg,Bool.not_false,Bool.not_true,Bool.false_eq_true,Bool.false_and,Bool.true_and])|((with_reducible refine Qab (v1) ?_ ?_ ?_);(with_reducible rfl);rfl)|((with_reducible refine Qab (v2) ?_ ?_ ?_);(with_reducible rfl);rfl)|(with_reducible exact Qaa _ _ (by kernel_rfl))|(with_reducible refine And.intro (Qaa _ _ (by kernel_rfl)) ?_))
 |true=>
 rw [hB]at v2
 cases hw:Qbj l with
 |false=>
  rw [hw]at v3
  unfold baPV at v2 ⊢
  refine Qac (tb:=[]) 67 [.tmp 6,.tmp 7] [0,1,2,4,6,7,8,10,11,12,13,14,15,28,35,36,37,38,60] mixed Tryd.func15 rfl (by kernel_rfl) (by kernel_rfl) (by kernel_rfl) (by kernel_rfl) ?_
  repeat (first|(simp -implicitDefEqProofs only [go_sem,Nat.reduceAdd,Nat.reduceMul,Nat.reduceEqDiff,Nat.reduceLT,Nat.reduceLeDiff,Nat.reduceSub,Nat.reduceBEq,reduceIte,reduceCtorEq,Int.reduceEq,Int.reduceNe,Nat.reduceBneDiff,Int.reduceLE,Int.reduceLT,Int.reduceToNat,Int.reduceAdd,Int.reduceSub,Int.reduceMul,Int.reduceNeg,Bool.not_false,Bool.not_true,Bool.false_eq_true,Bool.and_false,Bool.true_and])|((with_reducible refine Qab (v1) ?_ ?_ ?_);(with_reducible rfl);rfl)|((with_reducible refine Qab (v2) ?_ ?_ ?_);(with_reducible rfl);rfl)|((with_reducible refine Qab (v3) ?_ ?_ ?_);(with_reducible rfl);rfl)|(with_reducible exact Qaa _ _ (by kernel_rfl))|(with_reducible refine And.intro (Qaa _ _ (by kernel_rfl)) ?_))
 |true=>
 rw [hw]at v3
 rw [if_pos ⟨hw,hV⟩]at f1
 rw [if_pos (show(true&&(true&&true))=true from rfl)]
 have hok:=Qtq hV hB hw
 have hcl:=Qrq l B p
 have hpV:=Qcg hV
 unfold baPV at v2 ⊢
 refine Qac (tb:=[]) 67 [.tmp 6,.tmp 7] [0,1,2,4,6,7,8,10,11,12,13,14,15,28,35,36,37,38,60] mixed Tryd.func15 rfl (by kernel_rfl) (by kernel_rfl) (by kernel_rfl) (by kernel_rfl) ?_
 repeat (first|(simp -implicitDefEqProofs only [go_sem,Nat.reduceAdd,Nat.reduceMul,Nat.reduceEqDiff,Nat.reduceLT,Nat.reduceLeDiff,Nat.reduceSub,Nat.reduceBEq,reduceIte,reduceCtorEq,Int.reduceEq,Int.reduceNe,Nat.reduceBneDiff,Int.reduceLE,Int.reduceLT,Int.reduceToNat,Int.reduceAdd,Int.reduceSub,Int.reduceMul,Int.reduceNeg,Bool.not_true,List.length_map])|((with_reducible refine Qab (v1) ?_ ?_ ?_);(with_reducible rfl);rfl)|((with_reducible refine Qab (v2) ?_ ?_ ?_);(with_reducible rfl);rfl)|((with_reducible refine Qab (v3) ?_ ?_ ?_);(with_reducible rfl);rfl)|((with_reducible refine Qab (f1) ?_ ?_ ?_);(with_reducible rfl);rfl)|(with_reducible exact Qaa _ _ (by kernel_rfl))|(with_reducible refine And.intro (Qaa _ _ (by kernel_rfl)) ?_))
 refine Qa5 mixed (fun i:{i:Nat // i≤p.length∧ ∀j,j<i→preI (csL l B p) (j+1)≤mxE}=>St.of [(4,.bp 0 5 0 0),(8,.slc (p.map (alV l))),(10,.bs 7 1 0 i.1),(11,.int .i64 (preI (csL l B p) i.1)),(35,.slc (p.map sgPV)),(36,.int .i64 (p.length:Int)),(37,.int .i64 (i.1:Int))]
  [(0,{els:=[baPV B],esz:=5,ety:=23,fro:=0,live:=true,arr:=false}),(7,iB1 (smL (csL l B p) i.1))]) (fun i=>p.length-i.1) ⟨0,Nat.zero_le _,fun j hj=>by omega⟩ ?_ ?_
 ·refine Qza 10 7 1 3 rfl rfl rfl (by decide) [(0,0),(7,7)] rfl ?_ ?_
  ·simp [Qaf,lkp,ren1,ren0,Qav]
   rfl
  ·exact⟨⟨rfl,rfl,rfl,rfl,rfl,.inr ⟨rfl,_,_,rfl,rfl,rfl,rfl⟩⟩,⟨rfl,rfl,rfl,rfl,rfl,.inl ⟨rfl,rfl⟩⟩,trivial⟩
 rintro⟨i,hi,hall⟩
 simp only
 by_cases hA:i<p.length
 case neg=>
  have hA':=ltF hA
  obtain rfl:i=p.length:=by omega
  have hce:cutE (csL l B p)=p.length:=by rw [Qsc (by rw [hcl];exact hall),hcl]
  rw [hce]
  have hsm:(smL (csL l B p) p.length).length=p.length:=Qdy _ _
  have ht:((smL (csL l B p) p.length).map (PV.int .i64)).take p.length=(smL (csL l B p) p.length).map (PV.int .i64):=List.take_of_length_le (by simp [Qdy])
  have hk:=Qn4 (smL (csL l B p) p.length)
  generalize smL (csL l B p) p.length=SM at*
  repeat (first|(simp -implicitDefEqProofs only [go_sem,Nat.reduceAdd,Nat.reduceMul,Nat.reduceEqDiff,Nat.reduceLT,Nat.reduceLeDiff,Nat.reduceSub,Nat.reduceBEq,reduceIte,reduceCtorEq,Int.reduceEq,Int.reduceNe,Nat.reduceBneDiff,Int.reduceLE,Int.reduceLT,Int.reduceToNat,Int.reduceAdd,Int.reduceSub,Int.reduceMul,Int.reduceNeg,hA',hsm,ht,hk,List.length_map])|(with_reducible exact Qaa _ _ (by kernel_rfl))|(with_reducible refine And.intro (Qaa _ _ (by kernel_rfl)) ?_))
 have hA':=ltT hA
 have n0:=nnT i
 have hg:=Qf2 p i hA
 have hga:=Zjb l p hA
 have hvs:=Qfm hV _ hA
 have f2:=Qzm p[i] B _ _ _ (hp _ (List.getElem_mem hA)) hvs hB (Ql8 (.inl rfl) hw (posS p[i] 0) (posS p[i] 1) (posS p[i] 2) p[i].f) (Ql8 (.inr (.inl rfl)) hw (posS p[i] 0) (posS p[i] 1) (posS p[i] 2) p[i].f) (Ql8 (.inr (.inr rfl)) hw (posS p[i] 0) (posS p[i] 1) (posS p[i] 2) p[i].f)
 have hcw:Qfi p[i] B (atW Wd.ux l (posS p[i] 0) (posS p[i] 1) (posS p[i] 2) p[i].f) (atW Wd.uy l (posS p[i] 0) (posS p[i] 1) (posS p[i] 2) p[i].f) (atW Wd.uz l (posS p[i] 0) (posS p[i] 1) (posS p[i] 2) p[i].f)=(csL l B p).getD i 0:=(Zcj l B p hA).symm
 rw [hcw]at f2
 have hbd:=Qww hok i
 have hpre:=Qj0 (csL l B p) i
 have hnn:=Qqe hok i
 have hle:preI (csL l B p) i≤mxE:=by
  cases i with
  |zero=>exact(by decide:(0:Int)≤mxE)
  |succ i=>exact hall i (by omega)
 have hwk:=Qal (a:=i) (by omega)
 have hws:IntKind.i64.wrap (preI (csL l B p) i+(csL l B p).getD i 0)=preI (csL l B p) (i+1):=by rw [←hpre];unfold mxE at hle;exact Qai (by omega) (by omega)
 clear hcw
 generalize atW Wd.ux l (posS p[i] 0) (posS p[i] 1) (posS p[i] 2) p[i].f=w0 at*
 generalize atW Wd.uy l (posS p[i] 0) (posS p[i] 1) (posS p[i] 2) p[i].f=w1 at*
 generalize atW Wd.uz l (posS p[i] 0) (posS p[i] 1) (posS p[i] 2) p[i].f=w2 at*
 generalize p[i]=s at*
 unfold sgPV Qa9 baPV at f2
 by_cases hC:(csL l B p).getD i 0≤1125899906842624
 ·rw [decide_eq_true hC]at f2
  by_cases hS:1125899906842624<preI (csL l B p) (i+1)
  ·have hS':=eq_true hS
   have hce:cutE (csL l B p)=i:=Qoj (by omega) hall hS
   have hsm:(smL (csL l B p) i).length=i:=Qdy _ _
   have ht:((smL (csL l B p) i).map (PV.int .i64)).take i=(smL (csL l B p) i).map (PV.int .i64):=List.take_of_length_le (by simp [Qdy])
   have hk:=Qn4 (smL (csL l B p) i)
   rw [hce]
   generalize smL (csL l B p) i=SM at*
   generalize preI (csL l B p) (i+1)=P1 at*
   generalize preI (csL l B p) i=P0 at*
   generalize (csL l B p).getD i 0=C at*
   repeat (first|(simp -implicitDefEqProofs only [go_sem,Nat.reduceAdd,Nat.reduceMul,Nat.reduceEqDiff,Nat.reduceLT,Nat.reduceLeDiff,Nat.reduceSub,Nat.reduceBEq,reduceIte,reduceCtorEq,Int.reduceEq,Int.reduceNe,Nat.reduceBneDiff,Int.reduceLE,Int.reduceLT,Int.reduceToNat,Int.reduceAdd,Int.reduceSub,Int.reduceMul,Int.reduceNeg,hA',n0,hg,hga,hws,hS',hsm,ht,hk,Bool.not_true,decide_true,Int.toNat_natCast,List.length_map])|((with_reducible refine Qab (f2) ?_ ?_ ?_);(with_reducible rfl);rfl)|(with_reducible exact Qaa _ _ (by kernel_rfl))|(with_reducible refine And.intro (Qaa _ _ (by kernel_rfl)) ?_))
  ·have hS':=eq_false hS
   have hsn:=Q2w (csL l B p) i
   have hsm:(smL (csL l B p) i).length=i:=Qdy _ _
   have hk:=Qn4 (smL (csL l B p) i)
   have k1:((i+1)*8≤140737488355328)=True:=eq_true (by omega)
   have k2:(i+1≤maxLen)=True:=eq_true (by unfold maxLen;omega)
   have hall2: ∀j,j<i+1→preI (csL l B p) (j+1)≤mxE:=fun j hj=>by
    by_cases e:j=i
    ·subst e;unfold mxE;omega
    ·exact hall j (by omega)
   generalize hSM2:smL (csL l B p) (i+1)=SM2 at*
   generalize smL (csL l B p) i=SM at*
   generalize hP1:preI (csL l B p) (i+1)=P1 at*
   generalize preI (csL l B p) i=P0 at*
   generalize (csL l B p).getD i 0=C at*
   repeat (first|(simp -implicitDefEqProofs only [go_sem,Nat.reduceAdd,Nat.reduceMul,Nat.reduceEqDiff,Nat.reduceLT,Nat.reduceLeDiff,Nat.reduceSub,Nat.reduceBEq,reduceIte,reduceCtorEq,Int.reduceEq,Int.reduceNe,Nat.reduceBneDiff,Int.reduceLE,Int.reduceLT,Int.reduceToNat,Int.reduceAdd,Int.reduceSub,Int.reduceMul,Int.reduceNeg,hA',n0,hg,hga,hws,hwk,hS',hsm,hk,k1,k2,Bool.not_true,decide_false,Int.toNat_natCast,List.length_map])|((with_reducible refine Qab (f2) ?_ ?_ ?_);(with_reducible rfl);rfl)|(with_reducible exact Qaa _ _ (by kernel_rfl))|(with_reducible refine And.intro (Qaa _ _ (by kernel_rfl)) ?_))
   refine⟨⟨i+1,hA,hall2⟩,by simp only;omega,Qap (θ:=[(0,0),(7,1203)]) rfl ?_ ?_⟩
   ·simp only [hP1]
    simp [Qaf,lkp,ren1,ren0,Qav]
   ·simp only [hSM2,hsn]
    refine⟨⟨rfl,rfl,rfl,rfl,rfl,.inr ⟨rfl,_,_,rfl,rfl,rfl,rfl⟩⟩,⟨rfl,rfl,rfl,rfl,rfl,.inl ⟨rfl,?_⟩⟩,trivial⟩
    simp
 ·rw [decide_eq_false hC]at f2
  have hS:mxE<preI (csL l B p) (i+1):=by unfold mxE;omega
  have hce:cutE (csL l B p)=i:=Qoj (by omega) hall hS
  have hsm:(smL (csL l B p) i).length=i:=Qdy _ _
  have ht:((smL (csL l B p) i).map (PV.int .i64)).take i=(smL (csL l B p) i).map (PV.int .i64):=List.take_of_length_le (by simp [Qdy])
  have hk:=Qn4 (smL (csL l B p) i)
  rw [hce]
  generalize smL (csL l B p) i=SM at*
  generalize preI (csL l B p) (i+1)=P1 at*
  generalize preI (csL l B p) i=P0 at*
  generalize (csL l B p).getD i 0=C at*
  repeat (first|(simp -implicitDefEqProofs only [go_sem,Nat.reduceAdd,Nat.reduceMul,Nat.reduceEqDiff,Nat.reduceLT,Nat.reduceLeDiff,Nat.reduceSub,Nat.reduceBEq,reduceIte,reduceCtorEq,Int.reduceEq,Int.reduceNe,Nat.reduceBneDiff,Int.reduceLE,Int.reduceLT,Int.reduceToNat,Int.reduceAdd,Int.reduceSub,Int.reduceMul,Int.reduceNeg,hA',n0,hg,hga,hws,hsm,ht,hk,Bool.not_false,Int.toNat_natCast,List.length_map])|((with_reducible refine Qab (f2) ?_ ?_ ?_);(with_reducible rfl);rfl)|(with_reducible exact Qaa _ _ (by kernel_rfl))|(with_reducible refine And.intro (Qaa _ _ (by kernel_rfl)) ?_))
end Go.Proofs.YtciddhkfbgkejaaDoor

namespace Go.Proofs.YtciddhkfbgkejaaDoor
open Go.Vl Go.RowKit Go.Dg
def totE (l:List Wd) (B:Bat) (p:List Sg):Int:=preI (csL l B p) p.length
def enPV (l:List Wd) (B:Bat) (p:List Sg):PV:=if Qgi p B l=true then(if totE l B p≤mxE then .tup [.int .i64 (totE l B p),.int .i64 0]else .tup [.int .i64 0,.int .i64 7])else .tup [.int .i64 0,.int .i64 2]
def lePV (l:List Wd) (B:Bat) (p:List Sg):PV:=if Qgi p B l=true then(if totE l B p≤mxE then .tup [.int .i64 (B.cap-totE l B p),.int .i64 0]else .tup [.int .i64 0,.int .i64 7])else .tup [.int .i64 0,.int .i64 2]
def ehPV (l:List Wd) (B:Bat) (p:List Sg):PV:=if Qgi p B l=true then(if totE l B p≤mxE then .tup [.bool (decide (B.res≤B.cap-totE l B p)),.int .i64 0]else .tup [.bool false,.int .i64 7])else .tup [.bool false,.int .i64 2]
def rcPV (l:List Wd) (B:Bat) (p:List Sg):PV:=if Qgi p B l=true then .tup [.int .i64 ((rcN (csL l B p) B:Nat):Int),.int .i64 0]else .tup [.int .i64 0,.int .i64 2]
theorem Qg2 {p:List Sg} {B:Bat} {l:List Wd} (h:Qgi p B l=true):Qbq p=true∧Qax B=true∧Qbj l=true:=by
 simpa only [Qgi,Bool.and_eq_true]using h
theorem Zaa {cs:List Int} {k i:Nat} (h:i<k):((smL cs k).map (PV.int .i64))[i]? =some (.int .i64 (preI cs (i+1))):=by
 rw [List.getElem?_map,List.getElem?_eq_getElem (by rw [Qdy];exact h)]
 have:=Zar (cs:=cs) h
 rw [List.getD_eq_getElem?_getD,List.getElem?_eq_getElem (by rw [Qdy];exact h)]at this
 simp only [Option.getD_some]at this
 rw [Option.map_some,this]
set_option maxHeartbeats 4000000 in
theorem Qk4 (p:List Sg) (B:Bat) (l:List Wd) (hp: ∀s∈p,okSg s) (hl:l.length≤maxLen) (hpl:p.length≤1000000):Qae Tryd.prog 7 [Qc4 p,baPV B,wsPV l] (enPV l B p):=by
 have h:=Qzp p B l hp hl hpl
 unfold enPV
 unfold Qc4 baPV at h ⊢
 cases hO:Qgi p B l with
 |false=>
  rw [hO]at h
  refine Qac (tb:=[]) 33 [.tmp 6,.tmp 7] [0,1,2,4,6,7,8,9,17,21] mixed Tryd.func7 rfl (by kernel_rfl) (by kernel_rfl) (by kernel_rfl) (by kernel_rfl) ?_
  repeat (first|(simp -implicitDefEqProofs only [go_sem,Nat.reduceAdd,Nat.reduceMul,Nat.reduceEqDiff,Nat.reduceLT,Nat.reduceLeDiff,Nat.reduceSub,Nat.reduceBEq,reduceIte,reduceCtorEq,Int.reduceEq,Int.reduceNe,Nat.reduceBneDiff,Int.reduceLE,Int.reduceLT,Int.reduceToNat,Int.reduceAdd,Int.reduceSub,Int.reduceMul,Int.reduceNeg,Zcw,Bool.false_eq_true])|((with_reducible refine Qab (h) ?_ ?_ ?_);(with_reducible rfl);rfl))
 |true=>
  rw [hO]at h
  simp only [if_true]at h ⊢
  obtain⟨hV,hB,hw⟩:=Qg2 hO
  have hok:=Qtq hV hB hw
  have hcl:=Qrq l B p
  obtain⟨-,l1,l2⟩:=Qcg hV
  obtain⟨c1,c2⟩:=Qwx hok (by omega)
  rw [hcl]at c1 c2
  have hsl:=Qdy (csL l B p) (cutE (csL l B p))
  unfold totE
  by_cases hT:preI (csL l B p) p.length≤mxE
  ·have hce:=c1 hT
   rw [hce]at h hsl
   rw [if_pos hT]
   have lt:((p.length:Int)<(p.length:Int))=False:=eq_false (Int.lt_irrefl _)
   have wl:=Qjr (n:=p.length) (by omega) (by omega)
   have n1:=nnT (p.length-1)
   have hg:=Zaa (cs:=csL l B p) (show p.length-1<p.length by omega)
   rw [Nat.sub_add_cancel l1]at hg
   generalize preI (csL l B p) p.length=T at*
   generalize smL (csL l B p) p.length=SM at*
   refine Qac (tb:=[]) 33 [.tmp 6,.tmp 7] [0,1,2,4,6,7,8,9,17,21] mixed Tryd.func7 rfl (by kernel_rfl) (by kernel_rfl) (by kernel_rfl) (by kernel_rfl) ?_
   repeat (first|(simp -implicitDefEqProofs only [go_sem,Nat.reduceAdd,Nat.reduceMul,Nat.reduceEqDiff,Nat.reduceLT,Nat.reduceLeDiff,Nat.reduceSub,Nat.reduceBEq,reduceIte,reduceCtorEq,Int.reduceEq,Int.reduceNe,Nat.reduceBneDiff,Int.reduceLE,Int.reduceLT,Int.reduceToNat,Int.reduceAdd,Int.reduceSub,Int.reduceMul,Int.reduceNeg,Q4r,hsl,lt,wl,n1,hg,Int.toNat_natCast,List.length_map])|((with_reducible refine Qab (h) ?_ ?_ ?_);(with_reducible rfl);rfl))
  ·have hce:=c2 (by omega)
   rw [if_neg hT]
   have lt:((cutE (csL l B p):Int)<(p.length:Int))=True:=eq_true (by omega)
   generalize cutE (csL l B p)=K at*
   generalize smL (csL l B p) K=SM at*
   refine Qac (tb:=[]) 33 [.tmp 6,.tmp 7] [0,1,2,4,6,7,8,9,17,21] mixed Tryd.func7 rfl (by kernel_rfl) (by kernel_rfl) (by kernel_rfl) (by kernel_rfl) ?_
   repeat (first|(simp -implicitDefEqProofs only [go_sem,Nat.reduceAdd,Nat.reduceMul,Nat.reduceEqDiff,Nat.reduceLT,Nat.reduceLeDiff,Nat.reduceSub,Nat.reduceBEq,reduceIte,reduceCtorEq,Int.reduceEq,Int.reduceNe,Nat.reduceBneDiff,Int.reduceLE,Int.reduceLT,Int.reduceToNat,Int.reduceAdd,Int.reduceSub,Int.reduceMul,Int.reduceNeg,Q4r,hsl,lt,List.length_map])|((with_reducible refine Qab (h) ?_ ?_ ?_);(with_reducible rfl);rfl))
set_option maxHeartbeats 4000000 in
theorem Zck (p:List Sg) (B:Bat) (l:List Wd) (hp: ∀s∈p,okSg s) (hl:l.length≤maxLen) (hpl:p.length≤1000000):Qae Tryd.prog 16 [Qc4 p,baPV B,wsPV l] (lePV l B p):=by
 have h:=Qk4 p B l hp hl hpl
 unfold enPV at h
 unfold lePV
 unfold Qc4 baPV at h ⊢
 cases hO:Qgi p B l with
 |false=>
  rw [hO]at h
  simp only [Bool.false_eq_true,if_false]at h ⊢
  refine Qac (tb:=[]) 24 [.tmp 6,.tmp 7] [0,1,2,4,6,7,8,9,18] mixed Tryd.func16 rfl (by kernel_rfl) (by kernel_rfl) (by kernel_rfl) (by kernel_rfl) ?_
  repeat (first|(simp -implicitDefEqProofs only [go_sem,Nat.reduceAdd,Nat.reduceMul,Nat.reduceEqDiff,Nat.reduceLT,Nat.reduceLeDiff,Nat.reduceSub,Nat.reduceBEq,reduceIte,reduceCtorEq,Int.reduceEq,Int.reduceNe,Nat.reduceBneDiff,Int.reduceLE,Int.reduceLT,Int.reduceToNat,Int.reduceAdd,Int.reduceSub,Int.reduceMul,Int.reduceNeg,Zcw])|((with_reducible refine Qab (h) ?_ ?_ ?_);(with_reducible rfl);rfl))
 |true=>
  rw [hO]at h
  simp only [if_true]at h ⊢
  obtain⟨hV,hB,hw⟩:=Qg2 hO
  have hnn:=Qqe (Qtq hV hB hw) p.length
  obtain⟨-, -, -,b1,b2,b3⟩:=Qcp hB
  have e:preI (csL l B p) p.length=totE l B p:=rfl
  rw [e]at hnn
  by_cases hT:totE l B p≤mxE
  ·rw [if_pos hT]at h ⊢
   unfold mxE at hT
   have hw1:IntKind.i64.wrap (B.cap-totE l B p)=B.cap-totE l B p:=Qai (by omega) (by omega)
   generalize totE l B p=T at*
   refine Qac (tb:=[]) 24 [.tmp 6,.tmp 7] [0,1,2,4,6,7,8,9,18] mixed Tryd.func16 rfl (by kernel_rfl) (by kernel_rfl) (by kernel_rfl) (by kernel_rfl) ?_
   repeat (first|(simp -implicitDefEqProofs only [go_sem,Nat.reduceAdd,Nat.reduceMul,Nat.reduceEqDiff,Nat.reduceLT,Nat.reduceLeDiff,Nat.reduceSub,Nat.reduceBEq,reduceIte,reduceCtorEq,Int.reduceEq,Int.reduceNe,Nat.reduceBneDiff,Int.reduceLE,Int.reduceLT,Int.reduceToNat,Int.reduceAdd,Int.reduceSub,Int.reduceMul,Int.reduceNeg,Q4r,hw1])|((with_reducible refine Qab (h) ?_ ?_ ?_);(with_reducible rfl);rfl))
  ·rw [if_neg hT]at h ⊢
   refine Qac (tb:=[]) 24 [.tmp 6,.tmp 7] [0,1,2,4,6,7,8,9,18] mixed Tryd.func16 rfl (by kernel_rfl) (by kernel_rfl) (by kernel_rfl) (by kernel_rfl) ?_
   repeat (first|(simp -implicitDefEqProofs only [go_sem,Nat.reduceAdd,Nat.reduceMul,Nat.reduceEqDiff,Nat.reduceLT,Nat.reduceLeDiff,Nat.reduceSub,Nat.reduceBEq,reduceIte,reduceCtorEq,Int.reduceEq,Int.reduceNe,Nat.reduceBneDiff,Int.reduceLE,Int.reduceLT,Int.reduceToNat,Int.reduceAdd,Int.reduceSub,Int.reduceMul,Int.reduceNeg,Zjp])|((with_reducible refine Qab (h) ?_ ?_ ?_);(with_reducible rfl);rfl))
set_option maxHeartbeats 4000000 in
theorem Qp0 (p:List Sg) (B:Bat) (l:List Wd) (hp: ∀s∈p,okSg s) (hl:l.length≤maxLen) (hpl:p.length≤1000000):Qae Tryd.prog 9 [Qc4 p,baPV B,wsPV l] (ehPV l B p):=by
 have h:=Zck p B l hp hl hpl
 unfold lePV at h
 unfold ehPV
 unfold Qc4 baPV at h ⊢
 cases hO:Qgi p B l with
 |false=>
  rw [hO]at h
  simp only [Bool.false_eq_true,if_false]at h ⊢
  refine Qac (tb:=[]) 26 [.tmp 6,.tmp 7] [0,1,2,4,6,7,8,9] mixed Tryd.func9 rfl (by kernel_rfl) (by kernel_rfl) (by kernel_rfl) (by kernel_rfl) ?_
  repeat (first|(simp -implicitDefEqProofs only [go_sem,Nat.reduceAdd,Nat.reduceMul,Nat.reduceEqDiff,Nat.reduceLT,Nat.reduceLeDiff,Nat.reduceSub,Nat.reduceBEq,reduceIte,reduceCtorEq,Int.reduceEq,Int.reduceNe,Nat.reduceBneDiff,Int.reduceLE,Int.reduceLT,Int.reduceToNat,Int.reduceAdd,Int.reduceSub,Int.reduceMul,Int.reduceNeg,Zjo])|((with_reducible refine Qab (h) ?_ ?_ ?_);(with_reducible rfl);rfl))
 |true=>
  rw [hO]at h
  simp only [if_true]at h ⊢
  by_cases hT:totE l B p≤mxE
  ·rw [if_pos hT]at h ⊢
   generalize B.cap-totE l B p=T at*
   refine Qac (tb:=[]) 26 [.tmp 6,.tmp 7] [0,1,2,4,6,7,8,9] mixed Tryd.func9 rfl (by kernel_rfl) (by kernel_rfl) (by kernel_rfl) (by kernel_rfl) ?_
   repeat (first|(simp -implicitDefEqProofs only [go_sem,Nat.reduceAdd,Nat.reduceMul,Nat.reduceEqDiff,Nat.reduceLT,Nat.reduceLeDiff,Nat.reduceSub,Nat.reduceBEq,reduceIte,reduceCtorEq,Int.reduceEq,Int.reduceNe,Nat.reduceBneDiff,Int.reduceLE,Int.reduceLT,Int.reduceToNat,Int.reduceAdd,Int.reduceSub,Int.reduceMul,Int.reduceNeg,Qk7])|((with_reducible refine Qab (h) ?_ ?_ ?_);(with_reducible rfl);rfl))
  ·rw [if_neg hT]at h ⊢
   refine Qac (tb:=[]) 26 [.tmp 6,.tmp 7] [0,1,2,4,6,7,8,9] mixed Tryd.func9 rfl (by kernel_rfl) (by kernel_rfl) (by kernel_rfl) (by kernel_rfl) ?_
   repeat (first|(simp -implicitDefEqProofs only [go_sem,Nat.reduceAdd,Nat.reduceMul,Nat.reduceEqDiff,Nat.reduceLT,Nat.reduceLeDiff,Nat.reduceSub,Nat.reduceBEq,reduceIte,reduceCtorEq,Int.reduceEq,Int.reduceNe,Nat.reduceBneDiff,Int.reduceLE,Int.reduceLT,Int.reduceToNat,Int.reduceAdd,Int.reduceSub,Int.reduceMul,Int.reduceNeg,Zjq])|((with_reducible refine Qab (h) ?_ ?_ ?_);(with_reducible rfl);rfl))
set_option maxHeartbeats 4000000 in
theorem Q4k (p:List Sg) (B:Bat) (l:List Wd) (hp: ∀s∈p,okSg s) (hl:l.length≤maxLen) (hpl:p.length≤1000000):Qae Tryd.prog 8 [Qc4 p,baPV B,wsPV l] (rcPV l B p):=by
 have h:=Qzp p B l hp hl hpl
 unfold rcPV
 unfold Qc4 baPV at h ⊢
 cases hO:Qgi p B l with
 |false=>
  rw [hO]at h
  simp only [Bool.false_eq_true,if_false]at h ⊢
  refine Qac (tb:=[]) 39 [.tmp 6,.tmp 7] [0,1,2,4,6,7,8,9,10,11,19,20,21,22,32] mixed Tryd.func8 rfl (by kernel_rfl) (by kernel_rfl) (by kernel_rfl) (by kernel_rfl) ?_
  repeat (first|(simp -implicitDefEqProofs only [go_sem,Nat.reduceAdd,Nat.reduceMul,Nat.reduceEqDiff,Nat.reduceLT,Nat.reduceLeDiff,Nat.reduceSub,Nat.reduceBEq,reduceIte,reduceCtorEq,Int.reduceEq,Int.reduceNe,Nat.reduceBneDiff,Int.reduceLE,Int.reduceLT,Int.reduceToNat,Int.reduceAdd,Int.reduceSub,Int.reduceMul,Int.reduceNeg])|((with_reducible refine Qab (h) ?_ ?_ ?_);(with_reducible rfl);rfl))
  refine Qbe mixed [0] ?_
  have z:((0:Int)<((0:Nat):Int))=False:=eq_false (by decide)
  repeat (first|(simp -implicitDefEqProofs only [go_sem,Nat.reduceAdd,Nat.reduceMul,Nat.reduceEqDiff,Nat.reduceLT,Nat.reduceLeDiff,Nat.reduceSub,Nat.reduceBEq,reduceIte,reduceCtorEq,Int.reduceEq,Int.reduceNe,Nat.reduceBneDiff,Int.reduceLE,Int.reduceLT,Int.reduceToNat,Int.reduceAdd,Int.reduceSub,Int.reduceMul,Int.reduceNeg,z]))
 |true=>
  rw [hO]at h
  simp only [if_true]at h ⊢
  obtain⟨hV,hB,hw⟩:=Qg2 hO
  have hok:=Qtq hV hB hw
  have hcl:=Qrq l B p
  obtain⟨-, -, -,b1,b2,b3⟩:=Qcp hB
  have hcut:=Qwy (csL l B p)
  have hclt:=fun j h=>Zas (cs:=csL l B p) (j:=j) h
  have hcat:=Zat (cs:=csL l B p)
  have hsl:=Qdy (csL l B p) (cutE (csL l B p))
  have hpl2:=(Qcg hV).2.2
  have hget:=fun i h=>Zaa (cs:=csL l B p) (k:=cutE (csL l B p)) (i:=i) h
  generalize csL l B p=cs at*
  generalize hK:cutE cs=K at*
  refine Qac (tb:=[]) 39 [.tmp 6,.tmp 7] [0,1,2,4,6,7,8,9,10,11,19,20,21,22,32] mixed Tryd.func8 rfl (by kernel_rfl) (by kernel_rfl) (by kernel_rfl) (by kernel_rfl) ?_
  repeat (first|(simp -implicitDefEqProofs only [go_sem,Nat.reduceAdd,Nat.reduceMul,Nat.reduceEqDiff,Nat.reduceLT,Nat.reduceLeDiff,Nat.reduceSub,Nat.reduceBEq,reduceIte,reduceCtorEq,Int.reduceEq,Int.reduceNe,Nat.reduceBneDiff,Int.reduceLE,Int.reduceLT,Int.reduceToNat,Int.reduceAdd,Int.reduceSub,Int.reduceMul,Int.reduceNeg,hsl,List.length_map])|((with_reducible refine Qab (h) ?_ ?_ ?_);(with_reducible rfl);rfl))
  refine Qa5 mixed (fun i:{i:Nat // i≤K∧ ∀j,j<i→okE cs B (j+1)=true}=>St.of [(4,.bp 0 5 0 0),(8,.slc ((smL cs K).map (PV.int .i64))),(9,.int .i64 0),(19,.slc ((smL cs K).map (PV.int .i64))),(20,.int .i64 (K:Int)),(21,.int .i64 (i.1:Int))] [(0,{els:=[baPV B],esz:=5,ety:=23,fro:=0,live:=true,arr:=false})]) (fun i=>K-i.1) ⟨0,Nat.zero_le _,fun j hj=>by omega⟩ ?_ ?_
  ·refine Qap (θ:=[(0,0)]) rfl ?_ ?_
   ·simp [Qaf,lkp,ren1,ren0,Qav]
   ·exact⟨⟨rfl,rfl,rfl,rfl,rfl,.inr ⟨rfl,_,_,rfl,rfl,rfl,rfl⟩⟩,trivial⟩
  rintro⟨i,hi,hall⟩
  simp only
  by_cases hA:i<K
  ·have hA':=ltT hA
   have n0:=nnT i
   have hg:=hget i hA
   have hc:=hclt i hA
   have hnn:=Qqe hok (i+1)
   unfold mxE at hc
   have hwk:=Qal (a:=i) (by omega)
   have hws:IntKind.i64.wrap (B.cap-preI cs (i+1))=B.cap-preI cs (i+1):=Qai (by omega) (by omega)
   by_cases hR:B.cap-preI cs (i+1)<B.res
   ·have hR':=eq_true hR
    have hr:rcN cs B=i:=Qsd (by omega) hall (Zaw hR)
    rw [hr]
    generalize preI cs (i+1)=P1 at*
    repeat (first|(simp -implicitDefEqProofs only [go_sem,Nat.reduceAdd,Nat.reduceMul,Nat.reduceEqDiff,Nat.reduceLT,Nat.reduceLeDiff,Nat.reduceSub,Nat.reduceBEq,reduceIte,reduceCtorEq,Int.reduceEq,Int.reduceNe,Nat.reduceBneDiff,Int.reduceLE,Int.reduceLT,Int.reduceToNat,Int.reduceAdd,Int.reduceSub,Int.reduceMul,Int.reduceNeg,hA',n0,hg,hws,hR',Int.toNat_natCast]))
   ·have hR':=eq_false hR
    have hall2: ∀j,j<i+1→okE cs B (j+1)=true:=fun j hj=>by
     by_cases e:j=i
     ·subst e;exact Q2x (by unfold mxE;omega) (by omega)
     ·exact hall j (by omega)
    generalize preI cs (i+1)=P1 at*
    repeat (first|(simp -implicitDefEqProofs only [go_sem,Nat.reduceAdd,Nat.reduceMul,Nat.reduceEqDiff,Nat.reduceLT,Nat.reduceLeDiff,Nat.reduceSub,Nat.reduceBEq,reduceIte,reduceCtorEq,Int.reduceEq,Int.reduceNe,Nat.reduceBneDiff,Int.reduceLE,Int.reduceLT,Int.reduceToNat,Int.reduceAdd,Int.reduceSub,Int.reduceMul,Int.reduceNeg,hA',n0,hg,hws,hwk,hR',Int.toNat_natCast]))
    refine⟨⟨i+1,hA,hall2⟩,by simp only;omega,Qap (θ:=[(0,0)]) rfl ?_ ?_⟩
    ·simp [Qaf,lkp,ren1,ren0,Qav]
    ·exact⟨⟨rfl,rfl,rfl,rfl,rfl,.inr ⟨rfl,_,_,rfl,rfl,rfl,rfl⟩⟩,trivial⟩
  ·have hA':=ltF hA
   obtain rfl:i=K:=by omega
   have hr:rcN cs B=i:=by
    by_cases e:i<cs.length
    ·exact Qsd e hall (Zav (hcat e))
    ·rw [Zau fun j hj=>hall j (by omega)];omega
   rw [hr]
   repeat (first|(simp -implicitDefEqProofs only [go_sem,Nat.reduceAdd,Nat.reduceMul,Nat.reduceEqDiff,Nat.reduceLT,Nat.reduceLeDiff,Nat.reduceSub,Nat.reduceBEq,reduceIte,reduceCtorEq,Int.reduceEq,Int.reduceNe,Nat.reduceBneDiff,Int.reduceLE,Int.reduceLT,Int.reduceToNat,Int.reduceAdd,Int.reduceSub,Int.reduceMul,Int.reduceNeg,hA',hsl,List.length_map]))
end Go.Proofs.YtciddhkfbgkejaaDoor

namespace Go.Proofs.YtciddhkfbgkejaaDoor
open Go.Vl Go.RowKit Go.Dg
end Go.Proofs.YtciddhkfbgkejaaDoor

namespace Go.Proofs.YtciddhkfbgkejaaDoor
open Go.Vl Go.RowKit Go.Dg
def trmL (a b:Int) (k:Int):List Int:=if b-a=0∨k=2 then [a]else if k=1 then [a,b-a]else [a,0,0,10*(b-a), -15*(b-a),6*(b-a)]
theorem Qny (a b k:Int) (ha: -1048576≤a∧a≤1048576) (hb: -1048576≤b∧b≤1048576):Qae Tryd.prog 11 [.int .i64 a,.int .i64 b,.int .i64 k] (.slc ((trmL a b k).map (PV.int .i64))):=by
 have w0:IntKind.i64.wrap (b-a)=b-a:=Qai (by omega) (by omega)
 have w1:IntKind.i64.wrap (10*(b-a))=10*(b-a):=Qai (by omega) (by omega)
 have w2:IntKind.i64.wrap (-15*(b-a))= -15*(b-a):=Qai (by omega) (by omega)
 have w3:IntKind.i64.wrap (6*(b-a))=6*(b-a):=Qai (by omega) (by omega)
 unfold trmL
 by_cases c1:b-a=0
 ·rw [if_pos (.inl c1)]
  have c1':((b-a)==0)=true:=by rw [c1];rfl
  refine Qac (tb:=[]) 32 [.tmp 6] [0,1,2,6,7,16,20] mixed Tryd.func11 rfl (by kernel_rfl) (by kernel_rfl) (by kernel_rfl) (by kernel_rfl) ?_
  repeat (first|(simp -implicitDefEqProofs only [go_sem,Nat.reduceAdd,Nat.reduceMul,Nat.reduceEqDiff,Nat.reduceLT,Nat.reduceLeDiff,Nat.reduceSub,Nat.reduceBEq,reduceIte,reduceCtorEq,Int.reduceEq,Int.reduceNe,Nat.reduceBneDiff,Int.reduceLE,Int.reduceLT,Int.reduceToNat,Int.reduceAdd,Int.reduceSub,Int.reduceMul,Int.reduceNeg,w0,c1',List.map_cons,List.map_nil]))
 have c1':((b-a)==0)=false:=by simpa using c1
 by_cases c2:k=2
 ·rw [if_pos (.inr c2)]
  have c2':(k==2)=true:=by rw [c2];rfl
  refine Qac (tb:=[]) 32 [.tmp 6] [0,1,2,6,7,16,20] mixed Tryd.func11 rfl (by kernel_rfl) (by kernel_rfl) (by kernel_rfl) (by kernel_rfl) ?_
  repeat (first|(simp -implicitDefEqProofs only [go_sem,Nat.reduceAdd,Nat.reduceMul,Nat.reduceEqDiff,Nat.reduceLT,Nat.reduceLeDiff,Nat.reduceSub,Nat.reduceBEq,reduceIte,reduceCtorEq,Int.reduceEq,Int.reduceNe,Nat.reduceBneDiff,Int.reduceLE,Int.reduceLT,Int.reduceToNat,Int.reduceAdd,Int.reduceSub,Int.reduceMul,Int.reduceNeg,w0,c1',c2',List.map_cons,List.map_nil]))
 have c2':(k==2)=false:=by simpa using c2
 rw [if_neg (by omega)]
 by_cases c3:k=1
 ·rw [if_pos c3]
  have c3':(k==1)=true:=by rw [c3];rfl
  refine Qac (tb:=[]) 32 [.tmp 6] [0,1,2,6,7,16,20] mixed Tryd.func11 rfl (by kernel_rfl) (by kernel_rfl) (by kernel_rfl) (by kernel_rfl) ?_
  repeat (first|(simp -implicitDefEqProofs only [go_sem,Nat.reduceAdd,Nat.reduceMul,Nat.reduceEqDiff,Nat.reduceLT,Nat.reduceLeDiff,Nat.reduceSub,Nat.reduceBEq,reduceIte,reduceCtorEq,Int.reduceEq,Int.reduceNe,Nat.reduceBneDiff,Int.reduceLE,Int.reduceLT,Int.reduceToNat,Int.reduceAdd,Int.reduceSub,Int.reduceMul,Int.reduceNeg,w0,c1',c2',c3',List.map_cons,List.map_nil]))
 have c3':(k==1)=false:=by simpa using c3
 rw [if_neg c3]
 refine Qac (tb:=[]) 32 [.tmp 6] [0,1,2,6,7,16,20] mixed Tryd.func11 rfl (by kernel_rfl) (by kernel_rfl) (by kernel_rfl) (by kernel_rfl) ?_
 repeat (first|(simp -implicitDefEqProofs only [go_sem,Nat.reduceAdd,Nat.reduceMul,Nat.reduceEqDiff,Nat.reduceLT,Nat.reduceLeDiff,Nat.reduceSub,Nat.reduceBEq,reduceIte,reduceCtorEq,Int.reduceEq,Int.reduceNe,Nat.reduceBneDiff,Int.reduceLE,Int.reduceLT,Int.reduceToNat,Int.reduceAdd,Int.reduceSub,Int.reduceMul,Int.reduceNeg,w0,w1,w2,w3,c1',c2',c3',List.map_cons,List.map_nil]))
def legS (ax ay az bx byy bz f t k:Int):Sg:=⟨f,t,1,trmL ax bx k,trmL ay byy k,trmL az bz k⟩
theorem Qi5 (ax ay az bx byy bz f t k:Int) (h1: -1048576≤ax∧ax≤1048576) (h2: -1048576≤ay∧ay≤1048576) (h3: -1048576≤az∧az≤1048576) (h4: -1048576≤bx∧bx≤1048576) (h5: -1048576≤byy∧byy≤1048576) (h6: -1048576≤bz∧bz≤1048576):
  Qae Tryd.prog 4 [.agg [.int .i64 ax,.int .i64 ay,.int .i64 az],.agg [.int .i64 bx,.int .i64 byy,.int .i64 bz],.int .i64 f,.int .i64 t,.int .i64 k] (sgPV (legS ax ay az bx byy bz f t k)):=by
 have f1:=Qny ax bx k h1 h4
 have f2:=Qny ay byy k h2 h5
 have f3:=Qny az bz k h3 h6
 have e:sgPV (legS ax ay az bx byy bz f t k)= .agg [.int .i64 f,.int .i64 t,.int .i64 1,.slc ((trmL ax bx k).map (PV.int .i64)),.slc ((trmL ay byy k).map (PV.int .i64)),.slc ((trmL az bz k).map (PV.int .i64))]:=rfl
 rw [e]
 clear e
 generalize (trmL ax bx k).map (PV.int .i64)=L1 at*
 generalize (trmL ay byy k).map (PV.int .i64)=L2 at*
 generalize (trmL az bz k).map (PV.int .i64)=L3 at*
 refine Qac (tb:=[]) 32 [.cell 10 26] [0,1,2,3,4,5,6,10] mixed Tryd.func4 rfl (by kernel_rfl) (by kernel_rfl) (by kernel_rfl) (by kernel_rfl) ?_
 repeat (first|(simp -implicitDefEqProofs only [go_sem,Nat.reduceAdd,Nat.reduceMul,Nat.reduceEqDiff,Nat.reduceLT,Nat.reduceLeDiff,Nat.reduceSub,Nat.reduceBEq,reduceIte,reduceCtorEq,Int.reduceEq,Int.reduceNe,Nat.reduceBneDiff,Int.reduceLE,Int.reduceLT,Int.reduceToNat,Int.reduceAdd,Int.reduceSub,Int.reduceMul,Int.reduceNeg])|((with_reducible refine Qab (f1) ?_ ?_ ?_);(with_reducible rfl);rfl)|((with_reducible refine Qab (f2) ?_ ?_ ?_);(with_reducible rfl);rfl)|((with_reducible refine Qab (f3) ?_ ?_ ?_);(with_reducible rfl);rfl)|(with_reducible exact Qaa _ _ (by kernel_rfl))|(with_reducible refine And.intro (Qaa _ _ (by kernel_rfl)) ?_))
def gBat:Bat:=⟨100,50,200,10000,1000⟩
theorem Qpx:Qae Tryd.prog 32 [] (baPV gBat):=by
 unfold baPV gBat
 refine Qac (tb:=[]) 2 [.cell 0 23] [0] mixed Tryd.func32 rfl (by kernel_rfl) (by kernel_rfl) (by kernel_rfl) (by kernel_rfl) ?_
 repeat (first|(simp -implicitDefEqProofs only [go_sem,Nat.reduceAdd,Nat.reduceMul,Nat.reduceEqDiff,Nat.reduceLT,Nat.reduceLeDiff,Nat.reduceSub,Nat.reduceBEq,reduceIte,reduceCtorEq,Int.reduceEq,Int.reduceNe,Nat.reduceBneDiff,Int.reduceLE,Int.reduceLT,Int.reduceToNat,Int.reduceAdd,Int.reduceSub,Int.reduceMul,Int.reduceNeg]))
theorem Qej (x y z:Int):Qae Tryd.prog 5 [.int .i64 x,.int .i64 y,.int .i64 z] (.agg [.int .i64 x,.int .i64 y,.int .i64 z]):=by
 refine Qac (tb:=[]) 11 [.cell 6 29] [0,1,2,6] mixed Tryd.func5 rfl (by kernel_rfl) (by kernel_rfl) (by kernel_rfl) (by kernel_rfl) ?_
 repeat (first|(simp -implicitDefEqProofs only [go_sem,Nat.reduceAdd,Nat.reduceMul,Nat.reduceEqDiff,Nat.reduceLT,Nat.reduceLeDiff,Nat.reduceSub,Nat.reduceBEq,reduceIte,reduceCtorEq,Int.reduceEq,Int.reduceNe,Nat.reduceBneDiff,Int.reduceLE,Int.reduceLT,Int.reduceToNat,Int.reduceAdd,Int.reduceSub,Int.reduceMul,Int.reduceNeg]))
def sgB (s:Sg):Bool:=decide (-9223372036854775808≤s.f∧s.f≤9223372036854775807)&&(decide (-9223372036854775808≤s.t∧s.t≤9223372036854775807)&&(decide (-9223372036854775808≤s.o∧s.o≤9223372036854775807)&&(s.ax.all fun c=>c.all (fun x=>decide (-9223372036854775808≤x∧x≤9223372036854775807))&&decide (c.length≤1000))))
theorem Qtn {s:Sg} (h:sgB s=true):okSg s:=by
 unfold sgB at h
 simp only [Bool.and_eq_true,decide_eq_true_eq,List.all_eq_true]at h
 obtain⟨h1,h2,h3,h4⟩:=h
 exact⟨h1,h2,h3,fun c hc=>(h4 c hc).1,fun c hc=>(h4 c hc).2⟩
theorem Qdu (ax ay az bx byy bz time kind wx wy wz want:Int) (hp:([ax,ay,az,bx,byy,bz].all fun x=>decide (-1048576≤x)&&decide (x≤1048576))=true) (hs:sgB (legS ax ay az bx byy bz 0 time kind)=true) (hv:Qbd (legS ax ay az bx byy bz 0 time kind)=true)
  (hw:(blB wx&&(blB wy&&blB wz))=true) (hc:Qfi (legS ax ay az bx byy bz 0 time kind) gBat wx wy wz=want) (hle:want≤mxE):
  Qae Tryd.prog 17 [.agg [.int .i64 ax,.int .i64 ay,.int .i64 az],.agg [.int .i64 bx,.int .i64 byy,.int .i64 bz],.int .i64 time,.int .i64 kind,.agg [.int .i64 wx,.int .i64 wy,.int .i64 wz],.int .i64 want] (.bool true):=by
 simp only [List.all_cons,List.all_nil,Bool.and_true,Bool.and_eq_true]at hp
 simp only [Bool.and_eq_true]at hw
 obtain⟨p1,p2,p3,p4,p5,p6⟩:=hp
 have f1:=Qi5 ax ay az bx byy bz 0 time kind (by simpa using p1) (by simpa using p2) (by simpa using p3) (by simpa using p4) (by simpa using p5) (by simpa using p6)
 have f2:=Qpx
 have f3:=Qzo (legS ax ay az bx byy bz 0 time kind) gBat wx wy wz (Qtn hs)
 have hB:Qax gBat=true:=by decide+kernel
 rw [Qrp hw.1 hw.2.1 hw.2.2 hv hB,hc,if_pos hle]at f3
 have eb:baPV gBat= .agg [.int .i64 100,.int .i64 50,.int .i64 200,.int .i64 10000,.int .i64 1000]:=rfl
 rw [eb]at f2 f3
 obtain⟨S1,S2,S3,S4,S5,S6,hS⟩: ∃S1 S2 S3 S4 S5 S6,sgPV (legS ax ay az bx byy bz 0 time kind)= .agg [.int .i64 S1,.int .i64 S2,.int .i64 S3,.slc S4,.slc S5,.slc S6]:=⟨_,_,_,_,_,_,rfl⟩
 rw [hS]at f1 f3
 refine Qac (tb:=[]) 33 [.tmp 12] [0,1,2,3,4,5,6,7,10,12,13,14] mixed Tryd.func17 rfl (by kernel_rfl) (by kernel_rfl) (by kernel_rfl) (by kernel_rfl) ?_
 repeat (first|(simp -implicitDefEqProofs only [go_sem,Nat.reduceAdd,Nat.reduceMul,Nat.reduceEqDiff,Nat.reduceLT,Nat.reduceLeDiff,Nat.reduceSub,Nat.reduceBEq,reduceIte,reduceCtorEq,Int.reduceEq,Int.reduceNe,Nat.reduceBneDiff,Int.reduceLE,Int.reduceLT,Int.reduceToNat,Int.reduceAdd,Int.reduceSub,Int.reduceMul,Int.reduceNeg,Qk7,beq_self_eq_true])|((with_reducible refine Qab (f1) ?_ ?_ ?_);(with_reducible rfl);rfl)|((with_reducible refine Qab (f2) ?_ ?_ ?_);(with_reducible rfl);rfl)|((with_reducible refine Qab (f3) ?_ ?_ ?_);(with_reducible rfl);rfl)|(with_reducible exact Qaa _ _ (by kernel_rfl))|(with_reducible refine And.intro (Qaa _ _ (by kernel_rfl)) ?_))
theorem Qvn {s:Sg} (h:Qbd s=true) (B:Bat) (hB:Qax B=true):Qgi [s] B []=true:=by
 unfold Qgi
 rw [Qp4 h,hB];rfl
theorem Qpy (n:Int) (b:Bool) (h0:0≤n) (h1:n≤3600) (hs:sgB (legS 0 0 0 0 0 0 0 (1000*n) 2)=true) (hv:Qbd (legS 0 0 0 0 0 0 0 (1000*n) 2)=true) (hc:totE [] gBat [legS 0 0 0 0 0 0 0 (1000*n) 2]≤mxE)
  (hb:decide (gBat.res≤gBat.cap-totE [] gBat [legS 0 0 0 0 0 0 0 (1000*n) 2])=b):Qae Tryd.prog 18 [.int .i64 n,.bool b] (.bool true):=by
 have g1:=Qej 0 0 0
 have f1:=Qi5 0 0 0 0 0 0 0 (1000*n) 2 (by decide) (by decide) (by decide) (by decide) (by decide) (by decide)
 have f2:=Qpx
 have f3:=Qp0 [legS 0 0 0 0 0 0 0 (1000*n) 2] gBat [] (fun s hs'=>by rw [List.mem_singleton.1 hs'];exact Qtn hs) (by decide) (by simp)
 have hB:Qax gBat=true:=by decide+kernel
 unfold ehPV at f3
 rw [if_pos (Qvn hv gBat hB),if_pos hc,hb]at f3
 have eb:baPV gBat= .agg [.int .i64 100,.int .i64 50,.int .i64 200,.int .i64 10000,.int .i64 1000]:=rfl
 rw [eb]at f2 f3
 have hwn:IntKind.i64.wrap (1000*n)=1000*n:=Qai (by omega) (by omega)
 have ep:Qc4 [legS 0 0 0 0 0 0 0 (1000*n) 2]= .slc [sgPV (legS 0 0 0 0 0 0 0 (1000*n) 2)]:=rfl
 rw [ep]at f3
 obtain⟨S1,S2,S3,S4,S5,S6,hS⟩: ∃S1 S2 S3 S4 S5 S6,sgPV (legS 0 0 0 0 0 0 0 (1000*n) 2)= .agg [.int .i64 S1,.int .i64 S2,.int .i64 S3,.slc S4,.slc S5,.slc S6]:=⟨_,_,_,_,_,_,rfl⟩
 rw [hS]at f1 f3
 unfold wsPV at f3
 rw [List.map_nil]at f3
 clear hS ep hb hc hv hs
 refine Qac (tb:=[]) 25 [.tmp 4] [0,1,4,5,6] mixed Tryd.func18 rfl (by kernel_rfl) (by kernel_rfl) (by kernel_rfl) (by kernel_rfl) ?_
 repeat (first|(simp -implicitDefEqProofs only [go_sem,Nat.reduceAdd,Nat.reduceMul,Nat.reduceEqDiff,Nat.reduceLT,Nat.reduceLeDiff,Nat.reduceSub,Nat.reduceBEq,reduceIte,reduceCtorEq,Int.reduceEq,Int.reduceNe,Nat.reduceBneDiff,Int.reduceLE,Int.reduceLT,Int.reduceToNat,Int.reduceAdd,Int.reduceSub,Int.reduceMul,Int.reduceNeg,Qk7,hwn,beq_self_eq_true])|((with_reducible refine Qab (g1) ?_ ?_ ?_);(with_reducible rfl);rfl)|((with_reducible refine Qab (f1) ?_ ?_ ?_);(with_reducible rfl);rfl)|((with_reducible refine Qab (f2) ?_ ?_ ?_);(with_reducible rfl);rfl)|((with_reducible refine Qab (f3) ?_ ?_ ?_);(with_reducible rfl);rfl))
set_option maxHeartbeats 8000000 in
set_option maxRecDepth 100000 in
theorem Qzk:Qae Tryd.prog 10 [] (.bool true):=by
 have v1:=Qej 0 0 0
 have v2:=Qej 1000 0 0
 have v3:=Qej 0 0 1000
 have v4:=Qej (-1000) 0 0
 have v5:=Qej 700 0 0
 have c1:=Qdu 0 0 0 0 0 0 1000 2 0 0 0 100 (by decide+kernel) (by decide+kernel) (by decide+kernel) (by decide+kernel) (by decide+kernel) (by decide+kernel)
 have c2:=Qdu 0 0 0 0 0 0 1 2 0 0 0 1 (by decide+kernel) (by decide+kernel) (by decide+kernel) (by decide+kernel) (by decide+kernel) (by decide+kernel)
 have c3:=Qdu 0 0 0 0 0 0 1000 2 1000 0 0 300 (by decide+kernel) (by decide+kernel) (by decide+kernel) (by decide+kernel) (by decide+kernel) (by decide+kernel)
 have c4:=Qdu 0 0 0 1000 0 0 1000 1 0 0 0 300 (by decide+kernel) (by decide+kernel) (by decide+kernel) (by decide+kernel) (by decide+kernel) (by decide+kernel)
 have c5:=Qdu 0 0 0 1000 0 0 1000 1 1000 0 0 100 (by decide+kernel) (by decide+kernel) (by decide+kernel) (by decide+kernel) (by decide+kernel) (by decide+kernel)
 have c6:=Qdu 0 0 0 1000 0 0 1000 1 (-1000) 0 0 900 (by decide+kernel) (by decide+kernel) (by decide+kernel) (by decide+kernel) (by decide+kernel) (by decide+kernel)
 have c7:=Qdu 0 0 0 0 0 1000 1000 1 0 0 0 800 (by decide+kernel) (by decide+kernel) (by decide+kernel) (by decide+kernel) (by decide+kernel) (by decide+kernel)
 have c8:=Qdu 0 0 1000 0 0 0 1000 1 0 0 0 300 (by decide+kernel) (by decide+kernel) (by decide+kernel) (by decide+kernel) (by decide+kernel) (by decide+kernel)
 have c9:=Qdu 0 0 0 700 0 0 1000 0 0 0 0 240 (by decide+kernel) (by decide+kernel) (by decide+kernel) (by decide+kernel) (by decide+kernel) (by decide+kernel)
 have e1:=Qpy 90 true (by decide) (by decide) (by decide+kernel) (by decide+kernel) (by decide+kernel) (by decide+kernel)
 have e2:=Qpy 91 false (by decide) (by decide) (by decide+kernel) (by decide+kernel) (by decide+kernel) (by decide+kernel)
 refine Qac (tb:=[]) 69 [.tmp 0] [0,1,2,3,25,58] mixed Tryd.func10 rfl (by kernel_rfl) (by kernel_rfl) (by kernel_rfl) (by kernel_rfl) ?_
 repeat (first|(simp -implicitDefEqProofs only [go_sem,Nat.reduceAdd,Nat.reduceMul,Nat.reduceEqDiff,Nat.reduceLT,Nat.reduceLeDiff,Nat.reduceSub,Nat.reduceBEq,reduceIte,reduceCtorEq,Int.reduceEq,Int.reduceNe,Nat.reduceBneDiff,Int.reduceLE,Int.reduceLT,Int.reduceToNat,Int.reduceAdd,Int.reduceSub,Int.reduceMul,Int.reduceNeg,Bool.not_true])|((with_reducible refine Qab (v1) ?_ ?_ ?_);(with_reducible rfl);rfl)|((with_reducible refine Qab (v2) ?_ ?_ ?_);(with_reducible rfl);rfl)|((with_reducible refine Qab (v3) ?_ ?_ ?_);(with_reducible rfl);rfl)|((with_reducible refine Qab (c1) ?_ ?_ ?_);(with_reducible rfl);rfl)|((with_reducible refine Qab (c2) ?_ ?_ ?_);(with_reducible rfl);rfl)|((with_reducible refine Qab (c3) ?_ ?_ ?_);(with_reducible rfl);rfl)|(with_reducible exact Qaa _ _ (by kernel_rfl))|(with_reducible refine And.intro (Qaa _ _ (by kernel_rfl)) ?_))
 repeat (first|(simp -implicitDefEqProofs only [go_sem,Nat.reduceAdd,Nat.reduceMul,Nat.reduceEqDiff,Nat.reduceLT,Nat.reduceLeDiff,Nat.reduceSub,Nat.reduceBEq,reduceIte,reduceCtorEq,Int.reduceEq,Int.reduceNe,Nat.reduceBneDiff,Int.reduceLE,Int.reduceLT,Int.reduceToNat,Int.reduceAdd,Int.reduceSub,Int.reduceMul,Int.reduceNeg,Bool.not_true])|((with_reducible refine Qab (c4) ?_ ?_ ?_);(with_reducible rfl);rfl)|((with_reducible refine Qab (c5) ?_ ?_ ?_);(with_reducible rfl);rfl)|((with_reducible refine Qab (v4) ?_ ?_ ?_);(with_reducible rfl);rfl)|((with_reducible refine Qab (c6) ?_ ?_ ?_);(with_reducible rfl);rfl)|((with_reducible refine Qab (c7) ?_ ?_ ?_);(with_reducible rfl);rfl)|((with_reducible refine Qab (c8) ?_ ?_ ?_);(with_reducible rfl);rfl)|(with_reducible exact Qaa _ _ (by kernel_rfl))|(with_reducible refine And.intro (Qaa _ _ (by kernel_rfl)) ?_))
 repeat (first|(simp -implicitDefEqProofs only [go_sem,Nat.reduceAdd,Nat.reduceMul,Nat.reduceEqDiff,Nat.reduceLT,Nat.reduceLeDiff,Nat.reduceSub,Nat.reduceBEq,reduceIte,reduceCtorEq,Int.reduceEq,Int.reduceNe,Nat.reduceBneDiff,Int.reduceLE,Int.reduceLT,Int.reduceToNat,Int.reduceAdd,Int.reduceSub,Int.reduceMul,Int.reduceNeg,Bool.not_true])|((with_reducible refine Qab (v5) ?_ ?_ ?_);(with_reducible rfl);rfl)|((with_reducible refine Qab (c9) ?_ ?_ ?_);(with_reducible rfl);rfl)|((with_reducible refine Qab (e1) ?_ ?_ ?_);(with_reducible rfl);rfl)|((with_reducible refine Qab (e2) ?_ ?_ ?_);(with_reducible rfl);rfl)|(with_reducible exact Qaa _ _ (by kernel_rfl))|(with_reducible refine And.intro (Qaa _ _ (by kernel_rfl)) ?_))
end Go.Proofs.YtciddhkfbgkejaaDoor

namespace Go.Vl
open Go.RowKit
def Qvh (P:Program) (tb:Tab) (nt:Nat) (ks:List Nat) (c:Code) (k:List It) (Q:Exit→St→Prop):List Nat→St→Prop
 | [],_=>False
 |_::l,st=>go P tb nt ks (.code c:: .again (fun s=> ∃s',Le s s'∧Qvh P tb nt ks c k Q l s')::k) Q st
theorem Qvi (P:Program) (tb:Tab) (nt:Nat) (ks:List Nat) (c:Code) (k:List It) (Q:Exit→St→Prop) (i:Nat) (l:List Nat) (st:St):Qvh P tb nt ks c k Q (i::l) st=go P tb nt ks (.code c:: .again (fun s=> ∃s',Le s s'∧Qvh P tb nt ks c k Q l s')::k) Q st:=rfl
attribute [go_sem] Qvi
theorem Zcb {P:Program} {tb:Tab} {nt:Nat} {ks:List Nat} {k:List It} {Q:Exit→St→Prop} {st:St} (hm:P.follows .mixedOrders=true) {c:Code} (l:List Nat) (s0:St) (h0:Le st s0) (h:Qvh P tb nt ks c k Q l s0):go P tb nt ks (.code (.loop c)::k) Q st:=by
 simp only [go,vx]
 refine Qnm (fun x:{x:List Nat×St // Qvh P tb nt ks c k Q x.1 x.2}=>x.1.2) (fun x=>x.1.1.length) ⟨(l,s0),h⟩ h0 ?_
 rintro⟨⟨l,s⟩,h⟩
 cases l with
 |nil=>exact h.elim
 |cons i l=>
  simp only [Qvh,go]at h
  refine Qdg (Qcb (tb:=tb) (ks:=ks) hm c _ _ h) ?_
  intro e s q
  cases e with
  |normal=>simp only [gleave]at q;obtain⟨s',h1,h2⟩:=q;exact⟨⟨(l,s'),h2⟩,by simp,h1⟩
  |_=>simpa only [gleave,vthen]using q
end Go.Vl
