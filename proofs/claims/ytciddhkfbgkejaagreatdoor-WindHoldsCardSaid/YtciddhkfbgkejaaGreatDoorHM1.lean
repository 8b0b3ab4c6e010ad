/-
  HI4, ULD, UYC, HI5, Du, Dsg, Dsh, Dsi, Dsr, Dws, HI7, HP4, HM1 (merged for the claim).
-/
import Derived.Test.YtciddhkfbgkejaaGreatDoorHI3
import Derived.Test.YtciddhkfbgkejaaGreatDoorDwi
import Derived.Test.YtciddhkfbgkejaaGreatDoorUO
set_option linter.unusedSimpArgs false
set_option linter.unusedVariables false
namespace Go.Proofs.YtciddhkfbgkejaaGreatDoor
open Go.Vl Go.RowKit Go.Dg
theorem Zg1 (m:Nat):Qck Tryz.prog 54 [.int .u64 (m:Int)] [] (.fn 95 [] [.bp 0 1 0 0]) [(0,setB (m:Int))]:=by
 refine Qb6 (tb:=[]) 4 [.tmp 2] [0,1,2] mixed Tryz.func54 rfl (by kernel_rfl) (by kernel_rfl) (by kernel_rfl) (by kernel_rfl) (by rfl) ?_
 repeat (first|(simp -implicitDefEqProofs only [go_sem,Nat.reduceAdd,Nat.reduceMul,Nat.reduceEqDiff,Nat.reduceLT,Nat.reduceLeDiff,reduceCtorEq]))
 refine Qbg (.inl rfl) ?_
 simp -implicitDefEqProofs only [go_sem,Nat.reduceEqDiff,reduceCtorEq]
 refine Qan (θ:=[(0,0)]) rfl ?_ ?_
 ·simp [Qae,lkp,ren1,ren0,Qam]
 ·exact⟨⟨rfl,rfl,rfl,rfl,rfl,.inr ⟨rfl,_,_,rfl,rfl,rfl,rfl⟩⟩,trivial⟩
def SW (g:Wd→Int) (l:List Wd) (m k:Nat):Int:=smW g (pick l ((Qbl m).take k))
theorem Qqy (g:Wd→Int) (l:List Wd) {m k:Nat} (h:k<(Qbl m).length):SW g l m (k+1)=SW g l m k+g (l.getD ((Qbl m).getD k 0) wd0):=by
 unfold SW
 have e:(Qbl m).take (k+1)=(Qbl m).take k++[(Qbl m).getD k 0]:=by
  rw [List.take_add_one,List.getElem?_eq_getElem h,List.getD_eq_getElem?_getD,List.getElem?_eq_getElem h];rfl
 rw [e]
 unfold pick
 rw [List.map_append,Qh7]
 simp [smW]
theorem Zb2 {g:Wd→Int} (hg:g=Wd.ux∨g=Wd.uy∨g=Wd.uz) {l:List Wd} {m:Nat} (hv:Qat l=true) (hb: ∀i∈Qbl m,i<l.length) (k:Nat): -40000≤SW g l m k∧SW g l m k≤40000:=by
 have h8:(Qbl m).length≤8:=List.length_filter_le _ _
 have h3:=Qxw g 5000 (pick l ((Qbl m).take k)) fun w hw=>by
  have:=Qg1 ((Qbi hv).1 w (Q4f (fun i hi=>hb i (List.mem_of_mem_take hi)) hw))
  rcases hg with rfl|rfl|rfl<;>omega
 have h4:(pick l ((Qbl m).take k)).length≤8:=by unfold pick;rw [List.length_map,List.length_take];omega
 unfold SW;omega
def suB (l:List Wd) (m k:Nat):List (Nat×Box):=[(1000000,{els:=[wsPV l],esz:=1,ety:=22,fro:=0,live:=true,arr:=false}),(1000001,{els:=[.agg [.int .i64 (SW Wd.ux l m k),.int .i64 (SW Wd.uy l m k),.int .i64 (SW Wd.uz l m k)]],esz:=3,ety:=26,fro:=0,live:=true,arr:=false})]
theorem Zjt (l:List Wd) (m k:Nat): ∀b∈ [1000000,1000001],(lkp (suB l m k) b).isSome=true:=by simp [suB,lkp]
set_option maxHeartbeats 4000000 in
theorem Zg2 (l:List Wd) (m:Nat) (hm:m<256) (hv:Qat l=true) (hb: ∀i∈Qbl m,i<l.length):
  Qag Tryz.prog 55 [.int .u64 (m:Int),wsPV l] (.agg [.int .i64 (smW Wd.ux (pick l (Qbl m))),.int .i64 (smW Wd.uy (pick l (Qbl m))),.int .i64 (smW Wd.uz (pick l (Qbl m)))]):=by
 have hi:=Zg1 m
 have hY:=Qx6 m hm
 have b1:=Zb2 (g:=Wd.ux) (.inl rfl) hv hb
 have b2:=Zb2 (g:=Wd.uy) (.inr (.inl rfl)) hv hb
 have b3:=Zb2 (g:=Wd.uz) (.inr (.inr rfl)) hv hb
 have hlen:(setO m).length=(Qbl m).length:=by simp [setO]
 have hmin:min (setO m).length ((Qbl m).length+1)=(Qbl m).length:=by rw [hlen];omega
 have eS: ∀g:Wd→Int,SW g l m (Qbl m).length=smW g (pick l (Qbl m)):=fun g=>by unfold SW;rw [List.take_length]
 have bl1:Nat.blt 1700 1000000=true:=rfl
 rw [←eS Wd.ux,←eS Wd.uy,←eS Wd.uz]

 refine Qad (tb:=[(101,[],[(0,1700)])]) 34 [.cell 4 26] [0,1,3,4,5,6,8,9] mixed Tryz.func55 rfl (by kernel_rfl) (by kernel_rfl) (by kernel_rfl) (by kernel_rfl) ?_
 repeat (first|(simp -implicitDefEqProofs only [go_sem,Nat.reduceAdd,Nat.reduceMul,Nat.reduceEqDiff,Nat.reduceLT,Nat.reduceLeDiff,reduceCtorEq,bl1])|((with_reducible refine Qbj (hi) ?_ ?_ ?_ ?_);(with_reducible rfl);rfl;rfl)|(with_reducible exact Qaa _ _ (by kernel_rfl))|(with_reducible refine And.intro (Qaa _ _ (by kernel_rfl)) ?_))
 refine Qod (c0:=1700) mixed hY rfl rfl rfl rfl _ rfl [(1000000,0),(1000001,1)] [1000000,1000001] rfl [(3,.bp 1000000 1 0 0),(4,.bp 1000001 3 0 0)] (suB l m) rfl rfl rfl rfl ?_ ?_ ?_ (Qbl m).length .normal (fun h=>by rw [hlen]at h;omega) (fun k _ _=>Zjt l m k) ?_ rfl ?_
  [(0,1000000),(1,1000001)] [(3,.bp 0 1 0 0),(4,.bp 1 3 0 0)] [(0,{els:=[wsPV l],esz:=1,ety:=22,fro:=0,live:=true,arr:=false}),(1,{els:=[.agg [.int .i64 (SW Wd.ux l m (Qbl m).length),.int .i64 (SW Wd.uy l m (Qbl m).length),.int .i64 (SW Wd.uz l m (Qbl m).length)]],esz:=3,ety:=26,fro:=0,live:=true,arr:=false})] rfl rfl ?_ ?_ rfl (fun _=> ?_) (fun h=>by rw [hlen]at h;omega)
 ·simp [Qae,lkp,ren1,ren0,Qam]
 ·simp only [suB]
  exact⟨⟨rfl,rfl,rfl,rfl,rfl,.inr ⟨rfl,_,_,rfl,rfl,rfl,rfl⟩⟩,⟨rfl,rfl,rfl,rfl,rfl,.inr ⟨rfl,_,_,rfl,rfl,rfl,rfl⟩⟩,trivial⟩
 ·simp [Qae,lkp,ren1,ren0,Qam,Qln]
 ·intro k args h
  simp only [setO,List.getElem?_map,Option.map_eq_some_iff]at h
  obtain⟨x, -,rfl⟩:=h
  rfl
 ·rintro k args hka hk
  simp only [setO,List.getElem?_map,Option.map_eq_some_iff]at hka
  obtain⟨i,hx,rfl⟩:=hka
  obtain⟨hk2,e⟩:=List.getElem?_eq_some_iff.1 hx
  have hil:i<l.length:=hb i (by rw [←e];exact List.getElem_mem _)
  have hD:(Qbl m).getD k 0=i:=by rw [List.getD_eq_getElem?_getD,hx];rfl
  have s1:=Qqy Wd.ux l hk2
  have s2:=Qqy Wd.uy l hk2
  have s3:=Qqy Wd.uz l hk2
  have hwi:l.getD i wd0=l[i]:=by rw [List.getD_eq_getElem?_getD,List.getElem?_eq_getElem hil];rfl
  rw [hD,hwi]at s1 s2 s3
  have hg:=Qoz l i hil
  have n0:=nnT i
  have w1:IntKind.i64.wrap (SW Wd.ux l m k+l[i].ux)=SW Wd.ux l m (k+1):=by rw [←s1];have:=b1 (k+1);exact Qai (by omega) (by omega)
  have w2:IntKind.i64.wrap (SW Wd.uy l m k+l[i].uy)=SW Wd.uy l m (k+1):=by rw [←s2];have:=b2 (k+1);exact Qai (by omega) (by omega)
  have w3:IntKind.i64.wrap (SW Wd.uz l m k+l[i].uz)=SW Wd.uz l m (k+1):=by rw [←s3];have:=b3 (k+1);exact Qai (by omega) (by omega)
  simp only [suB]
  generalize l[i]=w at*
  repeat (first|(simp -implicitDefEqProofs only [go_sem,Nat.reduceAdd,Nat.reduceMul,Nat.reduceEqDiff,Nat.reduceLT,Nat.reduceLeDiff,reduceCtorEq,pvars,List.toList_toArray])|(with_reducible exact Qaa _ _ (by kernel_rfl))|(with_reducible refine And.intro (Qaa _ _ (by kernel_rfl)) ?_))
  refine⟨by simp [lkp],?_⟩
  repeat (first|(simp -implicitDefEqProofs only [go_sem,Nat.reduceAdd,Nat.reduceMul,Nat.reduceEqDiff,Nat.reduceLT,Nat.reduceLeDiff,reduceCtorEq,hg,n0,w1,w2,w3,Int.toNat_natCast,List.length_map])|(with_reducible exact Qaa _ _ (by kernel_rfl))|(with_reducible refine And.intro (Qaa _ _ (by kernel_rfl)) ?_))
  refine⟨by omega,?_⟩
  refine Qan (θ:=[(1000000,1000000),(1000001,1000001)]) rfl ?_ ?_
  ·simp [Qae,lkp,ren1,ren0,Qam]
  ·simp only [suB]
   exact⟨⟨rfl,rfl,rfl,rfl,rfl,.inr ⟨rfl,_,_,rfl,rfl,rfl,rfl⟩⟩,⟨rfl,rfl,rfl,rfl,rfl,.inr ⟨rfl,_,_,rfl,rfl,rfl,rfl⟩⟩,trivial⟩
 ·simp [Qae,lkp,ren1,ren0,Qam]
 ·rw [hmin]
  simp only [suB]
  exact⟨⟨rfl,rfl,rfl,rfl,rfl,.inr ⟨rfl,_,_,rfl,rfl,rfl,rfl⟩⟩,⟨rfl,rfl,rfl,rfl,rfl,.inr ⟨rfl,_,_,rfl,rfl,rfl,rfl⟩⟩,trivial⟩
 ·repeat (first|(simp -implicitDefEqProofs only [go_sem,Nat.reduceAdd,Nat.reduceMul,Nat.reduceEqDiff,Nat.reduceLT,Nat.reduceLeDiff,reduceCtorEq])|(with_reducible exact Qaa _ _ (by kernel_rfl))|(with_reducible refine And.intro (Qaa _ _ (by kernel_rfl)) ?_))
theorem Zb3 (p:Wd→Bool) {l:List Wd} (h:l.length≤8): ∀i∈Qbl (mask p l),i<l.length:=fun i hi=>by
 rw [Go.Dg.bits_mask p l h]at hi
 have:=Qxv p l 0 i hi;omega
def Qm5 (l:List Wd) (x y z t:Int):PV:= .agg [.int .i64 (atW Wd.ux l x y z t),.int .i64 (atW Wd.uy l x y z t),.int .i64 (atW Wd.uz l x y z t)]
theorem Qqz (l:List Wd) (x y z t:Int) (hv:Qat l=true):Qag Tryz.prog 55 [.int .u64 ((mask (blW x y z t) l:Nat):Int),wsPV l] (Qm5 l x y z t):=by
 have h8:=(Qbi hv).2
 have h:=Zg2 l (mask (blW x y z t) l) (Qsw _ h8) hv (Zb3 _ h8)
 rw [Go.Dg.bits_mask _ _ h8,Zbt]at h
 exact h
theorem Qo5 (l:List Wd) (x y z t:Int) (hl:l.length≤maxLen):Qag Tryz.prog 51 [wsPV l,.agg [.int .i64 x,.int .i64 y,.int .i64 z],.int .i64 t] (.bool (Qat l&&(ptB x y z&&(decide (0≤t)&&decide (t≤3600000))))):=by
 have h1:=Qka l hl
 have h2:=Qm2 x y z
 cases hv:Qat l with
 |false=>
  rw [hv]at h1
  refine Qad (tb:=[]) 21 [.tmp 6] [0,1,2,4,6] mixed Tryz.func51 rfl (by kernel_rfl) (by kernel_rfl) (by kernel_rfl) (by kernel_rfl) ?_
  repeat (first|(simp -implicitDefEqProofs only [go_sem,Nat.reduceAdd,Nat.reduceMul,Nat.reduceEqDiff,Nat.reduceLT,Nat.reduceLeDiff,reduceCtorEq,Bool.false_and])|((with_reducible refine Qab (h1) ?_ ?_ ?_);(with_reducible rfl);rfl))
 |true=>
 cases hp:ptB x y z with
 |false=>
  rw [hv]at h1
  rw [hp]at h2
  refine Qad (tb:=[]) 21 [.tmp 6] [0,1,2,4,6] mixed Tryz.func51 rfl (by kernel_rfl) (by kernel_rfl) (by kernel_rfl) (by kernel_rfl) ?_
  repeat (first|(simp -implicitDefEqProofs only [go_sem,Nat.reduceAdd,Nat.reduceMul,Nat.reduceEqDiff,Nat.reduceLT,Nat.reduceLeDiff,reduceCtorEq,Bool.false_and,Bool.true_and])|((with_reducible refine Qab (h1) ?_ ?_ ?_);(with_reducible rfl);rfl)|((with_reducible refine Qab (h2) ?_ ?_ ?_);(with_reducible rfl);rfl))
 |true=>
 rw [hv]at h1
 rw [hp]at h2
 by_cases c:0≤t
 ·have c':=eq_true c
  rw [decide_eq_true c]
  refine Qad (tb:=[]) 21 [.tmp 6] [0,1,2,4,6] mixed Tryz.func51 rfl (by kernel_rfl) (by kernel_rfl) (by kernel_rfl) (by kernel_rfl) ?_
  repeat (first|(simp -implicitDefEqProofs only [go_sem,Nat.reduceAdd,Nat.reduceMul,Nat.reduceEqDiff,Nat.reduceLT,Nat.reduceLeDiff,reduceCtorEq,Bool.true_and,c'])|((with_reducible refine Qab (h1) ?_ ?_ ?_);(with_reducible rfl);rfl)|((with_reducible refine Qab (h2) ?_ ?_ ?_);(with_reducible rfl);rfl))
 ·have c':=eq_false c
  rw [decide_eq_false c]
  refine Qad (tb:=[]) 21 [.tmp 6] [0,1,2,4,6] mixed Tryz.func51 rfl (by kernel_rfl) (by kernel_rfl) (by kernel_rfl) (by kernel_rfl) ?_
  repeat (first|(simp -implicitDefEqProofs only [go_sem,Nat.reduceAdd,Nat.reduceMul,Nat.reduceEqDiff,Nat.reduceLT,Nat.reduceLeDiff,reduceCtorEq,Bool.true_and,Bool.false_and,c',decide_false])|((with_reducible refine Qab (h1) ?_ ?_ ?_);(with_reducible rfl);rfl)|((with_reducible refine Qab (h2) ?_ ?_ ?_);(with_reducible rfl);rfl))
theorem Zar (l:List Wd) (x y z t:Int) (hl:l.length≤maxLen):Qag Tryz.prog 16 [wsPV l,.agg [.int .i64 x,.int .i64 y,.int .i64 z],.int .i64 t]
  (if(Qat l&&(ptB x y z&&(decide (0≤t)&&decide (t≤3600000))))=true then .tup [Qm5 l x y z t,.int .i64 0]else .tup [.agg [.int .i64 0,.int .i64 0,.int .i64 0],.int .i64 2]):=by
 have h1:=Qo5 l x y z t hl
 cases hc:(Qat l&&(ptB x y z&&(decide (0≤t)&&decide (t≤3600000))))with
 |false=>
  rw [hc]at h1
  refine Qad (tb:=[]) 20 [.cell 6 26,.tmp 7] [0,1,2,4,6,7,12] mixed Tryz.func16 rfl (by kernel_rfl) (by kernel_rfl) (by kernel_rfl) (by kernel_rfl) ?_
  repeat (first|(simp -implicitDefEqProofs only [go_sem,Nat.reduceAdd,Nat.reduceMul,Nat.reduceEqDiff,Nat.reduceLT,Nat.reduceLeDiff,reduceCtorEq,Bool.not_false,Bool.false_eq_true])|((with_reducible refine Qab (h1) ?_ ?_ ?_);(with_reducible rfl);rfl))
 |true=>
  rw [hc]at h1
  simp only [Bool.and_eq_true]at hc
  have h2:=Qg5 l x y z t (Qbi hc.1).2
  have h3:=Qqz l x y z t hc.1
  unfold Qm5 at h3 ⊢
  generalize mask (blW x y z t) l=m at*
  refine Qad (tb:=[]) 20 [.cell 6 26,.tmp 7] [0,1,2,4,6,7,12] mixed Tryz.func16 rfl (by kernel_rfl) (by kernel_rfl) (by kernel_rfl) (by kernel_rfl) ?_
  repeat (first|(simp -implicitDefEqProofs only [go_sem,Nat.reduceAdd,Nat.reduceMul,Nat.reduceEqDiff,Nat.reduceLT,Nat.reduceLeDiff,reduceCtorEq,Bool.not_true])|((with_reducible refine Qab (h1) ?_ ?_ ?_);(with_reducible rfl);rfl)|((with_reducible refine Qab (h2) ?_ ?_ ?_);(with_reducible rfl);rfl)|((with_reducible refine Qab (h3) ?_ ?_ ?_);(with_reducible rfl);rfl))
end Go.Proofs.YtciddhkfbgkejaaGreatDoor

namespace Go.Vl
open Go.RowKit
def Box.renD (θ:List (Nat×Nat)) (B' B:Box):Prop:=
 Box.renames θ B' B∨(B'.esz=B.esz∧B'.ety=B.ety∧B'.fro=B.fro∧B'.live=B.live∧B'.arr=B.arr∧B'.arr=false∧Qpi θ B'.els=some B.els∧(B'.els.all fun v=>Qa3 v.cells)=true)
theorem Box.renD.parts {θ:List (Nat×Nat)} {B' B:Box} (h:Box.renD θ B' B):B'.esz=B.esz∧B'.ety=B.ety∧B'.fro=B.fro∧B'.live=B.live∧B'.arr=B.arr∧
  ((B'.arr=true∧B.els=B'.els)∨(B'.arr=false∧ ∃v v',B'.els=[v']∧B.els=[v]∧ren1 θ v'=some v∧Qa3 v'.cells=true)∨(B'.arr=false∧Qpi θ B'.els=some B.els∧(B'.els.all fun v=>Qa3 v.cells)=true)):=by
 rcases h with⟨a,b,c,d,e,f|f⟩|⟨a,b,c,d,e,f,g,h⟩
 ·exact⟨a,b,c,d,e,.inl f⟩
 ·exact⟨a,b,c,d,e,.inr (.inl f)⟩
 ·exact⟨a,b,c,d,e,.inr (.inr ⟨f,g,h⟩)⟩
end Go.Vl

namespace Go.Vl
open Go.RowKit
theorem Q3w {vs:List (Nat×PV)} {bs:List (Nat×Box)} {o:List (List PV)} {y:Yl} (b:Nat) {B:Box} (hB:lkp bs b=some B) (hn:B.els=[]):Le (St.ofG vs bs o y) (St.ofG vs ((b,{B with arr:=true})::bs) o y):=by
 rintro C a w ⟨ρ,im,h⟩
 refine⟨ρ,im,h.root,h.nt,h.dfr,h.imc,h.var,?_,?_,?_⟩
 ·intro b'
  by_cases e:b'=b
  ·subst e
   have:=h.rho b'
   simp only [Qgm]at this ⊢
   rw [this,hB];simp [lkp]
  ·have:=h.rho b'
   simp only [Qgm]at this ⊢
   rw [this];simp [lkp,e]
 ·intro b' x B' hx hB'
  by_cases e:b'=b
  ·subst e
   have hB2:{B with arr:=true}=B':=by simpa [St.ofG,lkp]using hB'
   subst hB2
   have hb:=h.box b' x B hx (by simpa [St.ofG]using hB)
   cases x with
   |none=>obtain⟨z1,z2,z3,z4⟩:=hb;exact⟨z1,rfl,z3,z4⟩
   |some g=>
    obtain⟨k1,k2,k3,k4,cur,us,rest,k5,k6,k7,k8,k9,k10,k11⟩:=hb
    refine⟨k1,k2,k3,k4,cur,us,rest,k5,k6,k7,fun _=> ?_,k9,k10,k11⟩
    simp only [hn,List.flatMap_nil]at k7 ⊢
    cases k7.nil_inv
    exact .nil
  ·exact h.box b' x B' hx (by simpa [St.ofG,lkp,e]using hB')
 ·have key: ∀b' B',(St.ofG vs ((b,{B with arr:=true})::bs) o y).box b'=some B'→ ∃B0,(St.ofG vs bs o y).box b'=some B0∧B0.live=B'.live:=fun b' B' e=>by
   by_cases q:b'=b
   ·subst q
    have:{B with arr:=true}=B':=by simpa [St.ofG,lkp]using e
    subst this;exact⟨B,by simpa [St.ofG]using hB,rfl⟩
   ·exact⟨B',by simpa [St.ofG,lkp,q]using e,rfl⟩
  intro b1 b2 g B1 B2 g1 g2 e1 e2 l1 l2
  obtain⟨C1,x1,y1⟩:=key _ _ e1
  obtain⟨C2,x2,y2⟩:=key _ _ e2
  exact h.inj b1 b2 g C1 C2 g1 g2 x1 x2 (y1.trans l1) (y2.trans l2)
end Go.Vl

namespace Go.Proofs.YtciddhkfbgkejaaGreatDoor
open Go.Vl Go.RowKit Go.Dg
def bi (m:Nat):List Int:=(Qbl m).map fun(i:Nat)=>(i:Int)
theorem Qsy {m k:Nat} {args:List PV} (h:(setO m)[k]? =some args): ∃x:Int,args=[.int .i64 x]∧ ∃h:k<(bi m).length,(bi m)[k]=x:=by
 simp only [setO,List.getElem?_map,Option.map_eq_some_iff]at h
 obtain⟨i,hx,rfl⟩:=h
 obtain⟨hk,e⟩:=List.getElem?_eq_some_iff.1 hx
 exact⟨(i:Int),rfl,by unfold bi;rw [List.length_map];exact hk,by unfold bi;rw [List.getElem_map,e]⟩
theorem Qsz (m:Nat):(setO m).length=(bi m).length:=by simp [setO,bi]
theorem bi_8 (m:Nat):(bi m).length≤8:=by
 have:(Qbl m).length≤8:=List.length_filter_le _ _
 unfold bi;rw [List.length_map];exact this
abbrev idxF:PV:= .fn 95 [] [.bp 1000000 1 0 0]
def Qx8:Box:={els:=[],esz:=1,ety:=94,fro:=0,live:=false,arr:=true}
attribute [go_sem] Qx8
def clB (m:Nat):Nat→List (Nat×Box)
 |0=>[(1000001,{els:=[.nilS],esz:=1,ety:=27,fro:=0,live:=true,arr:=false})]
 |k+1=>[(1000001,{els:=[.bs 7 1 0 (k+1)],esz:=1,ety:=27,fro:=0,live:=true,arr:=false}),(7,iB1 ((bi m).take (k+1)))]
theorem Zg3 (m k:Nat): ∀b∈ [1000001],(lkp (clB m k) b).isSome=true:=by
 cases k<;>simp [clB,lkp]
set_option maxHeartbeats 2000000 in
theorem Qx9 (m:Nat) (hm:m<256) (h0:bi m=[]):Qck Tryz.prog 94 [.nilS,idxF] [(1000000,setB (m:Int))] .nilS [(1000000,Qx8)]:=by
 have hY:=Qx6 m hm
 have hlen:=Qsz m
 rw [h0]at hlen
 refine Qb6 (tb:=[]) 13 [.tmp 4] [0,1,2,4,5,6,7] mixed Tryz.func94 rfl (by kernel_rfl) (by kernel_rfl) (by kernel_rfl) (by kernel_rfl) (by rfl) ?_
 repeat (first|(simp -implicitDefEqProofs only [go_sem,Nat.reduceAdd,Nat.reduceMul,Nat.reduceEqDiff,Nat.reduceLT,Nat.reduceLeDiff,reduceCtorEq]))
 refine Qod (c0:=1000000) mixed hY rfl rfl rfl rfl _ rfl [(1000001,0)] [1000001] rfl [(2,.bp 1000001 1 0 0)] (clB m) rfl rfl rfl rfl ?_ ?_ ?_ 0 .normal (fun h=>by rw [hlen]at h;simp at h) (fun k _ _=>Zg3 m k) (fun k args h=> ?_) rfl (fun k args h=> ?_)
  [(0,1000001)] [(2,.bp 0 1 0 0)] [(0,{els:=[.nilS],esz:=1,ety:=27,fro:=0,live:=true,arr:=false})] rfl rfl ?_ ?_ rfl (fun _=> ?_) (fun h=>by rw [hlen]at h;simp at h)
 ·simp [Qae,lkp,ren1,ren0,Qam]
 ·exact⟨⟨rfl,rfl,rfl,rfl,rfl,.inr ⟨rfl,_,_,rfl,rfl,rfl,rfl⟩⟩,trivial⟩
 ·simp [Qae,lkp,ren1,ren0,Qam,Qln]
 ·obtain⟨_,_,h,_⟩:=Qsy h;rw [h0]at h;simp at h
 ·obtain⟨_,_,h,_⟩:=Qsy h;rw [h0]at h;simp at h
 ·simp [Qae,lkp,ren1,ren0,Qam]
 ·rw [hlen]
  exact⟨⟨rfl,rfl,rfl,rfl,rfl,.inr ⟨rfl,_,_,rfl,rfl,rfl,rfl⟩⟩,trivial⟩
 ·repeat (first|(simp -implicitDefEqProofs only [go_sem,Nat.reduceAdd,Nat.reduceMul,Nat.reduceEqDiff,Nat.reduceLT,Nat.reduceLeDiff,reduceCtorEq]))
  refine Qbg (.inl rfl) ?_
  simp -implicitDefEqProofs only [go_sem,Nat.reduceEqDiff]
  refine Le.trans (Q3w 1000000 rfl rfl) (Qan (θ:=[(1000000,1000000)]) rfl ?_ ?_)
  ·simp [Qae,lkp,ren1,ren0,Qam]
  ·exact⟨⟨rfl,rfl,rfl,rfl,rfl,.inl ⟨rfl,rfl⟩⟩,trivial⟩
theorem Zb4 {m k:Nat} (h:k<(bi m).length):(bi m).take (k+1)=(bi m).take k++[(bi m)[k]]:=Qbo _ k h
set_option maxHeartbeats 4000000 in
set_option maxRecDepth 100000 in
theorem Q4l (m:Nat) (hm:m<256) (h0:bi m≠ []):Qck Tryz.prog 94 [.nilS,idxF] [(1000000,setB (m:Int))] (.bs 7 1 0 (bi m).length) [(1000000,Qx8),(7,iB1 (bi m))]:=by
 have hY:=Qx6 m hm
 have hlen:=Qsz m
 have h8:=bi_8 m
 obtain⟨n,hn⟩: ∃n,(bi m).length=n+1:=⟨(bi m).length-1,by have:=List.length_pos_iff.2 h0;omega⟩
 have htk:(bi m).take (n+1)=bi m:=List.take_of_length_le (by omega)
 rw [hn]at hlen
 have hmin:min (setO m).length (n+1+1)=n+1:=by rw [hlen];omega
 rw [hn]
 refine Qb6 (tb:=[]) 13 [.tmp 4] [0,1,2,4,5,6,7] mixed Tryz.func94 rfl (by kernel_rfl) (by kernel_rfl) (by kernel_rfl) (by kernel_rfl) (by rfl) ?_
 repeat (first|(simp -implicitDefEqProofs only [go_sem,Nat.reduceAdd,Nat.reduceMul,Nat.reduceEqDiff,Nat.reduceLT,Nat.reduceLeDiff,reduceCtorEq]))
 refine Qod (c0:=1000000) mixed hY rfl rfl rfl rfl _ rfl [(1000001,0)] [1000001] rfl [(2,.bp 1000001 1 0 0)] (clB m) rfl rfl rfl rfl ?_ ?_ ?_ (n+1) .normal (fun h=>by rw [hlen]at h;omega) (fun k _ _=>Zg3 m k) (fun k args h=> ?_) rfl (fun k args h hk=> ?_)
  [(0,1000001),(7,7)] [(2,.bp 0 1 0 0)] [(0,{els:=[.bs 7 1 0 (n+1)],esz:=1,ety:=27,fro:=0,live:=true,arr:=false}),(7,iB1 (bi m))] rfl rfl ?_ ?_ rfl (fun _=> ?_) (fun h=>by rw [hlen]at h;omega)
 ·simp [Qae,lkp,ren1,ren0,Qam]
 ·exact⟨⟨rfl,rfl,rfl,rfl,rfl,.inr ⟨rfl,_,_,rfl,rfl,rfl,rfl⟩⟩,trivial⟩
 ·simp [Qae,lkp,ren1,ren0,Qam,Qln]
 ·obtain⟨_,rfl,_⟩:=Qsy h;rfl
 ·obtain⟨x,rfl,hkl,hx⟩:=Qsy h
  have hs:=Zb4 hkl
  rw [hx]at hs
  cases k with
  |zero=>
   have e0:(bi m).take 0=[]:=rfl
   rw [e0,List.nil_append]at hs
   simp only [clB]
   repeat (first|(simp -implicitDefEqProofs only [go_sem,Nat.reduceAdd,Nat.reduceMul,Nat.reduceEqDiff,Nat.reduceLT,Nat.reduceLeDiff,reduceIte,reduceCtorEq,pvars,List.toList_toArray]))
   refine⟨by simp [lkp],?_⟩
   have c0:(1≤maxLen)=True:=eq_true (by unfold maxLen;omega)
   repeat (first|(simp -implicitDefEqProofs only [go_sem,Nat.reduceAdd,Nat.reduceEqDiff,reduceCtorEq,c0]))
   refine⟨by omega,?_⟩
   refine Qan (θ:=[(1000001,1000001),(7,303)]) rfl ?_ ?_
   ·simp [Qae,lkp,ren1,ren0,Qam]
   ·simp only [clB,hs]
    exact⟨⟨rfl,rfl,rfl,rfl,rfl,.inr ⟨rfl,_,_,rfl,rfl,rfl,rfl⟩⟩,⟨rfl,rfl,rfl,rfl,rfl,.inl ⟨rfl,rfl⟩⟩,trivial⟩
  |succ k=>
   simp only [clB]
   have b1:((bi m).take (k+1)).length=k+1:=by simp;omega
   generalize hT:(bi m).take (k+1)=T at*
   have b2:=Qqx T
   have c1:((k+1+1)*8≤140737488355328)=True:=eq_true (by omega)
   have c2:(k+1+1≤maxLen)=True:=eq_true (by unfold maxLen;omega)
   repeat (first|(simp -implicitDefEqProofs only [go_sem,Nat.reduceAdd,Nat.reduceMul,Nat.reduceEqDiff,Nat.reduceLT,Nat.reduceLeDiff,reduceIte,reduceCtorEq,Nat.reduceBneDiff,pvars,List.toList_toArray]))
   refine⟨by simp [lkp],?_⟩
   repeat (first|(simp -implicitDefEqProofs only [go_sem,Nat.reduceAdd,Nat.reduceEqDiff,reduceCtorEq,b1,b2,c1,c2,List.length_map]))
   refine⟨by omega,?_⟩
   refine Qan (θ:=[(1000001,1000001),(7,303)]) rfl ?_ ?_
   ·simp [Qae,lkp,ren1,ren0,Qam]
   ·simp only [clB,hs]
    refine⟨⟨rfl,rfl,rfl,rfl,rfl,.inr ⟨rfl,_,_,rfl,rfl,rfl,rfl⟩⟩,⟨rfl,rfl,rfl,rfl,rfl,.inl ⟨rfl,?_⟩⟩,trivial⟩
    simp
 ·simp [Qae,lkp,ren1,ren0,Qam]
 ·rw [hmin]
  simp only [clB]
  rw [htk]
  exact⟨⟨rfl,rfl,rfl,rfl,rfl,.inr ⟨rfl,_,_,rfl,rfl,rfl,rfl⟩⟩,⟨rfl,rfl,rfl,rfl,rfl,.inl ⟨rfl,rfl⟩⟩,trivial⟩
 ·repeat (first|(simp -implicitDefEqProofs only [go_sem,Nat.reduceAdd,Nat.reduceMul,Nat.reduceEqDiff,Nat.reduceLT,Nat.reduceLeDiff,reduceCtorEq]))
  refine Qbg (.inl rfl) ?_
  simp -implicitDefEqProofs only [go_sem,Nat.reduceEqDiff]
  refine Le.trans (Q3w 1000000 rfl rfl) (Qan (θ:=[(1000000,1000000),(7,7)]) rfl ?_ ?_)
  ·simp [Qae,lkp,ren1,ren0,Qam]
  ·exact⟨⟨rfl,rfl,rfl,rfl,rfl,.inl ⟨rfl,rfl⟩⟩,⟨rfl,rfl,rfl,rfl,rfl,.inl ⟨rfl,rfl⟩⟩,trivial⟩
theorem Quf (m:Nat) (hm:m<256) (h0:bi m=[]):Qck Tryz.prog 52 [idxF] [(1000000,setB (m:Int))] .nilS [(1000000,Qx8)]:=by
 have h:=Qx9 m hm h0
 unfold idxF at h

 refine Qb6 (tb:=[(101,[(1000000,1000000)],[])]) 5 [.tmp 2] [0,2] mixed Tryz.func52 rfl (by kernel_rfl) (by kernel_rfl) (by kernel_rfl) (by kernel_rfl) (by rfl) ?_
 repeat (first|(simp -implicitDefEqProofs only [go_sem,Nat.reduceAdd,Nat.reduceMul,Nat.reduceEqDiff,Nat.reduceLT,Nat.reduceLeDiff,reduceCtorEq])|((with_reducible refine Qbj (h) ?_ ?_ ?_ ?_);(with_reducible rfl);rfl;rfl))
 refine Qbg (.inl rfl) ?_
 simp -implicitDefEqProofs only [go_sem,reduceCtorEq]
 refine Qan (θ:=[(1000000,1000000)]) rfl ?_ ?_
 ·simp [Qae,lkp,ren1,ren0,Qam]
 ·exact⟨⟨rfl,rfl,rfl,rfl,rfl,.inl ⟨rfl,rfl⟩⟩,trivial⟩
theorem Qya (m:Nat) (hm:m<256) (h0:bi m≠ []):Qck Tryz.prog 52 [idxF] [(1000000,setB (m:Int))] (.bs 7 1 0 (bi m).length) [(1000000,Qx8),(7,iB1 (bi m))]:=by
 have h:=Q4l m hm h0
 unfold idxF at h
 have bl0:Nat.blt 700 1000000=true:=rfl

 refine Qb6 (tb:=[(101,[(1000000,1000000)],[(7,700)])]) 5 [.tmp 2] [0,2] mixed Tryz.func52 rfl (by kernel_rfl) (by kernel_rfl) (by kernel_rfl) (by kernel_rfl) (by rfl) ?_
 repeat (first|(simp -implicitDefEqProofs only [go_sem,Nat.reduceAdd,Nat.reduceMul,Nat.reduceEqDiff,Nat.reduceLT,Nat.reduceLeDiff,reduceCtorEq,bl0])|((with_reducible refine Qbj (h) ?_ ?_ ?_ ?_);(with_reducible rfl);rfl;rfl))
 refine Qbg (.inl rfl) ?_
 simp -implicitDefEqProofs only [go_sem,reduceCtorEq]
 refine Qan (θ:=[(1000000,1000000),(7,700)]) rfl ?_ ?_
 ·simp [Qae,lkp,ren1,ren0,Qam]
 ·exact⟨⟨rfl,rfl,rfl,rfl,rfl,.inl ⟨rfl,rfl⟩⟩,⟨rfl,rfl,rfl,rfl,rfl,.inl ⟨rfl,rfl⟩⟩,trivial⟩
theorem Zb5 (p:Wd→Bool) {l:List Wd} (h:l.length≤8):bi (mask p l)=onL p l:=by unfold bi onL;rw [Go.Dg.bits_mask p l h]
theorem Qug (l:List Wd) (x y z t:Int) (hl:l.length≤maxLen):Qag Tryz.prog 15 [wsPV l,.agg [.int .i64 x,.int .i64 y,.int .i64 z],.int .i64 t]
  (if(Qat l&&(ptB x y z&&(decide (0≤t)&&decide (t≤3600000))))=true then .tup [.slc ((onL (blW x y z t) l).map (PV.int .i64)),.int .i64 0]else .tup [.slc [],.int .i64 2]):=by
 have h1:=Qo5 l x y z t hl
 cases hc:(Qat l&&(ptB x y z&&(decide (0≤t)&&decide (t≤3600000))))with
 |false=>
  rw [hc]at h1
  refine Qad (tb:=[]) 19 [.tmp 6,.tmp 7] [0,1,2,4,6,7,12] mixed Tryz.func15 rfl (by kernel_rfl) (by kernel_rfl) (by kernel_rfl) (by kernel_rfl) ?_
  repeat (first|(simp -implicitDefEqProofs only [go_sem,Nat.reduceAdd,Nat.reduceMul,Nat.reduceEqDiff,Nat.reduceLT,Nat.reduceLeDiff,reduceCtorEq,Bool.not_false,Bool.false_eq_true])|((with_reducible refine Qab (h1) ?_ ?_ ?_);(with_reducible rfl);rfl))
 |true=>
  rw [hc]at h1
  simp only [Bool.and_eq_true]at hc
  have h8:=(Qbi hc.1).2
  have h2:=Qg5 l x y z t h8
  have hm:=Qsw (blW x y z t) h8
  rw [←Zb5 _ h8]
  generalize mask (blW x y z t) l=m at*
  have h3:=Zg1 m
  have bl1:Nat.blt 1700 1000000=true:=rfl
  have bl2:Nat.blt 1701 1000000=true:=rfl
  by_cases h0:bi m=[]
  ·have h4:=Quf m hm h0
   unfold idxF at h4
   rw [h0]

   refine Qad (tb:=[(304,[],[(0,1700)]),(305,[(1000000,1700)],[])]) 19 [.tmp 6,.tmp 7] [0,1,2,4,6,7,12] mixed Tryz.func15 rfl (by kernel_rfl) (by kernel_rfl) (by kernel_rfl) (by kernel_rfl) ?_
   repeat (first|(simp -implicitDefEqProofs only [go_sem,Nat.reduceAdd,Nat.reduceMul,Nat.reduceEqDiff,Nat.reduceLT,Nat.reduceLeDiff,reduceCtorEq,Bool.not_true,bl1,bl2])|((with_reducible refine Qab (h1) ?_ ?_ ?_);(with_reducible rfl);rfl)|((with_reducible refine Qab (h2) ?_ ?_ ?_);(with_reducible rfl);rfl)|((with_reducible refine Qbj (h3) ?_ ?_ ?_ ?_);(with_reducible rfl);rfl;rfl)|((with_reducible refine Qbj (h4) ?_ ?_ ?_ ?_);(with_reducible rfl);rfl;rfl))
  ·have h4:=Qya m hm h0
   unfold idxF at h4
   have ht:((bi m).map (PV.int .i64)).take (bi m).length=(bi m).map (PV.int .i64):=List.take_of_length_le (by simp)
   have hk:=Qqx (bi m)
   generalize bi m=T at*

   refine Qad (tb:=[(304,[],[(0,1700)]),(305,[(1000000,1700)],[(7,1701)])]) 19 [.tmp 6,.tmp 7] [0,1,2,4,6,7,12] mixed Tryz.func15 rfl (by kernel_rfl) (by kernel_rfl) (by kernel_rfl) (by kernel_rfl) ?_
   repeat (first|(simp -implicitDefEqProofs only [go_sem,Nat.reduceAdd,Nat.reduceMul,Nat.reduceEqDiff,Nat.reduceLT,Nat.reduceLeDiff,reduceIte,reduceCtorEq,Bool.not_true,bl1,bl2,ht,hk,List.length_map])|((with_reducible refine Qab (h1) ?_ ?_ ?_);(with_reducible rfl);rfl)|((with_reducible refine Qab (h2) ?_ ?_ ?_);(with_reducible rfl);rfl)|((with_reducible refine Qbj (h3) ?_ ?_ ?_ ?_);(with_reducible rfl);rfl;rfl)|((with_reducible refine Qbj (h4) ?_ ?_ ?_ ?_);(with_reducible rfl);rfl;rfl))
end Go.Proofs.YtciddhkfbgkejaaGreatDoor

namespace Go.Dg
theorem Qfy {d:Int} {D:Nat} (h:d.natAbs<2^D) (k:Nat):(d^k).natAbs<2^(D*k+1):=by
 rw [Int.natAbs_pow]
 have h1:d.natAbs^k≤(2^D)^k:=Nat.pow_le_pow_left (Nat.le_of_lt h) k
 rw [←Nat.pow_mul]at h1
 rw [Nat.pow_succ]
 have:=Nat.pow_pos (n:=D*k) (show 0<2 by decide)
 omega
end Go.Dg

namespace Go.Dg

structure Sg where
  f:Int
  t:Int
  o:Int
  x:List Int
  y:List Int
  z:List Int

/-- The weight of a coefficient in a control value,times 60. -/
def cw (n j k:Nat):Nat:=60/bin n k*bin j k
def ctl (c:List Int) (j:Nat):Int:=sm (fun k=>c.getD k 0*(cw (c.length-1) j k:Int)) (j+1)
/-- The first j control values are within the bounds. -/
def Qe6 (c:List Int) (o:Int) (j:Nat):Bool:=(List.range j).all fun j=>decide (((ctl c j).natAbs:Int)≤62914560*o)
def Qqp (c:List Int):Bool:=decide (1≤c.length)&&(decide (c.length≤6)&&(decide (c.length≤1)|| !(c.getD (c.length-1) 0==0)))
def axOK (c:List Int) (o:Int):Bool:=Qqp c&&Qe6 c o c.length
def gcdL (g:Nat) (c:List Int):Nat:=c.foldl (fun g x=>Nat.gcd g x.natAbs) g
def Sg.ax (s:Sg):List (List Int):=[s.x,s.y,s.z]
def rngS (s:Sg):Bool:=decide (0≤s.f)&&(decide (s.f<s.t)&&(decide (s.t≤3600000)&&(decide (1≤s.o)&&decide (s.o≤4294967296))))
def Qbh (s:Sg):Bool:=rngS s&&((s.ax.all fun c=>axOK c s.o)&&(s.ax.foldl gcdL s.o.natAbs==1))

theorem Qj2 (g:Nat) (c:List Int) (x:Int):gcdL g (c++[x])=Nat.gcd (gcdL g c) x.natAbs:=by simp [gcdL]
theorem Qmw {g:Nat} (c:List Int) {K:Nat} (hg:g<K) (hc: ∀x∈c,x.natAbs<K):gcdL g c<K:=by
  induction c generalizing g with
  |nil=>exact hg
  |cons x c ih=>
    refine ih (g:=Nat.gcd g x.natAbs) ?_ fun y hy=>hc y (by simp [hy])
    rcases Nat.eq_zero_or_pos g with h|h
    · subst h;rw [Nat.gcd_zero_left];exact hc x (by simp)
    · exact Nat.lt_of_le_of_lt (Nat.le_of_dvd h (Nat.gcd_dvd_left _ _)) hg
theorem Qfx (c:List Int) (o:Int) (j:Nat):Qe6 c o (j+1)=(Qe6 c o j&&decide (((ctl c j).natAbs:Int)≤62914560*o)):=by
  simp [Qe6,List.range_succ]
theorem Q38 {c:List Int} {o:Int} {j m:Nat} (h:Qe6 c o j=false) (hm:j≤m):Qe6 c o m=false:=by
  induction m with
  |zero=>
        obtain rfl:j=0:=by omega
        exact h
  |succ m ih=>
    rw [Qfx]
    by_cases e:j=m+1
    · subst e;rw [Qfx]at h;exact h
    · rw [ih (by omega)];rfl
theorem Zgl (n j k:Nat) (hj:j≤5):cw n j k≤1920:=by
  unfold cw
  have h1:60/bin n k≤60:=Nat.div_le_self _ _
  have h2:=Qh2 j k
  have h3:2^j≤2^5:=Nat.pow_le_pow_right (by decide) hj
  have h4:=Nat.mul_le_mul h1 (Nat.le_trans h2 h3)
  omega
theorem Qmx {c:List Int} {B n j:Nat} (hc:bd B c) (hj:j≤5) (m:Nat) (hm:m≤6):(sm (fun k=>c.getD k 0*(cw n j k:Int)) m).natAbs<2^(B+11+7):=by
  refine Qw8 (by omega) fun i hi=> ?_
  rw [Int.natAbs_mul,Nat.pow_add]
  refine Nat.mul_lt_mul'' (Zan hc i) ?_
  rw [Int.natAbs_natCast]
  have:=Zgl n j i hj
  omega
/-- A coordinate at a/d,times the denominator to the power of 5. -/
def plcT (c:List Int) (a d:Int) (k:Nat):Int:=c.getD k 0*(a^k*d^(5-k))
def plc (c:List Int) (a d:Int):Int:=sm (plcT c a d) c.length
def plP (s:Sg) (a d:Int) (i:Nat):Int:=plc (s.ax.getD i []) a d
def plG (s:Sg) (a d:Int) (i:Nat):Nat:=gcdL (s.o*d^5).natAbs ((List.range i).map (plP s a d))
def at3 (P:Nat→Int) (i m:Nat):Int:=if m<i then P m else 0
theorem Qdn (s:Sg) (a d:Int) (i:Nat):plG s a d (i+1)=Nat.gcd (plG s a d i) (plP s a d i).natAbs:=by
  unfold plG;rw [List.range_succ,List.map_append];exact Qj2 _ _ _
theorem Qmy {c:List Int} {a d:Int} {B:Nat} (hc:bd B c) (ha:a.natAbs<2^B) (hd:d.natAbs<2^B) (k:Nat) (hk:k≤5):
    (a^k).natAbs<2^(B*5+1)∧(d^(5-k)).natAbs<2^(B*5+1)∧(a^k*d^(5-k)).natAbs<2^(B*5+1+(B*5+1))∧(plcT c a d k).natAbs<2^(B+(B*5+1+(B*5+1))):=by
  have h1:(a^k).natAbs<2^(B*5+1):=Nat.lt_of_lt_of_le (Qfy ha k) (Nat.pow_le_pow_right (by decide) (by have:=Nat.mul_le_mul_left B hk;omega))
  have h2:(d^(5-k)).natAbs<2^(B*5+1):=Nat.lt_of_lt_of_le (Qfy hd (5-k)) (Nat.pow_le_pow_right (by decide) (by have:=Nat.mul_le_mul_left B (show 5-k≤5 by omega);omega))
  have h3:(a^k*d^(5-k)).natAbs<2^(B*5+1+(B*5+1)):=by rw [Int.natAbs_mul,Nat.pow_add];exact Nat.mul_lt_mul'' h1 h2
  refine⟨h1,h2,h3,?_⟩
  unfold plcT
  rw [Int.natAbs_mul,Nat.pow_add _ B]
  exact Nat.mul_lt_mul'' (Zan hc k) h3
theorem Qen {c:List Int} {a d:Int} {B:Nat} (hc:bd B c) (ha:a.natAbs<2^B) (hd:d.natAbs<2^B) (m:Nat) (hm:m≤6):(sm (plcT c a d) m).natAbs<2^(B+(B*5+1+(B*5+1))+7):=
  Qw8 (by omega) fun i hi=>(Qmy hc ha hd i (by omega)).2.2.2
theorem Qqq {s:Sg} {a d:Int} (ho:1≤s.o) (hd:1≤d) (i:Nat):0<plG s a d i:=by
  induction i with
  |zero=>
    show 0<(s.o*d^5).natAbs
    have h:0<s.o*d^5:=Int.mul_pos (by omega) (Int.pow_pos (by omega))
    omega
  |succ i ih=>rw [Qdn];exact Nat.gcd_pos_of_pos_left _ ih
theorem Zbn {s:Sg} {d:Int} {B:Nat} (ho:s.o.natAbs<2^B) (hd:d.natAbs<2^B):(s.o*d^5).natAbs<2^(B+(B*5+1)):=by
  rw [Int.natAbs_mul,Nat.pow_add _ B]
  exact Nat.mul_lt_mul'' ho (Qfy hd 5)
theorem Qw9 {s:Sg} {a d:Int} {B:Nat} (hc: ∀c∈s.ax,bd B c) (h6: ∀c∈s.ax,c.length≤6) (ha:a.natAbs<2^B) (hd:d.natAbs<2^B) (i:Nat) (hi:i<3):
    (plP s a d i).natAbs<2^(B+(B*5+1+(B*5+1))+7):=by
  have hi':i<s.ax.length:=hi
  have hm:s.ax.getD i []=s.ax[i]:=by rw [List.getD_eq_getElem?_getD,List.getElem?_eq_getElem hi'];rfl
  unfold plP plc
  rw [hm]
  exact Qen (hc _ (List.getElem_mem hi')) ha hd _ (h6 _ (List.getElem_mem hi'))
theorem Zgm {s:Sg} {a d:Int} {B:Nat} (hc: ∀c∈s.ax,bd B c) (h6: ∀c∈s.ax,c.length≤6) (ho:s.o.natAbs<2^B) (ha:a.natAbs<2^B) (hd:d.natAbs<2^B) (i:Nat) (hi:i≤3):
    ((plG s a d i:Nat):Int).natAbs<2^(B+(B*5+1+(B*5+1))+7):=by
  rw [Int.natAbs_natCast]
  refine Qmw _ (Nat.lt_of_lt_of_le (Zbn ho hd) (Nat.pow_le_pow_right (by decide) (by omega))) ?_
  intro x hx
  simp only [List.mem_map,List.mem_range]at hx
  obtain⟨m,hm,rfl⟩:=hx
  exact Qw9 hc h6 ha hd m (by omega)
end Go.Dg

namespace Go.Dg
def plQ (s:Sg) (a d:Int) (i:Nat):Int:=plP s a d i/(plG s a d 3:Int)
def plO (s:Sg) (a d:Int):Int:=s.o*d^5/(plG s a d 3:Int)
def Qxa (s:Sg) (a d:Int) (s':Sg) (a' d':Int):Bool:=decide (plQ s a d 0=plQ s' a' d' 0)&&(decide (plQ s a d 1=plQ s' a' d' 1)&&(decide (plQ s a d 2=plQ s' a' d' 2)&&decide (plO s a d=plO s' a' d')))
def Qgx (a b:Sg):Bool:=decide (a.t=b.f)&&Qxa a 1 1 b 0 1
def sg0:Sg:=⟨0,0,0,[],[],[]⟩
def vpAt (p:List Sg) (j:Nat):Bool:=Qbh (p.getD j sg0)&&(decide (j=0)||Qgx (p.getD (j-1) sg0) (p.getD j sg0))
def vpTo (p:List Sg) (i:Nat):Bool:=(List.range i).all (vpAt p)
def Qbn (p:List Sg):Bool:=vpTo p p.length&&(decide (1≤p.length)&&decide (p.length≤256))
theorem Qop (p:List Sg) (i:Nat):vpTo p (i+1)=(vpTo p i&&vpAt p i):=by simp [vpTo,List.range_succ]
theorem Zbo {p:List Sg} {j m:Nat} (h:vpAt p j=false) (hm:j<m):vpTo p m=false:=by
 unfold vpTo
 rw [List.all_eq_false]
 exact⟨j,List.mem_range.2 hm,by simp [h]⟩
theorem Qlv {p:List Sg} {j:Nat} (h:vpAt p j=false) (hm:j<p.length):Qbn p=false:=by unfold Qbn;rw [Zbo h hm];rfl
theorem sgD {p:List Sg} {i:Nat} (h:i<p.length):p.getD i sg0=p[i]:=by rw [List.getD_eq_getElem?_getD,List.getElem?_eq_getElem h];rfl
theorem Qlw {p:List Sg} {i j:Nat} (h:vpTo p i=true) (hj:j<i):Qbh (p.getD j sg0)=true:=by
 have:=List.all_eq_true.1 h j (List.mem_range.2 hj)
 unfold vpAt at this
 simp only [Bool.and_eq_true]at this
 exact this.1
theorem Qbb {s:Sg} (h:Qbh s=true):(0≤s.f∧s.f<s.t∧s.t≤3600000∧1≤s.o∧s.o≤4294967296)∧(∀c∈s.ax,axOK c s.o=true)∧s.ax.foldl gcdL s.o.natAbs=1:=by
 unfold Qbh rngS at h
 simp only [Bool.and_eq_true,decide_eq_true_eq,List.all_eq_true,beq_iff_eq]at h
 obtain⟨⟨h1,h2,h3,h4,h5⟩,h6,h7⟩:=h
 exact⟨⟨h1,h2,h3,h4,h5⟩,h6,h7⟩
theorem Qh3 {c:List Int} {o:Int} (h:axOK c o=true):1≤c.length∧c.length≤6∧(1<c.length→c.getD (c.length-1) 0≠0)∧Qe6 c o c.length=true:=by
 unfold axOK Qqp at h
 simp only [Bool.and_eq_true,decide_eq_true_eq,Bool.or_eq_true,Bool.not_eq_true',beq_eq_false_iff_ne]at h
 obtain⟨⟨h1,h2,h3⟩,h4⟩:=h
 exact⟨h1,h2,fun h5=>h3.elim (fun h6=>by omega) id,h4⟩
theorem Qgy {s:Sg} (h:Qbh s=true): ∀c∈s.ax,c.length≤6:=fun c hc=>(Qh3 ((Qbb h).2.1 c hc)).2.1
theorem Qgz {s:Sg} (h:Qbh s=true):1≤s.o:=(Qbb h).1.2.2.2.1
end Go.Dg

namespace Go.Dg
def few1 (s:Sg):Bool:=decide (s.x.length≤8)&&(decide (s.y.length≤8)&&decide (s.z.length≤8))
def fewB (p:List Sg) (m:Nat):Bool:=((p.take (m+1)).all few1)&&decide (p.length≤m)
theorem Qua {p:List Sg} {m:Nat} (h:fewB p m=true):p.length≤m∧ ∀s∈p,∀c∈s.ax,c.length≤8:=by
 unfold fewB at h
 simp only [Bool.and_eq_true,decide_eq_true_eq]at h
 obtain⟨h1,h2⟩:=h
 rw [List.take_of_length_le (by omega)]at h1
 refine⟨h2,fun s hs c hc=> ?_⟩
 have:=List.all_eq_true.1 h1 s hs
 unfold few1 at this
 simp only [Bool.and_eq_true,decide_eq_true_eq]at this
 obtain⟨a1,a2,a3⟩:=this
 unfold Sg.ax at hc
 simp only [List.mem_cons,List.not_mem_nil,or_false]at hc
 rcases hc with rfl|rfl|rfl<;>assumption
theorem Qmz {p:List Sg} {m i:Nat} (hi:i<p.length) (hm:i≤m) (h:few1 p[i]=false):fewB p m=false:=by
 unfold fewB
 have:(p.take (m+1)).all few1=false:=by
  rw [List.all_eq_false]
  refine⟨p[i],?_,by simp [h]⟩
  rw [List.mem_take_iff_getElem]
  exact⟨i,by omega,rfl⟩
 rw [this];rfl
end Go.Dg

namespace Go.Dg
def sw (L:List Int) (j:Nat):List Int:=(L.set j (L.getD (j-1) 0)).set (j-1) (L.getD j 0)
def bub (L:List Int):Nat→List Int
 |0=>L
 |j+1=>if L.getD (j+1) 0<L.getD j 0 then bub (sw L (j+1)) j else L
def isr (L:List Int):Nat→List Int
 |0=>L
 |k+1=>bub (isr L k) (k+1)
def Qbk (L:List Int):List Int:=isr L (L.length-1)
theorem Zao (L:List Int) (j:Nat):(sw L j).length=L.length:=by simp [sw]
theorem Qxj: ∀(j:Nat) (L:List Int),(bub L j).length=L.length
 |0,_=>rfl
 |j+1,L=>by
  unfold bub
  split
  ·rw [Qxj j,Zao]
  ·rfl
theorem Qqs (L:List Int): ∀k,(isr L k).length=L.length
 |0=>rfl
 |k+1=>by rw [isr,Qxj,Qqs L k]
theorem Qj4 (L:List Int):(Qbk L).length=L.length:=Qqs _ _
theorem gD {L:List Int} {i:Nat} (h:i<L.length):L.getD i 0=L[i]:=by rw [List.getD_eq_getElem?_getD,List.getElem?_eq_getElem h];rfl
theorem Q4a (A B:List Int) (a b:Int) (j:Nat) (hj:A.length=j):sw (A++a::b::B) (j+1)=A++b::a::B:=by
 unfold sw
 subst hj
 simp
theorem Qlx: ∀(j:Nat) (A B:List Int) (x:Int),A.length=j→(A.Pairwise (· ≤ ·))→ ∃A1 A2,A=A1++A2∧bub (A++x::B) j=A1++x::A2++B∧(∀y∈A1,y≤x)∧ ∀y∈A2,x<y
 |0,A,B,x,h,_=>⟨[],[],by simpa using List.length_eq_zero_iff.1 h,by have:=List.length_eq_zero_iff.1 h;subst this;simp [bub],by simp,by simp⟩
 |j+1,A,B,x,h,hs=>by
  obtain⟨A',a,rfl⟩: ∃A' a,A=A'++[a]:=⟨A.dropLast,A.getLast (by intro e;subst e;simp at h),(List.dropLast_concat_getLast _).symm⟩
  have hl:A'.length=j:=by simpa using h
  have e1:(A'++[a]++x::B).getD (j+1) 0=x:=by simp [List.getD_eq_getElem?_getD,←hl,List.getElem?_append_right]
  have e2:(A'++[a]++x::B).getD j 0=a:=by simp [List.getD_eq_getElem?_getD,←hl]
  have hs':=List.pairwise_append.1 hs
  unfold bub
  rw [e1,e2]
  split
  ·rename_i hlt
   have e3:sw (A'++[a]++x::B) (j+1)=A'++x::a::B:=by
    have:=Q4a A' B a x j hl
    simpa using this
   rw [e3]
   obtain⟨A1,A2,f1,f2,f3,f4⟩:=Qlx j A' (a::B) x hl hs'.1
   refine⟨A1,A2++[a],by rw [f1];simp,by rw [f2];simp,f3,fun y hy=> ?_⟩
   rcases List.mem_append.1 hy with hy|hy
   ·exact f4 y hy
   ·simp at hy;omega
  ·rename_i hge
   refine⟨A'++[a],[],by simp,by simp,fun y hy=> ?_,by simp⟩
   rcases List.mem_append.1 hy with hy|hy
   ·have:=hs'.2.2 y hy a (by simp);omega
   ·simp at hy;omega
theorem Qss (L:List Int): ∀k,k+1≤L.length→ ∃S,isr L k=S++L.drop (k+1)∧S.length=k+1∧S.Pairwise (· ≤ ·)∧ ∀y,y∈S↔y∈L.take (k+1)
 |0,h=>by
  cases L with
  |nil=>simp at h
  |cons a L=>exact⟨[a],rfl,rfl,by simp,by simp⟩
 |k+1,h=>by
  obtain⟨S,h1,h2,h3,h4⟩:=Qss L k (by omega)
  have hd:L.drop (k+1)=L[k+1]::L.drop (k+1+1):=List.drop_eq_getElem_cons (by omega)
  rw [hd]at h1
  obtain⟨A1,A2,f1,f2,f3,f4⟩:=Qlx (k+1) S (L.drop (k+1+1)) L[k+1] h2 h3
  refine⟨A1++L[k+1]::A2,by rw [isr,h1,f2],by have:=h2;rw [f1]at this;simp at this ⊢;omega,?_,fun y=> ?_⟩
  ·subst f1
   obtain⟨p1,p2,p3⟩:=List.pairwise_append.1 h3
   refine List.pairwise_append.2 ⟨p1,List.pairwise_cons.2 ⟨fun y hy=>Int.le_of_lt (f4 y hy),p2⟩,fun y hy z hz=> ?_⟩
   rcases List.mem_cons.1 hz with rfl|hz
   ·exact f3 y hy
   ·exact p3 y hy z hz
  ·rw [List.take_add_one,List.getElem?_eq_getElem (show k+1<L.length by omega)]
   have:=h4 y
   rw [f1]at this
   simp only [List.mem_append,List.mem_cons,Option.toList_some,List.mem_singleton]at this ⊢
   rw [←this]
   constructor
   ·rintro(a|a|a)
    ·exact .inl (.inl a)
    ·exact .inr (.inl a)
    ·exact .inl (.inr a)
   ·rintro((a|a)|a)
    ·exact .inl a
    ·exact .inr (.inr a)
    ·exact .inr (.inl (a.elim id (fun h=>nomatch h)))
theorem Qh4 (L:List Int):(Qbk L).Pairwise (· ≤ ·)∧ ∀y,y∈Qbk L↔y∈L:=by
 cases L with
 |nil=>exact⟨by simp [Qbk,isr],fun _=>Iff.rfl⟩
 |cons a L=>
  obtain⟨S,h1,h2,h3,h4⟩:=Qss (a::L) L.length (Nat.le_refl _)
  have e:Qbk (a::L)=S:=by
   unfold Qbk
   have:(a::L).length-1=L.length:=by simp
   rw [this,h1]
   simp
  rw [e]
  refine⟨h3,fun y=> ?_⟩
  rw [h4 y,List.take_of_length_le (by simp)]
def dd:List Int→List Int
 | []=>[]
 | [a]=>[a]
 |a::b::L=>if a=b then dd (b::L)else a::dd (b::L)
theorem Qxk: ∀(L:List Int) (y:Int),y∈dd L↔y∈L
 | [],_=>Iff.rfl
 | [_],_=>Iff.rfl
 |a::b::L,y=>by
  have ih:=Qxk (b::L) y
  unfold dd
  split
  ·rename_i e;subst e;rw [ih];simp
  ·simp only [List.mem_cons]at ih ⊢;rw [ih]
theorem Qj5: ∀(L:List Int),L.Pairwise (· ≤ ·)→(dd L).Pairwise (· < ·)
 | [],_=>List.Pairwise.nil
 | [_],_=>by simp [dd]
 |a::b::L,h=>by
  obtain⟨h1,h2⟩:=List.pairwise_cons.1 h
  have ih:=Qj5 (b::L) h2
  unfold dd
  split
  ·exact ih
  ·rename_i e
   refine List.pairwise_cons.2 ⟨fun y hy=> ?_,ih⟩
   have hy:=(Qxk _ _).1 hy
   have hab:=h1 b (by simp)
   rcases List.mem_cons.1 hy with rfl|hy
   ·omega
   ·have:=(List.pairwise_cons.1 h2).1 y hy;omega
theorem Qxl: ∀(l:List Int) (a x:Int),dd (l++[a]++[x])=if a=x then dd (l++[a])else dd (l++[a])++[x]
 | [],a,x=>by by_cases h:a=x<;>simp [dd,h]
 | [b],a,x=>by
  simp only [List.cons_append,List.nil_append,dd]
  split<;>split<;>simp_all
 |b::c::l,a,x=>by
  have ih:=Qxl (c::l) a x
  simp only [List.cons_append,dd]at ih ⊢
  rw [ih]
  split<;>split<;>simp
theorem Qj6 (xs:List Int) (j:Nat) (h1:1≤j) (h:j<xs.length):dd (xs.take (j+1))=if xs.getD (j-1) 0=xs.getD j 0 then dd (xs.take j)else dd (xs.take j)++[xs.getD j 0]:=by
 obtain⟨i,rfl⟩: ∃i,j=i+1:=⟨j-1,by omega⟩
 have e1:xs.take (i+1)=xs.take i++[xs[i]]:=by rw [List.take_add_one,List.getElem?_eq_getElem (show i<xs.length by omega)];rfl
 have e2:xs.take (i+1+1)=xs.take i++[xs[i]]++[xs[i+1]]:=by rw [List.take_add_one,List.getElem?_eq_getElem h,e1];rfl
 rw [e2,e1,Qxl,gD h,Nat.add_sub_cancel,gD (show i<xs.length by omega)]
theorem Qxm: ∀(l:List Int),(dd l).length≤l.length
 | []=>Nat.le_refl _
 | [_]=>Nat.le_refl _
 |a::b::l=>by
  have ih:=Qxm (b::l)
  unfold dd
  split<;>simp at ih ⊢ <;>omega
def ddE (xs:List Int) (j:Nat):List Int:=dd (xs.take j)++xs.drop (dd (xs.take j)).length
theorem Qj7 (xs:List Int) (j:Nat):(ddE xs j).length=xs.length:=by
 have h1:=Qxm (xs.take j)
 have h2:(xs.take j).length≤xs.length:=by simp;omega
 simp only [ddE,List.length_append,List.length_drop];omega
theorem Qxn (xs:List Int) (j i:Nat) (h:(dd (xs.take j)).length≤i):(ddE xs j).getD i 0=xs.getD i 0:=by
 simp only [ddE,List.getD_eq_getElem?_getD]
 rw [List.getElem?_append_right h,List.getElem?_drop]
 congr 2;omega
theorem Zbs (xs:List Int) (j:Nat) (h1:1≤j) (h:j<xs.length) (hl:(dd (xs.take j)).length<j) (hne:xs.getD (j-1) 0≠xs.getD j 0):(ddE xs j).set (dd (xs.take j)).length (xs.getD j 0)=ddE xs (j+1):=by
 have e:=Qj6 xs j h1 h
 rw [if_neg hne]at e
 simp only [ddE,e,List.length_append,List.length_singleton]
 have hd:xs.drop (dd (xs.take j)).length=xs[(dd (xs.take j)).length]'(by omega)::xs.drop ((dd (xs.take j)).length+1):=List.drop_eq_getElem_cons (by omega)
 rw [List.set_append_right _ _ (Nat.le_refl _),Nat.sub_self,hd,List.set_cons_zero,List.append_assoc]
 rfl
theorem Q4b (xs:List Int) (j:Nat) (h1:1≤j) (h:j<xs.length) (he:xs.getD (j-1) 0=xs.getD j 0):ddE xs (j+1)=ddE xs j∧(dd (xs.take (j+1))).length=(dd (xs.take j)).length:=by
 have e:=Qj6 xs j h1 h
 rw [if_pos he]at e
 simp only [ddE,e,and_self]
theorem Qxo (xs:List Int) (k:Nat) (h1:1≤k) (h:k<xs.length) (hd:dd (xs.take k)=xs.take k) (he:xs.getD (k-1) 0=xs.getD k 0):ddE xs (k+1)=xs∧(dd (xs.take (k+1))).length=k:=by
 have e:=Qj6 xs k h1 h
 rw [if_pos he,hd]at e
 have hl:(xs.take k).length=k:=by simp;omega
 exact⟨by simp only [ddE,e,hl,List.take_append_drop],by rw [e,hl]⟩
end Go.Dg

namespace Go.Dg
def putI (n:Int):List Int→List Int
 | []=>[n]
 |x::l=>if n<x then n::x::l else x::putI n l
theorem Qxx: ∀(a b:List Int),a.Pairwise (· < ·)→b.Pairwise (· < ·)→(∀y,y∈a↔y∈b)→a=b
 | [],[],_,_,_=>rfl
 | [],y::b,_,_,h=>by have:=(h y).2 (by simp);simp at this
 |x::a,[],_,_,h=>by have:=(h x).1 (by simp);simp at this
 |x::a,y::b,h1,h2,h=>by
  rw [List.pairwise_cons]at h1 h2
  have e:x=y:=by
   have m1:=(h x).1 (by simp)
   have m2:=(h y).2 (by simp)
   simp only [List.mem_cons]at m1 m2
   rcases m1 with e|m1
   ·exact e
   ·rcases m2 with e|m2
    ·exact e.symm
    ·have:=h1.1 y m2;have:=h2.1 x m1;omega
  subst e
  rw [Qxx a b h1.2 h2.2 fun z=> ?_]
  have hz:=h z
  simp only [List.mem_cons]at hz
  constructor
  ·intro m
   rcases hz.1 (.inr m)with rfl|q
   ·have:=h1.1 z m;omega
   ·exact q
  ·intro m
   rcases hz.2 (.inr m)with rfl|q
   ·have:=h2.1 z m;omega
   ·exact q
def Qcz (k:Nat) (w:Wd):List Int:=match k with
 |0=>[w.lx,w.hx+1]
 |1=>[w.ly,w.hy+1]
 |2=>[w.lz,w.hz+1]
 |_=>[w.f,w.t]
def allE (k:Nat) (l:List Wd):List Int:=l.flatMap (Qcz k)
def numE (k:Nat) (l:List Wd):List Int:=dd (Qbk (allE k l))
theorem Qxy (k:Nat) (l:List Wd) (w:Wd):allE k (l++[w])=allE k l++Qcz k w:=by simp [allE,List.flatMap_append]
theorem Zjr (k:Nat) (w:Wd):(Qcz k w).length=2:=by unfold Qcz;split<;>rfl
theorem Qep (k:Nat): ∀l:List Wd,(allE k l).length=2*l.length
 | []=>rfl
 |w::l=>by
  have:=Qep k l
  simp only [allE,List.flatMap_cons,List.length_append,Zjr,List.length_cons]at this ⊢
  omega
def sqL (l:List Wd) (q:Int×Int×Int×Int):Int:=atW Wd.ux l q.1 q.2.1 q.2.2.1 q.2.2.2*atW Wd.ux l q.1 q.2.1 q.2.2.1 q.2.2.2+atW Wd.uy l q.1 q.2.1 q.2.2.1 q.2.2.2*atW Wd.uy l q.1 q.2.1 q.2.2.1 q.2.2.2+atW Wd.uz l q.1 q.2.1 q.2.2.1 q.2.2.2*atW Wd.uz l q.1 q.2.1 q.2.2.1 q.2.2.2
def Qfd (l:List Wd):Int→List (Int×Int×Int×Int)→Int
 |m,[]=>m
 |m,q::qs=>Qfd l (max m (sqL l q)) qs
theorem Qox (l:List Wd): ∀(a b:List (Int×Int×Int×Int)) (m:Int),Qfd l m (a++b)=Qfd l (Qfd l m a) b
 | [],_,_=>rfl
 |q::a,b,m=>Qox l a b _
def c3 (x y z:Int) (T:List Int):List (Int×Int×Int×Int):=T.map fun t=>(x,y,z,t)
def c2 (x y:Int) (Z T:List Int):List (Int×Int×Int×Int):=Z.flatMap fun z=>c3 x y z T
def c1 (x:Int) (Y Z T:List Int):List (Int×Int×Int×Int):=Y.flatMap fun y=>c2 x y Z T
def c0 (X Y Z T:List Int):List (Int×Int×Int×Int):=X.flatMap fun x=>c1 x Y Z T
def Qin (l:List Wd):List (Int×Int×Int×Int):=c0 (numE 0 l) (numE 1 l) (numE 2 l) (numE 3 l)
def Qfe (l:List Wd):Int:=Qfd l 0 (Qin l)
theorem Ql2 {x:Int} (h: -40000≤x∧x≤40000):0≤x*x∧x*x≤1600000000:=by
 have h1:=Int.mul_le_mul (a:=(x.natAbs:Int)) (b:=(x.natAbs:Int)) (c:=40000) (d:=40000) (by omega) (by omega) (by omega) (by omega)
 have h2:(x.natAbs:Int)*(x.natAbs:Int)=x*x:=Int.natAbs_mul_self' x
 rw [h2]at h1
 have h3:0≤x*x:=by rw [←h2];exact Int.mul_nonneg (by omega) (by omega)
 omega
theorem Qm0 (l:List Wd): ∀(qs:List (Int×Int×Int×Int)) (m:Int),m≤Qfd l m qs
 | [],m=>Int.le_refl m
 |q::qs,m=>Int.le_trans (by omega) (Qm0 l qs (max m (sqL l q)))
theorem Qoy (l:List Wd): ∀(qs:List (Int×Int×Int×Int)) (m:Int) (q),q∈qs→sqL l q≤Qfd l m qs
 |p::qs,m,q,h=>by
  simp only [List.mem_cons]at h
  rcases h with rfl|h
  ·exact Int.le_trans (by omega) (Qm0 l qs (max m (sqL l q)))
  ·exact Qoy l qs _ q h
end Go.Dg

namespace Go.Proofs.YtciddhkfbgkejaaGreatDoor
open Go.Vl Go.RowKit Go.Dg
def oP (q:Int×Int×Int×Int):List PV:=[.agg [.int .i64 q.1,.int .i64 q.2.1,.int .i64 q.2.2.1],.int .i64 q.2.2.2]
theorem Qq0 {α β:Type} (f:α→List β) (L:List α) (i:Nat) (h:i<L.length):(L.take (i+1)).flatMap f=(L.take i).flatMap f++f L[i]:=by rw [Qbo L i h,List.flatMap_append];simp
theorem Qm6 {α β:Type} (f:α→List β) (L:List α) (i:Nat) (h:i<L.length):L.flatMap f=(L.take i).flatMap f++(f L[i]++(L.drop (i+1)).flatMap f):=by
 conv=>lhs;rw [←List.take_append_drop i L,List.flatMap_append,List.drop_eq_getElem_cons h,List.flatMap_cons]
theorem Zb7 {α β:Type} {A B tot:List α} {a:α} (h:tot=A++a::B) (f:α→β):(tot.map f)[(A.map f).length]? =some (f a)∧(tot.map f).take ((A.map f).length+1)=A.map f++[f a]:=by
 subst h
 constructor
 ·rw [List.map_append,List.getElem?_append_right (Nat.le_refl _),Nat.sub_self];rfl
 ·rw [List.map_append,List.map_cons]
  have:=List.take_append_of_le_length (l₁:=A.map f++[f a]) (l₂:=B.map f) (i:=(A.map f).length+1) (by simp)
  rw [List.append_assoc,List.singleton_append]at this
  rw [this,List.take_of_length_le (by simp)]
theorem Qs0 (L:List Int) (i:Nat) (h:i<L.length):(L.map (PV.int .i64))[i]? =some (.int .i64 L[i]):=by rw [List.getElem?_map,List.getElem?_eq_getElem h];rfl
set_option maxHeartbeats 8000000 in
theorem Q4n (X Y Z T:List Int) (hX:X.length≤100000) (hY:Y.length≤100000) (hZ:Z.length≤100000) (hT:T.length≤100000):
  Qqe Tryz.prog 99 [.rp [.slc (X.map (PV.int .i64)),.slc (Y.map (PV.int .i64)),.slc (Z.map (PV.int .i64)),.slc (T.map (PV.int .i64))]] ((c0 X Y Z T).map oP):=by
 refine Q3x (tb:=[]) 51 [0,1,4,6,8,10,12,13,14,15,19,20,21,22,26,27,28,29,33,34,35,36,46] mixed Tryz.func99 rfl (by kernel_rfl) (by kernel_rfl) (by kernel_rfl) (by kernel_rfl) fun l stop=> ?_
 repeat (first|(simp -implicitDefEqProofs only [go_sem,Nat.reduceAdd,Nat.reduceMul,Nat.reduceEqDiff,Nat.reduceLT,Nat.reduceLeDiff,reduceCtorEq,Int.reduceLT,List.length_map]))
 generalize htot:c0 X Y Z T=tot at*
 refine Qa0 mixed (fun i:{i:Nat // i≤X.length∧(c0 (X.take i) Y Z T).length≤stop}=>St.ofG [(0,.yld l stop),(1,.rp [.slc (X.map (PV.int .i64)),.slc (Y.map (PV.int .i64)),.slc (Z.map (PV.int .i64)),.slc (T.map (PV.int .i64))]),(12,.slc (X.map (PV.int .i64))),(13,.int .i64 (X.length:Int)),(14,.int .i64 (i.1:Int))] [] ((c0 (X.take i.1) Y Z T).map oP) (some (l,stop,tot.map oP))) (fun i=>X.length-i.1) ⟨0,Nat.zero_le _,Nat.zero_le _⟩ ?_ ?_
 ·refine Qax ?_
  simp [Qae,lkp,ren1,ren0,Qam]
 rintro⟨i,hi,hst⟩
 simp only
 by_cases hA:i<X.length
 case neg=>
  have hA':=ltF hA
  have e:X.take i=X:=List.take_of_length_le (by omega)
  rw [e,htot]at hst ⊢
  have ht:(tot.map oP).take (stop+1)=tot.map oP:=List.take_of_length_le (by rw [List.length_map];omega)
  generalize tot.map oP=OO at*
  repeat (first|(simp -implicitDefEqProofs only [go_sem,Nat.reduceAdd,Nat.reduceMul,Nat.reduceEqDiff,Nat.reduceLT,Nat.reduceLeDiff,reduceCtorEq,hA',Qgd,ht]))
 have hA':=ltT hA
 have n0:=nnT i
 have hg:=Qs0 X i hA
 have hwk:=Qak (a:=i) (by omega)
 have hP:c0 (X.take (i+1)) Y Z T=c0 (X.take i) Y Z T++c1 X[i] Y Z T:=Qq0 _ X i hA
 have hR: ∃R,tot=c0 (X.take i) Y Z T++(c1 X[i] Y Z T++R):=⟨_,by rw [←htot];exact Qm6 (fun x=>c1 x Y Z T) X i hA⟩
 clear htot
 generalize hPN:c0 (X.take (i+1)) Y Z T=PN at*
 generalize c0 (X.take i) Y Z T=P at*
 generalize X[i]=x at*
 repeat (first|(simp -implicitDefEqProofs only [go_sem,Nat.reduceAdd,Nat.reduceMul,Nat.reduceEqDiff,Nat.reduceLT,Nat.reduceLeDiff,reduceCtorEq,Int.reduceLE,Int.reduceLT,Int.reduceToNat,hA',n0,hg,Int.toNat_natCast,List.length_map]))
 refine Qa0 mixed (fun j:{j:Nat // j≤Y.length∧(P++c1 x (Y.take j) Z T).length≤stop}=>St.ofG [(0,.yld l stop),(1,.rp [.slc (X.map (PV.int .i64)),.slc (Y.map (PV.int .i64)),.slc (Z.map (PV.int .i64)),.slc (T.map (PV.int .i64))]),(12,.slc (X.map (PV.int .i64))),(13,.int .i64 (X.length:Int)),(14,.int .i64 (i:Int)),(4,.int .i64 x),(19,.slc (Y.map (PV.int .i64))),(20,.int .i64 (Y.length:Int)),(21,.int .i64 (j.1:Int))] [] ((P++c1 x (Y.take j.1) Z T).map oP) (some (l,stop,tot.map oP))) (fun j=>Y.length-j.1) ⟨0,Nat.zero_le _,by simp only [List.take_zero,c1,List.flatMap_nil,List.append_nil];exact hst⟩ ?_ ?_
 ·simp only [List.take_zero,c1,List.flatMap_nil,List.append_nil]
  refine Qax ?_
  simp [Qae,lkp,ren1,ren0,Qam]
 rintro⟨j,hj,hst1⟩
 simp only
 by_cases hB:j<Y.length
 case neg=>
  have hB':=ltF hB
  have e:Y.take j=Y:=List.take_of_length_le (by omega)
  rw [e,←hP]at hst1 ⊢
  repeat (first|(simp -implicitDefEqProofs only [go_sem,Nat.reduceAdd,Nat.reduceMul,Nat.reduceEqDiff,Nat.reduceLT,Nat.reduceLeDiff,reduceCtorEq,hB',hwk]))
  refine⟨⟨i+1,hA,by rw [hPN];exact hst1⟩,by simp only;omega,?_⟩
  simp only [hPN]
  refine Qax ?_
  simp [Qae,lkp,ren1,ren0,Qam]
 have hB':=ltT hB
 have n1:=nnT j
 have hg1:=Qs0 Y j hB
 have hwk1:=Qak (a:=j) (by omega)
 have hP1:P++c1 x (Y.take (j+1)) Z T=(P++c1 x (Y.take j) Z T)++c2 x Y[j] Z T:=by rw [List.append_assoc];exact congrArg _ (Qq0 _ Y j hB)
 have hR1: ∃R,tot=(P++c1 x (Y.take j) Z T)++(c2 x Y[j] Z T++R):=by
  obtain⟨R,hR⟩:=hR
  refine⟨(Y.drop (j+1)).flatMap (fun y=>c2 x y Z T)++R,?_⟩
  have hs:c1 x Y Z T=c1 x (Y.take j) Z T++(c2 x Y[j] Z T++(Y.drop (j+1)).flatMap (fun y=>c2 x y Z T)):=Qm6 (fun y=>c2 x y Z T) Y j hB
  rw [hR,hs];simp only [List.append_assoc]
 clear hst hR
 generalize hPN1:P++c1 x (Y.take (j+1)) Z T=PN1 at*
 generalize hQ1:P++c1 x (Y.take j) Z T=Q1 at*
 generalize Y[j]=y at*
 repeat (first|(simp -implicitDefEqProofs only [go_sem,Nat.reduceAdd,Nat.reduceMul,Nat.reduceEqDiff,Nat.reduceLT,Nat.reduceLeDiff,reduceCtorEq,Int.reduceLE,Int.reduceLT,Int.reduceToNat,hB',n1,hg1,Int.toNat_natCast,List.length_map]))
 refine Qa0 mixed (fun k:{k:Nat // k≤Z.length∧(Q1++c2 x y (Z.take k) T).length≤stop}=>St.ofG [(0,.yld l stop),(1,.rp [.slc (X.map (PV.int .i64)),.slc (Y.map (PV.int .i64)),.slc (Z.map (PV.int .i64)),.slc (T.map (PV.int .i64))]),(12,.slc (X.map (PV.int .i64))),(13,.int .i64 (X.length:Int)),(14,.int .i64 (i:Int)),(4,.int .i64 x),(19,.slc (Y.map (PV.int .i64))),(20,.int .i64 (Y.length:Int)),(21,.int .i64 (j:Int)),(6,.int .i64 y),(26,.slc (Z.map (PV.int .i64))),(27,.int .i64 (Z.length:Int)),(28,.int .i64 (k.1:Int))] [] ((Q1++c2 x y (Z.take k.1) T).map oP) (some (l,stop,tot.map oP))) (fun k=>Z.length-k.1) ⟨0,Nat.zero_le _,by simp only [List.take_zero,c2,List.flatMap_nil,List.append_nil];exact hst1⟩ ?_ ?_
 ·simp only [List.take_zero,c2,List.flatMap_nil,List.append_nil]
  refine Qax ?_
  simp [Qae,lkp,ren1,ren0,Qam]
 rintro⟨k,hk,hst2⟩
 simp only
 by_cases hC:k<Z.length
 case neg=>
  have hC':=ltF hC
  have e:Z.take k=Z:=List.take_of_length_le (by omega)
  rw [e,←hP1]at hst2 ⊢
  repeat (first|(simp -implicitDefEqProofs only [go_sem,Nat.reduceAdd,Nat.reduceMul,Nat.reduceEqDiff,Nat.reduceLT,Nat.reduceLeDiff,reduceCtorEq,hC',hwk1]))
  refine⟨⟨j+1,hB,by rw [hPN1];exact hst2⟩,by simp only;omega,?_⟩
  simp only [hPN1]
  refine Qax ?_
  simp [Qae,lkp,ren1,ren0,Qam]
 have hC':=ltT hC
 have n2:=nnT k
 have hg2:=Qs0 Z k hC
 have hwk2:=Qak (a:=k) (by omega)
 have hP2:Q1++c2 x y (Z.take (k+1)) T=(Q1++c2 x y (Z.take k) T)++c3 x y Z[k] T:=by rw [List.append_assoc];exact congrArg _ (Qq0 _ Z k hC)
 have hR2: ∃R,tot=(Q1++c2 x y (Z.take k) T)++(c3 x y Z[k] T++R):=by
  obtain⟨R,hR⟩:=hR1
  refine⟨(Z.drop (k+1)).flatMap (fun z=>c3 x y z T)++R,?_⟩
  have hs:c2 x y Z T=c2 x y (Z.take k) T++(c3 x y Z[k] T++(Z.drop (k+1)).flatMap (fun z=>c3 x y z T)):=Qm6 (fun z=>c3 x y z T) Z k hC
  rw [hR,hs];simp only [List.append_assoc]
 clear hst1 hR1
 generalize hPN2:Q1++c2 x y (Z.take (k+1)) T=PN2 at*
 generalize hQ2:Q1++c2 x y (Z.take k) T=Q2 at*
 generalize Z[k]=z at*
 repeat (first|(simp -implicitDefEqProofs only [go_sem,Nat.reduceAdd,Nat.reduceMul,Nat.reduceEqDiff,Nat.reduceLT,Nat.reduceLeDiff,reduceCtorEq,Int.reduceLE,Int.reduceLT,Int.reduceToNat,hC',n2,hg2,Int.toNat_natCast,List.length_map]))
 refine Qa0 mixed (fun q:{q:Nat // q≤T.length∧(Q2++c3 x y z (T.take q)).length≤stop}=>St.ofG [(0,.yld l stop),(1,.rp [.slc (X.map (PV.int .i64)),.slc (Y.map (PV.int .i64)),.slc (Z.map (PV.int .i64)),.slc (T.map (PV.int .i64))]),(12,.slc (X.map (PV.int .i64))),(13,.int .i64 (X.length:Int)),(14,.int .i64 (i:Int)),(4,.int .i64 x),(19,.slc (Y.map (PV.int .i64))),(20,.int .i64 (Y.length:Int)),(21,.int .i64 (j:Int)),(6,.int .i64 y),(26,.slc (Z.map (PV.int .i64))),(27,.int .i64 (Z.length:Int)),(28,.int .i64 (k:Int)),(8,.int .i64 z),(33,.slc (T.map (PV.int .i64))),(34,.int .i64 (T.length:Int)),(35,.int .i64 (q.1:Int))] [] ((Q2++c3 x y z (T.take q.1)).map oP) (some (l,stop,tot.map oP))) (fun q=>T.length-q.1) ⟨0,Nat.zero_le _,by simp only [List.take_zero,c3,List.map_nil,List.append_nil];exact hst2⟩ ?_ ?_
 ·simp only [List.take_zero,c3,List.map_nil,List.append_nil]
  refine Qax ?_
  simp [Qae,lkp,ren1,ren0,Qam]
 rintro⟨q,hq,hst3⟩
 simp only
 by_cases hD:q<T.length
 case neg=>
  have hD':=ltF hD
  have e:T.take q=T:=List.take_of_length_le (by omega)
  rw [e,←hP2]at hst3 ⊢
  repeat (first|(simp -implicitDefEqProofs only [go_sem,Nat.reduceAdd,Nat.reduceMul,Nat.reduceEqDiff,Nat.reduceLT,Nat.reduceLeDiff,reduceCtorEq,hD',hwk2]))
  refine⟨⟨k+1,hC,by rw [hPN2];exact hst3⟩,by simp only;omega,?_⟩
  simp only [hPN2]
  refine Qax ?_
  simp [Qae,lkp,ren1,ren0,Qam]
 have hD':=ltT hD
 have n3:=nnT q
 have hg3:=Qs0 T q hD
 have hwk3:=Qak (a:=q) (by omega)
 have hsn:Q2++c3 x y z (T.take (q+1))=(Q2++c3 x y z (T.take q))++[(x,y,z,T[q])]:=by
  rw [List.append_assoc];unfold c3;rw [Qbo T q hD,List.map_append];rfl
 have hsp: ∃R,tot=(Q2++c3 x y z (T.take q))++(x,y,z,T[q])::R:=by
  obtain⟨R,hR⟩:=hR2
  refine⟨c3 x y z (T.drop (q+1))++R,?_⟩
  have hs:c3 x y z T=c3 x y z (T.take q)++(x,y,z,T[q])::c3 x y z (T.drop (q+1)):=by
   unfold c3
   conv=>lhs;rw [←List.take_append_drop q T,List.map_append,List.drop_eq_getElem_cons hD,List.map_cons]
  rw [hR,hs];simp only [List.append_assoc,List.cons_append]
 obtain⟨R,hsp⟩:=hsp
 obtain⟨hgt,htk⟩:=Zb7 hsp oP
 have hL:((Q2++c3 x y z (T.take q)).map oP).length=(Q2++c3 x y z (T.take q)).length:=List.length_map _
 have hS:(Q2++c3 x y z (T.take (q+1))).length=(Q2++c3 x y z (T.take q)).length+1:=by rw [hsn,List.length_append];rfl
 have hsm:(Q2++c3 x y z (T.take (q+1))).map oP=(Q2++c3 x y z (T.take q)).map oP++[[.agg [.int .i64 x,.int .i64 y,.int .i64 z],.int .i64 T[q]]]:=by rw [hsn,List.map_append];rfl
 have eo:oP (x,y,z,T[q])=[.agg [.int .i64 x,.int .i64 y,.int .i64 z],.int .i64 T[q]]:=rfl
 rw [eo]at hgt htk
 clear hsp eo hsn hR2 hst2
 generalize hMN:(Q2++c3 x y z (T.take (q+1))).map oP=MN at*
 generalize (Q2++c3 x y z (T.take q)).map oP=M at*
 generalize T[q]=t at*
 generalize tot.map oP=OO at*
 have hst':(M.length≤stop)=True:=eq_true (by omega)
 by_cases hlt:M.length<stop
 case neg=>
  have hlt':(M.length<stop)=False:=eq_false hlt
  have e:M.length=stop:=by omega
  rw [e]at htk
  repeat (first|(simp -implicitDefEqProofs only [go_sem,Nat.reduceAdd,Nat.reduceMul,Nat.reduceEqDiff,Nat.reduceLT,Nat.reduceLeDiff,reduceCtorEq,hD',n3,hg3,hgt,hst',hlt',Qgd,htk,Int.toNat_natCast]))
 have hlt':(M.length<stop)=True:=eq_true hlt
 repeat (first|(simp -implicitDefEqProofs only [go_sem,Nat.reduceAdd,Nat.reduceMul,Nat.reduceEqDiff,Nat.reduceLT,Nat.reduceLeDiff,reduceCtorEq,hD',n3,hg3,hgt,hst',hlt',hwk3,Int.toNat_natCast]))
 refine⟨⟨q+1,hD,by rw [hS];omega⟩,by simp only;omega,?_⟩
 simp only [hMN,hsm]
 refine Qax ?_
 simp [Qae,lkp,ren1,ren0,Qam]
end Go.Proofs.YtciddhkfbgkejaaGreatDoor

namespace Go.Proofs.YtciddhkfbgkejaaGreatDoor
open Go.Vl Go.RowKit Go.Dg
end Go.Proofs.YtciddhkfbgkejaaGreatDoor

namespace Go.Proofs.YtciddhkfbgkejaaGreatDoor
open Go.Vl Go.RowKit Go.Dg
theorem Qfi {x y:Int} (hx:x.natAbs<2^65536) (hy:y.natAbs<2^65536) (h:(x+y).natAbs<2^65536):Qag Tryz.prog 68 [wPV x,wPV y] (wPV (x+y)):=by
 have h1:=Zhh hx hy
 rw [Qna h]at h1
 generalize x+y=S at*
 refine Qad (tb:=[]) 14 [.cell 4 71] [0,1,2,3,4,5] mixed Tryz.func68 rfl (by kernel_rfl) (by kernel_rfl) (by kernel_rfl) (by kernel_rfl) ?_
 repeat (first|(simp -implicitDefEqProofs only [go_sem,Nat.reduceAdd,Nat.reduceMul,Nat.reduceEqDiff,Nat.reduceLT,Nat.reduceLeDiff,reduceCtorEq,wPV])|((with_reducible refine Qab (h1) ?_ ?_ ?_);(with_reducible rfl);rfl))
theorem Qge {x y:Int} (hx:x.natAbs<2^65536) (hy:y.natAbs<2^65536) (h:(x*y).natAbs<2^65536):Qag Tryz.prog 155 [wPV x,wPV y] (wPV (x*y)):=by
 have h1:=Zhg hx hy
 rw [Qna h]at h1
 generalize x*y=S at*
 refine Qad (tb:=[]) 14 [.cell 4 71] [0,1,2,3,4,5] mixed Tryz.func155 rfl (by kernel_rfl) (by kernel_rfl) (by kernel_rfl) (by kernel_rfl) ?_
 repeat (first|(simp -implicitDefEqProofs only [go_sem,Nat.reduceAdd,Nat.reduceMul,Nat.reduceEqDiff,Nat.reduceLT,Nat.reduceLeDiff,reduceCtorEq,wPV])|((with_reducible refine Qab (h1) ?_ ?_ ?_);(with_reducible rfl);rfl))
theorem Zb9 {a b K:Nat} (ha:a<K) (hb:b<K):Nat.gcd a b<K:=by
 rcases Nat.eq_zero_or_pos a with h|h
 ·subst h;rw [Nat.gcd_zero_left];exact hb
 ·exact Nat.lt_of_le_of_lt (Nat.le_of_dvd h (Nat.gcd_dvd_left _ _)) ha
theorem Qo8 {x y:Int} (hx:x.natAbs<2^65536) (hy:y.natAbs<2^65536):Qag Tryz.prog 118 [wPV x,wPV y] (wPV ((Nat.gcd x.natAbs y.natAbs:Nat):Int)):=by
 have h1:=Zhi hx hy
 rw [Qna (by rw [Int.natAbs_natCast];exact Zb9 hx hy)]at h1
 generalize ((Nat.gcd x.natAbs y.natAbs:Nat):Int)=S at*
 refine Qad (tb:=[]) 14 [.cell 4 71] [0,1,2,3,4,5] mixed Tryz.func118 rfl (by kernel_rfl) (by kernel_rfl) (by kernel_rfl) (by kernel_rfl) ?_
 repeat (first|(simp -implicitDefEqProofs only [go_sem,Nat.reduceAdd,Nat.reduceMul,Nat.reduceEqDiff,Nat.reduceLT,Nat.reduceLeDiff,reduceCtorEq,wPV])|((with_reducible refine Qab (h1) ?_ ?_ ?_);(with_reducible rfl);rfl))
theorem Qyd {n:Int} (h:n.natAbs<2^65536):outN n=n:=by rw [outN,if_neg (Nat.not_lt.2 (Qdh 65536 _ h))]
theorem Qs2 {x y:Int} {B:Nat} (hx:x.natAbs<2^B) (hy:0<y):(x/y).natAbs<2^B∨(x/y).natAbs≤2^B:=by
 right
 obtain⟨m,rfl⟩: ∃m:Nat,y=(m+1:Nat):=⟨y.toNat-1,by omega⟩
 have:=Int.natAbs_ediv_le_natAbs x ((m+1:Nat):Int)
 omega
theorem Qkd {x y:Int} {B:Nat} (hx:x.natAbs<2^B) (hB:B≤65000) (hy:y.natAbs<2^65000) (h0:0<y):Qag Tryz.prog 67 [wPV x,wPV y] (wPV (x/y)):=by
 have h1:=Zhj (Qay hx (by omega)) (Qay hy (by omega)) (show y≠0 by omega)
 have hq:(x/y).natAbs<2^(B+1):=by
  rw [Nat.pow_succ]
  have h2:0<2^B:=Nat.two_pow_pos B
  rcases Qs2 hx h0 with h|h<;>omega
 have hr:(x%y).natAbs<2^65000:=by
  have h2:=Int.emod_nonneg x (show y≠0 by omega)
  have h3:=Int.emod_lt_of_pos x h0
  generalize 2^65000=K at*
  omega
 unfold Q9j at h1
 rw [Qyd (Qay hq (by omega)),Qyd (Qay hr (by omega))]at h1
 generalize x/y=S at*
 generalize x%y=R at*
 refine Qad (tb:=[]) 16 [.cell 4 71] [0,1,2,3,4,5] mixed Tryz.func67 rfl (by kernel_rfl) (by kernel_rfl) (by kernel_rfl) (by kernel_rfl) ?_
 repeat (first|(simp -implicitDefEqProofs only [go_sem,Nat.reduceAdd,Nat.reduceMul,Nat.reduceEqDiff,Nat.reduceLT,Nat.reduceLeDiff,reduceCtorEq,wPV])|((with_reducible refine Qab (h1) ?_ ?_ ?_);(with_reducible rfl);rfl))
theorem Qye {n:Int} {B:Nat} (h:n.natAbs<2^B) (k:Nat):(n^k).natAbs<2^(B*k+1):=Qfy h k
theorem Qeq (n:Int) (k B:Nat) (hn: -9223372036854775808≤n) (hn2:n≤9223372036854775807) (hk:k≤100) (hB:B≤600) (hb:n.natAbs<2^B):Qag Tryz.prog 146 [.int .i64 n,.int .i64 (k:Int)] (wPV (n^k)):=by
 have h1:=Qhe 1 (by decide) (by decide)
 have h2:=Qhe n hn hn2
 refine Qad (tb:=[]) 16 [.cell 4 71] [0,1,4,5,7,8,9] mixed Tryz.func146 rfl (by kernel_rfl) (by kernel_rfl) (by kernel_rfl) (by kernel_rfl) ?_
 repeat (first|(simp -implicitDefEqProofs only [go_sem,Nat.reduceAdd,Nat.reduceMul,Nat.reduceEqDiff,Nat.reduceLT,Nat.reduceLeDiff,reduceCtorEq,Int.reduceLT,wPV])|((with_reducible refine Qab (h1) ?_ ?_ ?_);(with_reducible rfl);rfl)|(with_reducible exact Qaa _ _ (by kernel_rfl))|(with_reducible refine And.intro (Qaa _ _ (by kernel_rfl)) ?_))
 refine Qa0 mixed (fun i:{i:Nat // i≤k}=>St.of [(0,.int .i64 n),(4,.bp 0 2 0 0),(5,.bp 101 2 0 0),(7,.int .i64 (k:Int)),(8,.int .i64 (i.1:Int))]
  [(0,{els:=[.agg [.bool false,.str ⟨#[]⟩]],esz:=2,ety:=71,fro:=0,live:=true,arr:=false}),(101,{els:=[wPV (n^i.1)],esz:=2,ety:=71,fro:=0,live:=true,arr:=false})]) (fun i=>k-i.1) ⟨0,Nat.zero_le _⟩ ?_ ?_
 ·refine Qan (θ:=[(0,0),(101,101)]) rfl ?_ ?_
  ·simp [Qae,lkp,ren1,ren0,Qam]
  ·refine⟨⟨rfl,rfl,rfl,rfl,rfl,.inr ⟨rfl,_,_,rfl,rfl,rfl,rfl⟩⟩,⟨rfl,rfl,rfl,rfl,rfl,.inr ⟨rfl,_,_,rfl,rfl,?_,rfl⟩⟩,trivial⟩
   simp only [Int.pow_zero];rfl
 ·rintro⟨i,hi⟩
  by_cases hA:i<k
  ·have hA':=ltT hA
   have hwk:=Qak (a:=i) (by omega)
   have hp:=Qye hb i
   have hp1:=Qye hb (i+1)
   have hBk:B*(i+1)≤600*100:=Nat.mul_le_mul hB (by omega)
   have hBi:B*i≤B*(i+1):=Nat.mul_le_mul_left _ (by omega)
   have e:n^(i+1)=n^i*n:=Int.pow_succ n i
   rw [e]at hp1
   have hm:=Qge (Qay hp (by omega)) (Qay hb (by omega)) (Qay hp1 (by omega))
   rw [←e]at hm
   generalize hX:n^(i+1)=Y at*
   generalize n^i=Z at*
   repeat (first|(simp -implicitDefEqProofs only [go_sem,Nat.reduceAdd,Nat.reduceMul,Nat.reduceEqDiff,Nat.reduceLT,Nat.reduceLeDiff,reduceCtorEq,wPV,hA',hwk])|((with_reducible refine Qab (h2) ?_ ?_ ?_);(with_reducible rfl);rfl)|((with_reducible refine Qab (hm) ?_ ?_ ?_);(with_reducible rfl);rfl)|(with_reducible exact Qaa _ _ (by kernel_rfl))|(with_reducible refine And.intro (Qaa _ _ (by kernel_rfl)) ?_))
   refine⟨⟨i+1,hA⟩,by simp only;omega,Qan (θ:=[(0,0),(101,101)]) rfl ?_ ?_⟩
   ·simp [Qae,lkp,ren1,ren0,Qam]
   ·simp only [hX]
    exact⟨⟨rfl,rfl,rfl,rfl,rfl,.inr ⟨rfl,_,_,rfl,rfl,rfl,rfl⟩⟩,⟨rfl,rfl,rfl,rfl,rfl,.inr ⟨rfl,_,_,rfl,rfl,rfl,rfl⟩⟩,trivial⟩
  ·have hA':=ltF hA
   obtain rfl:i=k:=by omega
   generalize n^i=Z at*
   repeat (first|(simp -implicitDefEqProofs only [go_sem,Nat.reduceAdd,Nat.reduceMul,Nat.reduceEqDiff,Nat.reduceLT,Nat.reduceLeDiff,reduceCtorEq,wPV,hA'])|(with_reducible exact Qaa _ _ (by kernel_rfl))|(with_reducible refine And.intro (Qaa _ _ (by kernel_rfl)) ?_))
end Go.Proofs.YtciddhkfbgkejaaGreatDoor
