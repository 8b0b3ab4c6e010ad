/-
  HI4, HI6, HB8, HB9, HB10 (merged for the claim).
-/
import Derived.Test.YtciddhkfbgkejaaGreatDoorHI3
import Derived.Test.YtciddhkfbgkejaaGreatDoorHM2
import Derived.Test.YtciddhkfbgkejaaGreatDoorDwi
import Derived.Test.YtciddhkfbgkejaaGreatDoorBy
set_option linter.unusedSimpArgs false
set_option linter.unusedVariables false
namespace Go.Proofs.YtciddhkfbgkejaaGreatDoor
open Go.Vl Go.RowKit Go.Dg
theorem Zsk (m:Nat):Qe4 Tryz.prog 54 [.int .u64 (m:Int)] [] (.fn 95 [] [.bp 0 1 0 0]) [(0,setB (m:Int))]:=by
 refine Qg6 (tb:=[]) 4 [.tmp 2] [0,1,2] mixed Tryz.func54 rfl (by kernel_rfl) (by kernel_rfl) (by kernel_rfl) (by kernel_rfl) (by rfl) ?_
 repeat (first|(simp -implicitDefEqProofs only [go_sem,Nat.reduceAdd,Nat.reduceMul,Nat.reduceEqDiff,Nat.reduceLT,Nat.reduceLeDiff,reduceCtorEq]))
 refine Qds (.inl rfl) ?_
 simp -implicitDefEqProofs only [go_sem,Nat.reduceEqDiff,reduceCtorEq]
 refine Qak (θ:=[(0,0)]) rfl ?_ ?_
 ·simp [Qaf,lkp,ren1,ren0,Qap]
 ·exact⟨⟨rfl,rfl,rfl,rfl,rfl,.inr ⟨rfl,_,_,rfl,rfl,rfl,rfl⟩⟩,trivial⟩
def SW (g:Wd→Int) (l:List Wd) (m k:Nat):Int:=smW g (pick l ((Qbr m).take k))
theorem Qj1 (g:Wd→Int) (l:List Wd) {m k:Nat} (h:k<(Qbr m).length):SW g l m (k+1)=SW g l m k+g (l.getD ((Qbr m).getD k 0) wd0):=by
 unfold SW
 have e:(Qbr m).take (k+1)=(Qbr m).take k++[(Qbr m).getD k 0]:=by
  rw [List.take_add_one,List.getElem?_eq_getElem h,List.getD_eq_getElem?_getD,List.getElem?_eq_getElem h];rfl
 rw [e]
 unfold pick
 rw [List.map_append,Qof]
 simp [smW]
theorem Qx9 {g:Wd→Int} (hg:g=Wd.ux∨g=Wd.uy∨g=Wd.uz) {l:List Wd} {m:Nat} (hv:Qa8 l=true) (hb: ∀i∈Qbr m,i<l.length) (k:Nat): -40000≤SW g l m k∧SW g l m k≤40000:=by
 have h8:(Qbr m).length≤8:=List.length_filter_le _ _
 have h3:=Q14 g 5000 (pick l ((Qbr m).take k)) fun w hw=>by
  have:=Ql9 ((Qcy hv).1 w (Q9x (fun i hi=>hb i (List.mem_of_mem_take hi)) hw))
  rcases hg with rfl|rfl|rfl<;>omega
 have h4:(pick l ((Qbr m).take k)).length≤8:=by unfold pick;rw [List.length_map,List.length_take];omega
 unfold SW;omega
def suB (l:List Wd) (m k:Nat):List (Nat×Box):=[(1000000,{els:=[wsPV l],esz:=1,ety:=22,fro:=0,live:=true,arr:=false}),(1000001,{els:=[.agg [.int .i64 (SW Wd.ux l m k),.int .i64 (SW Wd.uy l m k),.int .i64 (SW Wd.uz l m k)]],esz:=3,ety:=26,fro:=0,live:=true,arr:=false})]
theorem Zsl (l:List Wd) (m k:Nat): ∀b∈ [1000000,1000001],(lkp (suB l m k) b).isSome=true:=by simp [suB,lkp]
set_option maxHeartbeats 4000000 in
theorem Zpk (l:List Wd) (m:Nat) (hm:m<256) (hv:Qa8 l=true) (hb: ∀i∈Qbr m,i<l.length):
  Qad Tryz.prog 55 [.int .u64 (m:Int),wsPV l] (.agg [.int .i64 (smW Wd.ux (pick l (Qbr m))),.int .i64 (smW Wd.uy (pick l (Qbr m))),.int .i64 (smW Wd.uz (pick l (Qbr m)))]):=by
 have hi:=Zsk m
 have hY:=Zpi m hm
 have b1:=Qx9 (g:=Wd.ux) (.inl rfl) hv hb
 have b2:=Qx9 (g:=Wd.uy) (.inr (.inl rfl)) hv hb
 have b3:=Qx9 (g:=Wd.uz) (.inr (.inr rfl)) hv hb
 have hlen:(setO m).length=(Qbr m).length:=by simp [setO]
 have hmin:min (setO m).length ((Qbr m).length+1)=(Qbr m).length:=by rw [hlen];omega
 have eS: ∀g:Wd→Int,SW g l m (Qbr m).length=smW g (pick l (Qbr m)):=fun g=>by unfold SW;rw [List.take_length]
 have bl1:Nat.blt 1700 1000000=true:=rfl
 rw [←eS Wd.ux,←eS Wd.uy,←eS Wd.uz]

 refine Qac (tb:=[(101,[],[(0,1700)])]) 34 [.cell 4 26] [0,1,3,4,5,6,8,9] mixed Tryz.func55 rfl (by kernel_rfl) (by kernel_rfl) (by kernel_rfl) (by kernel_rfl) ?_
 repeat (first|(simp -implicitDefEqProofs only [go_sem,Nat.reduceAdd,Nat.reduceMul,Nat.reduceEqDiff,Nat.reduceLT,Nat.reduceLeDiff,reduceCtorEq,bl1])|((with_reducible refine Q80 (hi) ?_ ?_ ?_ ?_);(with_reducible rfl);rfl;rfl)|(with_reducible exact Qaa _ _ (by kernel_rfl))|(with_reducible refine And.intro (Qaa _ _ (by kernel_rfl)) ?_))
 refine Zg6 (c0:=1700) mixed hY rfl rfl rfl rfl _ rfl [(1000000,0),(1000001,1)] [1000000,1000001] rfl [(3,.bp 1000000 1 0 0),(4,.bp 1000001 3 0 0)] (suB l m) rfl rfl rfl rfl ?_ ?_ ?_ (Qbr m).length .normal (fun h=>by rw [hlen]at h;omega) (fun k _ _=>Zsl l m k) ?_ rfl ?_
  [(0,1000000),(1,1000001)] [(3,.bp 0 1 0 0),(4,.bp 1 3 0 0)] [(0,{els:=[wsPV l],esz:=1,ety:=22,fro:=0,live:=true,arr:=false}),(1,{els:=[.agg [.int .i64 (SW Wd.ux l m (Qbr m).length),.int .i64 (SW Wd.uy l m (Qbr m).length),.int .i64 (SW Wd.uz l m (Qbr m).length)]],esz:=3,ety:=26,fro:=0,live:=true,arr:=false})] rfl rfl ?_ ?_ rfl (fun _=> ?_) (fun h=>by rw [hlen]at h;omega)
 ·simp [Qaf,lkp,ren1,ren0,Qap]
 ·simp only [suB]
  exact⟨⟨rfl,rfl,rfl,rfl,rfl,.inr ⟨rfl,_,_,rfl,rfl,rfl,rfl⟩⟩,⟨rfl,rfl,rfl,rfl,rfl,.inr ⟨rfl,_,_,rfl,rfl,rfl,rfl⟩⟩,trivial⟩
 ·simp [Qaf,lkp,ren1,ren0,Qap,Q87]
 ·intro k args h
  simp only [setO,List.getElem?_map,Option.map_eq_some_iff]at h
  obtain⟨x, -,rfl⟩:=h
  rfl
 ·rintro k args hka hk
  simp only [setO,List.getElem?_map,Option.map_eq_some_iff]at hka
  obtain⟨i,hx,rfl⟩:=hka
  obtain⟨hk2,e⟩:=List.getElem?_eq_some_iff.1 hx
  have hil:i<l.length:=hb i (by rw [←e];exact List.getElem_mem _)
  have hD:(Qbr m).getD k 0=i:=by rw [List.getD_eq_getElem?_getD,hx];rfl
  have s1:=Qj1 Wd.ux l hk2
  have s2:=Qj1 Wd.uy l hk2
  have s3:=Qj1 Wd.uz l hk2
  have hwi:l.getD i wd0=l[i]:=by rw [List.getD_eq_getElem?_getD,List.getElem?_eq_getElem hil];rfl
  rw [hD,hwi]at s1 s2 s3
  have hg:=Qok l i hil
  have n0:=nnT i
  have w1:IntKind.i64.wrap (SW Wd.ux l m k+l[i].ux)=SW Wd.ux l m (k+1):=by rw [←s1];have:=b1 (k+1);exact Qah (by omega) (by omega)
  have w2:IntKind.i64.wrap (SW Wd.uy l m k+l[i].uy)=SW Wd.uy l m (k+1):=by rw [←s2];have:=b2 (k+1);exact Qah (by omega) (by omega)
  have w3:IntKind.i64.wrap (SW Wd.uz l m k+l[i].uz)=SW Wd.uz l m (k+1):=by rw [←s3];have:=b3 (k+1);exact Qah (by omega) (by omega)
  simp only [suB]
  generalize l[i]=w at*
  repeat (first|(simp -implicitDefEqProofs only [go_sem,Nat.reduceAdd,Nat.reduceMul,Nat.reduceEqDiff,Nat.reduceLT,Nat.reduceLeDiff,reduceCtorEq,pvars,List.toList_toArray])|(with_reducible exact Qaa _ _ (by kernel_rfl))|(with_reducible refine And.intro (Qaa _ _ (by kernel_rfl)) ?_))
  refine⟨by simp [lkp],?_⟩
  repeat (first|(simp -implicitDefEqProofs only [go_sem,Nat.reduceAdd,Nat.reduceMul,Nat.reduceEqDiff,Nat.reduceLT,Nat.reduceLeDiff,reduceCtorEq,hg,n0,w1,w2,w3,Int.toNat_natCast,List.length_map])|(with_reducible exact Qaa _ _ (by kernel_rfl))|(with_reducible refine And.intro (Qaa _ _ (by kernel_rfl)) ?_))
  refine⟨by omega,?_⟩
  refine Qak (θ:=[(1000000,1000000),(1000001,1000001)]) rfl ?_ ?_
  ·simp [Qaf,lkp,ren1,ren0,Qap]
  ·simp only [suB]
   exact⟨⟨rfl,rfl,rfl,rfl,rfl,.inr ⟨rfl,_,_,rfl,rfl,rfl,rfl⟩⟩,⟨rfl,rfl,rfl,rfl,rfl,.inr ⟨rfl,_,_,rfl,rfl,rfl,rfl⟩⟩,trivial⟩
 ·simp [Qaf,lkp,ren1,ren0,Qap]
 ·rw [hmin]
  simp only [suB]
  exact⟨⟨rfl,rfl,rfl,rfl,rfl,.inr ⟨rfl,_,_,rfl,rfl,rfl,rfl⟩⟩,⟨rfl,rfl,rfl,rfl,rfl,.inr ⟨rfl,_,_,rfl,rfl,rfl,rfl⟩⟩,trivial⟩
 ·repeat (first|(simp -implicitDefEqProofs only [go_sem,Nat.reduceAdd,Nat.reduceMul,Nat.reduceEqDiff,Nat.reduceLT,Nat.reduceLeDiff,reduceCtorEq])|(with_reducible exact Qaa _ _ (by kernel_rfl))|(with_reducible refine And.intro (Qaa _ _ (by kernel_rfl)) ?_))
theorem Q2w (p:Wd→Bool) {l:List Wd} (h:l.length≤8): ∀i∈Qbr (mask p l),i<l.length:=fun i hi=>by
 rw [Go.Dg.bits_mask p l h]at hi
 have:=Q12 p l 0 i hi;omega
def Qp4 (l:List Wd) (x y z t:Int):PV:= .agg [.int .i64 (atW Wd.ux l x y z t),.int .i64 (atW Wd.uy l x y z t),.int .i64 (atW Wd.uz l x y z t)]
theorem Zjq (l:List Wd) (x y z t:Int) (hv:Qa8 l=true):Qad Tryz.prog 55 [.int .u64 ((mask (blW x y z t) l:Nat):Int),wsPV l] (Qp4 l x y z t):=by
 have h8:=(Qcy hv).2
 have h:=Zpk l (mask (blW x y z t) l) (Q9w _ h8) hv (Q2w _ h8)
 rw [Go.Dg.bits_mask _ _ h8,Q13]at h
 exact h
end Go.Proofs.YtciddhkfbgkejaaGreatDoor

namespace Go.Proofs.YtciddhkfbgkejaaGreatDoor
open Go.Vl Go.RowKit Go.Dg
theorem Zjr (p:Wd→Bool) {l:List Wd} (h:l.length≤8) {k:Nat} (hk:k<(onL p l).length):((onL p l).map (PV.int .i64))[k]? =some (.int .i64 (((Qbr (mask p l)).getD k 0:Nat):Int)):=by
 have e:onL p l=(Qbr (mask p l)).map fun(i:Nat)=>(i:Int):=by unfold onL;rw [Go.Dg.bits_mask p l h]
 rw [e]at hk ⊢
 rw [List.length_map]at hk
 rw [List.getElem?_map,List.getElem?_map,List.getElem?_eq_getElem hk,List.getD_eq_getElem?_getD,List.getElem?_eq_getElem hk];rfl
theorem Zae (p:Wd→Bool) {l:List Wd} (h:l.length≤8):(onL p l).length=(Qbr (mask p l)).length:=by unfold onL;rw [Go.Dg.bits_mask p l h,List.length_map]
set_option maxHeartbeats 4000000 in
theorem Zjs (l:List Wd) (x y z t:Int) (hv:Qa8 l=true):Qad Tryz.prog 20 [wsPV l,.agg [.int .i64 x,.int .i64 y,.int .i64 z],.int .i64 t] (Qp4 l x y z t):=by
 have h8:=(Qcy hv).2
 have ha:=Q2v l x y z t (by omega)
 have hb:=Q2w (blW x y z t) h8
 have b1:=Qx9 (g:=Wd.ux) (.inl rfl) hv hb
 have b2:=Qx9 (g:=Wd.uy) (.inr (.inl rfl)) hv hb
 have b3:=Qx9 (g:=Wd.uz) (.inr (.inr rfl)) hv hb
 have hlen:=Zae (blW x y z t) h8
 have hget:=fun k h=>Zjr (blW x y z t) h8 (k:=k) h
 have eS: ∀g:Wd→Int,SW g l (mask (blW x y z t) l) (Qbr (mask (blW x y z t) l)).length=atW g l x y z t:=fun g=>by
  unfold SW atW;rw [List.take_length,Go.Dg.bits_mask _ _ h8,Q13]
 have hle:(onL (blW x y z t) l).length≤8:=by
  rw [hlen];exact List.length_filter_le _ _
 unfold Qp4
 rw [←eS Wd.ux,←eS Wd.uy,←eS Wd.uz,←hlen]
 clear eS
 generalize onL (blW x y z t) l=O at*
 generalize mask (blW x y z t) l=m at*
 refine Qac (tb:=[]) 48 [.cell 6 26] [0,1,2,4,6,7,8,9,10,18] mixed Tryz.func20 rfl (by kernel_rfl) (by kernel_rfl) (by kernel_rfl) (by kernel_rfl) ?_
 repeat (first|(simp -implicitDefEqProofs only [go_sem,Nat.reduceAdd,Nat.reduceMul,Nat.reduceEqDiff,Nat.reduceLT,Nat.reduceLeDiff,reduceCtorEq])|((with_reducible refine Qab (ha) ?_ ?_ ?_);(with_reducible rfl);rfl)|(with_reducible exact Qaa _ _ (by kernel_rfl))|(with_reducible refine And.intro (Qaa _ _ (by kernel_rfl)) ?_))
 refine Qar mixed (fun k:{k:Nat // k≤O.length}=>St.of [(0,wsPV l),(6,.bp 1 3 0 0),(7,.bp 100 3 0 0),(8,.slc (O.map (PV.int .i64))),(9,.int .i64 (k.1:Int))]
  [(1,{els:=[.agg [.int .i64 0,.int .i64 0,.int .i64 0]],esz:=3,ety:=26,fro:=0,live:=true,arr:=false}),(100,{els:=[.agg [.int .i64 (SW Wd.ux l m k.1),.int .i64 (SW Wd.uy l m k.1),.int .i64 (SW Wd.uz l m k.1)]],esz:=3,ety:=26,fro:=0,live:=true,arr:=false})]) (fun k=>O.length-k.1) ⟨0,Nat.zero_le _⟩ ?_ ?_
 ·refine Qak (θ:=[(1,1),(100,100)]) rfl ?_ ?_
  ·simp [Qaf,lkp,ren1,ren0,Qap,wsPV]
  ·exact⟨⟨rfl,rfl,rfl,rfl,rfl,.inr ⟨rfl,_,_,rfl,rfl,rfl,rfl⟩⟩,⟨rfl,rfl,rfl,rfl,rfl,.inr ⟨rfl,_,_,rfl,rfl,rfl,rfl⟩⟩,trivial⟩
 ·rintro⟨k,hk⟩
  simp only
  by_cases hA:k<O.length
  ·have hA':=ltT hA
   have n0:=nnT k
   have hwk:=Qaj (a:=k) (by omega)
   have hg:=hget k hA
   have hk2:k<(Qbr m).length:=by omega
   have hil:(Qbr m).getD k 0<l.length:=hb _ (by rw [List.getD_eq_getElem?_getD,List.getElem?_eq_getElem hk2];exact List.getElem_mem _)
   have s1:=Qj1 Wd.ux l hk2
   have s2:=Qj1 Wd.uy l hk2
   have s3:=Qj1 Wd.uz l hk2
   generalize (Qbr m).getD k 0=i at*
   have hwi:l.getD i wd0=l[i]:=by rw [List.getD_eq_getElem?_getD,List.getElem?_eq_getElem hil];rfl
   rw [hwi]at s1 s2 s3
   have hgw:=Qok l i hil
   have n1:=nnT i
   have w1:IntKind.i64.wrap (SW Wd.ux l m k+l[i].ux)=SW Wd.ux l m (k+1):=by rw [←s1];have:=b1 (k+1);exact Qah (by omega) (by omega)
   have w2:IntKind.i64.wrap (SW Wd.uy l m k+l[i].uy)=SW Wd.uy l m (k+1):=by rw [←s2];have:=b2 (k+1);exact Qah (by omega) (by omega)
   have w3:IntKind.i64.wrap (SW Wd.uz l m k+l[i].uz)=SW Wd.uz l m (k+1):=by rw [←s3];have:=b3 (k+1);exact Qah (by omega) (by omega)
   clear s1 s2 s3 hwi
   generalize l[i]=w at*
   repeat (first|(simp -implicitDefEqProofs only [go_sem,Nat.reduceAdd,Nat.reduceMul,Nat.reduceEqDiff,Nat.reduceLT,Nat.reduceLeDiff,reduceCtorEq,hA',n0,n1,hwk,hg,hgw,w1,w2,w3,Int.toNat_natCast,List.length_map])|(with_reducible exact Qaa _ _ (by kernel_rfl))|(with_reducible refine And.intro (Qaa _ _ (by kernel_rfl)) ?_))
   refine⟨⟨k+1,hA⟩,by simp only;omega,Qak (θ:=[(1,1),(100,100)]) rfl ?_ ?_⟩
   ·simp [Qaf,lkp,ren1,ren0,Qap,wsPV]
   ·exact⟨⟨rfl,rfl,rfl,rfl,rfl,.inr ⟨rfl,_,_,rfl,rfl,rfl,rfl⟩⟩,⟨rfl,rfl,rfl,rfl,rfl,.inr ⟨rfl,_,_,rfl,rfl,rfl,rfl⟩⟩,trivial⟩
  ·have hA':=ltF hA
   obtain rfl:k=O.length:=by omega
   repeat (first|(simp -implicitDefEqProofs only [go_sem,Nat.reduceAdd,Nat.reduceMul,Nat.reduceEqDiff,Nat.reduceLT,Nat.reduceLeDiff,reduceCtorEq,hA',List.length_map])|(with_reducible exact Qaa _ _ (by kernel_rfl))|(with_reducible refine And.intro (Qaa _ _ (by kernel_rfl)) ?_))
def posS (s:Sg) (i:Nat):Int:=rnd (exQ [s] s.f i) (exO [s] s.f)
def alV (l:List Wd) (s:Sg):PV:=Qp4 l (posS s 0) (posS s 1) (posS s 2) s.f
theorem Qmj {s:Sg} (h:Qa2 s=true):Qbk [s]=true:=by
 unfold Qbk vpTo
 simp [vpAt,h,List.range_succ]
theorem Qry {s:Sg} (h:Qa2 s=true):lasts [s] s.f=true:=by
 have:=(Qbu h).1
 simp only [lasts,pBeg,pEnd,Bool.and_eq_true,decide_eq_true_eq]
 simp
 omega
theorem Zpl {s:Sg} (hs:okSg s) (h:Qa2 s=true):Qad Tryz.prog 29 [.slc [sgPV s],.int .i64 s.f] (.tup [.agg [.int .i64 (posS s 0),.int .i64 (posS s 1),.int .i64 (posS s 2)],.int .i64 0]):=by
 have h1:=Zsm [s] s.f (fun x hx=>by rw [List.mem_singleton.1 hx];exact hs) (by simp) hs.f
 unfold atPV at h1
 rw [if_pos (Qmj h),if_pos (Qry h)]at h1
 exact h1
theorem Zjt {s:Sg} (hs:okSg s) (h:Qa2 s=true):Qad Tryz.prog 64 [.slc [sgPV s],.int .i64 s.f] (.agg [.int .i64 (posS s 0),.int .i64 (posS s 1),.int .i64 (posS s 2)]):=
 Zjx [s] s.f (fun x hx=>by rw [List.mem_singleton.1 hx];exact hs) (by simp) hs.f (Qmj h) (Qry h)
theorem Qwk (p:List Sg) (i:Nat) (h:i<p.length):((p.map sgPV).take (i+1)).drop i=[sgPV p[i]]:=by
 rw [Qb0 _ i (by simpa using h),List.drop_append_of_le_length (by simp;omega),List.drop_eq_nil_of_le (by simp;omega)];simp
theorem Qt0 (p:List Sg):((p.map sgPV).all fun x=>x.cells.length==6)=true:=by rw [List.all_map,List.all_eq_true];intro _ _;rfl
theorem Qwl (l:List Wd) (T:List Sg):((T.map (alV l)).flatMap PV.cells).all PV.okCell=true:=by
 rw [List.all_eq_true];intro c hc
 simp only [List.mem_flatMap,List.mem_map]at hc
 obtain⟨_,⟨s,_,rfl⟩,h⟩:=hc
 simp only [alV,Qp4,PV.cells,List.mem_cons,List.not_mem_nil,or_false]at h
 rcases h with rfl|rfl|rfl<;>rfl
set_option maxHeartbeats 4000000 in
theorem Zju (l:List Wd) (p:List Sg) (hp: ∀s∈p,okSg s) (hl:l.length≤maxLen) (hpl:p.length≤1000000):Qad Tryz.prog 24 [wsPV l,Qbs p] (if Qa8 l=true∧Qbk p=true then .tup [.slc (p.map (alV l)),.int .i64 0]else .tup [.slc [],.int .i64 2]):=by
 have v1:=Qrw l hl
 have v2:=Qgt p hp hpl
 unfold Qbs at v2 ⊢
 cases hv:Qa8 l with
 |false=>
  rw [hv]at v1
  refine Qac (tb:=[]) 49 [.tmp 4,.tmp 5] [0,1,4,5,6,7,8,9,18,19,20,21,22] mixed Tryz.func24 rfl (by kernel_rfl) (by kernel_rfl) (by kernel_rfl) (by kernel_rfl) ?_
  repeat (first|(simp -implicitDefEqProofs only [go_sem,Nat.reduceAdd,Nat.reduceMul,Nat.reduceEqDiff,Nat.reduceLT,Nat.reduceLeDiff,reduceCtorEq,Bool.not_false,Bool.false_eq_true,false_and])|((with_reducible refine Qab (v1) ?_ ?_ ?_);(with_reducible rfl);rfl)|(with_reducible exact Qaa _ _ (by kernel_rfl))|(with_reducible refine And.intro (Qaa _ _ (by kernel_rfl)) ?_))
 |true=>
 cases hV:Qbk p with
 |false=>
  rw [hv]at v1
  rw [hV]at v2
  refine Qac (tb:=[]) 49 [.tmp 4,.tmp 5] [0,1,4,5,6,7,8,9,18,19,20,21,22] mixed Tryz.func24 rfl (by kernel_rfl) (by kernel_rfl) (by kernel_rfl) (by kernel_rfl) ?_
  repeat (first|(simp -implicitDefEqProofs only [go_sem,Nat.reduceAdd,Nat.reduceMul,Nat.reduceEqDiff,Nat.reduceLT,Nat.reduceLeDiff,reduceCtorEq,Bool.not_false,Bool.not_true,Bool.false_eq_true,and_false])|((with_reducible refine Qab (v1) ?_ ?_ ?_);(with_reducible rfl);rfl)|((with_reducible refine Qab (v2) ?_ ?_ ?_);(with_reducible rfl);rfl)|(with_reducible exact Qaa _ _ (by kernel_rfl))|(with_reducible refine And.intro (Qaa _ _ (by kernel_rfl)) ?_))
 |true=>
  rw [hv]at v1
  rw [hV]at v2
  rw [if_pos ⟨rfl,rfl⟩]
  have h8:=(Qcy hv).2
  refine Qac (tb:=[]) 49 [.tmp 4,.tmp 5] [0,1,4,5,6,7,8,9,18,19,20,21,22] mixed Tryz.func24 rfl (by kernel_rfl) (by kernel_rfl) (by kernel_rfl) (by kernel_rfl) ?_
  repeat (first|(simp -implicitDefEqProofs only [go_sem,Nat.reduceAdd,Nat.reduceMul,Nat.reduceEqDiff,Nat.reduceLT,Nat.reduceLeDiff,reduceCtorEq,Bool.not_true,List.length_map])|((with_reducible refine Qab (v1) ?_ ?_ ?_);(with_reducible rfl);rfl)|((with_reducible refine Qab (v2) ?_ ?_ ?_);(with_reducible rfl);rfl)|(with_reducible exact Qaa _ _ (by kernel_rfl))|(with_reducible refine And.intro (Qaa _ _ (by kernel_rfl)) ?_))
  refine Qar mixed (fun i:{i:Nat // i≤p.length}=>St.of [(0,wsPV l),(1,.slc (p.map sgPV)),(6,.bs 7 3 0 i.1),(19,.slc (p.map sgPV)),(20,.int .i64 (p.length:Int)),(21,.int .i64 (i.1:Int))] [(7,{els:=(p.take i.1).map (alV l),esz:=3,ety:=26,fro:=0,live:=true,arr:=true})]) (fun i=>p.length-i.1) ⟨0,Nat.zero_le _⟩ ?_ ?_
  ·refine Qgc 6 7 3 26 rfl rfl rfl (by decide) [(7,7)] rfl ?_ ?_
   ·simp [Qaf,lkp,ren1,ren0,Qap,wsPV]
   ·exact⟨⟨rfl,rfl,rfl,rfl,rfl,.inl ⟨rfl,rfl⟩⟩,trivial⟩
  ·rintro⟨i,hi⟩
   simp only
   by_cases hA:i<p.length
   ·skip
    have hA':=ltT hA
    have n0:=nnT i
    have hg:=Qc9 p i hA
    have hsl:((p.map sgPV).take (i+1)).drop i=[.agg [.int .i64 p[i].f,.int .i64 p[i].t,.int .i64 p[i].o,.slc (p[i].x.map (PV.int .i64)),.slc (p[i].y.map (PV.int .i64)),.slc (p[i].z.map (PV.int .i64))]]:=Qwk p i hA
    have hs:=hp _ (List.getElem_mem hA)
    have hvs:=Qeo hV _ hA
    have f1:=Zpl hs hvs
    have f2:=Qrx l (posS p[i] 0) (posS p[i] 1) (posS p[i] 2) p[i].f h8
    have f3:=Zjq l (posS p[i] 0) (posS p[i] 1) (posS p[i] 2) p[i].f hv
    have hwk:=Qaj (a:=i) (by omega)
    have hsn:(p.take (i+1)).map (alV l)=(p.take i).map (alV l)++[Qp4 l (posS p[i] 0) (posS p[i] 1) (posS p[i] 2) p[i].f]:=by rw [Qb0 p i hA,List.map_append];rfl
    have hln:((p.take i).map (alV l)).length=i:=by simp;omega
    have hok:=Qwl l (p.take i)
    have k1:((i+1)*24≤140737488355328)=True:=eq_true (by omega)
    have k2:(i+1≤maxLen)=True:=eq_true (by unfold maxLen;omega)
    have k3:((i:Int)≤((i+1:Nat):Int))=True:=eq_true (by omega)
    have k4:(((i+1:Nat):Int)≤(p.length:Int))=True:=eq_true (by omega)
    have hall:=Qt0 p
    generalize hT2:(p.take (i+1)).map (alV l)=T2 at*
    generalize (p.take i).map (alV l)=T at*
    generalize p[i]=s at*
    generalize mask (blW (posS s 0) (posS s 1) (posS s 2) s.f) l=m at*
    unfold Qp4 at f3 hsn
    generalize atW Wd.ux l (posS s 0) (posS s 1) (posS s 2) s.f=u0 at*
    generalize atW Wd.uy l (posS s 0) (posS s 1) (posS s 2) s.f=u1 at*
    generalize atW Wd.uz l (posS s 0) (posS s 1) (posS s 2) s.f=u2 at*
    generalize posS s 0=x0 at*
    generalize posS s 1=x1 at*
    generalize posS s 2=x2 at*
    unfold sgPV Qas at f1
    repeat (first|(simp -implicitDefEqProofs only [go_sem,Nat.reduceAdd,Nat.reduceMul,Nat.reduceEqDiff,Nat.reduceLT,Nat.reduceLeDiff,reduceCtorEq,hA',n0,hg,hsl,hwk,k3,k4,hall,Int.toNat_natCast,List.length_map])|((with_reducible refine Qab (f1) ?_ ?_ ?_);(with_reducible rfl);rfl)|(with_reducible exact Qaa _ _ (by kernel_rfl))|(with_reducible refine And.intro (Qaa _ _ (by kernel_rfl)) ?_))
    repeat (first|(simp -implicitDefEqProofs only [go_sem,Nat.reduceAdd,Nat.reduceMul,Nat.reduceEqDiff,Nat.reduceLT,Nat.reduceLeDiff,reduceIte,reduceCtorEq,Nat.reduceBneDiff,hln,hok,hwk,k1,k2,Int.toNat_natCast,List.length_map])|((with_reducible refine Qab (f2) ?_ ?_ ?_);(with_reducible rfl);rfl)|((with_reducible refine Qab (f3) ?_ ?_ ?_);(with_reducible rfl);rfl)|(with_reducible exact Qaa _ _ (by kernel_rfl))|(with_reducible refine And.intro (Qaa _ _ (by kernel_rfl)) ?_))
    refine⟨⟨i+1,hA⟩,by simp only;omega,Qak (θ:=[(7,809)]) rfl ?_ ?_⟩
    ·simp [Qaf,lkp,ren1,ren0,Qap,wsPV]
    ·simp only [hT2,hsn]
     exact⟨⟨rfl,rfl,rfl,rfl,rfl,.inl ⟨rfl,rfl⟩⟩,trivial⟩
   ·have hA':=ltF hA
    obtain rfl:i=p.length:=by omega
    have ht:p.take p.length=p:=List.take_length
    have ht2:(p.map (alV l)).take p.length=p.map (alV l):=List.take_of_length_le (by simp)
    have hok:=Qwl l p
    rw [ht]
    have hln:(p.map (alV l)).length=p.length:=by simp
    generalize p.map (alV l)=T at*
    repeat (first|(simp -implicitDefEqProofs only [go_sem,Nat.reduceAdd,Nat.reduceMul,Nat.reduceEqDiff,Nat.reduceLT,Nat.reduceLeDiff,reduceIte,reduceCtorEq,hA',ht2,hok,hln,List.length_map])|(with_reducible exact Qaa _ _ (by kernel_rfl))|(with_reducible refine And.intro (Qaa _ _ (by kernel_rfl)) ?_))
set_option maxHeartbeats 4000000 in
theorem Zaf (l:List Wd) (p:List Sg) (hp: ∀s∈p,okSg s) (hpl:p.length≤1000000) (hv:Qa8 l=true) (hV:Qbk p=true):Qad Tryz.prog 27 [wsPV l,Qbs p] (.slc (p.map (alV l))):=by
 have h8:=(Qcy hv).2
 unfold Qbs
 refine Qac (tb:=[]) 35 [.tmp 4] [0,1,4,5,6,10] mixed Tryz.func27 rfl (by kernel_rfl) (by kernel_rfl) (by kernel_rfl) (by kernel_rfl) ?_
 repeat (first|(simp -implicitDefEqProofs only [go_sem,Nat.reduceAdd,Nat.reduceMul,Nat.reduceEqDiff,Nat.reduceLT,Nat.reduceLeDiff,reduceCtorEq])|(with_reducible exact Qaa _ _ (by kernel_rfl))|(with_reducible refine And.intro (Qaa _ _ (by kernel_rfl)) ?_))
 refine Qar mixed (fun i:{i:Nat // i≤p.length}=>St.of [(0,wsPV l),(1,.slc (p.map sgPV)),(5,.bs 7 3 0 i.1),(6,.int .i64 (i.1:Int))] [(7,{els:=(p.take i.1).map (alV l),esz:=3,ety:=26,fro:=0,live:=true,arr:=true})]) (fun i=>p.length-i.1) ⟨0,Nat.zero_le _⟩ ?_ ?_
 ·refine Qgc 5 7 3 26 rfl rfl rfl (by decide) [(7,7)] rfl ?_ ?_
  ·simp [Qaf,lkp,ren1,ren0,Qap,wsPV]
  ·exact⟨⟨rfl,rfl,rfl,rfl,rfl,.inl ⟨rfl,rfl⟩⟩,trivial⟩
 ·rintro⟨i,hi⟩
  simp only
  by_cases hA:i<p.length
  ·skip
   have hA':=ltT hA
   have n0:=nnT i
   have hg:=Qc9 p i hA
   have hsl:((p.map sgPV).take (i+1)).drop i=[.agg [.int .i64 p[i].f,.int .i64 p[i].t,.int .i64 p[i].o,.slc (p[i].x.map (PV.int .i64)),.slc (p[i].y.map (PV.int .i64)),.slc (p[i].z.map (PV.int .i64))]]:=Qwk p i hA
   have hs:=hp _ (List.getElem_mem hA)
   have hvs:=Qeo hV _ hA
   have f1:=Zjt hs hvs
   have f2:=Qrx l (posS p[i] 0) (posS p[i] 1) (posS p[i] 2) p[i].f h8
   have f3:=Zjs l (posS p[i] 0) (posS p[i] 1) (posS p[i] 2) p[i].f hv
   have hwk:=Qaj (a:=i) (by omega)
   have hsn:(p.take (i+1)).map (alV l)=(p.take i).map (alV l)++[Qp4 l (posS p[i] 0) (posS p[i] 1) (posS p[i] 2) p[i].f]:=by rw [Qb0 p i hA,List.map_append];rfl
   have hln:((p.take i).map (alV l)).length=i:=by simp;omega
   have hok:=Qwl l (p.take i)
   have k1:((i+1)*24≤140737488355328)=True:=eq_true (by omega)
   have k2:(i+1≤maxLen)=True:=eq_true (by unfold maxLen;omega)
   have k3:((i:Int)≤((i+1:Nat):Int))=True:=eq_true (by omega)
   have k4:(((i+1:Nat):Int)≤(p.length:Int))=True:=eq_true (by omega)
   have hall:=Qt0 p
   generalize hT2:(p.take (i+1)).map (alV l)=T2 at*
   generalize (p.take i).map (alV l)=T at*
   generalize p[i]=s at*
   generalize mask (blW (posS s 0) (posS s 1) (posS s 2) s.f) l=m at*
   unfold Qp4 at f3 hsn
   generalize atW Wd.ux l (posS s 0) (posS s 1) (posS s 2) s.f=u0 at*
   generalize atW Wd.uy l (posS s 0) (posS s 1) (posS s 2) s.f=u1 at*
   generalize atW Wd.uz l (posS s 0) (posS s 1) (posS s 2) s.f=u2 at*
   generalize posS s 0=x0 at*
   generalize posS s 1=x1 at*
   generalize posS s 2=x2 at*
   unfold sgPV Qas at f1
   repeat (first|(simp -implicitDefEqProofs only [go_sem,Nat.reduceAdd,Nat.reduceMul,Nat.reduceEqDiff,Nat.reduceLT,Nat.reduceLeDiff,reduceIte,reduceCtorEq,Nat.reduceBneDiff,hA',n0,hg,hsl,hwk,k3,k4,hall,hln,hok,k1,k2,Int.toNat_natCast,List.length_map])|((with_reducible refine Qab (f1) ?_ ?_ ?_);(with_reducible rfl);rfl)|((with_reducible refine Qab (f3) ?_ ?_ ?_);(with_reducible rfl);rfl)|(with_reducible exact Qaa _ _ (by kernel_rfl))|(with_reducible refine And.intro (Qaa _ _ (by kernel_rfl)) ?_))
   refine⟨⟨i+1,hA⟩,by simp only;omega,Qak (θ:=[(7,520)]) rfl ?_ ?_⟩
   ·simp [Qaf,lkp,ren1,ren0,Qap,wsPV]
   ·simp only [hT2,hsn]
    exact⟨⟨rfl,rfl,rfl,rfl,rfl,.inl ⟨rfl,rfl⟩⟩,trivial⟩
  ·have hA':=ltF hA
   obtain rfl:i=p.length:=by omega
   have ht:p.take p.length=p:=List.take_length
   have ht2:(p.map (alV l)).take p.length=p.map (alV l):=List.take_of_length_le (by simp)
   have hok:=Qwl l p
   rw [ht]
   have hln:(p.map (alV l)).length=p.length:=by simp
   generalize p.map (alV l)=T at*
   repeat (first|(simp -implicitDefEqProofs only [go_sem,Nat.reduceAdd,Nat.reduceMul,Nat.reduceEqDiff,Nat.reduceLT,Nat.reduceLeDiff,reduceIte,reduceCtorEq,hA',ht2,hok,hln,List.length_map])|(with_reducible exact Qaa _ _ (by kernel_rfl))|(with_reducible refine And.intro (Qaa _ _ (by kernel_rfl)) ?_))
end Go.Proofs.YtciddhkfbgkejaaGreatDoor

namespace Go.Proofs.YtciddhkfbgkejaaGreatDoor
open Go.Vl Go.RowKit Go.Dg
def cstW (l:List Wd) (B:Bat) (s:Sg):Int:=Qey s B (atW Wd.ux l (posS s 0) (posS s 1) (posS s 2) s.f) (atW Wd.uy l (posS s 0) (posS s 1) (posS s 2) s.f) (atW Wd.uz l (posS s 0) (posS s 1) (posS s 2) s.f)
def csL (l:List Wd) (B:Bat) (p:List Sg):List Int:=p.map (cstW l B)
theorem Qmi (l:List Wd) (B:Bat) (p:List Sg):(csL l B p).length=p.length:=by simp [csL]
theorem Q2k (l:List Wd) (B:Bat) (p:List Sg) {i:Nat} (h:i<p.length):(csL l B p).getD i 0=cstW l B p[i]:=by simp [csL,h]
theorem Zpe {s:Sg} (hv:Qa2 s=true) {B:Bat} (hB:Qat B=true) {l:List Wd} (hw:Qa8 l=true):0≤cstW l B s∧cstW l B s≤400000000000000000:=by
 obtain⟨⟨v1,v2,v3,v4,v5⟩,hax, -⟩:=Qbu hv
 exact Qpa (by unfold rngS;simp only [Bool.and_eq_true,decide_eq_true_eq];omega) (hax s.x (by simp [Sg.ax])) (hax s.y (by simp [Sg.ax])) (hax s.z (by simp [Sg.ax])) hB (Qio (.inl rfl) hw _ _ _ _) (Qio (.inr (.inl rfl)) hw _ _ _ _) (Qio (.inr (.inr rfl)) hw _ _ _ _)
theorem Qoj {p:List Sg} (hV:Qbk p=true) {B:Bat} (hB:Qat B=true) {l:List Wd} (hw:Qa8 l=true):okC (csL l B p):=by
 intro c hc
 obtain⟨s,hs,rfl⟩:=List.mem_map.1 hc
 obtain⟨i,hi,rfl⟩:=List.mem_iff_getElem.1 hs
 exact Zpe (Qeo hV i hi) hB hw
theorem Zhn (l:List Wd) (p:List Sg) {i:Nat} (h:i<p.length):(p.map (alV l))[i]? =some (.agg [.int .i64 (atW Wd.ux l (posS p[i] 0) (posS p[i] 1) (posS p[i] 2) p[i].f),.int .i64 (atW Wd.uy l (posS p[i] 0) (posS p[i] 1) (posS p[i] 2) p[i].f),.int .i64 (atW Wd.uz l (posS p[i] 0) (posS p[i] 1) (posS p[i] 2) p[i].f)]):=by
 rw [List.getElem?_map,List.getElem?_eq_getElem h];rfl
def Qe9 (p:List Sg) (B:Bat) (l:List Wd):Bool:=Qbk p&&(Qat B&&Qa8 l)
set_option maxHeartbeats 8000000 in
theorem Q2l (p:List Sg) (B:Bat) (l:List Wd) (hp: ∀s∈p,okSg s) (hl:l.length≤maxLen) (hpl:p.length≤1000000):
  Qad Tryz.prog 81 [Qbs p,baPV B,wsPV l] (if Qe9 p B l=true then .tup [.slc ((smL (csL l B p) (cutE (csL l B p))).map (PV.int .i64)),.int .i64 0]else .tup [.slc [],.int .i64 2]):=by
 have v1:=Qgt p hp hpl
 have v2:=Qpx B
 have v3:=Qrw l hl
 have f1:=Zju l p hp hl hpl
 unfold Qe9
 unfold Qbs at v1 f1 ⊢
 cases hV:Qbk p with
 |false=>
  rw [hV]at v1
  unfold baPV at v2 ⊢
  refine Qac (tb:=[]) 67 [.tmp 6,.tmp 7] [0,1,2,4,6,7,8,10,11,12,13,14,15,28,35,36,37,38,60] mixed Tryz.func81 rfl (by kernel_rfl) (by kernel_rfl) (by kernel_rfl) (by kernel_rfl) ?_
  repeat (first|(simp -implicitDefEqProofs only [go_sem,Nat.reduceAdd,Nat.reduceMul,Nat.reduceEqDiff,Nat.reduceLT,Nat.reduceLeDiff,reduceCtorEq,Bool.not_false,Bool.false_eq_true,Bool.false_and])|((with_reducible refine Qab (v1) ?_ ?_ ?_);(with_reducible rfl);rfl)|(with_reducible exact Qaa _ _ (by kernel_rfl))|(with_reducible refine And.intro (Qaa _ _ (by kernel_rfl)) ?_))
 |true=>
 rw [hV]at v1
 cases hB:Qat B with
 |false=>
  rw [hB]at v2
  unfold baPV at v2 ⊢
  refine Qac (tb:=[]) 67 [.tmp 6,.tmp 7] [0,1,2,4,6,7,8,10,11,12,13,14,15,28,35,36,37,38,60] mixed Tryz.func81 rfl (by kernel_rfl) (by kernel_rfl) (by kernel_rfl) (by kernel_rfl) ?_
  repeat (first|(simp -implicitDefEqProofs only [go_sem,Nat.reduceAdd,Nat.reduceMul,Nat.reduceEqDiff,Nat.reduceLT,Nat.reduceLeDiff,reduceCtorEq,Bool.not_false,Bool.not_true,Bool.false_eq_true,Bool.false_and,Bool.true_and])|((with_reducible refine Qab (v1) ?_ ?_ ?_);(with_reducible rfl);rfl)|((with_reducible refine Qab (v2) ?_ ?_ ?_);(with_reducible rfl);rfl)|(with_reducible exact Qaa _ _ (by kernel_rfl))|(with_reducible refine And.intro (Qaa _ _ (by kernel_rfl)) ?_))
 |true=>
 rw [hB]at v2
 cases hw:Qa8 l with
 |false=>
  rw [hw]at v3
  unfold baPV at v2 ⊢
  refine Qac (tb:=[]) 67 [.tmp 6,.tmp 7] [0,1,2,4,6,7,8,10,11,12,13,14,15,28,35,36,37,38,60] mixed Tryz.func81 rfl (by kernel_rfl) (by kernel_rfl) (by kernel_rfl) (by kernel_rfl) ?_
  repeat (first|(simp -implicitDefEqProofs only [go_sem,Nat.reduceAdd,Nat.reduceMul,Nat.reduceEqDiff,Nat.reduceLT,Nat.reduceLeDiff,reduceCtorEq,Bool.not_false,Bool.not_true,Bool.false_eq_true,Bool.and_false,Bool.true_and])|((with_reducible refine Qab (v1) ?_ ?_ ?_);(with_reducible rfl);rfl)|((with_reducible refine Qab (v2) ?_ ?_ ?_);(with_reducible rfl);rfl)|((with_reducible refine Qab (v3) ?_ ?_ ?_);(with_reducible rfl);rfl)|(with_reducible exact Qaa _ _ (by kernel_rfl))|(with_reducible refine And.intro (Qaa _ _ (by kernel_rfl)) ?_))
 |true=>
 rw [hw]at v3
 rw [if_pos ⟨hw,hV⟩]at f1
 rw [if_pos (show(true&&(true&&true))=true from rfl)]
 have hok:=Qoj hV hB hw
 have hcl:=Qmi l B p
 have hpV:=Qbx hV
 unfold baPV at v2 ⊢
 refine Qac (tb:=[]) 67 [.tmp 6,.tmp 7] [0,1,2,4,6,7,8,10,11,12,13,14,15,28,35,36,37,38,60] mixed Tryz.func81 rfl (by kernel_rfl) (by kernel_rfl) (by kernel_rfl) (by kernel_rfl) ?_
 repeat (first|(simp -implicitDefEqProofs only [go_sem,Nat.reduceAdd,Nat.reduceMul,Nat.reduceEqDiff,Nat.reduceLT,Nat.reduceLeDiff,reduceCtorEq,Bool.not_true,List.length_map])|((with_reducible refine Qab (v1) ?_ ?_ ?_);(with_reducible rfl);rfl)|((with_reducible refine Qab (v2) ?_ ?_ ?_);(with_reducible rfl);rfl)|((with_reducible refine Qab (v3) ?_ ?_ ?_);(with_reducible rfl);rfl)|((with_reducible refine Qab (f1) ?_ ?_ ?_);(with_reducible rfl);rfl)|(with_reducible exact Qaa _ _ (by kernel_rfl))|(with_reducible refine And.intro (Qaa _ _ (by kernel_rfl)) ?_))
 refine Qar mixed (fun i:{i:Nat // i≤p.length∧ ∀j,j<i→preI (csL l B p) (j+1)≤mxE}=>St.of [(4,.bp 0 5 0 0),(8,.slc (p.map (alV l))),(10,.bs 7 1 0 i.1),(11,.int .i64 (preI (csL l B p) i.1)),(35,.slc (p.map sgPV)),(36,.int .i64 (p.length:Int)),(37,.int .i64 (i.1:Int))]
  [(0,{els:=[baPV B],esz:=5,ety:=59,fro:=0,live:=true,arr:=false}),(7,iB1 (smL (csL l B p) i.1))]) (fun i=>p.length-i.1) ⟨0,Nat.zero_le _,fun j hj=>by omega⟩ ?_ ?_
 ·refine Qgc 10 7 1 3 rfl rfl rfl (by decide) [(0,0),(7,7)] rfl ?_ ?_
  ·simp [Qaf,lkp,ren1,ren0,Qap]
   rfl
  ·exact⟨⟨rfl,rfl,rfl,rfl,rfl,.inr ⟨rfl,_,_,rfl,rfl,rfl,rfl⟩⟩,⟨rfl,rfl,rfl,rfl,rfl,.inl ⟨rfl,rfl⟩⟩,trivial⟩
 rintro⟨i,hi,hall⟩
 simp only
 by_cases hA:i<p.length
 case neg=>
  have hA':=ltF hA
  obtain rfl:i=p.length:=by omega
  have hce:cutE (csL l B p)=p.length:=by rw [Qvu (by rw [hcl];exact hall),hcl]
  rw [hce]
  have hsm:(smL (csL l B p) p.length).length=p.length:=Qek _ _
  have ht:((smL (csL l B p) p.length).map (PV.int .i64)).take p.length=(smL (csL l B p) p.length).map (PV.int .i64):=List.take_of_length_le (by simp [Qek])
  have hk:=Qj0 (smL (csL l B p) p.length)
  generalize smL (csL l B p) p.length=SM at*
  repeat (first|(simp -implicitDefEqProofs only [go_sem,Nat.reduceAdd,Nat.reduceMul,Nat.reduceEqDiff,Nat.reduceLT,Nat.reduceLeDiff,reduceIte,reduceCtorEq,hA',hsm,ht,hk,List.length_map])|(with_reducible exact Qaa _ _ (by kernel_rfl))|(with_reducible refine And.intro (Qaa _ _ (by kernel_rfl)) ?_))
 have hA':=ltT hA
 have n0:=nnT i
 have hg:=Qc9 p i hA
 have hga:=Zhn l p hA
 have hvs:=Qeo hV _ hA
 have f2:=Q2h p[i] B _ _ _ (hp _ (List.getElem_mem hA)) hvs hB (Qio (.inl rfl) hw (posS p[i] 0) (posS p[i] 1) (posS p[i] 2) p[i].f) (Qio (.inr (.inl rfl)) hw (posS p[i] 0) (posS p[i] 1) (posS p[i] 2) p[i].f) (Qio (.inr (.inr rfl)) hw (posS p[i] 0) (posS p[i] 1) (posS p[i] 2) p[i].f)
 have hcw:Qey p[i] B (atW Wd.ux l (posS p[i] 0) (posS p[i] 1) (posS p[i] 2) p[i].f) (atW Wd.uy l (posS p[i] 0) (posS p[i] 1) (posS p[i] 2) p[i].f) (atW Wd.uz l (posS p[i] 0) (posS p[i] 1) (posS p[i] 2) p[i].f)=(csL l B p).getD i 0:=(Q2k l B p hA).symm
 rw [hcw]at f2
 have hbd:=Qth hok i
 have hpre:=Qij (csL l B p) i
 have hnn:=Qly hok i
 have hle:preI (csL l B p) i≤mxE:=by
  cases i with
  |zero=>exact(by decide:(0:Int)≤mxE)
  |succ i=>exact hall i (by omega)
 have hwk:=Qaj (a:=i) (by omega)
 have hws:IntKind.i64.wrap (preI (csL l B p) i+(csL l B p).getD i 0)=preI (csL l B p) (i+1):=by rw [←hpre];unfold mxE at hle;exact Qah (by omega) (by omega)
 clear hcw
 generalize atW Wd.ux l (posS p[i] 0) (posS p[i] 1) (posS p[i] 2) p[i].f=w0 at*
 generalize atW Wd.uy l (posS p[i] 0) (posS p[i] 1) (posS p[i] 2) p[i].f=w1 at*
 generalize atW Wd.uz l (posS p[i] 0) (posS p[i] 1) (posS p[i] 2) p[i].f=w2 at*
 generalize p[i]=s at*
 unfold sgPV Qas baPV at f2
 by_cases hC:(csL l B p).getD i 0≤1125899906842624
 ·rw [decide_eq_true hC]at f2
  by_cases hS:1125899906842624<preI (csL l B p) (i+1)
  ·have hS':=eq_true hS
   have hce:cutE (csL l B p)=i:=Qrc (by omega) hall hS
   have hsm:(smL (csL l B p) i).length=i:=Qek _ _
   have ht:((smL (csL l B p) i).map (PV.int .i64)).take i=(smL (csL l B p) i).map (PV.int .i64):=List.take_of_length_le (by simp [Qek])
   have hk:=Qj0 (smL (csL l B p) i)
   rw [hce]
   generalize smL (csL l B p) i=SM at*
   generalize preI (csL l B p) (i+1)=P1 at*
   generalize preI (csL l B p) i=P0 at*
   generalize (csL l B p).getD i 0=C at*
   repeat (first|(simp -implicitDefEqProofs only [go_sem,Nat.reduceAdd,Nat.reduceMul,Nat.reduceEqDiff,Nat.reduceLT,Nat.reduceLeDiff,reduceIte,reduceCtorEq,hA',n0,hg,hga,hws,hS',hsm,ht,hk,Bool.not_true,decide_true,Int.toNat_natCast,List.length_map])|((with_reducible refine Qab (f2) ?_ ?_ ?_);(with_reducible rfl);rfl)|(with_reducible exact Qaa _ _ (by kernel_rfl))|(with_reducible refine And.intro (Qaa _ _ (by kernel_rfl)) ?_))
  ·have hS':=eq_false hS
   have hsn:=Q9b (csL l B p) i
   have hsm:(smL (csL l B p) i).length=i:=Qek _ _
   have hk:=Qj0 (smL (csL l B p) i)
   have k1:((i+1)*8≤140737488355328)=True:=eq_true (by omega)
   have k2:(i+1≤maxLen)=True:=eq_true (by unfold maxLen;omega)
   have hall2: ∀j,j<i+1→preI (csL l B p) (j+1)≤mxE:=fun j hj=>by
    by_cases e:j=i
    ·subst e;unfold mxE;omega
    ·exact hall j (by omega)
   generalize hSM2:smL (csL l B p) (i+1)=SM2 at*
   generalize smL (csL l B p) i=SM at*
   generalize hP1:preI (csL l B p) (i+1)=P1 at*
   generalize preI (csL l B p) i=P0 at*
   generalize (csL l B p).getD i 0=C at*
   repeat (first|(simp -implicitDefEqProofs only [go_sem,Nat.reduceAdd,Nat.reduceMul,Nat.reduceEqDiff,Nat.reduceLT,Nat.reduceLeDiff,reduceIte,reduceCtorEq,Nat.reduceBneDiff,hA',n0,hg,hga,hws,hwk,hS',hsm,hk,k1,k2,Bool.not_true,decide_false,Int.toNat_natCast,List.length_map])|((with_reducible refine Qab (f2) ?_ ?_ ?_);(with_reducible rfl);rfl)|(with_reducible exact Qaa _ _ (by kernel_rfl))|(with_reducible refine And.intro (Qaa _ _ (by kernel_rfl)) ?_))
   refine⟨⟨i+1,hA,hall2⟩,by simp only;omega,Qak (θ:=[(0,0),(7,1203)]) rfl ?_ ?_⟩
   ·simp only [hP1]
    simp [Qaf,lkp,ren1,ren0,Qap]
   ·simp only [hSM2,hsn]
    refine⟨⟨rfl,rfl,rfl,rfl,rfl,.inr ⟨rfl,_,_,rfl,rfl,rfl,rfl⟩⟩,⟨rfl,rfl,rfl,rfl,rfl,.inl ⟨rfl,?_⟩⟩,trivial⟩
    simp
 ·rw [decide_eq_false hC]at f2
  have hS:mxE<preI (csL l B p) (i+1):=by unfold mxE;omega
  have hce:cutE (csL l B p)=i:=Qrc (by omega) hall hS
  have hsm:(smL (csL l B p) i).length=i:=Qek _ _
  have ht:((smL (csL l B p) i).map (PV.int .i64)).take i=(smL (csL l B p) i).map (PV.int .i64):=List.take_of_length_le (by simp [Qek])
  have hk:=Qj0 (smL (csL l B p) i)
  rw [hce]
  generalize smL (csL l B p) i=SM at*
  generalize preI (csL l B p) (i+1)=P1 at*
  generalize preI (csL l B p) i=P0 at*
  generalize (csL l B p).getD i 0=C at*
  repeat (first|(simp -implicitDefEqProofs only [go_sem,Nat.reduceAdd,Nat.reduceMul,Nat.reduceEqDiff,Nat.reduceLT,Nat.reduceLeDiff,reduceIte,reduceCtorEq,hA',n0,hg,hga,hws,hsm,ht,hk,Bool.not_false,Int.toNat_natCast,List.length_map])|((with_reducible refine Qab (f2) ?_ ?_ ?_);(with_reducible rfl);rfl)|(with_reducible exact Qaa _ _ (by kernel_rfl))|(with_reducible refine And.intro (Qaa _ _ (by kernel_rfl)) ?_))
end Go.Proofs.YtciddhkfbgkejaaGreatDoor

namespace Go.Proofs.YtciddhkfbgkejaaGreatDoor
open Go.Vl Go.RowKit Go.Dg
def totE (l:List Wd) (B:Bat) (p:List Sg):Int:=preI (csL l B p) p.length
def enPV (l:List Wd) (B:Bat) (p:List Sg):PV:=if Qe9 p B l=true then(if totE l B p≤mxE then .tup [.int .i64 (totE l B p),.int .i64 0]else .tup [.int .i64 0,.int .i64 7])else .tup [.int .i64 0,.int .i64 2]
def lePV (l:List Wd) (B:Bat) (p:List Sg):PV:=if Qe9 p B l=true then(if totE l B p≤mxE then .tup [.int .i64 (B.cap-totE l B p),.int .i64 0]else .tup [.int .i64 0,.int .i64 7])else .tup [.int .i64 0,.int .i64 2]
def ehPV (l:List Wd) (B:Bat) (p:List Sg):PV:=if Qe9 p B l=true then(if totE l B p≤mxE then .tup [.bool (decide (B.res≤B.cap-totE l B p)),.int .i64 0]else .tup [.bool false,.int .i64 7])else .tup [.bool false,.int .i64 2]
def rcPV (l:List Wd) (B:Bat) (p:List Sg):PV:=if Qe9 p B l=true then .tup [.int .i64 ((rcN (csL l B p) B:Nat):Int),.int .i64 0]else .tup [.int .i64 0,.int .i64 2]
theorem Qdn {p:List Sg} {B:Bat} {l:List Wd} (h:Qe9 p B l=true):Qbk p=true∧Qat B=true∧Qa8 l=true:=by
 simpa only [Qe9,Bool.and_eq_true]using h
theorem Zho {cs:List Int} {k i:Nat} (h:i<k):((smL cs k).map (PV.int .i64))[i]? =some (.int .i64 (preI cs (i+1))):=by
 rw [List.getElem?_map,List.getElem?_eq_getElem (by rw [Qek];exact h)]
 have:=Zif (cs:=cs) h
 rw [List.getD_eq_getElem?_getD,List.getElem?_eq_getElem (by rw [Qek];exact h)]at this
 simp only [Option.getD_some]at this
 rw [Option.map_some,this]
set_option maxHeartbeats 4000000 in
theorem Q2m (p:List Sg) (B:Bat) (l:List Wd) (hp: ∀s∈p,okSg s) (hl:l.length≤maxLen) (hpl:p.length≤1000000):Qad Tryz.prog 35 [Qbs p,baPV B,wsPV l] (enPV l B p):=by
 have h:=Q2l p B l hp hl hpl
 unfold enPV
 unfold Qbs baPV at h ⊢
 cases hO:Qe9 p B l with
 |false=>
  rw [hO]at h
  refine Qac (tb:=[]) 33 [.tmp 6,.tmp 7] [0,1,2,4,6,7,8,9,17,21] mixed Tryz.func35 rfl (by kernel_rfl) (by kernel_rfl) (by kernel_rfl) (by kernel_rfl) ?_
  repeat (first|(simp -implicitDefEqProofs only [go_sem,Nat.reduceAdd,Nat.reduceMul,Nat.reduceEqDiff,Nat.reduceLT,Nat.reduceLeDiff,reduceCtorEq,Zj0,Bool.false_eq_true])|((with_reducible refine Qab (h) ?_ ?_ ?_);(with_reducible rfl);rfl))
 |true=>
  rw [hO]at h
  simp only [if_true]at h ⊢
  obtain⟨hV,hB,hw⟩:=Qdn hO
  have hok:=Qoj hV hB hw
  have hcl:=Qmi l B p
  obtain⟨-,l1,l2⟩:=Qbx hV
  obtain⟨c1,c2⟩:=Q0w hok (by omega)
  rw [hcl]at c1 c2
  have hsl:=Qek (csL l B p) (cutE (csL l B p))
  unfold totE
  by_cases hT:preI (csL l B p) p.length≤mxE
  ·have hce:=c1 hT
   rw [hce]at h hsl
   rw [if_pos hT]
   have lt:((p.length:Int)<(p.length:Int))=False:=eq_false (Int.lt_irrefl _)
   have wl:=Qhe (n:=p.length) (by omega) (by omega)
   have n1:=nnT (p.length-1)
   have hg:=Zho (cs:=csL l B p) (show p.length-1<p.length by omega)
   rw [Nat.sub_add_cancel l1]at hg
   generalize preI (csL l B p) p.length=T at*
   generalize smL (csL l B p) p.length=SM at*
   refine Qac (tb:=[]) 33 [.tmp 6,.tmp 7] [0,1,2,4,6,7,8,9,17,21] mixed Tryz.func35 rfl (by kernel_rfl) (by kernel_rfl) (by kernel_rfl) (by kernel_rfl) ?_
   repeat (first|(simp -implicitDefEqProofs only [go_sem,Nat.reduceAdd,Nat.reduceMul,Nat.reduceEqDiff,Nat.reduceLT,Nat.reduceLeDiff,reduceCtorEq,Qr9,hsl,lt,wl,n1,hg,Int.toNat_natCast,List.length_map])|((with_reducible refine Qab (h) ?_ ?_ ?_);(with_reducible rfl);rfl))
  ·have hce:=c2 (by omega)
   rw [if_neg hT]
   have lt:((cutE (csL l B p):Int)<(p.length:Int))=True:=eq_true (by omega)
   generalize cutE (csL l B p)=K at*
   generalize smL (csL l B p) K=SM at*
   refine Qac (tb:=[]) 33 [.tmp 6,.tmp 7] [0,1,2,4,6,7,8,9,17,21] mixed Tryz.func35 rfl (by kernel_rfl) (by kernel_rfl) (by kernel_rfl) (by kernel_rfl) ?_
   repeat (first|(simp -implicitDefEqProofs only [go_sem,Nat.reduceAdd,Nat.reduceMul,Nat.reduceEqDiff,Nat.reduceLT,Nat.reduceLeDiff,reduceCtorEq,Qr9,hsl,lt,List.length_map])|((with_reducible refine Qab (h) ?_ ?_ ?_);(with_reducible rfl);rfl))
set_option maxHeartbeats 4000000 in
theorem Zjm (p:List Sg) (B:Bat) (l:List Wd) (hp: ∀s∈p,okSg s) (hl:l.length≤maxLen) (hpl:p.length≤1000000):Qad Tryz.prog 36 [Qbs p,baPV B,wsPV l] (lePV l B p):=by
 have h:=Q2m p B l hp hl hpl
 unfold enPV at h
 unfold lePV
 unfold Qbs baPV at h ⊢
 cases hO:Qe9 p B l with
 |false=>
  rw [hO]at h
  simp only [Bool.false_eq_true,if_false]at h ⊢
  refine Qac (tb:=[]) 24 [.tmp 6,.tmp 7] [0,1,2,4,6,7,8,9,18] mixed Tryz.func36 rfl (by kernel_rfl) (by kernel_rfl) (by kernel_rfl) (by kernel_rfl) ?_
  repeat (first|(simp -implicitDefEqProofs only [go_sem,Nat.reduceAdd,Nat.reduceMul,Nat.reduceEqDiff,Nat.reduceLT,Nat.reduceLeDiff,reduceCtorEq,Zj0])|((with_reducible refine Qab (h) ?_ ?_ ?_);(with_reducible rfl);rfl))
 |true=>
  rw [hO]at h
  simp only [if_true]at h ⊢
  obtain⟨hV,hB,hw⟩:=Qdn hO
  have hnn:=Qly (Qoj hV hB hw) p.length
  obtain⟨-, -, -,b1,b2,b3⟩:=Qb9 hB
  have e:preI (csL l B p) p.length=totE l B p:=rfl
  rw [e]at hnn
  by_cases hT:totE l B p≤mxE
  ·rw [if_pos hT]at h ⊢
   unfold mxE at hT
   have hw1:IntKind.i64.wrap (B.cap-totE l B p)=B.cap-totE l B p:=Qah (by omega) (by omega)
   generalize totE l B p=T at*
   refine Qac (tb:=[]) 24 [.tmp 6,.tmp 7] [0,1,2,4,6,7,8,9,18] mixed Tryz.func36 rfl (by kernel_rfl) (by kernel_rfl) (by kernel_rfl) (by kernel_rfl) ?_
   repeat (first|(simp -implicitDefEqProofs only [go_sem,Nat.reduceAdd,Nat.reduceMul,Nat.reduceEqDiff,Nat.reduceLT,Nat.reduceLeDiff,reduceCtorEq,Qr9,hw1])|((with_reducible refine Qab (h) ?_ ?_ ?_);(with_reducible rfl);rfl))
  ·rw [if_neg hT]at h ⊢
   refine Qac (tb:=[]) 24 [.tmp 6,.tmp 7] [0,1,2,4,6,7,8,9,18] mixed Tryz.func36 rfl (by kernel_rfl) (by kernel_rfl) (by kernel_rfl) (by kernel_rfl) ?_
   repeat (first|(simp -implicitDefEqProofs only [go_sem,Nat.reduceAdd,Nat.reduceMul,Nat.reduceEqDiff,Nat.reduceLT,Nat.reduceLeDiff,reduceCtorEq,Zal])|((with_reducible refine Qab (h) ?_ ?_ ?_);(with_reducible rfl);rfl))
set_option maxHeartbeats 4000000 in
theorem Q2n (p:List Sg) (B:Bat) (l:List Wd) (hp: ∀s∈p,okSg s) (hl:l.length≤maxLen) (hpl:p.length≤1000000):Qad Tryz.prog 37 [Qbs p,baPV B,wsPV l] (ehPV l B p):=by
 have h:=Zjm p B l hp hl hpl
 unfold lePV at h
 unfold ehPV
 unfold Qbs baPV at h ⊢
 cases hO:Qe9 p B l with
 |false=>
  rw [hO]at h
  simp only [Bool.false_eq_true,if_false]at h ⊢
  refine Qac (tb:=[]) 26 [.tmp 6,.tmp 7] [0,1,2,4,6,7,8,9] mixed Tryz.func37 rfl (by kernel_rfl) (by kernel_rfl) (by kernel_rfl) (by kernel_rfl) ?_
  repeat (first|(simp -implicitDefEqProofs only [go_sem,Nat.reduceAdd,Nat.reduceMul,Nat.reduceEqDiff,Nat.reduceLT,Nat.reduceLeDiff,reduceCtorEq,Zpp])|((with_reducible refine Qab (h) ?_ ?_ ?_);(with_reducible rfl);rfl))
 |true=>
  rw [hO]at h
  simp only [if_true]at h ⊢
  by_cases hT:totE l B p≤mxE
  ·rw [if_pos hT]at h ⊢
   generalize B.cap-totE l B p=T at*
   refine Qac (tb:=[]) 26 [.tmp 6,.tmp 7] [0,1,2,4,6,7,8,9] mixed Tryz.func37 rfl (by kernel_rfl) (by kernel_rfl) (by kernel_rfl) (by kernel_rfl) ?_
   repeat (first|(simp -implicitDefEqProofs only [go_sem,Nat.reduceAdd,Nat.reduceMul,Nat.reduceEqDiff,Nat.reduceLT,Nat.reduceLeDiff,reduceCtorEq,Zak])|((with_reducible refine Qab (h) ?_ ?_ ?_);(with_reducible rfl);rfl))
  ·rw [if_neg hT]at h ⊢
   refine Qac (tb:=[]) 26 [.tmp 6,.tmp 7] [0,1,2,4,6,7,8,9] mixed Tryz.func37 rfl (by kernel_rfl) (by kernel_rfl) (by kernel_rfl) (by kernel_rfl) ?_
   repeat (first|(simp -implicitDefEqProofs only [go_sem,Nat.reduceAdd,Nat.reduceMul,Nat.reduceEqDiff,Nat.reduceLT,Nat.reduceLeDiff,reduceCtorEq,Zpq])|((with_reducible refine Qab (h) ?_ ?_ ?_);(with_reducible rfl);rfl))
set_option maxHeartbeats 4000000 in
theorem Q99 (p:List Sg) (B:Bat) (l:List Wd) (hp: ∀s∈p,okSg s) (hl:l.length≤maxLen) (hpl:p.length≤1000000):Qad Tryz.prog 39 [Qbs p,baPV B,wsPV l] (rcPV l B p):=by
 have h:=Q2l p B l hp hl hpl
 unfold rcPV
 unfold Qbs baPV at h ⊢
 cases hO:Qe9 p B l with
 |false=>
  rw [hO]at h
  simp only [Bool.false_eq_true,if_false]at h ⊢
  refine Qac (tb:=[]) 39 [.tmp 6,.tmp 7] [0,1,2,4,6,7,8,9,10,11,19,20,21,22,32] mixed Tryz.func39 rfl (by kernel_rfl) (by kernel_rfl) (by kernel_rfl) (by kernel_rfl) ?_
  repeat (first|(simp -implicitDefEqProofs only [go_sem,Nat.reduceAdd,Nat.reduceMul,Nat.reduceEqDiff,Nat.reduceLT,Nat.reduceLeDiff,reduceCtorEq])|((with_reducible refine Qab (h) ?_ ?_ ?_);(with_reducible rfl);rfl))
  refine Qbn mixed [0] ?_
  have z:((0:Int)<((0:Nat):Int))=False:=eq_false (by decide)
  repeat (first|(simp -implicitDefEqProofs only [go_sem,Nat.reduceAdd,Nat.reduceMul,Nat.reduceEqDiff,Nat.reduceLT,Nat.reduceLeDiff,reduceCtorEq,Int.reduceLT,z]))
 |true=>
  rw [hO]at h
  simp only [if_true]at h ⊢
  obtain⟨hV,hB,hw⟩:=Qdn hO
  have hok:=Qoj hV hB hw
  have hcl:=Qmi l B p
  obtain⟨-, -, -,b1,b2,b3⟩:=Qb9 hB
  have hcut:=Q0x (csL l B p)
  have hclt:=fun j h=>Zig (cs:=csL l B p) (j:=j) h
  have hcat:=Zih (cs:=csL l B p)
  have hsl:=Qek (csL l B p) (cutE (csL l B p))
  have hpl2:=(Qbx hV).2.2
  have hget:=fun i h=>Zho (cs:=csL l B p) (k:=cutE (csL l B p)) (i:=i) h
  generalize csL l B p=cs at*
  generalize hK:cutE cs=K at*
  refine Qac (tb:=[]) 39 [.tmp 6,.tmp 7] [0,1,2,4,6,7,8,9,10,11,19,20,21,22,32] mixed Tryz.func39 rfl (by kernel_rfl) (by kernel_rfl) (by kernel_rfl) (by kernel_rfl) ?_
  repeat (first|(simp -implicitDefEqProofs only [go_sem,Nat.reduceAdd,Nat.reduceMul,Nat.reduceEqDiff,Nat.reduceLT,Nat.reduceLeDiff,reduceCtorEq,hsl,List.length_map])|((with_reducible refine Qab (h) ?_ ?_ ?_);(with_reducible rfl);rfl))
  refine Qar mixed (fun i:{i:Nat // i≤K∧ ∀j,j<i→okE cs B (j+1)=true}=>St.of [(4,.bp 0 5 0 0),(8,.slc ((smL cs K).map (PV.int .i64))),(9,.int .i64 0),(19,.slc ((smL cs K).map (PV.int .i64))),(20,.int .i64 (K:Int)),(21,.int .i64 (i.1:Int))] [(0,{els:=[baPV B],esz:=5,ety:=59,fro:=0,live:=true,arr:=false})]) (fun i=>K-i.1) ⟨0,Nat.zero_le _,fun j hj=>by omega⟩ ?_ ?_
  ·refine Qak (θ:=[(0,0)]) rfl ?_ ?_
   ·simp [Qaf,lkp,ren1,ren0,Qap]
   ·exact⟨⟨rfl,rfl,rfl,rfl,rfl,.inr ⟨rfl,_,_,rfl,rfl,rfl,rfl⟩⟩,trivial⟩
  rintro⟨i,hi,hall⟩
  simp only
  by_cases hA:i<K
  ·have hA':=ltT hA
   have n0:=nnT i
   have hg:=hget i hA
   have hc:=hclt i hA
   have hnn:=Qly hok (i+1)
   unfold mxE at hc
   have hwk:=Qaj (a:=i) (by omega)
   have hws:IntKind.i64.wrap (B.cap-preI cs (i+1))=B.cap-preI cs (i+1):=Qah (by omega) (by omega)
   by_cases hR:B.cap-preI cs (i+1)<B.res
   ·have hR':=eq_true hR
    have hr:rcN cs B=i:=Qk9 (by omega) hall (Q00 hR)
    rw [hr]
    generalize preI cs (i+1)=P1 at*
    repeat (first|(simp -implicitDefEqProofs only [go_sem,Nat.reduceAdd,Nat.reduceMul,Nat.reduceEqDiff,Nat.reduceLT,Nat.reduceLeDiff,reduceCtorEq,hA',n0,hg,hws,hR',Int.toNat_natCast]))
   ·have hR':=eq_false hR
    have hall2: ∀j,j<i+1→okE cs B (j+1)=true:=fun j hj=>by
     by_cases e:j=i
     ·subst e;exact Qvv (by unfold mxE;omega) (by omega)
     ·exact hall j (by omega)
    generalize preI cs (i+1)=P1 at*
    repeat (first|(simp -implicitDefEqProofs only [go_sem,Nat.reduceAdd,Nat.reduceMul,Nat.reduceEqDiff,Nat.reduceLT,Nat.reduceLeDiff,reduceCtorEq,hA',n0,hg,hws,hwk,hR',Int.toNat_natCast]))
    refine⟨⟨i+1,hA,hall2⟩,by simp only;omega,Qak (θ:=[(0,0)]) rfl ?_ ?_⟩
    ·simp [Qaf,lkp,ren1,ren0,Qap]
    ·exact⟨⟨rfl,rfl,rfl,rfl,rfl,.inr ⟨rfl,_,_,rfl,rfl,rfl,rfl⟩⟩,trivial⟩
  ·have hA':=ltF hA
   obtain rfl:i=K:=by omega
   have hr:rcN cs B=i:=by
    by_cases e:i<cs.length
    ·exact Qk9 e hall (Q0z (hcat e))
    ·rw [Q0y fun j hj=>hall j (by omega)];omega
   rw [hr]
   repeat (first|(simp -implicitDefEqProofs only [go_sem,Nat.reduceAdd,Nat.reduceMul,Nat.reduceEqDiff,Nat.reduceLT,Nat.reduceLeDiff,reduceCtorEq,hA',hsl,List.length_map]))
end Go.Proofs.YtciddhkfbgkejaaGreatDoor

namespace Go.Proofs.YtciddhkfbgkejaaGreatDoor
open Go.Vl Go.RowKit Go.Dg
theorem Qtx {p:List Sg} (h:Qbk p=true) {k:Nat} (h1:1≤k) (h2:k≤p.length):Qbk (p.take k)=true:=by
 obtain⟨a1,a2,a3⟩:=Qbx h
 have hl:(p.take k).length=k:=by simp;omega
 unfold Qbk
 rw [hl]
 have e:vpTo (p.take k) k=true:=by
  unfold vpTo at a1 ⊢
  rw [List.all_eq_true]at a1 ⊢
  intro j hj
  have hj:=List.mem_range.1 hj
  have:=a1 j (List.mem_range.2 (by omega))
  have g1:(p.take k).getD j sg0=p.getD j sg0:=by rw [List.getD_eq_getElem?_getD,List.getD_eq_getElem?_getD,List.getElem?_take_of_lt hj]
  have g2:(p.take k).getD (j-1) sg0=p.getD (j-1) sg0:=by rw [List.getD_eq_getElem?_getD,List.getD_eq_getElem?_getD,List.getElem?_take_of_lt (by omega)]
  unfold vpAt at this ⊢
  rw [g1,g2];exact this
 rw [e,decide_eq_true h1,decide_eq_true (show k≤256 by omega)];rfl
theorem Qwf (p:List Sg) (B:Bat) (l:List Wd) (hp: ∀s∈p,okSg s) (hl:l.length≤maxLen) (hpl:p.length≤1000000):Qad Tryz.prog 41 [Qbs p,baPV B,wsPV l] (.bool (!Qe9 p B l)):=by
 have v1:=Qr8 p hp hpl
 have v2:=Qmh B
 have v3:=Q2q l hl
 unfold Qe9
 unfold Qbs at v1 ⊢
 cases hV:Qbk p with
 |false=>
  rw [hV]at v1
  unfold baPV at v2 ⊢
  refine Qac (tb:=[]) 20 [.tmp 6] [0,1,2,4,6] mixed Tryz.func41 rfl (by kernel_rfl) (by kernel_rfl) (by kernel_rfl) (by kernel_rfl) ?_
  repeat (first|(simp -implicitDefEqProofs only [go_sem,Nat.reduceAdd,Nat.reduceMul,Nat.reduceEqDiff,Nat.reduceLT,Nat.reduceLeDiff,reduceCtorEq,Bool.not_false,Bool.false_and])|((with_reducible refine Qab (v1) ?_ ?_ ?_);(with_reducible rfl);rfl))
 |true=>
 rw [hV]at v1
 cases hB:Qat B with
 |false=>
  rw [hB]at v2
  unfold baPV at v2 ⊢
  refine Qac (tb:=[]) 20 [.tmp 6] [0,1,2,4,6] mixed Tryz.func41 rfl (by kernel_rfl) (by kernel_rfl) (by kernel_rfl) (by kernel_rfl) ?_
  repeat (first|(simp -implicitDefEqProofs only [go_sem,Nat.reduceAdd,Nat.reduceMul,Nat.reduceEqDiff,Nat.reduceLT,Nat.reduceLeDiff,reduceCtorEq,Bool.not_false,Bool.not_true,Bool.false_and,Bool.true_and])|((with_reducible refine Qab (v1) ?_ ?_ ?_);(with_reducible rfl);rfl)|((with_reducible refine Qab (v2) ?_ ?_ ?_);(with_reducible rfl);rfl))
 |true=>
 rw [hB]at v2
 unfold baPV at v2 ⊢
 generalize Qa8 l=b at*
 refine Qac (tb:=[]) 20 [.tmp 6] [0,1,2,4,6] mixed Tryz.func41 rfl (by kernel_rfl) (by kernel_rfl) (by kernel_rfl) (by kernel_rfl) ?_
 repeat (first|(simp -implicitDefEqProofs only [go_sem,Nat.reduceAdd,Nat.reduceMul,Nat.reduceEqDiff,Nat.reduceLT,Nat.reduceLeDiff,reduceCtorEq,Bool.not_true,Bool.true_and])|((with_reducible refine Qab (v1) ?_ ?_ ?_);(with_reducible rfl);rfl)|((with_reducible refine Qab (v2) ?_ ?_ ?_);(with_reducible rfl);rfl)|((with_reducible refine Qab (v3) ?_ ?_ ?_);(with_reducible rfl);rfl))
set_option maxHeartbeats 8000000 in
theorem Q2e (p:List Sg) (B:Bat) (l:List Wd) (hp: ∀s∈p,okSg s) (hl:l.length≤maxLen) (hpl:p.length≤1000000):Qad Tryz.prog 38 [Qbs p,baPV B,wsPV l] (enPV l B p):=by
 have h:=Qwf p B l hp hl hpl
 unfold enPV
 cases hO:Qe9 p B l with
 |false=>
  rw [hO]at h
  unfold Qbs baPV at h ⊢
  refine Qac (tb:=[]) 49 [.tmp 6,.tmp 7] [0,1,2,4,6,7,8,9,10,11,12,16,23,47] mixed Tryz.func38 rfl (by kernel_rfl) (by kernel_rfl) (by kernel_rfl) (by kernel_rfl) ?_
  repeat (first|(simp -implicitDefEqProofs only [go_sem,Nat.reduceAdd,Nat.reduceMul,Nat.reduceEqDiff,Nat.reduceLT,Nat.reduceLeDiff,reduceCtorEq,Bool.not_false,Bool.false_eq_true])|((with_reducible refine Qab (h) ?_ ?_ ?_);(with_reducible rfl);rfl)|(with_reducible exact Qaa _ _ (by kernel_rfl))|(with_reducible refine And.intro (Qaa _ _ (by kernel_rfl)) ?_))
 |true=>
  rw [hO]at h
  simp only [if_true]
  obtain⟨hV,hB,hw⟩:=Qdn hO
  have hok:=Qoj hV hB hw
  have hcl:=Qmi l B p
  have f1:=Zaf l p hp hpl hw hV
  have hpl2:=(Qbx hV).2.2
  unfold Qbs baPV at h ⊢
  unfold Qbs at f1
  unfold totE
  refine Qac (tb:=[]) 49 [.tmp 6,.tmp 7] [0,1,2,4,6,7,8,9,10,11,12,16,23,47] mixed Tryz.func38 rfl (by kernel_rfl) (by kernel_rfl) (by kernel_rfl) (by kernel_rfl) ?_
  repeat (first|(simp -implicitDefEqProofs only [go_sem,Nat.reduceAdd,Nat.reduceMul,Nat.reduceEqDiff,Nat.reduceLT,Nat.reduceLeDiff,reduceCtorEq,Bool.not_true])|((with_reducible refine Qab (h) ?_ ?_ ?_);(with_reducible rfl);rfl)|((with_reducible refine Qab (f1) ?_ ?_ ?_);(with_reducible rfl);rfl)|(with_reducible exact Qaa _ _ (by kernel_rfl))|(with_reducible refine And.intro (Qaa _ _ (by kernel_rfl)) ?_))
  refine Qar mixed (fun i:{i:Nat // i≤p.length∧preI (csL l B p) i≤mxE}=>St.of [(0,.slc (p.map sgPV)),(4,.bp 0 5 0 0),(8,.int .i64 (preI (csL l B p) i.1)),(9,.slc (p.map (alV l))),(10,.int .i64 (i.1:Int))] [(0,{els:=[baPV B],esz:=5,ety:=59,fro:=0,live:=true,arr:=false})]) (fun i=>p.length-i.1) ⟨0,Nat.zero_le _,(by decide:(0:Int)≤mxE)⟩ ?_ ?_
  ·refine Qak (θ:=[(0,0)]) rfl ?_ ?_
   ·simp [Qaf,lkp,ren1,ren0,Qap]
    rfl
   ·exact⟨⟨rfl,rfl,rfl,rfl,rfl,.inr ⟨rfl,_,_,rfl,rfl,rfl,rfl⟩⟩,trivial⟩
  rintro⟨i,hi,hle⟩
  simp only
  by_cases hA:i<p.length
  case neg=>
   have hA':=ltF hA
   obtain rfl:i=p.length:=by omega
   rw [if_pos hle]
   generalize preI (csL l B p) p.length=T at*
   repeat (first|(simp -implicitDefEqProofs only [go_sem,Nat.reduceAdd,Nat.reduceMul,Nat.reduceEqDiff,Nat.reduceLT,Nat.reduceLeDiff,reduceCtorEq,hA',List.length_map])|(with_reducible exact Qaa _ _ (by kernel_rfl))|(with_reducible refine And.intro (Qaa _ _ (by kernel_rfl)) ?_))
  have hA':=ltT hA
  have n0:=nnT i
  have hg:=Qc9 p i hA
  have hga:=Zhn l p hA
  have hvs:=Qeo hV _ hA
  have f2:=Q2j p[i] B (atW Wd.ux l (posS p[i] 0) (posS p[i] 1) (posS p[i] 2) p[i].f) (atW Wd.uy l (posS p[i] 0) (posS p[i] 1) (posS p[i] 2) p[i].f) (atW Wd.uz l (posS p[i] 0) (posS p[i] 1) (posS p[i] 2) p[i].f) (hp _ (List.getElem_mem hA))
  rw [Qp0 (decide_eq_true (Qio (.inl rfl) hw (posS p[i] 0) (posS p[i] 1) (posS p[i] 2) p[i].f)) (decide_eq_true (Qio (.inr (.inl rfl)) hw (posS p[i] 0) (posS p[i] 1) (posS p[i] 2) p[i].f)) (decide_eq_true (Qio (.inr (.inr rfl)) hw (posS p[i] 0) (posS p[i] 1) (posS p[i] 2) p[i].f)) hvs hB]at f2
  have hcw:Qey p[i] B (atW Wd.ux l (posS p[i] 0) (posS p[i] 1) (posS p[i] 2) p[i].f) (atW Wd.uy l (posS p[i] 0) (posS p[i] 1) (posS p[i] 2) p[i].f) (atW Wd.uz l (posS p[i] 0) (posS p[i] 1) (posS p[i] 2) p[i].f)=(csL l B p).getD i 0:=(Q2k l B p hA).symm
  rw [hcw]at f2
  have hbd:=Qth hok i
  have hpre:=Qij (csL l B p) i
  have hnn:=Qly hok i
  have hmo:=Qlx hok (show i+1≤p.length by omega)
  have hwk:=Qaj (a:=i) (by omega)
  have hws:IntKind.i64.wrap (preI (csL l B p) i+(csL l B p).getD i 0)=preI (csL l B p) (i+1):=by rw [←hpre];unfold mxE at hle;exact Qah (by omega) (by omega)
  have hw0:IntKind.i64.wrap (preI (csL l B p) i+0)=preI (csL l B p) i:=by unfold mxE at hle;rw [Int.add_zero];exact Qah (by omega) (by omega)
  clear hcw
  generalize atW Wd.ux l (posS p[i] 0) (posS p[i] 1) (posS p[i] 2) p[i].f=w0 at*
  generalize atW Wd.uy l (posS p[i] 0) (posS p[i] 1) (posS p[i] 2) p[i].f=w1 at*
  generalize atW Wd.uz l (posS p[i] 0) (posS p[i] 1) (posS p[i] 2) p[i].f=w2 at*
  generalize p[i]=s at*
  unfold sgPV Qas baPV at f2
  by_cases hC:(csL l B p).getD i 0≤mxE
  ·rw [if_pos hC]at f2
   by_cases hS:1125899906842624<preI (csL l B p) (i+1)
   ·have hS':=eq_true hS
    rw [if_neg (by unfold mxE;omega)]
    generalize preI (csL l B p) (i+1)=P1 at*
    generalize preI (csL l B p) i=P0 at*
    generalize (csL l B p).getD i 0=C at*
    repeat (first|(simp -implicitDefEqProofs only [go_sem,Nat.reduceAdd,Nat.reduceMul,Nat.reduceEqDiff,Nat.reduceLT,Nat.reduceLeDiff,reduceCtorEq,hA',n0,hg,hga,hws,hS',Qr9,Int.toNat_natCast,List.length_map])|((with_reducible refine Qab (f2) ?_ ?_ ?_);(with_reducible rfl);rfl)|(with_reducible exact Qaa _ _ (by kernel_rfl))|(with_reducible refine And.intro (Qaa _ _ (by kernel_rfl)) ?_))
   ·have hS':=eq_false hS
    generalize preI (csL l B p) p.length=T at*
    generalize hP1:preI (csL l B p) (i+1)=P1 at*
    generalize preI (csL l B p) i=P0 at*
    generalize (csL l B p).getD i 0=C at*
    repeat (first|(simp -implicitDefEqProofs only [go_sem,Nat.reduceAdd,Nat.reduceMul,Nat.reduceEqDiff,Nat.reduceLT,Nat.reduceLeDiff,reduceCtorEq,hA',n0,hg,hga,hws,hwk,hS',Qr9,decide_false,Int.toNat_natCast,List.length_map])|((with_reducible refine Qab (f2) ?_ ?_ ?_);(with_reducible rfl);rfl)|(with_reducible exact Qaa _ _ (by kernel_rfl))|(with_reducible refine And.intro (Qaa _ _ (by kernel_rfl)) ?_))
    refine⟨⟨i+1,hA,by rw [hP1];unfold mxE;omega⟩,by simp only;omega,Qak (θ:=[(0,0)]) rfl ?_ ?_⟩
    ·simp only [hP1]
     simp [Qaf,lkp,ren1,ren0,Qap]
    ·exact⟨⟨rfl,rfl,rfl,rfl,rfl,.inr ⟨rfl,_,_,rfl,rfl,rfl,rfl⟩⟩,trivial⟩
  ·rw [if_neg hC]at f2
   rw [if_neg (by omega)]
   generalize preI (csL l B p) (i+1)=P1 at*
   generalize preI (csL l B p) i=P0 at*
   generalize (csL l B p).getD i 0=C at*
   repeat (first|(simp -implicitDefEqProofs only [go_sem,Nat.reduceAdd,Nat.reduceMul,Nat.reduceEqDiff,Nat.reduceLT,Nat.reduceLeDiff,reduceCtorEq,hA',n0,hg,hga,hw0,Zal,Int.toNat_natCast,List.length_map])|((with_reducible refine Qab (f2) ?_ ?_ ?_);(with_reducible rfl);rfl)|(with_reducible exact Qaa _ _ (by kernel_rfl))|(with_reducible refine And.intro (Qaa _ _ (by kernel_rfl)) ?_))
theorem Q95 (l:List Wd) (B:Bat) (p:List Sg) (k:Nat):csL l B (p.take k)=(csL l B p).take k:=by unfold csL;rw [List.map_take]
theorem Zji {p:List Sg} {B:Bat} {l:List Wd} (h:Qe9 p B l=true) {k:Nat} (h1:1≤k) (h2:k≤p.length):enPV l B (p.take k)=(if preI (csL l B p) k≤mxE then .tup [.int .i64 (preI (csL l B p) k),.int .i64 0]else .tup [.int .i64 0,.int .i64 7]):=by
 obtain⟨hV,hB,hw⟩:=Qdn h
 have e1:Qe9 (p.take k) B l=true:=by unfold Qe9;rw [Qtx hV h1 h2,hB,hw];rfl
 have e2:totE l B (p.take k)=preI (csL l B p) k:=by
  unfold totE
  have hl:(p.take k).length=k:=by simp;omega
  rw [hl,Q95,Q01 _ (Nat.le_refl _)]
 unfold enPV
 rw [if_pos e1,e2]
set_option maxHeartbeats 8000000 in
theorem Q96 (p:List Sg) (B:Bat) (l:List Wd) (hp: ∀s∈p,okSg s) (hl:l.length≤maxLen) (hpl:p.length≤1000000):Qad Tryz.prog 40 [Qbs p,baPV B,wsPV l] (rcPV l B p):=by
 have h:=Qwf p B l hp hl hpl
 unfold rcPV
 cases hO:Qe9 p B l with
 |false=>
  rw [hO]at h
  unfold Qbs baPV at h ⊢
  refine Qac (tb:=[]) 44 [.tmp 6,.tmp 7] [0,1,2,4,6,7,8,9,10,14,18,39] mixed Tryz.func40 rfl (by kernel_rfl) (by kernel_rfl) (by kernel_rfl) (by kernel_rfl) ?_
  repeat (first|(simp -implicitDefEqProofs only [go_sem,Nat.reduceAdd,Nat.reduceMul,Nat.reduceEqDiff,Nat.reduceLT,Nat.reduceLeDiff,reduceCtorEq,Bool.not_false,Bool.false_eq_true])|((with_reducible refine Qab (h) ?_ ?_ ?_);(with_reducible rfl);rfl)|(with_reducible exact Qaa _ _ (by kernel_rfl))|(with_reducible refine And.intro (Qaa _ _ (by kernel_rfl)) ?_))
 |true=>
  rw [hO]at h
  simp only [if_true]
  obtain⟨hV,hB,hw⟩:=Qdn hO
  have hok:=Qoj hV hB hw
  have hcl:=Qmi l B p
  have hpl2:=(Qbx hV).2.2
  obtain⟨-, -, -,b1,b2,b3⟩:=Qb9 hB
  unfold Qbs baPV at h ⊢
  refine Qac (tb:=[]) 44 [.tmp 6,.tmp 7] [0,1,2,4,6,7,8,9,10,14,18,39] mixed Tryz.func40 rfl (by kernel_rfl) (by kernel_rfl) (by kernel_rfl) (by kernel_rfl) ?_
  repeat (first|(simp -implicitDefEqProofs only [go_sem,Nat.reduceAdd,Nat.reduceMul,Nat.reduceEqDiff,Nat.reduceLT,Nat.reduceLeDiff,reduceCtorEq,Bool.not_true])|((with_reducible refine Qab (h) ?_ ?_ ?_);(with_reducible rfl);rfl)|(with_reducible exact Qaa _ _ (by kernel_rfl))|(with_reducible refine And.intro (Qaa _ _ (by kernel_rfl)) ?_))
  refine Qar mixed (fun i:{i:Nat // i≤p.length∧ ∀j,j<i→okE (csL l B p) B (j+1)=true}=>St.of [(0,.slc (p.map sgPV)),(2,wsPV l),(4,.bp 0 5 0 0),(8,.int .i64 (i.1:Int))] [(0,{els:=[baPV B],esz:=5,ety:=59,fro:=0,live:=true,arr:=false})]) (fun i=>p.length-i.1) ⟨0,Nat.zero_le _,fun j hj=>by omega⟩ ?_ ?_
  ·refine Qak (θ:=[(0,0)]) rfl ?_ ?_
   ·simp [Qaf,lkp,ren1,ren0,Qap,wsPV]
   ·exact⟨⟨rfl,rfl,rfl,rfl,rfl,.inr ⟨rfl,_,_,rfl,rfl,rfl,rfl⟩⟩,trivial⟩
  rintro⟨i,hi,hall⟩
  simp only
  by_cases hA:i<p.length
  case neg=>
   have hA':=ltF hA
   have hr:rcN (csL l B p) B=i:=by rw [Q0y fun j hj=>hall j (by omega)];omega
   rw [hr]
   repeat (first|(simp -implicitDefEqProofs only [go_sem,Nat.reduceAdd,Nat.reduceMul,Nat.reduceEqDiff,Nat.reduceLT,Nat.reduceLeDiff,reduceCtorEq,hA',List.length_map])|(with_reducible exact Qaa _ _ (by kernel_rfl))|(with_reducible refine And.intro (Qaa _ _ (by kernel_rfl)) ?_))
  have hA':=ltT hA
  have f2:=Q2e (p.take (i+1)) B l (fun s hs=>hp s (List.mem_of_mem_take hs)) hl (by simp;omega)
  rw [Zji hO (by omega) (by omega)]at f2
  unfold Qbs at f2
  rw [List.map_take]at f2
  have hnn:=Qly hok (i+1)
  have hwk:=Qaj (a:=i) (by omega)
  have k4:(((i+1:Nat):Int)≤(p.length:Int))=True:=eq_true (by omega)
  have k5:=nnT (i+1)
  have hall6:=Qt0 p
  unfold baPV at f2
  by_cases hT:preI (csL l B p) (i+1)≤mxE
  ·rw [if_pos hT]at f2
   have hws:IntKind.i64.wrap (B.cap-preI (csL l B p) (i+1))=B.cap-preI (csL l B p) (i+1):=by unfold mxE at hT;exact Qah (by omega) (by omega)
   by_cases hR:B.cap-preI (csL l B p) (i+1)<B.res
   ·have hR':=eq_true hR
    have hr:rcN (csL l B p) B=i:=Qk9 (by omega) hall (Q00 hR)
    rw [hr]
    generalize preI (csL l B p) (i+1)=P1 at*
    repeat (first|(simp -implicitDefEqProofs only [go_sem,Nat.reduceAdd,Nat.reduceMul,Nat.reduceEqDiff,Nat.reduceLT,Nat.reduceLeDiff,reduceCtorEq,hA',hwk,k4,k5,hall6,hws,hR',Qr9,Int.toNat_natCast,List.length_map])|((with_reducible refine Qab (f2) ?_ ?_ ?_);(with_reducible rfl);rfl)|(with_reducible exact Qaa _ _ (by kernel_rfl))|(with_reducible refine And.intro (Qaa _ _ (by kernel_rfl)) ?_))
   ·have hR':=eq_false hR
    have hall2: ∀j,j<i+1→okE (csL l B p) B (j+1)=true:=fun j hj=>by
     by_cases e:j=i
     ·subst e;exact Qvv hT (by omega)
     ·exact hall j (by omega)
    generalize preI (csL l B p) (i+1)=P1 at*
    repeat (first|(simp -implicitDefEqProofs only [go_sem,Nat.reduceAdd,Nat.reduceMul,Nat.reduceEqDiff,Nat.reduceLT,Nat.reduceLeDiff,reduceCtorEq,hA',hwk,k4,k5,hall6,hws,hR',Qr9,decide_false,Int.toNat_natCast,List.length_map])|((with_reducible refine Qab (f2) ?_ ?_ ?_);(with_reducible rfl);rfl)|(with_reducible exact Qaa _ _ (by kernel_rfl))|(with_reducible refine And.intro (Qaa _ _ (by kernel_rfl)) ?_))
    refine⟨⟨i+1,hA,hall2⟩,by simp only;omega,Qak (θ:=[(0,0)]) rfl ?_ ?_⟩
    ·simp [Qaf,lkp,ren1,ren0,Qap,wsPV]
    ·exact⟨⟨rfl,rfl,rfl,rfl,rfl,.inr ⟨rfl,_,_,rfl,rfl,rfl,rfl⟩⟩,trivial⟩
  ·rw [if_neg hT]at f2
   have hr:rcN (csL l B p) B=i:=Qk9 (by omega) hall (Q0z (by omega))
   rw [hr]
   generalize preI (csL l B p) (i+1)=P1 at*
   repeat (first|(simp -implicitDefEqProofs only [go_sem,Nat.reduceAdd,Nat.reduceMul,Nat.reduceEqDiff,Nat.reduceLT,Nat.reduceLeDiff,reduceCtorEq,hA',hwk,k4,k5,hall6,Zal,Int.toNat_natCast,List.length_map])|((with_reducible refine Qab (f2) ?_ ?_ ?_);(with_reducible rfl);rfl)|(with_reducible exact Qaa _ _ (by kernel_rfl))|(with_reducible refine And.intro (Qaa _ _ (by kernel_rfl)) ?_))
end Go.Proofs.YtciddhkfbgkejaaGreatDoor
