/-
  HI4, HI6, HB8, HB9, HB10, HB11 (merged for the claim).
-/
import Derived.Test.YtciddhkfbgkejaaGreatDoorHI3
import Derived.Test.YtciddhkfbgkejaaGreatDoorDbu
import Derived.Test.YtciddhkfbgkejaaGreatDoorDwi
import Derived.Test.YtciddhkfbgkejaaGreatDoorBy
set_option linter.unusedSimpArgs false
set_option linter.unusedVariables false
namespace Go.Proofs.YtciddhkfbgkejaaGreatDoor
open Go.Vl Go.RowKit Go.Dg
theorem Zs6 (m:Nat):Qe3 Tryz.prog 54 [.int .u64 (m:Int)] [] (.fn 95 [] [.bp 0 1 0 0]) [(0,setB (m:Int))]:=by
 refine Qhb (tb:=[]) 4 [.tmp 2] [0,1,2] mixed Tryz.func54 rfl (by kernel_rfl) (by kernel_rfl) (by kernel_rfl) (by kernel_rfl) (by rfl) ?_
 repeat (first|(simp -implicitDefEqProofs only [go_sem,Nat.reduceAdd,Nat.reduceMul,Nat.reduceEqDiff,Nat.reduceLT,Nat.reduceLeDiff,reduceCtorEq]))
 refine Qdr (.inl rfl) ?_
 simp -implicitDefEqProofs only [go_sem,Nat.reduceEqDiff,reduceCtorEq]
 refine Qak (θ:=[(0,0)]) rfl ?_ ?_
 ·simp [Qaf,lkp,ren1,ren0,Qap]
 ·exact⟨⟨rfl,rfl,rfl,rfl,rfl,.inr ⟨rfl,_,_,rfl,rfl,rfl,rfl⟩⟩,trivial⟩
def SW (g:Wd→Int) (l:List Wd) (m k:Nat):Int:=smW g (pick l ((Qbr m).take k))
theorem Qj8 (g:Wd→Int) (l:List Wd) {m k:Nat} (h:k<(Qbr m).length):SW g l m (k+1)=SW g l m k+g (l.getD ((Qbr m).getD k 0) wd0):=by
 unfold SW
 have e:(Qbr m).take (k+1)=(Qbr m).take k++[(Qbr m).getD k 0]:=by
  rw [List.take_add_one,List.getElem?_eq_getElem h,List.getD_eq_getElem?_getD,List.getElem?_eq_getElem h];rfl
 rw [e]
 unfold pick
 rw [List.map_append,Qog]
 simp [smW]
theorem Qyl {g:Wd→Int} (hg:g=Wd.ux∨g=Wd.uy∨g=Wd.uz) {l:List Wd} {m:Nat} (hv:Qa8 l=true) (hb: ∀i∈Qbr m,i<l.length) (k:Nat): -40000≤SW g l m k∧SW g l m k≤40000:=by
 have h8:(Qbr m).length≤8:=List.length_filter_le _ _
 have h3:=Q2c g 5000 (pick l ((Qbr m).take k)) fun w hw=>by
  have:=Qmd ((Qcy hv).1 w (Zad (fun i hi=>hb i (List.mem_of_mem_take hi)) hw))
  rcases hg with rfl|rfl|rfl<;>omega
 have h4:(pick l ((Qbr m).take k)).length≤8:=by unfold pick;rw [List.length_map,List.length_take];omega
 unfold SW;omega
def suB (l:List Wd) (m k:Nat):List (Nat×Box):=[(1000000,{els:=[wsPV l],esz:=1,ety:=22,fro:=0,live:=true,arr:=false}),(1000001,{els:=[.agg [.int .i64 (SW Wd.ux l m k),.int .i64 (SW Wd.uy l m k),.int .i64 (SW Wd.uz l m k)]],esz:=3,ety:=26,fro:=0,live:=true,arr:=false})]
theorem Zs7 (l:List Wd) (m k:Nat): ∀b∈ [1000000,1000001],(lkp (suB l m k) b).isSome=true:=by simp [suB,lkp]
set_option maxHeartbeats 4000000 in
theorem Zp4 (l:List Wd) (m:Nat) (hm:m<256) (hv:Qa8 l=true) (hb: ∀i∈Qbr m,i<l.length):
  Qad Tryz.prog 55 [.int .u64 (m:Int),wsPV l] (.agg [.int .i64 (smW Wd.ux (pick l (Qbr m))),.int .i64 (smW Wd.uy (pick l (Qbr m))),.int .i64 (smW Wd.uz (pick l (Qbr m)))]):=by
 have hi:=Zs6 m
 have hY:=Zp2 m hm
 have b1:=Qyl (g:=Wd.ux) (.inl rfl) hv hb
 have b2:=Qyl (g:=Wd.uy) (.inr (.inl rfl)) hv hb
 have b3:=Qyl (g:=Wd.uz) (.inr (.inr rfl)) hv hb
 have hlen:(setO m).length=(Qbr m).length:=by simp [setO]
 have hmin:min (setO m).length ((Qbr m).length+1)=(Qbr m).length:=by rw [hlen];omega
 have eS: ∀g:Wd→Int,SW g l m (Qbr m).length=smW g (pick l (Qbr m)):=fun g=>by unfold SW;rw [List.take_length]
 have bl1:Nat.blt 1700 1000000=true:=rfl
 rw [←eS Wd.ux,←eS Wd.uy,←eS Wd.uz]

 refine Qac (tb:=[(101,[],[(0,1700)])]) 34 [.cell 4 26] [0,1,3,4,5,6,8,9] mixed Tryz.func55 rfl (by kernel_rfl) (by kernel_rfl) (by kernel_rfl) (by kernel_rfl) ?_
 repeat (first|(simp -implicitDefEqProofs only [go_sem,Nat.reduceAdd,Nat.reduceMul,Nat.reduceEqDiff,Nat.reduceLT,Nat.reduceLeDiff,reduceCtorEq,bl1])|((with_reducible refine Q9f (hi) ?_ ?_ ?_ ?_);(with_reducible rfl);rfl;rfl)|(with_reducible exact Qaa _ _ (by kernel_rfl))|(with_reducible refine And.intro (Qaa _ _ (by kernel_rfl)) ?_))
 refine Zhn (c0:=1700) mixed hY rfl rfl rfl rfl _ rfl [(1000000,0),(1000001,1)] [1000000,1000001] rfl [(3,.bp 1000000 1 0 0),(4,.bp 1000001 3 0 0)] (suB l m) rfl rfl rfl rfl ?_ ?_ ?_ (Qbr m).length .normal (fun h=>by rw [hlen]at h;omega) (fun k _ _=>Zs7 l m k) ?_ rfl ?_
  [(0,1000000),(1,1000001)] [(3,.bp 0 1 0 0),(4,.bp 1 3 0 0)] [(0,{els:=[wsPV l],esz:=1,ety:=22,fro:=0,live:=true,arr:=false}),(1,{els:=[.agg [.int .i64 (SW Wd.ux l m (Qbr m).length),.int .i64 (SW Wd.uy l m (Qbr m).length),.int .i64 (SW Wd.uz l m (Qbr m).length)]],esz:=3,ety:=26,fro:=0,live:=true,arr:=false})] rfl rfl ?_ ?_ rfl (fun _=> ?_) (fun h=>by rw [hlen]at h;omega)
 ·simp [Qaf,lkp,ren1,ren0,Qap]
 ·simp only [suB]
  exact⟨⟨rfl,rfl,rfl,rfl,rfl,.inr ⟨rfl,_,_,rfl,rfl,rfl,rfl⟩⟩,⟨rfl,rfl,rfl,rfl,rfl,.inr ⟨rfl,_,_,rfl,rfl,rfl,rfl⟩⟩,trivial⟩
 ·simp [Qaf,lkp,ren1,ren0,Qap,Q9m]
 ·intro k args h
  simp only [setO,List.getElem?_map,Option.map_eq_some_iff]at h
  obtain⟨x, -,rfl⟩:=h
  rfl
 ·rintro k args hka hk
  simp only [setO,List.getElem?_map,Option.map_eq_some_iff]at hka
  obtain⟨i,hx,rfl⟩:=hka
  obtain⟨hk2,e⟩:=List.getElem?_eq_some_iff.1 hx
  have hil:i<l.length:=hb i (by rw [←e];exact List.getElem_mem _)
  have hD:(Qbr m).getD k 0=i:=by rw [List.getD_eq_getElem?_getD,hx];rfl
  have s1:=Qj8 Wd.ux l hk2
  have s2:=Qj8 Wd.uy l hk2
  have s3:=Qj8 Wd.uz l hk2
  have hwi:l.getD i wd0=l[i]:=by rw [List.getD_eq_getElem?_getD,List.getElem?_eq_getElem hil];rfl
  rw [hD,hwi]at s1 s2 s3
  have hg:=Qok l i hil
  have n0:=nnT i
  have w1:IntKind.i64.wrap (SW Wd.ux l m k+l[i].ux)=SW Wd.ux l m (k+1):=by rw [←s1];have:=b1 (k+1);exact Qah (by omega) (by omega)
  have w2:IntKind.i64.wrap (SW Wd.uy l m k+l[i].uy)=SW Wd.uy l m (k+1):=by rw [←s2];have:=b2 (k+1);exact Qah (by omega) (by omega)
  have w3:IntKind.i64.wrap (SW Wd.uz l m k+l[i].uz)=SW Wd.uz l m (k+1):=by rw [←s3];have:=b3 (k+1);exact Qah (by omega) (by omega)
  simp only [suB]
  generalize l[i]=w at*
  repeat (first|(simp -implicitDefEqProofs only [go_sem,Nat.reduceAdd,Nat.reduceMul,Nat.reduceEqDiff,Nat.reduceLT,Nat.reduceLeDiff,reduceCtorEq,pvars,List.toList_toArray])|(with_reducible exact Qaa _ _ (by kernel_rfl))|(with_reducible refine And.intro (Qaa _ _ (by kernel_rfl)) ?_))
  refine⟨by simp [lkp],?_⟩
  repeat (first|(simp -implicitDefEqProofs only [go_sem,Nat.reduceAdd,Nat.reduceMul,Nat.reduceEqDiff,Nat.reduceLT,Nat.reduceLeDiff,reduceCtorEq,hg,n0,w1,w2,w3,Int.toNat_natCast,List.length_map])|(with_reducible exact Qaa _ _ (by kernel_rfl))|(with_reducible refine And.intro (Qaa _ _ (by kernel_rfl)) ?_))
  refine⟨by omega,?_⟩
  refine Qak (θ:=[(1000000,1000000),(1000001,1000001)]) rfl ?_ ?_
  ·simp [Qaf,lkp,ren1,ren0,Qap]
  ·simp only [suB]
   exact⟨⟨rfl,rfl,rfl,rfl,rfl,.inr ⟨rfl,_,_,rfl,rfl,rfl,rfl⟩⟩,⟨rfl,rfl,rfl,rfl,rfl,.inr ⟨rfl,_,_,rfl,rfl,rfl,rfl⟩⟩,trivial⟩
 ·simp [Qaf,lkp,ren1,ren0,Qap]
 ·rw [hmin]
  simp only [suB]
  exact⟨⟨rfl,rfl,rfl,rfl,rfl,.inr ⟨rfl,_,_,rfl,rfl,rfl,rfl⟩⟩,⟨rfl,rfl,rfl,rfl,rfl,.inr ⟨rfl,_,_,rfl,rfl,rfl,rfl⟩⟩,trivial⟩
 ·repeat (first|(simp -implicitDefEqProofs only [go_sem,Nat.reduceAdd,Nat.reduceMul,Nat.reduceEqDiff,Nat.reduceLT,Nat.reduceLeDiff,reduceCtorEq])|(with_reducible exact Qaa _ _ (by kernel_rfl))|(with_reducible refine And.intro (Qaa _ _ (by kernel_rfl)) ?_))
theorem Q20 (p:Wd→Bool) {l:List Wd} (h:l.length≤8): ∀i∈Qbr (mask p l),i<l.length:=fun i hi=>by
 rw [Go.Dg.bits_mask p l h]at hi
 have:=Q2a p l 0 i hi;omega
def Qp4 (l:List Wd) (x y z t:Int):PV:= .agg [.int .i64 (atW Wd.ux l x y z t),.int .i64 (atW Wd.uy l x y z t),.int .i64 (atW Wd.uz l x y z t)]
theorem Zj4 (l:List Wd) (x y z t:Int) (hv:Qa8 l=true):Qad Tryz.prog 55 [.int .u64 ((mask (blW x y z t) l:Nat):Int),wsPV l] (Qp4 l x y z t):=by
 have h8:=(Qcy hv).2
 have h:=Zp4 l (mask (blW x y z t) l) (Zac _ h8) hv (Q20 _ h8)
 rw [Go.Dg.bits_mask _ _ h8,Q2b]at h
 exact h
end Go.Proofs.YtciddhkfbgkejaaGreatDoor

namespace Go.Proofs.YtciddhkfbgkejaaGreatDoor
open Go.Vl Go.RowKit Go.Dg
theorem Zj5 (p:Wd→Bool) {l:List Wd} (h:l.length≤8) {k:Nat} (hk:k<(onL p l).length):((onL p l).map (PV.int .i64))[k]? =some (.int .i64 (((Qbr (mask p l)).getD k 0:Nat):Int)):=by
 have e:onL p l=(Qbr (mask p l)).map fun(i:Nat)=>(i:Int):=by unfold onL;rw [Go.Dg.bits_mask p l h]
 rw [e]at hk ⊢
 rw [List.length_map]at hk
 rw [List.getElem?_map,List.getElem?_map,List.getElem?_eq_getElem hk,List.getD_eq_getElem?_getD,List.getElem?_eq_getElem hk];rfl
theorem Zas (p:Wd→Bool) {l:List Wd} (h:l.length≤8):(onL p l).length=(Qbr (mask p l)).length:=by unfold onL;rw [Go.Dg.bits_mask p l h,List.length_map]
set_option maxHeartbeats 4000000 in
theorem Zj6 (l:List Wd) (x y z t:Int) (hv:Qa8 l=true):Qad Tryz.prog 20 [wsPV l,.agg [.int .i64 x,.int .i64 y,.int .i64 z],.int .i64 t] (Qp4 l x y z t):=by
 have h8:=(Qcy hv).2
 have ha:=Q2z l x y z t (by omega)
 have hb:=Q20 (blW x y z t) h8
 have b1:=Qyl (g:=Wd.ux) (.inl rfl) hv hb
 have b2:=Qyl (g:=Wd.uy) (.inr (.inl rfl)) hv hb
 have b3:=Qyl (g:=Wd.uz) (.inr (.inr rfl)) hv hb
 have hlen:=Zas (blW x y z t) h8
 have hget:=fun k h=>Zj5 (blW x y z t) h8 (k:=k) h
 have eS: ∀g:Wd→Int,SW g l (mask (blW x y z t) l) (Qbr (mask (blW x y z t) l)).length=atW g l x y z t:=fun g=>by
  unfold SW atW;rw [List.take_length,Go.Dg.bits_mask _ _ h8,Q2b]
 have hle:(onL (blW x y z t) l).length≤8:=by
  rw [hlen];exact List.length_filter_le _ _
 unfold Qp4
 rw [←eS Wd.ux,←eS Wd.uy,←eS Wd.uz,←hlen]
 clear eS
 generalize onL (blW x y z t) l=O at*
 generalize mask (blW x y z t) l=m at*
 refine Qac (tb:=[]) 48 [.cell 6 26] [0,1,2,4,6,7,8,9,10,18] mixed Tryz.func20 rfl (by kernel_rfl) (by kernel_rfl) (by kernel_rfl) (by kernel_rfl) ?_
 repeat (first|(simp -implicitDefEqProofs only [go_sem,Nat.reduceAdd,Nat.reduceMul,Nat.reduceEqDiff,Nat.reduceLT,Nat.reduceLeDiff,reduceCtorEq])|((with_reducible refine Qab (ha) ?_ ?_ ?_);(with_reducible rfl);rfl)|(with_reducible exact Qaa _ _ (by kernel_rfl))|(with_reducible refine And.intro (Qaa _ _ (by kernel_rfl)) ?_))
 refine Qar mixed (fun k:{k:Nat // k≤O.length}=>St.of [(0,wsPV l),(6,.bp 1 3 0 0),(7,.bp 100 3 0 0),(8,.slc (O.map (PV.int .i64))),(9,.int .i64 (k.1:Int))]
  [(1,{els:=[.agg [.int .i64 0,.int .i64 0,.int .i64 0]],esz:=3,ety:=26,fro:=0,live:=true,arr:=false}),(100,{els:=[.agg [.int .i64 (SW Wd.ux l m k.1),.int .i64 (SW Wd.uy l m k.1),.int .i64 (SW Wd.uz l m k.1)]],esz:=3,ety:=26,fro:=0,live:=true,arr:=false})]) (fun k=>O.length-k.1) ⟨0,Nat.zero_le _⟩ ?_ ?_
 ·refine Qak (θ:=[(1,1),(100,100)]) rfl ?_ ?_
  ·simp [Qaf,lkp,ren1,ren0,Qap,wsPV]
  ·exact⟨⟨rfl,rfl,rfl,rfl,rfl,.inr ⟨rfl,_,_,rfl,rfl,rfl,rfl⟩⟩,⟨rfl,rfl,rfl,rfl,rfl,.inr ⟨rfl,_,_,rfl,rfl,rfl,rfl⟩⟩,trivial⟩
 ·rintro⟨k,hk⟩
  simp only
  by_cases hA:k<O.length
  ·have hA':=ltT hA
   have n0:=nnT k
   have hwk:=Qaj (a:=k) (by omega)
   have hg:=hget k hA
   have hk2:k<(Qbr m).length:=by omega
   have hil:(Qbr m).getD k 0<l.length:=hb _ (by rw [List.getD_eq_getElem?_getD,List.getElem?_eq_getElem hk2];exact List.getElem_mem _)
   have s1:=Qj8 Wd.ux l hk2
   have s2:=Qj8 Wd.uy l hk2
   have s3:=Qj8 Wd.uz l hk2
   generalize (Qbr m).getD k 0=i at*
   have hwi:l.getD i wd0=l[i]:=by rw [List.getD_eq_getElem?_getD,List.getElem?_eq_getElem hil];rfl
   rw [hwi]at s1 s2 s3
   have hgw:=Qok l i hil
   have n1:=nnT i
   have w1:IntKind.i64.wrap (SW Wd.ux l m k+l[i].ux)=SW Wd.ux l m (k+1):=by rw [←s1];have:=b1 (k+1);exact Qah (by omega) (by omega)
   have w2:IntKind.i64.wrap (SW Wd.uy l m k+l[i].uy)=SW Wd.uy l m (k+1):=by rw [←s2];have:=b2 (k+1);exact Qah (by omega) (by omega)
   have w3:IntKind.i64.wrap (SW Wd.uz l m k+l[i].uz)=SW Wd.uz l m (k+1):=by rw [←s3];have:=b3 (k+1);exact Qah (by omega) (by omega)
   clear s1 s2 s3 hwi
   generalize l[i]=w at*
   repeat (first|(simp -implicitDefEqProofs only [go_sem,Nat.reduceAdd,Nat.reduceMul,Nat.reduceEqDiff,Nat.reduceLT,Nat.reduceLeDiff,reduceCtorEq,hA',n0,n1,hwk,hg,hgw,w1,w2,w3,Int.toNat_natCast,List.length_map])|(with_reducible exact Qaa _ _ (by kernel_rfl))|(with_reducible refine And.intro (Qaa _ _ (by kernel_rfl)) ?_))
   refine⟨⟨k+1,hA⟩,by simp only;omega,Qak (θ:=[(1,1),(100,100)]) rfl ?_ ?_⟩
   ·simp [Qaf,lkp,ren1,ren0,Qap,wsPV]
   ·exact⟨⟨rfl,rfl,rfl,rfl,rfl,.inr ⟨rfl,_,_,rfl,rfl,rfl,rfl⟩⟩,⟨rfl,rfl,rfl,rfl,rfl,.inr ⟨rfl,_,_,rfl,rfl,rfl,rfl⟩⟩,trivial⟩
  ·have hA':=ltF hA
   obtain rfl:k=O.length:=by omega
   repeat (first|(simp -implicitDefEqProofs only [go_sem,Nat.reduceAdd,Nat.reduceMul,Nat.reduceEqDiff,Nat.reduceLT,Nat.reduceLeDiff,reduceCtorEq,hA',List.length_map])|(with_reducible exact Qaa _ _ (by kernel_rfl))|(with_reducible refine And.intro (Qaa _ _ (by kernel_rfl)) ?_))
def posS (s:Sg) (i:Nat):Int:=rnd (exQ [s] s.f i) (exO [s] s.f)
def alV (l:List Wd) (s:Sg):PV:=Qp4 l (posS s 0) (posS s 1) (posS s 2) s.f
theorem Qml {s:Sg} (h:Qa2 s=true):Qbn [s]=true:=by
 unfold Qbn vpTo
 simp [vpAt,h,List.range_succ]
theorem Qr4 {s:Sg} (h:Qa2 s=true):lasts [s] s.f=true:=by
 have:=(Qbt h).1
 simp only [lasts,pBeg,pEnd,Bool.and_eq_true,decide_eq_true_eq]
 simp
 omega
theorem Zp5 {s:Sg} (hs:okSg s) (h:Qa2 s=true):Qad Tryz.prog 29 [.slc [sgPV s],.int .i64 s.f] (.tup [.agg [.int .i64 (posS s 0),.int .i64 (posS s 1),.int .i64 (posS s 2)],.int .i64 0]):=by
 have h1:=Zs8 [s] s.f (fun x hx=>by rw [List.mem_singleton.1 hx];exact hs) (by simp) hs.f
 unfold atPV at h1
 rw [if_pos (Qml h),if_pos (Qr4 h)]at h1
 exact h1
theorem Zj7 {s:Sg} (hs:okSg s) (h:Qa2 s=true):Qad Tryz.prog 64 [.slc [sgPV s],.int .i64 s.f] (.agg [.int .i64 (posS s 0),.int .i64 (posS s 1),.int .i64 (posS s 2)]):=
 Zkb [s] s.f (fun x hx=>by rw [List.mem_singleton.1 hx];exact hs) (by simp) hs.f (Qml h) (Qr4 h)
theorem Qwv (p:List Sg) (i:Nat) (h:i<p.length):((p.map sgPV).take (i+1)).drop i=[sgPV p[i]]:=by
 rw [Qb0 _ i (by simpa using h),List.drop_append_of_le_length (by simp;omega),List.drop_eq_nil_of_le (by simp;omega)];simp
theorem Q21 (p:List Sg):((p.map sgPV).all fun x=>x.cells.length==6)=true:=by rw [List.all_map,List.all_eq_true];intro _ _;rfl
theorem Qww (l:List Wd) (T:List Sg):((T.map (alV l)).flatMap PV.cells).all PV.okCell=true:=by
 rw [List.all_eq_true];intro c hc
 simp only [List.mem_flatMap,List.mem_map]at hc
 obtain⟨_,⟨s,_,rfl⟩,h⟩:=hc
 simp only [alV,Qp4,PV.cells,List.mem_cons,List.not_mem_nil,or_false]at h
 rcases h with rfl|rfl|rfl<;>rfl
set_option maxHeartbeats 4000000 in
theorem Zj8 (l:List Wd) (p:List Sg) (hp: ∀s∈p,okSg s) (hl:l.length≤maxLen) (hpl:p.length≤1000000):Qad Tryz.prog 24 [wsPV l,Qbx p] (if Qa8 l=true∧Qbn p=true then .tup [.slc (p.map (alV l)),.int .i64 0]else .tup [.slc [],.int .i64 2]):=by
 have v1:=Qr2 l hl
 have v2:=Qgz p hp hpl
 unfold Qbx at v2 ⊢
 cases hv:Qa8 l with
 |false=>
  rw [hv]at v1
  refine Qac (tb:=[]) 49 [.tmp 4,.tmp 5] [0,1,4,5,6,7,8,9,18,19,20,21,22] mixed Tryz.func24 rfl (by kernel_rfl) (by kernel_rfl) (by kernel_rfl) (by kernel_rfl) ?_
  repeat (first|(simp -implicitDefEqProofs only [go_sem,Nat.reduceAdd,Nat.reduceMul,Nat.reduceEqDiff,Nat.reduceLT,Nat.reduceLeDiff,reduceCtorEq,Bool.not_false,Bool.false_eq_true,false_and])|((with_reducible refine Qab (v1) ?_ ?_ ?_);(with_reducible rfl);rfl)|(with_reducible exact Qaa _ _ (by kernel_rfl))|(with_reducible refine And.intro (Qaa _ _ (by kernel_rfl)) ?_))
 |true=>
 cases hV:Qbn p with
 |false=>
  rw [hv]at v1
  rw [hV]at v2
  refine Qac (tb:=[]) 49 [.tmp 4,.tmp 5] [0,1,4,5,6,7,8,9,18,19,20,21,22] mixed Tryz.func24 rfl (by kernel_rfl) (by kernel_rfl) (by kernel_rfl) (by kernel_rfl) ?_
  repeat (first|(simp -implicitDefEqProofs only [go_sem,Nat.reduceAdd,Nat.reduceMul,Nat.reduceEqDiff,Nat.reduceLT,Nat.reduceLeDiff,reduceCtorEq,Bool.not_false,Bool.not_true,Bool.false_eq_true,and_false])|((with_reducible refine Qab (v1) ?_ ?_ ?_);(with_reducible rfl);rfl)|((with_reducible refine Qab (v2) ?_ ?_ ?_);(with_reducible rfl);rfl)|(with_reducible exact Qaa _ _ (by kernel_rfl))|(with_reducible refine And.intro (Qaa _ _ (by kernel_rfl)) ?_))
 |true=>
  rw [hv]at v1
  rw [hV]at v2
  rw [if_pos ⟨rfl,rfl⟩]
  have h8:=(Qcy hv).2
  refine Qac (tb:=[]) 49 [.tmp 4,.tmp 5] [0,1,4,5,6,7,8,9,18,19,20,21,22] mixed Tryz.func24 rfl (by kernel_rfl) (by kernel_rfl) (by kernel_rfl) (by kernel_rfl) ?_
  repeat (first|(simp -implicitDefEqProofs only [go_sem,Nat.reduceAdd,Nat.reduceMul,Nat.reduceEqDiff,Nat.reduceLT,Nat.reduceLeDiff,reduceCtorEq,Bool.not_true,List.length_map])|((with_reducible refine Qab (v1) ?_ ?_ ?_);(with_reducible rfl);rfl)|((with_reducible refine Qab (v2) ?_ ?_ ?_);(with_reducible rfl);rfl)|(with_reducible exact Qaa _ _ (by kernel_rfl))|(with_reducible refine And.intro (Qaa _ _ (by kernel_rfl)) ?_))
  refine Qar mixed (fun i:{i:Nat // i≤p.length}=>St.of [(0,wsPV l),(1,.slc (p.map sgPV)),(6,.bs 7 3 0 i.1),(19,.slc (p.map sgPV)),(20,.int .i64 (p.length:Int)),(21,.int .i64 (i.1:Int))] [(7,{els:=(p.take i.1).map (alV l),esz:=3,ety:=26,fro:=0,live:=true,arr:=true})]) (fun i=>p.length-i.1) ⟨0,Nat.zero_le _⟩ ?_ ?_
  ·refine Qgf 6 7 3 26 rfl rfl rfl (by decide) [(7,7)] rfl ?_ ?_
   ·simp [Qaf,lkp,ren1,ren0,Qap,wsPV]
   ·exact⟨⟨rfl,rfl,rfl,rfl,rfl,.inl ⟨rfl,rfl⟩⟩,trivial⟩
  ·rintro⟨i,hi⟩
   simp only
   by_cases hA:i<p.length
   ·skip
    have hA':=ltT hA
    have n0:=nnT i
    have hg:=Qc9 p i hA
    have hsl:((p.map sgPV).take (i+1)).drop i=[.agg [.int .i64 p[i].f,.int .i64 p[i].t,.int .i64 p[i].o,.slc (p[i].x.map (PV.int .i64)),.slc (p[i].y.map (PV.int .i64)),.slc (p[i].z.map (PV.int .i64))]]:=Qwv p i hA
    have hs:=hp _ (List.getElem_mem hA)
    have hvs:=Qen hV _ hA
    have f1:=Zp5 hs hvs
    have f2:=Qr3 l (posS p[i] 0) (posS p[i] 1) (posS p[i] 2) p[i].f h8
    have f3:=Zj4 l (posS p[i] 0) (posS p[i] 1) (posS p[i] 2) p[i].f hv
    have hwk:=Qaj (a:=i) (by omega)
    have hsn:(p.take (i+1)).map (alV l)=(p.take i).map (alV l)++[Qp4 l (posS p[i] 0) (posS p[i] 1) (posS p[i] 2) p[i].f]:=by rw [Qb0 p i hA,List.map_append];rfl
    have hln:((p.take i).map (alV l)).length=i:=by simp;omega
    have hok:=Qww l (p.take i)
    have k1:((i+1)*24≤140737488355328)=True:=eq_true (by omega)
    have k2:(i+1≤maxLen)=True:=eq_true (by unfold maxLen;omega)
    have k3:((i:Int)≤((i+1:Nat):Int))=True:=eq_true (by omega)
    have k4:(((i+1:Nat):Int)≤(p.length:Int))=True:=eq_true (by omega)
    have hall:=Q21 p
    generalize hT2:(p.take (i+1)).map (alV l)=T2 at*
    generalize (p.take i).map (alV l)=T at*
    generalize p[i]=s at*
    generalize mask (blW (posS s 0) (posS s 1) (posS s 2) s.f) l=m at*
    unfold Qp4 at f3 hsn
    generalize atW Wd.ux l (posS s 0) (posS s 1) (posS s 2) s.f=u0 at*
    generalize atW Wd.uy l (posS s 0) (posS s 1) (posS s 2) s.f=u1 at*
    generalize atW Wd.uz l (posS s 0) (posS s 1) (posS s 2) s.f=u2 at*
    generalize posS s 0=x0 at*
    generalize posS s 1=x1 at*
    generalize posS s 2=x2 at*
    unfold sgPV Qas at f1
    repeat (first|(simp -implicitDefEqProofs only [go_sem,Nat.reduceAdd,Nat.reduceMul,Nat.reduceEqDiff,Nat.reduceLT,Nat.reduceLeDiff,reduceCtorEq,hA',n0,hg,hsl,hwk,k3,k4,hall,Int.toNat_natCast,List.length_map])|((with_reducible refine Qab (f1) ?_ ?_ ?_);(with_reducible rfl);rfl)|(with_reducible exact Qaa _ _ (by kernel_rfl))|(with_reducible refine And.intro (Qaa _ _ (by kernel_rfl)) ?_))
    repeat (first|(simp -implicitDefEqProofs only [go_sem,Nat.reduceAdd,Nat.reduceMul,Nat.reduceEqDiff,Nat.reduceLT,Nat.reduceLeDiff,reduceIte,reduceCtorEq,Nat.reduceBneDiff,hln,hok,hwk,k1,k2,Int.toNat_natCast,List.length_map])|((with_reducible refine Qab (f2) ?_ ?_ ?_);(with_reducible rfl);rfl)|((with_reducible refine Qab (f3) ?_ ?_ ?_);(with_reducible rfl);rfl)|(with_reducible exact Qaa _ _ (by kernel_rfl))|(with_reducible refine And.intro (Qaa _ _ (by kernel_rfl)) ?_))
    refine⟨⟨i+1,hA⟩,by simp only;omega,Qak (θ:=[(7,809)]) rfl ?_ ?_⟩
    ·simp [Qaf,lkp,ren1,ren0,Qap,wsPV]
    ·simp only [hT2,hsn]
     exact⟨⟨rfl,rfl,rfl,rfl,rfl,.inl ⟨rfl,rfl⟩⟩,trivial⟩
   ·have hA':=ltF hA
    obtain rfl:i=p.length:=by omega
    have ht:p.take p.length=p:=List.take_length
    have ht2:(p.map (alV l)).take p.length=p.map (alV l):=List.take_of_length_le (by simp)
    have hok:=Qww l p
    rw [ht]
    have hln:(p.map (alV l)).length=p.length:=by simp
    generalize p.map (alV l)=T at*
    repeat (first|(simp -implicitDefEqProofs only [go_sem,Nat.reduceAdd,Nat.reduceMul,Nat.reduceEqDiff,Nat.reduceLT,Nat.reduceLeDiff,reduceIte,reduceCtorEq,hA',ht2,hok,hln,List.length_map])|(with_reducible exact Qaa _ _ (by kernel_rfl))|(with_reducible refine And.intro (Qaa _ _ (by kernel_rfl)) ?_))
set_option maxHeartbeats 4000000 in
theorem Zat (l:List Wd) (p:List Sg) (hp: ∀s∈p,okSg s) (hpl:p.length≤1000000) (hv:Qa8 l=true) (hV:Qbn p=true):Qad Tryz.prog 27 [wsPV l,Qbx p] (.slc (p.map (alV l))):=by
 have h8:=(Qcy hv).2
 unfold Qbx
 refine Qac (tb:=[]) 35 [.tmp 4] [0,1,4,5,6,10] mixed Tryz.func27 rfl (by kernel_rfl) (by kernel_rfl) (by kernel_rfl) (by kernel_rfl) ?_
 repeat (first|(simp -implicitDefEqProofs only [go_sem,Nat.reduceAdd,Nat.reduceMul,Nat.reduceEqDiff,Nat.reduceLT,Nat.reduceLeDiff,reduceCtorEq])|(with_reducible exact Qaa _ _ (by kernel_rfl))|(with_reducible refine And.intro (Qaa _ _ (by kernel_rfl)) ?_))
 refine Qar mixed (fun i:{i:Nat // i≤p.length}=>St.of [(0,wsPV l),(1,.slc (p.map sgPV)),(5,.bs 7 3 0 i.1),(6,.int .i64 (i.1:Int))] [(7,{els:=(p.take i.1).map (alV l),esz:=3,ety:=26,fro:=0,live:=true,arr:=true})]) (fun i=>p.length-i.1) ⟨0,Nat.zero_le _⟩ ?_ ?_
 ·refine Qgf 5 7 3 26 rfl rfl rfl (by decide) [(7,7)] rfl ?_ ?_
  ·simp [Qaf,lkp,ren1,ren0,Qap,wsPV]
  ·exact⟨⟨rfl,rfl,rfl,rfl,rfl,.inl ⟨rfl,rfl⟩⟩,trivial⟩
 ·rintro⟨i,hi⟩
  simp only
  by_cases hA:i<p.length
  ·skip
   have hA':=ltT hA
   have n0:=nnT i
   have hg:=Qc9 p i hA
   have hsl:((p.map sgPV).take (i+1)).drop i=[.agg [.int .i64 p[i].f,.int .i64 p[i].t,.int .i64 p[i].o,.slc (p[i].x.map (PV.int .i64)),.slc (p[i].y.map (PV.int .i64)),.slc (p[i].z.map (PV.int .i64))]]:=Qwv p i hA
   have hs:=hp _ (List.getElem_mem hA)
   have hvs:=Qen hV _ hA
   have f1:=Zj7 hs hvs
   have f2:=Qr3 l (posS p[i] 0) (posS p[i] 1) (posS p[i] 2) p[i].f h8
   have f3:=Zj6 l (posS p[i] 0) (posS p[i] 1) (posS p[i] 2) p[i].f hv
   have hwk:=Qaj (a:=i) (by omega)
   have hsn:(p.take (i+1)).map (alV l)=(p.take i).map (alV l)++[Qp4 l (posS p[i] 0) (posS p[i] 1) (posS p[i] 2) p[i].f]:=by rw [Qb0 p i hA,List.map_append];rfl
   have hln:((p.take i).map (alV l)).length=i:=by simp;omega
   have hok:=Qww l (p.take i)
   have k1:((i+1)*24≤140737488355328)=True:=eq_true (by omega)
   have k2:(i+1≤maxLen)=True:=eq_true (by unfold maxLen;omega)
   have k3:((i:Int)≤((i+1:Nat):Int))=True:=eq_true (by omega)
   have k4:(((i+1:Nat):Int)≤(p.length:Int))=True:=eq_true (by omega)
   have hall:=Q21 p
   generalize hT2:(p.take (i+1)).map (alV l)=T2 at*
   generalize (p.take i).map (alV l)=T at*
   generalize p[i]=s at*
   generalize mask (blW (posS s 0) (posS s 1) (posS s 2) s.f) l=m at*
   unfold Qp4 at f3 hsn
   generalize atW Wd.ux l (posS s 0) (posS s 1) (posS s 2) s.f=u0 at*
   generalize atW Wd.uy l (posS s 0) (posS s 1) (posS s 2) s.f=u1 at*
   generalize atW Wd.uz l (posS s 0) (posS s 1) (posS s 2) s.f=u2 at*
   generalize posS s 0=x0 at*
   generalize posS s 1=x1 at*
   generalize posS s 2=x2 at*
   unfold sgPV Qas at f1
   repeat (first|(simp -implicitDefEqProofs only [go_sem,Nat.reduceAdd,Nat.reduceMul,Nat.reduceEqDiff,Nat.reduceLT,Nat.reduceLeDiff,reduceIte,reduceCtorEq,Nat.reduceBneDiff,hA',n0,hg,hsl,hwk,k3,k4,hall,hln,hok,k1,k2,Int.toNat_natCast,List.length_map])|((with_reducible refine Qab (f1) ?_ ?_ ?_);(with_reducible rfl);rfl)|((with_reducible refine Qab (f3) ?_ ?_ ?_);(with_reducible rfl);rfl)|(with_reducible exact Qaa _ _ (by kernel_rfl))|(with_reducible refine And.intro (Qaa _ _ (by kernel_rfl)) ?_))
   refine⟨⟨i+1,hA⟩,by simp only;omega,Qak (θ:=[(7,520)]) rfl ?_ ?_⟩
   ·simp [Qaf,lkp,ren1,ren0,Qap,wsPV]
   ·simp only [hT2,hsn]
    exact⟨⟨rfl,rfl,rfl,rfl,rfl,.inl ⟨rfl,rfl⟩⟩,trivial⟩
  ·have hA':=ltF hA
   obtain rfl:i=p.length:=by omega
   have ht:p.take p.length=p:=List.take_length
   have ht2:(p.map (alV l)).take p.length=p.map (alV l):=List.take_of_length_le (by simp)
   have hok:=Qww l p
   rw [ht]
   have hln:(p.map (alV l)).length=p.length:=by simp
   generalize p.map (alV l)=T at*
   repeat (first|(simp -implicitDefEqProofs only [go_sem,Nat.reduceAdd,Nat.reduceMul,Nat.reduceEqDiff,Nat.reduceLT,Nat.reduceLeDiff,reduceIte,reduceCtorEq,hA',ht2,hok,hln,List.length_map])|(with_reducible exact Qaa _ _ (by kernel_rfl))|(with_reducible refine And.intro (Qaa _ _ (by kernel_rfl)) ?_))
end Go.Proofs.YtciddhkfbgkejaaGreatDoor

namespace Go.Proofs.YtciddhkfbgkejaaGreatDoor
open Go.Vl Go.RowKit Go.Dg
def cstW (l:List Wd) (B:Bat) (s:Sg):Int:=Qex s B (atW Wd.ux l (posS s 0) (posS s 1) (posS s 2) s.f) (atW Wd.uy l (posS s 0) (posS s 1) (posS s 2) s.f) (atW Wd.uz l (posS s 0) (posS s 1) (posS s 2) s.f)
def csL (l:List Wd) (B:Bat) (p:List Sg):List Int:=p.map (cstW l B)
theorem Qt8 (l:List Wd) (B:Bat) (p:List Sg):(csL l B p).length=p.length:=by simp [csL]
theorem Q2q (l:List Wd) (B:Bat) (p:List Sg) {i:Nat} (h:i<p.length):(csL l B p).getD i 0=cstW l B p[i]:=by simp [csL,h]
theorem Zpx {s:Sg} (hv:Qa2 s=true) {B:Bat} (hB:Qat B=true) {l:List Wd} (hw:Qa8 l=true):0≤cstW l B s∧cstW l B s≤400000000000000000:=by
 obtain⟨⟨v1,v2,v3,v4,v5⟩,hax, -⟩:=Qbt hv
 exact Qpb (by unfold rngS;simp only [Bool.and_eq_true,decide_eq_true_eq];omega) (hax s.x (by simp [Sg.ax])) (hax s.y (by simp [Sg.ax])) (hax s.z (by simp [Sg.ax])) hB (Qit (.inl rfl) hw _ _ _ _) (Qit (.inr (.inl rfl)) hw _ _ _ _) (Qit (.inr (.inr rfl)) hw _ _ _ _)
theorem Qrz {p:List Sg} (hV:Qbn p=true) {B:Bat} (hB:Qat B=true) {l:List Wd} (hw:Qa8 l=true):okC (csL l B p):=by
 intro c hc
 obtain⟨s,hs,rfl⟩:=List.mem_map.1 hc
 obtain⟨i,hi,rfl⟩:=List.mem_iff_getElem.1 hs
 exact Zpx (Qen hV i hi) hB hw
theorem Zh4 (l:List Wd) (p:List Sg) {i:Nat} (h:i<p.length):(p.map (alV l))[i]? =some (.agg [.int .i64 (atW Wd.ux l (posS p[i] 0) (posS p[i] 1) (posS p[i] 2) p[i].f),.int .i64 (atW Wd.uy l (posS p[i] 0) (posS p[i] 1) (posS p[i] 2) p[i].f),.int .i64 (atW Wd.uz l (posS p[i] 0) (posS p[i] 1) (posS p[i] 2) p[i].f)]):=by
 rw [List.getElem?_map,List.getElem?_eq_getElem h];rfl
def Qhw (p:List Sg) (B:Bat) (l:List Wd):Bool:=Qbn p&&(Qat B&&Qa8 l)
set_option maxHeartbeats 8000000 in
theorem Zj0 (p:List Sg) (B:Bat) (l:List Wd) (hp: ∀s∈p,okSg s) (hl:l.length≤maxLen) (hpl:p.length≤1000000):
  Qad Tryz.prog 81 [Qbx p,baPV B,wsPV l] (if Qhw p B l=true then .tup [.slc ((smL (csL l B p) (cutE (csL l B p))).map (PV.int .i64)),.int .i64 0]else .tup [.slc [],.int .i64 2]):=by
 have v1:=Qgz p hp hpl
 have v2:=Qwq B
 have v3:=Qr2 l hl
 have f1:=Zj8 l p hp hl hpl
 unfold Qhw
 unfold Qbx at v1 f1 ⊢
 cases hV:Qbn p with
 |false=>
  rw [hV]at v1
  unfold baPV at v2 ⊢
  refine Qac (tb:=[]) 67 [.tmp 6,.tmp 7] [0,1,2,4,6,7,8,10,11,12,13,14,15,28,35,36,37,38,60] mixed Tryz.func81 rfl (by kernel_rfl) (by kernel_rfl) (by kernel_rfl) (by kernel_rfl) ?_
  repeat (first|(simp -implicitDefEqProofs only [go_sem,Nat.reduceAdd,Nat.reduceMul,Nat.reduceEqDiff,Nat.reduceLT,Nat.reduceLeDiff,reduceCtorEq,Bool.not_false,Bool.false_eq_true,Bool.false_and])|((with_reducible refine Qab (v1) ?_ ?_ ?_);(with_reducible rfl);rfl)|(with_reducible exact Qaa _ _ (by kernel_rfl))|(with_reducible refine And.intro (Qaa _ _ (by kernel_rfl)) ?_))
 |true=>
 rw [hV]at v1
 cases hB:Qat B with
 |false=>
  rw [hB]at v2
  unfold baPV at v2 ⊢
  refine Qac (tb:=[]) 67 [.tmp 6,.tmp 7] [0,1,2,4,6,7,8,10,11,12,13,14,15,28,35,36,37,38,60] mixed Tryz.func81 rfl (by kernel_rfl) (by kernel_rfl) (by kernel_rfl) (by kernel_rfl) ?_
  repeat (first|(simp -implicitDefEqProofs only [go_sem,Nat.reduceAdd,Nat.reduceMul,Nat.reduceEqDiff,Nat.reduceLT,Nat.reduceLeDiff,reduceCtorEq,Bool.not_false,Bool.not_true,Bool.false_eq_true,Bool.false_and,Bool.true_and])|((with_reducible refine Qab (v1) ?_ ?_ ?_);(with_reducible rfl);rfl)|((with_reducible refine Qab (v2) ?_ ?_ ?_);(with_reducible rfl);rfl)|(with_reducible exact Qaa _ _ (by kernel_rfl))|(with_reducible refine And.intro (Qaa _ _ (by kernel_rfl)) ?_))
 |true=>
 rw [hB]at v2
 cases hw:Qa8 l with
 |false=>
  rw [hw]at v3
  unfold baPV at v2 ⊢
  refine Qac (tb:=[]) 67 [.tmp 6,.tmp 7] [0,1,2,4,6,7,8,10,11,12,13,14,15,28,35,36,37,38,60] mixed Tryz.func81 rfl (by kernel_rfl) (by kernel_rfl) (by kernel_rfl) (by kernel_rfl) ?_
  repeat (first|(simp -implicitDefEqProofs only [go_sem,Nat.reduceAdd,Nat.reduceMul,Nat.reduceEqDiff,Nat.reduceLT,Nat.reduceLeDiff,reduceCtorEq,Bool.not_false,Bool.not_true,Bool.false_eq_true,Bool.and_false,Bool.true_and])|((with_reducible refine Qab (v1) ?_ ?_ ?_);(with_reducible rfl);rfl)|((with_reducible refine Qab (v2) ?_ ?_ ?_);(with_reducible rfl);rfl)|((with_reducible refine Qab (v3) ?_ ?_ ?_);(with_reducible rfl);rfl)|(with_reducible exact Qaa _ _ (by kernel_rfl))|(with_reducible refine And.intro (Qaa _ _ (by kernel_rfl)) ?_))
 |true=>
 rw [hw]at v3
 rw [if_pos ⟨hw,hV⟩]at f1
 rw [if_pos (show(true&&(true&&true))=true from rfl)]
 have hok:=Qrz hV hB hw
 have hcl:=Qt8 l B p
 have hpV:=Qcx hV
 unfold baPV at v2 ⊢
 refine Qac (tb:=[]) 67 [.tmp 6,.tmp 7] [0,1,2,4,6,7,8,10,11,12,13,14,15,28,35,36,37,38,60] mixed Tryz.func81 rfl (by kernel_rfl) (by kernel_rfl) (by kernel_rfl) (by kernel_rfl) ?_
 repeat (first|(simp -implicitDefEqProofs only [go_sem,Nat.reduceAdd,Nat.reduceMul,Nat.reduceEqDiff,Nat.reduceLT,Nat.reduceLeDiff,reduceCtorEq,Bool.not_true,List.length_map])|((with_reducible refine Qab (v1) ?_ ?_ ?_);(with_reducible rfl);rfl)|((with_reducible refine Qab (v2) ?_ ?_ ?_);(with_reducible rfl);rfl)|((with_reducible refine Qab (v3) ?_ ?_ ?_);(with_reducible rfl);rfl)|((with_reducible refine Qab (f1) ?_ ?_ ?_);(with_reducible rfl);rfl)|(with_reducible exact Qaa _ _ (by kernel_rfl))|(with_reducible refine And.intro (Qaa _ _ (by kernel_rfl)) ?_))
 refine Qar mixed (fun i:{i:Nat // i≤p.length∧ ∀j,j<i→preI (csL l B p) (j+1)≤mxE}=>St.of [(4,.bp 0 5 0 0),(8,.slc (p.map (alV l))),(10,.bs 7 1 0 i.1),(11,.int .i64 (preI (csL l B p) i.1)),(35,.slc (p.map sgPV)),(36,.int .i64 (p.length:Int)),(37,.int .i64 (i.1:Int))]
  [(0,{els:=[baPV B],esz:=5,ety:=59,fro:=0,live:=true,arr:=false}),(7,iB1 (smL (csL l B p) i.1))]) (fun i=>p.length-i.1) ⟨0,Nat.zero_le _,fun j hj=>by omega⟩ ?_ ?_
 ·refine Qgf 10 7 1 3 rfl rfl rfl (by decide) [(0,0),(7,7)] rfl ?_ ?_
  ·simp [Qaf,lkp,ren1,ren0,Qap]
   rfl
  ·exact⟨⟨rfl,rfl,rfl,rfl,rfl,.inr ⟨rfl,_,_,rfl,rfl,rfl,rfl⟩⟩,⟨rfl,rfl,rfl,rfl,rfl,.inl ⟨rfl,rfl⟩⟩,trivial⟩
 rintro⟨i,hi,hall⟩
 simp only
 by_cases hA:i<p.length
 case neg=>
  have hA':=ltF hA
  obtain rfl:i=p.length:=by omega
  have hce:cutE (csL l B p)=p.length:=by rw [Qv6 (by rw [hcl];exact hall),hcl]
  rw [hce]
  have hsm:(smL (csL l B p) p.length).length=p.length:=Qe6 _ _
  have ht:((smL (csL l B p) p.length).map (PV.int .i64)).take p.length=(smL (csL l B p) p.length).map (PV.int .i64):=List.take_of_length_le (by simp [Qe6])
  have hk:=Qj7 (smL (csL l B p) p.length)
  generalize smL (csL l B p) p.length=SM at*
  repeat (first|(simp -implicitDefEqProofs only [go_sem,Nat.reduceAdd,Nat.reduceMul,Nat.reduceEqDiff,Nat.reduceLT,Nat.reduceLeDiff,reduceIte,reduceCtorEq,hA',hsm,ht,hk,List.length_map])|(with_reducible exact Qaa _ _ (by kernel_rfl))|(with_reducible refine And.intro (Qaa _ _ (by kernel_rfl)) ?_))
 have hA':=ltT hA
 have n0:=nnT i
 have hg:=Qc9 p i hA
 have hga:=Zh4 l p hA
 have hvs:=Qen hV _ hA
 have f2:=Q2p p[i] B _ _ _ (hp _ (List.getElem_mem hA)) hvs hB (Qit (.inl rfl) hw (posS p[i] 0) (posS p[i] 1) (posS p[i] 2) p[i].f) (Qit (.inr (.inl rfl)) hw (posS p[i] 0) (posS p[i] 1) (posS p[i] 2) p[i].f) (Qit (.inr (.inr rfl)) hw (posS p[i] 0) (posS p[i] 1) (posS p[i] 2) p[i].f)
 have hcw:Qex p[i] B (atW Wd.ux l (posS p[i] 0) (posS p[i] 1) (posS p[i] 2) p[i].f) (atW Wd.uy l (posS p[i] 0) (posS p[i] 1) (posS p[i] 2) p[i].f) (atW Wd.uz l (posS p[i] 0) (posS p[i] 1) (posS p[i] 2) p[i].f)=(csL l B p).getD i 0:=(Q2q l B p hA).symm
 rw [hcw]at f2
 have hbd:=Qtr hok i
 have hpre:=Qio (csL l B p) i
 have hnn:=Qo9 hok i
 have hle:preI (csL l B p) i≤mxE:=by
  cases i with
  |zero=>exact(by decide:(0:Int)≤mxE)
  |succ i=>exact hall i (by omega)
 have hwk:=Qaj (a:=i) (by omega)
 have hws:IntKind.i64.wrap (preI (csL l B p) i+(csL l B p).getD i 0)=preI (csL l B p) (i+1):=by rw [←hpre];unfold mxE at hle;exact Qah (by omega) (by omega)
 clear hcw
 generalize atW Wd.ux l (posS p[i] 0) (posS p[i] 1) (posS p[i] 2) p[i].f=w0 at*
 generalize atW Wd.uy l (posS p[i] 0) (posS p[i] 1) (posS p[i] 2) p[i].f=w1 at*
 generalize atW Wd.uz l (posS p[i] 0) (posS p[i] 1) (posS p[i] 2) p[i].f=w2 at*
 generalize p[i]=s at*
 unfold sgPV Qas baPV at f2
 by_cases hC:(csL l B p).getD i 0≤1125899906842624
 ·rw [decide_eq_true hC]at f2
  by_cases hS:1125899906842624<preI (csL l B p) (i+1)
  ·have hS':=eq_true hS
   have hce:cutE (csL l B p)=i:=Qrg (by omega) hall hS
   have hsm:(smL (csL l B p) i).length=i:=Qe6 _ _
   have ht:((smL (csL l B p) i).map (PV.int .i64)).take i=(smL (csL l B p) i).map (PV.int .i64):=List.take_of_length_le (by simp [Qe6])
   have hk:=Qj7 (smL (csL l B p) i)
   rw [hce]
   generalize smL (csL l B p) i=SM at*
   generalize preI (csL l B p) (i+1)=P1 at*
   generalize preI (csL l B p) i=P0 at*
   generalize (csL l B p).getD i 0=C at*
   repeat (first|(simp -implicitDefEqProofs only [go_sem,Nat.reduceAdd,Nat.reduceMul,Nat.reduceEqDiff,Nat.reduceLT,Nat.reduceLeDiff,reduceIte,reduceCtorEq,hA',n0,hg,hga,hws,hS',hsm,ht,hk,Bool.not_true,decide_true,Int.toNat_natCast,List.length_map])|((with_reducible refine Qab (f2) ?_ ?_ ?_);(with_reducible rfl);rfl)|(with_reducible exact Qaa _ _ (by kernel_rfl))|(with_reducible refine And.intro (Qaa _ _ (by kernel_rfl)) ?_))
  ·have hS':=eq_false hS
   have hsn:=Q9q (csL l B p) i
   have hsm:(smL (csL l B p) i).length=i:=Qe6 _ _
   have hk:=Qj7 (smL (csL l B p) i)
   have k1:((i+1)*8≤140737488355328)=True:=eq_true (by omega)
   have k2:(i+1≤maxLen)=True:=eq_true (by unfold maxLen;omega)
   have hall2: ∀j,j<i+1→preI (csL l B p) (j+1)≤mxE:=fun j hj=>by
    by_cases e:j=i
    ·subst e;unfold mxE;omega
    ·exact hall j (by omega)
   generalize hSM2:smL (csL l B p) (i+1)=SM2 at*
   generalize smL (csL l B p) i=SM at*
   generalize hP1:preI (csL l B p) (i+1)=P1 at*
   generalize preI (csL l B p) i=P0 at*
   generalize (csL l B p).getD i 0=C at*
   repeat (first|(simp -implicitDefEqProofs only [go_sem,Nat.reduceAdd,Nat.reduceMul,Nat.reduceEqDiff,Nat.reduceLT,Nat.reduceLeDiff,reduceIte,reduceCtorEq,Nat.reduceBneDiff,hA',n0,hg,hga,hws,hwk,hS',hsm,hk,k1,k2,Bool.not_true,decide_false,Int.toNat_natCast,List.length_map])|((with_reducible refine Qab (f2) ?_ ?_ ?_);(with_reducible rfl);rfl)|(with_reducible exact Qaa _ _ (by kernel_rfl))|(with_reducible refine And.intro (Qaa _ _ (by kernel_rfl)) ?_))
   refine⟨⟨i+1,hA,hall2⟩,by simp only;omega,Qak (θ:=[(0,0),(7,1203)]) rfl ?_ ?_⟩
   ·simp only [hP1]
    simp [Qaf,lkp,ren1,ren0,Qap]
   ·simp only [hSM2,hsn]
    refine⟨⟨rfl,rfl,rfl,rfl,rfl,.inr ⟨rfl,_,_,rfl,rfl,rfl,rfl⟩⟩,⟨rfl,rfl,rfl,rfl,rfl,.inl ⟨rfl,?_⟩⟩,trivial⟩
    simp
 ·rw [decide_eq_false hC]at f2
  have hS:mxE<preI (csL l B p) (i+1):=by unfold mxE;omega
  have hce:cutE (csL l B p)=i:=Qrg (by omega) hall hS
  have hsm:(smL (csL l B p) i).length=i:=Qe6 _ _
  have ht:((smL (csL l B p) i).map (PV.int .i64)).take i=(smL (csL l B p) i).map (PV.int .i64):=List.take_of_length_le (by simp [Qe6])
  have hk:=Qj7 (smL (csL l B p) i)
  rw [hce]
  generalize smL (csL l B p) i=SM at*
  generalize preI (csL l B p) (i+1)=P1 at*
  generalize preI (csL l B p) i=P0 at*
  generalize (csL l B p).getD i 0=C at*
  repeat (first|(simp -implicitDefEqProofs only [go_sem,Nat.reduceAdd,Nat.reduceMul,Nat.reduceEqDiff,Nat.reduceLT,Nat.reduceLeDiff,reduceIte,reduceCtorEq,hA',n0,hg,hga,hws,hsm,ht,hk,Bool.not_false,Int.toNat_natCast,List.length_map])|((with_reducible refine Qab (f2) ?_ ?_ ?_);(with_reducible rfl);rfl)|(with_reducible exact Qaa _ _ (by kernel_rfl))|(with_reducible refine And.intro (Qaa _ _ (by kernel_rfl)) ?_))
end Go.Proofs.YtciddhkfbgkejaaGreatDoor

namespace Go.Proofs.YtciddhkfbgkejaaGreatDoor
open Go.Vl Go.RowKit Go.Dg
def totE (l:List Wd) (B:Bat) (p:List Sg):Int:=preI (csL l B p) p.length
def enPV (l:List Wd) (B:Bat) (p:List Sg):PV:=if Qhw p B l=true then(if totE l B p≤mxE then .tup [.int .i64 (totE l B p),.int .i64 0]else .tup [.int .i64 0,.int .i64 7])else .tup [.int .i64 0,.int .i64 2]
def lePV (l:List Wd) (B:Bat) (p:List Sg):PV:=if Qhw p B l=true then(if totE l B p≤mxE then .tup [.int .i64 (B.cap-totE l B p),.int .i64 0]else .tup [.int .i64 0,.int .i64 7])else .tup [.int .i64 0,.int .i64 2]
def ehPV (l:List Wd) (B:Bat) (p:List Sg):PV:=if Qhw p B l=true then(if totE l B p≤mxE then .tup [.bool (decide (B.res≤B.cap-totE l B p)),.int .i64 0]else .tup [.bool false,.int .i64 7])else .tup [.bool false,.int .i64 2]
theorem Qfy {p:List Sg} {B:Bat} {l:List Wd} (h:Qhw p B l=true):Qbn p=true∧Qat B=true∧Qa8 l=true:=by
 simpa only [Qhw,Bool.and_eq_true]using h
theorem Zpy {cs:List Int} {k i:Nat} (h:i<k):((smL cs k).map (PV.int .i64))[i]? =some (.int .i64 (preI cs (i+1))):=by
 rw [List.getElem?_map,List.getElem?_eq_getElem (by rw [Qe6];exact h)]
 have:=Ziu (cs:=cs) h
 rw [List.getD_eq_getElem?_getD,List.getElem?_eq_getElem (by rw [Qe6];exact h)]at this
 simp only [Option.getD_some]at this
 rw [Option.map_some,this]
set_option maxHeartbeats 4000000 in
theorem Qr0 (p:List Sg) (B:Bat) (l:List Wd) (hp: ∀s∈p,okSg s) (hl:l.length≤maxLen) (hpl:p.length≤1000000):Qad Tryz.prog 35 [Qbx p,baPV B,wsPV l] (enPV l B p):=by
 have h:=Zj0 p B l hp hl hpl
 unfold enPV
 unfold Qbx baPV at h ⊢
 cases hO:Qhw p B l with
 |false=>
  rw [hO]at h
  refine Qac (tb:=[]) 33 [.tmp 6,.tmp 7] [0,1,2,4,6,7,8,9,17,21] mixed Tryz.func35 rfl (by kernel_rfl) (by kernel_rfl) (by kernel_rfl) (by kernel_rfl) ?_
  repeat (first|(simp -implicitDefEqProofs only [go_sem,Nat.reduceAdd,Nat.reduceMul,Nat.reduceEqDiff,Nat.reduceLT,Nat.reduceLeDiff,reduceCtorEq,Zay,Bool.false_eq_true])|((with_reducible refine Qab (h) ?_ ?_ ?_);(with_reducible rfl);rfl))
 |true=>
  rw [hO]at h
  simp only [if_true]at h ⊢
  obtain⟨hV,hB,hw⟩:=Qfy hO
  have hok:=Qrz hV hB hw
  have hcl:=Qt8 l B p
  obtain⟨-,l1,l2⟩:=Qcx hV
  obtain⟨c1,c2⟩:=Q09 hok (by omega)
  rw [hcl]at c1 c2
  have hsl:=Qe6 (csL l B p) (cutE (csL l B p))
  unfold totE
  by_cases hT:preI (csL l B p) p.length≤mxE
  ·have hce:=c1 hT
   rw [hce]at h hsl
   rw [if_pos hT]
   have lt:((p.length:Int)<(p.length:Int))=False:=eq_false (Int.lt_irrefl _)
   have wl:=Qhj (n:=p.length) (by omega) (by omega)
   have n1:=nnT (p.length-1)
   have hg:=Zpy (cs:=csL l B p) (show p.length-1<p.length by omega)
   rw [Nat.sub_add_cancel l1]at hg
   generalize preI (csL l B p) p.length=T at*
   generalize smL (csL l B p) p.length=SM at*
   refine Qac (tb:=[]) 33 [.tmp 6,.tmp 7] [0,1,2,4,6,7,8,9,17,21] mixed Tryz.func35 rfl (by kernel_rfl) (by kernel_rfl) (by kernel_rfl) (by kernel_rfl) ?_
   repeat (first|(simp -implicitDefEqProofs only [go_sem,Nat.reduceAdd,Nat.reduceMul,Nat.reduceEqDiff,Nat.reduceLT,Nat.reduceLeDiff,reduceCtorEq,Qud,hsl,lt,wl,n1,hg,Int.toNat_natCast,List.length_map])|((with_reducible refine Qab (h) ?_ ?_ ?_);(with_reducible rfl);rfl))
  ·have hce:=c2 (by omega)
   rw [if_neg hT]
   have lt:((cutE (csL l B p):Int)<(p.length:Int))=True:=eq_true (by omega)
   generalize cutE (csL l B p)=K at*
   generalize smL (csL l B p) K=SM at*
   refine Qac (tb:=[]) 33 [.tmp 6,.tmp 7] [0,1,2,4,6,7,8,9,17,21] mixed Tryz.func35 rfl (by kernel_rfl) (by kernel_rfl) (by kernel_rfl) (by kernel_rfl) ?_
   repeat (first|(simp -implicitDefEqProofs only [go_sem,Nat.reduceAdd,Nat.reduceMul,Nat.reduceEqDiff,Nat.reduceLT,Nat.reduceLeDiff,reduceCtorEq,Qud,hsl,lt,List.length_map])|((with_reducible refine Qab (h) ?_ ?_ ?_);(with_reducible rfl);rfl))
set_option maxHeartbeats 4000000 in
theorem Q2r (p:List Sg) (B:Bat) (l:List Wd) (hp: ∀s∈p,okSg s) (hl:l.length≤maxLen) (hpl:p.length≤1000000):Qad Tryz.prog 36 [Qbx p,baPV B,wsPV l] (lePV l B p):=by
 have h:=Qr0 p B l hp hl hpl
 unfold enPV at h
 unfold lePV
 unfold Qbx baPV at h ⊢
 cases hO:Qhw p B l with
 |false=>
  rw [hO]at h
  simp only [Bool.false_eq_true,if_false]at h ⊢
  refine Qac (tb:=[]) 24 [.tmp 6,.tmp 7] [0,1,2,4,6,7,8,9,18] mixed Tryz.func36 rfl (by kernel_rfl) (by kernel_rfl) (by kernel_rfl) (by kernel_rfl) ?_
  repeat (first|(simp -implicitDefEqProofs only [go_sem,Nat.reduceAdd,Nat.reduceMul,Nat.reduceEqDiff,Nat.reduceLT,Nat.reduceLeDiff,reduceCtorEq,Zay])|((with_reducible refine Qab (h) ?_ ?_ ?_);(with_reducible rfl);rfl))
 |true=>
  rw [hO]at h
  simp only [if_true]at h ⊢
  obtain⟨hV,hB,hw⟩:=Qfy hO
  have hnn:=Qo9 (Qrz hV hB hw) p.length
  obtain⟨-, -, -,b1,b2,b3⟩:=Qcq hB
  have e:preI (csL l B p) p.length=totE l B p:=rfl
  rw [e]at hnn
  by_cases hT:totE l B p≤mxE
  ·rw [if_pos hT]at h ⊢
   unfold mxE at hT
   have hw1:IntKind.i64.wrap (B.cap-totE l B p)=B.cap-totE l B p:=Qah (by omega) (by omega)
   generalize totE l B p=T at*
   refine Qac (tb:=[]) 24 [.tmp 6,.tmp 7] [0,1,2,4,6,7,8,9,18] mixed Tryz.func36 rfl (by kernel_rfl) (by kernel_rfl) (by kernel_rfl) (by kernel_rfl) ?_
   repeat (first|(simp -implicitDefEqProofs only [go_sem,Nat.reduceAdd,Nat.reduceMul,Nat.reduceEqDiff,Nat.reduceLT,Nat.reduceLeDiff,reduceCtorEq,Qud,hw1])|((with_reducible refine Qab (h) ?_ ?_ ?_);(with_reducible rfl);rfl))
  ·rw [if_neg hT]at h ⊢
   refine Qac (tb:=[]) 24 [.tmp 6,.tmp 7] [0,1,2,4,6,7,8,9,18] mixed Tryz.func36 rfl (by kernel_rfl) (by kernel_rfl) (by kernel_rfl) (by kernel_rfl) ?_
   repeat (first|(simp -implicitDefEqProofs only [go_sem,Nat.reduceAdd,Nat.reduceMul,Nat.reduceEqDiff,Nat.reduceLT,Nat.reduceLeDiff,reduceCtorEq,Zaz])|((with_reducible refine Qab (h) ?_ ?_ ?_);(with_reducible rfl);rfl))
set_option maxHeartbeats 4000000 in
theorem Qr1 (p:List Sg) (B:Bat) (l:List Wd) (hp: ∀s∈p,okSg s) (hl:l.length≤maxLen) (hpl:p.length≤1000000):Qad Tryz.prog 37 [Qbx p,baPV B,wsPV l] (ehPV l B p):=by
 have h:=Q2r p B l hp hl hpl
 unfold lePV at h
 unfold ehPV
 unfold Qbx baPV at h ⊢
 cases hO:Qhw p B l with
 |false=>
  rw [hO]at h
  simp only [Bool.false_eq_true,if_false]at h ⊢
  refine Qac (tb:=[]) 26 [.tmp 6,.tmp 7] [0,1,2,4,6,7,8,9] mixed Tryz.func37 rfl (by kernel_rfl) (by kernel_rfl) (by kernel_rfl) (by kernel_rfl) ?_
  repeat (first|(simp -implicitDefEqProofs only [go_sem,Nat.reduceAdd,Nat.reduceMul,Nat.reduceEqDiff,Nat.reduceLT,Nat.reduceLeDiff,reduceCtorEq,Zqa])|((with_reducible refine Qab (h) ?_ ?_ ?_);(with_reducible rfl);rfl))
 |true=>
  rw [hO]at h
  simp only [if_true]at h ⊢
  by_cases hT:totE l B p≤mxE
  ·rw [if_pos hT]at h ⊢
   generalize B.cap-totE l B p=T at*
   refine Qac (tb:=[]) 26 [.tmp 6,.tmp 7] [0,1,2,4,6,7,8,9] mixed Tryz.func37 rfl (by kernel_rfl) (by kernel_rfl) (by kernel_rfl) (by kernel_rfl) ?_
   repeat (first|(simp -implicitDefEqProofs only [go_sem,Nat.reduceAdd,Nat.reduceMul,Nat.reduceEqDiff,Nat.reduceLT,Nat.reduceLeDiff,reduceCtorEq,Que])|((with_reducible refine Qab (h) ?_ ?_ ?_);(with_reducible rfl);rfl))
  ·rw [if_neg hT]at h ⊢
   refine Qac (tb:=[]) 26 [.tmp 6,.tmp 7] [0,1,2,4,6,7,8,9] mixed Tryz.func37 rfl (by kernel_rfl) (by kernel_rfl) (by kernel_rfl) (by kernel_rfl) ?_
   repeat (first|(simp -implicitDefEqProofs only [go_sem,Nat.reduceAdd,Nat.reduceMul,Nat.reduceEqDiff,Nat.reduceLT,Nat.reduceLeDiff,reduceCtorEq,Zqb])|((with_reducible refine Qab (h) ?_ ?_ ?_);(with_reducible rfl);rfl))
end Go.Proofs.YtciddhkfbgkejaaGreatDoor

namespace Go.Proofs.YtciddhkfbgkejaaGreatDoor
open Go.Vl Go.RowKit Go.Dg
theorem Zal (p:List Sg) (B:Bat) (l:List Wd) (hp: ∀s∈p,okSg s) (hl:l.length≤maxLen) (hpl:p.length≤1000000):Qad Tryz.prog 41 [Qbx p,baPV B,wsPV l] (.bool (!Qhw p B l)):=by
 have v1:=Qsf p hp hpl
 have v2:=Qry B
 have v3:=Q2u l hl
 unfold Qhw
 unfold Qbx at v1 ⊢
 cases hV:Qbn p with
 |false=>
  rw [hV]at v1
  unfold baPV at v2 ⊢
  refine Qac (tb:=[]) 20 [.tmp 6] [0,1,2,4,6] mixed Tryz.func41 rfl (by kernel_rfl) (by kernel_rfl) (by kernel_rfl) (by kernel_rfl) ?_
  repeat (first|(simp -implicitDefEqProofs only [go_sem,Nat.reduceAdd,Nat.reduceMul,Nat.reduceEqDiff,Nat.reduceLT,Nat.reduceLeDiff,reduceCtorEq,Bool.not_false,Bool.false_and])|((with_reducible refine Qab (v1) ?_ ?_ ?_);(with_reducible rfl);rfl))
 |true=>
 rw [hV]at v1
 cases hB:Qat B with
 |false=>
  rw [hB]at v2
  unfold baPV at v2 ⊢
  refine Qac (tb:=[]) 20 [.tmp 6] [0,1,2,4,6] mixed Tryz.func41 rfl (by kernel_rfl) (by kernel_rfl) (by kernel_rfl) (by kernel_rfl) ?_
  repeat (first|(simp -implicitDefEqProofs only [go_sem,Nat.reduceAdd,Nat.reduceMul,Nat.reduceEqDiff,Nat.reduceLT,Nat.reduceLeDiff,reduceCtorEq,Bool.not_false,Bool.not_true,Bool.false_and,Bool.true_and])|((with_reducible refine Qab (v1) ?_ ?_ ?_);(with_reducible rfl);rfl)|((with_reducible refine Qab (v2) ?_ ?_ ?_);(with_reducible rfl);rfl))
 |true=>
 rw [hB]at v2
 unfold baPV at v2 ⊢
 generalize Qa8 l=b at*
 refine Qac (tb:=[]) 20 [.tmp 6] [0,1,2,4,6] mixed Tryz.func41 rfl (by kernel_rfl) (by kernel_rfl) (by kernel_rfl) (by kernel_rfl) ?_
 repeat (first|(simp -implicitDefEqProofs only [go_sem,Nat.reduceAdd,Nat.reduceMul,Nat.reduceEqDiff,Nat.reduceLT,Nat.reduceLeDiff,reduceCtorEq,Bool.not_true,Bool.true_and])|((with_reducible refine Qab (v1) ?_ ?_ ?_);(with_reducible rfl);rfl)|((with_reducible refine Qab (v2) ?_ ?_ ?_);(with_reducible rfl);rfl)|((with_reducible refine Qab (v3) ?_ ?_ ?_);(with_reducible rfl);rfl))
set_option maxHeartbeats 8000000 in
theorem Q2m (p:List Sg) (B:Bat) (l:List Wd) (hp: ∀s∈p,okSg s) (hl:l.length≤maxLen) (hpl:p.length≤1000000):Qad Tryz.prog 38 [Qbx p,baPV B,wsPV l] (enPV l B p):=by
 have h:=Zal p B l hp hl hpl
 unfold enPV
 cases hO:Qhw p B l with
 |false=>
  rw [hO]at h
  unfold Qbx baPV at h ⊢
  refine Qac (tb:=[]) 49 [.tmp 6,.tmp 7] [0,1,2,4,6,7,8,9,10,11,12,16,23,47] mixed Tryz.func38 rfl (by kernel_rfl) (by kernel_rfl) (by kernel_rfl) (by kernel_rfl) ?_
  repeat (first|(simp -implicitDefEqProofs only [go_sem,Nat.reduceAdd,Nat.reduceMul,Nat.reduceEqDiff,Nat.reduceLT,Nat.reduceLeDiff,reduceCtorEq,Bool.not_false,Bool.false_eq_true])|((with_reducible refine Qab (h) ?_ ?_ ?_);(with_reducible rfl);rfl)|(with_reducible exact Qaa _ _ (by kernel_rfl))|(with_reducible refine And.intro (Qaa _ _ (by kernel_rfl)) ?_))
 |true=>
  rw [hO]at h
  simp only [if_true]
  obtain⟨hV,hB,hw⟩:=Qfy hO
  have hok:=Qrz hV hB hw
  have hcl:=Qt8 l B p
  have f1:=Zat l p hp hpl hw hV
  have hpl2:=(Qcx hV).2.2
  unfold Qbx baPV at h ⊢
  unfold Qbx at f1
  unfold totE
  refine Qac (tb:=[]) 49 [.tmp 6,.tmp 7] [0,1,2,4,6,7,8,9,10,11,12,16,23,47] mixed Tryz.func38 rfl (by kernel_rfl) (by kernel_rfl) (by kernel_rfl) (by kernel_rfl) ?_
  repeat (first|(simp -implicitDefEqProofs only [go_sem,Nat.reduceAdd,Nat.reduceMul,Nat.reduceEqDiff,Nat.reduceLT,Nat.reduceLeDiff,reduceCtorEq,Bool.not_true])|((with_reducible refine Qab (h) ?_ ?_ ?_);(with_reducible rfl);rfl)|((with_reducible refine Qab (f1) ?_ ?_ ?_);(with_reducible rfl);rfl)|(with_reducible exact Qaa _ _ (by kernel_rfl))|(with_reducible refine And.intro (Qaa _ _ (by kernel_rfl)) ?_))
  refine Qar mixed (fun i:{i:Nat // i≤p.length∧preI (csL l B p) i≤mxE}=>St.of [(0,.slc (p.map sgPV)),(4,.bp 0 5 0 0),(8,.int .i64 (preI (csL l B p) i.1)),(9,.slc (p.map (alV l))),(10,.int .i64 (i.1:Int))] [(0,{els:=[baPV B],esz:=5,ety:=59,fro:=0,live:=true,arr:=false})]) (fun i=>p.length-i.1) ⟨0,Nat.zero_le _,(by decide:(0:Int)≤mxE)⟩ ?_ ?_
  ·refine Qak (θ:=[(0,0)]) rfl ?_ ?_
   ·simp [Qaf,lkp,ren1,ren0,Qap]
    rfl
   ·exact⟨⟨rfl,rfl,rfl,rfl,rfl,.inr ⟨rfl,_,_,rfl,rfl,rfl,rfl⟩⟩,trivial⟩
  rintro⟨i,hi,hle⟩
  simp only
  by_cases hA:i<p.length
  case neg=>
   have hA':=ltF hA
   obtain rfl:i=p.length:=by omega
   rw [if_pos hle]
   generalize preI (csL l B p) p.length=T at*
   repeat (first|(simp -implicitDefEqProofs only [go_sem,Nat.reduceAdd,Nat.reduceMul,Nat.reduceEqDiff,Nat.reduceLT,Nat.reduceLeDiff,reduceCtorEq,hA',List.length_map])|(with_reducible exact Qaa _ _ (by kernel_rfl))|(with_reducible refine And.intro (Qaa _ _ (by kernel_rfl)) ?_))
  have hA':=ltT hA
  have n0:=nnT i
  have hg:=Qc9 p i hA
  have hga:=Zh4 l p hA
  have hvs:=Qen hV _ hA
  have f2:=Zjz p[i] B (atW Wd.ux l (posS p[i] 0) (posS p[i] 1) (posS p[i] 2) p[i].f) (atW Wd.uy l (posS p[i] 0) (posS p[i] 1) (posS p[i] 2) p[i].f) (atW Wd.uz l (posS p[i] 0) (posS p[i] 1) (posS p[i] 2) p[i].f) (hp _ (List.getElem_mem hA))
  rw [Qp0 (decide_eq_true (Qit (.inl rfl) hw (posS p[i] 0) (posS p[i] 1) (posS p[i] 2) p[i].f)) (decide_eq_true (Qit (.inr (.inl rfl)) hw (posS p[i] 0) (posS p[i] 1) (posS p[i] 2) p[i].f)) (decide_eq_true (Qit (.inr (.inr rfl)) hw (posS p[i] 0) (posS p[i] 1) (posS p[i] 2) p[i].f)) hvs hB]at f2
  have hcw:Qex p[i] B (atW Wd.ux l (posS p[i] 0) (posS p[i] 1) (posS p[i] 2) p[i].f) (atW Wd.uy l (posS p[i] 0) (posS p[i] 1) (posS p[i] 2) p[i].f) (atW Wd.uz l (posS p[i] 0) (posS p[i] 1) (posS p[i] 2) p[i].f)=(csL l B p).getD i 0:=(Q2q l B p hA).symm
  rw [hcw]at f2
  have hbd:=Qtr hok i
  have hpre:=Qio (csL l B p) i
  have hnn:=Qo9 hok i
  have hmo:=Ql2 hok (show i+1≤p.length by omega)
  have hwk:=Qaj (a:=i) (by omega)
  have hws:IntKind.i64.wrap (preI (csL l B p) i+(csL l B p).getD i 0)=preI (csL l B p) (i+1):=by rw [←hpre];unfold mxE at hle;exact Qah (by omega) (by omega)
  have hw0:IntKind.i64.wrap (preI (csL l B p) i+0)=preI (csL l B p) i:=by unfold mxE at hle;rw [Int.add_zero];exact Qah (by omega) (by omega)
  clear hcw
  generalize atW Wd.ux l (posS p[i] 0) (posS p[i] 1) (posS p[i] 2) p[i].f=w0 at*
  generalize atW Wd.uy l (posS p[i] 0) (posS p[i] 1) (posS p[i] 2) p[i].f=w1 at*
  generalize atW Wd.uz l (posS p[i] 0) (posS p[i] 1) (posS p[i] 2) p[i].f=w2 at*
  generalize p[i]=s at*
  unfold sgPV Qas baPV at f2
  by_cases hC:(csL l B p).getD i 0≤mxE
  ·rw [if_pos hC]at f2
   by_cases hS:1125899906842624<preI (csL l B p) (i+1)
   ·have hS':=eq_true hS
    rw [if_neg (by unfold mxE;omega)]
    generalize preI (csL l B p) (i+1)=P1 at*
    generalize preI (csL l B p) i=P0 at*
    generalize (csL l B p).getD i 0=C at*
    repeat (first|(simp -implicitDefEqProofs only [go_sem,Nat.reduceAdd,Nat.reduceMul,Nat.reduceEqDiff,Nat.reduceLT,Nat.reduceLeDiff,reduceCtorEq,hA',n0,hg,hga,hws,hS',Qud,Int.toNat_natCast,List.length_map])|((with_reducible refine Qab (f2) ?_ ?_ ?_);(with_reducible rfl);rfl)|(with_reducible exact Qaa _ _ (by kernel_rfl))|(with_reducible refine And.intro (Qaa _ _ (by kernel_rfl)) ?_))
   ·have hS':=eq_false hS
    generalize preI (csL l B p) p.length=T at*
    generalize hP1:preI (csL l B p) (i+1)=P1 at*
    generalize preI (csL l B p) i=P0 at*
    generalize (csL l B p).getD i 0=C at*
    repeat (first|(simp -implicitDefEqProofs only [go_sem,Nat.reduceAdd,Nat.reduceMul,Nat.reduceEqDiff,Nat.reduceLT,Nat.reduceLeDiff,reduceCtorEq,hA',n0,hg,hga,hws,hwk,hS',Qud,decide_false,Int.toNat_natCast,List.length_map])|((with_reducible refine Qab (f2) ?_ ?_ ?_);(with_reducible rfl);rfl)|(with_reducible exact Qaa _ _ (by kernel_rfl))|(with_reducible refine And.intro (Qaa _ _ (by kernel_rfl)) ?_))
    refine⟨⟨i+1,hA,by rw [hP1];unfold mxE;omega⟩,by simp only;omega,Qak (θ:=[(0,0)]) rfl ?_ ?_⟩
    ·simp only [hP1]
     simp [Qaf,lkp,ren1,ren0,Qap]
    ·exact⟨⟨rfl,rfl,rfl,rfl,rfl,.inr ⟨rfl,_,_,rfl,rfl,rfl,rfl⟩⟩,trivial⟩
  ·rw [if_neg hC]at f2
   rw [if_neg (by omega)]
   generalize preI (csL l B p) (i+1)=P1 at*
   generalize preI (csL l B p) i=P0 at*
   generalize (csL l B p).getD i 0=C at*
   repeat (first|(simp -implicitDefEqProofs only [go_sem,Nat.reduceAdd,Nat.reduceMul,Nat.reduceEqDiff,Nat.reduceLT,Nat.reduceLeDiff,reduceCtorEq,hA',n0,hg,hga,hw0,Zaz,Int.toNat_natCast,List.length_map])|((with_reducible refine Qab (f2) ?_ ?_ ?_);(with_reducible rfl);rfl)|(with_reducible exact Qaa _ _ (by kernel_rfl))|(with_reducible refine And.intro (Qaa _ _ (by kernel_rfl)) ?_))
end Go.Proofs.YtciddhkfbgkejaaGreatDoor

namespace Go.Proofs.YtciddhkfbgkejaaGreatDoor
open Go.Vl Go.RowKit Go.Dg
def trmL (a b:Int) (k:Int):List Int:=if b-a=0∨k=2 then [a]else if k=1 then [a,b-a]else [a,0,0,10*(b-a), -15*(b-a),6*(b-a)]
theorem Qpx (a b k:Int) (ha: -1048576≤a∧a≤1048576) (hb: -1048576≤b∧b≤1048576):Qad Tryz.prog 160 [.int .i64 a,.int .i64 b,.int .i64 k] (.slc ((trmL a b k).map (PV.int .i64))):=by
 have w0:IntKind.i64.wrap (b-a)=b-a:=Qah (by omega) (by omega)
 have w1:IntKind.i64.wrap (10*(b-a))=10*(b-a):=Qah (by omega) (by omega)
 have w2:IntKind.i64.wrap (-15*(b-a))= -15*(b-a):=Qah (by omega) (by omega)
 have w3:IntKind.i64.wrap (6*(b-a))=6*(b-a):=Qah (by omega) (by omega)
 unfold trmL
 by_cases c1:b-a=0
 ·rw [if_pos (.inl c1)]
  have c1':((b-a)==0)=true:=by rw [c1];rfl
  refine Qac (tb:=[]) 32 [.tmp 6] [0,1,2,6,7,16,20] mixed Tryz.func160 rfl (by kernel_rfl) (by kernel_rfl) (by kernel_rfl) (by kernel_rfl) ?_
  repeat (first|(simp -implicitDefEqProofs only [go_sem,Nat.reduceAdd,Nat.reduceMul,Nat.reduceEqDiff,Nat.reduceLT,Nat.reduceLeDiff,reduceIte,reduceCtorEq,Int.reduceNeg,w0,c1',List.map_cons,List.map_nil]))
 have c1':((b-a)==0)=false:=by simpa using c1
 by_cases c2:k=2
 ·rw [if_pos (.inr c2)]
  have c2':(k==2)=true:=by rw [c2];rfl
  refine Qac (tb:=[]) 32 [.tmp 6] [0,1,2,6,7,16,20] mixed Tryz.func160 rfl (by kernel_rfl) (by kernel_rfl) (by kernel_rfl) (by kernel_rfl) ?_
  repeat (first|(simp -implicitDefEqProofs only [go_sem,Nat.reduceAdd,Nat.reduceMul,Nat.reduceEqDiff,Nat.reduceLT,Nat.reduceLeDiff,reduceIte,reduceCtorEq,Int.reduceNeg,w0,c1',c2',List.map_cons,List.map_nil]))
 have c2':(k==2)=false:=by simpa using c2
 rw [if_neg (by omega)]
 by_cases c3:k=1
 ·rw [if_pos c3]
  have c3':(k==1)=true:=by rw [c3];rfl
  refine Qac (tb:=[]) 32 [.tmp 6] [0,1,2,6,7,16,20] mixed Tryz.func160 rfl (by kernel_rfl) (by kernel_rfl) (by kernel_rfl) (by kernel_rfl) ?_
  repeat (first|(simp -implicitDefEqProofs only [go_sem,Nat.reduceAdd,Nat.reduceMul,Nat.reduceEqDiff,Nat.reduceLT,Nat.reduceLeDiff,reduceIte,reduceCtorEq,Int.reduceNeg,w0,c1',c2',c3',List.map_cons,List.map_nil]))
 have c3':(k==1)=false:=by simpa using c3
 rw [if_neg c3]
 refine Qac (tb:=[]) 32 [.tmp 6] [0,1,2,6,7,16,20] mixed Tryz.func160 rfl (by kernel_rfl) (by kernel_rfl) (by kernel_rfl) (by kernel_rfl) ?_
 repeat (first|(simp -implicitDefEqProofs only [go_sem,Nat.reduceAdd,Nat.reduceMul,Nat.reduceEqDiff,Nat.reduceLT,Nat.reduceLeDiff,reduceIte,reduceCtorEq,Int.reduceNeg,w0,w1,w2,w3,c1',c2',c3',List.map_cons,List.map_nil]))
def legS (ax ay az bx byy bz f t k:Int):Sg:=⟨f,t,1,trmL ax bx k,trmL ay byy k,trmL az bz k⟩
theorem Zh0 (ax ay az bx byy bz f t k:Int) (h1: -1048576≤ax∧ax≤1048576) (h2: -1048576≤ay∧ay≤1048576) (h3: -1048576≤az∧az≤1048576) (h4: -1048576≤bx∧bx≤1048576) (h5: -1048576≤byy∧byy≤1048576) (h6: -1048576≤bz∧bz≤1048576):
  Qad Tryz.prog 114 [.agg [.int .i64 ax,.int .i64 ay,.int .i64 az],.agg [.int .i64 bx,.int .i64 byy,.int .i64 bz],.int .i64 f,.int .i64 t,.int .i64 k] (sgPV (legS ax ay az bx byy bz f t k)):=by
 have f1:=Qpx ax bx k h1 h4
 have f2:=Qpx ay byy k h2 h5
 have f3:=Qpx az bz k h3 h6
 have e:sgPV (legS ax ay az bx byy bz f t k)= .agg [.int .i64 f,.int .i64 t,.int .i64 1,.slc ((trmL ax bx k).map (PV.int .i64)),.slc ((trmL ay byy k).map (PV.int .i64)),.slc ((trmL az bz k).map (PV.int .i64))]:=rfl
 rw [e]
 clear e
 generalize (trmL ax bx k).map (PV.int .i64)=L1 at*
 generalize (trmL ay byy k).map (PV.int .i64)=L2 at*
 generalize (trmL az bz k).map (PV.int .i64)=L3 at*
 refine Qac (tb:=[]) 32 [.cell 10 56] [0,1,2,3,4,5,6,10] mixed Tryz.func114 rfl (by kernel_rfl) (by kernel_rfl) (by kernel_rfl) (by kernel_rfl) ?_
 repeat (first|(simp -implicitDefEqProofs only [go_sem,Nat.reduceAdd,Nat.reduceMul,Nat.reduceEqDiff,Nat.reduceLT,Nat.reduceLeDiff,reduceCtorEq])|((with_reducible refine Qab (f1) ?_ ?_ ?_);(with_reducible rfl);rfl)|((with_reducible refine Qab (f2) ?_ ?_ ?_);(with_reducible rfl);rfl)|((with_reducible refine Qab (f3) ?_ ?_ ?_);(with_reducible rfl);rfl)|(with_reducible exact Qaa _ _ (by kernel_rfl))|(with_reducible refine And.intro (Qaa _ _ (by kernel_rfl)) ?_))
def gBat:Bat:=⟨100,50,200,10000,1000⟩
theorem Qrw:Qad Tryz.prog 115 [] (baPV gBat):=by
 unfold baPV gBat
 refine Qac (tb:=[]) 2 [.cell 0 59] [0] mixed Tryz.func115 rfl (by kernel_rfl) (by kernel_rfl) (by kernel_rfl) (by kernel_rfl) ?_
 repeat (first|(simp -implicitDefEqProofs only [go_sem,Nat.reduceAdd,Nat.reduceMul,Nat.reduceLT,Nat.reduceLeDiff,reduceCtorEq]))
theorem Qj2 (x y z:Int):Qad Tryz.prog 69 [.int .i64 x,.int .i64 y,.int .i64 z] (.agg [.int .i64 x,.int .i64 y,.int .i64 z]):=by
 refine Qac (tb:=[]) 11 [.cell 6 26] [0,1,2,6] mixed Tryz.func69 rfl (by kernel_rfl) (by kernel_rfl) (by kernel_rfl) (by kernel_rfl) ?_
 repeat (first|(simp -implicitDefEqProofs only [go_sem,Nat.reduceAdd,Nat.reduceMul,Nat.reduceEqDiff,Nat.reduceLT,Nat.reduceLeDiff,reduceCtorEq]))
def sgB (s:Sg):Bool:=decide (-9223372036854775808≤s.f∧s.f≤9223372036854775807)&&(decide (-9223372036854775808≤s.t∧s.t≤9223372036854775807)&&(decide (-9223372036854775808≤s.o∧s.o≤9223372036854775807)&&(s.ax.all fun c=>c.all (fun x=>decide (-9223372036854775808≤x∧x≤9223372036854775807))&&decide (c.length≤1000))))
theorem Zh1 {s:Sg} (h:sgB s=true):okSg s:=by
 unfold sgB at h
 simp only [Bool.and_eq_true,decide_eq_true_eq,List.all_eq_true]at h
 obtain⟨h1,h2,h3,h4⟩:=h
 exact⟨h1,h2,h3,fun c hc=>(h4 c hc).1,fun c hc=>(h4 c hc).2⟩
theorem Qea (ax ay az bx byy bz time kind wx wy wz want:Int) (hp:([ax,ay,az,bx,byy,bz].all fun x=>decide (-1048576≤x)&&decide (x≤1048576))=true) (hs:sgB (legS ax ay az bx byy bz 0 time kind)=true) (hv:Qa2 (legS ax ay az bx byy bz 0 time kind)=true)
  (hw:(blB wx&&(blB wy&&blB wz))=true) (hc:Qex (legS ax ay az bx byy bz 0 time kind) gBat wx wy wz=want) (hle:want≤mxE):
  Qad Tryz.prog 70 [.agg [.int .i64 ax,.int .i64 ay,.int .i64 az],.agg [.int .i64 bx,.int .i64 byy,.int .i64 bz],.int .i64 time,.int .i64 kind,.agg [.int .i64 wx,.int .i64 wy,.int .i64 wz],.int .i64 want] (.bool true):=by
 simp only [List.all_cons,List.all_nil,Bool.and_true,Bool.and_eq_true]at hp
 simp only [Bool.and_eq_true]at hw
 obtain⟨p1,p2,p3,p4,p5,p6⟩:=hp
 have f1:=Zh0 ax ay az bx byy bz 0 time kind (by simpa using p1) (by simpa using p2) (by simpa using p3) (by simpa using p4) (by simpa using p5) (by simpa using p6)
 have f2:=Qrw
 have f3:=Zjy (legS ax ay az bx byy bz 0 time kind) gBat wx wy wz (Zh1 hs)
 have hB:Qat gBat=true:=by decide+kernel
 rw [Qp0 hw.1 hw.2.1 hw.2.2 hv hB,hc,if_pos hle]at f3
 have eb:baPV gBat= .agg [.int .i64 100,.int .i64 50,.int .i64 200,.int .i64 10000,.int .i64 1000]:=rfl
 rw [eb]at f2 f3
 obtain⟨S1,S2,S3,S4,S5,S6,hS⟩: ∃S1 S2 S3 S4 S5 S6,sgPV (legS ax ay az bx byy bz 0 time kind)= .agg [.int .i64 S1,.int .i64 S2,.int .i64 S3,.slc S4,.slc S5,.slc S6]:=⟨_,_,_,_,_,_,rfl⟩
 rw [hS]at f1 f3
 refine Qac (tb:=[]) 33 [.tmp 12] [0,1,2,3,4,5,6,7,10,12,13,14] mixed Tryz.func70 rfl (by kernel_rfl) (by kernel_rfl) (by kernel_rfl) (by kernel_rfl) ?_
 repeat (first|(simp -implicitDefEqProofs only [go_sem,Nat.reduceAdd,Nat.reduceMul,Nat.reduceEqDiff,Nat.reduceLT,Nat.reduceLeDiff,reduceCtorEq,Que,beq_self_eq_true])|((with_reducible refine Qab (f1) ?_ ?_ ?_);(with_reducible rfl);rfl)|((with_reducible refine Qab (f2) ?_ ?_ ?_);(with_reducible rfl);rfl)|((with_reducible refine Qab (f3) ?_ ?_ ?_);(with_reducible rfl);rfl)|(with_reducible exact Qaa _ _ (by kernel_rfl))|(with_reducible refine And.intro (Qaa _ _ (by kernel_rfl)) ?_))
theorem Qyj {s:Sg} (h:Qa2 s=true) (B:Bat) (hB:Qat B=true):Qhw [s] B []=true:=by
 unfold Qhw
 rw [Qml h,hB];rfl
theorem Qrx (n:Int) (b:Bool) (h0:0≤n) (h1:n≤3600) (hs:sgB (legS 0 0 0 0 0 0 0 (1000*n) 2)=true) (hv:Qa2 (legS 0 0 0 0 0 0 0 (1000*n) 2)=true) (hc:totE [] gBat [legS 0 0 0 0 0 0 0 (1000*n) 2]≤mxE)
  (hb:decide (gBat.res≤gBat.cap-totE [] gBat [legS 0 0 0 0 0 0 0 (1000*n) 2])=b):Qad Tryz.prog 71 [.int .i64 n,.bool b] (.bool true):=by
 have g1:=Qj2 0 0 0
 have f1:=Zh0 0 0 0 0 0 0 0 (1000*n) 2 (by decide) (by decide) (by decide) (by decide) (by decide) (by decide)
 have f2:=Qrw
 have f3:=Qr1 [legS 0 0 0 0 0 0 0 (1000*n) 2] gBat [] (fun s hs'=>by rw [List.mem_singleton.1 hs'];exact Zh1 hs) (by decide) (by simp)
 have hB:Qat gBat=true:=by decide+kernel
 unfold ehPV at f3
 rw [if_pos (Qyj hv gBat hB),if_pos hc,hb]at f3
 have eb:baPV gBat= .agg [.int .i64 100,.int .i64 50,.int .i64 200,.int .i64 10000,.int .i64 1000]:=rfl
 rw [eb]at f2 f3
 have hwn:IntKind.i64.wrap (1000*n)=1000*n:=Qah (by omega) (by omega)
 have ep:Qbx [legS 0 0 0 0 0 0 0 (1000*n) 2]= .slc [sgPV (legS 0 0 0 0 0 0 0 (1000*n) 2)]:=rfl
 rw [ep]at f3
 obtain⟨S1,S2,S3,S4,S5,S6,hS⟩: ∃S1 S2 S3 S4 S5 S6,sgPV (legS 0 0 0 0 0 0 0 (1000*n) 2)= .agg [.int .i64 S1,.int .i64 S2,.int .i64 S3,.slc S4,.slc S5,.slc S6]:=⟨_,_,_,_,_,_,rfl⟩
 rw [hS]at f1 f3
 unfold wsPV at f3
 rw [List.map_nil]at f3
 clear hS ep hb hc hv hs
 refine Qac (tb:=[]) 25 [.tmp 4] [0,1,4,5,6] mixed Tryz.func71 rfl (by kernel_rfl) (by kernel_rfl) (by kernel_rfl) (by kernel_rfl) ?_
 repeat (first|(simp -implicitDefEqProofs only [go_sem,Nat.reduceAdd,Nat.reduceMul,Nat.reduceEqDiff,Nat.reduceLT,Nat.reduceLeDiff,reduceIte,reduceCtorEq,Que,hwn,beq_self_eq_true])|((with_reducible refine Qab (g1) ?_ ?_ ?_);(with_reducible rfl);rfl)|((with_reducible refine Qab (f1) ?_ ?_ ?_);(with_reducible rfl);rfl)|((with_reducible refine Qab (f2) ?_ ?_ ?_);(with_reducible rfl);rfl)|((with_reducible refine Qab (f3) ?_ ?_ ?_);(with_reducible rfl);rfl))
set_option maxHeartbeats 8000000 in
set_option maxRecDepth 100000 in
theorem Q2n:Qad Tryz.prog 30 [] (.bool true):=by
 have v1:=Qj2 0 0 0
 have v2:=Qj2 1000 0 0
 have v3:=Qj2 0 0 1000
 have v4:=Qj2 (-1000) 0 0
 have v5:=Qj2 700 0 0
 have c1:=Qea 0 0 0 0 0 0 1000 2 0 0 0 100 (by decide+kernel) (by decide+kernel) (by decide+kernel) (by decide+kernel) (by decide+kernel) (by decide+kernel)
 have c2:=Qea 0 0 0 0 0 0 1 2 0 0 0 1 (by decide+kernel) (by decide+kernel) (by decide+kernel) (by decide+kernel) (by decide+kernel) (by decide+kernel)
 have c3:=Qea 0 0 0 0 0 0 1000 2 1000 0 0 300 (by decide+kernel) (by decide+kernel) (by decide+kernel) (by decide+kernel) (by decide+kernel) (by decide+kernel)
 have c4:=Qea 0 0 0 1000 0 0 1000 1 0 0 0 300 (by decide+kernel) (by decide+kernel) (by decide+kernel) (by decide+kernel) (by decide+kernel) (by decide+kernel)
 have c5:=Qea 0 0 0 1000 0 0 1000 1 1000 0 0 100 (by decide+kernel) (by decide+kernel) (by decide+kernel) (by decide+kernel) (by decide+kernel) (by decide+kernel)
 have c6:=Qea 0 0 0 1000 0 0 1000 1 (-1000) 0 0 900 (by decide+kernel) (by decide+kernel) (by decide+kernel) (by decide+kernel) (by decide+kernel) (by decide+kernel)
 have c7:=Qea 0 0 0 0 0 1000 1000 1 0 0 0 800 (by decide+kernel) (by decide+kernel) (by decide+kernel) (by decide+kernel) (by decide+kernel) (by decide+kernel)
 have c8:=Qea 0 0 1000 0 0 0 1000 1 0 0 0 300 (by decide+kernel) (by decide+kernel) (by decide+kernel) (by decide+kernel) (by decide+kernel) (by decide+kernel)
 have c9:=Qea 0 0 0 700 0 0 1000 0 0 0 0 240 (by decide+kernel) (by decide+kernel) (by decide+kernel) (by decide+kernel) (by decide+kernel) (by decide+kernel)
 have e1:=Qrx 90 true (by decide) (by decide) (by decide+kernel) (by decide+kernel) (by decide+kernel) (by decide+kernel)
 have e2:=Qrx 91 false (by decide) (by decide) (by decide+kernel) (by decide+kernel) (by decide+kernel) (by decide+kernel)
 refine Qac (tb:=[]) 69 [.tmp 0] [0,1,2,3,25,58] mixed Tryz.func30 rfl (by kernel_rfl) (by kernel_rfl) (by kernel_rfl) (by kernel_rfl) ?_
 repeat (first|(simp -implicitDefEqProofs only [go_sem,Nat.reduceAdd,Nat.reduceMul,Nat.reduceEqDiff,Nat.reduceLT,Nat.reduceLeDiff,reduceCtorEq,Int.reduceNeg,Bool.not_true])|((with_reducible refine Qab (v1) ?_ ?_ ?_);(with_reducible rfl);rfl)|((with_reducible refine Qab (v2) ?_ ?_ ?_);(with_reducible rfl);rfl)|((with_reducible refine Qab (v3) ?_ ?_ ?_);(with_reducible rfl);rfl)|((with_reducible refine Qab (c1) ?_ ?_ ?_);(with_reducible rfl);rfl)|((with_reducible refine Qab (c2) ?_ ?_ ?_);(with_reducible rfl);rfl)|((with_reducible refine Qab (c3) ?_ ?_ ?_);(with_reducible rfl);rfl)|(with_reducible exact Qaa _ _ (by kernel_rfl))|(with_reducible refine And.intro (Qaa _ _ (by kernel_rfl)) ?_))
 repeat (first|(simp -implicitDefEqProofs only [go_sem,Nat.reduceAdd,Nat.reduceMul,Nat.reduceEqDiff,Nat.reduceLT,Nat.reduceLeDiff,reduceCtorEq,Int.reduceNeg,Bool.not_true])|((with_reducible refine Qab (c4) ?_ ?_ ?_);(with_reducible rfl);rfl)|((with_reducible refine Qab (c5) ?_ ?_ ?_);(with_reducible rfl);rfl)|((with_reducible refine Qab (v4) ?_ ?_ ?_);(with_reducible rfl);rfl)|((with_reducible refine Qab (c6) ?_ ?_ ?_);(with_reducible rfl);rfl)|((with_reducible refine Qab (c7) ?_ ?_ ?_);(with_reducible rfl);rfl)|((with_reducible refine Qab (c8) ?_ ?_ ?_);(with_reducible rfl);rfl)|(with_reducible exact Qaa _ _ (by kernel_rfl))|(with_reducible refine And.intro (Qaa _ _ (by kernel_rfl)) ?_))
 repeat (first|(simp -implicitDefEqProofs only [go_sem,Nat.reduceAdd,Nat.reduceEqDiff,Nat.reduceLT,reduceCtorEq,Bool.not_true])|((with_reducible refine Qab (v5) ?_ ?_ ?_);(with_reducible rfl);rfl)|((with_reducible refine Qab (c9) ?_ ?_ ?_);(with_reducible rfl);rfl)|((with_reducible refine Qab (e1) ?_ ?_ ?_);(with_reducible rfl);rfl)|((with_reducible refine Qab (e2) ?_ ?_ ?_);(with_reducible rfl);rfl)|(with_reducible exact Qaa _ _ (by kernel_rfl))|(with_reducible refine And.intro (Qaa _ _ (by kernel_rfl)) ?_))
end Go.Proofs.YtciddhkfbgkejaaGreatDoor
