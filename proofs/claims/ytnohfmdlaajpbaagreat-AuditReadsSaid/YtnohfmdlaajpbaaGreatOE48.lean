/-
  OE48 (merged for the claim).
-/
import Derived.Test.YtnohfmdlaajpbaaGreatOE47
set_option linter.unusedSimpArgs false
set_option linter.unusedVariables false
namespace Go.Proofs.YtnohfmdlaajpbaaGreat
open Go.Vl Go.RowKit Go.Dg
def xr1 (a:Int):Int:=IntKind.u32.wrap (BitVec.ofInt IntKind.u32.bits a ^^^ BitVec.ofInt IntKind.u32.bits 1).toNat
theorem Zxt {P:Program} {t:TypeId} {a:Int}:Qbp .xor t P (.int .u32 a) (.int .u32 1)=some (.int .u32 (xr1 a)):=by simp [Qbp,Qdh,xr1]
theorem rcset (L:List Rc) (i:Nat) (r:Rc):(L.map rcV).set i (.agg [.int .i64 r.t,.int .i64 r.a,.int .i64 r.k,.int .i64 r.v.x,.int .i64 r.v.y,.int .i64 r.v.z,.int .i64 r.s,.int .i64 r.fk,.int .i64 r.ff,.int .i64 r.ft,.int .i64 r.fs,.slc [],.int .u32 r.u])=(L.set i r).map rcV:=by rw [List.map_set];rfl
set_option maxHeartbeats 8000000 in
set_option maxRecDepth 100000 in
theorem Qz5 (p:Pg) (l:List Ax) (hm:l.length≤maxLen) (s tol gap g:Int) (g0:0≤g) (g1:g<256) (c:Int) (c0:0≤c) (c1:c<256):Qaf Tryz.prog 5 [pgV p,.slc (l.map axV),.int .i64 s,.agg [.int .i64 tol,.int .i64 gap],.int .u8 g,.int .u8 c] (.bool true):=by
 have hk:=Qlo;have hF:=Zn8 p;have bl7:Nat.blt 7 1000000=true:=rfl;have bl8:Nat.blt 8 1000000=true:=rfl;have bl10:Nat.blt 10 1000000=true:=rfl;cases hq:decide (FewQ p)with
 |false=>
  rw [hq]at hF;unfold pgV at hF ⊢;refine Qab (tb:=[]) 167 [.tmp 12] [0,1,2,3,4,5,6,9,12,13,14,15,16,17,18,19,20,21,22,30,35,40,49,50,60,71,95,103,105,128] mixed Tryz.func5 rfl (by kernel_rfl) ?_;repeat (first|simp -implicitDefEqProofs only [go_sem,seval,Bool.not_false]|(with_reducible refine Qaa hF ?_ ?_ ?_);rfl;rfl|(with_reducible refine Qaa hk ?_ ?_ ?_);rfl;rfl)
 |true=>
 rw [hq]at hF;by_cases h20:l.length≤20
 case neg=>
  have h20':=eq_true (show(20:Int)<(l.length:Int)by omega);unfold pgV at hF ⊢;refine Qab (tb:=[]) 167 [.tmp 12] [0,1,2,3,4,5,6,9,12,13,14,15,16,17,18,19,20,21,22,30,35,40,49,50,60,71,95,103,105,128] mixed Tryz.func5 rfl (by kernel_rfl) ?_;repeat (first|simp -implicitDefEqProofs only [go_sem,seval,Bool.not_true,h20',decide_true,List.length_map]|(with_reducible refine Qaa hF ?_ ?_ ?_);rfl;rfl|(with_reducible refine Qaa hk ?_ ?_ ?_);rfl;rfl)
 have h20':=eq_false (show¬(20:Int)<(l.length:Int)by omega);have hf:=Zxj hq;have hlg:=Zx0 l (by omega);have hL:=Qu5 l l.length;have hll:=Qg6 l l.length;generalize logS l l.length=L at*;have hR:=Qsl L (by omega);have hlt:(L.map rcV).length=L.length:=List.length_map ..;have htk:(L.map rcV).take L.length=L.map rcV:=List.take_of_length_le (by omega);unfold lgR at hR;by_cases hn:0<L.length
 case neg=>
  have hn':=eq_false (show¬(0:Int)<(L.length:Int)by omega);have hrest:=Qe5 p hf s tol gap L (by omega);unfold pgV at*;unfold lgB rcB at hlg;unfold rcB at hR;cases hfl:(List.flatMap PV.cells (L.map rcV)).all flatc with
  |false=>
   skip
   refine Qf2 167 [.tmp 12] Tryz.func5 rfl (by kernel_rfl) (by kernel_rfl) (by kernel_rfl) (by kernel_rfl) ?_;refine Qcy mixed [(301,[],[(7,7),(8,8)]),(601,[],[(7,10)])] [0,1,2,3,4,5,6,9,12,13,14,15,16,17,18,19,20,21,22,30,35,40,49,50,60,71,95,103,105,128] 6 rfl _ ?_ hrest;simp only [codes,Qcj,List.take_succ_cons,List.take_zero,List.drop_succ_cons,List.drop_zero,List.foldr_cons,List.foldr_nil];repeat (first|simp -implicitDefEqProofs only [go_sem,seval,Bool.not_true,h20',hn',hfl,hlt,htk,bl7,bl8,bl10,Nat.le_refl,decide_true,decide_false,List.length_map]|(with_reducible refine Qaa hF ?_ ?_ ?_);rfl;rfl|(with_reducible refine Qai hlg ?_ ?_ ?_ ?_);rfl;rfl;rfl|(with_reducible refine Qai hR ?_ ?_ ?_ ?_);rfl;rfl;rfl)
   refine Qaj (θ:=[(0,0),(1,1),(10,10)]) rfl ?_ ?_
   ·simp [Qac,lkp,ren1,ren0,Qah]
   ·exact⟨⟨rfl,rfl,rfl,rfl,rfl,.inr ⟨rfl,_,_,rfl,rfl,rfl,rfl⟩⟩,⟨rfl,rfl,rfl,rfl,rfl,.inr ⟨rfl,_,_,rfl,rfl,rfl,rfl⟩⟩,⟨rfl,rfl,rfl,rfl,rfl,.inl ⟨rfl,rfl⟩⟩,trivial⟩
  |true=>
   skip
   refine Qf2 167 [.tmp 12] Tryz.func5 rfl (by kernel_rfl) (by kernel_rfl) (by kernel_rfl) (by kernel_rfl) ?_;refine Qcy mixed [(301,[],[(7,7),(8,8)]),(601,[],[(7,10)])] [0,1,2,3,4,5,6,9,12,13,14,15,16,17,18,19,20,21,22,30,35,40,49,50,60,71,95,103,105,128] 6 rfl _ ?_ hrest;simp only [codes,Qcj,List.take_succ_cons,List.take_zero,List.drop_succ_cons,List.drop_zero,List.foldr_cons,List.foldr_nil];repeat (first|simp -implicitDefEqProofs only [go_sem,seval,Bool.not_true,h20',hn',hfl,hlt,htk,bl7,bl8,bl10,Nat.le_refl,decide_true,decide_false,List.length_map]|(with_reducible refine Qaa hF ?_ ?_ ?_);rfl;rfl|(with_reducible refine Qai hlg ?_ ?_ ?_ ?_);rfl;rfl;rfl|(with_reducible refine Qai hR ?_ ?_ ?_ ?_);rfl;rfl;rfl)
   refine Qaj (θ:=[(0,0),(1,1),(10,10)]) rfl ?_ ?_
   ·simp [Qac,lkp,ren1,ren0,Qah]
   ·exact⟨⟨rfl,rfl,rfl,rfl,rfl,.inr ⟨rfl,_,_,rfl,rfl,rfl,rfl⟩⟩,⟨rfl,rfl,rfl,rfl,rfl,.inr ⟨rfl,_,_,rfl,rfl,rfl,rfl⟩⟩,⟨rfl,rfl,rfl,rfl,rfl,.inl ⟨rfl,rfl⟩⟩,trivial⟩
 have hn':=eq_true (show(0:Int)<(L.length:Int)by omega);obtain⟨i,hgi⟩: ∃i:Nat,Int.tmod g (L.length:Int)=(i:Int):=⟨_,(Int.toNat_of_nonneg (Int.tmod_nonneg _ g0)).symm⟩;have hi:i<L.length:=by have:=Int.tmod_lt_of_pos g (show(0:Int)<(L.length:Int)by omega);omega
 have hi':=ltE hi;have n0:=nnE i;have hnn:((L.length:Int)≠0)=True:=eq_true (by omega);have hgw:IntKind.i64.wrap g=g:=Qag (by omega) (by omega);have hgt:=Qga L i hi;have hst:=rcset L i;have hsl: ∀r,(L.set i r).length=L.length:=fun r=>List.length_set ..;have hcm:Int.tmod c 4=0∨Int.tmod c 4=1∨Int.tmod c 4=2∨Int.tmod c 4=3:=by
  have:=Int.tmod_nonneg 4 c0;have:=Int.tmod_lt_of_pos c (show(0:Int)<4 by decide);omega
 generalize hr:L.getD i rc0=r at*;rcases hcm with hc|hc|hc|hc
 ·obtain⟨r2,hr2⟩: ∃r2:Rc,r2={r with t:=IntKind.i64.wrap (r.t+1)}:=⟨_,rfl⟩;have hrest:=Qe5 p hf s tol gap (L.set i r2) (by rw [hsl];omega);have hs1:=hst r2;rw [hsl]at hrest;rw [hr2]at hs1;simp only at hs1;rw [←hr2]at hs1;clear hr;unfold pgV at*;unfold lgB rcB at hlg;unfold rcB at hR;generalize L.set i r2=L2 at*;cases hfl:(List.flatMap PV.cells (L.map rcV)).all flatc with
  |false=>
   skip
   refine Qf2 167 [.tmp 12] Tryz.func5 rfl (by kernel_rfl) (by kernel_rfl) (by kernel_rfl) (by kernel_rfl) ?_;refine Qcy mixed [(301,[],[(7,7),(8,8)]),(601,[],[(7,10)])] [0,1,2,3,4,5,6,9,12,13,14,15,16,17,18,19,20,21,22,30,35,40,49,50,60,71,95,103,105,128] 6 rfl _ ?_ hrest;simp only [codes,Qcj,List.take_succ_cons,List.take_zero,List.drop_succ_cons,List.drop_zero,List.foldr_cons,List.foldr_nil];repeat (first|simp -implicitDefEqProofs only [go_sem,seval,Bool.not_true,h20',hn',hfl,hlt,htk,bl7,bl8,bl10,Nat.le_refl,hi',n0,hnn,hgw,hgt,hgi,hc,hs1,decide_true,decide_false,Int.toNat_natCast,List.length_map]|(with_reducible refine Qaa hF ?_ ?_ ?_);rfl;rfl|(with_reducible refine Qai hlg ?_ ?_ ?_ ?_);rfl;rfl;rfl|(with_reducible refine Qai hR ?_ ?_ ?_ ?_);rfl;rfl;rfl)
   refine Qaj (θ:=[(0,0),(1,1),(10,10)]) rfl ?_ ?_
   ·simp [Qac,lkp,ren1,ren0,Qah]
   ·exact⟨⟨rfl,rfl,rfl,rfl,rfl,.inr ⟨rfl,_,_,rfl,rfl,rfl,rfl⟩⟩,⟨rfl,rfl,rfl,rfl,rfl,.inr ⟨rfl,_,_,rfl,rfl,rfl,rfl⟩⟩,⟨rfl,rfl,rfl,rfl,rfl,.inl ⟨rfl,rfl⟩⟩,trivial⟩
  |true=>
   skip
   refine Qf2 167 [.tmp 12] Tryz.func5 rfl (by kernel_rfl) (by kernel_rfl) (by kernel_rfl) (by kernel_rfl) ?_;refine Qcy mixed [(301,[],[(7,7),(8,8)]),(601,[],[(7,10)])] [0,1,2,3,4,5,6,9,12,13,14,15,16,17,18,19,20,21,22,30,35,40,49,50,60,71,95,103,105,128] 6 rfl _ ?_ hrest;simp only [codes,Qcj,List.take_succ_cons,List.take_zero,List.drop_succ_cons,List.drop_zero,List.foldr_cons,List.foldr_nil];repeat (first|simp -implicitDefEqProofs only [go_sem,seval,Bool.not_true,h20',hn',hfl,hlt,htk,bl7,bl8,bl10,Nat.le_refl,hi',n0,hnn,hgw,hgt,hgi,hc,hs1,decide_true,decide_false,Int.toNat_natCast,List.length_map]|(with_reducible refine Qaa hF ?_ ?_ ?_);rfl;rfl|(with_reducible refine Qai hlg ?_ ?_ ?_ ?_);rfl;rfl;rfl|(with_reducible refine Qai hR ?_ ?_ ?_ ?_);rfl;rfl;rfl)
   refine Qaj (θ:=[(0,0),(1,1),(10,10)]) rfl ?_ ?_
   ·simp [Qac,lkp,ren1,ren0,Qah]
   ·exact⟨⟨rfl,rfl,rfl,rfl,rfl,.inr ⟨rfl,_,_,rfl,rfl,rfl,rfl⟩⟩,⟨rfl,rfl,rfl,rfl,rfl,.inr ⟨rfl,_,_,rfl,rfl,rfl,rfl⟩⟩,⟨rfl,rfl,rfl,rfl,rfl,.inl ⟨rfl,rfl⟩⟩,trivial⟩
 ·obtain⟨r2,hr2⟩: ∃r2:Rc,r2={r with a:=IntKind.i64.wrap (1+r.a.tmod 3)}:=⟨_,rfl⟩;have hrest:=Qe5 p hf s tol gap (L.set i r2) (by rw [hsl];omega);have hs1:=hst r2;rw [hsl]at hrest;rw [hr2]at hs1;simp only at hs1;rw [←hr2]at hs1;clear hr;unfold pgV at*;unfold lgB rcB at hlg;unfold rcB at hR;generalize L.set i r2=L2 at*;cases hfl:(List.flatMap PV.cells (L.map rcV)).all flatc with
  |false=>
   skip
   refine Qf2 167 [.tmp 12] Tryz.func5 rfl (by kernel_rfl) (by kernel_rfl) (by kernel_rfl) (by kernel_rfl) ?_;refine Qcy mixed [(301,[],[(7,7),(8,8)]),(601,[],[(7,10)])] [0,1,2,3,4,5,6,9,12,13,14,15,16,17,18,19,20,21,22,30,35,40,49,50,60,71,95,103,105,128] 6 rfl _ ?_ hrest;simp only [codes,Qcj,List.take_succ_cons,List.take_zero,List.drop_succ_cons,List.drop_zero,List.foldr_cons,List.foldr_nil];repeat (first|simp -implicitDefEqProofs only [go_sem,seval,Bool.not_true,h20',hn',hfl,hlt,htk,bl7,bl8,bl10,Nat.le_refl,hi',n0,hnn,hgw,hgt,hgi,hc,hs1,decide_true,decide_false,Int.toNat_natCast,List.length_map]|(with_reducible refine Qaa hF ?_ ?_ ?_);rfl;rfl|(with_reducible refine Qai hlg ?_ ?_ ?_ ?_);rfl;rfl;rfl|(with_reducible refine Qai hR ?_ ?_ ?_ ?_);rfl;rfl;rfl)
   refine Qaj (θ:=[(0,0),(1,1),(10,10)]) rfl ?_ ?_
   ·simp [Qac,lkp,ren1,ren0,Qah]
   ·exact⟨⟨rfl,rfl,rfl,rfl,rfl,.inr ⟨rfl,_,_,rfl,rfl,rfl,rfl⟩⟩,⟨rfl,rfl,rfl,rfl,rfl,.inr ⟨rfl,_,_,rfl,rfl,rfl,rfl⟩⟩,⟨rfl,rfl,rfl,rfl,rfl,.inl ⟨rfl,rfl⟩⟩,trivial⟩
  |true=>
   skip
   refine Qf2 167 [.tmp 12] Tryz.func5 rfl (by kernel_rfl) (by kernel_rfl) (by kernel_rfl) (by kernel_rfl) ?_;refine Qcy mixed [(301,[],[(7,7),(8,8)]),(601,[],[(7,10)])] [0,1,2,3,4,5,6,9,12,13,14,15,16,17,18,19,20,21,22,30,35,40,49,50,60,71,95,103,105,128] 6 rfl _ ?_ hrest;simp only [codes,Qcj,List.take_succ_cons,List.take_zero,List.drop_succ_cons,List.drop_zero,List.foldr_cons,List.foldr_nil];repeat (first|simp -implicitDefEqProofs only [go_sem,seval,Bool.not_true,h20',hn',hfl,hlt,htk,bl7,bl8,bl10,Nat.le_refl,hi',n0,hnn,hgw,hgt,hgi,hc,hs1,decide_true,decide_false,Int.toNat_natCast,List.length_map]|(with_reducible refine Qaa hF ?_ ?_ ?_);rfl;rfl|(with_reducible refine Qai hlg ?_ ?_ ?_ ?_);rfl;rfl;rfl|(with_reducible refine Qai hR ?_ ?_ ?_ ?_);rfl;rfl;rfl)
   refine Qaj (θ:=[(0,0),(1,1),(10,10)]) rfl ?_ ?_
   ·simp [Qac,lkp,ren1,ren0,Qah]
   ·exact⟨⟨rfl,rfl,rfl,rfl,rfl,.inr ⟨rfl,_,_,rfl,rfl,rfl,rfl⟩⟩,⟨rfl,rfl,rfl,rfl,rfl,.inr ⟨rfl,_,_,rfl,rfl,rfl,rfl⟩⟩,⟨rfl,rfl,rfl,rfl,rfl,.inl ⟨rfl,rfl⟩⟩,trivial⟩
 ·obtain⟨r2,hr2⟩: ∃r2:Rc,r2={r with u:=xr1 r.u}:=⟨_,rfl⟩;have hrest:=Qe5 p hf s tol gap (L.set i r2) (by rw [hsl];omega);have hs1:=hst r2;rw [hsl]at hrest;rw [hr2]at hs1;simp only at hs1;rw [←hr2]at hs1;clear hr;unfold pgV at*;unfold lgB rcB at hlg;unfold rcB at hR;generalize L.set i r2=L2 at*;cases hfl:(List.flatMap PV.cells (L.map rcV)).all flatc with
  |false=>
   skip
   refine Qf2 167 [.tmp 12] Tryz.func5 rfl (by kernel_rfl) (by kernel_rfl) (by kernel_rfl) (by kernel_rfl) ?_;refine Qcy mixed [(301,[],[(7,7),(8,8)]),(601,[],[(7,10)])] [0,1,2,3,4,5,6,9,12,13,14,15,16,17,18,19,20,21,22,30,35,40,49,50,60,71,95,103,105,128] 6 rfl _ ?_ hrest;simp only [codes,Qcj,List.take_succ_cons,List.take_zero,List.drop_succ_cons,List.drop_zero,List.foldr_cons,List.foldr_nil];repeat (first|simp -implicitDefEqProofs only [go_sem,seval,Bool.not_true,h20',hn',hfl,hlt,htk,bl7,bl8,bl10,Nat.le_refl,hi',n0,hnn,hgw,hgt,hgi,hc,hs1,Zxt,Int.reduceBEq,decide_true,decide_false,Int.toNat_natCast,List.length_map]|(with_reducible refine Qaa hF ?_ ?_ ?_);rfl;rfl|(with_reducible refine Qai hlg ?_ ?_ ?_ ?_);rfl;rfl;rfl|(with_reducible refine Qai hR ?_ ?_ ?_ ?_);rfl;rfl;rfl)
   refine Qaj (θ:=[(0,0),(1,1),(10,10)]) rfl ?_ ?_
   ·simp [Qac,lkp,ren1,ren0,Qah]
   ·exact⟨⟨rfl,rfl,rfl,rfl,rfl,.inr ⟨rfl,_,_,rfl,rfl,rfl,rfl⟩⟩,⟨rfl,rfl,rfl,rfl,rfl,.inr ⟨rfl,_,_,rfl,rfl,rfl,rfl⟩⟩,⟨rfl,rfl,rfl,rfl,rfl,.inl ⟨rfl,rfl⟩⟩,trivial⟩
  |true=>
   skip
   refine Qf2 167 [.tmp 12] Tryz.func5 rfl (by kernel_rfl) (by kernel_rfl) (by kernel_rfl) (by kernel_rfl) ?_;refine Qcy mixed [(301,[],[(7,7),(8,8)]),(601,[],[(7,10)])] [0,1,2,3,4,5,6,9,12,13,14,15,16,17,18,19,20,21,22,30,35,40,49,50,60,71,95,103,105,128] 6 rfl _ ?_ hrest;simp only [codes,Qcj,List.take_succ_cons,List.take_zero,List.drop_succ_cons,List.drop_zero,List.foldr_cons,List.foldr_nil];repeat (first|simp -implicitDefEqProofs only [go_sem,seval,Bool.not_true,h20',hn',hfl,hlt,htk,bl7,bl8,bl10,Nat.le_refl,hi',n0,hnn,hgw,hgt,hgi,hc,hs1,Zxt,Int.reduceBEq,decide_true,decide_false,Int.toNat_natCast,List.length_map]|(with_reducible refine Qaa hF ?_ ?_ ?_);rfl;rfl|(with_reducible refine Qai hlg ?_ ?_ ?_ ?_);rfl;rfl;rfl|(with_reducible refine Qai hR ?_ ?_ ?_ ?_);rfl;rfl;rfl)
   refine Qaj (θ:=[(0,0),(1,1),(10,10)]) rfl ?_ ?_
   ·simp [Qac,lkp,ren1,ren0,Qah]
   ·exact⟨⟨rfl,rfl,rfl,rfl,rfl,.inr ⟨rfl,_,_,rfl,rfl,rfl,rfl⟩⟩,⟨rfl,rfl,rfl,rfl,rfl,.inr ⟨rfl,_,_,rfl,rfl,rfl,rfl⟩⟩,⟨rfl,rfl,rfl,rfl,rfl,.inl ⟨rfl,rfl⟩⟩,trivial⟩
 ·have hs1:=hlt;have hrest:=Qe5 p hf s tol gap L (by omega);unfold pgV at*;unfold lgB rcB at hlg;unfold rcB at hR;cases hfl:(List.flatMap PV.cells (L.map rcV)).all flatc with
  |false=>
   skip
   refine Qf2 167 [.tmp 12] Tryz.func5 rfl (by kernel_rfl) (by kernel_rfl) (by kernel_rfl) (by kernel_rfl) ?_;refine Qcy mixed [(301,[],[(7,7),(8,8)]),(601,[],[(7,10)])] [0,1,2,3,4,5,6,9,12,13,14,15,16,17,18,19,20,21,22,30,35,40,49,50,60,71,95,103,105,128] 6 rfl _ ?_ hrest;simp only [codes,Qcj,List.take_succ_cons,List.take_zero,List.drop_succ_cons,List.drop_zero,List.foldr_cons,List.foldr_nil];repeat (first|simp -implicitDefEqProofs only [go_sem,seval,Bool.not_true,h20',hn',hfl,hlt,htk,bl7,bl8,bl10,Nat.le_refl,hi',n0,hnn,hgw,hgi,hc,Int.reduceBEq,decide_true,decide_false,Int.toNat_natCast,List.length_map]|(with_reducible refine Qaa hF ?_ ?_ ?_);rfl;rfl|(with_reducible refine Qai hlg ?_ ?_ ?_ ?_);rfl;rfl;rfl|(with_reducible refine Qai hR ?_ ?_ ?_ ?_);rfl;rfl;rfl)
   refine Qaj (θ:=[(0,0),(1,1),(10,10)]) rfl ?_ ?_
   ·simp [Qac,lkp,ren1,ren0,Qah]
   ·exact⟨⟨rfl,rfl,rfl,rfl,rfl,.inr ⟨rfl,_,_,rfl,rfl,rfl,rfl⟩⟩,⟨rfl,rfl,rfl,rfl,rfl,.inr ⟨rfl,_,_,rfl,rfl,rfl,rfl⟩⟩,⟨rfl,rfl,rfl,rfl,rfl,.inl ⟨rfl,rfl⟩⟩,trivial⟩
  |true=>
   skip
   refine Qf2 167 [.tmp 12] Tryz.func5 rfl (by kernel_rfl) (by kernel_rfl) (by kernel_rfl) (by kernel_rfl) ?_;refine Qcy mixed [(301,[],[(7,7),(8,8)]),(601,[],[(7,10)])] [0,1,2,3,4,5,6,9,12,13,14,15,16,17,18,19,20,21,22,30,35,40,49,50,60,71,95,103,105,128] 6 rfl _ ?_ hrest;simp only [codes,Qcj,List.take_succ_cons,List.take_zero,List.drop_succ_cons,List.drop_zero,List.foldr_cons,List.foldr_nil];repeat (first|simp -implicitDefEqProofs only [go_sem,seval,Bool.not_true,h20',hn',hfl,hlt,htk,bl7,bl8,bl10,Nat.le_refl,hi',n0,hnn,hgw,hgi,hc,Int.reduceBEq,decide_true,decide_false,Int.toNat_natCast,List.length_map]|(with_reducible refine Qaa hF ?_ ?_ ?_);rfl;rfl|(with_reducible refine Qai hlg ?_ ?_ ?_ ?_);rfl;rfl;rfl|(with_reducible refine Qai hR ?_ ?_ ?_ ?_);rfl;rfl;rfl)
   refine Qaj (θ:=[(0,0),(1,1),(10,10)]) rfl ?_ ?_
   ·simp [Qac,lkp,ren1,ren0,Qah]
   ·exact⟨⟨rfl,rfl,rfl,rfl,rfl,.inr ⟨rfl,_,_,rfl,rfl,rfl,rfl⟩⟩,⟨rfl,rfl,rfl,rfl,rfl,.inr ⟨rfl,_,_,rfl,rfl,rfl,rfl⟩⟩,⟨rfl,rfl,rfl,rfl,rfl,.inl ⟨rfl,rfl⟩⟩,trivial⟩
end Go.Proofs.YtnohfmdlaajpbaaGreat
