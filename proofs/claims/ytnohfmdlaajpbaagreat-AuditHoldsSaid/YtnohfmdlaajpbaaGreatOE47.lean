/-
  OE41, OE42, OE32, OE47 (merged for the claim).
-/
import Derived.Test.YtnohfmdlaajpbaaGreatOE31
set_option linter.unusedSimpArgs false
set_option linter.unusedVariables false
namespace Go.Proofs.YtnohfmdlaajpbaaGreat
open Go.Vl Go.RowKit Go.Dg
def ldE (R:List Rc) (i:Nat):Int:=if mayE (R.take i) (R.getD i rc0)=0 then(if sumU (endU (R.take i)) (R.getD i rc0)=(R.getD i rc0).u then 0 else 400)else mayE (R.take i) (R.getD i rc0)
theorem Qu7 {L:List Rc} {r:Rc} (h:mayE L r=0):recB r=true:=by
 unfold mayE at h;split at h
 ·assumption
 ·cases h
theorem Zof {R:List Rc} {i:Nat} (h:i<R.length) (hl:R.length≤1000) (he:ldE R i=0):mayE (R.take i) (R.getD i rc0)=0∧sumU (endU (R.take i)) (R.getD i rc0)=(R.getD i rc0).u∧recB (R.getD i rc0)=true∧addE (R.take i) (R.getD i rc0)=0∧addL sumU (R.take i) (R.getD i rc0)=R.take (i+1):=by
 unfold ldE at he;split at he
 ·rename_i h1;split at he
  ·rename_i h2;have hlt:(R.take i).length<10000:=by rw [List.length_take];omega
   refine⟨h1,h2,Qu7 h1,by unfold addE;rw [if_pos h1,if_pos hlt],?_⟩;unfold addL;rw [if_pos ⟨h1,hlt⟩];unfold sumR;rw [h2,List.take_add_one,List.getElem?_eq_getElem h,List.getD_eq_getElem?_getD,List.getElem?_eq_getElem h];rfl
  ·cases he
 ·rename_i h1;exact absurd he h1
set_option maxHeartbeats 4000000 in
set_option maxRecDepth 100000 in
theorem Q5p (R:List Rc) (hl:R.length≤1000) (h: ∀k,k<R.length→ldE R k=0):Qaf Tryz.prog 19 [.slc (R.map rcV)] (.tup [lgR R,.int .i64 0,.int .i64 0]):=by
 have hn:=Qz8;have bl7:Nat.blt 7 1000000=true:=rfl;have bl8:Nat.blt 8 1000000=true:=rfl

 refine Qab (tb:=[(100,[],[(7,7),(8,8)]),(502,[(1000000,7),(1000001,8)],[]),(801,[(1000000,7),(1000001,8)],[]),(1102,[(1000000,7),(1000001,8)],[(9,9)])]) 48 [.tmp 2,.tmp 3,.tmp 4] [0,2,3,4,5,6,7,8,9,11,13,14,15,16,24,37,43] mixed Tryz.func19 rfl (by kernel_rfl) ?_;repeat (first|simp -implicitDefEqProofs only [go_sem,seval,bl7,bl8,List.length_map]|(with_reducible refine Qai hn ?_ ?_ ?_ ?_);rfl;rfl;rfl)
 refine Qas mixed (fun k:{k:Nat // k≤R.length}=>St.of [(5,.bp 7 1 0 0),(13,.slc (R.map rcV)),(14,.int .i64 (R.length:Int)),(15,.int .i64 (k.1:Int))] [(7,lgB 8 (R.take k.1).length),(8,rcB (R.take k.1))]) (fun k=>R.length-k.1) ⟨0,Nat.zero_le _⟩ ?_ ?_
 ·rw [List.take_zero];refine Qaj (θ:=[(7,7),(8,8)]) rfl ?_ ?_
  ·simp [Qac,lkp,ren1,ren0,Qah]
  ·exact⟨⟨rfl,rfl,rfl,rfl,rfl,.inr ⟨rfl,_,_,rfl,rfl,rfl,rfl⟩⟩,⟨rfl,rfl,rfl,rfl,rfl,.inl ⟨rfl,rfl⟩⟩,trivial⟩
 ·rintro⟨k,hk⟩;simp only;by_cases hA:k<R.length
  ·have hz:=h k hA;have hA':=ltE hA;have n0:=nnE k;have hg:=Qga R k hA;have hwk:=wrE (n:=k) (by omega);have hkl:(R.take k).length≤1000:=by rw [List.length_take];omega
   have hm:=Q5w (R.take k) (R.getD k rc0) (by omega);obtain⟨q1,q2,q3,q4,q5⟩:=Zof hA hl hz;have he:=Qya (R.take k) (by omega);have hs:=Zew (endU (R.take k)) (R.getD k rc0) q3;have hd:=Q5x (R.take k) (R.getD k rc0) (by omega);rw [q1]at hm;rw [q2]at hs;rw [q4,q5]at hd;generalize endU (R.take k)=eu at*;generalize R.getD k rc0=r at*;generalize R.take k=L at*;generalize hL1:R.take (k+1)=L1 at*;unfold lgG rcV at hd;unfold rcV at hm hs;unfold lgL at hm he hd;repeat (first|simp -implicitDefEqProofs only [go_sem,seval,hA',n0,hg,hwk,bl9,bl13,bl14,bne_self_eq_false,Int.toNat_natCast]|(with_reducible refine Qai hm ?_ ?_ ?_ ?_);rfl;rfl;rfl|(with_reducible refine Qai he ?_ ?_ ?_ ?_);rfl;rfl;rfl|(with_reducible refine Qaa hs ?_ ?_ ?_);rfl;rfl|(with_reducible refine Qai hd ?_ ?_ ?_ ?_);rfl;rfl;rfl|(with_reducible refine And.intro (Qad _ _ (by kernel_rfl)) ?_))
   refine⟨⟨k+1,by omega⟩,by simp only;omega,?_⟩;simp only [hL1];refine Qaj (θ:=[(7,7),(8,9)]) rfl ?_ ?_
   ·simp [Qac,lkp,ren1,ren0,Qah]
   ·exact⟨⟨rfl,rfl,rfl,rfl,rfl,.inr ⟨rfl,_,_,rfl,rfl,rfl,rfl⟩⟩,⟨rfl,rfl,rfl,rfl,rfl,.inl ⟨rfl,rfl⟩⟩,trivial⟩
  ·have hA':=ltE' hA;obtain rfl:k=R.length:=by omega
   have htk:(R.map rcV).take R.length=R.map rcV:=List.take_of_length_le (by rw [List.length_map];omega);have hlt:(R.map rcV).length=R.length:=List.length_map ..;rw [List.take_length];unfold lgR;repeat simp -implicitDefEqProofs only [go_sem,seval,hA',htk,hlt,Nat.le_refl,decide_true]
set_option maxHeartbeats 4000000 in
set_option maxRecDepth 100000 in
theorem Q5q (R:List Rc) (hl:R.length≤1000) (i:Nat) (hi:i<R.length) (h: ∀k,k<i→ldE R k=0) (hx:ldE R i≠0):Qaf Tryz.prog 19 [.slc (R.map rcV)] (.tup [.nilP,.int .i64 (i:Int),.int .i64 (ldE R i)]):=by
 have hn:=Qz8;have bl7:Nat.blt 7 1000000=true:=rfl;have bl8:Nat.blt 8 1000000=true:=rfl

 refine Qab (tb:=[(100,[],[(7,7),(8,8)]),(502,[(1000000,7),(1000001,8)],[]),(801,[(1000000,7),(1000001,8)],[]),(1102,[(1000000,7),(1000001,8)],[(9,9)])]) 48 [.tmp 2,.tmp 3,.tmp 4] [0,2,3,4,5,6,7,8,9,11,13,14,15,16,24,37,43] mixed Tryz.func19 rfl (by kernel_rfl) ?_;repeat (first|simp -implicitDefEqProofs only [go_sem,seval,bl7,bl8,List.length_map]|(with_reducible refine Qai hn ?_ ?_ ?_ ?_);rfl;rfl;rfl)
 refine Qas mixed (fun k:{k:Nat // k≤i}=>St.of [(5,.bp 7 1 0 0),(13,.slc (R.map rcV)),(14,.int .i64 (R.length:Int)),(15,.int .i64 (k.1:Int))] [(7,lgB 8 (R.take k.1).length),(8,rcB (R.take k.1))]) (fun k=>i-k.1) ⟨0,Nat.zero_le _⟩ ?_ ?_
 ·rw [List.take_zero];refine Qaj (θ:=[(7,7),(8,8)]) rfl ?_ ?_
  ·simp [Qac,lkp,ren1,ren0,Qah]
  ·exact⟨⟨rfl,rfl,rfl,rfl,rfl,.inr ⟨rfl,_,_,rfl,rfl,rfl,rfl⟩⟩,⟨rfl,rfl,rfl,rfl,rfl,.inl ⟨rfl,rfl⟩⟩,trivial⟩
 ·rintro⟨k,hk⟩;simp only;have hA:k<R.length:=by omega
  by_cases hki:k<i
  ·have hz:=h k hki;have hA':=ltE hA;have n0:=nnE k;have hg:=Qga R k hA;have hwk:=wrE (n:=k) (by omega);have hkl:(R.take k).length≤1000:=by rw [List.length_take];omega
   have hm:=Q5w (R.take k) (R.getD k rc0) (by omega);obtain⟨q1,q2,q3,q4,q5⟩:=Zof hA hl hz;have he:=Qya (R.take k) (by omega);have hs:=Zew (endU (R.take k)) (R.getD k rc0) q3;have hd:=Q5x (R.take k) (R.getD k rc0) (by omega);rw [q1]at hm;rw [q2]at hs;rw [q4,q5]at hd;generalize endU (R.take k)=eu at*;generalize R.getD k rc0=r at*;generalize R.take k=L at*;generalize hL1:R.take (k+1)=L1 at*;unfold lgG rcV at hd;unfold rcV at hm hs;unfold lgL at hm he hd;repeat (first|simp -implicitDefEqProofs only [go_sem,seval,hA',n0,hg,hwk,bl9,bl13,bl14,bne_self_eq_false,Int.toNat_natCast]|(with_reducible refine Qai hm ?_ ?_ ?_ ?_);rfl;rfl;rfl|(with_reducible refine Qai he ?_ ?_ ?_ ?_);rfl;rfl;rfl|(with_reducible refine Qaa hs ?_ ?_ ?_);rfl;rfl|(with_reducible refine Qai hd ?_ ?_ ?_ ?_);rfl;rfl;rfl|(with_reducible refine And.intro (Qad _ _ (by kernel_rfl)) ?_))
   refine⟨⟨k+1,by omega⟩,by simp only;omega,?_⟩;simp only [hL1];refine Qaj (θ:=[(7,7),(8,9)]) rfl ?_ ?_
   ·simp [Qac,lkp,ren1,ren0,Qah]
   ·exact⟨⟨rfl,rfl,rfl,rfl,rfl,.inr ⟨rfl,_,_,rfl,rfl,rfl,rfl⟩⟩,⟨rfl,rfl,rfl,rfl,rfl,.inl ⟨rfl,rfl⟩⟩,trivial⟩
  ·obtain rfl:k=i:=by omega
   have hA':=ltE hA;have n0:=nnE k;have hg:=Qga R k hA;have hwk:=wrE (n:=k) (by omega);have hkl:(R.take k).length≤1000:=by rw [List.length_take];omega
   have hm:=Q5w (R.take k) (R.getD k rc0) (by omega);unfold ldE at hx ⊢;by_cases hme:mayE (R.take k) (R.getD k rc0)=0
   ·rw [if_pos hme]at hx ⊢;have hsu: ¬sumU (endU (R.take k)) (R.getD k rc0)=(R.getD k rc0).u:=fun x=>hx (if_pos x);rw [if_neg hsu];have he:=Qya (R.take k) (by omega);have hs:=Zew (endU (R.take k)) (R.getD k rc0) (Qu7 hme);have hsb:(sumU (endU (R.take k)) (R.getD k rc0) != (R.getD k rc0).u)=true:=bne_iff_ne.2 hsu;rw [hme]at hm;clear hx hsu hme;generalize sumU (endU (R.take k)) (R.getD k rc0)=su at*;generalize endU (R.take k)=eu at*;generalize R.getD k rc0=r at*;generalize R.take k=L at*;unfold rcV at hm hs;unfold lgL at hm he;repeat (first|simp -implicitDefEqProofs only [go_sem,seval,hA',n0,hg,hsb,bl13,bl14,bne_self_eq_false,Int.toNat_natCast]|(with_reducible refine Qai hm ?_ ?_ ?_ ?_);rfl;rfl;rfl|(with_reducible refine Qai he ?_ ?_ ?_ ?_);rfl;rfl;rfl|(with_reducible refine Qaa hs ?_ ?_ ?_);rfl;rfl|(with_reducible exact Qad _ _ (by kernel_rfl)))
   ·rw [if_neg hme];have hmb:(mayE (R.take k) (R.getD k rc0) != 0)=true:=bne_iff_ne.2 hme;clear hx hme;generalize mayE (R.take k) (R.getD k rc0)=me at*;generalize R.getD k rc0=r at*;generalize R.take k=L at*;unfold rcV at hm;unfold lgL at hm;repeat (first|simp -implicitDefEqProofs only [go_sem,seval,hA',n0,hg,hmb,bl13,bl14,Int.toNat_natCast]|(with_reducible refine Qai hm ?_ ?_ ?_ ?_);rfl;rfl;rfl)
theorem Q5r {R:List Rc} {i:Nat} (he:ldE R i=0):recB (R.getD i rc0)=true:=by
 unfold ldE at he;split at he
 ·rename_i h1;exact Qu7 h1
 ·rename_i h1;exact absurd he h1
theorem Qmh {p:Pg} {s tol gap:Int} (he:fndE p s tol gap=0):Qbd p=true∧wiB s 0 3600000=true∧(wiB tol 0 1000000&&wiB gap 1 3600000)=true∧p.as_.length≠0:=by
 unfold fndE at he;split at he
 ·rename_i h1;rw [Bool.and_eq_true]at h1;split at he
  ·rename_i h2;split at he
   ·cases he
   ·rename_i h3;exact⟨h1.1,h1.2,h2,h3⟩
  ·cases he
 ·cases he
theorem Zxr (p:Pg) (hf:FewP p) (s tol gap:Int) (R:List Rc) (e:Int) (he:fndE p s tol gap=e) (h0:e≠0):Qaf Tryz.prog 18 [pgV p,.slc (R.map rcV),.int .i64 s,.agg [.int .i64 tol,.int .i64 gap]] (.tup [.slc [],.int .i64 0,.int .i64 e]):=by
 have hP:=Qgc p (Qgb hf);have hW:=Quv s 0 3600000;have hV:=Qii tol gap;unfold fndE at he;cases hp:Qbd p with
 |false=>
  rw [hp]at he hP;simp only [Bool.false_and,Bool.false_eq_true,ite_false]at he;subst he;unfold pgV at hP ⊢;refine Qab (tb:=[]) 52 [.tmp 8,.tmp 9,.tmp 10] [0,1,2,3,4,7,8,9,10,11,12,13,14,27,31,39] mixed Tryz.func18 rfl (by kernel_rfl) ?_;repeat (first|simp -implicitDefEqProofs only [go_sem,seval,Bool.not_false,Bool.not_true]|(with_reducible refine Qaa hP ?_ ?_ ?_);rfl;rfl)
 |true=>
 rw [hp]at he hP;cases hs:wiB s 0 3600000 with
 |false=>
  rw [hs]at he hW;simp only [Bool.and_false,Bool.false_eq_true,ite_false]at he;subst he;unfold pgV at hP ⊢;refine Qab (tb:=[]) 52 [.tmp 8,.tmp 9,.tmp 10] [0,1,2,3,4,7,8,9,10,11,12,13,14,27,31,39] mixed Tryz.func18 rfl (by kernel_rfl) ?_;repeat (first|simp -implicitDefEqProofs only [go_sem,seval,Bool.not_false,Bool.not_true]|(with_reducible refine Qaa hP ?_ ?_ ?_);rfl;rfl|(with_reducible refine Qaa hW ?_ ?_ ?_);rfl;rfl)
 |true=>
 rw [hs]at he hW;simp only [Bool.and_self,ite_true]at he;cases hv:(wiB tol 0 1000000&&wiB gap 1 3600000)with
 |false=>
  rw [hv]at he hV;simp only [Bool.false_eq_true,ite_false]at he;subst he;unfold pgV at hP ⊢;refine Qab (tb:=[]) 52 [.tmp 8,.tmp 9,.tmp 10] [0,1,2,3,4,7,8,9,10,11,12,13,14,27,31,39] mixed Tryz.func18 rfl (by kernel_rfl) ?_;repeat (first|simp -implicitDefEqProofs only [go_sem,seval,Bool.not_false,Bool.not_true]|(with_reducible refine Qaa hP ?_ ?_ ?_);rfl;rfl|(with_reducible refine Qaa hW ?_ ?_ ?_);rfl;rfl|(with_reducible refine Qaa hV ?_ ?_ ?_);rfl;rfl)
 |true=>
 rw [hv]at he hV;simp only [ite_true]at he;by_cases h:p.as_.length=0
 ·rw [if_pos h]at he;subst he;have h0':((p.as_.length:Int)==0)=true:=by rw [h];rfl
  unfold pgV at hP ⊢;refine Qab (tb:=[]) 52 [.tmp 8,.tmp 9,.tmp 10] [0,1,2,3,4,7,8,9,10,11,12,13,14,27,31,39] mixed Tryz.func18 rfl (by kernel_rfl) ?_;repeat (first|simp -implicitDefEqProofs only [go_sem,seval,Bool.not_true,h0',List.length_map]|(with_reducible refine Qaa hP ?_ ?_ ?_);rfl;rfl|(with_reducible refine Qaa hW ?_ ?_ ?_);rfl;rfl|(with_reducible refine Qaa hV ?_ ?_ ?_);rfl;rfl)
 ·rw [if_neg h]at he;exact absurd he.symm h0
theorem Zog (p:Pg) (hf:FewP p) (s tol gap:Int) (R:List Rc) (he:fndE p s tol gap=0) (i e:Int) (h0:e≠0) (hL:Qaf Tryz.prog 19 [.slc (R.map rcV)] (.tup [.nilP,.int .i64 i,.int .i64 e])):
  Qaf Tryz.prog 18 [pgV p,.slc (R.map rcV),.int .i64 s,.agg [.int .i64 tol,.int .i64 gap]] (.tup [.slc [],.int .i64 i,.int .i64 e]):=by
 have hP:=Qgc p (Qgb hf);have hW:=Quv s 0 3600000;have hV:=Qii tol gap;have hb:(e != 0)=true:=bne_iff_ne.2 h0;obtain⟨q1,q2,q3,q4⟩:=Qmh he;rw [q1]at hP;rw [q2]at hW;rw [q3]at hV;have h0':((p.as_.length:Int)==0)=false:=beq_eq_false_iff_ne.2 (by omega);unfold pgV at hP ⊢;refine Qab (tb:=[]) 52 [.tmp 8,.tmp 9,.tmp 10] [0,1,2,3,4,7,8,9,10,11,12,13,14,27,31,39] mixed Tryz.func18 rfl (by kernel_rfl) ?_;repeat (first|simp -implicitDefEqProofs only [go_sem,seval,Bool.not_true,h0',hb,List.length_map]|(with_reducible refine Qaa hP ?_ ?_ ?_);rfl;rfl|(with_reducible refine Qaa hW ?_ ?_ ?_);rfl;rfl|(with_reducible refine Qaa hV ?_ ?_ ?_);rfl;rfl|(with_reducible refine Qaa hL ?_ ?_ ?_);rfl;rfl)
theorem Zxs (p:Pg) (hf:FewP p) (s tol gap:Int) (R:List Rc) (hl:R.length≤1000) (he:fndE p s tol gap=0) (h: ∀k,k<R.length→ldE R k=0):
  Qaf Tryz.prog 18 [pgV p,.slc (R.map rcV),.int .i64 s,.agg [.int .i64 tol,.int .i64 gap]] (.tup [.slc ((Qdg p s tol gap R).map fdV),.int .i64 0,.int .i64 0]):=by
 have hP:=Qgc p (Qgb hf);have hW:=Quv s 0 3600000;have hV:=Qii tol gap;have hL:=Q5p R hl h;have hF:=Qee p hf s tol gap R hl (fun k hk=>Q5r (h k hk));unfold fndL at hF;rw [he,if_pos rfl]at hF;obtain⟨q1,q2,q3,q4⟩:=Qmh he;rw [q1]at hP;rw [q2]at hW;rw [q3]at hV;have h0':((p.as_.length:Int)==0)=false:=beq_eq_false_iff_ne.2 (by omega);generalize (Qdg p s tol gap R).map fdV=X at*;unfold pgV at hP hF ⊢;unfold lgR at hF hL;refine Qab (tb:=[]) 52 [.tmp 8,.tmp 9,.tmp 10] [0,1,2,3,4,7,8,9,10,11,12,13,14,27,31,39] mixed Tryz.func18 rfl (by kernel_rfl) ?_;repeat (first|simp -implicitDefEqProofs only [go_sem,seval,Bool.not_true,h0',bne_self_eq_false,List.length_map]|(with_reducible refine Qaa hP ?_ ?_ ?_);rfl;rfl|(with_reducible refine Qaa hW ?_ ?_ ?_);rfl;rfl|(with_reducible refine Qaa hV ?_ ?_ ?_);rfl;rfl|(with_reducible refine Qaa hL ?_ ?_ ?_);rfl;rfl|(with_reducible refine Qaa hF ?_ ?_ ?_);rfl;rfl)
abbrev rlX (tol gap:Int):Box:={els:=[.agg [.int .i64 tol,.int .i64 gap]],esz:=2,ety:=44,fro:=0,live:=true,arr:=false}
abbrev pgX (p:Pg):Box:={els:=[.agg [.slc (p.ns.map PV.str),.slc (p.hs.map v3PV),.slc (p.as_.map acV)]],esz:=3,ety:=26,fro:=0,live:=true,arr:=false}
abbrev lfV (L:List Rc) (s:Int):List (Nat×PV):=[(1,.slc (L.map rcV)),(2,.int .i64 s),(4,.bp 0 3 0 0),(7,.bp 1 2 0 0)]
abbrev lfB (p:Pg) (tol gap:Int) (F:List Go.Dg.Fd):List (Nat×Box):=[(0,pgX p),(1,rlX tol gap),(7,fdB F)]
theorem Q5m (F:List Go.Dg.Fd) (x:PV):(F.map fdV++[x]).length=F.length+1:=by simp
theorem Q5n (F:List Go.Dg.Fd) (k a i t:Int):(((F.map fdV++[PV.agg [.int .i64 k,.int .i64 a,.int .i64 i,.int .i64 t]]).flatMap PV.cells).all PV.okCell)=true:=by
 have:=Qmg (F++[⟨k,a,i,t⟩]);rw [List.map_append]at this;exact this
set_option maxHeartbeats 16000000 in
set_option maxRecDepth 100000 in
theorem Zeq (p:Pg) (hf:FewP p) (v:Qbd p=true) (hN:p.as_.length≠0) (s:Int) (hs:0≤s∧s≤3600000) (tol gap:Int) (ht:0≤tol∧tol≤1000000) (hg:1≤gap∧gap≤3600000) (L:List Rc) (hl:L.length≤1000) (hL: ∀k,k<L.length→recB (L.getD k rc0)=true):
  Qaf Tryz.prog 21 [pgV p,.slc (L.map rcV),.int .i64 s,.agg [.int .i64 tol,.int .i64 gap]] (.slc ((Qdg p s tol gap L).map fdV)):=by
 have hDv:=Zxe p hf v hN s hs L (by omega) hL;have hend:=Q6a p v p.as_.length (Nat.le_refl _) ((p.as_.length:Int)-1) rfl;have hbt:=Qd3 v (k:=p.as_.length) (Nat.le_refl _);have hpa:=(Qc8 v).2.1;have hw1:IntKind.i64.wrap ((p.as_.length:Int)-1)=(p.as_.length:Int)-1:=Qag (by omega) (by omega);have hDl:(dvs p s L L.length).length≤L.length:=Qew p.ns.length s (sqR p s) L L.length;have hDo:=Qx4 p s hs L hL L.length (Nat.le_refl _);have hN5:=hf.1;have hul:=Qh7 p.ns.length s L;have hol:=Qg0 gap tol s (begT p p.as_.length) (dvs p s L L.length) L;unfold Qdg finds;rw [show devs p.ns.length s (sqR p s) L L.length=dvs p s L L.length from rfl];generalize dvs p s L L.length=D at*;have htq:IntKind.i64.wrap (tol*tol)=tol*tol:=by
  have h1:0≤tol*tol:=Int.mul_nonneg ht.1 ht.1;have h2:tol*tol≤1000000*1000000:=Int.mul_le_mul ht.2 ht.2 ht.1 (by decide);exact Qag (by omega) (by omega)
 generalize begT p p.as_.length=len at*;unfold pgV at hDv hend ⊢;refine Qab (tb:=[]) 282 [.tmp 8] [0,1,2,3,4,7,8,9,10,11,12,13,14,15,16,17,18,19,20,24,35,68,74,100,110,119,123,139,171,186,208,227,254,262] mixed Tryz.func21 rfl (by kernel_rfl) ?_;repeat simp -implicitDefEqProofs only [go_sem,seval]
 refine Qas mixed (fun i:{i:Nat // i≤L.length}=>St.of ([(9,.bs 7 4 0 (unks p.ns.length s L i.1).length),(10,.int .i64 (i.1:Int))]++lfV L s) (lfB p tol gap (unks p.ns.length s L i.1))) (fun i=>L.length-i.1) ⟨0,Nat.zero_le _⟩ ?_ ?_
 ·have e0:unks p.ns.length s L 0=[]:=rfl;refine Qnw 9 7 4 77 rfl rfl rfl (by decide) [(7,7),(0,0),(1,1)] rfl ?_ ?_
  ·simp [Qac,lkp,ren1,ren0,Qah,e0]
  ·simp only [e0];exact⟨⟨rfl,rfl,rfl,rfl,rfl,.inr ⟨rfl,_,_,rfl,rfl,rfl,rfl⟩⟩,⟨rfl,rfl,rfl,rfl,rfl,.inr ⟨rfl,_,_,rfl,rfl,rfl,rfl⟩⟩,⟨rfl,rfl,rfl,rfl,rfl,.inl ⟨rfl,rfl⟩⟩,trivial⟩
 ·rintro⟨i,hi⟩;simp only;by_cases hA:i<L.length
  ·have hA':=ltE hA;have n0:=nnE i;have hgt:=Qga L i hA;have hwi:=wrE (n:=i) (by omega);have hfi:=Qcq (hL i hA);have hln:=hul i;have hst:unks p.ns.length s L (i+1)=unks p.ns.length s L i++unk1 p.ns.length s i (L.getD i rc0):=rfl;unfold unk1 at hst;generalize unks p.ns.length s L i=F at*;generalize L.getD i rc0=r at*;by_cases haN:(p.ns.length:Int)<r.a
   ·have haN':=eq_true haN;rw [if_pos haN]at hst;have haw:IntKind.i64.wrap (r.a-1)=r.a-1:=Qag (by omega) (by omega);have htw:IntKind.i64.wrap (r.t-s)=r.t-s:=Qag (by omega) (by omega);have hlt:(F.map fdV).length=F.length:=List.length_map ..;have hok:=Qmg F;have k1:((F.length+1)*32≤140737488355328)=True:=eq_true (by omega);have k2:(F.length+1≤maxLen)=True:=eq_true (by unfold maxLen;omega);repeat (first|simp -implicitDefEqProofs only [go_sem,seval,hA',n0,hgt,hwi,haN',haw,htw,hlt,hok,k1,k2,decide_true,Int.toNat_natCast,List.length_map]|(with_reducible refine And.intro (Qad _ _ (by kernel_rfl)) ?_))
    refine⟨⟨i+1, ‹_›⟩,by simp only;omega,?_⟩;simp only [hst,lfB,fdB,List.map_append,List.length_append];refine Qaj (θ:=[(0,0),(1,1),(7,617)]) rfl ?_ ?_
    ·simp [Qac,lkp,ren1,ren0,Qah]
    ·exact⟨⟨rfl,rfl,rfl,rfl,rfl,.inr ⟨rfl,_,_,rfl,rfl,rfl,rfl⟩⟩,⟨rfl,rfl,rfl,rfl,rfl,.inr ⟨rfl,_,_,rfl,rfl,rfl,rfl⟩⟩,⟨rfl,rfl,rfl,rfl,rfl,.inl ⟨rfl,rfl⟩⟩,trivial⟩
   ·have haN':=eq_false haN;rw [if_neg haN,List.append_nil]at hst;repeat (first|simp -implicitDefEqProofs only [go_sem,seval,hA',n0,hgt,hwi,haN',decide_false,Int.toNat_natCast,List.length_map]|(with_reducible refine And.intro (Qad _ _ (by kernel_rfl)) ?_))
    refine⟨⟨i+1, ‹_›⟩,by simp only;omega,?_⟩;simp only [hst,lfB,fdB,List.map_append,List.length_append];refine Qaj (θ:=[(0,0),(1,1),(7,7)]) rfl ?_ ?_
    ·simp [Qac,lkp,ren1,ren0,Qah]
    ·exact⟨⟨rfl,rfl,rfl,rfl,rfl,.inr ⟨rfl,_,_,rfl,rfl,rfl,rfl⟩⟩,⟨rfl,rfl,rfl,rfl,rfl,.inr ⟨rfl,_,_,rfl,rfl,rfl,rfl⟩⟩,⟨rfl,rfl,rfl,rfl,rfl,.inl ⟨rfl,rfl⟩⟩,trivial⟩
  ·have hA':=ltE' hA;obtain rfl:i=L.length:=by omega
   repeat (first|simp -implicitDefEqProofs only [go_sem,seval,hA',hw1,List.length_map]|(with_reducible refine Qaa hDv ?_ ?_ ?_);rfl;rfl|(with_reducible refine Qaa hend ?_ ?_ ?_);rfl;rfl|(with_reducible refine And.intro (Qad _ _ (by kernel_rfl)) ?_))
   have hU:=hul L.length;generalize unks p.ns.length s L L.length=U at*;refine Qas mixed (fun n:{n:Nat // n≤p.ns.length}=>St.of ([(9,.bs 7 4 0 (U++ofTo gap tol s len D L n.1).length),(11,.slc (D.map dvV)),(12,.int .i64 len),(13,.int .i64 (n.1:Int))]++lfV L s) (lfB p tol gap (U++ofTo gap tol s len D L n.1))) (fun n=>p.ns.length-n.1) ⟨0,Nat.zero_le _⟩ ?_ ?_
   ·have e0:ofTo gap tol s len D L 0=[]:=rfl;simp only [e0,List.append_nil];refine Qaj (θ:=[(0,0),(1,1),(7,7)]) rfl ?_ ?_
    ·simp [Qac,lkp,ren1,ren0,Qah]
    ·exact⟨⟨rfl,rfl,rfl,rfl,rfl,.inr ⟨rfl,_,_,rfl,rfl,rfl,rfl⟩⟩,⟨rfl,rfl,rfl,rfl,rfl,.inr ⟨rfl,_,_,rfl,rfl,rfl,rfl⟩⟩,⟨rfl,rfl,rfl,rfl,rfl,.inl ⟨rfl,rfl⟩⟩,trivial⟩
   ·rintro⟨n,hn⟩;simp only;by_cases hC:n<p.ns.length
    ·have hC':=ltE hC;have m0:=nnE n;have hwn:=wrE (n:=n) (by omega);have hGl:(U++ofTo gap tol s len D L n).length≤20000:=by
      have:=hol n;rw [List.length_append];have h5:n*(2*D.length+L.length+1)≤5*(2*D.length+L.length+1):=Nat.mul_le_mul_right _ (by omega);generalize n*(2*D.length+L.length+1)=X at*;omega
     have hst:U++ofTo gap tol s len D L (n+1)=U++ofTo gap tol s len D L n++ofN gap tol s len D L (n:Int):=by rw [List.append_assoc];rfl
     unfold ofN at hst;rw [Zpb]at hst;generalize U++ofTo gap tol s len D L n=G at*;repeat simp -implicitDefEqProofs only [go_sem,seval,hC',List.length_map]
     refine Qas mixed (fun i:{i:Nat // i≤D.length}=>St.of ([(14,.bs 8 4 0 (insD (n:Int) len D i.1).length),(15,.int .i64 (i.1:Int)),(9,.bs 7 4 0 G.length),(11,.slc (D.map dvV)),(12,.int .i64 len),(13,.int .i64 (n:Int))]++lfV L s) (lfB p tol gap G++[(8,dvB (insD (n:Int) len D i.1))])) (fun i=>D.length-i.1) ⟨0,Nat.zero_le _⟩ ?_ ?_
     ·have e0:insD (n:Int) len D 0=[]:=rfl;refine Qnw 14 8 4 33 rfl rfl rfl (by decide) [(7,7),(0,0),(1,1),(8,8)] rfl ?_ ?_
      ·simp [Qac,lkp,ren1,ren0,Qah,e0]
      ·simp only [e0];exact⟨⟨rfl,rfl,rfl,rfl,rfl,.inr ⟨rfl,_,_,rfl,rfl,rfl,rfl⟩⟩,⟨rfl,rfl,rfl,rfl,rfl,.inr ⟨rfl,_,_,rfl,rfl,rfl,rfl⟩⟩,⟨rfl,rfl,rfl,rfl,rfl,.inl ⟨rfl,rfl⟩⟩,⟨rfl,rfl,rfl,rfl,rfl,.inl ⟨rfl,rfl⟩⟩,trivial⟩
     ·rintro⟨i,hi⟩;simp only;have hKl:=Qxk (n:Int) len D i;by_cases hB:i<D.length
      ·have hB':=ltE hB;have i0:=nnE i;have hwi:=wrE (n:=i) (by omega);have hgd:=Qkm D i hB;have hsg:insD (n:Int) len D (i+1)=insD (n:Int) len D i++(if inD (n:Int) len (D.getD i dv0)=true then [D.getD i dv0]else []):=rfl;unfold inD wiB at hsg;generalize D.getD i dv0=d at*;generalize insD (n:Int) len D i=K at*;cases hda:(d.a==(n:Int))with
       |false=>
        rw [bq,hda,Bool.false_and,if_neg (by decide),List.append_nil]at hsg;repeat simp -implicitDefEqProofs only [go_sem,seval,hB',i0,hgd,hda,hwi,Int.toNat_natCast,List.length_map]
        refine⟨⟨i+1, ‹_›⟩,by simp only;omega,?_⟩;simp only [hsg,lfB,dvB,List.map_append,List.length_append];refine Qaj (θ:=[(0,0),(1,1),(7,7),(8,8)]) rfl ?_ ?_
        ·simp [Qac,lkp,ren1,ren0,Qah]
        ·exact⟨⟨rfl,rfl,rfl,rfl,rfl,.inr ⟨rfl,_,_,rfl,rfl,rfl,rfl⟩⟩,⟨rfl,rfl,rfl,rfl,rfl,.inr ⟨rfl,_,_,rfl,rfl,rfl,rfl⟩⟩,⟨rfl,rfl,rfl,rfl,rfl,.inl ⟨rfl,rfl⟩⟩,⟨rfl,rfl,rfl,rfl,rfl,.inl ⟨rfl,rfl⟩⟩,trivial⟩
       |true=>
       rw [bq,hda,Bool.true_and]at hsg;by_cases hd0:0≤d.t
       case neg=>
        have hd0':=eq_false hd0;rw [decide_eq_false hd0,Bool.false_and,if_neg (by decide),List.append_nil]at hsg;repeat simp -implicitDefEqProofs only [go_sem,seval,hB',i0,hgd,hda,hd0',hwi,decide_false,Bool.true_and,Int.toNat_natCast,List.length_map]
        refine⟨⟨i+1, ‹_›⟩,by simp only;omega,?_⟩;simp only [hsg,lfB,dvB,List.map_append,List.length_append];refine Qaj (θ:=[(0,0),(1,1),(7,7),(8,8)]) rfl ?_ ?_
        ·simp [Qac,lkp,ren1,ren0,Qah]
        ·exact⟨⟨rfl,rfl,rfl,rfl,rfl,.inr ⟨rfl,_,_,rfl,rfl,rfl,rfl⟩⟩,⟨rfl,rfl,rfl,rfl,rfl,.inr ⟨rfl,_,_,rfl,rfl,rfl,rfl⟩⟩,⟨rfl,rfl,rfl,rfl,rfl,.inl ⟨rfl,rfl⟩⟩,⟨rfl,rfl,rfl,rfl,rfl,.inl ⟨rfl,rfl⟩⟩,trivial⟩
       have hd0':=eq_true hd0;by_cases hd1:d.t≤len
       case neg=>
        have hd1':=eq_false hd1;rw [decide_eq_false hd1,Bool.and_false,if_neg (by decide),List.append_nil]at hsg;repeat simp -implicitDefEqProofs only [go_sem,seval,hB',i0,hgd,hda,hd0',hd1',hwi,decide_false,decide_true,Bool.true_and,Int.toNat_natCast,List.length_map]
        refine⟨⟨i+1, ‹_›⟩,by simp only;omega,?_⟩;simp only [hsg,lfB,dvB,List.map_append,List.length_append];refine Qaj (θ:=[(0,0),(1,1),(7,7),(8,8)]) rfl ?_ ?_
        ·simp [Qac,lkp,ren1,ren0,Qah]
        ·exact⟨⟨rfl,rfl,rfl,rfl,rfl,.inr ⟨rfl,_,_,rfl,rfl,rfl,rfl⟩⟩,⟨rfl,rfl,rfl,rfl,rfl,.inr ⟨rfl,_,_,rfl,rfl,rfl,rfl⟩⟩,⟨rfl,rfl,rfl,rfl,rfl,.inl ⟨rfl,rfl⟩⟩,⟨rfl,rfl,rfl,rfl,rfl,.inl ⟨rfl,rfl⟩⟩,trivial⟩
       have hd1':=eq_true hd1;rw [decide_eq_true hd0,decide_eq_true hd1,Bool.true_and,if_pos rfl]at hsg;have hlt:(K.map dvV).length=K.length:=List.length_map ..;have hok:=Q48 K;have k1:((K.length+1)*32≤140737488355328)=True:=eq_true (by omega);have k2:(K.length+1≤maxLen)=True:=eq_true (by unfold maxLen;omega);repeat simp -implicitDefEqProofs only [go_sem,seval,hB',i0,hgd,hda,hd0',hd1',hwi,hlt,hok,k1,k2,decide_true,Bool.true_and,Int.toNat_natCast,List.length_map]
       refine⟨⟨i+1, ‹_›⟩,by simp only;omega,?_⟩;simp only [hsg,lfB,dvB,List.map_append,List.length_append];refine Qaj (θ:=[(0,0),(1,1),(7,7),(8,1606)]) rfl ?_ ?_
       ·simp [Qac,lkp,ren1,ren0,Qah]
       ·exact⟨⟨rfl,rfl,rfl,rfl,rfl,.inr ⟨rfl,_,_,rfl,rfl,rfl,rfl⟩⟩,⟨rfl,rfl,rfl,rfl,rfl,.inr ⟨rfl,_,_,rfl,rfl,rfl,rfl⟩⟩,⟨rfl,rfl,rfl,rfl,rfl,.inl ⟨rfl,rfl⟩⟩,⟨rfl,rfl,rfl,rfl,rfl,.inl ⟨rfl,rfl⟩⟩,trivial⟩
      ·have hB':=ltE' hB;obtain rfl:i=D.length:=by omega
       repeat simp -implicitDefEqProofs only [go_sem,seval,hB',List.length_map]
       generalize hKK:insD (n:Int) len D D.length=K at*;have hKd: ∀k,k<K.length→(0≤(K.getD k dv0).t∧(K.getD k dv0).t≤3600000):=by
        intro k hk;have hm:K.getD k dv0∈K:=by rw [List.getD_eq_getElem?_getD,List.getElem?_eq_getElem hk];exact List.getElem_mem _
        have h2:=(Q3r (n:Int) len D D.length (Nat.le_refl _) (K.getD k dv0) (by rw [hKK];exact hm)).2;unfold inD at h2;rw [Bool.and_eq_true]at h2;have:=Qb7.1 h2.2;omega
       clear hKK;obtain⟨G1,hG1⟩: ∃G1,G1=G++(if K.length=0 then [(⟨2,(n:Int),0,0⟩:Go.Dg.Fd)]else []):=⟨_,rfl⟩;have hG1l:G1.length≤21000:=by rw [hG1,List.length_append];split<;>simp<;>omega
       rw [←List.append_assoc,←List.append_assoc,←List.append_assoc,←hG1]at hst;have hlt:(G.map fdV).length=G.length:=List.length_map ..;have hok:=Qmg G;have k1:((G.length+1)*32≤140737488355328)=True:=eq_true (by omega);have k2:(G.length+1≤maxLen)=True:=eq_true (by unfold maxLen;omega);by_cases hK0:K.length=0
       case' pos=>
        have hc0:((K.length:Int)==0)=true:=by rw [hK0];rfl
        rw [if_pos hK0]at hG1
       case' neg=>
        have hc0:((K.length:Int)==0)=false:=beq_eq_false_iff_ne.2 (by omega);rw [if_neg hK0,List.append_nil]at hG1
       all_goals
        repeat simp -implicitDefEqProofs only [go_sem,seval,hc0,hlt,hok,k1,k2]
        refine Qas mixed (fun i:{i:Nat // i≤K.length}=>St.of ([(14,.bs 8 4 0 K.length),(16,.int .i64 (i.1:Int)),(9,.bs 7 4 0 (G1++gapT gap (n:Int) len K i.1).length),(11,.slc (D.map dvV)),(12,.int .i64 len),(13,.int .i64 (n:Int))]++lfV L s) (lfB p tol gap (G1++gapT gap (n:Int) len K i.1)++[(8,dvB K)])) (fun i=>K.length-i.1) ⟨0,Nat.zero_le _⟩ ?_ ?_
        ·simp only [Q3t,List.append_nil];rw [hG1];simp only [lfB,fdB,List.map_append,List.length_append]
         first
          |exact Qaj (θ:=[(0,0),(1,1),(7,1804),(8,8)]) rfl (by simp [Qac,lkp,ren1,ren0,Qah]) (by exact⟨⟨rfl,rfl,rfl,rfl,rfl,.inr ⟨rfl,_,_,rfl,rfl,rfl,rfl⟩⟩,⟨rfl,rfl,rfl,rfl,rfl,.inr ⟨rfl,_,_,rfl,rfl,rfl,rfl⟩⟩,⟨rfl,rfl,rfl,rfl,rfl,.inl ⟨rfl,rfl⟩⟩,⟨rfl,rfl,rfl,rfl,rfl,.inl ⟨rfl,rfl⟩⟩,trivial⟩)
          |exact Qaj (θ:=[(0,0),(1,1),(7,7),(8,8)]) rfl (by simp [Qac,lkp,ren1,ren0,Qah]) (by exact⟨⟨rfl,rfl,rfl,rfl,rfl,.inr ⟨rfl,_,_,rfl,rfl,rfl,rfl⟩⟩,⟨rfl,rfl,rfl,rfl,rfl,.inr ⟨rfl,_,_,rfl,rfl,rfl,rfl⟩⟩,⟨rfl,rfl,rfl,rfl,rfl,.inl ⟨rfl,rfl⟩⟩,⟨rfl,rfl,rfl,rfl,rfl,.inl ⟨rfl,rfl⟩⟩,trivial⟩)
        ·rintro⟨i,hi⟩;simp only;have hgl:=Zd3 gap (n:Int) len K i;have hKl2:K.length≤1000:=by omega
         by_cases hE:i<K.length
         ·rcases Nat.eq_zero_or_pos K.length with hKz|hKz
          ·exfalso;omega
          have hE':=ltE hE;have i0:=nnE i;have hwi:=wrE (n:=i) (by omega);have hgd:=Qkm K i hE;have hkd:=hKd i hE;have hsg:G1++gapT gap (n:Int) len K (i+1)=G1++gapT gap (n:Int) len K i++(if gap<(K.getD i dv0).t-(gapF gap n (K.take i)).last then [(⟨3,(n:Int),(K.getD i dv0).i,(K.getD i dv0).t⟩:Go.Dg.Fd)]else [])++Zd2 gap (n:Int) len K i:=by
           rw [Q3u hE];simp only [List.append_assoc]
          unfold Zd2 at hsg;have hAl:(G1++gapT gap (n:Int) len K i).length≤30000:=by rw [List.length_append];omega
          generalize G1++gapT gap (n:Int) len K i=A at*;have hkw:IntKind.i64.wrap ((K.length:Int)-1)=(K.length:Int)-1:=Qag (by omega) (by omega);have hlw:IntKind.i64.wrap (len-(K.getD i dv0).t)=len-(K.getD i dv0).t:=Qag (by omega) (by omega);have hAlt:(A.map fdV).length=A.length:=List.length_map ..;have hAok:=Qmg A;have j1:((A.length+1)*32≤140737488355328)=True:=eq_true (by omega);have j2:(A.length+1≤maxLen)=True:=eq_true (by unfold maxLen;omega);have j3:((A.length+1+1)*32≤140737488355328)=True:=eq_true (by omega);have j4:(A.length+1+1≤maxLen)=True:=eq_true (by unfold maxLen;omega);by_cases hp:0<i
          ·have c0:((0:Int)<(i:Int))=True:=eq_true (by omega);have hwm:IntKind.i64.wrap ((i:Int)-1)=((i-1:Nat):Int):=by rw [Qag (by omega) (by omega)];omega
           have nm:=nnE (i-1);have lm:=ltE (show i-1<K.length by omega);have hgm:=Qkm K (i-1) (by omega);have hkm:=hKd (i-1) (by omega);have hpv:=Q3s (gap:=gap) (n:=(n:Int)) (show i-1<K.length by omega);rw [show i-1+1=i by omega]at hpv;rw [hpv]at hsg;clear hpv;generalize K.getD i dv0=d at*;generalize K.getD (i-1) dv0=e at*;have htw:IntKind.i64.wrap (d.t-e.t)=d.t-e.t:=Qag (by omega) (by omega);by_cases hz:i+1=K.length
           ·have he:((i:Int)==(K.length:Int)-1)=true:=beq_iff_eq.2 (by omega);by_cases hq2:gap<len-d.t
            ·have hq2':=eq_true hq2;rw [if_pos (show i+1=K.length∧gap<len-d.t from⟨hz,hq2⟩)]at hsg;by_cases hq:gap<d.t-e.t
             ·have hq':=eq_true hq;rw [if_pos hq]at hsg;repeat (first|simp -implicitDefEqProofs only [go_sem,seval,hE',i0,hgd,hwi,c0,hwm,nm,lm,hgm,htw,hkw,hlw,hq',he,hq2',hAlt,hAok,j1,j2,j3,j4,Q5m,Q5n,decide_true,Bool.true_and,Int.toNat_natCast]|(with_reducible refine And.intro (Qad _ _ (by kernel_rfl)) ?_))
              refine⟨⟨i+1, ‹_›⟩,by simp only;omega,?_⟩;simp only [hsg,lfB,fdB,List.map_append,List.length_append];refine Qaj (θ:=[(0,0),(1,1),(7,2810),(8,8)]) rfl ?_ ?_
              ·simp [Qac,lkp,ren1,ren0,Qah]
              ·exact⟨⟨rfl,rfl,rfl,rfl,rfl,.inr ⟨rfl,_,_,rfl,rfl,rfl,rfl⟩⟩,⟨rfl,rfl,rfl,rfl,rfl,.inr ⟨rfl,_,_,rfl,rfl,rfl,rfl⟩⟩,⟨rfl,rfl,rfl,rfl,rfl,.inl ⟨rfl,rfl⟩⟩,⟨rfl,rfl,rfl,rfl,rfl,.inl ⟨rfl,rfl⟩⟩,trivial⟩
             ·have hq':=eq_false hq;rw [if_neg hq,List.append_nil]at hsg;repeat (first|simp -implicitDefEqProofs only [go_sem,seval,hE',i0,hgd,hwi,c0,hwm,nm,lm,hgm,htw,hkw,hlw,hq',he,hq2',hAlt,hAok,j1,j2,decide_true,decide_false,Bool.true_and,Int.toNat_natCast]|(with_reducible refine And.intro (Qad _ _ (by kernel_rfl)) ?_))
              refine⟨⟨i+1, ‹_›⟩,by simp only;omega,?_⟩;simp only [hsg,lfB,fdB,List.map_append,List.length_append];refine Qaj (θ:=[(0,0),(1,1),(7,2810),(8,8)]) rfl ?_ ?_
              ·simp [Qac,lkp,ren1,ren0,Qah]
              ·exact⟨⟨rfl,rfl,rfl,rfl,rfl,.inr ⟨rfl,_,_,rfl,rfl,rfl,rfl⟩⟩,⟨rfl,rfl,rfl,rfl,rfl,.inr ⟨rfl,_,_,rfl,rfl,rfl,rfl⟩⟩,⟨rfl,rfl,rfl,rfl,rfl,.inl ⟨rfl,rfl⟩⟩,⟨rfl,rfl,rfl,rfl,rfl,.inl ⟨rfl,rfl⟩⟩,trivial⟩
            ·have hq2':=eq_false hq2;rw [if_neg (show¬(i+1=K.length∧gap<len-d.t)from fun x=>hq2 x.2),List.append_nil]at hsg;by_cases hq:gap<d.t-e.t
             ·have hq':=eq_true hq;rw [if_pos hq]at hsg;repeat (first|simp -implicitDefEqProofs only [go_sem,seval,hE',i0,hgd,hwi,c0,hwm,nm,lm,hgm,htw,hkw,hlw,hq',he,hq2',hAlt,hAok,j1,j2,decide_true,decide_false,Bool.true_and,Int.toNat_natCast]|(with_reducible refine And.intro (Qad _ _ (by kernel_rfl)) ?_))
              refine⟨⟨i+1, ‹_›⟩,by simp only;omega,?_⟩;simp only [hsg,lfB,fdB,List.map_append,List.length_append];refine Qaj (θ:=[(0,0),(1,1),(7,2614),(8,8)]) rfl ?_ ?_
              ·simp [Qac,lkp,ren1,ren0,Qah]
              ·exact⟨⟨rfl,rfl,rfl,rfl,rfl,.inr ⟨rfl,_,_,rfl,rfl,rfl,rfl⟩⟩,⟨rfl,rfl,rfl,rfl,rfl,.inr ⟨rfl,_,_,rfl,rfl,rfl,rfl⟩⟩,⟨rfl,rfl,rfl,rfl,rfl,.inl ⟨rfl,rfl⟩⟩,⟨rfl,rfl,rfl,rfl,rfl,.inl ⟨rfl,rfl⟩⟩,trivial⟩
             ·have hq':=eq_false hq;rw [if_neg hq,List.append_nil]at hsg;repeat (first|simp -implicitDefEqProofs only [go_sem,seval,hE',i0,hgd,hwi,c0,hwm,nm,lm,hgm,htw,hkw,hlw,hq',he,hq2',decide_true,decide_false,Bool.true_and,Int.toNat_natCast]|(with_reducible refine And.intro (Qad _ _ (by kernel_rfl)) ?_))
              refine⟨⟨i+1, ‹_›⟩,by simp only;omega,?_⟩;simp only [hsg,lfB,fdB,List.map_append,List.length_append];refine Qaj (θ:=[(0,0),(1,1),(7,7),(8,8)]) rfl ?_ ?_
              ·simp [Qac,lkp,ren1,ren0,Qah]
              ·exact⟨⟨rfl,rfl,rfl,rfl,rfl,.inr ⟨rfl,_,_,rfl,rfl,rfl,rfl⟩⟩,⟨rfl,rfl,rfl,rfl,rfl,.inr ⟨rfl,_,_,rfl,rfl,rfl,rfl⟩⟩,⟨rfl,rfl,rfl,rfl,rfl,.inl ⟨rfl,rfl⟩⟩,⟨rfl,rfl,rfl,rfl,rfl,.inl ⟨rfl,rfl⟩⟩,trivial⟩
           ·have he:((i:Int)==(K.length:Int)-1)=false:=beq_eq_false_iff_ne.2 (by omega);have hq2':True:=trivial;rw [if_neg (show¬(i+1=K.length∧gap<len-d.t)from fun x=>hz x.1),List.append_nil]at hsg;by_cases hq:gap<d.t-e.t
            ·have hq':=eq_true hq;rw [if_pos hq]at hsg;repeat (first|simp -implicitDefEqProofs only [go_sem,seval,hE',i0,hgd,hwi,c0,hwm,nm,lm,hgm,htw,hkw,hq',he,hAlt,hAok,j1,j2,decide_true,Bool.true_and,Int.toNat_natCast]|(with_reducible refine And.intro (Qad _ _ (by kernel_rfl)) ?_))
             refine⟨⟨i+1, ‹_›⟩,by simp only;omega,?_⟩;simp only [hsg,lfB,fdB,List.map_append,List.length_append];refine Qaj (θ:=[(0,0),(1,1),(7,2614),(8,8)]) rfl ?_ ?_
             ·simp [Qac,lkp,ren1,ren0,Qah]
             ·exact⟨⟨rfl,rfl,rfl,rfl,rfl,.inr ⟨rfl,_,_,rfl,rfl,rfl,rfl⟩⟩,⟨rfl,rfl,rfl,rfl,rfl,.inr ⟨rfl,_,_,rfl,rfl,rfl,rfl⟩⟩,⟨rfl,rfl,rfl,rfl,rfl,.inl ⟨rfl,rfl⟩⟩,⟨rfl,rfl,rfl,rfl,rfl,.inl ⟨rfl,rfl⟩⟩,trivial⟩
            ·have hq':=eq_false hq;rw [if_neg hq,List.append_nil]at hsg;repeat (first|simp -implicitDefEqProofs only [go_sem,seval,hE',i0,hgd,hwi,c0,hwm,nm,lm,hgm,htw,hkw,hq',he,decide_true,decide_false,Bool.true_and,Int.toNat_natCast]|(with_reducible refine And.intro (Qad _ _ (by kernel_rfl)) ?_))
             refine⟨⟨i+1, ‹_›⟩,by simp only;omega,?_⟩;simp only [hsg,lfB,fdB,List.map_append,List.length_append];refine Qaj (θ:=[(0,0),(1,1),(7,7),(8,8)]) rfl ?_ ?_
             ·simp [Qac,lkp,ren1,ren0,Qah]
             ·exact⟨⟨rfl,rfl,rfl,rfl,rfl,.inr ⟨rfl,_,_,rfl,rfl,rfl,rfl⟩⟩,⟨rfl,rfl,rfl,rfl,rfl,.inr ⟨rfl,_,_,rfl,rfl,rfl,rfl⟩⟩,⟨rfl,rfl,rfl,rfl,rfl,.inl ⟨rfl,rfl⟩⟩,⟨rfl,rfl,rfl,rfl,rfl,.inl ⟨rfl,rfl⟩⟩,trivial⟩
          ·have c0:((0:Int)<(i:Int))=False:=eq_false (by omega);rw [show K.take i=[]by rw [show i=0 by omega];rfl,show(gapF gap (n:Int) []).last=0 from rfl]at hsg;generalize K.getD i dv0=d at*;have htw:IntKind.i64.wrap (d.t-0)=d.t-0:=Qag (by omega) (by omega);by_cases hz:i+1=K.length
           ·have he:((i:Int)==(K.length:Int)-1)=true:=beq_iff_eq.2 (by omega);by_cases hq2:gap<len-d.t
            ·have hq2':=eq_true hq2;rw [if_pos (show i+1=K.length∧gap<len-d.t from⟨hz,hq2⟩)]at hsg;by_cases hq:gap<d.t-0
             ·have hq':=eq_true hq;rw [if_pos hq]at hsg;repeat (first|simp -implicitDefEqProofs only [go_sem,seval,hE',i0,hgd,hwi,c0,htw,hkw,hlw,hq',he,hq2',hAlt,hAok,j1,j2,j3,j4,Q5m,Q5n,decide_true,decide_false,Bool.true_and,Int.toNat_natCast]|(with_reducible refine And.intro (Qad _ _ (by kernel_rfl)) ?_))
              refine⟨⟨i+1, ‹_›⟩,by simp only;omega,?_⟩;simp only [hsg,lfB,fdB,List.map_append,List.length_append];refine Qaj (θ:=[(0,0),(1,1),(7,2810),(8,8)]) rfl ?_ ?_
              ·simp [Qac,lkp,ren1,ren0,Qah]
              ·exact⟨⟨rfl,rfl,rfl,rfl,rfl,.inr ⟨rfl,_,_,rfl,rfl,rfl,rfl⟩⟩,⟨rfl,rfl,rfl,rfl,rfl,.inr ⟨rfl,_,_,rfl,rfl,rfl,rfl⟩⟩,⟨rfl,rfl,rfl,rfl,rfl,.inl ⟨rfl,rfl⟩⟩,⟨rfl,rfl,rfl,rfl,rfl,.inl ⟨rfl,rfl⟩⟩,trivial⟩
             ·have hq':=eq_false hq;rw [if_neg hq,List.append_nil]at hsg;repeat (first|simp -implicitDefEqProofs only [go_sem,seval,hE',i0,hgd,hwi,c0,htw,hkw,hlw,hq',he,hq2',hAlt,hAok,j1,j2,decide_true,decide_false,Bool.true_and,Int.toNat_natCast]|(with_reducible refine And.intro (Qad _ _ (by kernel_rfl)) ?_))
              refine⟨⟨i+1, ‹_›⟩,by simp only;omega,?_⟩;simp only [hsg,lfB,fdB,List.map_append,List.length_append];refine Qaj (θ:=[(0,0),(1,1),(7,2810),(8,8)]) rfl ?_ ?_
              ·simp [Qac,lkp,ren1,ren0,Qah]
              ·exact⟨⟨rfl,rfl,rfl,rfl,rfl,.inr ⟨rfl,_,_,rfl,rfl,rfl,rfl⟩⟩,⟨rfl,rfl,rfl,rfl,rfl,.inr ⟨rfl,_,_,rfl,rfl,rfl,rfl⟩⟩,⟨rfl,rfl,rfl,rfl,rfl,.inl ⟨rfl,rfl⟩⟩,⟨rfl,rfl,rfl,rfl,rfl,.inl ⟨rfl,rfl⟩⟩,trivial⟩
            ·have hq2':=eq_false hq2;rw [if_neg (show¬(i+1=K.length∧gap<len-d.t)from fun x=>hq2 x.2),List.append_nil]at hsg;by_cases hq:gap<d.t-0
             ·have hq':=eq_true hq;rw [if_pos hq]at hsg;repeat (first|simp -implicitDefEqProofs only [go_sem,seval,hE',i0,hgd,hwi,c0,htw,hkw,hlw,hq',he,hq2',hAlt,hAok,j1,j2,decide_true,decide_false,Bool.true_and,Int.toNat_natCast]|(with_reducible refine And.intro (Qad _ _ (by kernel_rfl)) ?_))
              refine⟨⟨i+1, ‹_›⟩,by simp only;omega,?_⟩;simp only [hsg,lfB,fdB,List.map_append,List.length_append];refine Qaj (θ:=[(0,0),(1,1),(7,2614),(8,8)]) rfl ?_ ?_
              ·simp [Qac,lkp,ren1,ren0,Qah]
              ·exact⟨⟨rfl,rfl,rfl,rfl,rfl,.inr ⟨rfl,_,_,rfl,rfl,rfl,rfl⟩⟩,⟨rfl,rfl,rfl,rfl,rfl,.inr ⟨rfl,_,_,rfl,rfl,rfl,rfl⟩⟩,⟨rfl,rfl,rfl,rfl,rfl,.inl ⟨rfl,rfl⟩⟩,⟨rfl,rfl,rfl,rfl,rfl,.inl ⟨rfl,rfl⟩⟩,trivial⟩
             ·have hq':=eq_false hq;rw [if_neg hq,List.append_nil]at hsg;repeat (first|simp -implicitDefEqProofs only [go_sem,seval,hE',i0,hgd,hwi,c0,htw,hkw,hlw,hq',he,hq2',decide_true,decide_false,Bool.true_and,Int.toNat_natCast]|(with_reducible refine And.intro (Qad _ _ (by kernel_rfl)) ?_))
              refine⟨⟨i+1, ‹_›⟩,by simp only;omega,?_⟩;simp only [hsg,lfB,fdB,List.map_append,List.length_append];refine Qaj (θ:=[(0,0),(1,1),(7,7),(8,8)]) rfl ?_ ?_
              ·simp [Qac,lkp,ren1,ren0,Qah]
              ·exact⟨⟨rfl,rfl,rfl,rfl,rfl,.inr ⟨rfl,_,_,rfl,rfl,rfl,rfl⟩⟩,⟨rfl,rfl,rfl,rfl,rfl,.inr ⟨rfl,_,_,rfl,rfl,rfl,rfl⟩⟩,⟨rfl,rfl,rfl,rfl,rfl,.inl ⟨rfl,rfl⟩⟩,⟨rfl,rfl,rfl,rfl,rfl,.inl ⟨rfl,rfl⟩⟩,trivial⟩
           ·have he:((i:Int)==(K.length:Int)-1)=false:=beq_eq_false_iff_ne.2 (by omega);have hq2':True:=trivial;rw [if_neg (show¬(i+1=K.length∧gap<len-d.t)from fun x=>hz x.1),List.append_nil]at hsg;by_cases hq:gap<d.t-0
            ·have hq':=eq_true hq;rw [if_pos hq]at hsg;repeat (first|simp -implicitDefEqProofs only [go_sem,seval,hE',i0,hgd,hwi,c0,htw,hkw,hq',he,hAlt,hAok,j1,j2,decide_true,decide_false,Bool.true_and,Int.toNat_natCast]|(with_reducible refine And.intro (Qad _ _ (by kernel_rfl)) ?_))
             refine⟨⟨i+1, ‹_›⟩,by simp only;omega,?_⟩;simp only [hsg,lfB,fdB,List.map_append,List.length_append];refine Qaj (θ:=[(0,0),(1,1),(7,2614),(8,8)]) rfl ?_ ?_
             ·simp [Qac,lkp,ren1,ren0,Qah]
             ·exact⟨⟨rfl,rfl,rfl,rfl,rfl,.inr ⟨rfl,_,_,rfl,rfl,rfl,rfl⟩⟩,⟨rfl,rfl,rfl,rfl,rfl,.inr ⟨rfl,_,_,rfl,rfl,rfl,rfl⟩⟩,⟨rfl,rfl,rfl,rfl,rfl,.inl ⟨rfl,rfl⟩⟩,⟨rfl,rfl,rfl,rfl,rfl,.inl ⟨rfl,rfl⟩⟩,trivial⟩
            ·have hq':=eq_false hq;rw [if_neg hq,List.append_nil]at hsg;repeat (first|simp -implicitDefEqProofs only [go_sem,seval,hE',i0,hgd,hwi,c0,htw,hkw,hq',he,decide_true,decide_false,Bool.true_and,Int.toNat_natCast]|(with_reducible refine And.intro (Qad _ _ (by kernel_rfl)) ?_))
             refine⟨⟨i+1, ‹_›⟩,by simp only;omega,?_⟩;simp only [hsg,lfB,fdB,List.map_append,List.length_append];refine Qaj (θ:=[(0,0),(1,1),(7,7),(8,8)]) rfl ?_ ?_
             ·simp [Qac,lkp,ren1,ren0,Qah]
             ·exact⟨⟨rfl,rfl,rfl,rfl,rfl,.inr ⟨rfl,_,_,rfl,rfl,rfl,rfl⟩⟩,⟨rfl,rfl,rfl,rfl,rfl,.inr ⟨rfl,_,_,rfl,rfl,rfl,rfl⟩⟩,⟨rfl,rfl,rfl,rfl,rfl,.inl ⟨rfl,rfl⟩⟩,⟨rfl,rfl,rfl,rfl,rfl,.inl ⟨rfl,rfl⟩⟩,trivial⟩
         ·have hE':=ltE' hE;obtain rfl:i=K.length:=by omega
          repeat simp -implicitDefEqProofs only [go_sem,seval,hE',List.length_map]
          generalize hG2:G1++gapT gap (n:Int) len K K.length=G2 at*;have hG2l:G2.length≤25000:=by rw [←hG2,List.length_append];omega
          clear hG2;refine Qas mixed (fun i:{i:Nat // i≤D.length}=>St.of ([(18,.int .i64 (i.1:Int)),(9,.bs 7 4 0 (G2++offs tol (n:Int) D i.1).length),(11,.slc (D.map dvV)),(12,.int .i64 len),(13,.int .i64 (n:Int))]++lfV L s) (lfB p tol gap (G2++offs tol (n:Int) D i.1))) (fun i=>D.length-i.1) ⟨0,Nat.zero_le _⟩ ?_ ?_
          ·have e0:offs tol (n:Int) D 0=[]:=rfl;simp only [e0,List.append_nil];refine Qaj (θ:=[(0,0),(1,1),(7,7)]) rfl ?_ ?_
           ·simp [Qac,lkp,ren1,ren0,Qah]
           ·exact⟨⟨rfl,rfl,rfl,rfl,rfl,.inr ⟨rfl,_,_,rfl,rfl,rfl,rfl⟩⟩,⟨rfl,rfl,rfl,rfl,rfl,.inr ⟨rfl,_,_,rfl,rfl,rfl,rfl⟩⟩,⟨rfl,rfl,rfl,rfl,rfl,.inl ⟨rfl,rfl⟩⟩,trivial⟩
          ·rintro⟨i,hi⟩;simp only;have hlo:=Qgz tol (n:Int) D i;by_cases hE:i<D.length
           ·have hE':=ltE hE;have i0:=nnE i;have hwi:=wrE (n:=i) (by omega);have hgd:=Qkm D i hE;have hsg:G2++offs tol (n:Int) D (i+1)=G2++offs tol (n:Int) D i++off1 tol (n:Int) (D.getD i dv0):=by rw [List.append_assoc];rfl
            unfold off1 at hsg;have hAl:(G2++offs tol (n:Int) D i).length≤30000:=by rw [List.length_append];omega
            generalize G2++offs tol (n:Int) D i=A at*;generalize D.getD i dv0=d at*;have hAlt:(A.map fdV).length=A.length:=List.length_map ..;have hAok:=Qmg A;have j1:((A.length+1)*32≤140737488355328)=True:=eq_true (by omega);have j2:(A.length+1≤maxLen)=True:=eq_true (by unfold maxLen;omega);cases hda:(d.a==(n:Int))with
            |false=>
             rw [bq,hda,Bool.false_and,if_neg (by decide),List.append_nil]at hsg;repeat (first|simp -implicitDefEqProofs only [go_sem,seval,hE',i0,hgd,hda,hwi,Int.toNat_natCast,List.length_map]|(with_reducible refine And.intro (Qad _ _ (by kernel_rfl)) ?_))
             refine⟨⟨i+1, ‹_›⟩,by simp only;omega,?_⟩;simp only [hsg,lfB,fdB,List.map_append,List.length_append];refine Qaj (θ:=[(0,0),(1,1),(7,7)]) rfl ?_ ?_
             ·simp [Qac,lkp,ren1,ren0,Qah]
             ·exact⟨⟨rfl,rfl,rfl,rfl,rfl,.inr ⟨rfl,_,_,rfl,rfl,rfl,rfl⟩⟩,⟨rfl,rfl,rfl,rfl,rfl,.inr ⟨rfl,_,_,rfl,rfl,rfl,rfl⟩⟩,⟨rfl,rfl,rfl,rfl,rfl,.inl ⟨rfl,rfl⟩⟩,trivial⟩
            |true=>
            rw [bq,hda,Bool.true_and]at hsg;by_cases hgq:tol*tol<d.q
            ·have hgq':=eq_true hgq;rw [decide_eq_true hgq,if_pos rfl]at hsg;repeat (first|simp -implicitDefEqProofs only [go_sem,seval,hE',i0,hgd,hda,hwi,htq,hgq',hAlt,hAok,j1,j2,decide_true,Bool.true_and,Int.toNat_natCast,List.length_map]|(with_reducible refine And.intro (Qad _ _ (by kernel_rfl)) ?_))
             refine⟨⟨i+1, ‹_›⟩,by simp only;omega,?_⟩;simp only [hsg,lfB,fdB,List.map_append,List.length_append];refine Qaj (θ:=[(0,0),(1,1),(7,3314)]) rfl ?_ ?_
             ·simp [Qac,lkp,ren1,ren0,Qah]
             ·exact⟨⟨rfl,rfl,rfl,rfl,rfl,.inr ⟨rfl,_,_,rfl,rfl,rfl,rfl⟩⟩,⟨rfl,rfl,rfl,rfl,rfl,.inr ⟨rfl,_,_,rfl,rfl,rfl,rfl⟩⟩,⟨rfl,rfl,rfl,rfl,rfl,.inl ⟨rfl,rfl⟩⟩,trivial⟩
            ·have hgq':=eq_false hgq;rw [decide_eq_false hgq,if_neg (by decide),List.append_nil]at hsg;repeat (first|simp -implicitDefEqProofs only [go_sem,seval,hE',i0,hgd,hda,hwi,htq,hgq',decide_false,Bool.true_and,Int.toNat_natCast,List.length_map]|(with_reducible refine And.intro (Qad _ _ (by kernel_rfl)) ?_))
             refine⟨⟨i+1, ‹_›⟩,by simp only;omega,?_⟩;simp only [hsg,lfB,fdB,List.map_append,List.length_append];refine Qaj (θ:=[(0,0),(1,1),(7,7)]) rfl ?_ ?_
             ·simp [Qac,lkp,ren1,ren0,Qah]
             ·exact⟨⟨rfl,rfl,rfl,rfl,rfl,.inr ⟨rfl,_,_,rfl,rfl,rfl,rfl⟩⟩,⟨rfl,rfl,rfl,rfl,rfl,.inr ⟨rfl,_,_,rfl,rfl,rfl,rfl⟩⟩,⟨rfl,rfl,rfl,rfl,rfl,.inl ⟨rfl,rfl⟩⟩,trivial⟩
           ·have hE':=ltE' hE;obtain rfl:i=D.length:=by omega
            repeat simp -implicitDefEqProofs only [go_sem,seval,hE',List.length_map]
            generalize hG3:G2++offs tol (n:Int) D D.length=G3 at*;have hG3l:G3.length≤27000:=by rw [←hG3,List.length_append];omega
            clear hG3;refine Qas mixed (fun i:{i:Nat // i≤L.length}=>St.of ([(19,.int .i64 (stA s (n:Int) L i.1).bef),(20,.int .i64 (i.1:Int)),(9,.bs 7 4 0 (G3++(stA s (n:Int) L i.1).out).length),(11,.slc (D.map dvV)),(12,.int .i64 len),(13,.int .i64 (n:Int))]++lfV L s) (lfB p tol gap (G3++(stA s (n:Int) L i.1).out))) (fun i=>L.length-i.1) ⟨0,Nat.zero_le _⟩ ?_ ?_
            ·have e0:stA s (n:Int) L 0=⟨0,[]⟩:=rfl;simp only [e0,List.append_nil];refine Qaj (θ:=[(0,0),(1,1),(7,7)]) rfl ?_ ?_
             ·simp [Qac,lkp,ren1,ren0,Qah]
             ·exact⟨⟨rfl,rfl,rfl,rfl,rfl,.inr ⟨rfl,_,_,rfl,rfl,rfl,rfl⟩⟩,⟨rfl,rfl,rfl,rfl,rfl,.inr ⟨rfl,_,_,rfl,rfl,rfl,rfl⟩⟩,⟨rfl,rfl,rfl,rfl,rfl,.inl ⟨rfl,rfl⟩⟩,trivial⟩
            ·rintro⟨i,hi⟩;simp only;have hls:=Quf s (n:Int) L i;by_cases hF:i<L.length
             ·have hF':=ltE hF;have i0:=nnE i;have hwi:=wrE (n:=i) (by omega);have hgr:=Qga L i hF;have hfi:=Qcq (hL i hF);have hsg:stA s (n:Int) L (i+1)=if isS (n:Int) (stA s (n:Int) L i).bef (L.getD i rc0)=true then⟨(L.getD i rc0).s,if Qd1 (stA s (n:Int) L i).bef (L.getD i rc0).s=true then(stA s (n:Int) L i).out else(stA s (n:Int) L i).out++[⟨5,(n:Int),i,(L.getD i rc0).t-s⟩]⟩else stA s (n:Int) L i:=rfl;unfold isS at hsg;rw [show(n:Int)+1=((n+1:Nat):Int)by omega]at hsg;generalize L.getD i rc0=r at*;generalize stA s (n:Int) L i=q at*;cases hk:(r.k==2)with
              |false=>
               have hk':(r.k != 2)=true:=by simp [bne,hk]
               rw [bq,hk,Bool.false_and,if_neg (by decide)]at hsg;repeat simp -implicitDefEqProofs only [go_sem,seval,hF',i0,hgr,hk',hwi,hwn,Int.toNat_natCast,List.length_map]
               refine⟨⟨i+1, ‹_›⟩,by simp only;omega,?_⟩;simp only [hsg,lfB,fdB,List.map_append,List.length_append];refine Qaj (θ:=[(0,0),(1,1),(7,7)]) rfl ?_ ?_
               ·simp [Qac,lkp,ren1,ren0,Qah]
               ·exact⟨⟨rfl,rfl,rfl,rfl,rfl,.inr ⟨rfl,_,_,rfl,rfl,rfl,rfl⟩⟩,⟨rfl,rfl,rfl,rfl,rfl,.inr ⟨rfl,_,_,rfl,rfl,rfl,rfl⟩⟩,⟨rfl,rfl,rfl,rfl,rfl,.inl ⟨rfl,rfl⟩⟩,trivial⟩
              |true=>
              have hk':(r.k != 2)=false:=by simp [bne,hk]
              cases ha:(r.a==((n+1:Nat):Int))with
              |false=>
               have ha':(r.a != ((n+1:Nat):Int))=true:=by rw [bne,ha];rfl
               rw [bq,hk,bq,ha,Bool.false_and,Bool.and_false,if_neg (by decide)]at hsg;repeat simp -implicitDefEqProofs only [go_sem,seval,hF',i0,hgr,hk',ha',hwi,hwn,Int.toNat_natCast,List.length_map]
               refine⟨⟨i+1, ‹_›⟩,by simp only;omega,?_⟩;simp only [hsg,lfB,fdB,List.map_append,List.length_append];refine Qaj (θ:=[(0,0),(1,1),(7,7)]) rfl ?_ ?_
               ·simp [Qac,lkp,ren1,ren0,Qah]
               ·exact⟨⟨rfl,rfl,rfl,rfl,rfl,.inr ⟨rfl,_,_,rfl,rfl,rfl,rfl⟩⟩,⟨rfl,rfl,rfl,rfl,rfl,.inr ⟨rfl,_,_,rfl,rfl,rfl,rfl⟩⟩,⟨rfl,rfl,rfl,rfl,rfl,.inl ⟨rfl,rfl⟩⟩,trivial⟩
              |true=>
              have ha':(r.a != ((n+1:Nat):Int))=false:=by rw [bne,ha];rfl
              cases hb:(r.s==q.bef)with
              |true=>
               rw [bq,hk,bq,ha,bq,hb,Bool.not_true,Bool.and_false,Bool.and_false,if_neg (by decide)]at hsg;repeat simp -implicitDefEqProofs only [go_sem,seval,hF',i0,hgr,hk',ha',hb,hwi,hwn,Int.toNat_natCast,List.length_map]
               refine⟨⟨i+1, ‹_›⟩,by simp only;omega,?_⟩;simp only [hsg,lfB,fdB,List.map_append,List.length_append];refine Qaj (θ:=[(0,0),(1,1),(7,7)]) rfl ?_ ?_
               ·simp [Qac,lkp,ren1,ren0,Qah]
               ·exact⟨⟨rfl,rfl,rfl,rfl,rfl,.inr ⟨rfl,_,_,rfl,rfl,rfl,rfl⟩⟩,⟨rfl,rfl,rfl,rfl,rfl,.inr ⟨rfl,_,_,rfl,rfl,rfl,rfl⟩⟩,⟨rfl,rfl,rfl,rfl,rfl,.inl ⟨rfl,rfl⟩⟩,trivial⟩
              |false=>
              rw [bq,hk,bq,ha,bq,hb,Bool.not_false,Bool.and_true,Bool.and_true,if_pos rfl]at hsg;have hfo:=Qz3 q.bef r.s;have htw:IntKind.i64.wrap (r.t-s)=r.t-s:=Qag (by omega) (by omega);have hAl:(G3++q.out).length≤30000:=by rw [List.length_append];omega
              have hAlt:((G3++q.out).map fdV).length=(G3++q.out).length:=List.length_map ..;have hAok:=Qmg (G3++q.out);have j1:(((G3++q.out).length+1)*32≤140737488355328)=True:=eq_true (by omega);have j2:((G3++q.out).length+1≤maxLen)=True:=eq_true (by unfold maxLen;omega);cases hff:Qd1 q.bef r.s with
              |true=>
               rw [hff]at hfo hsg;simp only [ite_true]at hsg;repeat (first|simp -implicitDefEqProofs only [go_sem,seval,hF',i0,hgr,hk',ha',hb,hwi,hwn,Bool.not_true,Int.toNat_natCast,List.length_map]|(with_reducible refine Qaa hfo ?_ ?_ ?_);rfl;rfl)
               refine⟨⟨i+1, ‹_›⟩,by simp only;omega,?_⟩;simp only [hsg,lfB,fdB,List.map_append,List.length_append];refine Qaj (θ:=[(0,0),(1,1),(7,7)]) rfl ?_ ?_
               ·simp [Qac,lkp,ren1,ren0,Qah]
               ·exact⟨⟨rfl,rfl,rfl,rfl,rfl,.inr ⟨rfl,_,_,rfl,rfl,rfl,rfl⟩⟩,⟨rfl,rfl,rfl,rfl,rfl,.inr ⟨rfl,_,_,rfl,rfl,rfl,rfl⟩⟩,⟨rfl,rfl,rfl,rfl,rfl,.inl ⟨rfl,rfl⟩⟩,trivial⟩
              |false=>
               rw [hff]at hfo hsg;simp only [Bool.false_eq_true,ite_false]at hsg;repeat (first|simp -implicitDefEqProofs only [go_sem,seval,hF',i0,hgr,hk',ha',hb,hwi,hwn,htw,hAlt,hAok,j1,j2,Bool.not_false,Int.toNat_natCast,List.length_map]|(with_reducible refine Qaa hfo ?_ ?_ ?_);rfl;rfl)
               refine⟨⟨i+1, ‹_›⟩,by simp only;omega,?_⟩;simp only [hsg,←List.append_assoc];simp only [hsg,lfB,fdB,List.map_append,List.length_append];refine Qaj (θ:=[(0,0),(1,1),(7,4012)]) rfl ?_ ?_
               ·simp [Qac,lkp,ren1,ren0,Qah]
               ·exact⟨⟨rfl,rfl,rfl,rfl,rfl,.inr ⟨rfl,_,_,rfl,rfl,rfl,rfl⟩⟩,⟨rfl,rfl,rfl,rfl,rfl,.inr ⟨rfl,_,_,rfl,rfl,rfl,rfl⟩⟩,⟨rfl,rfl,rfl,rfl,rfl,.inl ⟨rfl,rfl⟩⟩,trivial⟩
             ·have hF':=ltE' hF;obtain rfl:i=L.length:=by omega
              repeat simp -implicitDefEqProofs only [go_sem,seval,hF',hwn,List.length_map]
              refine⟨⟨n+1,hC⟩,by simp only;omega,?_⟩;simp only [hst,lfB,fdB,List.map_append,List.length_append];refine Qaj (θ:=[(0,0),(1,1),(7,7)]) rfl ?_ ?_
              ·simp [Qac,lkp,ren1,ren0,Qah]
              ·exact⟨⟨rfl,rfl,rfl,rfl,rfl,.inr ⟨rfl,_,_,rfl,rfl,rfl,rfl⟩⟩,⟨rfl,rfl,rfl,rfl,rfl,.inr ⟨rfl,_,_,rfl,rfl,rfl,rfl⟩⟩,⟨rfl,rfl,rfl,rfl,rfl,.inl ⟨rfl,rfl⟩⟩,trivial⟩
    ·have hC':=ltE' hC;obtain rfl:n=p.ns.length:=by omega
     have hlt:((U++ofTo gap tol s len D L p.ns.length).map fdV).length=(U++ofTo gap tol s len D L p.ns.length).length:=List.length_map ..;have htk:((U++ofTo gap tol s len D L p.ns.length).map fdV).take (U++ofTo gap tol s len D L p.ns.length).length=(U++ofTo gap tol s len D L p.ns.length).map fdV:=List.take_of_length_le (by omega);generalize U++ofTo gap tol s len D L p.ns.length=F at*;repeat simp -implicitDefEqProofs only [go_sem,seval,hC',hlt,htk,List.length_map]
theorem Qz4 (p:Pg) (hf:FewP p) (s tol gap:Int) (L:List Rc) (hl:L.length≤1000):(Qdg p s tol gap L).length≤100000:=by
 have h1:=Qh7 p.ns.length s L L.length;have h2:=Qew p.ns.length s (sqR p s) L L.length;have h3:=Qg0 gap tol s (begT p p.as_.length) (devs p.ns.length s (sqR p s) L L.length) L p.ns.length;have h4:=hf.1;unfold Qdg finds;generalize devs p.ns.length s (sqR p s) L L.length=D at*;rw [List.length_append];have h5:p.ns.length*(2*D.length+L.length+1)≤5*(2*D.length+L.length+1):=Nat.mul_le_mul_right _ (by omega);generalize p.ns.length*(2*D.length+L.length+1)=X at*;omega
theorem Qsk (f:Nat→Int): ∀n,(∀k,k<n→f k=0)∨ ∃i,i<n∧f i≠0∧ ∀k,k<i→f k=0
 |0=> .inl fun k h=>absurd h (Nat.not_lt_zero k)
 |n+1=>by
  rcases Qsk f n with h|⟨i,h1,h2⟩
  ·by_cases hn:f n=0
   ·refine .inl fun k hk=> ?_;by_cases e:k=n
    ·rw [e];exact hn
    ·exact h k (by omega)
   ·exact .inr ⟨n,by omega,hn,h⟩
  ·exact .inr ⟨i,by omega,h2⟩
noncomputable def lrdC:Code:=(Tryz.f5.body).getD .skip
set_option maxHeartbeats 8000000 in
set_option maxRecDepth 100000 in
theorem Qe5 (p:Pg) (hf:FewP p) (s tol gap:Int) (R:List Rc) (hl:R.length≤1000):
  Vgo Tryz.prog 167 (codes ((Qcj lrdC).drop 6) []) (vret Tryz.prog [.tmp 12] (· = .bool true)) (St.of [(2,.int .i64 s),(6,.bp 0 3 0 0),(9,.bp 1 2 0 0),(14,.bs 10 13 0 R.length)] [(0,pgX p),(1,rlX tol gap),(10,rcB R)]):=by
 have hk:=Qlo;have hr:=Q5b tol gap;have hw:=Zqd p hf s;have hlt:(R.map rcV).length=R.length:=List.length_map ..;have htk:(R.map rcV).take R.length=R.map rcV:=List.take_of_length_le (by omega);have hno:=fun e h1 h2=>Zxr p hf s tol gap R e h1 h2;unfold Q5c at hw;cases hg:(Qbd p&&wiB s 0 3600000)with
 |false=>
  have hRe:=hno 2 (by unfold fndE;rw [hg];rfl) (by decide);clear hno;rw [hg]at hw;simp only [Bool.false_eq_true,ite_false]at hw;cases hrv:(wiB tol 0 1000000&&wiB gap 1 3600000)with
  |false=>
   rw [hrv]at hr;unfold pgV at*;unfold rcB;generalize R.map rcV=T at*;generalize R.length=n at*;refine v_go (tb:=[]) (ks:=[0,1,2,3,4,5,6,9,12,13,14,15,16,17,18,19,20,21,22,30,35,40,49,50,60,71,95,103,105,128]) mixed ?_;dsimp only [lrdC,Tryz.f5,Option.getD_some];simp only [codes,Qcj,List.take_succ_cons,List.take_zero,List.drop_succ_cons,List.drop_zero,List.foldr_cons,List.foldr_nil];repeat (first|simp -implicitDefEqProofs only [go_sem,seval,Bool.not_false,hlt,htk,Nat.le_refl,decide_true,beq_self_eq_true,Bool.and_self,Bool.false_and,Bool.true_and,List.length_nil]|(with_reducible refine Qaa hRe ?_ ?_ ?_);rfl;rfl|(with_reducible refine Qaa hw ?_ ?_ ?_);rfl;rfl|(with_reducible refine Qaa hr ?_ ?_ ?_);rfl;rfl|(with_reducible refine Qaa hk ?_ ?_ ?_);rfl;rfl)
  |true=>
   rw [hrv]at hr;unfold pgV at*;unfold rcB;generalize R.map rcV=T at*;generalize R.length=n at*;refine v_go (tb:=[]) (ks:=[0,1,2,3,4,5,6,9,12,13,14,15,16,17,18,19,20,21,22,30,35,40,49,50,60,71,95,103,105,128]) mixed ?_;dsimp only [lrdC,Tryz.f5,Option.getD_some];simp only [codes,Qcj,List.take_succ_cons,List.take_zero,List.drop_succ_cons,List.drop_zero,List.foldr_cons,List.foldr_nil];repeat (first|simp -implicitDefEqProofs only [go_sem,seval,Bool.not_true,hlt,htk,Nat.le_refl,decide_true,beq_self_eq_true,Bool.and_self,Bool.false_and,Bool.true_and,List.length_nil]|(with_reducible refine Qaa hRe ?_ ?_ ?_);rfl;rfl|(with_reducible refine Qaa hw ?_ ?_ ?_);rfl;rfl|(with_reducible refine Qaa hr ?_ ?_ ?_);rfl;rfl|(with_reducible refine Qaa hk ?_ ?_ ?_);rfl;rfl)
 |true=>
 rw [hg]at hw;simp only [ite_true]at hw;cases hrv:(wiB tol 0 1000000&&wiB gap 1 3600000)with
 |false=>
  have hRe:=hno 2 (by unfold fndE;rw [hg,hrv];rfl) (by decide);clear hno;rw [hrv]at hr;unfold pgV at*;unfold rcB;generalize R.map rcV=T at*;generalize R.length=n at*;refine v_go (tb:=[]) (ks:=[0,1,2,3,4,5,6,9,12,13,14,15,16,17,18,19,20,21,22,30,35,40,49,50,60,71,95,103,105,128]) mixed ?_;dsimp only [lrdC,Tryz.f5,Option.getD_some];simp only [codes,Qcj,List.take_succ_cons,List.take_zero,List.drop_succ_cons,List.drop_zero,List.foldr_cons,List.foldr_nil];repeat (first|simp -implicitDefEqProofs only [go_sem,seval,Bool.not_false,hlt,htk,Nat.le_refl,decide_true,beq_self_eq_true,Bool.and_self,Bool.false_and,Bool.true_and,List.length_nil]|(with_reducible refine Qaa hRe ?_ ?_ ?_);rfl;rfl|(with_reducible refine Qaa hw ?_ ?_ ?_);rfl;rfl|(with_reducible refine Qaa hr ?_ ?_ ?_);rfl;rfl|(with_reducible refine Qaa hk ?_ ?_ ?_);rfl;rfl)
 |true=>
 by_cases h0:p.as_.length=0
 ·have hRe:=hno 9 (by unfold fndE;rw [hg,hrv,if_pos rfl,if_pos rfl,if_pos h0]) (by decide);have h0':((p.as_.length:Int)==0)=true:=by rw [h0];rfl
  clear hno;rw [hrv]at hr;unfold pgV at*;unfold rcB;generalize R.map rcV=T at*;generalize R.length=n at*;refine v_go (tb:=[]) (ks:=[0,1,2,3,4,5,6,9,12,13,14,15,16,17,18,19,20,21,22,30,35,40,49,50,60,71,95,103,105,128]) mixed ?_;dsimp only [lrdC,Tryz.f5,Option.getD_some];simp only [codes,Qcj,List.take_succ_cons,List.take_zero,List.drop_succ_cons,List.drop_zero,List.foldr_cons,List.foldr_nil];repeat (first|simp -implicitDefEqProofs only [go_sem,seval,Bool.not_true,hlt,htk,Nat.le_refl,decide_true,beq_self_eq_true,Bool.and_self,Bool.false_and,Bool.true_and,List.length_map,List.length_nil,h0']|(with_reducible refine Qaa hRe ?_ ?_ ?_);rfl;rfl|(with_reducible refine Qaa hw ?_ ?_ ?_);rfl;rfl|(with_reducible refine Qaa hr ?_ ?_ ?_);rfl;rfl|(with_reducible refine Qaa hk ?_ ?_ ?_);rfl;rfl)
 have h0':((p.as_.length:Int)==0)=false:=beq_eq_false_iff_ne.2 (by omega);have he:fndE p s tol gap=0:=by unfold fndE;rw [hg,hrv,if_pos rfl,if_pos rfl,if_neg h0]
 clear hno;rw [hrv]at hr;obtain⟨v,hs⟩:=Qu3 hg;rw [Bool.and_eq_true]at hrv;rcases Qsk (ldE R) R.length with hb|⟨i,h1,h2,h3⟩
 ·have hLd:=Q5p R hl hb;have hRe:=Zxs p hf s tol gap R hl he hb;have hX:=Zeq p hf v h0 s hs tol gap (Qb7.1 hrv.1) (Qb7.1 hrv.2) R hl (fun k hk=>Q5r (hb k hk));have hXl:=Qz4 p hf s tol gap R hl;generalize Qdg p s tol gap R=X at*;have hsm:=Qu4 X hXl;clear hb;unfold lgR at hLd;unfold pgV at*;unfold rcB;generalize R.map rcV=T at*;generalize R.length=n at*;refine v_go (tb:=[]) (ks:=[0,1,2,3,4,5,6,9,12,13,14,15,16,17,18,19,20,21,22,30,35,40,49,50,60,71,95,103,105,128]) mixed ?_;dsimp only [lrdC,Tryz.f5,Option.getD_some];simp only [codes,Qcj,List.take_succ_cons,List.take_zero,List.drop_succ_cons,List.drop_zero,List.foldr_cons,List.foldr_nil];repeat (first|simp -implicitDefEqProofs only [go_sem,seval,Bool.not_true,Bool.not_false,hlt,htk,Nat.le_refl,decide_true,bne_self_eq_false,beq_self_eq_true,Bool.and_self,Bool.false_and,Bool.true_and,List.length_map,List.length_nil,h0']|(with_reducible refine Qaa hRe ?_ ?_ ?_);rfl;rfl|(with_reducible refine Qaa hw ?_ ?_ ?_);rfl;rfl|(with_reducible refine Qaa hr ?_ ?_ ?_);rfl;rfl|(with_reducible refine Qaa hLd ?_ ?_ ?_);rfl;rfl|(with_reducible refine Qaa hX ?_ ?_ ?_);rfl;rfl|(with_reducible refine Qaa hsm ?_ ?_ ?_);rfl;rfl|(with_reducible refine Qaa hk ?_ ?_ ?_);rfl;rfl)
 ·have hLd:=Q5q R hl i h1 h3 h2;have hRe:=Zog p hf s tol gap R he (i:Int) (ldE R i) h2 hLd;have hne:(ldE R i != 0)=true:=bne_iff_ne.2 h2;clear h2 h3;generalize ldE R i=e at*;unfold pgV at*;unfold rcB;generalize R.map rcV=T at*;generalize R.length=n at*;refine v_go (tb:=[]) (ks:=[0,1,2,3,4,5,6,9,12,13,14,15,16,17,18,19,20,21,22,30,35,40,49,50,60,71,95,103,105,128]) mixed ?_;dsimp only [lrdC,Tryz.f5,Option.getD_some];simp only [codes,Qcj,List.take_succ_cons,List.take_zero,List.drop_succ_cons,List.drop_zero,List.foldr_cons,List.foldr_nil];repeat (first|simp -implicitDefEqProofs only [go_sem,seval,Bool.not_true,hlt,htk,Nat.le_refl,decide_true,bne_self_eq_false,beq_self_eq_true,Bool.and_self,Bool.false_and,Bool.true_and,List.length_map,List.length_nil,h0',hne]|(with_reducible refine Qaa hRe ?_ ?_ ?_);rfl;rfl|(with_reducible refine Qaa hw ?_ ?_ ?_);rfl;rfl|(with_reducible refine Qaa hr ?_ ?_ ?_);rfl;rfl|(with_reducible refine Qaa hLd ?_ ?_ ?_);rfl;rfl|(with_reducible refine Qaa hk ?_ ?_ ?_);rfl;rfl)
end Go.Proofs.YtnohfmdlaajpbaaGreat
