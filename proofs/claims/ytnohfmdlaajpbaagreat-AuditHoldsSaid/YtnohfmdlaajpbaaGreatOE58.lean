/-
  OE51, OE52, Daw, OE53, OE54, OE58 (merged for the claim).
-/
import Derived.Test.YtnohfmdlaajpbaaGreatOE47
import Derived.Test.YtnohfmdlaajpbaaGreatDgm
set_option linter.unusedSimpArgs false
set_option linter.unusedVariables false
namespace Go.Proofs.YtnohfmdlaajpbaaGreat
open Go.Vl Go.RowKit Go.Dg
theorem Zoh (L:List Rc) (r:Rc) (u:Int):mayE L {r with u:=u}=mayE L r:=rfl
theorem Zoi (b:Int) (r:Rc) (u:Int):sumU b {r with u:=u}=sumU b r:=rfl
theorem Qx7 {L:List Rc} {r:Rc} {k:Nat} (h:k≤L.length):(L++[r]).take k=L.take k:=List.take_append_of_le_length h
theorem Qx8 {L:List Rc} {r:Rc} {k:Nat} (h:k<L.length):(L++[r]).getD k rc0=L.getD k rc0:=by
 rw [List.getD_eq_getElem?_getD,List.getElem?_append_left h,←List.getD_eq_getElem?_getD]
theorem Qx9 (L:List Rc) (r:Rc):(L++[r]).getD L.length rc0=r:=by
 rw [List.getD_eq_getElem?_getD,List.getElem?_append_right (Nat.le_refl _),Nat.sub_self];rfl
theorem Zqh {L:List Rc} (r:Rc) (h: ∀k,k<L.length→ldE L k=0): ∀k,k<(addL sumU L r).length→ldE (addL sumU L r) k=0:=by
 intro k hk;unfold addL at*;split at hk
 ·rename_i hm;rw [if_pos hm];rw [List.length_append]at hk;by_cases hkl:k<L.length
  ·have:=h k hkl;unfold ldE at this ⊢;rw [Qx7 (by omega),Qx8 hkl];exact this
  ·have:k=L.length:=by simp at hk;omega
   subst this;unfold ldE;rw [Qx7 (Nat.le_refl _),List.take_length,Qx9];unfold sumR;rw [Zoh,if_pos hm.1,Zoi,if_pos rfl]
 ·rename_i hm;rw [if_neg hm];exact h k hk
theorem Q5s (l:List Ax): ∀i k,k<(logS l i).length→ldE (logS l i) k=0
 |0,k,h=>absurd h (Nat.not_lt_zero k)
 |i+1,k,h=>Zqh _ (Q5s l i) k h
theorem Zet {L:List Rc} {i:Nat} (hi:i<L.length) (h: ∀k,k<L.length→ldE L k=0) (u:Int) (hu:u≠(L.getD i rc0).u):
  (∀k,k<i→ldE (L.set i {L.getD i rc0 with u:=u}) k=0)∧ldE (L.set i {L.getD i rc0 with u:=u}) i=400:=by
 refine⟨fun k hk=> ?_,?_⟩
 ·have:=h k (by omega);unfold ldE at this ⊢;rw [List.take_set_of_le (by omega),List.getD_eq_getElem?_getD,List.getElem?_set_ne (by omega),←List.getD_eq_getElem?_getD];exact this
 ·have:=h i hi;unfold ldE at this ⊢;rw [List.take_set_of_le (Nat.le_refl _)];have hg:(L.set i {L.getD i rc0 with u:=u}).getD i rc0={L.getD i rc0 with u:=u}:=by
   rw [List.getD_eq_getElem?_getD,List.getElem?_set_self hi];rfl
  rw [hg,Zoh,Zoi];split at this
  ·rename_i h1;rw [if_pos h1];split at this
   ·rename_i h2;rw [if_neg];simp only;rw [h2];exact fun e=>hu e.symm
   ·cases this
  ·rename_i h1;exact absurd this h1
set_option maxHeartbeats 4000000 in
theorem Zqi (l:List Ax) (hl:l.length≤1000):Qaf Tryz.prog 10 [.slc (l.map axV)] (lgR (logS l l.length)):=by
 have hn:=Qz8;have bl7:Nat.blt 7 1000000=true:=rfl;have bl8:Nat.blt 8 1000000=true:=rfl

 refine Qab (tb:=[(100,[],[(7,7),(8,8)]),(1107,[(1000000,7),(1000001,8)],[(9,9)]),(1307,[(1000000,7),(1000001,8)],[(9,9)]),(908,[(1000000,7),(1000001,8)],[(9,9)])]) 51 [.tmp 2] [0,2,3,4,5,8,12,20,30,40] mixed Tryz.func10 rfl (by kernel_rfl) ?_;repeat (first|simp -implicitDefEqProofs only [go_sem,seval,bl7,bl8]|(with_reducible refine Qai hn ?_ ?_ ?_ ?_);rfl;rfl;rfl)
 refine Qas mixed (fun i:{i:Nat // i≤l.length}=>St.of [(0,.slc (l.map axV)),(3,.bp 7 1 0 0),(4,.int .i64 (i.1:Int))] [(7,lgB 8 (logS l i.1).length),(8,rcB (logS l i.1))]) (fun i=>l.length-i.1) ⟨0,Nat.zero_le _⟩ ?_ ?_
 ·refine Qaj (θ:=[(7,7),(8,8)]) rfl ?_ ?_
  ·simp [Qac,lkp,ren1,ren0,Qah]
  ·exact⟨⟨rfl,rfl,rfl,rfl,rfl,.inr ⟨rfl,_,_,rfl,rfl,rfl,rfl⟩⟩,⟨rfl,rfl,rfl,rfl,rfl,.inl ⟨rfl,rfl⟩⟩,trivial⟩
 ·rintro⟨i,hi⟩;simp only;by_cases hA:i<l.length
  ·have hA':=ltE hA;have n0:=nnE i;have hg:=Zol l i hA;have hw:=wrE (n:=i) (by omega);have hll:=Qg6 l i;have hst:logS l (i+1)=addL sumU (logS l i) (actR (l.getD i ax0)):=rfl;unfold actR at hst;generalize logS l i=L at*;generalize l.getD i ax0=x at*;cases h0:(x.w==0)with
   |true=>
    rw [if_pos (beq_iff_eq.1 h0)]at hst;have h:=Qz9 L x.t x.a x.v (by omega);unfold lgL at h;generalize addL sumU L (posR x.t x.a x.v)=q at*;repeat (first|simp -implicitDefEqProofs only [go_sem,seval,hA',n0,hg,bl13,bl14,bl9,hw,h0,Int.toNat_natCast,List.length_map]|(with_reducible refine Qai h ?_ ?_ ?_ ?_);rfl;rfl;rfl)
    refine⟨⟨i+1,hA⟩,by simp only;omega,?_⟩;simp only [hst];refine Qaj (θ:=[(7,7),(8,9)]) rfl ?_ ?_
    ·simp [Qac,lkp,ren1,ren0,Qah]
    ·exact⟨⟨rfl,rfl,rfl,rfl,rfl,.inr ⟨rfl,_,_,rfl,rfl,rfl,rfl⟩⟩,⟨rfl,rfl,rfl,rfl,rfl,.inl ⟨rfl,rfl⟩⟩,trivial⟩
   |false=>
   rw [if_neg (beq_eq_false_iff_ne.1 h0)]at hst;cases h1:(x.w==1)with
   |true=>
    rw [if_pos (beq_iff_eq.1 h1)]at hst;have h:=Zex L x.t x.a x.s (by omega);unfold lgL at h;generalize addL sumU L (staR x.t x.a x.s)=q at*;repeat (first|simp -implicitDefEqProofs only [go_sem,seval,hA',n0,hg,bl13,bl14,bl9,hw,h0,h1,Int.toNat_natCast,List.length_map]|(with_reducible refine Qai h ?_ ?_ ?_ ?_);rfl;rfl;rfl)
    refine⟨⟨i+1,hA⟩,by simp only;omega,?_⟩;simp only [hst];refine Qaj (θ:=[(7,7),(8,9)]) rfl ?_ ?_
    ·simp [Qac,lkp,ren1,ren0,Qah]
    ·exact⟨⟨rfl,rfl,rfl,rfl,rfl,.inr ⟨rfl,_,_,rfl,rfl,rfl,rfl⟩⟩,⟨rfl,rfl,rfl,rfl,rfl,.inl ⟨rfl,rfl⟩⟩,trivial⟩
   |false=>
    rw [if_neg (beq_eq_false_iff_ne.1 h1)]at hst;have h:=Zxz L x.t x.a 4 0 x.a 0 (by omega);unfold lgL frV at h;generalize addL sumU L (frmR x.t x.a 4 0 x.a 0)=q at*;repeat (first|simp -implicitDefEqProofs only [go_sem,seval,hA',n0,hg,bl13,bl14,bl9,hw,h0,h1,Int.toNat_natCast,List.length_map]|(with_reducible refine Qai h ?_ ?_ ?_ ?_);rfl;rfl;rfl)
    refine⟨⟨i+1,hA⟩,by simp only;omega,?_⟩;simp only [hst];refine Qaj (θ:=[(7,7),(8,9)]) rfl ?_ ?_
    ·simp [Qac,lkp,ren1,ren0,Qah]
    ·exact⟨⟨rfl,rfl,rfl,rfl,rfl,.inr ⟨rfl,_,_,rfl,rfl,rfl,rfl⟩⟩,⟨rfl,rfl,rfl,rfl,rfl,.inl ⟨rfl,rfl⟩⟩,trivial⟩
  ·have hA':=ltE' hA;obtain rfl:i=l.length:=by omega
   have hlL:=Qg6 l l.length;generalize logS l l.length=R at*;have htk:(R.map rcV).take R.length=R.map rcV:=List.take_of_length_le (by rw [List.length_map];omega);have hlt:(R.map rcV).length=R.length:=List.length_map ..;unfold lgR;repeat simp -implicitDefEqProofs only [go_sem,seval,hA',htk,hlt,Nat.le_refl,decide_true,List.length_map]
noncomputable def lhoC:Code:=(Tryz.f7.body).getD .skip
theorem Zxu (x:Int):IntKind.u32.wrap (x+1)≠x:=by
 have h:IntKind.u32.wrap (x+1)=(x+1)%4294967296:=rfl;rw [h];omega
set_option maxHeartbeats 8000000 in
set_option maxRecDepth 100000 in
theorem Zqj (p:Pg) (hf:FewP p) (s tol gap:Int) (he:fndE p s tol gap=0) (c:Int) (c0:0≤c) (c1:c<256) (L:List Rc) (hl:L.length≤1000) (hL: ∀k,k<L.length→ldE L k=0):
  Vgo Tryz.prog 247 (codes ((Qcj lhoC).drop 12) []) (vret Tryz.prog [.tmp 14] (· = .bool true)) (St.of [(2,.int .i64 s),(6,.int .u8 c),(7,.bp 0 3 0 0),(10,.bp 1 2 0 0),(15,lgR L)] [(0,pgX p),(1,rlX tol gap)]):=by
 have hk:=Qlo;have hR:=Qsl L (by omega);have hlt:(L.map rcV).length=L.length:=List.length_map ..;have bl10:Nat.blt 10 1000000=true:=rfl;unfold lgR at*;unfold rcB at hR;by_cases hn:L.length=0
 ·have hn':((L.length:Int)==0)=true:=by rw [hn];rfl
  refine v_go (tb:=[(4001,[],[(7,10)])]) (ks:=[0,1,2,3,4,5,6,7,10,14,15,16,17,18,19,20,21,22,23,24,25,26,27,28,30,32,33,34,35,36,37,38,59,64,74,101,105,111,127,151,154,157,165,201,206]) mixed ?_;dsimp only [lhoC,Tryz.f7,Option.getD_some];simp only [codes,Qcj,List.take_succ_cons,List.take_zero,List.drop_succ_cons,List.drop_zero,List.foldr_cons,List.foldr_nil];repeat (first|simp -implicitDefEqProofs only [go_sem,seval,hn',bl10]|(with_reducible refine Qai hR ?_ ?_ ?_ ?_);rfl;rfl;rfl|(with_reducible refine Qaa hk ?_ ?_ ?_);rfl;rfl)
 have hn':((L.length:Int)==0)=false:=beq_eq_false_iff_ne.2 (by omega);obtain⟨i,hgi⟩: ∃i:Nat,Int.tmod c (L.length:Int)=(i:Int):=⟨_,(Int.toNat_of_nonneg (Int.tmod_nonneg _ c0)).symm⟩;have hi:i<L.length:=by have:=Int.tmod_lt_of_pos c (show(0:Int)<(L.length:Int)by omega);omega
 have hi':=ltE hi;have n0:=nnE i;have hnn:((L.length:Int)≠0)=True:=eq_true (by omega);have hgw:IntKind.i64.wrap c=c:=Qag (by omega) (by omega);have hgt:=Qga L i hi;obtain⟨w1,w2⟩:=Zet hi hL (IntKind.u32.wrap ((L.getD i rc0).u+1)) (Zxu _);have hsl:(L.set i {L.getD i rc0 with u:=IntKind.u32.wrap ((L.getD i rc0).u+1)}).length=L.length:=List.length_set ..;have hst:(L.map rcV).set i (.agg [.int .i64 (L.getD i rc0).t,.int .i64 (L.getD i rc0).a,.int .i64 (L.getD i rc0).k,.int .i64 (L.getD i rc0).v.x,.int .i64 (L.getD i rc0).v.y,.int .i64 (L.getD i rc0).v.z,.int .i64 (L.getD i rc0).s,.int .i64 (L.getD i rc0).fk,.int .i64 (L.getD i rc0).ff,.int .i64 (L.getD i rc0).ft,.int .i64 (L.getD i rc0).fs,.slc [],.int .u32 (IntKind.u32.wrap ((L.getD i rc0).u+1))])=(L.set i {L.getD i rc0 with u:=IntKind.u32.wrap ((L.getD i rc0).u+1)}).map rcV:=by rw [List.map_set];rfl
 generalize L.set i {L.getD i rc0 with u:=IntKind.u32.wrap ((L.getD i rc0).u+1)}=R at*;have hRe:=Zog p hf s tol gap R he (i:Int) 400 (by decide) (by rw [←w2];exact Q5q R (by omega) i (by omega) w1 (by rw [w2];decide));have htk:(R.map rcV).take L.length=R.map rcV:=List.take_of_length_le (by rw [List.length_map];omega);have hlR:(R.map rcV).length=L.length:=by rw [List.length_map];exact hsl
 generalize L.getD i rc0=r at*;clear w1 w2 hL;unfold pgV at hRe;refine v_go (tb:=[(4001,[],[(7,10)])]) (ks:=[0,1,2,3,4,5,6,7,10,14,15,16,17,18,19,20,21,22,23,24,25,26,27,28,30,32,33,34,35,36,37,38,59,64,74,101,105,111,127,151,154,157,165,201,206]) mixed ?_;dsimp only [lhoC,Tryz.f7,Option.getD_some];simp only [codes,Qcj,List.take_succ_cons,List.take_zero,List.drop_succ_cons,List.drop_zero,List.foldr_cons,List.foldr_nil];repeat (first|simp -implicitDefEqProofs only [go_sem,seval,hn',bl10,hi',n0,hnn,hgw,hgt,hgi,hst,htk,hlR,Nat.le_refl,decide_true,BEq.rfl,Bool.and_self,Bool.true_and,List.length_nil,Int.toNat_natCast]|(with_reducible refine Qai hR ?_ ?_ ?_ ?_);rfl;rfl;rfl|(with_reducible refine Qaa hRe ?_ ?_ ?_);rfl;rfl|(with_reducible refine Qaa hk ?_ ?_ ?_);rfl;rfl)
end Go.Proofs.YtnohfmdlaajpbaaGreat

namespace Go.Dg
theorem Q3n {tol tol' n:Int} (h0:0≤tol) (h:tol≤tol') {d:Dv} {x:Fd} (hx:x∈off1 tol' n d):x∈off1 tol n d:=by
 have hm:tol*tol≤tol'*tol':=Int.mul_le_mul h h h0 (by omega);unfold off1 at*;split at hx
 ·rename_i hc;simp only [Bool.and_eq_true,decide_eq_true_eq]at hc;rw [if_pos (by simp only [Bool.and_eq_true,decide_eq_true_eq];omega)];exact hx
 ·cases hx
theorem Qrt {tol tol' n:Int} (h0:0≤tol) (h:tol≤tol') {D:List Dv} {x:Fd}: ∀i,x∈offs tol' n D i→x∈offs tol n D i
 |0,hx=>hx
 |i+1,hx=>by
  simp only [offs,List.mem_append]at hx ⊢;exact hx.imp (Qrt h0 h i) (Q3n h0 h)
theorem Qru {gap gap' n len:Int} (h:gap≤gap') {D:List Dv}: ∀i,(gapA gap' n len D i).last=(gapA gap n len D i).last∧(gapA gap' n len D i).rec_=(gapA gap n len D i).rec_∧(gapA gap' n len D i).found=(gapA gap n len D i).found∧
  ∀x,x∈(gapA gap' n len D i).out→x∈(gapA gap n len D i).out
 |0=>⟨rfl,rfl,rfl,fun _ h=>h⟩
 |i+1=>by
  obtain⟨e1,e2,e3,e4⟩:=Qru (n:=n) (len:=len) h (D:=D) i;simp only [gapA];cases hd:inD n len (D.getD i dv0)with
  |false=>simp only [Bool.false_eq_true,if_false];exact⟨e1,e2,e3,e4⟩
  |true=>
   simp only [if_true];refine⟨trivial,trivial,trivial,fun x hx=> ?_⟩;rw [e1]at hx;split at hx
   ·rename_i hg;rw [if_pos (by omega)];rw [List.mem_append]at hx ⊢;exact hx.imp (e4 x) id
   ·have:=e4 x hx;split
    ·exact List.mem_append.2 (.inl this)
    ·exact this
theorem Zd1 {gap gap' tol tol' start len:Int} (hg:gap≤gap') (h0:0≤tol) (ht:tol≤tol') {D:List Dv} {L:List Rc} {n:Int} {x:Fd} (hx:x∈ofN gap' tol' start len D L n):x∈ofN gap tol start len D L n:=by
 obtain⟨e1,e2,e3,e4⟩:=Qru (n:=n) (len:=len) hg (D:=D) D.length;simp only [ofN,List.mem_append]at hx ⊢;rcases hx with((hx|hx)|hx)|hx
 ·exact .inl (.inl (.inl (e4 x hx)))
 ·refine .inl (.inl (.inr ?_));unfold Qk9 at*;rw [e1,e2,e3]at hx;split at hx
  ·rename_i hf;rw [if_pos hf];split at hx
   ·rw [if_pos (by omega)];exact hx
   ·cases hx
  ·rename_i hf;rw [if_neg hf];exact hx
 ·exact .inl (.inr (Qrt h0 ht _ hx))
 ·exact .inr hx
theorem Qrv {gap gap' tol tol' start len:Int} (hg:gap≤gap') (h0:0≤tol) (ht:tol≤tol') {D:List Dv} {L:List Rc} {x:Fd}: ∀N,x∈ofTo gap' tol' start len D L N→x∈ofTo gap tol start len D L N
 |0,hx=>hx
 |n+1,hx=>by
  simp only [ofTo,List.mem_append]at hx ⊢;exact hx.imp (Qrv hg h0 ht n) (Zd1 hg h0 ht)
theorem Qzl {N:Nat} {gap gap' tol tol' start len:Int} (hg:gap≤gap') (h0:0≤tol) (ht:tol≤tol') {sq:Rc→Int} {L:List Rc} {x:Fd} (hx:x∈finds N gap' tol' start len sq L):x∈finds N gap tol start len sq L:=by
 simp only [finds,List.mem_append]at hx ⊢;exact hx.imp id (Qrv hg h0 ht N)
structure Rows (N M:Nat) (start every:Int) (sq:Rc→Int) (L:List Rc):Prop where
 len:L.length=N*M
 at_: ∀q,q<N*M→(L.getD q rc0).t=start+((q/N:Nat):Int)*every∧(L.getD q rc0).a=((q%N:Nat):Int)+1∧(L.getD q rc0).k=1∧sq (L.getD q rc0)=0
def rowD (N:Nat) (every:Int) (q:Nat):Dv:=⟨q,((q%N:Nat):Int),((q/N:Nat):Int)*every,0⟩
section
variable {N M:Nat} {start every gap tol len:Int} {sq:Rc→Int} {L:List Rc}
theorem Qxg (hN:0<N) (hR:Rows N M start every sq L): ∀i,i≤N*M→unks N start L i=[]
 |0,_=>rfl
 |i+1,h=>by
  obtain⟨h1,h2,h3,h4⟩:=hR.at_ i (by omega);have:=Nat.mod_lt i hN;generalize i%N=y at*;simp only [unks,Qxg hN hR i (by omega),List.nil_append,unk1,h2];rw [if_neg (by omega)]
theorem Qxh (hN:0<N) (hR:Rows N M start every sq L): ∀i,i≤N*M→devs N start sq L i=(List.range i).map (rowD N every)
 |0,_=>rfl
 |i+1,h=>by
  obtain⟨h1,h2,h3,h4⟩:=hR.at_ i (by omega);have:=Nat.mod_lt i hN;have hp:isP N (L.getD i rc0)=true:=by
   generalize i%N=y at*;simp only [isP,Bool.and_eq_true,decide_eq_true_eq];rw [h2,h3];omega
  have e1: ∀x:Int,start+x-start=x:=fun x=>by omega
  have e2: ∀x:Int,x+1-1=x:=fun x=>by omega
  simp only [devs,Qxh hN hR i (by omega),dv1,hp,if_true,h1,h2,h4,List.range_succ,List.map_append,List.map_cons,List.map_nil,rowD,e1,e2]
theorem Qxi (hN:0<N) (he:0≤every) (hg:every≤gap) (hg0:0≤gap) (hl: ∀q:Nat,q<M→(q:Int)*every≤len) {n:Nat} (hn:n<N): ∀k,k≤N*M→ ∃j:Nat,k≤N*j+n∧(0<j→N*(j-1)+n<k)∧
  (gapA gap n len ((List.range (N*M)).map (rowD N every)) k).out=[]∧(gapA gap n len ((List.range (N*M)).map (rowD N every)) k).found=decide (0<j)∧
  (gapA gap n len ((List.range (N*M)).map (rowD N every)) k).last=((j-1:Nat):Int)*every
 |0,_=>⟨0,by omega,by omega,rfl,rfl,by simp [gapA]⟩
 |k+1,h=>by
  obtain⟨j,j1,j2,j3,j4,j5⟩:=Qxi hN he hg hg0 hl hn k (by omega);have hd:((List.range (N*M)).map (rowD N every)).getD k dv0=rowD N every k:=by
   rw [List.getD_eq_getElem?_getD,List.getElem?_map,List.getElem?_range (by omega)];rfl
  have hkm:k/N<M:=(Nat.div_lt_iff_lt_mul hN).2 (by rw [Nat.mul_comm];omega);have hdm:=Nat.div_add_mod k N;simp only [gapA,hd];by_cases hkn:k%N=n
  ·have hin:inD (n:Int) len (rowD N every k)=true:=by
    show(decide (((k%N:Nat):Int)=(n:Int))&&(decide (0≤((k/N:Nat):Int)*every)&&decide (((k/N:Nat):Int)*every≤len)))=true;rw [decide_eq_true (by rw [hkn]),decide_eq_true (Int.mul_nonneg (Int.natCast_nonneg _) he),decide_eq_true (hl _ hkm)];rfl
   rw [if_pos hin];rw [hkn]at hdm;have hj:k/N=j:=by
    have a1:N*(k/N)≤N*j:=by
     generalize N*(k/N)=X at*;omega
    have a2:=Nat.le_of_mul_le_mul_left a1 hN;rcases Nat.eq_zero_or_pos j with h0|h0
    ·rw [h0]at a2 ⊢;exact Nat.le_zero.1 a2
    ·have a3:=j2 h0;have a4:N*(j-1)<N*(k/N):=by
      generalize N*(k/N)=X at*;generalize N*(j-1)=Y at*;omega
     have a5:=Nat.lt_of_mul_lt_mul_left a4;generalize k/N=x at*;omega
   have e1:N*(j+1)=N*j+N:=Nat.mul_succ N j;have hsub:(j:Int)*every-((j-1:Nat):Int)*every≤gap:=by
    rcases Nat.eq_zero_or_pos j with h0|h0
    ·subst h0;simpa using hg0
    ·have:(j:Int)=((j-1:Nat):Int)+1:=by omega
     rw [this,Int.add_mul,Int.one_mul];generalize ((j-1:Nat):Int)*every=Z;omega
   rw [hj]at hdm;refine⟨j+1,?_,fun _=> ?_,?_,by simp,?_⟩
   ·generalize N*(j+1)=A at*;generalize N*j=B at*;omega
   ·rw [Nat.add_sub_cancel];generalize N*j=B at*;omega
   ·simp only [rowD,hj,j3,j5];generalize ((j-1:Nat):Int)*every=Z at*;generalize (j:Int)*every=W at*;rw [if_neg (by omega)]
   ·simp only [rowD,hj,Nat.add_sub_cancel]
  ·have hin:inD (n:Int) len (rowD N every k)=false:=by
    show(decide (((k%N:Nat):Int)=(n:Int))&&wiB (rowD N every k).t 0 len)=false;rw [decide_eq_false (show¬((k%N:Nat):Int)=(n:Int)from fun e=>hkn (Int.ofNat.inj e))];rfl
   rw [if_neg (by rw [hin];decide)];have hne:k≠N*j+n:=fun e=>hkn (by rw [e,Nat.mul_add_mod,Nat.mod_eq_of_lt hn]);refine⟨j,?_,fun h0=> ?_,j3,j4,j5⟩
   ·generalize N*j=B at*;omega
   ·have:=j2 h0;generalize N*(j-1)=B at*;omega
theorem Qxj (ht:0≤tol) (n:Int): ∀i,i≤N*M→offs tol n ((List.range (N*M)).map (rowD N every)) i=[]
 |0,_=>rfl
 |i+1,h=>by
  have hd:((List.range (N*M)).map (rowD N every)).getD i dv0=rowD N every i:=by
   rw [List.getD_eq_getElem?_getD,List.getElem?_map,List.getElem?_range (by omega)];rfl
  have:0≤tol*tol:=Int.mul_nonneg ht ht;simp only [offs,Qxj ht n i (by omega),hd,off1,rowD,List.nil_append];generalize tol*tol=T at*;rw [if_neg (by simp only [Bool.and_eq_true,decide_eq_true_eq];omega)]
theorem Q3o (hR:Rows N M start every sq L) (n:Int): ∀i,i≤N*M→stA start n L i=⟨0,[]⟩
 |0,_=>rfl
 |i+1,h=>by
  obtain⟨h1,h2,h3,h4⟩:=hR.at_ i (by omega);simp only [stA,Q3o hR n i (by omega),isS,h3];rw [if_neg (by simp)]
theorem Q3p (hN:0<N) (hR:Rows N M start every sq L) (he:0≤every) (hg:every≤gap) (hg0:0≤gap) (ht:0≤tol) (hM:0<M) (hl: ∀q:Nat,q<M→(q:Int)*every≤len) (hl2:len<(M:Int)*every): ∀K,K≤N→ofTo gap tol start len ((List.range (N*M)).map (rowD N every)) L K=[]
 |0,_=>rfl
 |n+1,h=>by
  simp only [ofTo,Q3p hN hR he hg hg0 ht hM hl hl2 n (by omega),ofN,List.length_map,List.length_range,hR.len,List.nil_append];obtain⟨j,j1,j2,j3,j4,j5⟩:=Qxi hN he hg hg0 hl (n:=n) (by omega) (N*M) (Nat.le_refl _);have hj:j=M:=by
   have e1:N*(j+1)=N*j+N:=Nat.mul_succ N j;have a1:N*M<N*(j+1):=by
    generalize N*(j+1)=A at*;generalize N*j=B at*;generalize N*M=Q at*;omega
   have a2:=Nat.lt_of_mul_lt_mul_left a1;have a3:=j2 (by omega);have a4:N*(j-1)<N*M:=by
    generalize N*(j-1)=A at*;generalize N*M=Q at*;omega
   have:=Nat.lt_of_mul_lt_mul_left a4;omega
  subst hj;rw [j3,Qxj ht _ _ (Nat.le_refl _),Q3o hR _ _ (Nat.le_refl _),Qk9,j4,if_pos (by simpa using hM),j5];have:(j:Int)=((j-1:Nat):Int)+1:=by omega
  rw [this,Int.add_mul,Int.one_mul]at hl2;generalize ((j-1:Nat):Int)*every=Z at*;rw [if_neg (by omega)];rfl
theorem Qzm (hN:0<N) (hR:Rows N M start every sq L) (he:0≤every) (hg:every≤gap) (hg0:0≤gap) (ht:0≤tol) (hM:0<M) (hl: ∀q:Nat,q<M→(q:Int)*every≤len) (hl2:len<(M:Int)*every):finds N gap tol start len sq L=[]:=by
 unfold finds;rw [hR.len,Qxg hN hR _ (Nat.le_refl _),Qxh hN hR _ (Nat.le_refl _),Q3p hN hR he hg hg0 ht hM hl hl2 N (Nat.le_refl _)];rfl
end
end Go.Dg

namespace Go.Proofs.YtnohfmdlaajpbaaGreat
open Go.Vl Go.RowKit Go.Dg
def plR (p:Pg) (s every:Int) (q:Nat):Rc:=posR (s+((q/p.ns.length:Nat):Int)*every) (((q%p.ns.length:Nat):Int)+1) (atV (Qba p (q%p.ns.length) p.as_.length) (((q/p.ns.length:Nat):Int)*every))
def plL (p:Pg) (s every:Int):Nat→List Rc
 |0=>[]
 |q+1=>plL p s every q++[sumR sumU (plL p s every q) (plR p s every q)]
theorem Qe2 (p:Pg) (s every:Int): ∀q,(plL p s every q).length=q
 |0=>rfl
 |q+1=>by simp only [plL,List.length_append,Qe2 p s every q];rfl
theorem Qp9 (p:Pg) (s every:Int): ∀q k,k<q→ ∃u,(plL p s every q).getD k rc0={plR p s every k with u:=u}
 |0,k,h=>absurd h (Nat.not_lt_zero k)
 |q+1,k,h=>by
  by_cases hk:k<q
  ·obtain⟨u,e⟩:=Qp9 p s every q k hk;refine⟨u,?_⟩;rw [plL,Qx8 (by rw [Qe2];exact hk),e]
  ·have:k=q:=by omega
   subst this;refine⟨sumU (endU (plL p s every k)) (plR p s every k),?_⟩;have:=Qx9 (plL p s every k) (sumR sumU (plL p s every k) (plR p s every k));rw [Qe2]at this;rw [plL,this];rfl
section
variable {p:Pg} {s every len:Int} {q:Nat}
theorem Zoj (hN:0<p.ns.length) (hn:p.ns.length≤5) (hs:0≤s) (he:0≤every) (h1:((q/p.ns.length:Nat):Int)*every≤len) (h2:s+len≤3600000):recB (plR p s every q)=true:=by
 have h0:0≤((q/p.ns.length:Nat):Int)*every:=Int.mul_nonneg (Int.natCast_nonneg _) he;have h3:=Nat.mod_lt q hN;have h4:=Qx2 (Qba p (q%p.ns.length) p.as_.length) (((q/p.ns.length:Nat):Int)*every);unfold plR posR recB;generalize atV (Qba p (q%p.ns.length) p.as_.length) (((q/p.ns.length:Nat):Int)*every)=v at*;generalize ((q/p.ns.length:Nat):Int)*every=x at*;generalize q%p.ns.length=y at*;simp only [Rc.sil,silB,h4,wiB];simp;omega
theorem Zeu (he:0≤every) {a b:Nat} (h:a≤b):(plR p s every a).t≤(plR p s every b).t:=by
 have h1:a/p.ns.length≤b/p.ns.length:=Nat.div_le_div_right h;have h2:((a/p.ns.length:Nat):Int)*every≤((b/p.ns.length:Nat):Int)*every:=Int.mul_le_mul_of_nonneg_right (by omega) he;unfold plR posR;simp only;omega
theorem Zqk (hN:0<p.ns.length) (hn:p.ns.length≤5) (hs:0≤s) (he:0≤every) (h1:((q/p.ns.length:Nat):Int)*every≤len) (h2:s+len≤3600000) (hq:q<10000):addL sumU (plL p s every q) (plR p s every q)=plL p s every (q+1):=by
 have hr:=Zoj (p:=p) hN hn hs he h1 h2;have hm:mayE (plL p s every q) (plR p s every q)=0:=by
  unfold mayE;rw [if_pos hr,Qe2];by_cases h0:q=0
  ·rw [if_pos h0]
  ·rw [if_neg h0,if_neg];unfold Go.Dg.lastT;rw [Qe2];obtain⟨u,e⟩:=Qp9 p s every q (q-1) (by omega);rw [e];have:=Zeu (p:=p) (s:=s) he (show q-1≤q by omega);simp only;omega
 unfold addL;rw [if_pos ⟨hm,by rw [Qe2];exact hq⟩];rfl
theorem Zql (hN:0<p.ns.length) (hn:p.ns.length≤5) (hs:0≤s) (he:0≤every) (h1: ∀k,k<q→((k/p.ns.length:Nat):Int)*every≤len) (h2:s+len≤3600000): ∀k,k<(plL p s every q).length→recB ((plL p s every q).getD k rc0)=true:=by
 intro k hk;rw [Qe2]at hk;obtain⟨u,e⟩:=Qp9 p s every q k hk;rw [e];exact Zoj (p:=p) hN hn hs he (h1 k hk) h2
theorem Zev (hN:0<p.ns.length) (he:0≤every) {M:Nat} (h1: ∀k:Nat,k<M→(k:Int)*every≤begT p p.as_.length):Go.Dg.Rows p.ns.length M s every (sqR p s) (plL p s every (p.ns.length*M)):=by
 refine⟨Qe2 _ _ _ _,fun k hk=> ?_⟩;obtain⟨u,e⟩:=Qp9 p s every (p.ns.length*M) k hk;rw [e];refine⟨rfl,rfl,rfl,?_⟩;have hkM:k/p.ns.length<M:=(Nat.div_lt_iff_lt_mul hN).2 (by rw [Nat.mul_comm];exact hk);have h2:=h1 _ hkM;have h0:0≤((k/p.ns.length:Nat):Int)*every:=Int.mul_nonneg (Int.natCast_nonneg _) he;unfold sqR plR posR;simp only;rw [show(((k%p.ns.length:Nat):Int)+1-1).toNat=k%p.ns.length by omega,show min (max (s+((k/p.ns.length:Nat):Int)*every-s) 0) (begT p p.as_.length)=((k/p.ns.length:Nat):Int)*every by omega];exact Zen _
end
set_option maxHeartbeats 8000000 in
set_option maxRecDepth 100000 in
theorem Zqm (p:Pg) (hf:FewP p) (s tol gap every:Int) (he:fndE p s tol gap=0) (c:Int) (c0:0≤c) (c1:c<256) (L:List Rc) (hl:L.length≤1000) (hL: ∀k,k<L.length→ldE L k=0):
  Vgo Tryz.prog 247 (codes ((Qcj lhoC).drop 10) []) (vret Tryz.prog [.tmp 14] (· = .bool true)) (St.of [(2,.int .i64 s),(4,.int .i64 every),(6,.int .u8 c),(7,.bp 0 3 0 0),(10,.bp 1 2 0 0),(15,lgR L)] [(0,pgX p),(1,rlX tol gap)]):=by
 have hrest:=Zqj p hf s tol gap he c c0 c1 L hl hL;rw [show(Qcj lhoC).drop 12=((Qcj lhoC).drop 10).drop 2 by rw [List.drop_drop]]at hrest;obtain⟨v,q2,q3,q4⟩:=Qmh he;have hs:=Qb7.1 q2;rw [Bool.and_eq_true]at q3;have htl:=Qb7.1 q3.1;have hgp:=Qb7.1 q3.2;have hend:=Q6a p v p.as_.length (Nat.le_refl _) ((p.as_.length:Int)-1) rfl;have hbt:=Qd3 v (k:=p.as_.length) (Nat.le_refl _);have hpa:=(Qc8 v).2.1;have hNl:=(Qc8 v).1;have hw1:IntKind.i64.wrap ((p.as_.length:Int)-1)=(p.as_.length:Int)-1:=Qag (by omega) (by omega);have hN5:=hf.1;have hP:=fun(n:Nat) (hn:n<p.ns.length)=>Qxz hf v q4 hn;have hpv:=fun(n:Nat) (hn:n<p.ns.length)=>Qp7 v q4 hn;have hrw:=fun(M:Nat) (h1:0≤every) (h2: ∀k:Nat,k<M→(k:Int)*every≤begT p p.as_.length) (h0:0<p.ns.length)=>Zev (p:=p) (s:=s) h0 h1 h2;have hfd: ∀L,Qdg p s tol gap L=finds p.ns.length gap tol s (begT p p.as_.length) (sqR p s) L:=fun _=>rfl;generalize begT p p.as_.length=len at*;have hlw:IntKind.i64.wrap (3600000-len)=3600000-len:=Qag (by omega) (by omega);unfold pgV at hend;unfold lgR at hrest ⊢;by_cases e1:200≤every
 case neg=>
  have e1':=eq_false e1
  skip
  refine Qcy mixed [(2500,[],[(7,7),(8,8)]),(3607,[(1000000,7),(1000001,8)],[(9,9)])] [0,1,2,3,4,5,6,7,10,14,15,16,17,18,19,20,21,22,23,24,25,26,27,28,30,32,33,34,35,36,37,38,59,64,74,101,105,111,127,151,154,157,165,201,206] 2 rfl _ ?_ hrest;dsimp only [lhoC,Tryz.f7,Option.getD_some];simp only [codes,Qcj,List.take_succ_cons,List.take_zero,List.drop_succ_cons,List.drop_zero,List.foldr_cons,List.foldr_nil];repeat (first|simp -implicitDefEqProofs only [go_sem,seval,hw1,e1',decide_true,decide_false,Bool.true_and,List.length_map]|(with_reducible refine Qaa hend ?_ ?_ ?_);rfl;rfl)
  refine Qaj (θ:=[(0,0),(1,1)]) rfl ?_ ?_
  ·simp [Qac,lkp,ren1,ren0,Qah]
  ·exact⟨⟨rfl,rfl,rfl,rfl,rfl,.inr ⟨rfl,_,_,rfl,rfl,rfl,rfl⟩⟩,⟨rfl,rfl,rfl,rfl,rfl,.inr ⟨rfl,_,_,rfl,rfl,rfl,rfl⟩⟩,trivial⟩
 have e1':=eq_true e1;by_cases e2:every≤gap
 case neg=>
  have e2':=eq_false e2
  skip
  refine Qcy mixed [(2500,[],[(7,7),(8,8)]),(3607,[(1000000,7),(1000001,8)],[(9,9)])] [0,1,2,3,4,5,6,7,10,14,15,16,17,18,19,20,21,22,23,24,25,26,27,28,30,32,33,34,35,36,37,38,59,64,74,101,105,111,127,151,154,157,165,201,206] 2 rfl _ ?_ hrest;dsimp only [lhoC,Tryz.f7,Option.getD_some];simp only [codes,Qcj,List.take_succ_cons,List.take_zero,List.drop_succ_cons,List.drop_zero,List.foldr_cons,List.foldr_nil];repeat (first|simp -implicitDefEqProofs only [go_sem,seval,hw1,e1',e2',decide_true,decide_false,Bool.true_and,List.length_map]|(with_reducible refine Qaa hend ?_ ?_ ?_);rfl;rfl)
  refine Qaj (θ:=[(0,0),(1,1)]) rfl ?_ ?_
  ·simp [Qac,lkp,ren1,ren0,Qah]
  ·exact⟨⟨rfl,rfl,rfl,rfl,rfl,.inr ⟨rfl,_,_,rfl,rfl,rfl,rfl⟩⟩,⟨rfl,rfl,rfl,rfl,rfl,.inr ⟨rfl,_,_,rfl,rfl,rfl,rfl⟩⟩,trivial⟩
 have e2':=eq_true e2;by_cases e3:len≤10000
 case neg=>
  have e3':=eq_false e3
  skip
  refine Qcy mixed [(2500,[],[(7,7),(8,8)]),(3607,[(1000000,7),(1000001,8)],[(9,9)])] [0,1,2,3,4,5,6,7,10,14,15,16,17,18,19,20,21,22,23,24,25,26,27,28,30,32,33,34,35,36,37,38,59,64,74,101,105,111,127,151,154,157,165,201,206] 2 rfl _ ?_ hrest;dsimp only [lhoC,Tryz.f7,Option.getD_some];simp only [codes,Qcj,List.take_succ_cons,List.take_zero,List.drop_succ_cons,List.drop_zero,List.foldr_cons,List.foldr_nil];repeat (first|simp -implicitDefEqProofs only [go_sem,seval,hw1,e1',e2',e3',decide_true,decide_false,Bool.true_and,List.length_map]|(with_reducible refine Qaa hend ?_ ?_ ?_);rfl;rfl)
  refine Qaj (θ:=[(0,0),(1,1)]) rfl ?_ ?_
  ·simp [Qac,lkp,ren1,ren0,Qah]
  ·exact⟨⟨rfl,rfl,rfl,rfl,rfl,.inr ⟨rfl,_,_,rfl,rfl,rfl,rfl⟩⟩,⟨rfl,rfl,rfl,rfl,rfl,.inr ⟨rfl,_,_,rfl,rfl,rfl,rfl⟩⟩,trivial⟩
 have e3':=eq_true e3;by_cases e4:s≤3600000-len
 case neg=>
  have e4':=eq_false e4
  skip
  refine Qcy mixed [(2500,[],[(7,7),(8,8)]),(3607,[(1000000,7),(1000001,8)],[(9,9)])] [0,1,2,3,4,5,6,7,10,14,15,16,17,18,19,20,21,22,23,24,25,26,27,28,30,32,33,34,35,36,37,38,59,64,74,101,105,111,127,151,154,157,165,201,206] 2 rfl _ ?_ hrest;dsimp only [lhoC,Tryz.f7,Option.getD_some];simp only [codes,Qcj,List.take_succ_cons,List.take_zero,List.drop_succ_cons,List.drop_zero,List.foldr_cons,List.foldr_nil];repeat (first|simp -implicitDefEqProofs only [go_sem,seval,hw1,hlw,e1',e2',e3',e4',decide_true,decide_false,Bool.true_and,List.length_map]|(with_reducible refine Qaa hend ?_ ?_ ?_);rfl;rfl)
  refine Qaj (θ:=[(0,0),(1,1)]) rfl ?_ ?_
  ·simp [Qac,lkp,ren1,ren0,Qah]
  ·exact⟨⟨rfl,rfl,rfl,rfl,rfl,.inr ⟨rfl,_,_,rfl,rfl,rfl,rfl⟩⟩,⟨rfl,rfl,rfl,rfl,rfl,.inr ⟨rfl,_,_,rfl,rfl,rfl,rfl⟩⟩,trivial⟩
 have e4':=eq_true e4;have hN0:0<p.ns.length:=by
  have:=hNl;unfold Qn2 at this;simp only [Bool.and_eq_true,decide_eq_true_eq]at this;omega
 have hn:=Qz8;have bl7:Nat.blt 7 1000000=true:=rfl;have bl8:Nat.blt 8 1000000=true:=rfl;have hsw:IntKind.i64.wrap (s+0)=s+0:=Qag (by omega) (by omega);have hxb: ∀m:Nat,(m:Int)*every≤len→0≤(m:Int)*every∧m≤50:=by
  intro m hm;have h1:0≤(m:Int)*every:=Int.mul_nonneg (Int.natCast_nonneg _) (by omega);have h2:(m:Int)*200≤(m:Int)*every:=Int.mul_le_mul_of_nonneg_left e1 (Int.natCast_nonneg _);omega
 refine Qcy mixed [(2500,[],[(7,7),(8,8)]),(3607,[(1000000,7),(1000001,8)],[(9,9)])] [0,1,2,3,4,5,6,7,10,14,15,16,17,18,19,20,21,22,23,24,25,26,27,28,30,32,33,34,35,36,37,38,59,64,74,101,105,111,127,151,154,157,165,201,206] 2 rfl _ ?_ hrest;dsimp only [lhoC,Tryz.f7,Option.getD_some];simp only [codes,Qcj,List.take_succ_cons,List.take_zero,List.drop_succ_cons,List.drop_zero,List.foldr_cons,List.foldr_nil];repeat (first|simp -implicitDefEqProofs only [go_sem,seval,hw1,hlw,e1',e2',e3',e4',bl7,bl8,decide_true,Bool.true_and,List.length_map]|(with_reducible refine Qaa hend ?_ ?_ ?_);rfl;rfl|(with_reducible refine Qai hn ?_ ?_ ?_ ?_);rfl;rfl;rfl)
 refine Qas mixed (fun m:{m:Nat // ∀k:Nat,k<m→(k:Int)*every≤len}=>St.of [(2,.int .i64 s),(4,.int .i64 every),(6,.int .u8 c),(7,.bp 0 3 0 0),(10,.bp 1 2 0 0),(15,.rp [.slc (L.map rcV)]),(24,.int .i64 len),(25,.bp 7 1 0 0),(26,.int .i64 ((m.1:Int)*every))] [(0,pgX p),(1,rlX tol gap),(7,lgB 8 (plL p s every (p.ns.length*m.1)).length),(8,rcB (plL p s every (p.ns.length*m.1)))]) (fun m=>60-m.1) ⟨0,fun k h=>absurd h (Nat.not_lt_zero k)⟩ ?_ ?_
 ·simp only [Nat.mul_zero,Int.natCast_zero,Int.zero_mul,plL];refine Qaj (θ:=[(0,0),(1,1),(7,7),(8,8)]) rfl ?_ ?_
  ·simp [Qac,lkp,ren1,ren0,Qah]
  ·exact⟨⟨rfl,rfl,rfl,rfl,rfl,.inr ⟨rfl,_,_,rfl,rfl,rfl,rfl⟩⟩,⟨rfl,rfl,rfl,rfl,rfl,.inr ⟨rfl,_,_,rfl,rfl,rfl,rfl⟩⟩,⟨rfl,rfl,rfl,rfl,rfl,.inr ⟨rfl,_,_,rfl,rfl,rfl,rfl⟩⟩,⟨rfl,rfl,rfl,rfl,rfl,.inl ⟨rfl,rfl⟩⟩,trivial⟩
 ·rintro⟨m,hm⟩;simp only;by_cases hA:(m:Int)*every≤len
  ·have hA':=eq_true hA;obtain⟨x0,m5⟩:=hxb m hA;have hsx:IntKind.i64.wrap ((m:Int)*every+every)=((m+1:Nat):Int)*every:=by
    rw [Qag (by omega) (by omega),Int.natCast_add,Int.add_mul];omega
   have hsx2:IntKind.i64.wrap (s+(m:Int)*every)=s+(m:Int)*every:=Qag (by omega) (by omega);have hi64:i64 ((m:Int)*every):=by unfold i64;omega
   repeat simp -implicitDefEqProofs only [go_sem,seval,hA']
   refine Qas mixed (fun n:{n:Nat // n≤p.ns.length}=>St.of [(2,.int .i64 s),(4,.int .i64 every),(6,.int .u8 c),(7,.bp 0 3 0 0),(10,.bp 1 2 0 0),(15,.rp [.slc (L.map rcV)]),(24,.int .i64 len),(25,.bp 7 1 0 0),(26,.int .i64 ((m:Int)*every)),(27,.int .i64 (n.1:Int))] [(0,pgX p),(1,rlX tol gap),(7,lgB 8 (plL p s every (p.ns.length*m+n.1)).length),(8,rcB (plL p s every (p.ns.length*m+n.1)))]) (fun n=>p.ns.length-n.1) ⟨0,Nat.zero_le _⟩ ?_ ?_
   ·simp only [Nat.add_zero];refine Qaj (θ:=[(0,0),(1,1),(7,7),(8,8)]) rfl ?_ ?_
    ·simp [Qac,lkp,ren1,ren0,Qah]
    ·exact⟨⟨rfl,rfl,rfl,rfl,rfl,.inr ⟨rfl,_,_,rfl,rfl,rfl,rfl⟩⟩,⟨rfl,rfl,rfl,rfl,rfl,.inr ⟨rfl,_,_,rfl,rfl,rfl,rfl⟩⟩,⟨rfl,rfl,rfl,rfl,rfl,.inr ⟨rfl,_,_,rfl,rfl,rfl,rfl⟩⟩,⟨rfl,rfl,rfl,rfl,rfl,.inl ⟨rfl,rfl⟩⟩,trivial⟩
   ·rintro⟨n,hn2⟩;simp only;by_cases hB:n<p.ns.length
    ·have hB':=ltE hB;have n0:=nnE n;have hwn:=wrE (n:=n) (by omega);have hPn:=hP n hB;have hAt:=At_v (Qba p n p.as_.length) ((m:Int)*every) (hpv n hB) hi64;have hq1:(p.ns.length*m+n)/p.ns.length=m:=by rw [Nat.mul_add_div hN0,Nat.div_eq_of_lt hB];rfl
     have hq2:(p.ns.length*m+n)%p.ns.length=n:=by rw [Nat.mul_add_mod,Nat.mod_eq_of_lt hB]
     have hqb:p.ns.length*m+n<10000:=by
      have:p.ns.length*m≤5*50:=Nat.mul_le_mul hN5 m5;omega
     have had:=Zqk (p:=p) (s:=s) (every:=every) (len:=len) (q:=p.ns.length*m+n) hN0 hN5 hs.1 (by omega) (by rw [hq1];exact hA) (by omega) hqb;have hpo:=Qz9 (plL p s every (p.ns.length*m+n)) (s+(m:Int)*every) ((n+1:Nat):Int) (atV (Qba p n p.as_.length) ((m:Int)*every)) (by rw [Qe2];exact hqb);have hpr:posR (s+(m:Int)*every) ((n+1:Nat):Int) (atV (Qba p n p.as_.length) ((m:Int)*every))=plR p s every (p.ns.length*m+n):=by
      unfold plR;rw [hq1,hq2];rfl
     rw [hpr,had]at hpo;generalize addE (plL p s every (p.ns.length*m+n)) (plR p s every (p.ns.length*m+n))=ae at*;generalize hG1:plL p s every (p.ns.length*m+n)=A1 at*;generalize hG2:plL p s every (p.ns.length*m+n+1)=A2 at*;generalize atV (Qba p n p.as_.length) ((m:Int)*every)=v1 at*;generalize atE (Qba p n p.as_.length) ((m:Int)*every)=v2 at*;unfold lgL lgG at hpo;unfold pgV pV at hPn;repeat (first|simp -implicitDefEqProofs only [go_sem,seval,hB',hwn,hsx2,bl9,bl13,bl14,List.length_map]|(with_reducible refine Qaa hPn ?_ ?_ ?_);rfl;rfl|(with_reducible refine Qaa hAt ?_ ?_ ?_);rfl;rfl|(with_reducible refine Qai hpo ?_ ?_ ?_ ?_);rfl;rfl;rfl)
     refine⟨⟨n+1,hB⟩,by simp only;omega,?_⟩;simp only [←Nat.add_assoc,hG2];refine Qaj (θ:=[(0,0),(1,1),(7,7),(8,9)]) rfl ?_ ?_
     ·simp [Qac,lkp,ren1,ren0,Qah]
     ·exact⟨⟨rfl,rfl,rfl,rfl,rfl,.inr ⟨rfl,_,_,rfl,rfl,rfl,rfl⟩⟩,⟨rfl,rfl,rfl,rfl,rfl,.inr ⟨rfl,_,_,rfl,rfl,rfl,rfl⟩⟩,⟨rfl,rfl,rfl,rfl,rfl,.inr ⟨rfl,_,_,rfl,rfl,rfl,rfl⟩⟩,⟨rfl,rfl,rfl,rfl,rfl,.inl ⟨rfl,rfl⟩⟩,trivial⟩
    ·have hB':=ltE' hB;obtain rfl:n=p.ns.length:=by omega
     repeat simp -implicitDefEqProofs only [go_sem,seval,hB',hsx,List.length_map]
     refine⟨⟨m+1,fun k hk=> ?_⟩,by simp only;omega,?_⟩
     ·by_cases e:k=m
      ·rw [e];exact hA
      ·exact hm k (by omega)
     ·simp only [Nat.mul_succ];refine Qaj (θ:=[(0,0),(1,1),(7,7),(8,8)]) rfl ?_ ?_
      ·simp [Qac,lkp,ren1,ren0,Qah]
      ·exact⟨⟨rfl,rfl,rfl,rfl,rfl,.inr ⟨rfl,_,_,rfl,rfl,rfl,rfl⟩⟩,⟨rfl,rfl,rfl,rfl,rfl,.inr ⟨rfl,_,_,rfl,rfl,rfl,rfl⟩⟩,⟨rfl,rfl,rfl,rfl,rfl,.inr ⟨rfl,_,_,rfl,rfl,rfl,rfl⟩⟩,⟨rfl,rfl,rfl,rfl,rfl,.inl ⟨rfl,rfl⟩⟩,trivial⟩
  ·have hA':=eq_false hA;have hm0:0<m:=by
    rcases Nat.eq_zero_or_pos m with h|h
    ·subst h;exfalso;apply hA;simp;omega
    ·exact h
   have hm5:=(hxb (m-1) (hm (m-1) (by omega))).2;have hKl:p.ns.length*m≤5*51:=Nat.mul_le_mul hN5 (by omega);have hcl:=Zqc p hf s tol gap (plL p s every (p.ns.length*m)) (by rw [Qe2];omega) (Zql (len:=len) hN0 hN5 hs.1 (by omega) (fun k hk=>hm _ ((Nat.div_lt_iff_lt_mul hN0).2 (by rw [Nat.mul_comm];exact hk))) (by omega));have hfe:Qdg p s tol gap (plL p s every (p.ns.length*m))=[]:=by
    rw [hfd];exact Qzm hN0 (hrw m (by omega) hm hN0) (by omega) e2 (by omega) htl.1 hm0 hm (by omega)
   unfold fndL at hcl;rw [he,if_pos rfl,hfe]at hcl;rw [show(((0:Int)==0)&&([]:List Go.Dg.Fd).length==0)=true from rfl]at hcl;unfold lgR at hcl;unfold pgV at hcl;have htk:((plL p s every (p.ns.length*m)).map rcV).take (plL p s every (p.ns.length*m)).length=(plL p s every (p.ns.length*m)).map rcV:=List.take_of_length_le (by rw [List.length_map];omega);have hlt:((plL p s every (p.ns.length*m)).map rcV).length=(plL p s every (p.ns.length*m)).length:=List.length_map ..;generalize plL p s every (p.ns.length*m)=Q at*;unfold lgB rcB;repeat (first|simp -implicitDefEqProofs only [go_sem,seval,hA',htk,hlt,Nat.le_refl,decide_true,bne_self_eq_false,Bool.not_true]|(with_reducible refine Qaa hcl ?_ ?_ ?_);rfl;rfl)
   refine Qaj (θ:=[(0,0),(1,1)]) rfl ?_ ?_
   ·simp [Qac,lkp,ren1,ren0,Qah]
   ·exact⟨⟨rfl,rfl,rfl,rfl,rfl,.inr ⟨rfl,_,_,rfl,rfl,rfl,rfl⟩⟩,⟨rfl,rfl,rfl,rfl,rfl,.inr ⟨rfl,_,_,rfl,rfl,rfl,rfl⟩⟩,trivial⟩
theorem Qoy (p:Pg) (hf:FewP p) (s tol gap:Int) (L:List Rc) (hl:L.length≤1000):(Qdg p s tol gap L).length≤100000:=by
 have h1:=Qh7 p.ns.length s L L.length;have h2:=Qew p.ns.length s (sqR p s) L L.length;have h3:=Qg0 gap tol s (begT p p.as_.length) (devs p.ns.length s (sqR p s) L L.length) L p.ns.length;have h4:=hf.1;unfold Qdg finds;generalize devs p.ns.length s (sqR p s) L L.length=D at*;rw [List.length_append];have h5:p.ns.length*(2*D.length+L.length+1)≤5*(2*D.length+L.length+1):=Nat.mul_le_mul_right _ (by omega);generalize p.ns.length*(2*D.length+L.length+1)=X at*;omega
def eqF (x f:Go.Dg.Fd):Bool:=x.k==f.k&&(x.a==f.a&&(x.i==f.i&&x.t==f.t))
def anyF (f:Go.Dg.Fd) (F:List Go.Dg.Fd):Nat→Bool
 |0=>false
 |j+1=>anyF f F j||eqF (F.getD j fd0) f
theorem Q5t {f:Go.Dg.Fd} {F:List Go.Dg.Fd} {j:Nat} (h:F.getD j fd0=f): ∀m,j<m→anyF f F m=true
 |0,hm=>absurd hm (Nat.not_lt_zero j)
 |m+1,hm=>by
  unfold anyF;by_cases e:j=m
  ·subst e;rw [h];unfold eqF;simp
  ·rw [Q5t h m (by omega),Bool.true_or]
theorem Zqn {f:Go.Dg.Fd} {F:List Go.Dg.Fd} (h:f∈F):anyF f F F.length=true:=by
 obtain⟨j,hj,e⟩:=List.getElem_of_mem h;exact Q5t (j:=j) (by rw [List.getD_eq_getElem?_getD,List.getElem?_eq_getElem hj];exact e) _ hj
abbrev hoV (L:List Rc) (s every c:Int) (F1 F2:List Go.Dg.Fd):List (Nat×PV):=[(2,.int .i64 s),(4,.int .i64 every),(6,.int .u8 c),(7,.bp 0 3 0 0),(10,.bp 1 2 0 0),(15,.rp [.slc (L.map rcV)]),(16,.slc (F1.map fdV)),(19,.slc (F2.map fdV))]
set_option maxHeartbeats 8000000 in
set_option maxRecDepth 100000 in
theorem Qz6 (p:Pg) (l:List Ax) (hm:l.length≤maxLen) (s tol gap every d c:Int) (c0:0≤c) (c1:c<256):Qaf Tryz.prog 7 [pgV p,.slc (l.map axV),.int .i64 s,.agg [.int .i64 tol,.int .i64 gap],.int .i64 every,.int .i64 d,.int .u8 c] (.bool true):=by
 have hk:=Qlo;have hF:=Zn8 p;have hr:=Q5b tol gap;cases hq:decide (FewQ p)with
 |false=>
  rw [hq]at hF;unfold pgV at*;refine Qab (tb:=[]) 247 [.tmp 14] [0,1,2,3,4,5,6,7,10,14,15,16,17,18,19,20,21,22,23,24,25,26,27,28,30,32,33,34,35,36,37,38,59,64,74,101,105,111,127,151,154,157,165,201,206] mixed Tryz.func7 rfl (by kernel_rfl) ?_;repeat (first|simp -implicitDefEqProofs only [go_sem,seval,Bool.not_true,Bool.not_false,decide_true]|(with_reducible refine Qaa hF ?_ ?_ ?_);rfl;rfl|(with_reducible refine Qaa hk ?_ ?_ ?_);rfl;rfl)
 |true=>
 rw [hq]at hF;by_cases h20:l.length≤20
 case neg=>
  have h20':=eq_true (show(20:Int)<(l.length:Int)by omega);unfold pgV at*;refine Qab (tb:=[]) 247 [.tmp 14] [0,1,2,3,4,5,6,7,10,14,15,16,17,18,19,20,21,22,23,24,25,26,27,28,30,32,33,34,35,36,37,38,59,64,74,101,105,111,127,151,154,157,165,201,206] mixed Tryz.func7 rfl (by kernel_rfl) ?_;repeat (first|simp -implicitDefEqProofs only [go_sem,seval,Bool.not_true,h20',decide_true,List.length_map]|(with_reducible refine Qaa hF ?_ ?_ ?_);rfl;rfl|(with_reducible refine Qaa hk ?_ ?_ ?_);rfl;rfl)
 have h20':=eq_false (show¬(20:Int)<(l.length:Int)by omega);have hf:=Zxj hq;cases hrv:(wiB tol 0 1000000&&wiB gap 1 3600000)with
 |false=>
  rw [hrv]at hr;unfold pgV at*;refine Qab (tb:=[]) 247 [.tmp 14] [0,1,2,3,4,5,6,7,10,14,15,16,17,18,19,20,21,22,23,24,25,26,27,28,30,32,33,34,35,36,37,38,59,64,74,101,105,111,127,151,154,157,165,201,206] mixed Tryz.func7 rfl (by kernel_rfl) ?_;repeat (first|simp -implicitDefEqProofs only [go_sem,seval,Bool.not_true,Bool.not_false,h20',decide_true,decide_false,List.length_map]|(with_reducible refine Qaa hF ?_ ?_ ?_);rfl;rfl|(with_reducible refine Qaa hr ?_ ?_ ?_);rfl;rfl|(with_reducible refine Qaa hk ?_ ?_ ?_);rfl;rfl)
 |true=>
 rw [hrv]at hr;by_cases d0:0≤d
 case neg=>
  have d0':=eq_true (show d<0 by omega);unfold pgV at*;refine Qab (tb:=[]) 247 [.tmp 14] [0,1,2,3,4,5,6,7,10,14,15,16,17,18,19,20,21,22,23,24,25,26,27,28,30,32,33,34,35,36,37,38,59,64,74,101,105,111,127,151,154,157,165,201,206] mixed Tryz.func7 rfl (by kernel_rfl) ?_;repeat (first|simp -implicitDefEqProofs only [go_sem,seval,Bool.not_true,h20',d0',decide_true,decide_false,List.length_map]|(with_reducible refine Qaa hF ?_ ?_ ?_);rfl;rfl|(with_reducible refine Qaa hr ?_ ?_ ?_);rfl;rfl|(with_reducible refine Qaa hk ?_ ?_ ?_);rfl;rfl)
 have d0':=eq_false (show¬d<0 by omega);by_cases d1:d≤1000
 case neg=>
  have d1':=eq_true (show 1000<d by omega);unfold pgV at*;refine Qab (tb:=[]) 247 [.tmp 14] [0,1,2,3,4,5,6,7,10,14,15,16,17,18,19,20,21,22,23,24,25,26,27,28,30,32,33,34,35,36,37,38,59,64,74,101,105,111,127,151,154,157,165,201,206] mixed Tryz.func7 rfl (by kernel_rfl) ?_;repeat (first|simp -implicitDefEqProofs only [go_sem,seval,Bool.not_true,h20',d0',d1',decide_true,decide_false,List.length_map]|(with_reducible refine Qaa hF ?_ ?_ ?_);rfl;rfl|(with_reducible refine Qaa hr ?_ ?_ ?_);rfl;rfl|(with_reducible refine Qaa hk ?_ ?_ ?_);rfl;rfl)
 have d1':=eq_false (show¬1000<d by omega);rw [Bool.and_eq_true]at hrv;have ht:=Qb7.1 hrv.1;have hgp:=Qb7.1 hrv.2;have hlg:=Zqi l (by omega);have hL:=Qu5 l l.length;have hLd:=Q5s l l.length;have hll:=Qg6 l l.length;generalize logS l l.length=L at*;have hF1:=Qee p hf s tol gap L (by omega) hL;have hlt:(L.map rcV).length=L.length:=List.length_map ..;by_cases he:fndE p s tol gap=0
 case neg=>
  unfold fndL at hF1;rw [if_neg he]at hF1;have he':(fndE p s tol gap != 0)=true:=bne_iff_ne.2 he;generalize fndE p s tol gap=e at*;unfold lgR at*;simp only [List.map_nil]at hF1;unfold pgV at*;refine Qab (tb:=[]) 247 [.tmp 14] [0,1,2,3,4,5,6,7,10,14,15,16,17,18,19,20,21,22,23,24,25,26,27,28,30,32,33,34,35,36,37,38,59,64,74,101,105,111,127,151,154,157,165,201,206] mixed Tryz.func7 rfl (by kernel_rfl) ?_;repeat (first|simp -implicitDefEqProofs only [go_sem,seval,Bool.not_true,h20',d0',d1',he',List.length_nil,BEq.rfl,decide_true,decide_false,List.length_map]|(with_reducible refine Qaa hF ?_ ?_ ?_);rfl;rfl|(with_reducible refine Qaa hr ?_ ?_ ?_);rfl;rfl|(with_reducible refine Qaa hlg ?_ ?_ ?_);rfl;rfl|(with_reducible refine Qaa hF1 ?_ ?_ ?_);rfl;rfl|(with_reducible refine Qaa hk ?_ ?_ ?_);rfl;rfl)
 have he2:fndE p s (min 1000000 (tol+d)) (min 3600000 (gap+d))=0:=by
  have:=he;unfold fndE at this ⊢;rw [Qb7.2 (show(0:Int)≤min 1000000 (tol+d)∧min 1000000 (tol+d)≤1000000 by omega),Qb7.2 (show(1:Int)≤min 3600000 (gap+d)∧min 3600000 (gap+d)≤3600000 by omega)];rw [hrv.1,hrv.2]at this;exact this
 have hF2:=Qee p hf s (min 1000000 (tol+d)) (min 3600000 (gap+d)) L (by omega) hL;have hsub: ∀f,f∈Qdg p s (min 1000000 (tol+d)) (min 3600000 (gap+d)) L→f∈Qdg p s tol gap L:=fun f h=>Qzl (by omega) ht.1 (by omega) h;have hl1:=Qoy p hf s tol gap L (by omega);have hl2:=Qoy p hf s (min 1000000 (tol+d)) (min 3600000 (gap+d)) L (by omega);unfold fndL at hF1 hF2;rw [he,if_pos rfl]at hF1;rw [he2,if_pos rfl]at hF2;generalize Qdg p s tol gap L=F1 at*;generalize Qdg p s (min 1000000 (tol+d)) (min 3600000 (gap+d)) L=F2 at*;have hrest:=Zqm p hf s tol gap every he c c0 c1 L (by omega) hLd;have hw1:IntKind.i64.wrap (tol+d)=tol+d:=Qag (by omega) (by omega);have hw2:IntKind.i64.wrap (gap+d)=gap+d:=Qag (by omega) (by omega);unfold lgR at*;unfold pgV at*;refine Qf2 247 [.tmp 14] Tryz.func7 rfl (by kernel_rfl) (by kernel_rfl) (by kernel_rfl) (by kernel_rfl) ?_;refine Qcy mixed [] [0,1,2,3,4,5,6,7,10,14,15,16,17,18,19,20,21,22,23,24,25,26,27,28,30,32,33,34,35,36,37,38,59,64,74,101,105,111,127,151,154,157,165,201,206] 10 rfl _ ?_ hrest;simp only [codes,Qcj,List.take_succ_cons,List.take_zero,List.drop_succ_cons,List.drop_zero,List.foldr_cons,List.foldr_nil]
 repeat (first|simp -implicitDefEqProofs only [go_sem,seval,Bool.not_true,h20',d0',d1',hw1,hw2,Zdz,decide_true,decide_false,bne_self_eq_false,List.length_map]|(with_reducible refine Qaa hF ?_ ?_ ?_);rfl;rfl|(with_reducible refine Qaa hr ?_ ?_ ?_);rfl;rfl|(with_reducible refine Qaa hlg ?_ ?_ ?_);rfl;rfl|(with_reducible refine Qaa hF1 ?_ ?_ ?_);rfl;rfl|(with_reducible refine Qaa hF2 ?_ ?_ ?_);rfl;rfl)
 refine Qas mixed (fun i:{i:Nat // i≤F2.length}=>St.of (hoV L s every c F1 F2++[(21,.int .i64 (i.1:Int))]) [(0,pgX p),(1,rlX tol gap)]) (fun i=>F2.length-i.1) ⟨0,Nat.zero_le _⟩ ?_ ?_
 ·refine Qaj (θ:=[(0,0),(1,1)]) rfl ?_ ?_
  ·simp [Qac,lkp,ren1,ren0,Qah]
  ·exact⟨⟨rfl,rfl,rfl,rfl,rfl,.inr ⟨rfl,_,_,rfl,rfl,rfl,rfl⟩⟩,⟨rfl,rfl,rfl,rfl,rfl,.inr ⟨rfl,_,_,rfl,rfl,rfl,rfl⟩⟩,trivial⟩
 ·rintro⟨i,hi⟩;simp only;by_cases hA:i<F2.length
  ·have hA':=ltE hA;have n0:=nnE i;have hwi:=wrE (n:=i) (by omega);have hgi:=Q5a F2 i hA;have hin:F2.getD i fd0∈F1:=hsub _ (by rw [List.getD_eq_getElem?_getD,List.getElem?_eq_getElem hA];exact List.getElem_mem _);have hany:=Zqn hin;generalize F2.getD i fd0=f at*;repeat simp -implicitDefEqProofs only [go_sem,seval,hA',List.length_map]
   refine Qas mixed (fun j:{j:Nat // j≤F1.length}=>St.of (hoV L s every c F1 F2++[(21,.int .i64 (i:Int)),(22,.bool (anyF f F1 j.1)),(23,.int .i64 (j.1:Int))]) [(0,pgX p),(1,rlX tol gap)]) (fun j=>F1.length-j.1) ⟨0,Nat.zero_le _⟩ ?_ ?_
   ·refine Qaj (θ:=[(0,0),(1,1)]) rfl ?_ ?_
    ·simp [Qac,lkp,ren1,ren0,Qah,anyF]
    ·exact⟨⟨rfl,rfl,rfl,rfl,rfl,.inr ⟨rfl,_,_,rfl,rfl,rfl,rfl⟩⟩,⟨rfl,rfl,rfl,rfl,rfl,.inr ⟨rfl,_,_,rfl,rfl,rfl,rfl⟩⟩,trivial⟩
   ·rintro⟨j,hj⟩;simp only;by_cases hB:j<F1.length
    ·have hB':=ltE hB;have j0:=nnE j;have hwj:=wrE (n:=j) (by omega);have hgj:=Q5a F1 j hB;have hst:anyF f F1 (j+1)=(anyF f F1 j||eqF (F1.getD j fd0) f):=rfl;unfold eqF at hst;generalize F1.getD j fd0=x at*;cases ha:anyF f F1 j with
     |true=>
      rw [ha,Bool.true_or]at hst;repeat (first|simp -implicitDefEqProofs only [go_sem,seval,hB',hwj,List.length_map]|(with_reducible refine And.intro (Qad _ _ (by kernel_rfl)) ?_))
      refine⟨⟨j+1,hB⟩,by simp only;omega,?_⟩;simp only [hst];refine Qaj (θ:=[(0,0),(1,1)]) rfl ?_ ?_
      ·simp [Qac,lkp,ren1,ren0,Qah]
      ·exact⟨⟨rfl,rfl,rfl,rfl,rfl,.inr ⟨rfl,_,_,rfl,rfl,rfl,rfl⟩⟩,⟨rfl,rfl,rfl,rfl,rfl,.inr ⟨rfl,_,_,rfl,rfl,rfl,rfl⟩⟩,trivial⟩
     |false=>
      rw [ha,Bool.false_or]at hst;repeat (first|simp -implicitDefEqProofs only [go_sem,seval,hB',j0,hwj,hgj,n0,hgi,Qat,BEq.rfl,Bool.and_true,Int.toNat_natCast,List.length_map]|(with_reducible refine And.intro (Qad _ _ (by kernel_rfl)) ?_))
      refine⟨⟨j+1,hB⟩,by simp only;omega,?_⟩;simp only [hst];refine Qaj (θ:=[(0,0),(1,1)]) rfl ?_ ?_
      ·simp [Qac,lkp,ren1,ren0,Qah]
      ·exact⟨⟨rfl,rfl,rfl,rfl,rfl,.inr ⟨rfl,_,_,rfl,rfl,rfl,rfl⟩⟩,⟨rfl,rfl,rfl,rfl,rfl,.inr ⟨rfl,_,_,rfl,rfl,rfl,rfl⟩⟩,trivial⟩
    ·have hB':=ltE' hB;obtain rfl:j=F1.length:=by omega
     rw [hany];repeat simp -implicitDefEqProofs only [go_sem,seval,hB',hwi,Bool.not_true,List.length_map]
     refine⟨⟨i+1,hA⟩,by simp only;omega,?_⟩;refine Qaj (θ:=[(0,0),(1,1)]) rfl ?_ ?_
     ·simp [Qac,lkp,ren1,ren0,Qah]
     ·exact⟨⟨rfl,rfl,rfl,rfl,rfl,.inr ⟨rfl,_,_,rfl,rfl,rfl,rfl⟩⟩,⟨rfl,rfl,rfl,rfl,rfl,.inr ⟨rfl,_,_,rfl,rfl,rfl,rfl⟩⟩,trivial⟩
  ·have hA':=ltE' hA;obtain rfl:i=F2.length:=by omega
   repeat simp -implicitDefEqProofs only [go_sem,seval,hA',List.length_map]
   refine Qaj (θ:=[(0,0),(1,1)]) rfl ?_ ?_
   ·simp [Qac,lkp,ren1,ren0,Qah]
   ·exact⟨⟨rfl,rfl,rfl,rfl,rfl,.inr ⟨rfl,_,_,rfl,rfl,rfl,rfl⟩⟩,⟨rfl,rfl,rfl,rfl,rfl,.inr ⟨rfl,_,_,rfl,rfl,rfl,rfl⟩⟩,trivial⟩
end Go.Proofs.YtnohfmdlaajpbaaGreat
