/-
  LF9, LF10, LF11, LF12, LF13, LF14 (merged for the claim).
-/
import Derived.Test.YtjlkapdmgjocdaaGreatLF8
import Derived.Test.YtjlkapdmgjocdaaGreatRows
import Derived.Test.YtjlkapdmgjocdaaGreatUV
set_option linter.unusedSimpArgs false
set_option linter.unusedVariables false
namespace Go.Proofs.YtjlkapdmgjocdaaGreat
open Go.Vl Go.RowKit Go.Dg
theorem Q6b:Qaw Tryz.prog 30=some (.agg [.int .i64 0,.int .i64 0]):=by kernel_rfl
theorem Q6c {n:Nat}: ∀(l:List Ac) (fr:List V3) (t:Int) (many:List Int),goB n fr t many l=true→0≤t→t≤3600000→(∀a∈l,1≤a.ln∧a.mv.length=n)∧t+(l.map Ac.ln).sum≤3600000
 | [],fr,t,many,_,h0,h1=>⟨by simp,by simpa using h1⟩
 |a::l,fr,t,many,h,h0,h1=>by
  simp only [goB,Bool.and_eq_true]at h;obtain⟨ha, -,hr⟩:=h;unfold actB at ha;simp only [Bool.and_eq_true,decide_eq_true_eq]at ha;obtain⟨i1,i2⟩:=Q6c l _ _ _ hr (by omega) (by omega);refine⟨fun b hb=> ?_,by simp only [List.map_cons,List.sum_cons];omega⟩;rcases List.mem_cons.1 hb with rfl|hb
  ·exact⟨ha.2.1,ha.2.2.2⟩
  ·exact i1 b hb
theorem Qbx {p:Pg} (h:Qbk p=true):Qor p=true∧p.as_.length≤60∧(∀a∈p.as_,1≤a.ln∧a.mv.length=p.ns.length)∧begT p p.as_.length≤3600000:=by
 unfold Qbk at h;simp only [Bool.and_eq_true,decide_eq_true_eq]at h;obtain⟨h1,h2,h3⟩:=h;obtain⟨i1,i2⟩:=Q6c p.as_ _ _ _ h3 (by decide) (by decide);refine⟨h1,h2,i1,?_⟩;unfold begT;rw [List.take_length];omega
theorem Qez {p:Pg} {k:Nat} (h:k<p.as_.length):begT p (k+1)=begT p k+(p.as_.getD k ac0).ln:=by
 unfold begT;rw [Qkk _ _ h,List.getD_eq_getElem?_getD,List.getElem?_eq_getElem h];simp only [List.map_append,List.map_cons,List.map_nil,List.sum_append,List.sum_cons,List.sum_nil,Option.getD_some];omega
theorem Qgt {p:Pg} (h:Qbk p=true) {k:Nat}: ∀m,k≤m→m≤p.as_.length→begT p k+(m-k:Nat)≤begT p m
 |0,h1,_=>by
    obtain rfl:k=0:=by omega
    simp
 |m+1,h1,h2=>by
  by_cases e:k=m+1
  ·subst e;simp
  ·have i:=Qgt h (k:=k) m (by omega) (by omega);have hs:=Qez (p:=p) (k:=m) (by omega);have hl:=((Qbx h).2.2.1 (p.as_.getD m ac0) (by rw [List.getD_eq_getElem?_getD,List.getElem?_eq_getElem (by omega)];exact List.getElem_mem _)).1;omega
theorem Qdx {p:Pg} (h:Qbk p=true) {k:Nat} (hk:k≤p.as_.length):(k:Int)≤begT p k∧begT p k≤3600000:=by
 have h1:=Qgt h (k:=0) k (Nat.zero_le _) hk;have h2:=Qgt h (k:=k) p.as_.length hk (Nat.le_refl _);have h3:=(Qbx h).2.2.2;have h0:begT p 0=0:=rfl;omega
theorem Qto (p:Pg) (h:Qbk p=true) (m:Nat) (hm:m≤p.as_.length) (x:Int) (hx:x=(m:Int)-1):Qaf Tryz.prog 36 [pgV p,.int .i64 x] (.int .i64 (begT p m)):=by
 have hpa:=(Qbx h).2.1;have w1:IntKind.i64.wrap (x+1)=(m:Int):=by rw [Qag (by omega) (by omega)];omega
 unfold pgV;refine Qab (tb:=[]) 22 [.tmp 4] [0,1,2,4,5,6,8,9,10] mixed Tryz.func36 rfl (by kernel_rfl) (by kernel_rfl) (by kernel_rfl) (by kernel_rfl) ?_;repeat (first|(simp -implicitDefEqProofs only [go_sem,Nat.reduceAdd,Nat.reduceMul,Nat.reduceEqDiff,Nat.reduceLT,Nat.reduceLeDiff,reduceCtorEq,w1]))
 refine Qar mixed (fun k:{k:Nat // k≤m}=>St.of [(2,.bp 0 3 0 0),(5,.int .i64 (begT p k.1)),(8,.int .i64 (m:Int)),(9,.int .i64 (k.1:Int))] [(0,{els:=[.agg [.slc (p.ns.map PV.str),.slc (p.hs.map v3PV),.slc (p.as_.map acV)]],esz:=3,ety:=26,fro:=0,live:=true,arr:=false})]) (fun k=>m-k.1) ⟨0,Nat.zero_le _⟩ ?_ ?_
 ·refine Qaj (θ:=[(0,0)]) rfl ?_ ?_
  ·simp [Qac,lkp,ren1,ren0,Qai,begT,List.take_zero,List.map_nil,List.sum_nil]
  ·exact⟨⟨rfl,rfl,rfl,rfl,rfl,.inr ⟨rfl,_,_,rfl,rfl,rfl,rfl⟩⟩,trivial⟩
 ·rintro⟨k,hk⟩;simp only;by_cases hA:k<m
  ·have hA':=lt_T hA;have n0:=nn_T k;have ga:=Qhz (p:=p) (i:=k) (by omega);have hwk:=wr_1 (n:=k) (by omega);have hs:=Qez (p:=p) (k:=k) (by omega);have b0:=Qdx h (k:=k) (by omega);have b1:=Qdx h (k:=k+1) (by omega);have hw:IntKind.i64.wrap (begT p k+(p.as_.getD k ac0).ln)=begT p (k+1):=by rw [hs];exact Qag (by omega) (by omega)
   repeat (first|(simp -implicitDefEqProofs only [go_sem,Nat.reduceAdd,Nat.reduceMul,Nat.reduceEqDiff,Nat.reduceLT,Nat.reduceLeDiff,reduceCtorEq,hA',n0,ga,hwk,hw,Int.toNat_natCast]))
   refine⟨⟨k+1,hA⟩,by simp only;omega,?_⟩;refine Qaj (θ:=[(0,0)]) rfl ?_ ?_
   ·simp [Qac,lkp,ren1,ren0,Qai]
   ·exact⟨⟨rfl,rfl,rfl,rfl,rfl,.inr ⟨rfl,_,_,rfl,rfl,rfl,rfl⟩⟩,trivial⟩
  ·have hA':=lt_F hA;obtain rfl:k=m:=by omega
   repeat (first|(simp -implicitDefEqProofs only [go_sem,Nat.reduceAdd,Nat.reduceMul,Nat.reduceEqDiff,Nat.reduceLT,Nat.reduceLeDiff,reduceCtorEq,hA']))
theorem Zma (p:Pg) (h:Qbk p=true) (m:Nat) (hm:m≤p.as_.length) (x:Int) (hx:x=(m:Int)-1):Qaf Tryz.prog 18 [pgV p,.int .i64 x] (.int .i64 (begT p m)):=by
 have hpa:=(Qbx h).2.1;unfold pgV;refine Qab (tb:=[]) 21 [.tmp 4] [0,1,2,4,5,6,9] mixed Tryz.func18 rfl (by kernel_rfl) (by kernel_rfl) (by kernel_rfl) (by kernel_rfl) ?_;repeat (first|(simp -implicitDefEqProofs only [go_sem,Nat.reduceAdd,Nat.reduceMul,Nat.reduceEqDiff,Nat.reduceLT,Nat.reduceLeDiff,reduceCtorEq]))
 refine Qar mixed (fun k:{k:Nat // k≤m}=>St.of [(1,.int .i64 x),(2,.bp 0 3 0 0),(5,.int .i64 (begT p k.1)),(6,.int .i64 (k.1:Int))] [(0,{els:=[.agg [.slc (p.ns.map PV.str),.slc (p.hs.map v3PV),.slc (p.as_.map acV)]],esz:=3,ety:=26,fro:=0,live:=true,arr:=false})]) (fun k=>m-k.1) ⟨0,Nat.zero_le _⟩ ?_ ?_
 ·refine Qaj (θ:=[(0,0)]) rfl ?_ ?_
  ·simp [Qac,lkp,ren1,ren0,Qai,begT,List.take_zero,List.map_nil,List.sum_nil]
  ·exact⟨⟨rfl,rfl,rfl,rfl,rfl,.inr ⟨rfl,_,_,rfl,rfl,rfl,rfl⟩⟩,trivial⟩
 ·rintro⟨k,hk⟩;simp only;by_cases hA:k<m
  ·have hA':((k:Int)≤x)=True:=eq_true (by omega);have n0:=nn_T k;have ga:=Qhz (p:=p) (i:=k) (by omega);have hwk:=wr_1 (n:=k) (by omega);have hs:=Qez (p:=p) (k:=k) (by omega);have b0:=Qdx h (k:=k) (by omega);have b1:=Qdx h (k:=k+1) (by omega);have hw:IntKind.i64.wrap (begT p k+(p.as_.getD k ac0).ln)=begT p (k+1):=by rw [hs];exact Qag (by omega) (by omega)
   repeat (first|(simp -implicitDefEqProofs only [go_sem,Nat.reduceAdd,Nat.reduceMul,Nat.reduceEqDiff,Nat.reduceLT,Nat.reduceLeDiff,reduceCtorEq,hA',n0,ga,hwk,hw,Int.toNat_natCast]))
   refine⟨⟨k+1,hA⟩,by simp only;omega,?_⟩;refine Qaj (θ:=[(0,0)]) rfl ?_ ?_
   ·simp [Qac,lkp,ren1,ren0,Qai]
   ·exact⟨⟨rfl,rfl,rfl,rfl,rfl,.inr ⟨rfl,_,_,rfl,rfl,rfl,rfl⟩⟩,trivial⟩
  ·have hA':((k:Int)≤x)=False:=eq_false (by omega);obtain rfl:k=m:=by omega
   repeat (first|(simp -implicitDefEqProofs only [go_sem,Nat.reduceAdd,Nat.reduceMul,Nat.reduceEqDiff,Nat.reduceLT,Nat.reduceLeDiff,reduceCtorEq,hA']))
def Qe0 (p:Pg) (i k:Int):Bool:=Qbk p&&(decide (0≤i)&&(decide (i<(p.ns.length:Int))&&(decide (0≤k)&&decide (k<(p.as_.length:Int)))))
set_option maxHeartbeats 2000000 in
theorem Qko (p:Pg) (hp:okP p) (i k:Int):Qaf Tryz.prog 12 [pgV p,.agg [.int .i64 i,.int .i64 k]] (.bool (Qe0 p i k)):=by
 have hV:=Qkn p hp;unfold Qe0;unfold pgV at hV ⊢;cases e1:Qbk p with
 |false=>
  rw [e1]at hV;refine Qab (tb:=[]) 33 [.tmp 4] [0,1,2,3,4] mixed Tryz.func12 rfl (by kernel_rfl) (by kernel_rfl) (by kernel_rfl) (by kernel_rfl) ?_;repeat (first|(simp -implicitDefEqProofs only [go_sem,Nat.reduceAdd,Nat.reduceMul,Nat.reduceEqDiff,Nat.reduceLT,Nat.reduceLeDiff,reduceCtorEq,Bool.false_and])|((with_reducible refine Qaa hV ?_ ?_ ?_);rfl;rfl))
 |true=>
 rw [e1]at hV;by_cases e2:0≤i
 case neg=>
  have e2':(0≤i)=False:=eq_false e2;refine Qab (tb:=[]) 33 [.tmp 4] [0,1,2,3,4] mixed Tryz.func12 rfl (by kernel_rfl) (by kernel_rfl) (by kernel_rfl) (by kernel_rfl) ?_;repeat (first|(simp -implicitDefEqProofs only [go_sem,Nat.reduceAdd,Nat.reduceMul,Nat.reduceEqDiff,Nat.reduceLT,Nat.reduceLeDiff,reduceCtorEq,Bool.false_and,Bool.true_and,e2',decide_false])|((with_reducible refine Qaa hV ?_ ?_ ?_);rfl;rfl))
 have e2':(0≤i)=True:=eq_true e2;by_cases e3:i<(p.ns.length:Int)
 case neg=>
  have e3':(i<(p.ns.length:Int))=False:=eq_false e3;refine Qab (tb:=[]) 33 [.tmp 4] [0,1,2,3,4] mixed Tryz.func12 rfl (by kernel_rfl) (by kernel_rfl) (by kernel_rfl) (by kernel_rfl) ?_;repeat (first|(simp -implicitDefEqProofs only [go_sem,Nat.reduceAdd,Nat.reduceMul,Nat.reduceEqDiff,Nat.reduceLT,Nat.reduceLeDiff,reduceCtorEq,Bool.false_and,Bool.true_and,e2',e3',decide_false,decide_true,List.length_map])|((with_reducible refine Qaa hV ?_ ?_ ?_);rfl;rfl))
 have e3':(i<(p.ns.length:Int))=True:=eq_true e3;by_cases e4:0≤k
 case neg=>
  have e4':(0≤k)=False:=eq_false e4;refine Qab (tb:=[]) 33 [.tmp 4] [0,1,2,3,4] mixed Tryz.func12 rfl (by kernel_rfl) (by kernel_rfl) (by kernel_rfl) (by kernel_rfl) ?_;repeat (first|(simp -implicitDefEqProofs only [go_sem,Nat.reduceAdd,Nat.reduceMul,Nat.reduceEqDiff,Nat.reduceLT,Nat.reduceLeDiff,reduceCtorEq,Bool.false_and,Bool.true_and,e2',e3',e4',decide_false,decide_true,List.length_map])|((with_reducible refine Qaa hV ?_ ?_ ?_);rfl;rfl))
 have e4':(0≤k)=True:=eq_true e4;refine Qab (tb:=[]) 33 [.tmp 4] [0,1,2,3,4] mixed Tryz.func12 rfl (by kernel_rfl) (by kernel_rfl) (by kernel_rfl) (by kernel_rfl) ?_;repeat (first|(simp -implicitDefEqProofs only [go_sem,Nat.reduceAdd,Nat.reduceMul,Nat.reduceEqDiff,Nat.reduceLT,Nat.reduceLeDiff,reduceCtorEq,Bool.true_and,e2',e3',e4',decide_true,List.length_map])|((with_reducible refine Qaa hV ?_ ?_ ?_);rfl;rfl))
set_option maxHeartbeats 2000000 in
theorem Zon (p:Pg) (hp:okP p) (i k:Int):Qaf Tryz.prog 13 [pgV p,.agg [.int .i64 i,.int .i64 k]] (.bool (Qe0 p i k)):=by
 have hV:=Qkn p hp;unfold Qe0;unfold pgV at hV ⊢;cases e1:Qbk p with
 |false=>
  rw [e1]at hV;refine Qab (tb:=[]) 33 [.tmp 4] [0,1,2,3,4] mixed Tryz.func13 rfl (by kernel_rfl) (by kernel_rfl) (by kernel_rfl) (by kernel_rfl) ?_;repeat (first|(simp -implicitDefEqProofs only [go_sem,Nat.reduceAdd,Nat.reduceMul,Nat.reduceEqDiff,Nat.reduceLT,Nat.reduceLeDiff,reduceCtorEq,Bool.false_and])|((with_reducible refine Qaa hV ?_ ?_ ?_);rfl;rfl))
 |true=>
 rw [e1]at hV;by_cases e2:0≤i
 case neg=>
  have e2':(0≤i)=False:=eq_false e2;refine Qab (tb:=[]) 33 [.tmp 4] [0,1,2,3,4] mixed Tryz.func13 rfl (by kernel_rfl) (by kernel_rfl) (by kernel_rfl) (by kernel_rfl) ?_;repeat (first|(simp -implicitDefEqProofs only [go_sem,Nat.reduceAdd,Nat.reduceMul,Nat.reduceEqDiff,Nat.reduceLT,Nat.reduceLeDiff,reduceCtorEq,Bool.false_and,Bool.true_and,e2',decide_false])|((with_reducible refine Qaa hV ?_ ?_ ?_);rfl;rfl))
 have e2':(0≤i)=True:=eq_true e2;by_cases e3:i<(p.ns.length:Int)
 case neg=>
  have e3':(i<(p.ns.length:Int))=False:=eq_false e3;refine Qab (tb:=[]) 33 [.tmp 4] [0,1,2,3,4] mixed Tryz.func13 rfl (by kernel_rfl) (by kernel_rfl) (by kernel_rfl) (by kernel_rfl) ?_;repeat (first|(simp -implicitDefEqProofs only [go_sem,Nat.reduceAdd,Nat.reduceMul,Nat.reduceEqDiff,Nat.reduceLT,Nat.reduceLeDiff,reduceCtorEq,Bool.false_and,Bool.true_and,e2',e3',decide_false,decide_true,List.length_map])|((with_reducible refine Qaa hV ?_ ?_ ?_);rfl;rfl))
 have e3':(i<(p.ns.length:Int))=True:=eq_true e3;by_cases e4:0≤k
 case neg=>
  have e4':(0≤k)=False:=eq_false e4;refine Qab (tb:=[]) 33 [.tmp 4] [0,1,2,3,4] mixed Tryz.func13 rfl (by kernel_rfl) (by kernel_rfl) (by kernel_rfl) (by kernel_rfl) ?_;repeat (first|(simp -implicitDefEqProofs only [go_sem,Nat.reduceAdd,Nat.reduceMul,Nat.reduceEqDiff,Nat.reduceLT,Nat.reduceLeDiff,reduceCtorEq,Bool.false_and,Bool.true_and,e2',e3',e4',decide_false,decide_true,List.length_map])|((with_reducible refine Qaa hV ?_ ?_ ?_);rfl;rfl))
 have e4':(0≤k)=True:=eq_true e4;refine Qab (tb:=[]) 33 [.tmp 4] [0,1,2,3,4] mixed Tryz.func13 rfl (by kernel_rfl) (by kernel_rfl) (by kernel_rfl) (by kernel_rfl) ?_;repeat (first|(simp -implicitDefEqProofs only [go_sem,Nat.reduceAdd,Nat.reduceMul,Nat.reduceEqDiff,Nat.reduceLT,Nat.reduceLeDiff,reduceCtorEq,Bool.true_and,e2',e3',e4',decide_true,List.length_map])|((with_reducible refine Qaa hV ?_ ?_ ?_);rfl;rfl))
def Qkp (p:Pg) (i t:Int):Bool:=Qe0 p i 0&&(decide (0≤t)&&decide (t≤begT p p.as_.length))
theorem Qcn {p:Pg} {i k:Int} (h:Qe0 p i k=true):Qbk p=true∧0≤i∧i<(p.ns.length:Int)∧0≤k∧k<(p.as_.length:Int):=by
 unfold Qe0 at h;simpa using h
set_option maxRecDepth 100000 in
theorem Qrg (p:Pg) (hp:okP p) (i t:Int):Qaf Tryz.prog 14 [pgV p,.agg [.int .i64 i,.int .i64 t]] (.bool (Qkp p i t)):=by
 have hC:=Qko p hp i 0;unfold Qkp;cases e1:Qe0 p i 0 with
 |false=>
  rw [e1]at hC;unfold pgV at hC ⊢;refine Qab (tb:=[]) 25 [.tmp 4] [0,1,2,3,4,15] mixed Tryz.func14 rfl (by kernel_rfl) (by kernel_rfl) (by kernel_rfl) (by kernel_rfl) ?_;repeat (first|(simp -implicitDefEqProofs only [go_sem,Nat.reduceAdd,Nat.reduceMul,Nat.reduceEqDiff,Nat.reduceLT,Nat.reduceLeDiff,reduceCtorEq,Q6b,Bool.not_false,Bool.false_and])|((with_reducible refine Qaa hC ?_ ?_ ?_);rfl;rfl))
 |true=>
 rw [e1]at hC;obtain⟨v, -, -, -,hk⟩:=Qcn e1;have he:=Qto p v p.as_.length (Nat.le_refl _) ((p.as_.length:Int)-1) rfl;have hpa:=(Qbx v).2.1;have w:IntKind.i64.wrap ((p.as_.length:Int)-1)=(p.as_.length:Int)-1:=Qag (by omega) (by omega);unfold pgV at hC he ⊢;by_cases e2:0≤t
 case neg=>
  have e2':(t<0)=True:=eq_true (by omega);rw [decide_eq_false e2];refine Qab (tb:=[]) 25 [.tmp 4] [0,1,2,3,4,15] mixed Tryz.func14 rfl (by kernel_rfl) (by kernel_rfl) (by kernel_rfl) (by kernel_rfl) ?_;repeat (first|(simp -implicitDefEqProofs only [go_sem,Nat.reduceAdd,Nat.reduceMul,Nat.reduceEqDiff,Nat.reduceLT,Nat.reduceLeDiff,reduceCtorEq,Q6b,Bool.not_true,Bool.false_and,Bool.and_false,e2',decide_true])|((with_reducible refine Qaa hC ?_ ?_ ?_);rfl;rfl))
 have e2':(t<0)=False:=eq_false (by omega);rw [decide_eq_true e2];refine Qab (tb:=[]) 25 [.tmp 4] [0,1,2,3,4,15] mixed Tryz.func14 rfl (by kernel_rfl) (by kernel_rfl) (by kernel_rfl) (by kernel_rfl) ?_;repeat (first|(simp -implicitDefEqProofs only [go_sem,Nat.reduceAdd,Nat.reduceMul,Nat.reduceEqDiff,Nat.reduceLT,Nat.reduceLeDiff,reduceCtorEq,Q6b,Bool.not_true,Bool.true_and,e2',w,decide_false,List.length_map])|((with_reducible refine Qaa hC ?_ ?_ ?_);rfl;rfl)|((with_reducible refine Qaa he ?_ ?_ ?_);rfl;rfl)|(with_reducible exact Qae _ _ (by kernel_rfl)))
end Go.Proofs.YtjlkapdmgjocdaaGreat

namespace Go.Proofs.YtjlkapdmgjocdaaGreat
open Go.Vl Go.RowKit Go.Dg
def Qi8 (p:Pg) (t:Int) (k:Nat):Prop:=k<p.as_.length∧begT p k≤t∧(k+1=p.as_.length∨t<begT p (k+1))
theorem Qpo {p:Pg} {t:Int}: ∀(d k:Nat),k+d+1=p.as_.length→begT p k≤t→ ∃K,Qi8 p t K
 |0,k,h,h1=>⟨k,by omega,h1,.inl (by omega)⟩
 |d+1,k,h,h1=>by
  by_cases e:t<begT p (k+1)
  ·exact⟨k,by omega,h1,.inr e⟩
  ·exact Qpo d (k+1) (by omega) (by omega)
theorem Zdv {p:Pg} {t:Int} (h:0<p.as_.length) (ht:0≤t): ∃K,Qi8 p t K:=
 Qpo (p.as_.length-1) 0 (by omega) ht
theorem Zny {p:Pg} (h:Qbk p=true) {k m:Nat} (h1:k≤m) (h2:m≤p.as_.length):begT p k≤begT p m:=by
 have:=Qgt h (k:=k) m h1 h2;omega
theorem Q5k (p:Pg):begT p 0=0:=rfl
theorem Qii {p:Pg} {i t:Int} (h:Qkp p i t=true):Qbk p=true∧0≤i∧i<(p.ns.length:Int)∧0<p.as_.length∧0≤t∧t≤begT p p.as_.length:=by
 unfold Qkp at h;simp only [Bool.and_eq_true,decide_eq_true_eq]at h;have:=Qcn h.1;exact⟨this.1,this.2.1,this.2.2.1,by omega,h.2.1,h.2.2⟩
theorem Zdw (p:Pg) (hp:okP p) (v:Qbk p=true):Qaf Tryz.prog 61 [pgV p] (.tup [.int .i64 (begT p p.as_.length),.int .i64 0]):=by
 have hV:=Qkn p hp;rw [v]at hV;have hpa:=(Qbx v).2.1;unfold pgV at hV ⊢;refine Qab (tb:=[]) 23 [.tmp 2,.tmp 3] [0,1,2,3,4,6,9,11,12,13,14] mixed Tryz.func61 rfl (by kernel_rfl) (by kernel_rfl) (by kernel_rfl) (by kernel_rfl) ?_;repeat (first|(simp -implicitDefEqProofs only [go_sem,Nat.reduceAdd,Nat.reduceMul,Nat.reduceEqDiff,Nat.reduceLT,Nat.reduceLeDiff,reduceCtorEq,Bool.not_true,List.length_map])|((with_reducible refine Qaa hV ?_ ?_ ?_);rfl;rfl))
 refine Qar mixed (fun k:{k:Nat // k≤p.as_.length}=>St.of [(1,.bp 0 3 0 0),(2,.int .i64 0),(3,.int .i64 0),(4,.int .i64 (begT p k.1)),(11,.slc (p.as_.map acV)),(12,.int .i64 (p.as_.length:Int)),(13,.int .i64 (k.1:Int))] [(0,{els:=[.agg [.slc (p.ns.map PV.str),.slc (p.hs.map v3PV),.slc (p.as_.map acV)]],esz:=3,ety:=26,fro:=0,live:=true,arr:=false})]) (fun k=>p.as_.length-k.1) ⟨0,Nat.zero_le _⟩ ?_ ?_
 ·refine Qaj (θ:=[(0,0)]) rfl ?_ ?_
  ·simp [Qac,lkp,ren1,ren0,Qai,Q5k]
  ·exact⟨⟨rfl,rfl,rfl,rfl,rfl,.inr ⟨rfl,_,_,rfl,rfl,rfl,rfl⟩⟩,trivial⟩
 ·rintro⟨k,hk⟩;simp only;by_cases hA:k<p.as_.length
  ·have hA':=lt_T hA;have n0:=nn_T k;have ga:=Qhz (p:=p) (i:=k) (by omega);have hwk:=wr_1 (n:=k) (by omega);have hs:=Qez (p:=p) (k:=k) (by omega);have b0:=Qdx v (k:=k) (by omega);have b1:=Qdx v (k:=k+1) (by omega);have hw:IntKind.i64.wrap (begT p k+(p.as_.getD k ac0).ln)=begT p (k+1):=by rw [hs];exact Qag (by omega) (by omega)
   repeat (first|(simp -implicitDefEqProofs only [go_sem,Nat.reduceAdd,Nat.reduceMul,Nat.reduceEqDiff,Nat.reduceLT,Nat.reduceLeDiff,reduceCtorEq,hA',n0,ga,hwk,hw,Int.toNat_natCast]))
   refine⟨⟨k+1,hA⟩,by simp only;omega,?_⟩;refine Qaj (θ:=[(0,0)]) rfl ?_ ?_
   ·simp [Qac,lkp,ren1,ren0,Qai]
   ·exact⟨⟨rfl,rfl,rfl,rfl,rfl,.inr ⟨rfl,_,_,rfl,rfl,rfl,rfl⟩⟩,trivial⟩
  ·have hA':=lt_F hA;obtain rfl:k=p.as_.length:=by omega
   repeat (first|(simp -implicitDefEqProofs only [go_sem,Nat.reduceAdd,Nat.reduceMul,Nat.reduceEqDiff,Nat.reduceLT,Nat.reduceLeDiff,reduceCtorEq,hA']))
set_option maxHeartbeats 1000000 in
theorem Zyc (p:Pg) (hp:okP p) (v:Qbk p=true) (t:Int) (K:Nat) (hK:Qi8 p t K) (ht:t≤begT p p.as_.length):
  Qaf Tryz.prog 35 [pgV p,.int .i64 t] (.tup [.int .i64 (K:Int),.int .i64 (begT p K),.int .i64 0]):=by
 have hL:=Zdw p hp v;have hpa:=(Qbx v).2.1;obtain⟨k1,k2,k3⟩:=hK;have b0:=Qdx v (k:=K) (by omega);have bN:=Qdx v (k:=p.as_.length) (by omega);have t1:(t<0)=False:=eq_false (by omega);have t2:(begT p p.as_.length<t)=False:=eq_false (by omega);have t3:(begT p p.as_.length==0)=false:=by simp;omega
 have w1:IntKind.i64.wrap ((p.as_.length:Int)-1)=(p.as_.length:Int)-1:=Qag (by omega) (by omega);unfold pgV at hL ⊢;refine Qab (tb:=[]) 59 [.tmp 4,.tmp 5,.tmp 6] [0,1,2,4,5,6,7,13,17,46] mixed Tryz.func35 rfl (by kernel_rfl) (by kernel_rfl) (by kernel_rfl) (by kernel_rfl) ?_;repeat (first|(simp -implicitDefEqProofs only [go_sem,Nat.reduceAdd,Nat.reduceMul,Nat.reduceEqDiff,Nat.reduceLT,Nat.reduceLeDiff,reduceCtorEq,t1,t2,t3,decide_false,bne_self_eq_false])|((with_reducible refine Qaa hL ?_ ?_ ?_);rfl;rfl))
 refine Qar mixed (fun k:{k:Nat // k≤K}=>St.of [(1,.int .i64 t),(2,.bp 0 3 0 0),(4,.int .i64 (k.1:Int)),(5,.int .i64 (begT p k.1))] [(0,{els:=[.agg [.slc (p.ns.map PV.str),.slc (p.hs.map v3PV),.slc (p.as_.map acV)]],esz:=3,ety:=26,fro:=0,live:=true,arr:=false})]) (fun k=>K-k.1) ⟨0,Nat.zero_le _⟩ ?_ ?_
 ·refine Qaj (θ:=[(0,0)]) rfl ?_ ?_
  ·simp [Qac,lkp,ren1,ren0,Qai,Q5k]
  ·exact⟨⟨rfl,rfl,rfl,rfl,rfl,.inr ⟨rfl,_,_,rfl,rfl,rfl,rfl⟩⟩,trivial⟩
 ·rintro⟨k,hk⟩;simp only;have n0:=nn_T k;have ga:=Qhz (p:=p) (i:=k) (by omega);have hwk:=wr_1 (n:=k) (by omega);have hs:=Qez (p:=p) (k:=k) (by omega);have c0:=Qdx v (k:=k) (by omega);have c1:=Qdx v (k:=k+1) (by omega);have hw:IntKind.i64.wrap (begT p k+(p.as_.getD k ac0).ln)=begT p (k+1):=by rw [hs];exact Qag (by omega) (by omega)
  by_cases hA:k<K
  ·have m1:=Zny v (k:=k+1) (m:=K) hA (by omega);have h1:((k:Int)<(p.as_.length:Int)-1)=True:=eq_true (by omega);have h2:(begT p (k+1)≤t)=True:=eq_true (by omega);repeat (first|(simp -implicitDefEqProofs only [go_sem,Nat.reduceAdd,Nat.reduceMul,Nat.reduceEqDiff,Nat.reduceLT,Nat.reduceLeDiff,reduceCtorEq,h1,h2,w1,n0,ga,hwk,hw,decide_true,Int.toNat_natCast,List.length_map]))
   refine⟨⟨k+1,hA⟩,by simp only;omega,?_⟩;refine Qaj (θ:=[(0,0)]) rfl ?_ ?_
   ·simp [Qac,lkp,ren1,ren0,Qai]
   ·exact⟨⟨rfl,rfl,rfl,rfl,rfl,.inr ⟨rfl,_,_,rfl,rfl,rfl,rfl⟩⟩,trivial⟩
  ·obtain rfl:k=K:=by omega
   by_cases hB:k+1=p.as_.length
   ·have h1:((k:Int)<(p.as_.length:Int)-1)=False:=eq_false (by omega);repeat (first|(simp -implicitDefEqProofs only [go_sem,Nat.reduceAdd,Nat.reduceMul,Nat.reduceEqDiff,Nat.reduceLT,Nat.reduceLeDiff,reduceCtorEq,h1,w1,decide_false,List.length_map]))
   ·have h1:((k:Int)<(p.as_.length:Int)-1)=True:=eq_true (by omega);have h2:(begT p (k+1)≤t)=False:=eq_false (by omega);repeat (first|(simp -implicitDefEqProofs only [go_sem,Nat.reduceAdd,Nat.reduceMul,Nat.reduceEqDiff,Nat.reduceLT,Nat.reduceLeDiff,reduceCtorEq,h1,h2,w1,n0,ga,hw,decide_true,decide_false,Int.toNat_natCast,List.length_map]))
theorem Of_v (p:Pg) (hp:okP p) (i t:Int) (K:Nat) (hK:Qkp p i t=true→Qi8 p t K):
  Qaf Tryz.prog 11 [pgV p,.agg [.int .i64 i,.int .i64 t]] (.tup [.agg [.int .i64 (if Qkp p i t=true then i else 0),.int .i64 (if Qkp p i t=true then(K:Int)else 0)],.int .i64 (if Qkp p i t=true then 0 else 2)]):=by
 have hF:=Qrg p hp i t;cases e:Qkp p i t with
 |false=>
  rw [e]at hF;rw [if_neg Bool.false_ne_true,if_neg Bool.false_ne_true,if_neg Bool.false_ne_true];unfold pgV at hF ⊢;refine Qab (tb:=[]) 26 [.cell 4 30,.tmp 5] [0,1,2,3,4,5,6,12] mixed Tryz.func11 rfl (by kernel_rfl) (by kernel_rfl) (by kernel_rfl) (by kernel_rfl) ?_;repeat (first|(simp -implicitDefEqProofs only [go_sem,Nat.reduceAdd,Nat.reduceMul,Nat.reduceEqDiff,Nat.reduceLT,Nat.reduceLeDiff,reduceCtorEq,Bool.not_false])|((with_reducible refine Qaa hF ?_ ?_ ?_);rfl;rfl))
 |true=>
  rw [e]at hF;obtain⟨v,i1,i2,a1,t1,t2⟩:=Qii e;have hA:=Zyc p hp v t K (hK e) t2;rw [if_pos rfl,if_pos rfl,if_pos rfl];unfold pgV at hF hA ⊢;refine Qab (tb:=[]) 26 [.cell 4 30,.tmp 5] [0,1,2,3,4,5,6,12] mixed Tryz.func11 rfl (by kernel_rfl) (by kernel_rfl) (by kernel_rfl) (by kernel_rfl) ?_;repeat (first|(simp -implicitDefEqProofs only [go_sem,Nat.reduceAdd,Nat.reduceMul,Nat.reduceEqDiff,Nat.reduceLT,Nat.reduceLeDiff,reduceCtorEq,Bool.not_true])|((with_reducible refine Qaa hF ?_ ?_ ?_);rfl;rfl)|((with_reducible refine Qaa hA ?_ ?_ ?_);rfl;rfl))
theorem Zuw (p:Pg) (hp:okP p) (i k:Int):Qaf Tryz.prog 22 [pgV p,.agg [.int .i64 i,.int .i64 k]] (.tup [.int .i64 (if Qe0 p i k=true then begT p (k.toNat+1)else 0),.int .i64 (if Qe0 p i k=true then 0 else 2)]):=by
 have hF:=Qko p hp i k;cases e:Qe0 p i k with
 |false=>
  rw [e]at hF;rw [if_neg Bool.false_ne_true,if_neg Bool.false_ne_true];unfold pgV at hF ⊢;refine Qab (tb:=[]) 14 [.tmp 4,.tmp 5] [0,1,2,3,4,5,9] mixed Tryz.func22 rfl (by kernel_rfl) (by kernel_rfl) (by kernel_rfl) (by kernel_rfl) ?_;repeat (first|(simp -implicitDefEqProofs only [go_sem,Nat.reduceAdd,Nat.reduceMul,Nat.reduceEqDiff,Nat.reduceLT,Nat.reduceLeDiff,reduceCtorEq,Bool.not_false])|((with_reducible refine Qaa hF ?_ ?_ ?_);rfl;rfl))
 |true=>
  rw [e]at hF;obtain⟨v,i1,i2,a1,a2⟩:=Qcn e;have hA:=Qto p v (k.toNat+1) (by omega) k (by omega);rw [if_pos rfl,if_pos rfl];unfold pgV at hF hA ⊢;refine Qab (tb:=[]) 14 [.tmp 4,.tmp 5] [0,1,2,3,4,5,9] mixed Tryz.func22 rfl (by kernel_rfl) (by kernel_rfl) (by kernel_rfl) (by kernel_rfl) ?_;repeat (first|(simp -implicitDefEqProofs only [go_sem,Nat.reduceAdd,Nat.reduceMul,Nat.reduceEqDiff,Nat.reduceLT,Nat.reduceLeDiff,reduceCtorEq,Bool.not_true])|((with_reducible refine Qaa hF ?_ ?_ ?_);rfl;rfl)|((with_reducible refine Qaa hA ?_ ?_ ?_);rfl;rfl))
def ptA (p:Pg) (i k:Int):V3:=if Qe0 p i k=true then((p.as_.getD k.toNat ac0).mv.getD i.toNat mv0).to else⟨0,0,0⟩
theorem Znz {l:List Mv} {i:Nat} (h:i<l.length):(l.map mvV)[i]? =some (.agg [.int .i64 (l.getD i mv0).to.x,.int .i64 (l.getD i mv0).to.y,.int .i64 (l.getD i mv0).to.z,.int .i64 (l.getD i mv0).w,.int .i64 (l.getD i mv0).f,.int .i64 (l.getD i mv0).r]):=by
 rw [List.getElem?_map,List.getElem?_eq_getElem h,List.getD_eq_getElem?_getD,List.getElem?_eq_getElem h];rfl
theorem Q5l (p:Pg) (hp:okP p) (i k:Int):Qaf Tryz.prog 23 [pgV p,.agg [.int .i64 i,.int .i64 k]] (.tup [v3PV (ptA p i k),.int .i64 (if Qe0 p i k=true then 0 else 2)]):=by
 have hF:=Qko p hp i k;unfold ptA;cases e:Qe0 p i k with
 |false=>
  rw [e]at hF;rw [if_neg Bool.false_ne_true,if_neg Bool.false_ne_true];unfold pgV v3PV at hF ⊢;refine Qab (tb:=[]) 23 [.cell 4 54,.tmp 5] [0,1,2,3,4,5,9] mixed Tryz.func23 rfl (by kernel_rfl) (by kernel_rfl) (by kernel_rfl) (by kernel_rfl) ?_;repeat (first|(simp -implicitDefEqProofs only [go_sem,Nat.reduceAdd,Nat.reduceMul,Nat.reduceEqDiff,Nat.reduceLT,Nat.reduceLeDiff,reduceCtorEq,Bool.not_false])|((with_reducible refine Qaa hF ?_ ?_ ?_);rfl;rfl))
 |true=>
  rw [e]at hF;obtain⟨v,i1,i2,a1,a2⟩:=Qcn e;obtain⟨m,rfl⟩: ∃m:Nat,k=(m:Int):=⟨k.toNat,by omega⟩;obtain⟨j,rfl⟩: ∃m:Nat,i=(m:Int):=⟨i.toNat,by omega⟩;have n0:=nn_T m;have n1:=nn_T j;have ga:=Qhz (p:=p) (i:=m) (by omega);have hml:=(Qbx v).2.2.1 (p.as_.getD m ac0) (by rw [List.getD_eq_getElem?_getD,List.getElem?_eq_getElem (by omega)];exact List.getElem_mem _);have gm:=Znz (l:=(p.as_.getD m ac0).mv) (i:=j) (by omega);rw [if_pos rfl,if_pos rfl];unfold pgV v3PV at hF ⊢;simp only [Int.toNat_natCast];refine Qab (tb:=[]) 23 [.cell 4 54,.tmp 5] [0,1,2,3,4,5,9] mixed Tryz.func23 rfl (by kernel_rfl) (by kernel_rfl) (by kernel_rfl) (by kernel_rfl) ?_;repeat (first|(simp -implicitDefEqProofs only [go_sem,Nat.reduceAdd,Nat.reduceMul,Nat.reduceEqDiff,Nat.reduceLT,Nat.reduceLeDiff,reduceCtorEq,Bool.not_true,n0,n1,ga,gm,Int.toNat_natCast])|((with_reducible refine Qaa hF ?_ ?_ ?_);rfl;rfl)|(with_reducible exact Qae _ _ (by kernel_rfl)))
def stN (p:Pg) (i t one at_:Int) (K:Nat):Int:=if one≠i∨at_<t then 0 else if at_<begT p (K+1)then 1 else 2
def stG (p:Pg) (i t one:Int):Bool:=Qkp p i t&&(decide (0≤one)&&decide (one<(p.ns.length:Int)))
def stH (p:Pg) (at_:Int):Bool:=decide (0≤at_)&&decide (at_≤begT p p.as_.length)
def stE (p:Pg) (i t one at_:Int):Int:=if stG p i t one=true then(if stH p at_=true then 0 else 3)else 2
def stV (p:Pg) (i t one at_:Int) (K:Nat):Int:=if stG p i t one=true then(if stH p at_=true then stN p i t one at_ K else 0)else 0
set_option maxHeartbeats 1000000 in
theorem Qkl (p:Pg) (hp:okP p) (i t one at_:Int) (K:Nat) (hK:Qkp p i t=true→Qi8 p t K):
  Qaf Tryz.prog 17 [pgV p,.agg [.int .i64 i,.int .i64 t],.int .i64 one,.int .i64 at_] (.tup [.int .i64 (stV p i t one at_ K),.int .i64 (stE p i t one at_)]):=by
 have hF:=Qrg p hp i t;have hO:=Of_v p hp i t K hK;unfold stV stE stG;cases e:Qkp p i t with
 |false=>
  rw [e]at hF;simp only [Bool.false_and,Bool.false_eq_true,if_false];unfold pgV at hF ⊢;refine Qab (tb:=[]) 62 [.tmp 8,.tmp 9] [0,1,2,3,4,5,8,9,10,26,38,45,50,55] mixed Tryz.func17 rfl (by kernel_rfl) (by kernel_rfl) (by kernel_rfl) (by kernel_rfl) ?_;repeat (first|(simp -implicitDefEqProofs only [go_sem,Nat.reduceAdd,Nat.reduceMul,Nat.reduceEqDiff,Nat.reduceLT,Nat.reduceLeDiff,reduceCtorEq,Bool.not_false])|((with_reducible refine Qaa hF ?_ ?_ ?_);rfl;rfl))
 |true=>
 rw [e]at hF hO;rw [if_pos rfl,if_pos rfl,if_pos rfl]at hO;obtain⟨v,i1,i2,a1,t1,t2⟩:=Qii e;have hpa:=(Qbx v).2.1;have hKs:=hK e;have hE1:=Qto p v p.as_.length (Nat.le_refl _) ((p.as_.length:Int)-1) rfl;have hE2:=Qto p v (K+1) hKs.1 (K:Int) (by omega);have w1:IntKind.i64.wrap ((p.as_.length:Int)-1)=(p.as_.length:Int)-1:=Qag (by omega) (by omega);by_cases e1:0≤one
 case neg=>
  have e1':(one<0)=True:=eq_true (by omega);rw [decide_eq_false e1];simp only [Bool.false_and,Bool.and_false,Bool.false_eq_true,if_false];unfold pgV at hF ⊢;refine Qab (tb:=[]) 62 [.tmp 8,.tmp 9] [0,1,2,3,4,5,8,9,10,26,38,45,50,55] mixed Tryz.func17 rfl (by kernel_rfl) (by kernel_rfl) (by kernel_rfl) (by kernel_rfl) ?_;repeat (first|(simp -implicitDefEqProofs only [go_sem,Nat.reduceAdd,Nat.reduceMul,Nat.reduceEqDiff,Nat.reduceLT,Nat.reduceLeDiff,reduceCtorEq,Bool.not_true,e1',decide_true])|((with_reducible refine Qaa hF ?_ ?_ ?_);rfl;rfl))
 have e1':(one<0)=False:=eq_false (by omega);by_cases e2:one<(p.ns.length:Int)
 case neg=>
  have e2':((p.ns.length:Int)≤one)=True:=eq_true (by omega);rw [decide_eq_false e2];simp only [Bool.false_and,Bool.and_false,Bool.false_eq_true,if_false];unfold pgV at hF ⊢;refine Qab (tb:=[]) 62 [.tmp 8,.tmp 9] [0,1,2,3,4,5,8,9,10,26,38,45,50,55] mixed Tryz.func17 rfl (by kernel_rfl) (by kernel_rfl) (by kernel_rfl) (by kernel_rfl) ?_;repeat (first|(simp -implicitDefEqProofs only [go_sem,Nat.reduceAdd,Nat.reduceMul,Nat.reduceEqDiff,Nat.reduceLT,Nat.reduceLeDiff,reduceCtorEq,Bool.not_true,e1',e2',decide_true,decide_false,List.length_map])|((with_reducible refine Qaa hF ?_ ?_ ?_);rfl;rfl))
 have e2':((p.ns.length:Int)≤one)=False:=eq_false (by omega);rw [decide_eq_true e1,decide_eq_true e2];simp only [Bool.true_and,if_true];unfold stH;by_cases e3:0≤at_
 case neg=>
  have e3':(at_<0)=True:=eq_true (by omega);rw [decide_eq_false e3];simp only [Bool.false_and,Bool.and_false,Bool.false_eq_true,if_false];unfold pgV at hF ⊢;refine Qab (tb:=[]) 62 [.tmp 8,.tmp 9] [0,1,2,3,4,5,8,9,10,26,38,45,50,55] mixed Tryz.func17 rfl (by kernel_rfl) (by kernel_rfl) (by kernel_rfl) (by kernel_rfl) ?_;repeat (first|(simp -implicitDefEqProofs only [go_sem,Nat.reduceAdd,Nat.reduceMul,Nat.reduceEqDiff,Nat.reduceLT,Nat.reduceLeDiff,reduceCtorEq,Bool.not_true,e1',e2',e3',decide_true,decide_false,List.length_map])|((with_reducible refine Qaa hF ?_ ?_ ?_);rfl;rfl))
 have e3':(at_<0)=False:=eq_false (by omega);rw [decide_eq_true e3];by_cases e4:at_≤begT p p.as_.length
 case neg=>
  have e4':(begT p p.as_.length<at_)=True:=eq_true (by omega);rw [decide_eq_false e4];simp only [Bool.false_and,Bool.and_false,Bool.false_eq_true,if_false];unfold pgV at hF hE1 ⊢;refine Qab (tb:=[]) 62 [.tmp 8,.tmp 9] [0,1,2,3,4,5,8,9,10,26,38,45,50,55] mixed Tryz.func17 rfl (by kernel_rfl) (by kernel_rfl) (by kernel_rfl) (by kernel_rfl) ?_;repeat (first|(simp -implicitDefEqProofs only [go_sem,Nat.reduceAdd,Nat.reduceMul,Nat.reduceEqDiff,Nat.reduceLT,Nat.reduceLeDiff,reduceCtorEq,Bool.not_true,e1',e2',e3',e4',w1,decide_true,decide_false,List.length_map])|((with_reducible refine Qaa hF ?_ ?_ ?_);rfl;rfl)|((with_reducible refine Qaa hE1 ?_ ?_ ?_);rfl;rfl))
 have e4':(begT p p.as_.length<at_)=False:=eq_false (by omega);rw [decide_eq_true e4];simp only [Bool.true_and,if_true];unfold stN;by_cases e5:one=i
 case neg=>
  have e5':(one != i)=true:=bne_iff_ne.2 e5;rw [if_pos (.inl e5)];unfold pgV at hF hE1 hO ⊢;refine Qab (tb:=[]) 62 [.tmp 8,.tmp 9] [0,1,2,3,4,5,8,9,10,26,38,45,50,55] mixed Tryz.func17 rfl (by kernel_rfl) (by kernel_rfl) (by kernel_rfl) (by kernel_rfl) ?_;repeat (first|(simp -implicitDefEqProofs only [go_sem,Nat.reduceAdd,Nat.reduceMul,Nat.reduceEqDiff,Nat.reduceLT,Nat.reduceLeDiff,reduceCtorEq,Bool.not_true,e1',e2',e3',e4',e5',w1,decide_true,decide_false,List.length_map])|((with_reducible refine Qaa hF ?_ ?_ ?_);rfl;rfl)|((with_reducible refine Qaa hE1 ?_ ?_ ?_);rfl;rfl)|((with_reducible refine Qaa hO ?_ ?_ ?_);rfl;rfl))
 have e5':(one != i)=false:=by rw [e5];simp
 by_cases e6:at_<t
 ·have e6':(at_<t)=True:=eq_true e6;rw [if_pos (.inr e6)];unfold pgV at hF hE1 hO ⊢;refine Qab (tb:=[]) 62 [.tmp 8,.tmp 9] [0,1,2,3,4,5,8,9,10,26,38,45,50,55] mixed Tryz.func17 rfl (by kernel_rfl) (by kernel_rfl) (by kernel_rfl) (by kernel_rfl) ?_;repeat (first|(simp -implicitDefEqProofs only [go_sem,Nat.reduceAdd,Nat.reduceMul,Nat.reduceEqDiff,Nat.reduceLT,Nat.reduceLeDiff,reduceCtorEq,Bool.not_true,e1',e2',e3',e4',e5',e6',w1,decide_true,decide_false,List.length_map])|((with_reducible refine Qaa hF ?_ ?_ ?_);rfl;rfl)|((with_reducible refine Qaa hE1 ?_ ?_ ?_);rfl;rfl)|((with_reducible refine Qaa hO ?_ ?_ ?_);rfl;rfl))
 have e6':(at_<t)=False:=eq_false e6;rw [if_neg (by omega)];by_cases e7:at_<begT p (K+1)
 ·have e7':(at_<begT p (K+1))=True:=eq_true e7;rw [if_pos e7];unfold pgV at hF hE1 hE2 hO ⊢;refine Qab (tb:=[]) 62 [.tmp 8,.tmp 9] [0,1,2,3,4,5,8,9,10,26,38,45,50,55] mixed Tryz.func17 rfl (by kernel_rfl) (by kernel_rfl) (by kernel_rfl) (by kernel_rfl) ?_;repeat (first|(simp -implicitDefEqProofs only [go_sem,Nat.reduceAdd,Nat.reduceMul,Nat.reduceEqDiff,Nat.reduceLT,Nat.reduceLeDiff,reduceCtorEq,Bool.not_true,e1',e2',e3',e4',e5',e6',e7',w1,decide_true,decide_false,List.length_map])|((with_reducible refine Qaa hF ?_ ?_ ?_);rfl;rfl)|((with_reducible refine Qaa hE1 ?_ ?_ ?_);rfl;rfl)|((with_reducible refine Qaa hE2 ?_ ?_ ?_);rfl;rfl)|((with_reducible refine Qaa hO ?_ ?_ ?_);rfl;rfl))
 ·have e7':(at_<begT p (K+1))=False:=eq_false e7;rw [if_neg e7];unfold pgV at hF hE1 hE2 hO ⊢;refine Qab (tb:=[]) 62 [.tmp 8,.tmp 9] [0,1,2,3,4,5,8,9,10,26,38,45,50,55] mixed Tryz.func17 rfl (by kernel_rfl) (by kernel_rfl) (by kernel_rfl) (by kernel_rfl) ?_;repeat (first|(simp -implicitDefEqProofs only [go_sem,Nat.reduceAdd,Nat.reduceMul,Nat.reduceEqDiff,Nat.reduceLT,Nat.reduceLeDiff,reduceCtorEq,Bool.not_true,e1',e2',e3',e4',e5',e6',e7',w1,decide_true,decide_false,List.length_map])|((with_reducible refine Qaa hF ?_ ?_ ?_);rfl;rfl)|((with_reducible refine Qaa hE1 ?_ ?_ ?_);rfl;rfl)|((with_reducible refine Qaa hE2 ?_ ?_ ?_);rfl;rfl)|((with_reducible refine Qaa hO ?_ ?_ ?_);rfl;rfl))
end Go.Proofs.YtjlkapdmgjocdaaGreat

namespace Go.Proofs.YtjlkapdmgjocdaaGreat
open Go.Vl Go.RowKit Go.Dg
def casO (m x:Nat):List PV:=[.agg [.int .i64 ((x/m:Nat):Int),.int .i64 ((x%m:Nat):Int)]]
def Qou (n m:Nat):List (List PV):=(List.range (n*m)).map (casO m)
theorem Qnb (n m:Nat):(Qou n m).length=n*m:=by simp [Qou]
theorem Qnc {n m x:Nat} (h:x<n*m):(Qou n m)[x]? =some (casO m x):=by simp [Qou,h]
theorem Zn0 {m i k:Nat} (h:k<m):casO m (i*m+k)=[.agg [.int .i64 (i:Int),.int .i64 (k:Int)]]:=by
 unfold casO;have h1:(i*m+k)/m=i:=by rw [Nat.add_comm,Nat.add_mul_div_right _ _ (by omega),Nat.div_eq_of_lt h];omega
 have h2:(i*m+k)%m=k:=by rw [Nat.add_comm,Nat.add_mul_mod_self_right,Nat.mod_eq_of_lt h]
 rw [h1,h2]
theorem Zn1 {P:Program} {tb:Tab} {nt:Nat} {ks:List Nat} (K:List It) (Q:Exit→St→Prop) (i:Nat) (st:St):gleave P tb nt ks K Q (.exit i) st=gexit P tb nt ks i K Q st:=rfl
theorem Qyy {i n m k:Nat} (h:i<n) (hk:k≤m):i*m+k≤n*m:=by
 have:(i+1)*m≤n*m:=Nat.mul_le_mul_right m h;rw [Nat.add_mul]at this;omega
set_option maxHeartbeats 2000000 in
theorem Qyz (n m:Nat) (hn:n≤100000) (hm:m≤100000):Qia Tryz.prog 40 [.rp [.int .i64 (n:Int)],.rp [.int .i64 (m:Int)]] (Qou n m):=by
 have hgO:=fun{x} h=>Qnc (n:=n) (m:=m) (x:=x) h;have hlO:=Qnb n m;generalize hOO:Qou n m=OO at*;refine Qj8 (tb:=[]) 22 [0,1,2,4,5,6,7,8,10,11,12,19] mixed Tryz.func40 rfl (by kernel_rfl) (by kernel_rfl) (by kernel_rfl) (by kernel_rfl) fun l stop=> ?_;repeat (first|(simp -implicitDefEqProofs only [go_sem,Nat.reduceAdd,Nat.reduceMul,Nat.reduceEqDiff,Nat.reduceLT,Nat.reduceLeDiff,reduceCtorEq]))
 refine Qar mixed (fun i:{i:Nat // i≤n∧i*m≤stop}=>St.ofG [(0,.yld l stop),(1,.rp [.int .i64 (n:Int)]),(2,.rp [.int .i64 (m:Int)]),(6,.int .i64 (n:Int)),(7,.int .i64 (i.1:Int))] [] (OO.take (i.1*m)) (some (l,stop,OO))) (fun i=>n-i.1) ⟨0,Nat.zero_le _,by rw [Nat.zero_mul];exact Nat.zero_le _⟩ ?_ ?_
 ·simp only [Nat.zero_mul,List.take_zero];refine Qaj (θ:=[]) rfl ?_ ?_
  ·simp [Qac,lkp,ren1,ren0,Qai]
  ·trivial
 ·rintro⟨i,hi,hst⟩;simp only;have hwi:=wr_1 (n:=i) (by omega);by_cases hA:i<n
  case neg=>
   have hA':=lt_F hA;obtain rfl:i=n:=by omega
   have e1:OO.take (i*m)=OO:=List.take_of_length_le (by omega);have e2:OO.take (stop+1)=OO:=List.take_of_length_le (by omega);rw [e1];repeat (first|(simp -implicitDefEqProofs only [go_sem,Nat.reduceAdd,Nat.reduceMul,Nat.reduceEqDiff,Nat.reduceLT,Nat.reduceLeDiff,reduceCtorEq,hA',Qj6,e2]))
  have hA':=lt_T hA;repeat (first|(simp -implicitDefEqProofs only [go_sem,Nat.reduceAdd,Nat.reduceMul,Nat.reduceEqDiff,Nat.reduceLT,Nat.reduceLeDiff,reduceCtorEq,hA']))
  refine Qar mixed (fun k:{k:Nat // k≤m∧i*m+k≤stop}=>St.ofG [(0,.yld l stop),(1,.rp [.int .i64 (n:Int)]),(2,.rp [.int .i64 (m:Int)]),(4,.int .i64 (i:Int)),(6,.int .i64 (n:Int)),(7,.int .i64 (i:Int)),(10,.int .i64 (m:Int)),(11,.int .i64 (k.1:Int))] [] (OO.take (i*m+k.1)) (some (l,stop,OO))) (fun k=>m-k.1) ⟨0,Nat.zero_le _,hst⟩ ?_ ?_
  ·simp only [Nat.add_zero];refine Qaj (θ:=[]) rfl ?_ ?_
   ·simp [Qac,lkp,ren1,ren0,Qai]
   ·trivial
  ·rintro⟨k,hk,hst2⟩;simp only;have hwk:=wr_1 (n:=k) (by omega);by_cases hB:k<m
   case neg=>
    have hB':=lt_F hB;obtain rfl:k=m:=by omega
    have e1:(i+1)*k=i*k+k:=by rw [Nat.add_mul,Nat.one_mul]
    repeat (first|(simp -implicitDefEqProofs only [go_sem,Nat.reduceAdd,Nat.reduceMul,Nat.reduceEqDiff,Nat.reduceLT,Nat.reduceLeDiff,reduceCtorEq,hB',hwi]))
    refine⟨⟨i+1,hA,by omega⟩,by simp only;omega,?_⟩;simp only [e1];refine Qaj (θ:=[]) rfl ?_ ?_
    ·simp [Qac,lkp,ren1,ren0,Qai]
    ·trivial
   have hB':=lt_T hB;have hx:=Qyy (m:=m) (k:=k+1) hA (by omega);have hlen:(OO.take (i*m+k)).length=i*m+k:=by rw [List.length_take];omega
   have hgt:=hgO (x:=i*m+k) (by omega);rw [Zn0 hB]at hgt;have htk:OO.take (i*m+k+1)=OO.take (i*m+k)++[[.agg [.int .i64 (i:Int),.int .i64 (k:Int)]]]:=by rw [List.take_add_one,hgt];rfl
   have hst':(i*m+k≤stop)=True:=eq_true hst2;by_cases hlt:i*m+k<stop
   ·have hlt':(i*m+k<stop)=True:=eq_true hlt;repeat (first|(simp -implicitDefEqProofs only [go_sem,Nat.reduceAdd,Nat.reduceMul,Nat.reduceEqDiff,Nat.reduceLT,Nat.reduceLeDiff,reduceCtorEq,hB',hwk,hlen,hgt,hst',hlt',decide_true]))
    refine⟨⟨k+1,hB,by omega⟩,by simp only;omega,?_⟩;simp only [←Nat.add_assoc,htk];refine Qaj (θ:=[]) rfl ?_ ?_
    ·simp [Qac,lkp,ren1,ren0,Qai]
    ·trivial
   ·have hlt':(i*m+k<stop)=False:=eq_false hlt;obtain rfl:i*m+k=stop:=by omega
    repeat (first|(simp -implicitDefEqProofs only [go_sem,Nat.reduceAdd,Nat.reduceMul,Nat.reduceEqDiff,Nat.reduceLT,Nat.reduceLeDiff,reduceCtorEq,hB',hlen,hgt,hst',hlt',Qj6,htk,decide_false]))
def acN (p:Pg):Nat:=if Qbk p=true then p.as_.length else 0
theorem Q5m (p:Pg) (hp:okP p):Qaf Tryz.prog 21 [pgV p] (.fn 40 [] [.rp [.int .i64 (p.ns.length:Int)],.rp [.int .i64 (acN p:Int)]]):=by
 have hV:=Qkn p hp;unfold acN;cases e:Qbk p with
 |false=>
  rw [e]at hV;rw [if_neg Bool.false_ne_true,show((0:Nat):Int)=0 from rfl];unfold pgV at hV ⊢;refine Qab (tb:=[]) 15 [.tmp 2] [0,1,2,3,4,13] mixed Tryz.func21 rfl (by kernel_rfl) (by kernel_rfl) (by kernel_rfl) (by kernel_rfl) ?_;repeat (first|(simp -implicitDefEqProofs only [go_sem,Nat.reduceAdd,Nat.reduceMul,Nat.reduceEqDiff,Nat.reduceLT,Nat.reduceLeDiff,reduceCtorEq,Bool.not_false,List.length_map])|((with_reducible refine Qaa hV ?_ ?_ ?_);rfl;rfl)|(with_reducible refine And.intro (Qae _ _ (by kernel_rfl)) ?_))
 |true=>
  rw [e]at hV;rw [if_pos rfl];unfold pgV at hV ⊢;refine Qab (tb:=[]) 15 [.tmp 2] [0,1,2,3,4,13] mixed Tryz.func21 rfl (by kernel_rfl) (by kernel_rfl) (by kernel_rfl) (by kernel_rfl) ?_;repeat (first|(simp -implicitDefEqProofs only [go_sem,Nat.reduceAdd,Nat.reduceMul,Nat.reduceEqDiff,Nat.reduceLT,Nat.reduceLeDiff,reduceCtorEq,Bool.not_true,List.length_map])|((with_reducible refine Qaa hV ?_ ?_ ?_);rfl;rfl)|(with_reducible refine And.intro (Qae _ _ (by kernel_rfl)) ?_))
def cntV (p:Pg):Int:=if Qbk p=true then((p.ns.length*p.as_.length:Nat):Int)else 0
def cntR (p:Pg):Int:=if Qbk p=true then(if p.as_.length=0 then 9 else 0)else 2
set_option maxHeartbeats 2000000 in
theorem Zn2 (p:Pg) (hp:okP p):Qaf Tryz.prog 20 [pgV p] (.tup [.int .i64 (cntV p),.int .i64 (cntR p)]):=by
 have hV:=Qkn p hp;have hC:=Q5m p hp;unfold cntV cntR;unfold acN at hC;cases e:Qbk p with
 |false=>
  rw [e]at hV;rw [if_neg Bool.false_ne_true,if_neg Bool.false_ne_true];unfold pgV at hV ⊢;refine Qab (tb:=[]) 34 [.tmp 2,.tmp 3] [0,1,2,3,4,5,6,7,11,26,27,32] mixed Tryz.func20 rfl (by kernel_rfl) (by kernel_rfl) (by kernel_rfl) (by kernel_rfl) ?_;repeat (first|(simp -implicitDefEqProofs only [go_sem,Nat.reduceAdd,Nat.reduceMul,Nat.reduceEqDiff,Nat.reduceLT,Nat.reduceLeDiff,reduceCtorEq,Bool.not_false])|((with_reducible refine Qaa hV ?_ ?_ ?_);rfl;rfl))
 |true=>
 rw [e]at hV hC;rw [if_pos rfl]at hC;rw [if_pos rfl,if_pos rfl];obtain⟨hcr,hpa, -, -⟩:=Qbx e;obtain⟨z1,z2⟩:1≤p.ns.length∧p.ns.length≤64:=by
  unfold Qor at hcr;simp only [Bool.and_eq_true,decide_eq_true_eq]at hcr;exact⟨hcr.1,hcr.2.1⟩
 by_cases h0:p.as_.length=0
 ·have h0':((p.as_.length:Int)==0)=true:=by rw [h0];rfl
  rw [if_pos h0,h0,Nat.mul_zero,show((0:Nat):Int)=0 from rfl];unfold pgV at hV ⊢;refine Qab (tb:=[]) 34 [.tmp 2,.tmp 3] [0,1,2,3,4,5,6,7,11,26,27,32] mixed Tryz.func20 rfl (by kernel_rfl) (by kernel_rfl) (by kernel_rfl) (by kernel_rfl) ?_;repeat (first|(simp -implicitDefEqProofs only [go_sem,Nat.reduceAdd,Nat.reduceMul,Nat.reduceEqDiff,Nat.reduceLT,Nat.reduceLeDiff,reduceCtorEq,Bool.not_true,h0',List.length_map])|((with_reducible refine Qaa hV ?_ ?_ ?_);rfl;rfl))
 have h0':((p.as_.length:Int)==0)=false:=beq_eq_false_iff_ne.2 (by omega);rw [if_neg h0];have hY:=Qyz p.ns.length p.as_.length (by omega) (by omega);have w1:IntKind.i64.wrap ((p.ns.length:Int)-1)=((p.ns.length-1:Nat):Int):=by rw [Qag (by omega) (by omega)];omega
 have w2:IntKind.i64.wrap ((p.as_.length:Int)-1)=((p.as_.length-1:Nat):Int):=by rw [Qag (by omega) (by omega)];omega
 unfold pgV at hV hC ⊢;refine Qab (tb:=[]) 34 [.tmp 2,.tmp 3] [0,1,2,3,4,5,6,7,11,26,27,32] mixed Tryz.func20 rfl (by kernel_rfl) (by kernel_rfl) (by kernel_rfl) (by kernel_rfl) ?_;repeat (first|(simp -implicitDefEqProofs only [go_sem,Nat.reduceAdd,Nat.reduceMul,Nat.reduceEqDiff,Nat.reduceLT,Nat.reduceLeDiff,reduceCtorEq,Bool.not_true,h0',w1,w2,List.length_map])|((with_reducible refine Qaa hV ?_ ?_ ?_);rfl;rfl)|((with_reducible refine Qaa hC ?_ ?_ ?_);rfl;rfl))
 obtain⟨n,hn⟩: ∃n,p.ns.length=n:=⟨_,rfl⟩;obtain⟨m,hm⟩: ∃n,p.as_.length=n:=⟨_,rfl⟩;rw [hn,hm]at hY ⊢;rw [hn]at z1 z2;rw [hm]at h0 hpa;have hlO:=Qnb n m;have hgO:=fun{x} h=>Qnc (n:=n) (m:=m) (x:=x) h;have hnm:0<n*m:=Nat.mul_pos (by omega) (by omega);have hnm2:n*m≤64*60:=Nat.mul_le_mul z2 hpa;have hmin:min (Qou n m).length (n*m-1+1)=n*m:=by omega
 refine Qhd mixed hY rfl rfl _ rfl [(1000000,510),(1000001,509)] [1000000,1000001] rfl
  [(4,.bp 1000001 2 0 0),(5,.bp 1000000 1 0 0)]
  (fun j=>[(1000000,{els:=[.int .i64 (j:Int)],esz:=1,ety:=3,fro:=0,live:=true,arr:=false}),(1000001,{els:=[.agg [.int .i64 ((n-1:Nat):Int),.int .i64 ((m-1:Nat):Int)]],esz:=2,ety:=30,fro:=0,live:=true,arr:=false})]) rfl rfl ?_ ?_ ?_ (n*m-1) (.exit 1) (fun _=>rfl) (fun j _ _=>by simp [lkp]) ?_ rfl ?_
  [(510,1000000)] [(5,.bp 510 1 0 0)] [(510,{els:=[.int .i64 ((n*m:Nat):Int)],esz:=1,ety:=3,fro:=0,live:=true,arr:=false})] rfl rfl ?_ ?_ (fun h=>by omega) (fun _=> ?_)
 ·simp [Qac,lkp,ren1,ren0,Qai]
 ·exact⟨⟨rfl,rfl,rfl,rfl,rfl,.inr ⟨rfl,_,_,rfl,rfl,rfl,rfl⟩⟩,⟨rfl,rfl,rfl,rfl,rfl,.inr ⟨rfl,_,_,rfl,rfl,rfl,rfl⟩⟩,trivial⟩
 ·simp [Qac,lkp,ren1,ren0,Qai,Qj7]
 ·intro j args h;simp only [Qou,List.getElem?_map,Option.map_eq_some_iff]at h;obtain⟨x, -,rfl⟩:=h;rfl
 ·rintro j args hja hjs;have hj:j<n*m:=by omega
  rw [hgO hj]at hja;cases hja;have hwj:=wr_1 (n:=j) (by omega);have hdm:=Nat.div_add_mod j m;have hml:j%m<m:=Nat.mod_lt _ (by omega);have hdl:j/m<n:=Nat.div_lt_of_lt_mul (by rw [Nat.mul_comm];exact hj);unfold casO;by_cases hlast:j=n*m-1
  ·have q1:j/m=n-1:=by
    have h1:j+1=n*m:=by omega
    have h2:j=(n-1)*m+(m-1):=by
     have:(n-1)*m+m=n*m:=by rw [←Nat.succ_mul];congr 1;omega
     omega
    rw [h2,Nat.add_comm,Nat.add_mul_div_right _ _ (by omega),Nat.div_eq_of_lt (by omega)];omega
   have q2:j%m=m-1:=by
    have h3:(n-1)*m+m=n*m:=by rw [←Nat.succ_mul];congr 1;omega
    rw [q1,Nat.mul_comm]at hdm;omega
   have hE:((((j/m:Nat):Int)==((n-1:Nat):Int))&&(((j%m:Nat):Int)==((m-1:Nat):Int)))=true:=by rw [q1,q2];simp
   repeat (first|(simp -implicitDefEqProofs only [go_sem,Nat.reduceAdd,Nat.reduceMul,Nat.reduceEqDiff,Nat.reduceLT,Nat.reduceLeDiff,reduceCtorEq,pvars,List.toList_toArray]))
   refine⟨by simp [lkp],?_⟩;repeat (first|(simp -implicitDefEqProofs only [go_sem,Nat.reduceEqDiff,hwj,hE]))
   refine⟨hlast,rfl,?_⟩;refine Qaj (θ:=[(1000000,1000000),(1000001,1000001)]) rfl ?_ ?_
   ·simp [Qac,lkp,ren1,ren0,Qai]
   ·exact⟨⟨rfl,rfl,rfl,rfl,rfl,.inr ⟨rfl,_,_,rfl,rfl,rfl,rfl⟩⟩,⟨rfl,rfl,rfl,rfl,rfl,.inr ⟨rfl,_,_,rfl,rfl,rfl,rfl⟩⟩,trivial⟩
  ·have hE:((((j/m:Nat):Int)==((n-1:Nat):Int))&&(((j%m:Nat):Int)==((m-1:Nat):Int)))=false:=by
    rw [Bool.and_eq_false_iff];by_cases q1:j/m=n-1
    ·right;refine beq_eq_false_iff_ne.2 fun q2=>hlast ?_;have h3:(n-1)*m+m=n*m:=by rw [←Nat.succ_mul];congr 1;omega
     rw [q1,Nat.mul_comm]at hdm;omega
    ·left;exact beq_eq_false_iff_ne.2 (by omega)
   repeat (first|(simp -implicitDefEqProofs only [go_sem,Nat.reduceAdd,Nat.reduceMul,Nat.reduceEqDiff,Nat.reduceLT,Nat.reduceLeDiff,reduceCtorEq,pvars,List.toList_toArray]))
   refine⟨by simp [lkp],?_⟩;repeat (first|(simp -implicitDefEqProofs only [go_sem,hwj,hE]))
   refine⟨by omega,?_⟩;refine Qaj (θ:=[(1000000,1000000),(1000001,1000001)]) rfl ?_ ?_
   ·simp [Qac,lkp,ren1,ren0,Qai]
   ·exact⟨⟨rfl,rfl,rfl,rfl,rfl,.inr ⟨rfl,_,_,rfl,rfl,rfl,rfl⟩⟩,⟨rfl,rfl,rfl,rfl,rfl,.inr ⟨rfl,_,_,rfl,rfl,rfl,rfl⟩⟩,trivial⟩
 ·simp [Qac,lkp,ren1,ren0,Qai]
 ·rw [hmin];exact⟨⟨rfl,rfl,rfl,rfl,rfl,.inr ⟨rfl,_,_,rfl,rfl,rfl,rfl⟩⟩,trivial⟩
 ·rw [Zn1];repeat (first|(simp -implicitDefEqProofs only [go_sem,Nat.reduceAdd,Nat.reduceMul,Nat.reduceEqDiff,Nat.reduceLT,Nat.reduceLeDiff,reduceCtorEq]))
def FewP (p:Pg):Prop:=p.ns.length≤5∧p.hs.length≤5∧p.as_.length≤5∧(∀i,i<p.ns.length→(nmAt p i).size≤60)∧(∀i,i<p.as_.length→(p.as_.getD i ac0).nm.size≤60∧(p.as_.getD i ac0).mv.length≤5)
instance (p:Pg):Decidable (FewP p):=by unfold FewP;infer_instance
theorem Qnd {p:Pg} (h:FewP p):okP p:=by
 obtain⟨h1,h2,h3,h4,h5⟩:=h;refine⟨by omega,by omega,by omega,fun i=> ?_,fun i=> ?_⟩
 ·by_cases hi:i<p.ns.length
  ·have:=h4 i hi;omega
  ·unfold nmAt;rw [List.getD_eq_getElem?_getD,List.getElem?_eq_none (by omega)];exact Nat.zero_le _
 ·by_cases hi:i<p.as_.length
  ·have:=h5 i hi;omega
  ·rw [List.getD_eq_getElem?_getD,List.getElem?_eq_none (by omega)];exact⟨Nat.zero_le _,Nat.zero_le _⟩
set_option maxHeartbeats 2000000 in
theorem Zux (p:Pg):Qaf Tryz.prog 9 [pgV p,.int .i64 5,.int .i64 5] (.bool (decide (FewP p))):=by
 unfold pgV;by_cases e1:p.ns.length≤5
 case neg=>
  have e1':((5:Int)<(p.ns.length:Int))=True:=eq_true (by omega);have e0:decide (FewP p)=false:=decide_eq_false (fun h=>absurd (h.1) e1);rw [e0];refine Qab (tb:=[]) 68 [.tmp 6] [0,1,2,3,6,7,8,27,32,41,46,67] mixed Tryz.func9 rfl (by kernel_rfl) (by kernel_rfl) (by kernel_rfl) (by kernel_rfl) ?_;repeat (first|(simp -implicitDefEqProofs only [go_sem,Nat.reduceAdd,Nat.reduceMul,Nat.reduceEqDiff,Nat.reduceLT,Nat.reduceLeDiff,reduceCtorEq,e1',decide_true,List.length_map]))
 have e1':((5:Int)<(p.ns.length:Int))=False:=eq_false (by omega);by_cases e2:p.hs.length≤5
 case neg=>
  have e2':((5:Int)<(p.hs.length:Int))=True:=eq_true (by omega);have e0:decide (FewP p)=false:=decide_eq_false (fun h=>absurd (h.2.1) e2);rw [e0];refine Qab (tb:=[]) 68 [.tmp 6] [0,1,2,3,6,7,8,27,32,41,46,67] mixed Tryz.func9 rfl (by kernel_rfl) (by kernel_rfl) (by kernel_rfl) (by kernel_rfl) ?_;repeat (first|(simp -implicitDefEqProofs only [go_sem,Nat.reduceAdd,Nat.reduceMul,Nat.reduceEqDiff,Nat.reduceLT,Nat.reduceLeDiff,reduceCtorEq,e1',e2',decide_true,decide_false,List.length_map]))
 have e2':((5:Int)<(p.hs.length:Int))=False:=eq_false (by omega);by_cases e3:p.as_.length≤5
 case neg=>
  have e3':((5:Int)<(p.as_.length:Int))=True:=eq_true (by omega);have e0:decide (FewP p)=false:=decide_eq_false (fun h=>absurd (h.2.2.1) e3);rw [e0];refine Qab (tb:=[]) 68 [.tmp 6] [0,1,2,3,6,7,8,27,32,41,46,67] mixed Tryz.func9 rfl (by kernel_rfl) (by kernel_rfl) (by kernel_rfl) (by kernel_rfl) ?_;repeat (first|(simp -implicitDefEqProofs only [go_sem,Nat.reduceAdd,Nat.reduceMul,Nat.reduceEqDiff,Nat.reduceLT,Nat.reduceLeDiff,reduceCtorEq,e1',e2',e3',decide_true,decide_false,List.length_map]))
 have e3':((5:Int)<(p.as_.length:Int))=False:=eq_false (by omega);refine Qab (tb:=[]) 68 [.tmp 6] [0,1,2,3,6,7,8,27,32,41,46,67] mixed Tryz.func9 rfl (by kernel_rfl) (by kernel_rfl) (by kernel_rfl) (by kernel_rfl) ?_;repeat (first|(simp -implicitDefEqProofs only [go_sem,Nat.reduceAdd,Nat.reduceMul,Nat.reduceEqDiff,Nat.reduceLT,Nat.reduceLeDiff,reduceCtorEq,e1',e2',e3',decide_false,List.length_map]))
 refine Qar mixed (fun k:{k:Nat // k≤p.ns.length∧ ∀i,i<k→(nmAt p i).size≤60}=>St.of [(1,.int .i64 5),(2,.int .i64 5),(3,.bp 0 3 0 0),(7,.int .i64 (k.1:Int))] [(0,{els:=[.agg [.slc (p.ns.map PV.str),.slc (p.hs.map v3PV),.slc (p.as_.map acV)]],esz:=3,ety:=26,fro:=0,live:=true,arr:=false})]) (fun k=>p.ns.length-k.1) ⟨0,Nat.zero_le _,fun i h=>absurd h (Nat.not_lt_zero _)⟩ ?_ ?_
 ·refine Qaj (θ:=[(0,0)]) rfl ?_ ?_
  ·simp [Qac,lkp,ren1,ren0,Qai]
  ·exact⟨⟨rfl,rfl,rfl,rfl,rfl,.inr ⟨rfl,_,_,rfl,rfl,rfl,rfl⟩⟩,trivial⟩
 ·rintro⟨k,hk,hI⟩;simp only;have n0:=nn_T k;have hwk:=wr_1 (n:=k) (by omega);by_cases hA:k<p.ns.length
  ·have hA':=lt_T hA;have gn:=Zl7 hA;by_cases hB:(nmAt p k).size≤60
   ·have hB':((60:Int)<((nmAt p k).size:Int))=False:=eq_false (by omega);repeat (first|(simp -implicitDefEqProofs only [go_sem,Nat.reduceAdd,Nat.reduceMul,Nat.reduceEqDiff,Nat.reduceLT,Nat.reduceLeDiff,reduceCtorEq,hA',n0,gn,hB',hwk,Int.toNat_natCast,List.length_map]))
    refine⟨⟨k+1,hA,fun i hi=> ?_⟩,by simp only;omega,?_⟩
    ·rcases Nat.lt_succ_iff_lt_or_eq.1 hi with h|rfl
     ·exact hI i h
     ·exact hB
    refine Qaj (θ:=[(0,0)]) rfl ?_ ?_
    ·simp [Qac,lkp,ren1,ren0,Qai]
    ·exact⟨⟨rfl,rfl,rfl,rfl,rfl,.inr ⟨rfl,_,_,rfl,rfl,rfl,rfl⟩⟩,trivial⟩
   ·have hB':((60:Int)<((nmAt p k).size:Int))=True:=eq_true (by omega);have e0:decide (FewP p)=false:=decide_eq_false (fun h=>absurd (h.2.2.2.1 k hA) hB);rw [e0];repeat (first|(simp -implicitDefEqProofs only [go_sem,Nat.reduceAdd,Nat.reduceMul,Nat.reduceEqDiff,Nat.reduceLT,Nat.reduceLeDiff,reduceCtorEq,hA',n0,gn,hB',Int.toNat_natCast,List.length_map]))
  ·have hA':=lt_F hA;obtain rfl:k=p.ns.length:=by omega
   repeat (first|(simp -implicitDefEqProofs only [go_sem,Nat.reduceAdd,Nat.reduceMul,Nat.reduceEqDiff,Nat.reduceLT,Nat.reduceLeDiff,reduceCtorEq,hA',List.length_map]))
   refine Qar mixed (fun k:{k:Nat // k≤p.as_.length∧ ∀i,i<k→(p.as_.getD i ac0).nm.size≤60∧(p.as_.getD i ac0).mv.length≤5}=>St.of [(1,.int .i64 5),(2,.int .i64 5),(3,.bp 0 3 0 0),(8,.int .i64 (k.1:Int))] [(0,{els:=[.agg [.slc (p.ns.map PV.str),.slc (p.hs.map v3PV),.slc (p.as_.map acV)]],esz:=3,ety:=26,fro:=0,live:=true,arr:=false})]) (fun k=>p.as_.length-k.1) ⟨0,Nat.zero_le _,fun i h=>absurd h (Nat.not_lt_zero _)⟩ ?_ ?_
   ·refine Qaj (θ:=[(0,0)]) rfl ?_ ?_
    ·simp [Qac,lkp,ren1,ren0,Qai]
    ·exact⟨⟨rfl,rfl,rfl,rfl,rfl,.inr ⟨rfl,_,_,rfl,rfl,rfl,rfl⟩⟩,trivial⟩
   ·rintro⟨k,hk,hJ⟩;simp only;have n0:=nn_T k;have hwk:=wr_1 (n:=k) (by omega);by_cases hA:k<p.as_.length
    ·have hA':=lt_T hA;have ga:=Qhz hA;by_cases hB:(p.as_.getD k ac0).nm.size≤60
     case neg=>
      have hB':((60:Int)<((p.as_.getD k ac0).nm.size:Int))=True:=eq_true (by omega);have e0:decide (FewP p)=false:=decide_eq_false (fun h=>absurd ((h.2.2.2.2 k hA).1) hB);rw [e0];repeat (first|(simp -implicitDefEqProofs only [go_sem,Nat.reduceAdd,Nat.reduceMul,Nat.reduceEqDiff,Nat.reduceLT,Nat.reduceLeDiff,reduceCtorEq,hA',n0,ga,hB',decide_true,Int.toNat_natCast,List.length_map]))
     have hB':((60:Int)<((p.as_.getD k ac0).nm.size:Int))=False:=eq_false (by omega);by_cases hC:(p.as_.getD k ac0).mv.length≤5
     case neg=>
      have hC':((5:Int)<((p.as_.getD k ac0).mv.length:Int))=True:=eq_true (by omega);have e0:decide (FewP p)=false:=decide_eq_false (fun h=>absurd ((h.2.2.2.2 k hA).2) hC);rw [e0];repeat (first|(simp -implicitDefEqProofs only [go_sem,Nat.reduceAdd,Nat.reduceMul,Nat.reduceEqDiff,Nat.reduceLT,Nat.reduceLeDiff,reduceCtorEq,hA',n0,ga,hB',hC',decide_true,decide_false,Int.toNat_natCast,List.length_map]))
     have hC':((5:Int)<((p.as_.getD k ac0).mv.length:Int))=False:=eq_false (by omega);repeat (first|(simp -implicitDefEqProofs only [go_sem,Nat.reduceAdd,Nat.reduceMul,Nat.reduceEqDiff,Nat.reduceLT,Nat.reduceLeDiff,reduceCtorEq,hA',n0,ga,hB',hC',hwk,decide_false,Int.toNat_natCast,List.length_map]))
     refine⟨⟨k+1,hA,fun i hi=> ?_⟩,by simp only;omega,?_⟩
     ·rcases Nat.lt_succ_iff_lt_or_eq.1 hi with h|rfl
      ·exact hJ i h
      ·exact⟨hB,hC⟩
     refine Qaj (θ:=[(0,0)]) rfl ?_ ?_
     ·simp [Qac,lkp,ren1,ren0,Qai]
     ·exact⟨⟨rfl,rfl,rfl,rfl,rfl,.inr ⟨rfl,_,_,rfl,rfl,rfl,rfl⟩⟩,trivial⟩
    ·have hA':=lt_F hA;obtain rfl:k=p.as_.length:=by omega
     have e0:decide (FewP p)=true:=decide_eq_true ⟨e1,e2,e3,hI,hJ⟩;rw [e0];repeat (first|(simp -implicitDefEqProofs only [go_sem,Nat.reduceAdd,Nat.reduceMul,Nat.reduceEqDiff,Nat.reduceLT,Nat.reduceLeDiff,reduceCtorEq,hA',List.length_map]))
end Go.Proofs.YtjlkapdmgjocdaaGreat

namespace Go.Proofs.YtjlkapdmgjocdaaGreat
open Go.Vl Go.RowKit Go.Dg
theorem T_mv:Qaw Tryz.prog 87=some (.agg [.int .i64 0,.int .i64 0,.int .i64 0,.int .i64 0,.int .i64 0,.int .i64 0]):=by kernel_rfl
theorem Qq7:Qaw Tryz.prog 28=some (.agg [.int .i64 0,.int .i64 0]):=by kernel_rfl
theorem Qne (p:Pg) (hp:okP p) (i k:Int) (h:Qe0 p i k=true) (hk:k+1=(p.as_.length:Int)):Qaf Tryz.prog 28 [pgV p,.agg [.int .i64 i,.int .i64 k]] (.tup [.slc [],.int .i64 0]):=by
 have hF:=Qko p hp i k;rw [h]at hF;obtain⟨v,i1,i2,a1,a2⟩:=Qcn h;have hpa:=(Qbx v).2.1;have hE:=Qto p v p.as_.length (Nat.le_refl _) k (by omega);have w1:IntKind.i64.wrap ((p.as_.length:Int)-1)=k:=by rw [Qag (by omega) (by omega)];omega
 unfold pgV at hF hE ⊢;refine Qab (tb:=[]) 63 [.tmp 4,.tmp 5] [0,1,2,3,4,5,6,7,8,9,10,11,15,28,31,32,33,38,46,55] mixed Tryz.func28 rfl (by kernel_rfl) (by kernel_rfl) (by kernel_rfl) (by kernel_rfl) ?_;repeat (first|(simp -implicitDefEqProofs only [go_sem,Nat.reduceAdd,Nat.reduceMul,Nat.reduceEqDiff,Nat.reduceLT,Nat.reduceLeDiff,reduceCtorEq,Bool.not_true,w1,List.length_map,BEq.rfl])|((with_reducible refine Qaa hF ?_ ?_ ?_);rfl;rfl)|((with_reducible refine Qaa hE ?_ ?_ ?_);rfl;rfl)|(with_reducible exact Qae _ _ (by kernel_rfl)))
def exP:Pg:=⟨[⟨#[97]⟩,⟨#[98]⟩],[⟨0,0,0⟩,⟨1000,0,0⟩],[⟨⟨#[117,112]⟩,2000,[⟨⟨0,0,1000⟩,0,1000,0⟩,⟨⟨1000,0,1000⟩,0,1000,0⟩]⟩,⟨⟨#[115,116,97,121]⟩,2000,[⟨⟨0,0,1000⟩,0,0,0⟩,⟨⟨1000,0,1000⟩,0,0,0⟩]⟩]⟩
theorem Zuy:FewP exP:=by decide+kernel
theorem Q5n:Qaf Tryz.prog 34 [] (pgV exP):=by
 refine Qab (tb:=[]) 25 [.cell 0 26] [0,1,2,3] mixed Tryz.func34 rfl (by kernel_rfl) (by kernel_rfl) (by kernel_rfl) (by kernel_rfl) ?_;repeat (first|(simp -implicitDefEqProofs only [go_sem,Nat.reduceAdd,Nat.reduceMul,Nat.reduceEqDiff,Nat.reduceLT,Nat.reduceLeDiff,reduceIte,reduceCtorEq,T_mv]))
 rfl
theorem lw_0:IntKind.i64.wrap 0=0:=rfl
theorem lw_1:IntKind.i64.wrap 1=1:=rfl
theorem lw_2:IntKind.i64.wrap 2=2:=rfl
theorem lw_4:IntKind.i64.wrap 4=4:=rfl
theorem lw_3:IntKind.i64.wrap 3=3:=rfl
set_option maxRecDepth 100000 in
set_option maxHeartbeats 4000000 in
theorem Q5o:Qaf Tryz.prog 10 [] (.bool true):=by
 have hx:=Q5n;have ok:=Qnd Zuy;have o1:=Of_v exP ok 0 0 0 (fun _=>by unfold Qi8;decide+kernel);have o2:=Of_v exP ok 0 1999 0 (fun _=>by unfold Qi8;decide+kernel);have o3:=Of_v exP ok 0 2000 1 (fun _=>by unfold Qi8;decide+kernel);have o4:=Of_v exP ok 0 4000 1 (fun _=>by unfold Qi8;decide+kernel);have en:=Zuw exP ok 1 0;have pt:=Q5l exP ok 1 0;have st1:=Qkl exP ok 0 500 0 499 0 (fun _=>by unfold Qi8;decide+kernel);have st2:=Qkl exP ok 0 500 0 500 0 (fun _=>by unfold Qi8;decide+kernel);have st3:=Qkl exP ok 0 500 0 1999 0 (fun _=>by unfold Qi8;decide+kernel);have st4:=Qkl exP ok 0 500 0 2000 0 (fun _=>by unfold Qi8;decide+kernel);have st5:=Qkl exP ok 0 500 1 2000 0 (fun _=>by unfold Qi8;decide+kernel);have ct:=Zn2 exP ok;have ot:=Qne exP ok 0 1 (by decide+kernel) (by decide+kernel);rw [if_pos (by decide+kernel),if_pos (by decide+kernel),if_pos (by decide+kernel)]at o1 o2 o3 o4;rw [if_pos (by decide+kernel),if_pos (by decide+kernel),show begT exP (Int.toNat 0+1)=2000 by decide+kernel]at en;rw [if_pos (by decide+kernel),show ptA exP 1 0=⟨1000,0,1000⟩by decide+kernel]at pt;rw [show stV exP 0 500 0 499 0=0 by decide+kernel,show stE exP 0 500 0 499=0 by decide+kernel]at st1;rw [show stV exP 0 500 0 500 0=1 by decide+kernel,show stE exP 0 500 0 500=0 by decide+kernel]at st2;rw [show stV exP 0 500 0 1999 0=1 by decide+kernel,show stE exP 0 500 0 1999=0 by decide+kernel]at st3;rw [show stV exP 0 500 0 2000 0=2 by decide+kernel,show stE exP 0 500 0 2000=0 by decide+kernel]at st4
 rw [show stV exP 0 500 1 2000 0=0 by decide+kernel,show stE exP 0 500 1 2000=0 by decide+kernel]at st5;rw [show cntV exP=4 by decide+kernel,show cntR exP=0 by decide+kernel]at ct;rw [show((0:Nat):Int)=0 from rfl]at o1 o2;rw [show((1:Nat):Int)=1 from rfl]at o3 o4;unfold v3PV at pt;unfold pgV at*;generalize exP.ns.map PV.str=A at*;generalize exP.hs.map v3PV=B at*;generalize exP.as_.map acV=C at*;have c4:((4:Nat):Int)=4:=rfl;have c0:((0:Nat):Int)=0:=rfl;refine Qab (tb:=[]) 137 [.tmp 0] [0,1,2,3,4,5,6,7,8,9,10,11,12,13,14,15,16,17,18,19,21,22,23,24,43,71,72,73,74,75,95] mixed Tryz.func10 rfl (by kernel_rfl) (by kernel_rfl) (by kernel_rfl) (by kernel_rfl) ?_;repeat (first|(simp -implicitDefEqProofs only [go_sem,Nat.reduceAdd,Nat.reduceMul,Nat.reduceEqDiff,Nat.reduceLT,Nat.reduceLeDiff,reduceCtorEq])|((with_reducible refine Qaa hx ?_ ?_ ?_);rfl;rfl))
 refine Zcq mixed [0,1,2,3,4] (St.of [(1,.bp 101 3 0 0),(21,.bs 200 1 0 4),(22,.int .i64 4),(23,.int .i64 0)] [(101,{els:=[.agg [.slc A,.slc B,.slc C]],esz:=3,ety:=26,fro:=0,live:=true,arr:=false}),(200,{els:=[.int .i64 0,.int .i64 1999,.int .i64 2000,.int .i64 4000],esz:=1,ety:=3,fro:=0,live:=true,arr:=true})]) (Qaj (θ:=[(101,101),(200,200)]) rfl ?_ ?_) ?_
 ·simp [Qac,lkp,ren1,ren0,Qai]
 ·exact⟨⟨rfl,rfl,rfl,rfl,rfl,.inr ⟨rfl,_,_,rfl,rfl,rfl,rfl⟩⟩,⟨rfl,rfl,rfl,rfl,rfl,.inl ⟨rfl,rfl⟩⟩,trivial⟩
 repeat (first|(simp -implicitDefEqProofs only [go_sem,Nat.reduceAdd,Nat.reduceMul,Nat.reduceEqDiff,Nat.reduceLT,Nat.reduceLeDiff,reduceCtorEq,Int.reduceEq,Int.reduceLT,Int.reduceAdd,Qq7,c4,decide_true,Int.reduceTDiv,Bool.not_true,bne_self_eq_false,BEq.rfl,Bool.and_self,Bool.true_and,Bool.and_true,lw_0,lw_1])|((with_reducible refine Qaa o1 ?_ ?_ ?_);rfl;rfl))
 refine⟨(St.of [(1,.bp 101 3 0 0),(21,.bs 200 1 0 4),(22,.int .i64 4),(23,.int .i64 1)] [(101,{els:=[.agg [.slc A,.slc B,.slc C]],esz:=3,ety:=26,fro:=0,live:=true,arr:=false}),(200,{els:=[.int .i64 0,.int .i64 1999,.int .i64 2000,.int .i64 4000],esz:=1,ety:=3,fro:=0,live:=true,arr:=true})]),Qaj (θ:=[(101,101),(200,200)]) rfl ?_ ?_,?_⟩
 ·simp [Qac,lkp,ren1,ren0,Qai]
 ·exact⟨⟨rfl,rfl,rfl,rfl,rfl,.inr ⟨rfl,_,_,rfl,rfl,rfl,rfl⟩⟩,⟨rfl,rfl,rfl,rfl,rfl,.inl ⟨rfl,rfl⟩⟩,trivial⟩
 repeat (first|(simp -implicitDefEqProofs only [go_sem,Nat.reduceAdd,Nat.reduceMul,Nat.reduceEqDiff,Nat.reduceLT,Nat.reduceLeDiff,reduceCtorEq,Int.reduceEq,Int.reduceLE,Int.reduceLT,Int.reduceToNat,Int.reduceAdd,Qq7,c4,decide_true,Int.reduceTDiv,Bool.not_true,bne_self_eq_false,BEq.rfl,Bool.and_self,Bool.true_and,Bool.and_true,lw_0,lw_2])|((with_reducible refine Qaa o2 ?_ ?_ ?_);rfl;rfl))
 refine⟨(St.of [(1,.bp 101 3 0 0),(21,.bs 200 1 0 4),(22,.int .i64 4),(23,.int .i64 2)] [(101,{els:=[.agg [.slc A,.slc B,.slc C]],esz:=3,ety:=26,fro:=0,live:=true,arr:=false}),(200,{els:=[.int .i64 0,.int .i64 1999,.int .i64 2000,.int .i64 4000],esz:=1,ety:=3,fro:=0,live:=true,arr:=true})]),Qaj (θ:=[(101,101),(200,200)]) rfl ?_ ?_,?_⟩
 ·simp [Qac,lkp,ren1,ren0,Qai]
 ·exact⟨⟨rfl,rfl,rfl,rfl,rfl,.inr ⟨rfl,_,_,rfl,rfl,rfl,rfl⟩⟩,⟨rfl,rfl,rfl,rfl,rfl,.inl ⟨rfl,rfl⟩⟩,trivial⟩
 repeat (first|(simp -implicitDefEqProofs only [go_sem,Nat.reduceAdd,Nat.reduceMul,Nat.reduceEqDiff,Nat.reduceLT,Nat.reduceLeDiff,reduceCtorEq,Int.reduceEq,Int.reduceLE,Int.reduceLT,Int.reduceToNat,Int.reduceAdd,Qq7,c4,decide_true,Int.reduceTDiv,Bool.not_true,bne_self_eq_false,BEq.rfl,Bool.and_self,Bool.true_and,Bool.and_true,lw_1,lw_3])|((with_reducible refine Qaa o3 ?_ ?_ ?_);rfl;rfl))
 refine⟨(St.of [(1,.bp 101 3 0 0),(21,.bs 200 1 0 4),(22,.int .i64 4),(23,.int .i64 3)] [(101,{els:=[.agg [.slc A,.slc B,.slc C]],esz:=3,ety:=26,fro:=0,live:=true,arr:=false}),(200,{els:=[.int .i64 0,.int .i64 1999,.int .i64 2000,.int .i64 4000],esz:=1,ety:=3,fro:=0,live:=true,arr:=true})]),Qaj (θ:=[(101,101),(200,200)]) rfl ?_ ?_,?_⟩
 ·simp [Qac,lkp,ren1,ren0,Qai]
 ·exact⟨⟨rfl,rfl,rfl,rfl,rfl,.inr ⟨rfl,_,_,rfl,rfl,rfl,rfl⟩⟩,⟨rfl,rfl,rfl,rfl,rfl,.inl ⟨rfl,rfl⟩⟩,trivial⟩
 repeat (first|(simp -implicitDefEqProofs only [go_sem,Nat.reduceAdd,Nat.reduceMul,Nat.reduceEqDiff,Nat.reduceLT,Nat.reduceLeDiff,reduceCtorEq,Int.reduceEq,Int.reduceLE,Int.reduceLT,Int.reduceToNat,Int.reduceAdd,Qq7,c4,decide_true,Int.reduceTDiv,Bool.not_true,bne_self_eq_false,BEq.rfl,Bool.and_self,Bool.true_and,Bool.and_true,lw_1,lw_4])|((with_reducible refine Qaa o4 ?_ ?_ ?_);rfl;rfl))
 refine⟨(St.of [(1,.bp 101 3 0 0),(21,.bs 200 1 0 4),(22,.int .i64 4),(23,.int .i64 4)] [(101,{els:=[.agg [.slc A,.slc B,.slc C]],esz:=3,ety:=26,fro:=0,live:=true,arr:=false}),(200,{els:=[.int .i64 0,.int .i64 1999,.int .i64 2000,.int .i64 4000],esz:=1,ety:=3,fro:=0,live:=true,arr:=true})]),Qaj (θ:=[(101,101),(200,200)]) rfl ?_ ?_,?_⟩
 ·simp [Qac,lkp,ren1,ren0,Qai]
 ·exact⟨⟨rfl,rfl,rfl,rfl,rfl,.inr ⟨rfl,_,_,rfl,rfl,rfl,rfl⟩⟩,⟨rfl,rfl,rfl,rfl,rfl,.inl ⟨rfl,rfl⟩⟩,trivial⟩
 repeat (first|(simp -implicitDefEqProofs only [go_sem,Nat.reduceAdd,Nat.reduceMul,Nat.reduceEqDiff,Nat.reduceLT,Nat.reduceLeDiff,reduceCtorEq,Int.reduceLT,c4,decide_true,decide_false,Bool.not_true,bne_self_eq_false,BEq.rfl,Bool.and_self,Bool.true_and,Bool.and_true])|((with_reducible refine Qaa en ?_ ?_ ?_);rfl;rfl)|((with_reducible refine Qaa pt ?_ ?_ ?_);rfl;rfl))
 refine Zcq mixed [0,1,2,3,4] (St.of [(1,.bp 101 3 0 0),(72,.bs 1300 1 0 4),(73,.int .i64 4),(74,.int .i64 0)] [(101,{els:=[.agg [.slc A,.slc B,.slc C]],esz:=3,ety:=26,fro:=0,live:=true,arr:=false}),(1300,{els:=[.int .i64 499,.int .i64 500,.int .i64 1999,.int .i64 2000],esz:=1,ety:=3,fro:=0,live:=true,arr:=true})]) (Qaj (θ:=[(101,101),(1300,1300)]) rfl ?_ ?_) ?_
 ·simp [Qac,lkp,ren1,ren0,Qai]
 ·exact⟨⟨rfl,rfl,rfl,rfl,rfl,.inr ⟨rfl,_,_,rfl,rfl,rfl,rfl⟩⟩,⟨rfl,rfl,rfl,rfl,rfl,.inl ⟨rfl,rfl⟩⟩,trivial⟩
 repeat (first|(simp -implicitDefEqProofs only [go_sem,Nat.reduceAdd,Nat.reduceMul,Nat.reduceEqDiff,Nat.reduceLT,Nat.reduceLeDiff,reduceCtorEq,Int.reduceLT,Int.reduceAdd,Qq7,c4,decide_true,bne_self_eq_false,BEq.rfl,Bool.and_self,Bool.true_and,Bool.and_true,lw_1])|((with_reducible refine Qaa st1 ?_ ?_ ?_);rfl;rfl))
 refine⟨(St.of [(1,.bp 101 3 0 0),(72,.bs 1300 1 0 4),(73,.int .i64 4),(74,.int .i64 1)] [(101,{els:=[.agg [.slc A,.slc B,.slc C]],esz:=3,ety:=26,fro:=0,live:=true,arr:=false}),(1300,{els:=[.int .i64 499,.int .i64 500,.int .i64 1999,.int .i64 2000],esz:=1,ety:=3,fro:=0,live:=true,arr:=true})]),Qaj (θ:=[(101,101),(1300,1300)]) rfl ?_ ?_,?_⟩
 ·simp [Qac,lkp,ren1,ren0,Qai]
 ·exact⟨⟨rfl,rfl,rfl,rfl,rfl,.inr ⟨rfl,_,_,rfl,rfl,rfl,rfl⟩⟩,⟨rfl,rfl,rfl,rfl,rfl,.inl ⟨rfl,rfl⟩⟩,trivial⟩
 repeat (first|(simp -implicitDefEqProofs only [go_sem,Nat.reduceAdd,Nat.reduceMul,Nat.reduceEqDiff,Nat.reduceLT,Nat.reduceLeDiff,reduceCtorEq,Int.reduceLE,Int.reduceLT,Int.reduceToNat,Int.reduceAdd,Qq7,c4,decide_true,bne_self_eq_false,BEq.rfl,Bool.and_self,Bool.true_and,Bool.and_true,lw_2])|((with_reducible refine Qaa st2 ?_ ?_ ?_);rfl;rfl))
 refine⟨(St.of [(1,.bp 101 3 0 0),(72,.bs 1300 1 0 4),(73,.int .i64 4),(74,.int .i64 2)] [(101,{els:=[.agg [.slc A,.slc B,.slc C]],esz:=3,ety:=26,fro:=0,live:=true,arr:=false}),(1300,{els:=[.int .i64 499,.int .i64 500,.int .i64 1999,.int .i64 2000],esz:=1,ety:=3,fro:=0,live:=true,arr:=true})]),Qaj (θ:=[(101,101),(1300,1300)]) rfl ?_ ?_,?_⟩
 ·simp [Qac,lkp,ren1,ren0,Qai]
 ·exact⟨⟨rfl,rfl,rfl,rfl,rfl,.inr ⟨rfl,_,_,rfl,rfl,rfl,rfl⟩⟩,⟨rfl,rfl,rfl,rfl,rfl,.inl ⟨rfl,rfl⟩⟩,trivial⟩
 repeat (first|(simp -implicitDefEqProofs only [go_sem,Nat.reduceAdd,Nat.reduceMul,Nat.reduceEqDiff,Nat.reduceLT,Nat.reduceLeDiff,reduceCtorEq,Int.reduceLE,Int.reduceLT,Int.reduceToNat,Int.reduceAdd,Qq7,c4,decide_true,bne_self_eq_false,BEq.rfl,Bool.and_self,Bool.true_and,Bool.and_true,lw_3])|((with_reducible refine Qaa st3 ?_ ?_ ?_);rfl;rfl))
 refine⟨(St.of [(1,.bp 101 3 0 0),(72,.bs 1300 1 0 4),(73,.int .i64 4),(74,.int .i64 3)] [(101,{els:=[.agg [.slc A,.slc B,.slc C]],esz:=3,ety:=26,fro:=0,live:=true,arr:=false}),(1300,{els:=[.int .i64 499,.int .i64 500,.int .i64 1999,.int .i64 2000],esz:=1,ety:=3,fro:=0,live:=true,arr:=true})]),Qaj (θ:=[(101,101),(1300,1300)]) rfl ?_ ?_,?_⟩
 ·simp [Qac,lkp,ren1,ren0,Qai]
 ·exact⟨⟨rfl,rfl,rfl,rfl,rfl,.inr ⟨rfl,_,_,rfl,rfl,rfl,rfl⟩⟩,⟨rfl,rfl,rfl,rfl,rfl,.inl ⟨rfl,rfl⟩⟩,trivial⟩
 repeat (first|(simp -implicitDefEqProofs only [go_sem,Nat.reduceAdd,Nat.reduceMul,Nat.reduceEqDiff,Nat.reduceLT,Nat.reduceLeDiff,reduceCtorEq,Int.reduceLE,Int.reduceLT,Int.reduceToNat,Int.reduceAdd,Qq7,c4,decide_true,bne_self_eq_false,BEq.rfl,Bool.and_self,Bool.true_and,Bool.and_true,lw_4])|((with_reducible refine Qaa st4 ?_ ?_ ?_);rfl;rfl))
 refine⟨(St.of [(1,.bp 101 3 0 0),(72,.bs 1300 1 0 4),(73,.int .i64 4),(74,.int .i64 4)] [(101,{els:=[.agg [.slc A,.slc B,.slc C]],esz:=3,ety:=26,fro:=0,live:=true,arr:=false}),(1300,{els:=[.int .i64 499,.int .i64 500,.int .i64 1999,.int .i64 2000],esz:=1,ety:=3,fro:=0,live:=true,arr:=true})]),Qaj (θ:=[(101,101),(1300,1300)]) rfl ?_ ?_,?_⟩
 ·simp [Qac,lkp,ren1,ren0,Qai]
 ·exact⟨⟨rfl,rfl,rfl,rfl,rfl,.inr ⟨rfl,_,_,rfl,rfl,rfl,rfl⟩⟩,⟨rfl,rfl,rfl,rfl,rfl,.inl ⟨rfl,rfl⟩⟩,trivial⟩
 repeat (first|(simp -implicitDefEqProofs only [go_sem,Nat.reduceAdd,Nat.reduceMul,Nat.reduceEqDiff,Nat.reduceLT,Nat.reduceLeDiff,reduceCtorEq,Int.reduceLT,Qq7,c0,decide_true,decide_false,BEq.rfl,Bool.and_self,Bool.true_and,Bool.and_true])|((with_reducible refine Qaa st5 ?_ ?_ ?_);rfl;rfl)|((with_reducible refine Qaa ct ?_ ?_ ?_);rfl;rfl)|((with_reducible refine Qaa ot ?_ ?_ ?_);rfl;rfl))
end Go.Proofs.YtjlkapdmgjocdaaGreat

namespace Go.Proofs.YtjlkapdmgjocdaaGreat
open Go.Vl Go.RowKit Go.Dg
end Go.Proofs.YtjlkapdmgjocdaaGreat

namespace Go.Proofs.YtjlkapdmgjocdaaGreat
open Go.Vl Go.RowKit Go.Dg
theorem own:ownKnob Tryz.prog.godebug=none:=by kernel_rfl
theorem Q5p:laidOutB Tryz.prog=true:=by kernel_rfl
theorem Zuz:Tryz.prog.globalNamed Qw0=none∧Tryz.prog.globalNamed Zba=none:=⟨by kernel_rfl,by kernel_rfl⟩
theorem Qy0 {c:List PV} (h:Qcg (.int .i64) c): ∃n:Int,TT.mk (.int .i64) c= .int .i64 n:=by
 simp only [Qcg]at h;obtain⟨x,rfl,hx⟩:=h;exact⟨x,rfl⟩
theorem Qnf {e:TT} {α:Type} {f:α→PV} (hf: ∀c,Qcg e c→ ∃a,e.mk c=f a): ∀ess:List (List PV),(∀c∈ess,Qcg e c)→ ∃l:List α,ess.map e.mk=l.map f∧l.length=ess.length
 | [],_=>⟨[],rfl,rfl⟩
 |c::cs,h=>by
  obtain⟨a,ha⟩:=hf c (h c (by simp));obtain⟨l,hl,hn⟩:=Qnf hf cs (fun c hc=>h c (by simp [hc]));exact⟨a::l,by simp [ha,hl],by simp [hn]⟩
def vecT:TT:= .agg [.int .i64,.int .i64,.int .i64]
def Q5q:TT:= .agg [vecT,.int .i64,.int .i64,.int .i64]
def actT:TT:= .agg [.str,.int .i64,.slc Q5q]
def Q5r:TT:= .agg [.slc .str,.slc vecT,.slc actT]
def Q5s:TT:= .agg [.int .i64,.int .i64]
theorem Zdx {c:List PV} (h:Qcg .str c): ∃s:ByteArray,TT.mk .str c= .str s:=by
 simp only [Qcg]at h;obtain⟨s,rfl,hs⟩:=h;exact⟨s,rfl⟩
theorem Zdy {c:List PV} (h:Qcg vecT c): ∃v:V3,vecT.mk c=v3PV v:=by
 simp only [vecT,Qcg,Qeh]at h;obtain⟨_,_,rfl,⟨x,rfl,_⟩,_,_,rfl,⟨y,rfl,_⟩,_,_,rfl,⟨z,rfl,_⟩,rfl⟩:=h;exact⟨⟨x,y,z⟩,rfl⟩
theorem Q5t {c:List PV} (h:Qcg Q5q c): ∃m:Mv,Q5q.mk c=mvV m:=by
 simp only [Q5q,vecT,Qcg,Qeh]at h;obtain⟨_,_,rfl,⟨_,_,rfl,⟨x,rfl,_⟩,_,_,rfl,⟨y,rfl,_⟩,_,_,rfl,⟨z,rfl,_⟩,rfl⟩,_,_,rfl,⟨w,rfl,_⟩,_,_,rfl,⟨f,rfl,_⟩,_,_,rfl,⟨r,rfl,_⟩,rfl⟩:=h;exact⟨⟨⟨x,y,z⟩,w,f,r⟩,rfl⟩
theorem Zdz {c:List PV} (h:Qcg actT c): ∃a:Ac,actT.mk c=acV a:=by
 simp only [actT,Qcg,Qeh]at h;obtain⟨_,_,rfl,⟨s,rfl,_⟩,_,_,rfl,⟨n,rfl,_⟩,_,_,rfl,⟨em,rfl,mm,hm⟩,rfl⟩:=h;obtain⟨l,e,_⟩:=Qnf (f:=mvV) (fun c h=>Q5t h) em hm;refine⟨⟨s,n,l⟩,?_⟩;show PV.agg [.str s,.int .i64 n,.slc (em.map Q5q.mk)]=_;rw [e];rfl
theorem Qtf {c:List PV} (h:Qcg Q5r c): ∃p:Pg,Q5r.mk c=pgV p:=by
 simp only [Q5r,Qeh]at h;rw [Qcg]at h;simp only [Qeh]at h;obtain⟨_,_,rfl,hn,_,_,rfl,hh,_,_,rfl,ha,rfl⟩:=h;rw [Qcg]at hn hh ha;obtain⟨en,rfl,mn,hn⟩:=hn;obtain⟨eh,rfl,mh,hh⟩:=hh;obtain⟨ea,rfl,ma,ha⟩:=ha;obtain⟨ns,e1,_⟩:=Qnf (f:=PV.str) (fun c h=>Zdx h) en hn;obtain⟨hs,e2,_⟩:=Qnf (f:=v3PV) (fun c h=>Zdy h) eh hh;obtain⟨as_,e3,_⟩:=Qnf (f:=acV) (fun c h=>Zdz h) ea ha;refine⟨⟨ns,hs,as_⟩,?_⟩;show PV.agg [.slc (en.map (TT.mk .str)),.slc (eh.map vecT.mk),.slc (ea.map actT.mk)]=_;rw [e1,e2,e3];rfl
theorem Qtg {c:List PV} (h:Qcg Q5s c): ∃a b:Int,Q5s.mk c= .agg [.int .i64 a,.int .i64 b]:=by
 simp only [Q5s,Qcg,Qeh]at h;obtain⟨_,_,rfl,⟨x,rfl,_⟩,_,_,rfl,⟨y,rfl,_⟩,rfl⟩:=h;exact⟨x,y,rfl⟩
def Zl5:Value:= .agg #[.slice none 0 0,.slice none 0 0,.slice none 0 0]
def Qy1:Value:= .agg #[.int .i64 0,.int .i64 0]
end Go.Proofs.YtjlkapdmgjocdaaGreat
