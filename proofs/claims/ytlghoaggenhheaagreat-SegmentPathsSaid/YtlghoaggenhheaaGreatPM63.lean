/-
  PM59, PM60, UYD, By, UZ2, UFd, PM61, PM62, PM32, PM33, PM34, PM63 (merged for the claim).
-/
import Derived.Test.YtlghoaggenhheaaGreatULD
import Derived.Test.YtlghoaggenhheaaGreatPM30
import Derived.Test.YtlghoaggenhheaaGreatPM58
import Derived.Test.YtlghoaggenhheaaGreatDsg
import Derived.Test.YtlghoaggenhheaaGreatDsl
import Derived.Test.YtlghoaggenhheaaGreatPM57
set_option linter.unusedSimpArgs false
set_option linter.unusedVariables false
namespace Go.Proofs.YtlghoaggenhheaaGreat
open Go.Vl Go.RowKit Go.Dg
theorem Qsu (a b:List Int) (ha:a.length≤1000000000) (hb:b.length≤1000000000):Qae Tryz.prog 39 [Qan a,Qan b] (.bool (decide (a=b))):=by
 by_cases hl:a.length=b.length
 case neg=>
  have n1:((a.length:Int) != (b.length:Int))=true:=by simp only [bne_iff_ne,ne_eq];omega
  rw [decide_eq_false (fun e=>hl (by rw [e]))];refine Qab (tb:=[]) 26 [.tmp 4] [0,1,4,5,10,12,13,14,24] mixed Tryz.func39 rfl (by kernel_rfl) ?_;repeat simp -implicitDefEqProofs only [go_sem,seval,Qan,List.length_map,n1]
 have n1:((a.length:Int) != (b.length:Int))=false:=by rw [hl];simp
 refine Qab (tb:=[]) 26 [.tmp 4] [0,1,4,5,10,12,13,14,24] mixed Tryz.func39 rfl (by kernel_rfl) ?_;repeat simp -implicitDefEqProofs only [go_sem,seval,Qan,List.length_map,n1]
 have z0:0≤a.length∧Qhn a b 0=true:=⟨Nat.zero_le _,rfl⟩;refine Qaq mixed (fun i:{i:Nat // i≤a.length∧Qhn a b i=true}=>St.of [(0,Qan a),(1,Qan b),(12,.int .i64 (a.length:Int)),(13,.int .i64 (i.1:Int))] []) (fun i=>a.length-i.1) ⟨0,z0⟩ ?_ ?_
 ·exact Qaz (by simp [Qac,lkp,ren1,ren0,Qan])
 ·rintro⟨i,hi,hall⟩;by_cases hA:i<a.length
  ·have hA':=ltT hA;have n0:=nnT i;have hB:i<b.length:=by omega
   have g1:=Qbz a i hA;have g2:=Qbz b i hB;have hwk:=Qah (a:=i) (by omega);by_cases hx:a[i]=b[i]
   ·have hx':(a[i] != b[i])=false:=by rw [hx];simp
    have hn:Qhn a b (i+1)=true:=by rw [Qn7,hall,Qby hA,Qby hB];simp [hx]
    repeat (first|simp -implicitDefEqProofs only [go_sem,seval,Qan,hA',n0,g1,g2,hwk,hx',Int.toNat_natCast]|(with_reducible refine And.intro (Qad _ _ (by kernel_rfl)) ?_))
    refine⟨⟨i+1,hA,hn⟩,by simp only;omega,Qaz (by simp [Qac,lkp,ren1,ren0,Qan])⟩
   ·have hx':(a[i] != b[i])=true:=by simp only [bne_iff_ne,ne_eq];exact hx
    rw [decide_eq_false (Qqn (j:=i) (by rw [Qby hA,Qby hB];exact hx))];repeat (first|simp -implicitDefEqProofs only [go_sem,seval,Qan,hA',n0,g1,g2,hx',Int.toNat_natCast]|(with_reducible exact Qad _ _ (by kernel_rfl)))
  ·have hA':=ltF hA;obtain rfl:i=a.length:=by omega
   rw [decide_eq_true (Qqo hl hall)];repeat simp -implicitDefEqProofs only [go_sem,seval,Qan,hA']
set_option maxRecDepth 100000 in
theorem Znl (a b:Sg) (ha: ∀c∈a.ax,c.length≤1000000000) (hb: ∀c∈b.ax,c.length≤1000000000):Qae Tryz.prog 38 [sgPV a,sgPV b] (.bool (Qhj a b)):=by
 have t1:=Qsu a.x b.x (ha _ (by simp [Sg.ax])) (hb _ (by simp [Sg.ax]));have t2:=Qsu a.y b.y (ha _ (by simp [Sg.ax])) (hb _ (by simp [Sg.ax]));have t3:=Qsu a.z b.z (ha _ (by simp [Sg.ax])) (hb _ (by simp [Sg.ax]));unfold Qan at t1 t2 t3;unfold Qhj sgPV Qan;by_cases h1:a.f=b.f
 case neg=>
  have h1':(a.f==b.f)=false:=beq_eq_false_iff_ne.2 h1;rw [decide_eq_false h1,Bool.false_and];refine Qab (tb:=[]) 45 [.tmp 4] [0,1,2,3,4] mixed Tryz.func38 rfl (by kernel_rfl) ?_;repeat simp -implicitDefEqProofs only [go_sem,seval,h1']
 have h1':(a.f==b.f)=true:=beq_iff_eq.2 h1;rw [decide_eq_true h1,Bool.true_and];by_cases h2:a.t=b.t
 case neg=>
  have h2':(a.t==b.t)=false:=beq_eq_false_iff_ne.2 h2;rw [decide_eq_false h2,Bool.false_and];refine Qab (tb:=[]) 45 [.tmp 4] [0,1,2,3,4] mixed Tryz.func38 rfl (by kernel_rfl) ?_;repeat simp -implicitDefEqProofs only [go_sem,seval,h1',h2']
 have h2':(a.t==b.t)=true:=beq_iff_eq.2 h2;rw [decide_eq_true h2,Bool.true_and];by_cases h3:a.o=b.o
 case neg=>
  have h3':(a.o==b.o)=false:=beq_eq_false_iff_ne.2 h3;rw [decide_eq_false h3,Bool.false_and];refine Qab (tb:=[]) 45 [.tmp 4] [0,1,2,3,4] mixed Tryz.func38 rfl (by kernel_rfl) ?_;repeat simp -implicitDefEqProofs only [go_sem,seval,h1',h2',h3']
 have h3':(a.o==b.o)=true:=beq_iff_eq.2 h3;rw [decide_eq_true h3,Bool.true_and];cases e1:decide (a.x=b.x)with
 |false=>
  rw [e1]at t1;refine Qab (tb:=[]) 45 [.tmp 4] [0,1,2,3,4] mixed Tryz.func38 rfl (by kernel_rfl) ?_;repeat (first|simp -implicitDefEqProofs only [go_sem,seval,h1',h2',h3']|(with_reducible refine Qaa t1 ?_ ?_ ?_);rfl;rfl)
 |true=>
  rw [e1]at t1;cases e2:decide (a.y=b.y)with
  |false=>
   rw [e2]at t2;refine Qab (tb:=[]) 45 [.tmp 4] [0,1,2,3,4] mixed Tryz.func38 rfl (by kernel_rfl) ?_;repeat (first|simp -implicitDefEqProofs only [go_sem,seval,h1',h2',h3']|(with_reducible refine Qaa t1 ?_ ?_ ?_);rfl;rfl|(with_reducible refine Qaa t2 ?_ ?_ ?_);rfl;rfl)
  |true=>
   rw [e2]at t2;refine Qab (tb:=[]) 45 [.tmp 4] [0,1,2,3,4] mixed Tryz.func38 rfl (by kernel_rfl) ?_;repeat (first|simp -implicitDefEqProofs only [go_sem,seval,h1',h2',h3']|(with_reducible refine Qaa t1 ?_ ?_ ?_);rfl;rfl|(with_reducible refine Qaa t2 ?_ ?_ ?_);rfl;rfl|(with_reducible refine Qaa t3 ?_ ?_ ?_);rfl;rfl)
theorem Zdx (a b:List Sg) (ha:lenP a) (hb:lenP b):Qae Tryz.prog 37 [.slc (a.map sgPV),.slc (b.map sgPV),.fn 38 [] []] (.bool (Qmt a b)):=by
 have la:=ha.1;have lb:=hb.1;by_cases hl:a.length=b.length
 case neg=>
  have n1:((a.length:Int) != (b.length:Int))=true:=by simp only [bne_iff_ne,ne_eq];omega
  unfold Qmt;rw [decide_eq_false hl,Bool.false_and];refine Qab (tb:=[]) 32 [.tmp 6] [0,1,2,6,7,8,9,14,15,16,17,18,30] mixed Tryz.func37 rfl (by kernel_rfl) ?_;repeat simp -implicitDefEqProofs only [go_sem,seval,List.length_map,n1]
 have n1:((a.length:Int) != (b.length:Int))=false:=by rw [hl];simp
 have e0:Qmt a b=Qfk a b a.length:=by unfold Qmt;rw [decide_eq_true hl,Bool.true_and]
 rw [e0];refine Qab (tb:=[]) 32 [.tmp 6] [0,1,2,6,7,8,9,14,15,16,17,18,30] mixed Tryz.func37 rfl (by kernel_rfl) ?_;repeat simp -implicitDefEqProofs only [go_sem,seval,List.length_map,n1]
 have z0:0≤a.length∧Qfk a b 0=true:=⟨Nat.zero_le _,rfl⟩;refine Qaq mixed (fun i:{i:Nat // i≤a.length∧Qfk a b i=true}=>St.of [(1,Qam b),(2,.fn 38 [] []),(15,Qam a),(16,.int .i64 (a.length:Int)),(17,.int .i64 (i.1:Int))] []) (fun i=>a.length-i.1) ⟨0,z0⟩ ?_ ?_
 ·exact Qaz (by simp [Qac,lkp,ren1,ren0,Qao,Qam])
 ·rintro⟨i,hi,hall⟩;by_cases hA:i<a.length
  ·have hA':=ltT hA;have n0:=nnT i;have hB:i<b.length:=by omega
   have g1:=Qbx a i hA;have g2:=Qbx b i hB;have hwk:=Qah (a:=i) (by omega);have hs:=Znl a[i] b[i] (ha.2 _ (List.getElem_mem hA)) (hb.2 _ (List.getElem_mem hB));have es:Qhj (a.getD i sg0) (b.getD i sg0)=Qhj a[i] b[i]:=by rw [sgD hA,sgD hB]
   unfold sgPV Qan at hs;cases hx:Qhj a[i] b[i]with
   |true=>
    rw [hx]at hs;have hn:Qfk a b (i+1)=true:=by rw [Qn6,hall,es,hx];rfl
    repeat (first|simp -implicitDefEqProofs only [go_sem,seval,Qam,hA',n0,g1,g2,hwk,Int.toNat_natCast,Bool.not_true]|(with_reducible refine Qaa hs ?_ ?_ ?_);rfl;rfl)
    refine⟨⟨i+1,hA,hn⟩,by simp only;omega,?_⟩;refine Qaj (θ:=[]) rfl ?_ ?_
    ·simp [Qac,lkp,ren1,ren0,Qao,Qam]
    ·trivial
   |false=>
    rw [hx]at hs;rw [Qqm (es.trans hx) hA];repeat (first|simp -implicitDefEqProofs only [go_sem,seval,Qam,hA',n0,g1,g2,Int.toNat_natCast,Bool.not_false]|(with_reducible refine Qaa hs ?_ ?_ ?_);rfl;rfl)
  ·have hA':=ltF hA;obtain rfl:i=a.length:=by omega
   have hall':=hall;repeat simp -implicitDefEqProofs only [go_sem,seval,Qam,hA',hall']
theorem Qz8 (a b:List Sg) (ha:lenP a) (hb:lenP b):Qae Tryz.prog 10 [Qam a,Qam b] (.bool (Qmt a b)):=by
 have h:=Zdx a b ha hb;unfold Qam;refine Qab (tb:=[]) 8 [.tmp 4] [0,1,4] mixed Tryz.func10 rfl (by kernel_rfl) ?_;repeat (first|simp -implicitDefEqProofs only [go_sem,seval]|(with_reducible refine Qaa h ?_ ?_ ?_);rfl;rfl)
def shp (p d:List Sg):Prop:=d.length=p.length∧ ∀i,i<p.length→(d.getD i sg0).x.length=(p.getD i sg0).x.length∧(d.getD i sg0).y.length=(p.getD i sg0).y.length∧(d.getD i sg0).z.length=(p.getD i sg0).z.length
theorem Zdz (p:List Sg):shp p p:=⟨rfl,fun _ _=>⟨rfl,rfl,rfl⟩⟩
theorem Qxn {p d:List Sg} (h:shp p d) {i:Nat} (hi:i<p.length) {s:Sg} (hx:s.x.length=(d.getD i sg0).x.length) (hy:s.y.length=(d.getD i sg0).y.length) (hz:s.z.length=(d.getD i sg0).z.length):shp p (d.set i s):=by
 refine⟨by rw [List.length_set];exact h.1,fun j hj=> ?_⟩;obtain⟨h1,h2,h3⟩:=h.2 j hj;by_cases e:i=j
 ·subst e;rw [Qcf (by rw [h.1];exact hi),hx,hy,hz];exact⟨h1,h2,h3⟩
 ·rw [Qd8 e];exact⟨h1,h2,h3⟩
theorem Qin (d:List Sg) (n i:Nat) (hi:i<n):(outD d n)[i]? =some (celD (d.getD i sg0) i):=by
 unfold outD;rw [List.getElem?_map,List.getElem?_range hi,Option.map_some]
theorem Qz9 (d:List Sg) (n i:Nat) (hd:d.length=n) (hi:i<n) (s:Sg):(outD d n).set i (celD s i)=outD (d.set i s) n:=by
 refine List.ext_getElem? fun j=> ?_;by_cases hj:j<n
 ·rw [Qin _ _ _ hj,List.getElem?_set];by_cases e:i=j
  ·subst e;rw [if_pos rfl,if_pos (by rw [Qds];exact hi),Qcf (by omega)]
  ·rw [if_neg e,Qin _ _ _ hj,Qd8 e]
 ·rw [List.getElem?_eq_none (by rw [List.length_set,Qds];omega),List.getElem?_eq_none (by rw [Qds];omega)]
def setX (s:Sg) (k:Nat) (w:Int):Sg:=⟨s.f,s.t,s.o,s.x.set k w,s.y,s.z⟩
def setZ (s:Sg) (k:Nat) (w:Int):Sg:=⟨s.f,s.t,s.o,s.x,s.y,s.z.set k w⟩
def setF (s:Sg) (w:Int):Sg:=⟨w,s.t,s.o,s.x,s.y,s.z⟩
theorem Q6x (s:Sg) (k:Nat) (w:Int) (i:Nat):celD (setX s k w) i=celD s i:=by simp [celD,setX]
theorem Q6y (s:Sg) (k:Nat) (w:Int) (i:Nat):celD (setZ s k w) i=celD s i:=by simp [celD,setZ]
theorem Qu1 (d:List Sg) (n i:Nat) (hd:d.length=n) (hi:i<n) {s:Sg} (h:celD s i=celD (d.getD i sg0) i):outD (d.set i s) n=outD d n:=by
 rw [←Qz9 d n i hd hi s,h];refine List.ext_getElem? fun j=> ?_;rw [List.getElem?_set];by_cases e:i=j
 ·subst e;rw [if_pos rfl,if_pos (by rw [Qds];exact hi),Qin _ _ _ hi]
 ·rw [if_neg e]
end Go.Proofs.YtlghoaggenhheaaGreat

namespace Go.Vl
open Go.RowKit
section
variable {vs:List (Nat×PV)} {bs:List (Nat×Box)} {o:List (List PV)} {y:Yl}
end
theorem Zq9 {st:St} {t b esz off len:Nat} {B:Box} (ht:st.var t=some (.bs b esz off len)) (hB:st.box b=some B) (ha:B.arr=true) (he:B.esz=esz) (hn:off+len≤B.els.length):
  Le st ((st.setBox b {B with fro:=max B.fro (off+len),live:=B.live&&true}).setVar t (.slc ((B.els.drop off).take len))):=by
 rintro C a w ⟨ρ,im,h⟩;obtain⟨x,hx,hr⟩:=Qvf h (h.var t _ ht) hB ha he hn;have h1:=h.hold hx hB hn true rfl;refine⟨ρ,_,h1.root,h1.nt,h1.dfr,h1.imc,?_,h1.rho,h1.box,h1.inj⟩;intro t' v' hv';by_cases e:t'=t
 ·subst e;simp only [St.setVar,Qax,Option.some.injEq]at hv';subst hv';exact .ext _ _ hr
 ·simp only [St.setVar,Qau _ _ _ _ e]at hv';exact h1.var t' v' hv'
theorem Zjt {vs:List (Nat×PV)} {bs:List (Nat×Box)} {o:List (List PV)} {y:Yl} (t b:Nat) {esz off len:Nat} {B:Box} (ht:lkp vs t=some (.bs b esz off len)) (hB:lkp bs b=some B) (ha:B.arr=true) (he:B.esz=esz) (hn:off+len≤B.els.length):
  Le (St.ofG vs bs o y) (St.ofG ((t,.slc ((B.els.drop off).take len))::vs) ((b,{B with fro:=max B.fro (off+len),live:=B.live&&true})::bs) o y):=Zq9 (st:=St.ofG vs bs o y) ht hB ha he hn
end Go.Vl

namespace Go.Proofs.YtlghoaggenhheaaGreat
open Go.Vl Go.RowKit Go.Dg
noncomputable def Qoh:Code:=(Tryz.f3.body).getD .skip
theorem Znn {d:List Sg} {i q k:Nat} {s:Sg} {w:Int} (hi:i<d.length) (hs:d.getD i sg0=s) (h:q≠3*i):cp (d.set i (setX s k w)) q=cp d q:=by
 by_cases e:q/3=i
 ·unfold cp cl;have e1: ¬q%3=0:=by omega
  rw [e,Qcf hi,hs];simp only [if_neg e1,setX]
 ·unfold cp cl;rw [Qd8 (Ne.symm e)]
theorem Zno {d:List Sg} {i q k:Nat} {s:Sg} {w:Int} (hi:i<d.length) (hs:d.getD i sg0=s) (h:q≠3*i+2):cp (d.set i (setZ s k w)) q=cp d q:=by
 by_cases e:q/3=i
 ·unfold cp cl;rw [e,Qcf hi,hs];by_cases e1:q%3=0
  ·rw [if_pos e1,if_pos e1];rfl
  ·rw [if_neg e1,if_neg e1,if_pos (by omega),if_pos (by omega)];rfl
 ·unfold cp cl;rw [Qd8 (Ne.symm e)]
def lowE (d:List Sg) (n:Nat):List (Nat×Box):=[(7,bxD d n)]
set_option maxHeartbeats 4000000 in
set_option maxRecDepth 100000 in
theorem Q6z (P:List Sg) (h1:1≤P.length) (hl:P.length≤1000) (h8: ∀s∈P,∀c∈s.ax,c.length≤1000) (hS:Qae Tryz.prog 11 [.slc (P.map sgPV),.slc (P.map sgPV)] (.bool true)):
  Vgo Tryz.prog 176 (codes ((Qft Qoh).drop 10) []) (vret Tryz.prog [.tmp 6] (· = .bool true)) (St.of [(0,.slc (P.map sgPV)),(12,.bs 7 6 0 P.length),(13,.slc (P.map sgPV))] (lowE P P.length++famL 3 (cp P) (3*P.length))):=by
 have hk:=Qim;refine Qid mixed [] [0,1,2,6,7,8,9,10,11,12,13,14,15,16,24,31,34,74,107,113,119,137,157] 1 rfl (St.of [(0,.slc (P.map sgPV)),(13,.slc (P.map sgPV))] []) ?_ ?_
 ·dsimp only [Qoh,Tryz.f3,Option.getD_some];simp only [codes,Qft,List.take_succ_cons,List.take_zero,List.drop_succ_cons,List.drop_zero,List.foldr_cons,List.foldr_nil];repeat simp -implicitDefEqProofs only [go_sem,seval]
  refine Qaq mixed (fun x:{x:Nat×List Sg // x.1≤P.length∧shp P x.2}=>St.of [(0,.slc (P.map sgPV)),(12,.bs 7 6 0 P.length),(13,.slc (P.map sgPV)),(14,.int .i64 (x.1.1:Int))]
   (lowE x.1.2 P.length++famL 3 (cp x.1.2) (3*P.length))) (fun x=>P.length-x.1.1) ⟨(0,P),Nat.zero_le _,Zdz P⟩ ?_ ?_
  ·exact Le.refl _
  rintro⟨⟨i,d⟩,hi,hd⟩;simp only at hi hd ⊢;by_cases hA:i<P.length
  case neg=>
   have hA':=ltF hA;repeat simp -implicitDefEqProofs only [go_sem,seval,hA',lowE,List.nil_append,List.cons_append]
   refine Qaj (θ:=[]) rfl ?_ trivial;simp [Qac,lkp,ren1,ren0,Qao]
  have hA':=ltT hA;have n0:=nnT i;have hX8:(P.getD i sg0).x.length≤1000:=by rw [sgD hA];exact h8 _ (List.getElem_mem hA) _ (by simp [Sg.ax])
  have hZ8:(P.getD i sg0).z.length≤1000:=by rw [sgD hA];exact h8 _ (List.getElem_mem hA) _ (by simp [Sg.ax])
  have hwk:=Qah (a:=i) (by omega);have hgo:=Qin d P.length i hA;have hol:=Qds d P.length;unfold celD at hgo;generalize hs:d.getD i sg0=s at*;have hst: ∀w,(outD d P.length).set i (.agg [.int .i64 w,.int .i64 s.t,.int .i64 s.o,.bs (FB+3*i) 1 0 s.x.length,.bs (FB+(3*i+1)) 1 0 s.y.length,.bs (FB+(3*i+2)) 1 0 s.z.length])=outD (d.set i (setF s w)) P.length:=fun w=>Qz9 d P.length i hd.1 hA (setF s w);repeat simp -implicitDefEqProofs only [go_sem,seval,hA',n0,hgo,hst,lowE,bxD,Int.toNat_natCast,List.nil_append,List.cons_append]
  generalize hw0:IntKind.i64.wrap (s.f+1)=w0;have hd1:shp P (d.set i (setF s w0)):=Qxn hd hA (by rw [hs];rfl) (by rw [hs];rfl) (by rw [hs];rfl);have hcp1:cp (d.set i (setF s w0))=cp d:=by
   funext q;by_cases e:q/3=i
   ·unfold cp cl;rw [e,Qcf (by rw [hd.1];exact hA),hs];rfl
   ·unfold cp cl;rw [Qd8 (Ne.symm e)]
  refine Qaq mixed (fun x:{x:Nat×List Sg // x.1≤(P.getD i sg0).x.length∧shp P x.2}=>St.of [(0,.slc (P.map sgPV)),(12,.bs 7 6 0 P.length),(13,.slc (P.map sgPV)),(14,.int .i64 (i:Int)),(15,.int .i64 (x.1.1:Int))]
   (lowE x.1.2 P.length++famL 3 (cp x.1.2) (3*P.length))) (fun x=>(P.getD i sg0).x.length-x.1.1) ⟨(0,d.set i (setF s w0)),Nat.zero_le _,hd1⟩ ?_ ?_
  ·simp only [hcp1];refine Qmc (θ:=[(7,7)]) (low:=[(7,bxD (d.set i (setF s w0)) P.length)]) rfl rfl ?_ ?_ ?_
   ·simp [Qac,lkp,ren1,ren0]
   ·refine⟨?_,trivial⟩;refine .inr ⟨rfl,rfl,rfl,rfl,rfl,rfl,Qe5 _ P.length (3*P.length) (Nat.le_refl _) fun q hq=>Qmd rfl hq,Qf5 _ P.length⟩
   ·intro q hq;have hFB:FB=100000:=rfl;simp only [lkp];repeat (rw [if_neg (by omega)])
    exact Qct _ _ hq
  rintro⟨⟨k,d2⟩,hk2,hd2⟩;simp only at hk2 hd2 ⊢;have hlx:=(hd2.2 i hA).1;have hg2:=Qin d2 P.length i hA;have hol2:=Qds d2 P.length;unfold celD at hg2;generalize hs2:d2.getD i sg0=s2 at*;rw [hlx]at hg2;by_cases hC:k<(P.getD i sg0).x.length
  ·have hC':=ltT hC;have m0:=nnT k;have hwk2:=Qah (a:=k) (by omega);have q0:lkp (famL 3 (cp d2) (3*P.length)) (FB+3*i)=some (famB 3 (s2.x.map (PV.int .i64))):=by rw [Qct _ _ (by omega)];unfold cp;rw [cl_0,hs2]
   have hkx:k<s2.x.length:=by omega
   have hgx:(s2.x.map (PV.int .i64))[k]? =some (.int .i64 s2.x[k]):=by rw [List.getElem?_map,List.getElem?_eq_getElem hkx];rfl
   have hlm:(s2.x.map (PV.int .i64)).length=(P.getD i sg0).x.length:=by rw [List.length_map,hlx]
   obtain⟨u0,hu0⟩: ∃u0,u0=FB+3*i:=⟨_,rfl⟩;have hF:FB=100000:=rfl;rw [←hu0]at q0 hg2;have z1:(u0=7)=False:=eq_false (by omega);have z7:(7=u0)=False:=eq_false (by omega);generalize s2.x[k]=xk at*;repeat simp -implicitDefEqProofs only [go_sem,seval,hC',m0,n0,hA',hg2,q0,hgx,z1,hwk2,famB,lowE,bxD,Int.toNat_natCast,List.nil_append,List.cons_append]
   have hd3:shp P (d2.set i (setX s2 k (IntKind.i64.wrap (xk+1)))):=Qxn hd2 hA (by rw [hs2];simp [setX]) (by rw [hs2];rfl) (by rw [hs2];rfl);refine⟨⟨(k+1,d2.set i (setX s2 k (IntKind.i64.wrap (xk+1)))),hC,hd3⟩,by simp only;omega,?_⟩;generalize IntKind.i64.wrap (xk+1)=w1 at*;have hso:=Qu1 d2 P.length i hd2.1 hA (s:=setX s2 k w1) (by rw [Q6x,hs2]);refine Qmc (θ:=[(7,7)]) (low:=[(7,bxD (d2.set i (setX s2 k w1)) P.length)]) rfl rfl ?_ ?_ ?_
   ·simp [Qac,lkp,ren1,ren0]
   ·refine⟨?_,trivial⟩;have e3:lkp ([(7,7)]++idL (3*P.length)) 7=some 7:=rfl;rw [e3];simp only [lkp,z7,if_false,if_true,bxD,hso];exact .inr ⟨rfl,rfl,rfl,rfl,rfl,rfl,Qe5 _ P.length (3*P.length) (Nat.le_refl _) fun q hq=>Qmd rfl hq,Qf5 _ P.length⟩
   ·intro q hq;simp only [lkp];by_cases e0:q=3*i
    ·rw [if_pos (by omega),e0,Q6q (by rw [hd2.1];exact hA)];simp only [setX,List.map_set];rfl
    ·rw [if_neg (by omega),if_neg (by omega),Znn (by rw [hd2.1];exact hA) hs2 e0];exact Qct _ _ hq
  ·have hC':=ltF hC;repeat simp -implicitDefEqProofs only [go_sem,seval,hC',n0,hA',hg2,lowE,bxD,Int.toNat_natCast,List.nil_append,List.cons_append]
   refine Qaq mixed (fun x:{x:Nat×List Sg // x.1≤(P.getD i sg0).z.length∧shp P x.2}=>St.of [(0,.slc (P.map sgPV)),(12,.bs 7 6 0 P.length),(13,.slc (P.map sgPV)),(14,.int .i64 (i:Int)),(16,.int .i64 (x.1.1:Int))]
    (lowE x.1.2 P.length++famL 3 (cp x.1.2) (3*P.length))) (fun x=>(P.getD i sg0).z.length-x.1.1) ⟨(0,d2),Nat.zero_le _,hd2⟩ ?_ ?_
   ·refine Qmc (θ:=[(7,7)]) (low:=[(7,bxD d2 P.length)]) rfl rfl ?_ ?_ ?_
    ·simp [Qac,lkp,ren1,ren0]
    ·refine⟨?_,trivial⟩;refine .inr ⟨rfl,rfl,rfl,rfl,rfl,rfl,Qe5 _ P.length (3*P.length) (Nat.le_refl _) fun q hq=>Qmd rfl hq,Qf5 _ P.length⟩
    ·intro q hq;have hFB:FB=100000:=rfl;simp only [lkp];repeat (rw [if_neg (by omega)])
     exact Qct _ _ hq
   rintro⟨⟨k,d4⟩,hk4,hd4⟩;simp only at hk4 hd4 ⊢;have hlx:=(hd4.2 i hA).2.2;have hg4:=Qin d4 P.length i hA;have hol4:=Qds d4 P.length;unfold celD at hg4;generalize hs4:d4.getD i sg0=s4 at*;rw [hlx]at hg4;by_cases hC:k<(P.getD i sg0).z.length
   ·have hC':=ltT hC;have m0:=nnT k;have hwk2:=Qah (a:=k) (by omega);have q0:lkp (famL 3 (cp d4) (3*P.length)) (FB+(3*i+2))=some (famB 3 (s4.z.map (PV.int .i64))):=by rw [Qct _ _ (by omega)];unfold cp;rw [cl_2,hs4]
    have hkx:k<s4.z.length:=by omega
    have hgx:(s4.z.map (PV.int .i64))[k]? =some (.int .i64 s4.z[k]):=by rw [List.getElem?_map,List.getElem?_eq_getElem hkx];rfl
    have hlm:(s4.z.map (PV.int .i64)).length=(P.getD i sg0).z.length:=by rw [List.length_map,hlx]
    obtain⟨u0,hu0⟩: ∃u0,u0=FB+(3*i+2):=⟨_,rfl⟩;have hF:FB=100000:=rfl;rw [←hu0]at q0 hg4;have z1:(u0=7)=False:=eq_false (by omega);have z7:(7=u0)=False:=eq_false (by omega);generalize s4.z[k]=xk at*;repeat simp -implicitDefEqProofs only [go_sem,seval,hC',m0,n0,hA',hg4,q0,hgx,z1,hwk2,famB,lowE,bxD,Int.toNat_natCast,List.nil_append,List.cons_append]
    have hd5:shp P (d4.set i (setZ s4 k (IntKind.i64.wrap (xk-1)))):=Qxn hd4 hA (by rw [hs4];rfl) (by rw [hs4];rfl) (by rw [hs4];simp [setZ]);refine⟨⟨(k+1,d4.set i (setZ s4 k (IntKind.i64.wrap (xk-1)))),hC,hd5⟩,by simp only;omega,?_⟩;generalize IntKind.i64.wrap (xk-1)=w1 at*;have hso:=Qu1 d4 P.length i hd4.1 hA (s:=setZ s4 k w1) (by rw [Q6y,hs4]);refine Qmc (θ:=[(7,7)]) (low:=[(7,bxD (d4.set i (setZ s4 k w1)) P.length)]) rfl rfl ?_ ?_ ?_
    ·simp [Qac,lkp,ren1,ren0]
    ·refine⟨?_,trivial⟩;have e3:lkp ([(7,7)]++idL (3*P.length)) 7=some 7:=rfl;rw [e3];simp only [lkp,z7,if_false,if_true,bxD,hso];exact .inr ⟨rfl,rfl,rfl,rfl,rfl,rfl,Qe5 _ P.length (3*P.length) (Nat.le_refl _) fun q hq=>Qmd rfl hq,Qf5 _ P.length⟩
    ·intro q hq;simp only [lkp];by_cases e0:q=3*i+2
     ·rw [if_pos (by omega),e0,Q6r (by rw [hd4.1];exact hA)];simp only [setZ,List.map_set];rfl
     ·rw [if_neg (by omega),if_neg (by omega),Zno (by rw [hd4.1];exact hA) hs4 e0];exact Qct _ _ hq
   ·have hC':=ltF hC;repeat simp -implicitDefEqProofs only [go_sem,seval,hC',n0,hA',hg4,hwk,lowE,bxD,Int.toNat_natCast,List.nil_append,List.cons_append]
    refine⟨⟨(i+1,d4),hA,hd4⟩,by simp only;omega,?_⟩;refine Qmc (θ:=[(7,7)]) (low:=[(7,bxD d4 P.length)]) rfl rfl ?_ ?_ ?_
    ·simp [Qac,lkp,ren1,ren0]
    ·refine⟨?_,trivial⟩;refine .inr ⟨rfl,rfl,rfl,rfl,rfl,rfl,Qe5 _ P.length (3*P.length) (Nat.le_refl _) fun q hq=>Qmd rfl hq,Qf5 _ P.length⟩
    ·intro q hq;have hFB:FB=100000:=rfl;simp only [lkp];repeat (rw [if_neg (by omega)])
     exact Qct _ _ hq
 ·refine v_go (tb:=[]) (ks:=[0,1,2,6,7,8,9,10,11,12,13,14,15,16,24,31,34,74,107,113,119,137,157]) mixed ?_;dsimp only [Qoh,Tryz.f3,Option.getD_some];simp only [codes,Qft,List.take_succ_cons,List.take_zero,List.drop_succ_cons,List.drop_zero,List.foldr_cons,List.foldr_nil];repeat (first|simp -implicitDefEqProofs only [go_sem,seval]|(with_reducible refine Qaa hS ?_ ?_ ?_);rfl;rfl|(with_reducible refine Qaa hk ?_ ?_ ?_);rfl;rfl)
theorem Zd0 {vs:List (Nat×PV)} {bs:List (Nat×Box)} {o:List (List PV)} {y:Yl} {e:TypeId} {G:Nat→List PV} {m id:Nat} {B:Box} (hid:id<FB):St.ofG vs (famL e G m++(id,B)::bs) o y=St.ofG vs ((id,B)::(famL e G m++bs)) o y:=by
 refine St.ext'' rfl ?_ rfl rfl;funext b;show lkp (famL e G m++(id,B)::bs) b=lkp ((id,B)::(famL e G m++bs)) b;simp only [lkp,Qbu];by_cases h:b=id
 ·subst h;rw [Qkt e G hid,if_pos rfl]
 ·rw [if_neg h];cases lkp (famL e G m) b<;>simp only [if_neg h]
set_option maxHeartbeats 4000000 in
set_option maxRecDepth 100000 in
theorem Qq2 (P q:List Sg) (hp: ∀s∈P,okSg s) (hl:P.length≤1000) (hq:lenP q):
  Vgo Tryz.prog 176 (codes ((Qft Qoh).drop 3) []) (vret Tryz.prog [.tmp 6] (· = .bool true)) (St.of [(0,.slc (P.map sgPV)),(1,.slc (q.map sgPV))] []):=by
 have hk:=Qim;have hlP:=Qxm hp (by omega);have v1:=Qht P hp (by omega);have v2:=Qoi P hp (by omega);have v3:=Qdk P hp (by omega);have v4:=Qz8 P q hlP hq;have v5:=Qd9 P q hlP hq;have v6:=Zng P (by omega) (fun s hs c hc=>by have:=(hp s hs).l c hc;omega);have v7:=Qz8 P P hlP hlP;have v8:=Qd9 P P hlP hlP;rw [Qij]at v7 v8;have b1: ∀b:Bool,(b != b)=false:=fun b=>by cases b<;>rfl
 unfold Qam at v1 v2 v3 v4 v5 v6 v7 v8;refine Qid mixed [] [0,1,2,6,7,8,9,10,11,12,13,14,15,16,24,31,34,74,107,113,119,137,157] 4 rfl (St.of [(0,.slc (P.map sgPV))] []) ?_ ?_
 ·dsimp only [Qoh,Tryz.f3,Option.getD_some];simp only [codes,Qft,List.take_succ_cons,List.take_zero,List.drop_succ_cons,List.drop_zero,List.foldr_cons,List.foldr_nil];cases hV:Qa7 P with
  |false=>
   rw [hV]at v1 v2 v3;simp only [Bool.false_eq_true,if_false]at v2;repeat (first|simp -implicitDefEqProofs only [go_sem,seval,Bool.not_true,Bool.not_false,bne_self_eq_false]|(with_reducible refine Qaa v1 ?_ ?_ ?_);rfl;rfl|(with_reducible refine Qaa v2 ?_ ?_ ?_);rfl;rfl|(with_reducible refine Qaa v3 ?_ ?_ ?_);rfl;rfl|(with_reducible refine Qaa v4 ?_ ?_ ?_);rfl;rfl|(with_reducible refine Qaa v5 ?_ ?_ ?_);rfl;rfl|(with_reducible refine Qaa v6 ?_ ?_ ?_);rfl;rfl|(with_reducible refine Qaa v7 ?_ ?_ ?_);rfl;rfl)
   refine Qaj (θ:=[]) rfl ?_ trivial;simp [Qac,lkp,ren1,ren0,Qao]
  |true=>
   have g1:=Qsw P (by have:=(Qbp hV).2.1;omega);have g2:=Q63 P (by have:=(Qbp hV).2.1;omega) (by omega);unfold Qam at g1 g2;rw [hV]at v1 v2 v3;simp only [if_true]at v2;repeat (first|simp -implicitDefEqProofs only [go_sem,seval,Bool.not_true,bne_self_eq_false]|(with_reducible refine Qaa v1 ?_ ?_ ?_);rfl;rfl|(with_reducible refine Qaa v2 ?_ ?_ ?_);rfl;rfl|(with_reducible refine Qaa v3 ?_ ?_ ?_);rfl;rfl|(with_reducible refine Qaa v4 ?_ ?_ ?_);rfl;rfl|(with_reducible refine Qaa v5 ?_ ?_ ?_);rfl;rfl|(with_reducible refine Qaa v6 ?_ ?_ ?_);rfl;rfl|(with_reducible refine Qaa v7 ?_ ?_ ?_);rfl;rfl|(with_reducible refine Qaa g1 ?_ ?_ ?_);rfl;rfl|(with_reducible refine Qaa g2 ?_ ?_ ?_);rfl;rfl)
   refine Qaj (θ:=[]) rfl ?_ trivial;simp [Qac,lkp,ren1,ren0,Qao]
 ·cases hn:P.length with
  |zero=>
   obtain rfl:P=[]:=List.length_eq_zero_iff.1 hn;have hc:=Qss [] (by decide) (fun s hs=>nomatch hs);have e1:varD ([]:List Sg).length= .nilS:=rfl;have e2:lwD [] ([]:List Sg).length++famL 3 (cp []) (3*([]:List Sg).length)=[]:=rfl;rw [e1,e2]at hc;unfold Qam at hc;simp only [List.map_nil]at hc v6 v8 ⊢;refine v_go (tb:=[(1501,[],[])]) (ks:=[0,1,2,6,7,8,9,10,11,12,13,14,15,16,24,31,34,74,107,113,119,137,157]) mixed ?_;dsimp only [Qoh,Tryz.f3,Option.getD_some];simp only [codes,Qft,List.take_succ_cons,List.take_zero,List.drop_succ_cons,List.drop_zero,List.foldr_cons,List.foldr_nil];repeat (first|simp -implicitDefEqProofs only [go_sem,seval]|(with_reducible refine Qbn hc ?_ ?_ ?_ ?_);rfl;rfl;rfl|(with_reducible refine Qaa v6 ?_ ?_ ?_);rfl;rfl|(with_reducible refine Qaa v8 ?_ ?_ ?_);rfl;rfl)
   refine Qaq mixed (fun _:Unit=>St.of [(0,.slc []),(12,.nilS),(13,.slc []),(14,.int .i64 0)] []) (fun _=>0) () ?_ ?_
   ·refine Qaj (θ:=[]) rfl ?_ trivial;simp [Qac,lkp,ren1,ren0,Qao]
   rintro⟨⟩;repeat (first|simp -implicitDefEqProofs only [go_sem,seval]|(with_reducible refine Qaa v8 ?_ ?_ ?_);rfl;rfl|(with_reducible refine Qaa hk ?_ ?_ ?_);rfl;rfl)
  |succ m=>
   have hvd:varD P.length= .bs 7 6 0 P.length:=by rw [hn];rfl
   have hlw:lwD P P.length=[(7,bxD P P.length)]:=by rw [hn];rfl
   have hc:=Qss P hl (fun s hs c hc=>by have:=(hp s hs).l c hc;omega);rw [hvd,hlw]at hc;unfold Qam at hc;have hfr: ∀bx:Bx,(∀q,bx (FB+q)=none)→Qf7 (idL (3*P.length)) bx=some ((),accF (3*P.length)):=fun bx h=>Qo2 _ (by simp only [FB,LENT];omega) h;have hok:=Qux 1500 (3*P.length) (by decide);have bl1:Nat.blt 1500 1000000=true:=rfl;refine Qid mixed [(1501,[],(7,1500)::idL (3*P.length))] [0,1,2,6,7,8,9,10,11,12,13,14,15,16,24,31,34,74,107,113,119,137,157] 3 rfl (St.of [(0,.slc (P.map sgPV)),(12,.bs 7 6 0 P.length),(13,.slc (P.map sgPV))] (lowE P P.length++famL 3 (cp P) (3*P.length))) ?_ ?_
   ·dsimp only [Qoh,Tryz.f3,Option.getD_some];simp only [codes,Qft,List.take_succ_cons,List.take_zero,List.drop_succ_cons,List.drop_zero,List.foldr_cons,List.foldr_nil];repeat simp -implicitDefEqProofs only [go_sem,seval,hfr,implies_true,bl1,hok,List.append_nil,List.nil_append]
    refine Qvg hc (Q6s P 1500) ?_;rw [Zd0 (by decide),List.append_nil];have hes:=fun(bx:Bx) h=>escD (bx:=bx) (e:=3) (p:=P) (d:=P) rfl (fun i hi=>⟨rfl,rfl,rfl,rfl,rfl,rfl⟩) h;have hol:=Qds P P.length;have htk:(outD P P.length).take P.length=outD P P.length:=List.take_of_length_le (by omega);have hF7: ∀q,(FB+q=1500)=False:=fun q=>eq_false (by simp only [FB];omega);repeat (first|simp -implicitDefEqProofs only [go_sem,seval,bxD,hol,htk,hes,hF7,implies_true,Nat.le_refl,Bool.not_true]|(with_reducible refine Qaa v8 ?_ ?_ ?_);rfl;rfl|(with_reducible refine Qaa v6 ?_ ?_ ?_);rfl;rfl)
    refine Qmc (θ:=[(7,1500)]) (low:=[(7,bxD P P.length)]) rfl rfl ?_ ?_ ?_
    ·simp [Qac,lkp,ren1,ren0]
    ·refine⟨?_,trivial⟩;refine .inr ⟨rfl,rfl,rfl,rfl,rfl,rfl,Qe5 _ P.length (3*P.length) (Nat.le_refl _) fun q hq=>Qmd rfl hq,Qf5 _ P.length⟩
    ·intro q hq;have hFB:FB=100000:=rfl;simp only [lkp];repeat (rw [if_neg (by omega)])
     exact Qct _ _ hq
   ·exact Q6z P (by omega) hl (fun s hs c hc=>(hp s hs).l c hc) v8
def hov (o:Int) (n:Nat):List Sg:=(List.range n).map fun(i:Nat)=>(⟨o+(i:Int),o+(i:Int)+1,1,[1],[2],[3]⟩:Sg)
theorem Zdr (o:Int) (n:Nat):hov o (n+1)=hov o n++[⟨o+(n:Int),o+(n:Int)+1,1,[1],[2],[3]⟩]:=by simp [hov,List.range_succ]
theorem Qxi (o:Int) (n:Nat):(hov o n).length=n:=by simp [hov]
def hv (f:Int):Sg:=⟨f,f+1,1,[1],[2],[3]⟩
theorem Zs5 (o:Int) (n:Nat):hov o n=(List.range n).map fun(i:Nat)=>hv (o+(i:Int)):=rfl
theorem Zs6 (o:Int) (n:Nat) (h0:0≤o) (h1:o+n≤3600000):(∀s∈hov o n,okSg s)∧ ∀s∈hov o n,∀c∈s.ax,c.length≤1:=by
 have key: ∀s∈hov o n,∃f,s=hv f∧0≤f∧f<3600000:=by
  intro s hs;rw [Zs5]at hs;simp only [List.mem_map,List.mem_range]at hs;obtain⟨i,hi,rfl⟩:=hs;exact⟨_,rfl,by omega,by omega⟩
 refine⟨fun s hs=> ?_,fun s hs=> ?_⟩
 ·obtain⟨f,rfl,a,b⟩:=key s hs;refine⟨by unfold i64 hv;simp only;omega,by unfold i64 hv;simp only;omega,by unfold i64 hv;simp only;omega,fun c hc x hx=> ?_,fun c hc=> ?_⟩
  ·simp only [Sg.ax,hv,List.mem_cons,List.not_mem_nil,or_false]at hc;rcases hc with rfl|rfl|rfl<;>(simp only [List.mem_singleton]at hx;subst hx;unfold i64;omega)
  ·simp only [Sg.ax,hv,List.mem_cons,List.not_mem_nil,or_false]at hc;rcases hc with rfl|rfl|rfl<;>simp
 ·obtain⟨f,rfl,a,b⟩:=key s hs;intro c hc;simp only [Sg.ax,hv,List.mem_cons,List.not_mem_nil,or_false]at hc;rcases hc with rfl|rfl|rfl<;>simp
set_option maxHeartbeats 4000000 in
set_option maxRecDepth 100000 in
theorem Qpr (p:List Sg) (hra:(∀s∈p,Qx8 s)∧p.length≤maxLen) (q:List Sg) (hrb:(∀s∈q,Qx8 s)∧q.length≤maxLen) (m:Int) (m1: -9223372036854775808≤m) (m2:m≤9223372036854775807):
  Qae Tryz.prog 3 [.slc (p.map sgPV),.slc (q.map sgPV),.int .i64 m] (.bool true):=by
 have hk:=Qim;have hf1:=Q62 p 6 (by decide) hra.2;have hf2:=Q62 q 6 (by decide) hrb.2;unfold Qam at hf1 hf2;cases hF1:fewB p 6 with
 |false=>
  rw [hF1]at hf1;refine Qab (tb:=[]) 176 [.tmp 6] [0,1,2,6,7,8,9,10,11,12,13,14,15,16,24,31,34,74,107,113,119,137,157] mixed Tryz.func3 rfl (by kernel_rfl) ?_;repeat (first|simp -implicitDefEqProofs only [go_sem,seval,Bool.not_false]|(with_reducible refine Qaa hf1 ?_ ?_ ?_);rfl;rfl|(with_reducible refine Qaa hk ?_ ?_ ?_);rfl;rfl)
 |true=>
  rw [hF1]at hf1;cases hF2:fewB q 6 with
  |false=>
   rw [hF2]at hf2;refine Qab (tb:=[]) 176 [.tmp 6] [0,1,2,6,7,8,9,10,11,12,13,14,15,16,24,31,34,74,107,113,119,137,157] mixed Tryz.func3 rfl (by kernel_rfl) ?_;repeat (first|simp -implicitDefEqProofs only [go_sem,seval,Bool.not_false,Bool.not_true]|(with_reducible refine Qaa hf1 ?_ ?_ ?_);rfl;rfl|(with_reducible refine Qaa hf2 ?_ ?_ ?_);rfl;rfl|(with_reducible refine Qaa hk ?_ ?_ ?_);rfl;rfl)
  |true=>
   rw [hF2]at hf2;obtain⟨la6,la8⟩:=Qk9 hF1;obtain⟨lb6,lb8⟩:=Qk9 hF2;have hp: ∀s∈p,okSg s:=fun s hs=>Zat (hra.1 s hs) (fun c hc=>by have:=la8 s hs c hc;omega);have hq: ∀s∈q,okSg s:=fun s hs=>Zat (hrb.1 s hs) (fun c hc=>by have:=lb8 s hs c hc;omega);have hlq:=Qxm hq (by omega);by_cases hm:254≤m∧m≤258
   ·obtain⟨hm1,hm2⟩:=hm;obtain⟨n,rfl⟩: ∃n:Nat,m=(n:Int):=⟨m.toNat,by omega⟩;have t1:(254≤(n:Int))=True:=eq_true hm1;have t2:((n:Int)≤258)=True:=eq_true hm2;refine Zce 176 [.tmp 6] Tryz.func3 rfl (by kernel_rfl) (by kernel_rfl) (by kernel_rfl) (by kernel_rfl) ?_;refine Qid mixed [] [0,1,2,6,7,8,9,10,11,12,13,14,15,16,24,31,34,74,107,113,119,137,157] 3 rfl (St.of [(0,.slc ((hov 0 n).map sgPV)),(1,.slc (q.map sgPV))] []) ?_ ?_
    ·simp only [codes,Qft,List.take_succ_cons,List.take_zero,List.drop_succ_cons,List.drop_zero,List.foldr_cons,List.foldr_nil];repeat (first|simp -implicitDefEqProofs only [go_sem,seval,t1,t2,decide_true,Bool.not_true]|(with_reducible refine Qaa hf1 ?_ ?_ ?_);rfl;rfl|(with_reducible refine Qaa hf2 ?_ ?_ ?_);rfl;rfl)
     refine Qaq mixed (fun k:{k:Nat // k≤n}=>St.of [(0,.bs 7 6 0 k.1),(1,.slc (q.map sgPV)),(2,.int .i64 (n:Int)),(7,.int .i64 (k.1:Int))]
      [(7,{els:=(hov 0 k.1).map sgPV,esz:=6,ety:=28,fro:=0,live:=true,arr:=true})]) (fun k=>n-k.1) ⟨0,Nat.zero_le _⟩ ?_ ?_
     ·refine Qci 0 7 6 28 rfl rfl rfl (by decide) [(7,7)] rfl ?_ ?_
      ·simp [Qac,lkp,ren1,ren0,Qao]
      ·exact⟨⟨rfl,rfl,rfl,rfl,rfl,.inl ⟨rfl,rfl⟩⟩,trivial⟩
     ·rintro⟨k,hkn⟩;by_cases hA:k<n
      ·have hA':=ltT hA;have hwk:=Qah (a:=k) (by omega);have s1:(hov 0 (k+1)).map sgPV=(hov 0 k).map sgPV++[.agg [.int .i64 (k:Int),.int .i64 ((k+1:Nat):Int),.int .i64 1,.slc [.int .i64 1],.slc [.int .i64 2],.slc [.int .i64 3]]]:=by
        rw [Zdr,List.map_append,Int.zero_add];rfl
       have l1:((hov 0 k).map sgPV).length=k:=by rw [List.length_map,Qxi]
       have o1:=Qdr (hov 0 k);have c1:((k+1)*96≤140737488355328)=True:=eq_true (by omega);have c2:(k+1≤maxLen)=True:=eq_true (by unfold maxLen;omega);simp only [s1];generalize (hov 0 k).map sgPV=X at*;repeat simp -implicitDefEqProofs only [go_sem,seval,hA',hwk,l1,o1,c1,c2]
       refine⟨⟨k+1,hA⟩,by simp only;omega,Qaj (θ:=[(7,809)]) rfl ?_ ?_⟩
       ·simp [Qac,lkp,ren1,ren0,Qao]
       ·simp only [s1];exact⟨⟨rfl,rfl,rfl,rfl,rfl,.inl ⟨rfl,rfl⟩⟩,trivial⟩
      ·have hA':=ltF hA;obtain rfl:k=n:=by omega
       simp only;have l1:((hov 0 k).map sgPV).length=k:=by rw [List.length_map,Qxi]
       have e1:((hov 0 k).map sgPV).take k=(hov 0 k).map sgPV:=List.take_of_length_le (by omega);repeat simp -implicitDefEqProofs only [go_sem,seval,hA']
       refine Le.trans (Zjt 0 7 rfl rfl rfl rfl (by simp only [Nat.zero_add];omega)) ?_;refine Qaj (θ:=[]) rfl ?_ trivial;simp only [List.drop_zero,e1];simp [Qac,lkp,ren1,ren0,Qao]
    ·have hh:=Zs6 0 n (by omega) (by omega);exact Qq2 (hov 0 n) q hh.1 (by rw [Qxi];omega) hlq
   ·refine Zce 176 [.tmp 6] Tryz.func3 rfl (by kernel_rfl) (by kernel_rfl) (by kernel_rfl) (by kernel_rfl) ?_;refine Qid mixed [] [0,1,2,6,7,8,9,10,11,12,13,14,15,16,24,31,34,74,107,113,119,137,157] 3 rfl (St.of [(0,.slc (p.map sgPV)),(1,.slc (q.map sgPV))] []) ?_ ?_
    ·simp only [codes,Qft,List.take_succ_cons,List.take_zero,List.drop_succ_cons,List.drop_zero,List.foldr_cons,List.foldr_nil];by_cases h1:254≤m
     ·have h1':=eq_true h1;have h2':=eq_false (show¬m≤258 by omega);repeat (first|simp -implicitDefEqProofs only [go_sem,seval,h1',h2',decide_true,decide_false,Bool.not_true]|(with_reducible refine Qaa hf1 ?_ ?_ ?_);rfl;rfl|(with_reducible refine Qaa hf2 ?_ ?_ ?_);rfl;rfl)
      refine Qaj (θ:=[]) rfl ?_ trivial;simp [Qac,lkp,ren1,ren0,Qao]
     ·have h1':=eq_false h1;repeat (first|simp -implicitDefEqProofs only [go_sem,seval,h1',decide_true,decide_false,Bool.not_true]|(with_reducible refine Qaa hf1 ?_ ?_ ?_);rfl;rfl|(with_reducible refine Qaa hf2 ?_ ?_ ?_);rfl;rfl)
      refine Qaj (θ:=[]) rfl ?_ trivial;simp [Qac,lkp,ren1,ren0,Qao]
    ·exact Qq2 p q hp (by omega) hlq
end Go.Proofs.YtlghoaggenhheaaGreat
