/-
  TM12, Dsl, TM13, Dsm, TM14, TM15 (merged for the claim).
-/
import Derived.Test.YtobaaecbdlhpdaaGreatUZ
import Derived.Test.YtobaaecbdlhpdaaGreatTM4
set_option linter.unusedSimpArgs false
set_option linter.unusedVariables false
namespace Go.Proofs.YtobaaecbdlhpdaaGreat
open Go.Vl Go.RowKit Go.Dg
theorem Q2l (xs:List Int) (hl:xs.length≤1000000) (hx: ∀x∈xs,x.natAbs<2^65536):Qaf Tryz.prog 75 [wL xs] (wL (Qao xs)):=by
 refine Qac (tb:=[]) 22 [.tmp 2] [0,2,15] mixed Tryz.func75 rfl (by kernel_rfl) (by kernel_rfl) (by kernel_rfl) (by kernel_rfl) ?_;repeat (first|(simp -implicitDefEqProofs only [go_sem,Nat.reduceAdd,Nat.reduceMul,Nat.reduceEqDiff,Nat.reduceLT,Nat.reduceLeDiff,Nat.reduceSub,Nat.reduceBEq,reduceIte,reduceCtorEq,Int.reduceEq,Int.reduceNe,Nat.reduceBneDiff,Int.reduceLE,Int.reduceLT,Int.reduceToNat,Int.reduceAdd,Int.reduceSub,Int.reduceMul,Int.reduceNeg,wL]))
 refine Qa4 mixed (fun m:{m:Nat // m≤xs.length∧Qao (xs.take m)=Qao xs}=>St.of [(0,wL (xs.take m.1)),(2,.nilS)] []) (fun m=>m.1) ⟨xs.length,Nat.le_refl _,by rw [List.take_length]⟩ ?_ ?_
 ·exact Qa3 (by simp [Qae,lkp,ren1,ren0,wL])
 ·rintro⟨m,hm,ht⟩;have hlen:(xs.take m).length=m:=by rw [List.length_take];omega
  simp only;cases m with
  |zero=>
   have g1:((0:Int)<((0:Nat):Int))=False:=by simp
   have e:Qao xs=[]:=by rw [←ht];rfl
   repeat (first|(simp -implicitDefEqProofs only [go_sem,Nat.reduceAdd,Nat.reduceMul,Nat.reduceEqDiff,Nat.reduceLT,Nat.reduceLeDiff,Nat.reduceSub,Nat.reduceBEq,reduceIte,reduceCtorEq,Int.reduceEq,Int.reduceNe,Nat.reduceBneDiff,Int.reduceLE,Int.reduceLT,Int.reduceToNat,Int.reduceAdd,Int.reduceSub,Int.reduceMul,Int.reduceNeg,wL,List.length_map,hlen,g1,e,List.take_zero,List.map_nil,List.length_nil]))
  |succ m=>
   have g1:((0:Int)<((m+1:Nat):Int))=True:=by simp only [eq_iff_iff,iff_true];omega
   have hlt:m<(xs.take (m+1)).length:=by omega
   have w1:IntKind.i64.wrap (((m+1:Nat):Int)-1)=(m:Int):=by rw [Qah (by omega) (by omega)];omega
   have h0:=nnT m;have hg:=Qc7 (xs.take (m+1)) m hlt;have hgm:(xs.take (m+1))[m]=xs[m]'(by omega):=List.getElem_take;have htk:xs.take (m+1)=xs.take m++[xs[m]'(by omega)]:=Qca xs m (by omega);have hrs:=Q2x (x:=(xs.take (m+1))[m]) (by rw [hgm];exact hx _ (List.getElem_mem _));by_cases hz:xs[m]'(by omega)=0
   ·have g2:(((xs.take (m+1))[m]).sign==0)=true:=by rw [hgm,hz];rfl
    have e1:((xs.take (m+1)).map wPV).take m=(xs.take m).map wPV:=by rw [←List.map_take,List.take_take,Nat.min_eq_left (by omega)]
    have g3:((m:Int)≤((m+1:Nat):Int))=True:=by simp only [eq_iff_iff,iff_true];omega
    have hcl:(((xs.take (m+1)).map wPV).all fun x=>x.cells.length==2)=true:=by rw [List.all_map,List.all_eq_true];intro _ _;rfl
    repeat (first|(simp -implicitDefEqProofs only [go_sem,Nat.reduceAdd,Nat.reduceMul,Nat.reduceEqDiff,Nat.reduceLT,Nat.reduceLeDiff,Nat.reduceSub,Nat.reduceBEq,reduceIte,reduceCtorEq,Int.reduceEq,Int.reduceNe,Nat.reduceBneDiff,Int.reduceLE,Int.reduceLT,Int.reduceToNat,Int.reduceAdd,Int.reduceSub,Int.reduceMul,Int.reduceNeg,wL,wPV,List.length_map,hlen,g1,g2,g3,w1,h0,hg,Int.toNat_natCast,hcl,e1])|((with_reducible refine Qab hrs ?_ ?_ ?_);rfl;rfl))
    refine⟨⟨m,by omega,?_⟩,by simp only;omega,Qa3 (by simp [Qae,lkp,ren1,ren0,wL])⟩;rw [←ht,htk,hz,Qhv]
   ·have g2:(((xs.take (m+1))[m]).sign==0)=false:=by rw [hgm];simp only [beq_eq_false_iff_ne,ne_eq,Int.sign_eq_zero_iff_zero];exact hz
    have e:Qao xs=xs.take (m+1):=by rw [←ht,htk,Qje _ _ hz]
    repeat (first|(simp -implicitDefEqProofs only [go_sem,Nat.reduceAdd,Nat.reduceMul,Nat.reduceEqDiff,Nat.reduceLT,Nat.reduceLeDiff,Nat.reduceSub,Nat.reduceBEq,reduceIte,reduceCtorEq,Int.reduceEq,Int.reduceNe,Nat.reduceBneDiff,Int.reduceLE,Int.reduceLT,Int.reduceToNat,Int.reduceAdd,Int.reduceSub,Int.reduceMul,Int.reduceNeg,wL,wPV,List.length_map,hlen,g1,g2,w1,h0,hg,Int.toNat_natCast])|((with_reducible refine Qab hrs ?_ ?_ ?_);rfl;rfl))
    rw [e]
theorem Q2m (xs:List Int) (hl:xs.length≤1000000) (hx: ∀x∈xs,x.natAbs<2^65536):Qdt Tryz.prog 81 [.bp 1000000 1 0 0,wL xs] [(1000000,dkB dkT)] (.tup [wL (Qao xs),.int .i64 0]) [(1000000,dkB dkT)]:=by
 have ht:=Q2l xs hl hx;unfold wL at ht ⊢;refine Qdv (tb:=[]) 19 [.tmp 4,.tmp 5] [0,1,4,5,11] mixed Tryz.func81 rfl (by kernel_rfl) (by kernel_rfl) (by kernel_rfl) (by kernel_rfl) (by rfl) ?_;repeat (first|(simp -implicitDefEqProofs only [go_sem,Nat.reduceAdd,Nat.reduceMul,Nat.reduceEqDiff,Nat.reduceLT,Nat.reduceLeDiff,Nat.reduceSub,Nat.reduceBEq,reduceIte,reduceCtorEq,Int.reduceEq,Int.reduceNe,Nat.reduceBneDiff,Int.reduceLE,Int.reduceLT,Int.reduceToNat,Int.reduceAdd,Int.reduceSub,Int.reduceMul,Int.reduceNeg,if_true])|((with_reducible refine Qab ht ?_ ?_ ?_);rfl;rfl)|(with_reducible exact Qaa _ _ (by kernel_rfl))|(with_reducible refine And.intro (Qaa _ _ (by kernel_rfl)) ?_))
 refine Qct (.inl rfl) ?_;simp -implicitDefEqProofs only [go_sem,Nat.reduceAdd,Nat.reduceMul,Nat.reduceEqDiff,Nat.reduceLT,Nat.reduceLeDiff,Nat.reduceSub,Nat.reduceBEq,reduceIte,reduceCtorEq,Int.reduceEq,Int.reduceNe,Nat.reduceBneDiff,Int.reduceLE,Int.reduceLT,Int.reduceToNat,Int.reduceAdd,Int.reduceSub,Int.reduceMul,Int.reduceNeg];refine Zpu (θ:=[(1000000,1000000)]) rfl ?_ ?_
 ·simp [Qgh,ren1,ren0]
 ·exact⟨⟨rfl,rfl,rfl,rfl,rfl,.inr ⟨rfl,_,_,rfl,rfl,rfl,rfl⟩⟩,trivial⟩
theorem Q2n (xs:List Int) (hl:xs.length≤1000000) (hx: ∀x∈xs,x.natAbs<2^65536):Qaf Tryz.prog 78 [wL xs] (.int .i64 (Qc4 blen xs:Int)):=by
 refine Qac (tb:=[]) 18 [.tmp 2] [0,2,3,5,6,7,8,9] mixed Tryz.func78 rfl (by kernel_rfl) (by kernel_rfl) (by kernel_rfl) (by kernel_rfl) ?_;repeat (first|(simp -implicitDefEqProofs only [go_sem,Nat.reduceAdd,Nat.reduceMul,Nat.reduceEqDiff,Nat.reduceLT,Nat.reduceLeDiff,Nat.reduceSub,Nat.reduceBEq,reduceIte,reduceCtorEq,Int.reduceEq,Int.reduceNe,Nat.reduceBneDiff,Int.reduceLE,Int.reduceLT,Int.reduceToNat,Int.reduceAdd,Int.reduceSub,Int.reduceMul,Int.reduceNeg,wL,List.length_map]))
 refine Qa4 mixed (fun i:{i:Nat // i≤xs.length}=>St.of [(3,.int .i64 (Qc4 blen (xs.take i.1):Int)),(6,wL xs),(7,.int .i64 (xs.length:Int)),(8,.int .i64 (i.1:Int))] []) (fun i=>xs.length-i.1) ⟨0,Nat.zero_le _⟩ ?_ ?_
 ·exact Qa3 (by simp [Qae,lkp,ren1,ren0,wL,Qc4])
 ·rintro⟨i,hi⟩;by_cases hA:i<xs.length
  ·have hA':=ltT hA;have h0:=nnT i;have hg:=Qc7 xs i hA;have hwk:=Qak (a:=i) (by omega);have hL:=Zno (hx _ (List.getElem_mem hA));have e:=Qx6 blen (xs.take i) xs[i];rw [←Qca xs i hA]at e;by_cases hlt:Qc4 blen (xs.take i)<blen xs[i].natAbs
   ·rw [if_pos hlt]at e;have hlt':=ltT hlt;repeat (first|(simp -implicitDefEqProofs only [go_sem,Nat.reduceAdd,Nat.reduceMul,Nat.reduceEqDiff,Nat.reduceLT,Nat.reduceLeDiff,Nat.reduceSub,Nat.reduceBEq,reduceIte,reduceCtorEq,Int.reduceEq,Int.reduceNe,Nat.reduceBneDiff,Int.reduceLE,Int.reduceLT,Int.reduceToNat,Int.reduceAdd,Int.reduceSub,Int.reduceMul,Int.reduceNeg,wL,wPV,hA',h0,hg,Int.toNat_natCast,hwk,hlt'])|((with_reducible refine Qab hL ?_ ?_ ?_);rfl;rfl))
    refine⟨⟨i+1,hA⟩,by simp only;omega,Qa3 (by simp [Qae,lkp,ren1,ren0,wL,e])⟩
   ·rw [if_neg hlt]at e;have hlt':=ltF hlt;repeat (first|(simp -implicitDefEqProofs only [go_sem,Nat.reduceAdd,Nat.reduceMul,Nat.reduceEqDiff,Nat.reduceLT,Nat.reduceLeDiff,Nat.reduceSub,Nat.reduceBEq,reduceIte,reduceCtorEq,Int.reduceEq,Int.reduceNe,Nat.reduceBneDiff,Int.reduceLE,Int.reduceLT,Int.reduceToNat,Int.reduceAdd,Int.reduceSub,Int.reduceMul,Int.reduceNeg,wL,wPV,hA',h0,hg,Int.toNat_natCast,hwk,hlt'])|((with_reducible refine Qab hL ?_ ?_ ?_);rfl;rfl))
    refine⟨⟨i+1,hA⟩,by simp only;omega,Qa3 (by simp [Qae,lkp,ren1,ren0,wL,e])⟩
  ·have hA':=ltF hA;rw [List.take_of_length_le (show xs.length≤i by omega)];repeat (first|(simp -implicitDefEqProofs only [go_sem,Nat.reduceAdd,Nat.reduceMul,Nat.reduceEqDiff,Nat.reduceLT,Nat.reduceLeDiff,Nat.reduceSub,Nat.reduceBEq,reduceIte,reduceCtorEq,Int.reduceEq,Int.reduceNe,Nat.reduceBneDiff,Int.reduceLE,Int.reduceLT,Int.reduceToNat,Int.reduceAdd,Int.reduceSub,Int.reduceMul,Int.reduceNeg,wL,hA']))
structure okPoly (xs:List Int):Prop where
 b: ∀x∈xs,x.natAbs<2^65536
 l:xs.length≤25
 t:xs≠ []→xs.getD (xs.length-1) 0≠0
theorem Qrv {xs:List Int} (h:okPoly xs):Qaf Tryz.prog 76 [wL xs] (.bool true):=by
 obtain⟨hb,hl,ht⟩:=h;have e0:wL xs= .slc ((xs.map fun x=>(decide (x<0),mB x)).map wA):=by unfold wL;rw [List.map_map];rfl
 have hv:=Q8p (xs.map fun x=>(decide (x<0),mB x)) (by rw [List.length_map];omega) (by
  intro p hp;simp only [List.mem_map]at hp;obtain⟨x,hx,rfl⟩:=hp;exact Qc6 (hb x hx))
 rw [e0];have e1:Quf (xs.map fun x=>(decide (x<0),mB x))=true:=by
  unfold Quf Qwu;have h1:((xs.map fun x=>(decide (x<0),mB x)).all fun p=>Qbe p.1 p.2.data.toList)=true:=by
   rw [List.all_map,List.all_eq_true];intro x hx;exact Qcg (hb x hx)
  have h2:decide ((xs.map fun x=>(decide (x<0),mB x)).length≤25)=true:=by rw [List.length_map];exact decide_eq_true hl
  have h3:topB (xs.map fun x=>(decide (x<0),mB x))=true:=by
   by_cases hn:xs=[]
   ·subst hn;rfl
   ·have hlt:xs.length-1<xs.length:=by have:=List.length_pos_iff.2 hn;omega
    have hlt2:(xs.map fun x=>(decide (x<0),mB x)).length-1<(xs.map fun x=>(decide (x<0),mB x)).length:=by rw [List.length_map];exact hlt
    rw [Qrx hlt2,decide_eq_true_eq,List.getElem_map];simp only [List.length_map];have hz:=ht hn;rw [Qcw hlt]at hz;rw [Qhr];exact List.length_pos_iff.2 (Znp hz)
  rw [h1,h2,h3];rfl
 rw [e1]at hv;exact hv
theorem Qub: ∀(l:List Int),Qao l≠ []→(Qao l).getD ((Qao l).length-1) 0≠0:=by
 intro l h he;have hl:0<(Qao l).length:=List.length_pos_iff.2 h;have hlt:(Qao l).length-1<(Qao l).length:=by omega
 have hsp:Qao l=(Qao l).take ((Qao l).length-1)++[0]:=by
  have h1:=Qca (Qao l) ((Qao l).length-1) hlt;rw [show(Qao l).length-1+1=(Qao l).length by omega,List.take_length]at h1;rw [Qcw hlt]at he;rw [he]at h1;exact h1
 have h2:(Qao (Qao l)).length=(Qao l).length:=by rw [Qg1]
 have h3:(Qao ((Qao l).take ((Qao l).length-1)++[0])).length≤(Qao l).length-1:=by
  rw [Qhv];exact Nat.le_trans (Qbg _) (by rw [List.length_take];omega)
 rw [←hsp]at h3;omega
theorem Qdf {l:List Int} (hb: ∀x∈l,x.natAbs<2^65536) (hl:l.length≤25):okPoly (Qao l):=
 ⟨fun x hx=>hb x (Qid hx),Nat.le_trans (Qbg l) hl,Qub l⟩
theorem Zgx (c:List Int) (hl:c.length≤25) (hc: ∀x∈c,i64 x):Qaf Tryz.prog 47 [Qa2 c] (.tup [wL (Qao c),.int .i64 0]):=by
 refine Qac (tb:=[]) 25 [.tmp 2,.tmp 3] [0,2,3,4,6,7,8,9,10,23] mixed Tryz.func47 rfl (by kernel_rfl) (by kernel_rfl) (by kernel_rfl) (by kernel_rfl) ?_;repeat (first|(simp -implicitDefEqProofs only [go_sem,Nat.reduceAdd,Nat.reduceMul,Nat.reduceEqDiff,Nat.reduceLT,Nat.reduceLeDiff,Nat.reduceSub,Nat.reduceBEq,reduceIte,reduceCtorEq,Int.reduceEq,Int.reduceNe,Nat.reduceBneDiff,Int.reduceLE,Int.reduceLT,Int.reduceToNat,Int.reduceAdd,Int.reduceSub,Int.reduceMul,Int.reduceNeg,List.length_map]))
 refine Qa4 mixed (fun i:{i:Nat // i≤c.length}=>St.of [(4,.bs 7 2 0 i.1),(7,Qa2 c),(8,.int .i64 (c.length:Int)),(9,.int .i64 (i.1:Int))]
  [(7,{els:=(c.take i.1).map wPV,esz:=2,ety:=66,fro:=0,live:=true,arr:=true})]) (fun i=>c.length-i.1) ⟨0,Nat.zero_le _⟩ ?_ ?_
 ·refine Zl0 4 7 2 66 rfl rfl rfl (by decide) [(7,7)] rfl ?_ ?_
  ·simp [Qae,lkp,ren1,ren0,Qax,Qa2]
  ·simp [Qar,lkp,Box.renames]
 ·rintro⟨i,hi⟩;have hlen:((c.take i).map wPV).length=i:=by rw [List.length_map,List.length_take];omega
  by_cases hA:i<c.length
  ·have hA':=ltT hA;have n0:=nnT i;have hg:=Qdk c i hA;have hwk:=Qak (a:=i) (by omega);have q1:(i==i)=true:=beq_self_eq_true i;have q2:((i+1)*24≤140737488355328)=True:=eq_true (by omega);have q3:(i+1≤maxLen)=True:=eq_true (by unfold maxLen;omega);obtain⟨k1,k2⟩:=hc _ (List.getElem_mem hA);have o1:=Qez c[i] k1 k2;have htk:=map_take wPV c i hA;repeat (first|(simp -implicitDefEqProofs only [go_sem,Nat.reduceAdd,Nat.reduceMul,Nat.reduceEqDiff,Nat.reduceLT,Nat.reduceLeDiff,Nat.reduceSub,Nat.reduceBEq,reduceIte,reduceCtorEq,Int.reduceEq,Int.reduceNe,Nat.reduceBneDiff,Int.reduceLE,Int.reduceLT,Int.reduceToNat,Int.reduceAdd,Int.reduceSub,Int.reduceMul,Int.reduceNeg,wPV,hA',n0,hg,hwk,hlen,q1,q2,q3,Zg1,Int.toNat_natCast,List.length_map])|((with_reducible refine Qab o1 ?_ ?_ ?_);rfl;rfl))
   refine⟨⟨i+1,hA⟩,by simp only;omega,Qas (θ:=[(7,504)]) rfl ?_ ?_⟩
   ·simp [Qae,lkp,ren1,ren0,Qax,Qa2]
   ·simp only [htk];simp [Qar,lkp,Box.renames,wPV]
  ·have hA':=ltF hA;obtain rfl:i=c.length:=by omega
   have e1:((c.take c.length).map wPV).take c.length=c.map wPV:=by rw [List.take_length,List.take_of_length_le (by rw [List.length_map];omega)]
   have ht:=Q2l c (by omega) fun x hx=>Qan (Qbh (hc x hx)) (by decide);unfold wL at ht ⊢;have hle:=Qbg c;have h25:((25:Int)<((Qao c).length:Int))=False:=eq_false (by omega);repeat (first|(simp -implicitDefEqProofs only [go_sem,Nat.reduceAdd,Nat.reduceMul,Nat.reduceEqDiff,Nat.reduceLT,Nat.reduceLeDiff,Nat.reduceSub,Nat.reduceBEq,reduceIte,reduceCtorEq,Int.reduceEq,Int.reduceNe,Nat.reduceBneDiff,Int.reduceLE,Int.reduceLT,Int.reduceToNat,Int.reduceAdd,Int.reduceSub,Int.reduceMul,Int.reduceNeg,hA',hlen,e1,h25,List.length_map])|((with_reducible refine Qab ht ?_ ?_ ?_);rfl;rfl))
end Go.Proofs.YtobaaecbdlhpdaaGreat

namespace Go.Dg
theorem Qpm {p:List Int} {a b d:Int} (hp:bd 64 p) (ha:a.natAbs<2^64) (hb:b.natAbs<2^64) (hd:d.natAbs<2^64): ∀m,bd (66+m*66) (Qen p a b d m)
 |0=>fun x hx=>by
  simp only [Qen,List.mem_singleton]at hx;subst hx;exact Nat.lt_of_lt_of_le (Qef hp _) (Nat.pow_le_pow_right (by decide) (by omega))
 |m+1=>by
  have h1:=Qpm hp ha hb hd m;have hc:(p.getD (p.length-1-(m+1)) 0*d^(m+1)).natAbs<2^(66+m*66+64):=by
   rw [Int.natAbs_mul];refine Nat.lt_of_lt_of_le (Nat.mul_lt_mul'' (Qef hp _) (Qb3 hd (m+1))) ?_;rw [←Nat.pow_add];exact Nat.pow_le_pow_right (by decide) (by omega)
  have h2:=Q77 h1 ha hb hc;have e:66+m*66+64+2=66+(m+1)*66:=by omega
  rw [e]at h2;exact h2
theorem Zes {out:List Int} {a b:Int} {X B:Nat} (ho:bd X out) (ha:a.natAbs<2^B) (hb:b.natAbs<2^B) (k j:Nat):(nxE out a b k j).natAbs<2^(X+B+1):=by
 have p2:2^(X+B+1)=2*2^(X+B):=by rw [Nat.pow_add];omega
 have hA:(out.getD j 0*a).natAbs<2^(X+B):=by rw [Int.natAbs_mul,Nat.pow_add];exact Nat.mul_lt_mul'' (Qef ho j) ha
 have hB:(out.getD (j-1) 0*b).natAbs<2^(X+B):=by rw [Int.natAbs_mul,Nat.pow_add];exact Nat.mul_lt_mul'' (Qef ho _) hb
 have h0:0<2^(X+B):=Nat.two_pow_pos _;rw [p2];unfold nxE;split<;>split<;>omega
theorem Zet {out:List Int} {a b:Int} {X B:Nat} (ho:bd X out) (ha:a.natAbs<2^B) (hb:b.natAbs<2^B) (k:Nat):bd (X+B+1) (nxL out a b k):=by
 intro x hx;unfold nxL at hx;simp only [List.mem_map]at hx;obtain⟨j,_,rfl⟩:=hx;exact Zes ho ha hb k j
theorem Qni (xs:List Int) (F:Int→Int):(List.range xs.length).map (fun m=>F (xs.getD m 0))=xs.map F:=by
 apply List.ext_getElem
 ·simp
 ·intro i h1 h2;have hi:i<xs.length:=by simpa using h2
  simp only [List.getElem_map,List.getElem_range];rw [List.getD_eq_getElem?_getD,List.getElem?_eq_getElem hi];rfl
end Go.Dg

namespace Go.Proofs.YtobaaecbdlhpdaaGreat
open Go.Vl Go.RowKit Go.Dg
theorem Qk8 (xs:List Int) (i:Nat) (x:Int):(xs.map wPV).set i (.agg [.bool (decide (x<0)),.str (mB x)])=(xs.set i x).map wPV:=by rw [List.map_set];rfl
theorem Znb (n:Nat):(List.replicate n (0:Int)).map wPV=List.replicate n (.agg [.bool false,.str ⟨#[]⟩]):=by rw [List.map_replicate,Znc]
set_option maxHeartbeats 1000000 in
theorem Ql5 (xs:List Int) (c:Int) (B:Nat) (hB:B≤30000) (hx:okPoly xs) (hb:bd B xs) (hc:c.natAbs<2^B):Qaf Tryz.prog 49 [wL xs,wPV c] (.tup [wL (Qee xs c),.int .i64 0]):=by
 have hv:=Qrv hx;have hv2:=Qk9 (Qan hc (by omega));have hl:=hx.l;have h0l:((0:Int)≤(xs.length:Int))=True:=nnT _;have hll:((xs.length:Int)≤(xs.length:Int))=True:=by simp
 have hm1:(((24:Nat):Int)*(xs.length:Int)≤281474976710656)=True:=eq_true (by omega);have hm2:((xs.length:Int)≤9223372036854775807)=True:=eq_true (by omega);unfold wL at hv

 refine Qac (tb:=[(804,[(1000000,300)],[]),(1001,[(1000000,300)],[])]) 39 [.tmp 4,.tmp 5] [0,1,3,4,5,6,7,8,9,17,21,22,23,24] mixed Tryz.func49 rfl (by kernel_rfl) (by kernel_rfl) (by kernel_rfl) (by kernel_rfl) ?_;repeat (first|(simp -implicitDefEqProofs only [go_sem,Nat.reduceAdd,Nat.reduceMul,Nat.reduceEqDiff,Nat.reduceLT,Nat.reduceLeDiff,Nat.reduceSub,Nat.reduceBEq,reduceIte,reduceCtorEq,Int.reduceEq,Int.reduceNe,Nat.reduceBneDiff,Int.reduceLE,Int.reduceLT,Int.reduceToNat,Int.reduceAdd,Int.reduceSub,Int.reduceMul,Int.reduceNeg,wL,wPV,h0l,hll,hm1,hm2,List.length_map,Int.toNat_natCast])|((with_reducible refine Qab hv ?_ ?_ ?_);rfl;rfl)|((with_reducible refine Qab hv2 ?_ ?_ ?_);rfl;rfl))
 obtain⟨F,hF⟩: ∃F:Nat→Int,F=fun m=>xs.getD m 0*c:=⟨_,rfl⟩;refine Qa4 mixed (fun i:{i:Nat // i≤xs.length}=>St.of [(3,.bp 0 2 0 0),(6,.bp 300 1 0 0),(7,.bs 402 2 0 xs.length),(21,wL xs),(22,.int .i64 (xs.length:Int)),(23,.int .i64 (i.1:Int))]
  [(0,{els:=[wPV c],esz:=2,ety:=66,fro:=0,live:=true,arr:=false}),(300,dkB dkT),(402,{els:=(upto F xs.length i.1).map wPV,esz:=2,ety:=66,fro:=0,live:=true,arr:=true})]) (fun i=>xs.length-i.1) ⟨0,Nat.zero_le _⟩ ?_ ?_
 ·refine Qas (θ:=[(0,0),(300,300),(402,402)]) rfl ?_ ?_
  ·simp [Qae,lkp,ren1,ren0,Qax,wL]
  ·simp only [Q1o,Znb];exact⟨⟨rfl,rfl,rfl,rfl,rfl,.inr ⟨rfl,_,_,rfl,rfl,rfl,rfl⟩⟩,⟨rfl,rfl,rfl,rfl,rfl,.inr ⟨rfl,_,_,rfl,rfl,rfl,rfl⟩⟩,⟨rfl,rfl,rfl,rfl,rfl,.inl ⟨rfl,rfl⟩⟩,trivial⟩
 ·rintro⟨i,hi⟩;by_cases hA:i<xs.length
  ·have hA':=ltT hA;have n0:=nnT i;have hg:=Qc7 xs i hA;have hwk:=Qak (a:=i) (by omega);have x1:=hb _ (List.getElem_mem hA);have m:=Qru (Qan x1 (by omega)) (Qan hc (by omega)) (Qan (Qj6 x1 hc) (by omega));have hul:i<(upto F xs.length i).length:=by rw [Qfd];exact hA
   have hgu:=Qc7 (upto F xs.length i) i hul;have hset:(upto F xs.length i).set i (xs[i]*c)=upto F xs.length (i+1):=by
    have h:=Q7z F xs.length i hA;have e:F i=xs[i]*c:=by rw [hF];simp only;rw [Qcw hA]
    rwa [e]at h
   have hset2:=Qk8 (upto F xs.length i) i (xs[i]*c);rw [hset]at hset2;generalize (upto F xs.length i)[i]=U0 at*;clear hF;generalize xs[i]*c=M at*;repeat (first|(simp -implicitDefEqProofs only [go_sem,Nat.reduceAdd,Nat.reduceMul,Nat.reduceEqDiff,Nat.reduceLT,Nat.reduceLeDiff,Nat.reduceSub,Nat.reduceBEq,reduceIte,reduceCtorEq,Int.reduceEq,Int.reduceNe,Nat.reduceBneDiff,Int.reduceLE,Int.reduceLT,Int.reduceToNat,Int.reduceAdd,Int.reduceSub,Int.reduceMul,Int.reduceNeg,wL,wPV,hA',n0,hg,hwk,hgu,hset2,Int.toNat_natCast])|((with_reducible refine Qb7 m ?_ ?_ ?_ ?_);rfl;rfl;rfl))
   refine⟨⟨i+1,hA⟩,by simp only;omega,Qas (θ:=[(0,0),(300,300),(402,402)]) rfl ?_ ?_⟩
   ·simp [Qae,lkp,ren1,ren0,Qax,wL]
   ·exact⟨⟨rfl,rfl,rfl,rfl,rfl,.inr ⟨rfl,_,_,rfl,rfl,rfl,rfl⟩⟩,⟨rfl,rfl,rfl,rfl,rfl,.inr ⟨rfl,_,_,rfl,rfl,rfl,rfl⟩⟩,⟨rfl,rfl,rfl,rfl,rfl,.inl ⟨rfl,rfl⟩⟩,trivial⟩
  ·have hA':=ltF hA;obtain rfl:i=xs.length:=by omega
   have e1:upto F xs.length xs.length=xs.map (· *c):=by rw [Q1p _ _ _ (Nat.le_refl _),hF];exact Qni xs (· *c)
   have hd:=Q2m (xs.map (· *c)) (by rw [List.length_map];omega) (by
    intro x hx;simp only [List.mem_map]at hx;obtain⟨y,hy,rfl⟩:=hx;exact Qan (Qj6 (hb y hy) hc) (by omega))
   have e2:((xs.map (· *c)).map wPV).take xs.length=(xs.map (· *c)).map wPV:=List.take_of_length_le (by simp);have e3:(xs.length≤((xs.map (· *c)).map wPV).length)=True:=eq_true (by simp);simp only [e1];unfold wL at hd;generalize hY:xs.map (· *c)=Y at*;unfold Qee wL;rw [hY];repeat (first|(simp -implicitDefEqProofs only [go_sem,Nat.reduceAdd,Nat.reduceMul,Nat.reduceEqDiff,Nat.reduceLT,Nat.reduceLeDiff,Nat.reduceSub,Nat.reduceBEq,reduceIte,reduceCtorEq,Int.reduceEq,Int.reduceNe,Nat.reduceBneDiff,Int.reduceLE,Int.reduceLT,Int.reduceToNat,Int.reduceAdd,Int.reduceSub,Int.reduceMul,Int.reduceNeg,hA',e2,e3])|((with_reducible refine Qb7 hd ?_ ?_ ?_ ?_);rfl;rfl;rfl))
theorem Qpr {x:Int} (h:x.natAbs<2^64):blen x.natAbs≤64:=Qdb 64 _ h
set_option maxHeartbeats 4000000 in
theorem Qji (p:List Int) (a b d:Int) (hp:okPoly p) (h6:p.length≤6) (hb:bd 64 p) (ha:a.natAbs<2^64) (hbb:b.natAbs<2^64) (hd:d.natAbs<2^64) (hd1:0<d):
  Qaf Tryz.prog 48 [wL p,wPV a,wPV b,wPV d] (.tup [wL (Qc5 p a b d p.length),.int .i64 0]):=by
 have hv:=Qrv hp;have va:=Qk9 (Qan ha (by decide));have vb:=Qk9 (Qan hbb (by decide));have vd:=Qk9 (Qan hd (by decide));have sd:=Q2x (Qan hd (by decide));rw [Int.sign_eq_one_of_pos hd1]at sd;unfold wL at hv;by_cases hz:p.length=0
 ·have hp0:p=[]:=List.length_eq_zero_iff.1 hz;subst hp0;refine Qac (tb:=[]) 121 [.tmp 8,.tmp 9] [0,1,2,3,5,6,7,8,9,10,11,12,13,14,15,16,34,37,40,55,68,78,79,80,81] mixed Tryz.func48 rfl (by kernel_rfl) (by kernel_rfl) (by kernel_rfl) (by kernel_rfl) ?_;repeat (first|(simp -implicitDefEqProofs only [go_sem,Nat.reduceAdd,Nat.reduceMul,Nat.reduceEqDiff,Nat.reduceLT,Nat.reduceLeDiff,Nat.reduceSub,Nat.reduceBEq,reduceIte,reduceCtorEq,Int.reduceEq,Int.reduceNe,Nat.reduceBneDiff,Int.reduceLE,Int.reduceLT,Int.reduceToNat,Int.reduceAdd,Int.reduceSub,Int.reduceMul,Int.reduceNeg,wL,wPV,List.map_nil,List.length_nil])|((with_reducible refine Qab hv ?_ ?_ ?_);rfl;rfl)|((with_reducible refine Qab va ?_ ?_ ?_);rfl;rfl)|((with_reducible refine Qab vb ?_ ?_ ?_);rfl;rfl)|((with_reducible refine Qab vd ?_ ?_ ?_);rfl;rfl)|((with_reducible refine Qab sd ?_ ?_ ?_);rfl;rfl)|(with_reducible exact Qaa _ _ (by kernel_rfl))|(with_reducible refine And.intro (Qaa _ _ (by kernel_rfl)) ?_))
  rfl
 have hz':((p.length:Int)==0)=false:=beq_eq_false_iff_ne.2 (by omega);have s1:=Q2n p (by omega) hp.b;have s2:=Q2n [a,b,d] (by simp) (by
  intro x hx;simp only [List.mem_cons,List.not_mem_nil,or_false]at hx;rcases hx with rfl|rfl|rfl
  ·exact Qan ha (by decide)
  ·exact Qan hbb (by decide)
  ·exact Qan hd (by decide))
 have b1:Qc4 blen p≤64:=Qwh fun x hx=>Qpr (hb x hx);have b2:Qc4 blen [a,b,d]≤64:=Qwh fun x hx=>by
  simp only [List.mem_cons,List.not_mem_nil,or_false]at hx;rcases hx with rfl|rfl|rfl
  ·exact Qpr ha
  ·exact Qpr hbb
  ·exact Qpr hd
 have wl:=Qla (n:=p.length) (by omega) (by omega);have ww1:=Qak (a:=Qc4 blen [a,b,d]) (by omega);have hmul:(p.length-1)*(Qc4 blen [a,b,d]+1)≤5*65:=Nat.mul_le_mul (by omega) (by omega);have ww2:IntKind.i64.wrap (((p.length-1:Nat):Int)*((Qc4 blen [a,b,d]+1:Nat):Int))=(((p.length-1)*(Qc4 blen [a,b,d]+1):Nat):Int):=by rw [←Int.natCast_mul];exact wrapn (by omega)
 have ww3:IntKind.i64.wrap ((Qc4 blen p:Int)+(((p.length-1)*(Qc4 blen [a,b,d]+1):Nat):Int))=((Qc4 blen p+(p.length-1)*(Qc4 blen [a,b,d]+1):Nat):Int):=by rw [←Int.natCast_add];exact wrapn (by omega)
 have ww4:IntKind.i64.wrap (((Qc4 blen p+(p.length-1)*(Qc4 blen [a,b,d]+1):Nat):Int)+8)=((Qc4 blen p+(p.length-1)*(Qc4 blen [a,b,d]+1)+8:Nat):Int):=by
  have e:(((Qc4 blen p+(p.length-1)*(Qc4 blen [a,b,d]+1):Nat):Int)+8)=((Qc4 blen p+(p.length-1)*(Qc4 blen [a,b,d]+1)+8:Nat):Int):=by omega
  rw [e];exact wrapn (by omega)
 have ww5:((65536:Int)<((Qc4 blen p+(p.length-1)*(Qc4 blen [a,b,d]+1)+8:Nat):Int))=False:=eq_false (by omega);have n1:=nnT (p.length-1);have hlt:p.length-1<p.length:=by omega
 have hgl:=Qc7 p (p.length-1) hlt;have w1:=Qez 1 (by decide) (by decide);have wl2:IntKind.i64.wrap ((p.length:Int)-2)=(p.length:Int)-2:=Qah (by omega) (by omega);unfold wL at s1 s2

 refine Qac (tb:=[(1402,[(1000000,900)],[]),(1908,[(1000000,900)],[]),(1909,[(1000000,900)],[]),(2005,[(1000000,900)],[]),(2209,[(1000000,900)],[]),(2210,[(1000000,900)],[]),(2401,[(1000000,900)],[])]) 121 [.tmp 8,.tmp 9] [0,1,2,3,5,6,7,8,9,10,11,12,13,14,15,16,34,37,40,55,68,78,79,80,81] mixed Tryz.func48 rfl (by kernel_rfl) (by kernel_rfl) (by kernel_rfl) (by kernel_rfl) ?_;repeat (first|(simp -implicitDefEqProofs only [go_sem,Nat.reduceAdd,Nat.reduceMul,Nat.reduceEqDiff,Nat.reduceLT,Nat.reduceLeDiff,Nat.reduceSub,Nat.reduceBEq,reduceIte,reduceCtorEq,Int.reduceEq,Int.reduceNe,Nat.reduceBneDiff,Int.reduceLE,Int.reduceLT,Int.reduceToNat,Int.reduceAdd,Int.reduceSub,Int.reduceMul,Int.reduceNeg,wL,wPV,hz',wl,ww1,ww2,ww3,ww4,ww5,n1,hgl,wl2,List.length_map,Int.toNat_natCast])|((with_reducible refine Qab hv ?_ ?_ ?_);rfl;rfl)|((with_reducible refine Qab va ?_ ?_ ?_);rfl;rfl)|((with_reducible refine Qab vb ?_ ?_ ?_);rfl;rfl)|((with_reducible refine Qab vd ?_ ?_ ?_);rfl;rfl)|((with_reducible refine Qab sd ?_ ?_ ?_);rfl;rfl)|((with_reducible refine Qab s1 ?_ ?_ ?_);rfl;rfl)|((with_reducible refine Qab s2 ?_ ?_ ?_);rfl;rfl)|((with_reducible refine Qab w1 ?_ ?_ ?_);rfl;rfl)|(with_reducible exact Qaa _ _ (by kernel_rfl))|(with_reducible refine And.intro (Qaa _ _ (by kernel_rfl)) ?_))
 refine Qa4 mixed (fun m:{m:Nat // m<p.length}=>St.of [(0,wL p),(5,.bp 0 2 0 0),(6,.bp 1 2 0 0),(7,.bp 2 2 0 0),(10,.bp 900 1 0 0),(11,.bs 7 2 0 (m.1+1)),(12,.bp 1008 2 0 0),(13,.int .i64 ((p.length:Int)-2-(m.1:Int)))]
  [(0,{els:=[wPV a],esz:=2,ety:=66,fro:=0,live:=true,arr:=false}),(1,{els:=[wPV b],esz:=2,ety:=66,fro:=0,live:=true,arr:=false}),(2,{els:=[wPV d],esz:=2,ety:=66,fro:=0,live:=true,arr:=false}),(900,dkB dkT),(7,{els:=(Qen p a b d m.1).map wPV,esz:=2,ety:=66,fro:=0,live:=true,arr:=true}),(1008,{els:=[wPV (d^m.1)],esz:=2,ety:=66,fro:=0,live:=true,arr:=false})]) (fun m=>p.length-m.1) ⟨0,by omega⟩ ?_ ?_
 ·refine Qas (θ:=[(0,0),(1,1),(2,2),(900,900),(7,1006),(1008,1008)]) rfl ?_ ?_
  ·simp [Qae,lkp,ren1,ren0,Qax,wL]
  ·refine⟨⟨rfl,rfl,rfl,rfl,rfl,.inr ⟨rfl,_,_,rfl,rfl,rfl,rfl⟩⟩,⟨rfl,rfl,rfl,rfl,rfl,.inr ⟨rfl,_,_,rfl,rfl,rfl,rfl⟩⟩,⟨rfl,rfl,rfl,rfl,rfl,.inr ⟨rfl,_,_,rfl,rfl,rfl,rfl⟩⟩,⟨rfl,rfl,rfl,rfl,rfl,.inr ⟨rfl,_,_,rfl,rfl,rfl,rfl⟩⟩,⟨rfl,rfl,rfl,rfl,rfl,.inl ⟨rfl,?_⟩⟩,⟨rfl,rfl,rfl,rfl,rfl,.inr ⟨rfl,_,_,rfl,rfl,?_,rfl⟩⟩,trivial⟩
   ·simp only [Qen,Qcw hlt];rfl
   ·simp only [Int.pow_zero];rfl
 ·rintro⟨m,hm⟩;have hol:=Qj4 p a b d m;have hbo:=Qpm hb ha hbb hd m;have hpd:=Qb3 hd m;by_cases hA:m+1<p.length
  ·have hA':((0:Int)≤(p.length:Int)-2-(m:Int))=True:=eq_true (by omega);have e:d^(m+1)=d^m*d:=Int.pow_succ d m;have hpd1:=Qb3 hd (m+1);rw [e]at hpd1;have mp:=Qru (Qan hpd (by omega)) (Qan hd (by decide)) (Qan hpd1 (by omega));rw [←e]at mp hpd1;have wm:=Qak (a:=m+1) (by omega);have h0l:((0:Int)≤((m+1+1:Nat):Int))=True:=nnT _;have hll:(((m+1+1:Nat):Int)≤((m+1+1:Nat):Int))=True:=by simp
   have hm1:(((24:Nat):Int)*((m+1+1:Nat):Int)≤281474976710656)=True:=eq_true (by omega);have hm2:(((m+1+1:Nat):Int)≤9223372036854775807)=True:=eq_true (by omega);obtain⟨out,hout⟩: ∃out,Qen p a b d m=out:=⟨_,rfl⟩;have hstepE:Qen p a b d (m+1)=hstep out a b (p.getD (p.length-1-(m+1)) 0*d^(m+1)):=by rw [Qen,hout]
   rw [hout]at hol hbo;simp only [hout];clear ww1 ww2 ww3 ww4 ww5 s1 s2 b1 b2 hmul;repeat (first|(simp -implicitDefEqProofs only [go_sem,Nat.reduceAdd,Nat.reduceMul,Nat.reduceEqDiff,Nat.reduceLT,Nat.reduceLeDiff,Nat.reduceSub,Nat.reduceBEq,reduceIte,reduceCtorEq,Int.reduceEq,Int.reduceNe,Nat.reduceBneDiff,Int.reduceLE,Int.reduceLT,Int.reduceToNat,Int.reduceAdd,Int.reduceSub,Int.reduceMul,Int.reduceNeg,wL,wPV,hA',wm,h0l,hll,hm1,hm2,List.length_map,Int.toNat_natCast])|((with_reducible refine Qb7 mp ?_ ?_ ?_ ?_);rfl;rfl;rfl)|(with_reducible exact Qaa _ _ (by kernel_rfl))|(with_reducible refine And.intro (Qaa _ _ (by kernel_rfl)) ?_))
   have hM0:m<25:=by omega
   have key: ∀k j,(nxE out a b k j).natAbs<2^65536:=fun k j=>Qan (Zes hbo ha hbb k j) (by omega);have hka: ∀k,(out.getD k 0*a).natAbs<2^65536:=fun k=>Qan (Qj6 (Qef hbo k) ha) (by omega);have hkb: ∀k,(out.getD k 0*b).natAbs<2^65536:=fun k=>Qan (Qj6 (Qef hbo k) hbb) (by omega);refine Qa4 mixed (fun k:{k:Nat // k≤m+1}=>St.of [(0,wL p),(5,.bp 0 2 0 0),(6,.bp 1 2 0 0),(7,.bp 2 2 0 0),(10,.bp 900 1 0 0),(11,.bs 7 2 0 (m+1)),(12,.bp 1008 2 0 0),(13,.int .i64 ((p.length:Int)-2-(m:Int))),(14,.bs 1503 2 0 (m+1+1)),(78,.bs 7 2 0 (m+1)),(79,.int .i64 ((m+1:Nat):Int)),(80,.int .i64 (k.1:Int))]
    [(0,{els:=[wPV a],esz:=2,ety:=66,fro:=0,live:=true,arr:=false}),(1,{els:=[wPV b],esz:=2,ety:=66,fro:=0,live:=true,arr:=false}),(2,{els:=[wPV d],esz:=2,ety:=66,fro:=0,live:=true,arr:=false}),(900,dkB dkT),(7,{els:=out.map wPV,esz:=2,ety:=66,fro:=0,live:=true,arr:=true}),(1008,{els:=[wPV (d^(m+1))],esz:=2,ety:=66,fro:=0,live:=true,arr:=false}),(1503,{els:=(nxL out a b k.1).map wPV,esz:=2,ety:=66,fro:=0,live:=true,arr:=true})]) (fun k=>m+1-k.1) ⟨0,Nat.zero_le _⟩ ?_ ?_
   ·refine Qas (θ:=[(0,0),(1,1),(2,2),(900,900),(7,7),(1008,1008),(1503,1503)]) rfl ?_ ?_
    ·simp [Qae,lkp,ren1,ren0,Qax,wL]
    ·simp only [Q73,Znb,hol];exact⟨⟨rfl,rfl,rfl,rfl,rfl,.inr ⟨rfl,_,_,rfl,rfl,rfl,rfl⟩⟩,⟨rfl,rfl,rfl,rfl,rfl,.inr ⟨rfl,_,_,rfl,rfl,rfl,rfl⟩⟩,⟨rfl,rfl,rfl,rfl,rfl,.inr ⟨rfl,_,_,rfl,rfl,rfl,rfl⟩⟩,⟨rfl,rfl,rfl,rfl,rfl,.inr ⟨rfl,_,_,rfl,rfl,rfl,rfl⟩⟩,⟨rfl,rfl,rfl,rfl,rfl,.inl ⟨rfl,rfl⟩⟩,⟨rfl,rfl,rfl,rfl,rfl,.inr ⟨rfl,_,_,rfl,rfl,rfl,rfl⟩⟩,⟨rfl,rfl,rfl,rfl,rfl,.inl ⟨rfl,rfl⟩⟩,trivial⟩
   ·rintro⟨k,hk⟩;by_cases hB:k<m+1
    ·have hB':=ltT hB;have n0:=nnT k;have hko:k<out.length:=by omega
     have hgo:=Qc7 out k hko;have hwk:=Qak (a:=k) (by omega);have hkn:k<(nxL out a b k).length:=by rw [Qdd];omega
     have hkn1:k+1<((nxL out a b k).set k ((if 0<k then out.getD (k-1) 0*b else 0)+out.getD k 0*a)).length:=by rw [List.length_set,Qdd];omega
     have hgn:=Qc7 (nxL out a b k) k hkn;have eN:=Zf8 out a b k hkn;have egd:out.getD k 0=out[k]:=Qcw hko;have x1:=Qan (hbo _ (List.getElem_mem hko)) (by omega);have ha1:=hka k;have hb1:=hkb k;rw [egd]at ha1 hb1;have m1:=Qru x1 (Qan ha (by decide)) ha1;have m2:=Qru x1 (Qan hbb (by decide)) hb1;have kN:((nxL out a b k)[k]).natAbs<2^65536:=Qan (Zet hbo ha hbb k _ (List.getElem_mem hkn)) (by omega);have kS:((nxL out a b k)[k]+out[k]*a).natAbs<2^65536:=by
      have h:=key (k+1) k;unfold nxE at h;rw [if_pos (Nat.lt_succ_self k),egd]at h;rw [eN];by_cases e0:0<k
      ·rw [if_pos ⟨e0,by omega⟩]at h;rw [if_pos e0,Int.add_comm];exact h
      ·rw [if_neg (fun q=>e0 q.1)]at h;rw [if_neg e0,Int.add_comm];exact h
     have m3:=Zey kN ha1 kS;have hs1:=Qk8 (nxL out a b k) k ((nxL out a b k)[k]+out[k]*a);have hgn1:=Qc7 ((nxL out a b k).set k ((nxL out a b k)[k]+out[k]*a)) (k+1) (by rw [List.length_set,Qdd];omega);have hs2:=Qk8 ((nxL out a b k).set k ((nxL out a b k)[k]+out[k]*a)) (k+1) (out[k]*b);have hfin:((nxL out a b k).set k ((nxL out a b k)[k]+out[k]*a)).set (k+1) (out[k]*b)=nxL out a b (k+1):=by
      have h:=Q74 out a b k hko;rw [egd]at h;rw [eN];exact h
     rw [hfin]at hs2;clear eN hfin kN kS;generalize (nxL out a b k)[k]=N0 at*;generalize N0+out[k]*a=N1 at*;generalize out[k]*a=OA at*;generalize out[k]*b=OB at*;have h0m:(0:Int)<((m+1+1:Nat):Int):=by omega
     have t1:=ltT (show k<m+1+1 by omega);have t2:=ltT (show k+1<m+1+1 by omega);have n2:=nnT (k+1);generalize ((nxL out a b k).set k N1)[k+1]'(by rw [List.length_set,Qdd];omega)=N2 at*;repeat (first|(simp -implicitDefEqProofs only [go_sem,Nat.reduceAdd,Nat.reduceMul,Nat.reduceEqDiff,Nat.reduceLT,Nat.reduceLeDiff,Nat.reduceSub,Nat.reduceBEq,reduceIte,reduceCtorEq,Int.reduceEq,Int.reduceNe,Nat.reduceBneDiff,Int.reduceLE,Int.reduceLT,Int.reduceToNat,Int.reduceAdd,Int.reduceSub,Int.reduceMul,Int.reduceNeg,wL,wPV,hB',n0,n2,t1,t2,hgo,hwk,hgn,hs1,hgn1,hs2,Int.toNat_natCast])|((with_reducible refine Qb7 m1 ?_ ?_ ?_ ?_);rfl;rfl;rfl)|((with_reducible refine Qb7 m3 ?_ ?_ ?_ ?_);rfl;rfl;rfl)|((with_reducible refine Qb7 m2 ?_ ?_ ?_ ?_);rfl;rfl;rfl)|(with_reducible exact Qaa _ _ (by kernel_rfl))|(with_reducible refine And.intro (Qaa _ _ (by kernel_rfl)) ?_))
     refine⟨⟨k+1,hB⟩,by simp only;omega,Qas (θ:=[(0,0),(1,1),(2,2),(900,900),(7,7),(1008,1008),(1503,1503)]) rfl ?_ ?_⟩
     ·simp [Qae,lkp,ren1,ren0,Qax,wL]
     ·exact⟨⟨rfl,rfl,rfl,rfl,rfl,.inr ⟨rfl,_,_,rfl,rfl,rfl,rfl⟩⟩,⟨rfl,rfl,rfl,rfl,rfl,.inr ⟨rfl,_,_,rfl,rfl,rfl,rfl⟩⟩,⟨rfl,rfl,rfl,rfl,rfl,.inr ⟨rfl,_,_,rfl,rfl,rfl,rfl⟩⟩,⟨rfl,rfl,rfl,rfl,rfl,.inr ⟨rfl,_,_,rfl,rfl,rfl,rfl⟩⟩,⟨rfl,rfl,rfl,rfl,rfl,.inl ⟨rfl,rfl⟩⟩,⟨rfl,rfl,rfl,rfl,rfl,.inr ⟨rfl,_,_,rfl,rfl,rfl,rfl⟩⟩,⟨rfl,rfl,rfl,rfl,rfl,.inl ⟨rfl,rfl⟩⟩,trivial⟩
    ·have hB':=ltF hB;obtain rfl:k=m+1:=by omega
     have hi:p.length-1-(m+1)<p.length:=by omega
     have egp:p.getD (p.length-1-(m+1)) 0=p[p.length-1-(m+1)]:=Qcw hi;have hgp:=Qc7 p (p.length-1-(m+1)) hi;have eix:(p.length:Int)-2-(m:Int)=((p.length-1-(m+1):Nat):Int):=by omega
     have ni:=nnT (p.length-1-(m+1));have x1:=hb _ (List.getElem_mem hi);have hc:(p[p.length-1-(m+1)]*d^(m+1)).natAbs<2^(64+(64*(m+1)+1)):=Qj6 x1 hpd1;have m1:=Qru (Qan x1 (by decide)) (Qan hpd1 (by omega)) (Qan hc (by omega));have h0n:0<(nxL out a b (m+1)).length:=by rw [Qdd];omega
     have hgn:=Qc7 (nxL out a b (m+1)) 0 h0n;have eg0:(nxL out a b (m+1)).getD 0 0=(nxL out a b (m+1))[0]:=Qcw h0n;have kN:((nxL out a b (m+1))[0]).natAbs<2^65536:=Qan (Zet hbo ha hbb (m+1) _ (List.getElem_mem h0n)) (by omega);have hsE:Qen p a b d (m+1)=(nxL out a b (m+1)).set 0 ((nxL out a b (m+1))[0]+p[p.length-1-(m+1)]*d^(m+1)):=by
      rw [hstepE,hstep,hol,eg0,egp]
     have kS:((nxL out a b (m+1))[0]+p[p.length-1-(m+1)]*d^(m+1)).natAbs<2^65536:=by
      have hmem:(nxL out a b (m+1))[0]+p[p.length-1-(m+1)]*d^(m+1)∈Qen p a b d (m+1):=by
       rw [hsE];exact List.mem_of_getElem? (i:=0) (by rw [List.getElem?_set_self h0n])
      have h:=Qpm hb ha hbb hd (m+1) _ hmem;exact Qan h (by omega)
     have m2:=Zey kN (Qan hc (by omega)) kS;have hs1:=Qk8 (nxL out a b (m+1)) 0 ((nxL out a b (m+1))[0]+p[p.length-1-(m+1)]*d^(m+1));rw [←hsE]at hs1;clear hsE kS kN hstepE eg0;generalize (nxL out a b (m+1))[0]+p[p.length-1-(m+1)]*d^(m+1)=N1 at*;generalize (nxL out a b (m+1))[0]=N0 at*;generalize p[p.length-1-(m+1)]*d^(m+1)=C0 at*;have h00:((0:Int)<((m+1+1:Nat):Int))=True:=eq_true (by omega);have wlast:IntKind.i64.wrap (((p.length-1-(m+1):Nat):Int)-1)=((p.length-1-(m+1):Nat):Int)-1:=Qah (by omega) (by omega);simp only [eix];generalize hXX:d^(m+1)=DM at*;repeat (first|(simp -implicitDefEqProofs only [go_sem,Nat.reduceAdd,Nat.reduceMul,Nat.reduceEqDiff,Nat.reduceLT,Nat.reduceLeDiff,Nat.reduceSub,Nat.reduceBEq,reduceIte,reduceCtorEq,Int.reduceEq,Int.reduceNe,Nat.reduceBneDiff,Int.reduceLE,Int.reduceLT,Int.reduceToNat,Int.reduceAdd,Int.reduceSub,Int.reduceMul,Int.reduceNeg,wL,wPV,hB',ni,h00,hgp,hgn,hs1,wlast,Int.toNat_natCast])|((with_reducible refine Qb7 m1 ?_ ?_ ?_ ?_);rfl;rfl;rfl)|((with_reducible refine Qb7 m2 ?_ ?_ ?_ ?_);rfl;rfl;rfl)|(with_reducible exact Qaa _ _ (by kernel_rfl))|(with_reducible refine And.intro (Qaa _ _ (by kernel_rfl)) ?_))
     refine⟨⟨m+1,hA⟩,by simp only;omega,Qas (θ:=[(0,0),(1,1),(2,2),(900,900),(7,1503),(1008,1008)]) rfl ?_ ?_⟩
     ·have:((p.length-1-(m+1):Nat):Int)-1=(p.length:Int)-2-((m+1:Nat):Int):=by omega
      simp [Qae,lkp,ren1,ren0,Qax,wL,this]
     ·simp only [hXX];exact⟨⟨rfl,rfl,rfl,rfl,rfl,.inr ⟨rfl,_,_,rfl,rfl,rfl,rfl⟩⟩,⟨rfl,rfl,rfl,rfl,rfl,.inr ⟨rfl,_,_,rfl,rfl,rfl,rfl⟩⟩,⟨rfl,rfl,rfl,rfl,rfl,.inr ⟨rfl,_,_,rfl,rfl,rfl,rfl⟩⟩,⟨rfl,rfl,rfl,rfl,rfl,.inr ⟨rfl,_,_,rfl,rfl,rfl,rfl⟩⟩,⟨rfl,rfl,rfl,rfl,rfl,.inl ⟨rfl,rfl⟩⟩,⟨rfl,rfl,rfl,rfl,rfl,.inr ⟨rfl,_,_,rfl,rfl,rfl,rfl⟩⟩,trivial⟩
  ·have hA':((0:Int)≤(p.length:Int)-2-(m:Int))=False:=eq_false (by omega);obtain rfl:m=p.length-1:=by omega
   have hdn:=Q2m (Qen p a b d (p.length-1)) (by omega) fun x hx=>Qan (hbo x hx) (by omega);rw [Qyd p a b d (by omega)]at hdn;have e2:((Qen p a b d (p.length-1)).map wPV).take (p.length-1+1)=(Qen p a b d (p.length-1)).map wPV:=List.take_of_length_le (by rw [List.length_map];omega);have e3:(p.length-1+1≤((Qen p a b d (p.length-1)).map wPV).length)=True:=eq_true (by rw [List.length_map];omega);have e4:(p.length-1+1≤(Qen p a b d (p.length-1)).length)=True:=eq_true (by omega);unfold wL at hdn ⊢;generalize Qen p a b d (p.length-1)=out at*;generalize Qc5 p a b d p.length=CC at*;repeat (first|(simp -implicitDefEqProofs only [go_sem,Nat.reduceAdd,Nat.reduceMul,Nat.reduceEqDiff,Nat.reduceLT,Nat.reduceLeDiff,Nat.reduceSub,Nat.reduceBEq,reduceIte,reduceCtorEq,Int.reduceEq,Int.reduceNe,Nat.reduceBneDiff,Int.reduceLE,Int.reduceLT,Int.reduceToNat,Int.reduceAdd,Int.reduceSub,Int.reduceMul,Int.reduceNeg,hA',e2,e3,e4,List.length_map])|((with_reducible refine Qb7 hdn ?_ ?_ ?_ ?_);rfl;rfl;rfl)|(with_reducible exact Qaa _ _ (by kernel_rfl))|(with_reducible refine And.intro (Qaa _ _ (by kernel_rfl)) ?_))
end Go.Proofs.YtobaaecbdlhpdaaGreat

namespace Go.Dg
theorem Q78 {g:Nat} (c:List Int) (h:0<g):0<gcdL g c:=by
 induction c generalizing g with
 |nil=>exact h
 |cons x c ih=>exact ih (g:=Nat.gcd g x.natAbs) (Nat.gcd_pos_of_pos_left _ h)
def mdG (L:Nat→List Int) (o:Int):Nat→Nat
 |0=>o.natAbs
 |i+1=>gcdL (mdG L o i) (L i)
theorem Qpn {L:Nat→List Int} {o:Int} (h:0<o): ∀i,0<mdG L o i
 |0=>by show 0<o.natAbs;omega
 |i+1=>Q78 _ (Qpn h i)
def mkC (G:Int) (p:List Int):List Int:=if p=[]then [0]else p.map (· /G)
def mdC (L:Nat→List Int) (o:Int) (i:Nat):List Int:=mkC (mdG L o 3:Int) (L i)
def mdO (L:Nat→List Int) (o:Int):Int:=o/(mdG L o 3:Int)
def Qrk (L:Nat→List Int) (o:Int):Bool:=decide (mdO L o≤4294967296)
def Qdo (f t:Int) (L:Nat→List Int) (o:Int):Sg:=⟨f,t,mdO L o,mdC L o 0,mdC L o 1,mdC L o 2⟩
def cmpC (c:List Int) (a b d:Int):List Int:=Qee (Qc5 (Qao c) a b d (Qao c).length) (d^(6-c.length))
def cmpL (s:Sg) (a b d:Int) (i:Nat):List Int:=cmpC (s.ax.getD i []) a b d
theorem Qoa {c:List Int} (h:1<c.length→c.getD (c.length-1) 0≠0) (h1:1≤c.length):Qao c=c∨c=[0]:=by
 obtain⟨n,hn⟩: ∃n,c.length=n+1:=⟨c.length-1,by omega⟩;have hlt:c.length-1<c.length:=by omega
 have hs:c=c.take (c.length-1)++[c[c.length-1]]:=by
  have:=List.take_append_getElem hlt;rw [show c.length-1+1=c.length by omega,List.take_length]at this;exact this.symm
 by_cases hz:c[c.length-1]=0
 ·by_cases h2:1<c.length
  ·exfalso;refine h h2 ?_;rw [List.getD_eq_getElem?_getD,List.getElem?_eq_getElem hlt];exact hz
  ·right;have e:c.length-1=0:=by omega
   rw [hz,e]at hs;simpa using hs
 ·left;rw [hs];exact Qje _ _ hz
end Go.Dg

namespace Go.Proofs.YtobaaecbdlhpdaaGreat
open Go.Vl Go.RowKit Go.Dg
theorem Zgy {c:List Int} {a b d:Int} (hc:c.length≤6):(cmpC c a b d).length≤6:=by
 unfold cmpC;exact Nat.le_trans (Qie _ _) (Nat.le_trans (Qdp _ _ _ _ _) (Nat.le_trans (Qbg c) hc))
theorem Qwr {c:List Int} {a b d:Int} (hc:c.length≤6) (hb:bd 64 c) (ha:a.natAbs<2^64) (hbb:b.natAbs<2^64) (hd:d.natAbs<2^64):
  bd (6000) (Qc5 (Qao c) a b d (Qao c).length)∧bd 12000 (cmpC c a b d):=by
 have hl:=Qbg c;have h1:=Qwm (Qes hb) ha hbb hd (show(Qao c).length≤30 by omega) (Qao c).length (Nat.le_refl _);have h2:bd 6000 (Qc5 (Qao c) a b d (Qao c).length):=Qly h1 (by omega);refine⟨h2,Qly (Qrh h2 (Qb3 hd (6-c.length))) (by have:=Nat.mul_le_mul_left 64 (show 6-c.length≤6 by omega);omega)⟩
end Go.Proofs.YtobaaecbdlhpdaaGreat

namespace Go.Proofs.YtobaaecbdlhpdaaGreat
open Go.Vl Go.RowKit Go.Dg
def cmV (C:Nat→List Int) (i m:Nat):PV:=if m<i then .slc ((C m).map wPV)else .nilS
set_option maxHeartbeats 2000000 in
theorem Qyi (s:Sg) (a b d:Int) (hs:okSg s) (h6: ∀c∈s.ax,c.length≤6) (ha:i64 a) (hb:i64 b) (hd:i64 d) (hd1:0<d):
  Qaf Tryz.prog 25 [sgPV s,.int .i64 a,.int .i64 b,.int .i64 d] (.agg [wL (cmpL s a b d 0),wL (cmpL s a b d 1),wL (cmpL s a b d 2)]):=by
 have hc:=hs.c;have ba:=Qbh ha;have bb:=Qbh hb;have bdd:=Qbh hd;have o1:=Qez a ha.1 ha.2;have o2:=Qez b hb.1 hb.2;have o3:=Qez d hd.1 hd.2;have hax:=Q2t s;have hsg:sgPV s= .agg [.int .i64 s.f,.int .i64 s.t,.int .i64 s.o,.slc (s.x.map (PV.int .i64)),.slc (s.y.map (PV.int .i64)),.slc (s.z.map (PV.int .i64))]:=rfl;rw [hsg]at hax ⊢;unfold wL;refine Qac (tb:=[]) 49 [.cell 8 63] [0,1,2,3,4,8,9,10,11,14,15,16] mixed Tryz.func25 rfl (by kernel_rfl) (by kernel_rfl) (by kernel_rfl) (by kernel_rfl) ?_;repeat (first|(simp -implicitDefEqProofs only [go_sem,Nat.reduceAdd,Nat.reduceMul,Nat.reduceEqDiff,Nat.reduceLT,Nat.reduceLeDiff,Nat.reduceSub,Nat.reduceBEq,reduceIte,reduceCtorEq,Int.reduceEq,Int.reduceNe,Nat.reduceBneDiff,Int.reduceLE,Int.reduceLT,Int.reduceToNat,Int.reduceAdd,Int.reduceSub,Int.reduceMul,Int.reduceNeg,if_true])|((with_reducible refine Qab hax ?_ ?_ ?_);rfl;rfl))
 refine Qa4 mixed (fun i:{i:Nat // i≤3}=>St.of [(1,.int .i64 a),(2,.int .i64 b),(3,.int .i64 d),(4,.bp 0 6 0 0),(8,.bp 1 3 0 0),(14,.agg [Qa2 s.x,Qa2 s.y,Qa2 s.z]),(15,.int .i64 (i.1:Int))]
  [(0,{els:=[sgPV s],esz:=6,ety:=46,fro:=0,live:=true,arr:=false}),(1,{els:=[.agg [cmV (cmpL s a b d) i.1 0,cmV (cmpL s a b d) i.1 1,cmV (cmpL s a b d) i.1 2]],esz:=3,ety:=63,fro:=0,live:=true,arr:=false})]) (fun i=>3-i.1) ⟨0,Nat.zero_le _⟩ ?_ ?_
 ·refine Qas (θ:=[(0,0),(1,1)]) rfl ?_ ?_
  ·simp [Qae,lkp,ren1,ren0,Qax,Qa2]
  ·exact⟨⟨rfl,rfl,rfl,rfl,rfl,.inr ⟨rfl,_,_,rfl,rfl,rfl,rfl⟩⟩,⟨rfl,rfl,rfl,rfl,rfl,.inr ⟨rfl,_,_,rfl,rfl,rfl,rfl⟩⟩,trivial⟩
 ·rintro⟨i,hi⟩;by_cases hA:i<3
  ·have hA':((i:Int)<3)=True:=eq_true (by omega);have hx:=Quc s i hA;rcases(show i=0∨i=1∨i=2 by omega)with hi0|hi0|hi0
   ·skip
    obtain rfl:i=0:=hi0;have hcx:=hc (s.ax[0]) (List.getElem_mem hA);have hlx:=h6 (s.ax[0]) (List.getElem_mem hA);have hCC:cmpL s a b d 0=cmpC (s.ax[0]'hA) a b d:=rfl;generalize s.ax[0]'hA=c at*;have hcb:bd 64 c:=fun x hx=>Qbh (hcx x hx);have f1:=Zgx c (by omega) hcx;have okp:=Qdf (l:=c) (fun x hx=>Qan (hcb x hx) (by decide)) (by omega);have hlt:=Qbg c;have f2:=Qji (Qao c) a b d okp (by omega) (Qes hcb) ba bb bdd hd1;have w6:IntKind.i64.wrap (6-(c.length:Int))=((6-c.length:Nat):Int):=by rw [Qah (by omega) (by omega)];omega
    have f3:=Qdj d (6-c.length) 64 hd.1 hd.2 (by omega) (by decide) bdd;obtain⟨k1,k2⟩:=Qwr hlx hcb ba bb bdd;have okc:okPoly (Qc5 (Qao c) a b d (Qao c).length):=by
     have h:=Qdf (l:=Qc5 (Qao c) a b d (Qao c).length) (fun x hx=>Qan (k1 x hx) (by decide)) (by have:=Qdp (Qao c) a b d (Qao c).length;omega)
     rwa [Qg4]at h
    have hpw:(d^(6-c.length)).natAbs<2^6000:=Qhu (C:=6000) (Qb3 bdd (6-c.length)) (by have:=Nat.mul_le_mul_left 64 (show 6-c.length≤6 by omega);omega);have f4:=Ql5 _ (d^(6-c.length)) 6000 (by decide) okc k1 hpw;have eC:Qee (Qc5 (Qao c) a b d (Qao c).length) (d^(6-c.length))=cmpC c a b d:=rfl;rw [eC,←hCC]at f4;clear eC hCC okc okp k1 k2 hpw;unfold wL at f1 f2 f4;unfold Qa2 at f1;generalize Qc5 (Qao c) a b d (Qao c).length=X1 at*;generalize Qao c=X2 at*;generalize d^(6-c.length)=X3 at*;repeat (first|(simp -implicitDefEqProofs only [go_sem,Nat.reduceAdd,Nat.reduceMul,Nat.reduceEqDiff,Nat.reduceLT,Nat.reduceLeDiff,Nat.reduceSub,Nat.reduceBEq,reduceIte,reduceCtorEq,Int.reduceEq,Int.reduceNe,Nat.reduceBneDiff,Int.reduceLE,Int.reduceLT,Int.reduceToNat,Int.reduceAdd,Int.reduceSub,Int.reduceMul,Int.reduceNeg,hA',hx,wPV,w6,cmV,Nat.reduceLT,Int.toNat_natCast,List.length_map])|((with_reducible refine Qab f1 ?_ ?_ ?_);rfl;rfl)|((with_reducible refine Qab o1 ?_ ?_ ?_);rfl;rfl)|((with_reducible refine Qab o2 ?_ ?_ ?_);rfl;rfl)|((with_reducible refine Qab o3 ?_ ?_ ?_);rfl;rfl)|((with_reducible refine Qab f2 ?_ ?_ ?_);rfl;rfl)|((with_reducible refine Qab f3 ?_ ?_ ?_);rfl;rfl)|((with_reducible refine Qab f4 ?_ ?_ ?_);rfl;rfl))
    refine⟨⟨0+1,hA⟩,by simp only;omega,Qas (θ:=[(0,0),(1,1)]) rfl ?_ ?_⟩
    ·simp [Qae,lkp,ren1,ren0,Qax,Qa2]
    ·exact⟨⟨rfl,rfl,rfl,rfl,rfl,.inr ⟨rfl,_,_,rfl,rfl,rfl,rfl⟩⟩,⟨rfl,rfl,rfl,rfl,rfl,.inr ⟨rfl,_,_,rfl,rfl,rfl,rfl⟩⟩,trivial⟩
   ·skip
    obtain rfl:i=1:=hi0;have hcx:=hc (s.ax[1]) (List.getElem_mem hA);have hlx:=h6 (s.ax[1]) (List.getElem_mem hA);have hCC:cmpL s a b d 1=cmpC (s.ax[1]'hA) a b d:=rfl;generalize s.ax[1]'hA=c at*;have hcb:bd 64 c:=fun x hx=>Qbh (hcx x hx);have f1:=Zgx c (by omega) hcx;have okp:=Qdf (l:=c) (fun x hx=>Qan (hcb x hx) (by decide)) (by omega);have hlt:=Qbg c;have f2:=Qji (Qao c) a b d okp (by omega) (Qes hcb) ba bb bdd hd1;have w6:IntKind.i64.wrap (6-(c.length:Int))=((6-c.length:Nat):Int):=by rw [Qah (by omega) (by omega)];omega
    have f3:=Qdj d (6-c.length) 64 hd.1 hd.2 (by omega) (by decide) bdd;obtain⟨k1,k2⟩:=Qwr hlx hcb ba bb bdd;have okc:okPoly (Qc5 (Qao c) a b d (Qao c).length):=by
     have h:=Qdf (l:=Qc5 (Qao c) a b d (Qao c).length) (fun x hx=>Qan (k1 x hx) (by decide)) (by have:=Qdp (Qao c) a b d (Qao c).length;omega)
     rwa [Qg4]at h
    have hpw:(d^(6-c.length)).natAbs<2^6000:=Qhu (C:=6000) (Qb3 bdd (6-c.length)) (by have:=Nat.mul_le_mul_left 64 (show 6-c.length≤6 by omega);omega);have f4:=Ql5 _ (d^(6-c.length)) 6000 (by decide) okc k1 hpw;have eC:Qee (Qc5 (Qao c) a b d (Qao c).length) (d^(6-c.length))=cmpC c a b d:=rfl;rw [eC,←hCC]at f4;clear eC hCC okc okp k1 k2 hpw;unfold wL at f1 f2 f4;unfold Qa2 at f1;generalize Qc5 (Qao c) a b d (Qao c).length=X1 at*;generalize Qao c=X2 at*;generalize d^(6-c.length)=X3 at*;repeat (first|(simp -implicitDefEqProofs only [go_sem,Nat.reduceAdd,Nat.reduceMul,Nat.reduceEqDiff,Nat.reduceLT,Nat.reduceLeDiff,Nat.reduceSub,Nat.reduceBEq,reduceIte,reduceCtorEq,Int.reduceEq,Int.reduceNe,Nat.reduceBneDiff,Int.reduceLE,Int.reduceLT,Int.reduceToNat,Int.reduceAdd,Int.reduceSub,Int.reduceMul,Int.reduceNeg,hA',hx,wPV,w6,cmV,Nat.reduceLT,Int.toNat_natCast,List.length_map])|((with_reducible refine Qab f1 ?_ ?_ ?_);rfl;rfl)|((with_reducible refine Qab o1 ?_ ?_ ?_);rfl;rfl)|((with_reducible refine Qab o2 ?_ ?_ ?_);rfl;rfl)|((with_reducible refine Qab o3 ?_ ?_ ?_);rfl;rfl)|((with_reducible refine Qab f2 ?_ ?_ ?_);rfl;rfl)|((with_reducible refine Qab f3 ?_ ?_ ?_);rfl;rfl)|((with_reducible refine Qab f4 ?_ ?_ ?_);rfl;rfl))
    refine⟨⟨1+1,hA⟩,by simp only;omega,Qas (θ:=[(0,0),(1,1)]) rfl ?_ ?_⟩
    ·simp [Qae,lkp,ren1,ren0,Qax,Qa2]
    ·exact⟨⟨rfl,rfl,rfl,rfl,rfl,.inr ⟨rfl,_,_,rfl,rfl,rfl,rfl⟩⟩,⟨rfl,rfl,rfl,rfl,rfl,.inr ⟨rfl,_,_,rfl,rfl,rfl,rfl⟩⟩,trivial⟩
   ·skip
    obtain rfl:i=2:=hi0;have hcx:=hc (s.ax[2]) (List.getElem_mem hA);have hlx:=h6 (s.ax[2]) (List.getElem_mem hA);have hCC:cmpL s a b d 2=cmpC (s.ax[2]'hA) a b d:=rfl;generalize s.ax[2]'hA=c at*;have hcb:bd 64 c:=fun x hx=>Qbh (hcx x hx);have f1:=Zgx c (by omega) hcx;have okp:=Qdf (l:=c) (fun x hx=>Qan (hcb x hx) (by decide)) (by omega);have hlt:=Qbg c;have f2:=Qji (Qao c) a b d okp (by omega) (Qes hcb) ba bb bdd hd1;have w6:IntKind.i64.wrap (6-(c.length:Int))=((6-c.length:Nat):Int):=by rw [Qah (by omega) (by omega)];omega
    have f3:=Qdj d (6-c.length) 64 hd.1 hd.2 (by omega) (by decide) bdd;obtain⟨k1,k2⟩:=Qwr hlx hcb ba bb bdd;have okc:okPoly (Qc5 (Qao c) a b d (Qao c).length):=by
     have h:=Qdf (l:=Qc5 (Qao c) a b d (Qao c).length) (fun x hx=>Qan (k1 x hx) (by decide)) (by have:=Qdp (Qao c) a b d (Qao c).length;omega)
     rwa [Qg4]at h
    have hpw:(d^(6-c.length)).natAbs<2^6000:=Qhu (C:=6000) (Qb3 bdd (6-c.length)) (by have:=Nat.mul_le_mul_left 64 (show 6-c.length≤6 by omega);omega);have f4:=Ql5 _ (d^(6-c.length)) 6000 (by decide) okc k1 hpw;have eC:Qee (Qc5 (Qao c) a b d (Qao c).length) (d^(6-c.length))=cmpC c a b d:=rfl;rw [eC,←hCC]at f4;clear eC hCC okc okp k1 k2 hpw;unfold wL at f1 f2 f4;unfold Qa2 at f1;generalize Qc5 (Qao c) a b d (Qao c).length=X1 at*;generalize Qao c=X2 at*;generalize d^(6-c.length)=X3 at*;repeat (first|(simp -implicitDefEqProofs only [go_sem,Nat.reduceAdd,Nat.reduceMul,Nat.reduceEqDiff,Nat.reduceLT,Nat.reduceLeDiff,Nat.reduceSub,Nat.reduceBEq,reduceIte,reduceCtorEq,Int.reduceEq,Int.reduceNe,Nat.reduceBneDiff,Int.reduceLE,Int.reduceLT,Int.reduceToNat,Int.reduceAdd,Int.reduceSub,Int.reduceMul,Int.reduceNeg,hA',hx,wPV,w6,cmV,Nat.reduceLT,Int.toNat_natCast,List.length_map])|((with_reducible refine Qab f1 ?_ ?_ ?_);rfl;rfl)|((with_reducible refine Qab o1 ?_ ?_ ?_);rfl;rfl)|((with_reducible refine Qab o2 ?_ ?_ ?_);rfl;rfl)|((with_reducible refine Qab o3 ?_ ?_ ?_);rfl;rfl)|((with_reducible refine Qab f2 ?_ ?_ ?_);rfl;rfl)|((with_reducible refine Qab f3 ?_ ?_ ?_);rfl;rfl)|((with_reducible refine Qab f4 ?_ ?_ ?_);rfl;rfl))
    refine⟨⟨2+1,hA⟩,by simp only;omega,Qas (θ:=[(0,0),(1,1)]) rfl ?_ ?_⟩
    ·simp [Qae,lkp,ren1,ren0,Qax,Qa2]
    ·exact⟨⟨rfl,rfl,rfl,rfl,rfl,.inr ⟨rfl,_,_,rfl,rfl,rfl,rfl⟩⟩,⟨rfl,rfl,rfl,rfl,rfl,.inr ⟨rfl,_,_,rfl,rfl,rfl,rfl⟩⟩,trivial⟩
  ·have hA':((i:Int)<3)=False:=eq_false (by omega);obtain rfl:i=3:=by omega
   have z0:cmV (cmpL s a b d) 3 0= .slc ((cmpL s a b d 0).map wPV):=rfl;have z1:cmV (cmpL s a b d) 3 1= .slc ((cmpL s a b d 1).map wPV):=rfl;have z2:cmV (cmpL s a b d) 3 2= .slc ((cmpL s a b d 2).map wPV):=rfl;simp only [z0,z1,z2];repeat (first|(simp -implicitDefEqProofs only [go_sem,Nat.reduceAdd,Nat.reduceMul,Nat.reduceEqDiff,Nat.reduceLT,Nat.reduceLeDiff,Nat.reduceSub,Nat.reduceBEq,reduceIte,reduceCtorEq,Int.reduceEq,Int.reduceNe,Nat.reduceBneDiff,Int.reduceLE,Int.reduceLT,Int.reduceToNat,Int.reduceAdd,Int.reduceSub,Int.reduceMul,Int.reduceNeg,hA']))
end Go.Proofs.YtobaaecbdlhpdaaGreat
