/-
  TM16, Dsn, TM17, UYG, Dso, TM18, TM19, TM20, TM21, TM22, TM23, TM24, TM25 (merged for the claim).
-/
import Derived.Test.YtobaaecbdlhpdaaGreatTM15
import Derived.Test.YtobaaecbdlhpdaaGreatUZ
set_option linter.unusedSimpArgs false
set_option linter.unusedVariables false
namespace Go.Proofs.YtobaaecbdlhpdaaGreat
open Go.Vl Go.RowKit Go.Dg
theorem T_zp:Qa7 Tryz.prog 92=none:=by kernel_rfl
theorem T_zu:Q5m Tryz.prog 92=some (.agg [.undef,.undef,.undef]):=by kernel_rfl
theorem Zqa (L:Nat→List Int) (i:Nat) (h:i<3):([.slc ((L 0).map wPV),.slc ((L 1).map wPV),.slc ((L 2).map wPV)]:List PV)[i*1]? =some (.slc ((L i).map wPV)):=by
 rcases(show i=0∨i=1∨i=2 by omega)with rfl|rfl|rfl<;>rfl
theorem Zez {L:Nat→List Int} {o:Int} {B:Nat} (ho:o.natAbs<2^B) (hL: ∀i,i<3→bd B (L i)): ∀i,i≤3→mdG L o i<2^B
 |0,_=>ho
 |i+1,h=>Qjf _ (Zez ho hL i (by omega)) (hL i (by omega))
def mdV (C:Nat→List Int) (i m:Nat):PV:=if m<i then .bs (8+m) 1 0 (C m).length else .nilS
def mdB (ety:Nat) (C:Nat→List Int):Nat→List (Nat×Box)
 |0=>[]
 |1=>[(8,{els:=(C 0).map (PV.int .i64),esz:=1,ety:=ety,fro:=0,live:=true,arr:=true})]
 |2=>[(8,{els:=(C 0).map (PV.int .i64),esz:=1,ety:=ety,fro:=0,live:=true,arr:=true}),(9,{els:=(C 1).map (PV.int .i64),esz:=1,ety:=ety,fro:=0,live:=true,arr:=true})]
 |_=>[(8,{els:=(C 0).map (PV.int .i64),esz:=1,ety:=ety,fro:=0,live:=true,arr:=true}),(9,{els:=(C 1).map (PV.int .i64),esz:=1,ety:=ety,fro:=0,live:=true,arr:=true}),(10,{els:=(C 2).map (PV.int .i64),esz:=1,ety:=ety,fro:=0,live:=true,arr:=true})]
theorem Qps (l:List Int):(((l.map (PV.int .i64)).flatMap PV.cells).all PV.okCell)=true:=by
 rw [List.all_flatMap,List.all_map,List.all_eq_true];intro _ _;rfl
abbrev iT:Nat:=3
def mdW (C:Nat→List Int) (i:Nat) (X:PV) (m:Nat):PV:=if m=i then X else mdV C i m
set_option maxHeartbeats 4000000 in
theorem Zgz (f t:Int) (L:Nat→List Int) (o:Int) (B:Nat) (hB:B≤60000) (ho:0<o) (hob:o.natAbs<2^B) (hL: ∀i,i<3→bd B (L i)) (hl: ∀i,i<3→(L i).length≤100)
  (hq:Qrk L o=true→ ∀i,i<3→ ∀x∈L i,(x/(mdG L o 3:Int)).natAbs≤4611686018427387904):
  Qaf Tryz.prog 24 [.int .i64 f,.int .i64 t,.agg [wL (L 0),wL (L 1),wL (L 2)],wPV o]
   (if Qrk L o=true then .tup [sgPV (Qdo f t L o),.bool true]else .tup [sgPV ⟨f,t,0,[],[],[]⟩,.bool false]):=by
 have hG:=Zez hob hL;have hGp:=Qpn (L:=L) ho;have hO0:((mdG L o 0:Nat):Int)=o:=by show((o.natAbs:Nat):Int)=o;omega
 have o3:=Qez 4294967296 (by decide) (by decide);have hg3:((mdG L o 3:Nat):Int).natAbs<2^B:=by rw [Int.natAbs_natCast];exact hG 3 (by decide)
 have qO:=Qih hob (by omega) (Qoc hg3 (by omega)) (show(0:Int)<((mdG L o 3:Nat):Int)by have:=hGp 3;omega);have hOe:o/((mdG L o 3:Nat):Int)=mdO L o:=rfl;rw [hOe]at qO;have hOb:(mdO L o).natAbs<2^(B+1):=Q2u hob (by have:=hGp 3;omega);have cmO:=Qoe (Qan hOb (by omega)) (Qan (show(4294967296:Int).natAbs<2^64 by decide) (by decide));unfold wL;refine Qac (tb:=[]) 98 [.cell 8 46,.tmp 9] [0,1,2,3,6,7,8,9,10,12,14,15,16,17,18,20,21,24,25,26,28,29,30,31,48,59,60,61,66,67,68,69,92] mixed Tryz.func24 rfl (by kernel_rfl) (by kernel_rfl) (by kernel_rfl) (by kernel_rfl) ?_;repeat (first|(simp -implicitDefEqProofs only [go_sem,Nat.reduceAdd,Nat.reduceMul,Nat.reduceEqDiff,Nat.reduceLT,Nat.reduceLeDiff,Nat.reduceSub,Nat.reduceBEq,reduceIte,reduceCtorEq,Int.reduceEq,Int.reduceNe,Nat.reduceBneDiff,Int.reduceLE,Int.reduceLT,Int.reduceToNat,Int.reduceAdd,Int.reduceSub,Int.reduceMul,Int.reduceNeg,T_zp,T_zu,wPV,if_true,Qdo])|(with_reducible exact Qaa _ _ (by kernel_rfl))|(with_reducible refine And.intro (Qaa _ _ (by kernel_rfl)) ?_))
 refine Qa4 mixed (fun i:{i:Nat // i≤3}=>St.of [(0,.int .i64 f),(1,.int .i64 t),(6,.bp 0 3 0 0),(7,.bp 1 2 0 0),(8,.bp 2 6 0 0),(10,.bp 101 2 0 0),(24,.agg [wL (L 0),wL (L 1),wL (L 2)]),(25,.int .i64 (i.1:Int))]
  [(0,{els:=[.agg [wL (L 0),wL (L 1),wL (L 2)]],esz:=3,ety:=63,fro:=0,live:=true,arr:=false}),(1,{els:=[wPV o],esz:=2,ety:=66,fro:=0,live:=true,arr:=false}),(2,{els:=[.agg [.int .i64 0,.int .i64 0,.int .i64 0,.nilS,.nilS,.nilS]],esz:=6,ety:=46,fro:=0,live:=true,arr:=false}),(101,{els:=[wPV ((mdG L o i.1:Nat):Int)],esz:=2,ety:=66,fro:=0,live:=true,arr:=false})]) (fun i=>3-i.1) ⟨0,Nat.zero_le _⟩ ?_ ?_
 ·refine Qas (θ:=[(0,0),(1,1),(2,2),(101,101)]) rfl ?_ ?_
  ·simp [Qae,lkp,ren1,ren0,Qax,wL]
  ·refine⟨⟨rfl,rfl,rfl,rfl,rfl,.inr ⟨rfl,_,_,rfl,rfl,rfl,rfl⟩⟩,⟨rfl,rfl,rfl,rfl,rfl,.inr ⟨rfl,_,_,rfl,rfl,rfl,rfl⟩⟩,⟨rfl,rfl,rfl,rfl,rfl,.inr ⟨rfl,_,_,rfl,rfl,rfl,rfl⟩⟩,⟨rfl,rfl,rfl,rfl,rfl,.inr ⟨rfl,_,_,rfl,rfl,?_,rfl⟩⟩,trivial⟩;simp only [hO0];rfl
 ·rintro⟨i,hi⟩;by_cases hA:i<3
  ·have hA':((i:Int)<3)=True:=eq_true (by omega);have hA2:=ltT hA;have n0:=nnT i;have hx:=Zqa L i hA;have hwk:=Qak (a:=i) (by omega);have hLi:=hL i hA;have hli:=hl i hA;have hGi:=hG i (by omega);have hGs:mdG L o (i+1)=gcdL (mdG L o i) (L i):=rfl;generalize hC:L i=c at*;generalize mdG L o i=Y0 at*;repeat (first|(simp -implicitDefEqProofs only [go_sem,Nat.reduceAdd,Nat.reduceMul,Nat.reduceEqDiff,Nat.reduceLT,Nat.reduceLeDiff,Nat.reduceSub,Nat.reduceBEq,reduceIte,reduceCtorEq,Int.reduceEq,Int.reduceNe,Nat.reduceBneDiff,Int.reduceLE,Int.reduceLT,Int.reduceToNat,Int.reduceAdd,Int.reduceSub,Int.reduceMul,Int.reduceNeg,T_zp,T_zu,wL,hA',hA2,n0,hx,Int.toNat_natCast,List.length_map])|(with_reducible exact Qaa _ _ (by kernel_rfl))|(with_reducible refine And.intro (Qaa _ _ (by kernel_rfl)) ?_))
   refine Qa4 mixed (fun k:{k:Nat // k≤c.length}=>St.of [(0,.int .i64 f),(1,.int .i64 t),(6,.bp 0 3 0 0),(7,.bp 1 2 0 0),(8,.bp 2 6 0 0),(10,.bp 101 2 0 0),(24,.agg [wL (L 0),wL (L 1),wL (L 2)]),(25,.int .i64 (i:Int)),(28,wL c),(29,.int .i64 (c.length:Int)),(30,.int .i64 (k.1:Int))]
    [(0,{els:=[.agg [wL (L 0),wL (L 1),wL (L 2)]],esz:=3,ety:=63,fro:=0,live:=true,arr:=false}),(1,{els:=[wPV o],esz:=2,ety:=66,fro:=0,live:=true,arr:=false}),(2,{els:=[.agg [.int .i64 0,.int .i64 0,.int .i64 0,.nilS,.nilS,.nilS]],esz:=6,ety:=46,fro:=0,live:=true,arr:=false}),(101,{els:=[wPV ((gcdL Y0 (c.take k.1):Nat):Int)],esz:=2,ety:=66,fro:=0,live:=true,arr:=false})]) (fun k=>c.length-k.1) ⟨0,Nat.zero_le _⟩ ?_ ?_
   ·refine Qas (θ:=[(0,0),(1,1),(2,2),(101,101)]) rfl ?_ ?_
    ·simp [Qae,lkp,ren1,ren0,Qax,wL]
    ·exact⟨⟨rfl,rfl,rfl,rfl,rfl,.inr ⟨rfl,_,_,rfl,rfl,rfl,rfl⟩⟩,⟨rfl,rfl,rfl,rfl,rfl,.inr ⟨rfl,_,_,rfl,rfl,rfl,rfl⟩⟩,⟨rfl,rfl,rfl,rfl,rfl,.inr ⟨rfl,_,_,rfl,rfl,rfl,rfl⟩⟩,⟨rfl,rfl,rfl,rfl,rfl,.inr ⟨rfl,_,_,rfl,rfl,rfl,rfl⟩⟩,trivial⟩
   ·rintro⟨k,hk⟩;by_cases hB':k<c.length
    ·have hB2:=ltT hB';have n1:=nnT k;have hgk:=Qc7 c k hB';have hwk2:=Qak (a:=k) (by omega);have x1:=hLi _ (List.getElem_mem hB');have x2:((gcdL Y0 (c.take k):Nat):Int).natAbs<2^B:=by rw [Int.natAbs_natCast];exact Qjf _ hGi fun x hx=>hLi x (List.mem_of_mem_take hx)
     have m:=Qob (Qan x2 (by omega)) (Qan x1 (by omega));rw [Int.natAbs_natCast,←Qif,←Qca c k hB']at m;generalize hX:gcdL Y0 (c.take (k+1))=X at*;generalize gcdL Y0 (c.take k)=Y at*;repeat (first|(simp -implicitDefEqProofs only [go_sem,Nat.reduceAdd,Nat.reduceMul,Nat.reduceEqDiff,Nat.reduceLT,Nat.reduceLeDiff,Nat.reduceSub,Nat.reduceBEq,reduceIte,reduceCtorEq,Int.reduceEq,Int.reduceNe,Nat.reduceBneDiff,Int.reduceLE,Int.reduceLT,Int.reduceToNat,Int.reduceAdd,Int.reduceSub,Int.reduceMul,Int.reduceNeg,T_zp,T_zu,wL,wPV,hB2,n1,hgk,hwk2,Int.toNat_natCast])|((with_reducible refine Qab m ?_ ?_ ?_);rfl;rfl)|(with_reducible exact Qaa _ _ (by kernel_rfl))|(with_reducible refine And.intro (Qaa _ _ (by kernel_rfl)) ?_))
     refine⟨⟨k+1,hB'⟩,by simp only;omega,Qas (θ:=[(0,0),(1,1),(2,2),(101,101)]) rfl ?_ ?_⟩
     ·simp [Qae,lkp,ren1,ren0,Qax,wL]
     ·simp only [hX];exact⟨⟨rfl,rfl,rfl,rfl,rfl,.inr ⟨rfl,_,_,rfl,rfl,rfl,rfl⟩⟩,⟨rfl,rfl,rfl,rfl,rfl,.inr ⟨rfl,_,_,rfl,rfl,rfl,rfl⟩⟩,⟨rfl,rfl,rfl,rfl,rfl,.inr ⟨rfl,_,_,rfl,rfl,rfl,rfl⟩⟩,⟨rfl,rfl,rfl,rfl,rfl,.inr ⟨rfl,_,_,rfl,rfl,rfl,rfl⟩⟩,trivial⟩
    ·have hB2:=ltF hB';obtain rfl:k=c.length:=by omega
     repeat (first|(simp -implicitDefEqProofs only [go_sem,Nat.reduceAdd,Nat.reduceMul,Nat.reduceEqDiff,Nat.reduceLT,Nat.reduceLeDiff,Nat.reduceSub,Nat.reduceBEq,reduceIte,reduceCtorEq,Int.reduceEq,Int.reduceNe,Nat.reduceBneDiff,Int.reduceLE,Int.reduceLT,Int.reduceToNat,Int.reduceAdd,Int.reduceSub,Int.reduceMul,Int.reduceNeg,T_zp,T_zu,hB2,hwk])|(with_reducible exact Qaa _ _ (by kernel_rfl))|(with_reducible refine And.intro (Qaa _ _ (by kernel_rfl)) ?_))
     refine⟨⟨i+1,hA⟩,by simp only;omega,Qas (θ:=[(0,0),(1,1),(2,2),(101,101)]) rfl ?_ ?_⟩
     ·simp [Qae,lkp,ren1,ren0,Qax,wL]
     ·simp only [hGs];rw [List.take_length];exact⟨⟨rfl,rfl,rfl,rfl,rfl,.inr ⟨rfl,_,_,rfl,rfl,rfl,rfl⟩⟩,⟨rfl,rfl,rfl,rfl,rfl,.inr ⟨rfl,_,_,rfl,rfl,rfl,rfl⟩⟩,⟨rfl,rfl,rfl,rfl,rfl,.inr ⟨rfl,_,_,rfl,rfl,rfl,rfl⟩⟩,⟨rfl,rfl,rfl,rfl,rfl,.inr ⟨rfl,_,_,rfl,rfl,rfl,rfl⟩⟩,trivial⟩
  ·have hA':((i:Int)<3)=False:=eq_false (by omega);obtain rfl:i=3:=by omega
   simp only;by_cases hf:mdO L o≤4294967296
   case neg=>
    have hF:Qrk L o=false:=decide_eq_false hf;have hs:((0:Int)<(mdO L o-4294967296).sign)=True:=eq_true (Int.sign_pos_iff.2 (by omega));rw [hF];generalize mdO L o=OO at*;generalize ((mdG L o 3:Nat):Int)=G at*;repeat (first|(simp -implicitDefEqProofs only [go_sem,Nat.reduceAdd,Nat.reduceMul,Nat.reduceEqDiff,Nat.reduceLT,Nat.reduceLeDiff,Nat.reduceSub,Nat.reduceBEq,reduceIte,reduceCtorEq,Int.reduceEq,Int.reduceNe,Nat.reduceBneDiff,Int.reduceLE,Int.reduceLT,Int.reduceToNat,Int.reduceAdd,Int.reduceSub,Int.reduceMul,Int.reduceNeg,T_zp,T_zu,wL,wPV,hA',hs,Bool.false_eq_true,List.map_nil])|((with_reducible refine Qab qO ?_ ?_ ?_);rfl;rfl)|((with_reducible refine Qab o3 ?_ ?_ ?_);rfl;rfl)|((with_reducible refine Qab cmO ?_ ?_ ?_);rfl;rfl)|(with_reducible exact Qaa _ _ (by kernel_rfl))|(with_reducible refine And.intro (Qaa _ _ (by kernel_rfl)) ?_))
   have hF:Qrk L o=true:=decide_eq_true hf;have hs:((0:Int)<(mdO L o-4294967296).sign)=False:=eq_false (by have:=Int.sign_nonpos_iff.2 (show mdO L o-4294967296≤0 by omega);omega);have hO1:0≤mdO L o:=Int.ediv_nonneg (by omega) (by omega);have ii:Qdh (mdO L o)= .tup [.int .i64 (mdO L o),.int .i64 0]:=by unfold Qdh;rw [if_pos (by omega)]
   have wi:=Qmb (Qan hOb (by omega));rw [ii]at wi;rw [hF];have hqq:=hq hF;have hqs: ∀i,i<3→ ∀x∈L i,Qaf Tryz.prog 29 [wPV x,wPV ((mdG L o 3:Nat):Int)] (wPV (x/((mdG L o 3:Nat):Int))):=fun i h x hx=>Qih (hL i h x hx) (by omega) (Qoc hg3 (by omega)) (by have:=hGp 3;omega);have hCd: ∀i,mdC L o i=mkC ((mdG L o 3:Nat):Int) (L i):=fun _=>rfl;rw [if_pos rfl];generalize mdO L o=OO at*;generalize mdC L o=C at*;generalize ((mdG L o 3:Nat):Int)=G at*;have hs':=hs;clear hO0 hOe hGp hG ho hob hO1 hOb ii hs hF hf hq;repeat (first|(simp -implicitDefEqProofs only [go_sem,Nat.reduceAdd,Nat.reduceMul,Nat.reduceEqDiff,Nat.reduceLT,Nat.reduceLeDiff,Nat.reduceSub,Nat.reduceBEq,reduceIte,reduceCtorEq,Int.reduceEq,Int.reduceNe,Nat.reduceBneDiff,Int.reduceLE,Int.reduceLT,Int.reduceToNat,Int.reduceAdd,Int.reduceSub,Int.reduceMul,Int.reduceNeg,T_zp,T_zu,wL,wPV,hA',hs',List.map_nil])|((with_reducible refine Qab qO ?_ ?_ ?_);rfl;rfl)|((with_reducible refine Qab o3 ?_ ?_ ?_);rfl;rfl)|((with_reducible refine Qab cmO ?_ ?_ ?_);rfl;rfl)|((with_reducible refine Qab wi ?_ ?_ ?_);rfl;rfl)|(with_reducible exact Qaa _ _ (by kernel_rfl))|(with_reducible refine And.intro (Qaa _ _ (by kernel_rfl)) ?_))
   refine Qa4 mixed (fun i:{i:Nat // i≤3}=>St.of [(6,.bp 0 3 0 0),(8,.bp 2 6 0 0),(10,.bp 101 2 0 0),(15,.bp 1103 6 0 0),(59,.agg [.bp 1103 6 0 3,.bp 1103 6 0 4,.bp 1103 6 0 5]),(60,.int .i64 (i.1:Int))]
    ((0,{els:=[.agg [wL (L 0),wL (L 1),wL (L 2)]],esz:=3,ety:=63,fro:=0,live:=true,arr:=false})::(2,{els:=[.agg [.int .i64 0,.int .i64 0,.int .i64 0,.nilS,.nilS,.nilS]],esz:=6,ety:=46,fro:=0,live:=true,arr:=false})::(101,{els:=[wPV G],esz:=2,ety:=66,fro:=0,live:=true,arr:=false})::(1103,{els:=[.agg [.int .i64 f,.int .i64 t,.int .i64 OO,mdV C i.1 0,mdV C i.1 1,mdV C i.1 2]],esz:=6,ety:=46,fro:=0,live:=true,arr:=false})::mdB iT C i.1)) (fun i=>3-i.1) ⟨0,Nat.zero_le _⟩ ?_ ?_
   ·refine Qas (θ:=[(0,0),(2,2),(101,101),(1103,1103)]) rfl ?_ ?_
    ·simp [Qae,lkp,ren1,ren0,Qax]
    ·exact⟨⟨rfl,rfl,rfl,rfl,rfl,.inr ⟨rfl,_,_,rfl,rfl,rfl,rfl⟩⟩,⟨rfl,rfl,rfl,rfl,rfl,.inr ⟨rfl,_,_,rfl,rfl,rfl,rfl⟩⟩,⟨rfl,rfl,rfl,rfl,rfl,.inr ⟨rfl,_,_,rfl,rfl,rfl,rfl⟩⟩,⟨rfl,rfl,rfl,rfl,rfl,.inr ⟨rfl,_,_,rfl,rfl,rfl,rfl⟩⟩,trivial⟩
   ·rintro⟨i,hi⟩;by_cases hA:i<3
    ·have hA':((i:Int)<3)=True:=eq_true (by omega);have hli:=hl i hA;have hqi:=hqq i hA;have hqsi:=hqs i hA;have hCi:=hCd i;rcases(show i=0∨i=1∨i=2 by omega)with hi0|hi0|hi0
     ·skip
      obtain rfl:i=0:=hi0;generalize hLc:L 0=c at*;repeat (first|(simp -implicitDefEqProofs only [go_sem,Nat.reduceAdd,Nat.reduceMul,Nat.reduceEqDiff,Nat.reduceLT,Nat.reduceLeDiff,Nat.reduceSub,Nat.reduceBEq,reduceIte,reduceCtorEq,Int.reduceEq,Int.reduceNe,Nat.reduceBneDiff,Int.reduceLE,Int.reduceLT,Int.reduceToNat,Int.reduceAdd,Int.reduceSub,Int.reduceMul,Int.reduceNeg,T_zp,T_zu,wL,hA',mdV,mdB,Nat.reduceLT,List.length_map])|(with_reducible exact Qaa _ _ (by kernel_rfl))|(with_reducible refine And.intro (Qaa _ _ (by kernel_rfl)) ?_))
      refine Qa4 mixed (fun k:{k:Nat // k≤c.length}=>St.of [(6,.bp 0 3 0 0),(8,.bp 2 6 0 0),(10,.bp 101 2 0 0),(15,.bp 1103 6 0 0),(59,.agg [.bp 1103 6 0 3,.bp 1103 6 0 4,.bp 1103 6 0 5]),(60,.int .i64 0),(17,.int .i64 0),(18,.bp 1103 6 0 3),(66,wL c),(67,.int .i64 (c.length:Int)),(68,.int .i64 (k.1:Int))]
       ((0,{els:=[.agg [wL (L 0),wL (L 1),wL (L 2)]],esz:=3,ety:=63,fro:=0,live:=true,arr:=false})::(2,{els:=[.agg [.int .i64 0,.int .i64 0,.int .i64 0,.nilS,.nilS,.nilS]],esz:=6,ety:=46,fro:=0,live:=true,arr:=false})::(101,{els:=[wPV G],esz:=2,ety:=66,fro:=0,live:=true,arr:=false})::(1103,{els:=[.agg [.int .i64 f,.int .i64 t,.int .i64 OO,mdW C 0 (.bs 8 1 0 k.1) 0,mdW C 0 (.bs 8 1 0 k.1) 1,mdW C 0 (.bs 8 1 0 k.1) 2]],esz:=6,ety:=46,fro:=0,live:=true,arr:=false})::(8,{els:=(c.take k.1).map (fun x=>PV.int .i64 (x/G)),esz:=1,ety:=3,fro:=0,live:=true,arr:=true})::mdB iT C 0)) (fun k=>c.length-k.1) ⟨0,Nat.zero_le _⟩ ?_ ?_
      ·refine Le.trans (Qq3 1103 3 8 1 iT rfl rfl rfl rfl rfl rfl (by decide)) (Qas (θ:=[(0,0),(2,2),(101,101),(1103,1103),(8,8)]) rfl ?_ ?_)
       ·simp [Qae,lkp,ren1,ren0,Qax,wL]
       ·simp only [mdB,hLc];exact⟨⟨rfl,rfl,rfl,rfl,rfl,.inr ⟨rfl,_,_,rfl,rfl,rfl,rfl⟩⟩,⟨rfl,rfl,rfl,rfl,rfl,.inr ⟨rfl,_,_,rfl,rfl,rfl,rfl⟩⟩,⟨rfl,rfl,rfl,rfl,rfl,.inr ⟨rfl,_,_,rfl,rfl,rfl,rfl⟩⟩,⟨rfl,rfl,rfl,rfl,rfl,.inr ⟨rfl,_,_,rfl,rfl,rfl,rfl⟩⟩,⟨rfl,rfl,rfl,rfl,rfl,.inl ⟨rfl,rfl⟩⟩,trivial⟩
      ·rintro⟨k,hk⟩;by_cases hB':k<c.length
       ·have hB2:=ltT hB';have n1:=nnT k;have hgk:=Qc7 c k hB';have hwk2:=Qak (a:=k) (by omega);have q1:=hqsi _ (List.getElem_mem hB');have q2:=hqi _ (List.getElem_mem hB');have i1:Qdh (c[k]/G)= .tup [.int .i64 (c[k]/G),.int .i64 0]:=by unfold Qdh;rw [if_pos (by omega)]
        have q3:=Qmb (Qan (show(c[k]/G).natAbs<2^64 by omega) (by decide));rw [i1]at q3;have hts:(c.take (k+1)).map (fun x=>PV.int .i64 (x/G))=(c.take k).map (fun x=>PV.int .i64 (x/G))++[PV.int .i64 (c[k]/G)]:=by rw [Qca c k hB',List.map_append];rfl
        have hlt:((c.take k).map (fun x=>PV.int .i64 (x/G))).length=k:=by rw [List.length_map,List.length_take];omega
        have hok:(((c.take k).map (fun x=>PV.int .i64 (x/G))).flatMap PV.cells).all PV.okCell=true:=by have:=Qps ((c.take k).map (· /G));rwa [List.map_map]at this
        have k8:((k+1)*8≤140737488355328)=True:=eq_true (by omega);have kM:(k+1≤maxLen)=True:=eq_true (by unfold maxLen;omega);generalize hX:c[k]/G=X at*;generalize hT:(c.take k).map (fun x=>PV.int .i64 (x/G))=T at*;repeat (first|(simp -implicitDefEqProofs only [go_sem,Nat.reduceAdd,Nat.reduceMul,Nat.reduceEqDiff,Nat.reduceLT,Nat.reduceLeDiff,Nat.reduceSub,Nat.reduceBEq,reduceIte,reduceCtorEq,Int.reduceEq,Int.reduceNe,Nat.reduceBneDiff,Int.reduceLE,Int.reduceLT,Int.reduceToNat,Int.reduceAdd,Int.reduceSub,Int.reduceMul,Int.reduceNeg,T_zp,T_zu,wL,wPV,mdW,mdV,mdB,Nat.reduceLT,Nat.reduceEqDiff,if_true,if_false,hB2,n1,hgk,hwk2,hlt,hok,k8,kM,Int.toNat_natCast])|((with_reducible refine Qab q1 ?_ ?_ ?_);rfl;rfl)|((with_reducible refine Qab q3 ?_ ?_ ?_);rfl;rfl)|(with_reducible exact Qaa _ _ (by kernel_rfl))|(with_reducible refine And.intro (Qaa _ _ (by kernel_rfl)) ?_))
        refine⟨⟨k+1,hB'⟩,by simp only;omega,Qas (θ:=[(0,0),(2,2),(101,101),(1103,1103),(8,2306)]) rfl ?_ ?_⟩
        ·simp [Qae,lkp,ren1,ren0,Qax,wL]
        ·simp only [hts,mdB,hLc];exact⟨⟨rfl,rfl,rfl,rfl,rfl,.inr ⟨rfl,_,_,rfl,rfl,rfl,rfl⟩⟩,⟨rfl,rfl,rfl,rfl,rfl,.inr ⟨rfl,_,_,rfl,rfl,rfl,rfl⟩⟩,⟨rfl,rfl,rfl,rfl,rfl,.inr ⟨rfl,_,_,rfl,rfl,rfl,rfl⟩⟩,⟨rfl,rfl,rfl,rfl,rfl,.inr ⟨rfl,_,_,rfl,rfl,rfl,rfl⟩⟩,⟨rfl,rfl,rfl,rfl,rfl,.inl ⟨rfl,rfl⟩⟩,trivial⟩
       ·have hB2:=ltF hB';obtain rfl:k=c.length:=by omega
        have hwk3:=Qak (a:=0) (by omega);by_cases hc0:c=[]
        ·subst hc0;have hC0:C 0=[0]:=by rw [hCi];rfl
         repeat (first|(simp -implicitDefEqProofs only [go_sem,Nat.reduceAdd,Nat.reduceMul,Nat.reduceEqDiff,Nat.reduceLT,Nat.reduceLeDiff,Nat.reduceSub,Nat.reduceBEq,reduceIte,reduceCtorEq,Int.reduceEq,Int.reduceNe,Nat.reduceBneDiff,Int.reduceLE,Int.reduceLT,Int.reduceToNat,Int.reduceAdd,Int.reduceSub,Int.reduceMul,Int.reduceNeg,T_zp,T_zu,wL,wPV,mdW,mdV,mdB,Nat.reduceLT,Nat.reduceEqDiff,if_true,if_false,hB2,hwk3,List.length_nil,List.map_nil,List.take_nil])|(with_reducible exact Qaa _ _ (by kernel_rfl))|(with_reducible refine And.intro (Qaa _ _ (by kernel_rfl)) ?_))
         refine⟨⟨0+1,hA⟩,by simp only;omega,Qas (θ:=[(0,0),(2,2),(101,101),(1103,1103),(8,2601)]) rfl ?_ ?_⟩
         ·simp [Qae,lkp,ren1,ren0,Qax]
         ·simp only [mdV,mdB,Nat.reduceLT,if_true,if_false,hC0,hLc,Nat.reduceAdd];exact⟨⟨rfl,rfl,rfl,rfl,rfl,.inr ⟨rfl,_,_,rfl,rfl,rfl,rfl⟩⟩,⟨rfl,rfl,rfl,rfl,rfl,.inr ⟨rfl,_,_,rfl,rfl,rfl,rfl⟩⟩,⟨rfl,rfl,rfl,rfl,rfl,.inr ⟨rfl,_,_,rfl,rfl,rfl,rfl⟩⟩,⟨rfl,rfl,rfl,rfl,rfl,.inr ⟨rfl,_,_,rfl,rfl,rfl,rfl⟩⟩,⟨rfl,rfl,rfl,rfl,rfl,.inl ⟨rfl,rfl⟩⟩,trivial⟩
        ·have hC1:C 0=c.map (· /G):=by rw [hCi];exact if_neg hc0
         have hz:((c.length:Int)==0)=false:=by have:=List.length_pos_iff.2 hc0;simp;omega
         have hC2:(c.take c.length).map (fun x=>PV.int .i64 (x/G))=(C 0).map (PV.int .i64):=by rw [hC1,List.map_map,List.take_length];rfl
         have hC3:(C 0).length=c.length:=by rw [hC1,List.length_map]
         rw [hC2];repeat (first|(simp -implicitDefEqProofs only [go_sem,Nat.reduceAdd,Nat.reduceMul,Nat.reduceEqDiff,Nat.reduceLT,Nat.reduceLeDiff,Nat.reduceSub,Nat.reduceBEq,reduceIte,reduceCtorEq,Int.reduceEq,Int.reduceNe,Nat.reduceBneDiff,Int.reduceLE,Int.reduceLT,Int.reduceToNat,Int.reduceAdd,Int.reduceSub,Int.reduceMul,Int.reduceNeg,T_zp,T_zu,wL,wPV,mdW,mdV,mdB,Nat.reduceLT,Nat.reduceEqDiff,if_true,if_false,hB2,hwk3,hz])|(with_reducible exact Qaa _ _ (by kernel_rfl))|(with_reducible refine And.intro (Qaa _ _ (by kernel_rfl)) ?_))
         refine⟨⟨0+1,hA⟩,by simp only;omega,Qas (θ:=[(0,0),(2,2),(101,101),(1103,1103),(8,8)]) rfl ?_ ?_⟩
         ·simp [Qae,lkp,ren1,ren0,Qax]
         ·simp only [mdV,mdB,Nat.reduceLT,if_true,if_false,hC3,hLc,Nat.reduceAdd];exact⟨⟨rfl,rfl,rfl,rfl,rfl,.inr ⟨rfl,_,_,rfl,rfl,rfl,rfl⟩⟩,⟨rfl,rfl,rfl,rfl,rfl,.inr ⟨rfl,_,_,rfl,rfl,rfl,rfl⟩⟩,⟨rfl,rfl,rfl,rfl,rfl,.inr ⟨rfl,_,_,rfl,rfl,rfl,rfl⟩⟩,⟨rfl,rfl,rfl,rfl,rfl,.inr ⟨rfl,_,_,rfl,rfl,rfl,rfl⟩⟩,⟨rfl,rfl,rfl,rfl,rfl,.inl ⟨rfl,rfl⟩⟩,trivial⟩
     ·skip
      obtain rfl:i=1:=hi0;generalize hLc:L 1=c at*;repeat (first|(simp -implicitDefEqProofs only [go_sem,Nat.reduceAdd,Nat.reduceMul,Nat.reduceEqDiff,Nat.reduceLT,Nat.reduceLeDiff,Nat.reduceSub,Nat.reduceBEq,reduceIte,reduceCtorEq,Int.reduceEq,Int.reduceNe,Nat.reduceBneDiff,Int.reduceLE,Int.reduceLT,Int.reduceToNat,Int.reduceAdd,Int.reduceSub,Int.reduceMul,Int.reduceNeg,T_zp,T_zu,wL,hA',mdV,mdB,Nat.reduceLT,List.length_map])|(with_reducible exact Qaa _ _ (by kernel_rfl))|(with_reducible refine And.intro (Qaa _ _ (by kernel_rfl)) ?_))
      refine Qa4 mixed (fun k:{k:Nat // k≤c.length}=>St.of [(6,.bp 0 3 0 0),(8,.bp 2 6 0 0),(10,.bp 101 2 0 0),(15,.bp 1103 6 0 0),(59,.agg [.bp 1103 6 0 3,.bp 1103 6 0 4,.bp 1103 6 0 5]),(60,.int .i64 1),(17,.int .i64 1),(18,.bp 1103 6 0 4),(66,wL c),(67,.int .i64 (c.length:Int)),(68,.int .i64 (k.1:Int))]
       ((0,{els:=[.agg [wL (L 0),wL (L 1),wL (L 2)]],esz:=3,ety:=63,fro:=0,live:=true,arr:=false})::(2,{els:=[.agg [.int .i64 0,.int .i64 0,.int .i64 0,.nilS,.nilS,.nilS]],esz:=6,ety:=46,fro:=0,live:=true,arr:=false})::(101,{els:=[wPV G],esz:=2,ety:=66,fro:=0,live:=true,arr:=false})::(1103,{els:=[.agg [.int .i64 f,.int .i64 t,.int .i64 OO,mdW C 1 (.bs 9 1 0 k.1) 0,mdW C 1 (.bs 9 1 0 k.1) 1,mdW C 1 (.bs 9 1 0 k.1) 2]],esz:=6,ety:=46,fro:=0,live:=true,arr:=false})::(9,{els:=(c.take k.1).map (fun x=>PV.int .i64 (x/G)),esz:=1,ety:=3,fro:=0,live:=true,arr:=true})::mdB iT C 1)) (fun k=>c.length-k.1) ⟨0,Nat.zero_le _⟩ ?_ ?_
      ·refine Le.trans (Qq3 1103 4 9 1 iT rfl rfl rfl rfl rfl rfl (by decide)) (Qas (θ:=[(0,0),(2,2),(101,101),(1103,1103),(9,9),(8,8)]) rfl ?_ ?_)
       ·simp [Qae,lkp,ren1,ren0,Qax,wL]
       ·simp only [mdB,hLc];exact⟨⟨rfl,rfl,rfl,rfl,rfl,.inr ⟨rfl,_,_,rfl,rfl,rfl,rfl⟩⟩,⟨rfl,rfl,rfl,rfl,rfl,.inr ⟨rfl,_,_,rfl,rfl,rfl,rfl⟩⟩,⟨rfl,rfl,rfl,rfl,rfl,.inr ⟨rfl,_,_,rfl,rfl,rfl,rfl⟩⟩,⟨rfl,rfl,rfl,rfl,rfl,.inr ⟨rfl,_,_,rfl,rfl,rfl,rfl⟩⟩,⟨rfl,rfl,rfl,rfl,rfl,.inl ⟨rfl,rfl⟩⟩,⟨rfl,rfl,rfl,rfl,rfl,.inl ⟨rfl,rfl⟩⟩,trivial⟩
      ·rintro⟨k,hk⟩;by_cases hB':k<c.length
       ·have hB2:=ltT hB';have n1:=nnT k;have hgk:=Qc7 c k hB';have hwk2:=Qak (a:=k) (by omega);have q1:=hqsi _ (List.getElem_mem hB');have q2:=hqi _ (List.getElem_mem hB');have i1:Qdh (c[k]/G)= .tup [.int .i64 (c[k]/G),.int .i64 0]:=by unfold Qdh;rw [if_pos (by omega)]
        have q3:=Qmb (Qan (show(c[k]/G).natAbs<2^64 by omega) (by decide));rw [i1]at q3;have hts:(c.take (k+1)).map (fun x=>PV.int .i64 (x/G))=(c.take k).map (fun x=>PV.int .i64 (x/G))++[PV.int .i64 (c[k]/G)]:=by rw [Qca c k hB',List.map_append];rfl
        have hlt:((c.take k).map (fun x=>PV.int .i64 (x/G))).length=k:=by rw [List.length_map,List.length_take];omega
        have hok:(((c.take k).map (fun x=>PV.int .i64 (x/G))).flatMap PV.cells).all PV.okCell=true:=by have:=Qps ((c.take k).map (· /G));rwa [List.map_map]at this
        have k8:((k+1)*8≤140737488355328)=True:=eq_true (by omega);have kM:(k+1≤maxLen)=True:=eq_true (by unfold maxLen;omega);generalize hX:c[k]/G=X at*;generalize hT:(c.take k).map (fun x=>PV.int .i64 (x/G))=T at*;repeat (first|(simp -implicitDefEqProofs only [go_sem,Nat.reduceAdd,Nat.reduceMul,Nat.reduceEqDiff,Nat.reduceLT,Nat.reduceLeDiff,Nat.reduceSub,Nat.reduceBEq,reduceIte,reduceCtorEq,Int.reduceEq,Int.reduceNe,Nat.reduceBneDiff,Int.reduceLE,Int.reduceLT,Int.reduceToNat,Int.reduceAdd,Int.reduceSub,Int.reduceMul,Int.reduceNeg,T_zp,T_zu,wL,wPV,mdW,mdV,mdB,Nat.reduceLT,Nat.reduceEqDiff,if_true,if_false,hB2,n1,hgk,hwk2,hlt,hok,k8,kM,Int.toNat_natCast])|((with_reducible refine Qab q1 ?_ ?_ ?_);rfl;rfl)|((with_reducible refine Qab q3 ?_ ?_ ?_);rfl;rfl)|(with_reducible exact Qaa _ _ (by kernel_rfl))|(with_reducible refine And.intro (Qaa _ _ (by kernel_rfl)) ?_))
        refine⟨⟨k+1,hB'⟩,by simp only;omega,Qas (θ:=[(0,0),(2,2),(101,101),(1103,1103),(9,2306),(8,8)]) rfl ?_ ?_⟩
        ·simp [Qae,lkp,ren1,ren0,Qax,wL]
        ·simp only [hts,mdB,hLc];exact⟨⟨rfl,rfl,rfl,rfl,rfl,.inr ⟨rfl,_,_,rfl,rfl,rfl,rfl⟩⟩,⟨rfl,rfl,rfl,rfl,rfl,.inr ⟨rfl,_,_,rfl,rfl,rfl,rfl⟩⟩,⟨rfl,rfl,rfl,rfl,rfl,.inr ⟨rfl,_,_,rfl,rfl,rfl,rfl⟩⟩,⟨rfl,rfl,rfl,rfl,rfl,.inr ⟨rfl,_,_,rfl,rfl,rfl,rfl⟩⟩,⟨rfl,rfl,rfl,rfl,rfl,.inl ⟨rfl,rfl⟩⟩,⟨rfl,rfl,rfl,rfl,rfl,.inl ⟨rfl,rfl⟩⟩,trivial⟩
       ·have hB2:=ltF hB';obtain rfl:k=c.length:=by omega
        have hwk3:=Qak (a:=1) (by omega);by_cases hc0:c=[]
        ·subst hc0;have hC0:C 1=[0]:=by rw [hCi];rfl
         repeat (first|(simp -implicitDefEqProofs only [go_sem,Nat.reduceAdd,Nat.reduceMul,Nat.reduceEqDiff,Nat.reduceLT,Nat.reduceLeDiff,Nat.reduceSub,Nat.reduceBEq,reduceIte,reduceCtorEq,Int.reduceEq,Int.reduceNe,Nat.reduceBneDiff,Int.reduceLE,Int.reduceLT,Int.reduceToNat,Int.reduceAdd,Int.reduceSub,Int.reduceMul,Int.reduceNeg,T_zp,T_zu,wL,wPV,mdW,mdV,mdB,Nat.reduceLT,Nat.reduceEqDiff,if_true,if_false,hB2,hwk3,List.length_nil,List.map_nil,List.take_nil])|(with_reducible exact Qaa _ _ (by kernel_rfl))|(with_reducible refine And.intro (Qaa _ _ (by kernel_rfl)) ?_))
         refine⟨⟨1+1,hA⟩,by simp only;omega,Qas (θ:=[(0,0),(2,2),(101,101),(1103,1103),(9,2601),(8,8)]) rfl ?_ ?_⟩
         ·simp [Qae,lkp,ren1,ren0,Qax]
         ·simp only [mdV,mdB,Nat.reduceLT,if_true,if_false,hC0,hLc,Nat.reduceAdd];exact⟨⟨rfl,rfl,rfl,rfl,rfl,.inr ⟨rfl,_,_,rfl,rfl,rfl,rfl⟩⟩,⟨rfl,rfl,rfl,rfl,rfl,.inr ⟨rfl,_,_,rfl,rfl,rfl,rfl⟩⟩,⟨rfl,rfl,rfl,rfl,rfl,.inr ⟨rfl,_,_,rfl,rfl,rfl,rfl⟩⟩,⟨rfl,rfl,rfl,rfl,rfl,.inr ⟨rfl,_,_,rfl,rfl,rfl,rfl⟩⟩,⟨rfl,rfl,rfl,rfl,rfl,.inl ⟨rfl,rfl⟩⟩,⟨rfl,rfl,rfl,rfl,rfl,.inl ⟨rfl,rfl⟩⟩,trivial⟩
        ·have hC1:C 1=c.map (· /G):=by rw [hCi];exact if_neg hc0
         have hz:((c.length:Int)==0)=false:=by have:=List.length_pos_iff.2 hc0;simp;omega
         have hC2:(c.take c.length).map (fun x=>PV.int .i64 (x/G))=(C 1).map (PV.int .i64):=by rw [hC1,List.map_map,List.take_length];rfl
         have hC3:(C 1).length=c.length:=by rw [hC1,List.length_map]
         rw [hC2];repeat (first|(simp -implicitDefEqProofs only [go_sem,Nat.reduceAdd,Nat.reduceMul,Nat.reduceEqDiff,Nat.reduceLT,Nat.reduceLeDiff,Nat.reduceSub,Nat.reduceBEq,reduceIte,reduceCtorEq,Int.reduceEq,Int.reduceNe,Nat.reduceBneDiff,Int.reduceLE,Int.reduceLT,Int.reduceToNat,Int.reduceAdd,Int.reduceSub,Int.reduceMul,Int.reduceNeg,T_zp,T_zu,wL,wPV,mdW,mdV,mdB,Nat.reduceLT,Nat.reduceEqDiff,if_true,if_false,hB2,hwk3,hz])|(with_reducible exact Qaa _ _ (by kernel_rfl))|(with_reducible refine And.intro (Qaa _ _ (by kernel_rfl)) ?_))
         refine⟨⟨1+1,hA⟩,by simp only;omega,Qas (θ:=[(0,0),(2,2),(101,101),(1103,1103),(9,9),(8,8)]) rfl ?_ ?_⟩
         ·simp [Qae,lkp,ren1,ren0,Qax]
         ·simp only [mdV,mdB,Nat.reduceLT,if_true,if_false,hC3,hLc,Nat.reduceAdd];exact⟨⟨rfl,rfl,rfl,rfl,rfl,.inr ⟨rfl,_,_,rfl,rfl,rfl,rfl⟩⟩,⟨rfl,rfl,rfl,rfl,rfl,.inr ⟨rfl,_,_,rfl,rfl,rfl,rfl⟩⟩,⟨rfl,rfl,rfl,rfl,rfl,.inr ⟨rfl,_,_,rfl,rfl,rfl,rfl⟩⟩,⟨rfl,rfl,rfl,rfl,rfl,.inr ⟨rfl,_,_,rfl,rfl,rfl,rfl⟩⟩,⟨rfl,rfl,rfl,rfl,rfl,.inl ⟨rfl,rfl⟩⟩,⟨rfl,rfl,rfl,rfl,rfl,.inl ⟨rfl,rfl⟩⟩,trivial⟩
     ·skip
      obtain rfl:i=2:=hi0;generalize hLc:L 2=c at*;repeat (first|(simp -implicitDefEqProofs only [go_sem,Nat.reduceAdd,Nat.reduceMul,Nat.reduceEqDiff,Nat.reduceLT,Nat.reduceLeDiff,Nat.reduceSub,Nat.reduceBEq,reduceIte,reduceCtorEq,Int.reduceEq,Int.reduceNe,Nat.reduceBneDiff,Int.reduceLE,Int.reduceLT,Int.reduceToNat,Int.reduceAdd,Int.reduceSub,Int.reduceMul,Int.reduceNeg,T_zp,T_zu,wL,hA',mdV,mdB,Nat.reduceLT,List.length_map])|(with_reducible exact Qaa _ _ (by kernel_rfl))|(with_reducible refine And.intro (Qaa _ _ (by kernel_rfl)) ?_))
      refine Qa4 mixed (fun k:{k:Nat // k≤c.length}=>St.of [(6,.bp 0 3 0 0),(8,.bp 2 6 0 0),(10,.bp 101 2 0 0),(15,.bp 1103 6 0 0),(59,.agg [.bp 1103 6 0 3,.bp 1103 6 0 4,.bp 1103 6 0 5]),(60,.int .i64 2),(17,.int .i64 2),(18,.bp 1103 6 0 5),(66,wL c),(67,.int .i64 (c.length:Int)),(68,.int .i64 (k.1:Int))]
       ((0,{els:=[.agg [wL (L 0),wL (L 1),wL (L 2)]],esz:=3,ety:=63,fro:=0,live:=true,arr:=false})::(2,{els:=[.agg [.int .i64 0,.int .i64 0,.int .i64 0,.nilS,.nilS,.nilS]],esz:=6,ety:=46,fro:=0,live:=true,arr:=false})::(101,{els:=[wPV G],esz:=2,ety:=66,fro:=0,live:=true,arr:=false})::(1103,{els:=[.agg [.int .i64 f,.int .i64 t,.int .i64 OO,mdW C 2 (.bs 10 1 0 k.1) 0,mdW C 2 (.bs 10 1 0 k.1) 1,mdW C 2 (.bs 10 1 0 k.1) 2]],esz:=6,ety:=46,fro:=0,live:=true,arr:=false})::(10,{els:=(c.take k.1).map (fun x=>PV.int .i64 (x/G)),esz:=1,ety:=3,fro:=0,live:=true,arr:=true})::mdB iT C 2)) (fun k=>c.length-k.1) ⟨0,Nat.zero_le _⟩ ?_ ?_
      ·refine Le.trans (Qq3 1103 5 10 1 iT rfl rfl rfl rfl rfl rfl (by decide)) (Qas (θ:=[(0,0),(2,2),(101,101),(1103,1103),(10,10),(8,8),(9,9)]) rfl ?_ ?_)
       ·simp [Qae,lkp,ren1,ren0,Qax,wL]
       ·simp only [mdB,hLc];exact⟨⟨rfl,rfl,rfl,rfl,rfl,.inr ⟨rfl,_,_,rfl,rfl,rfl,rfl⟩⟩,⟨rfl,rfl,rfl,rfl,rfl,.inr ⟨rfl,_,_,rfl,rfl,rfl,rfl⟩⟩,⟨rfl,rfl,rfl,rfl,rfl,.inr ⟨rfl,_,_,rfl,rfl,rfl,rfl⟩⟩,⟨rfl,rfl,rfl,rfl,rfl,.inr ⟨rfl,_,_,rfl,rfl,rfl,rfl⟩⟩,⟨rfl,rfl,rfl,rfl,rfl,.inl ⟨rfl,rfl⟩⟩,⟨rfl,rfl,rfl,rfl,rfl,.inl ⟨rfl,rfl⟩⟩,⟨rfl,rfl,rfl,rfl,rfl,.inl ⟨rfl,rfl⟩⟩,trivial⟩
      ·rintro⟨k,hk⟩;by_cases hB':k<c.length
       ·have hB2:=ltT hB';have n1:=nnT k;have hgk:=Qc7 c k hB';have hwk2:=Qak (a:=k) (by omega);have q1:=hqsi _ (List.getElem_mem hB');have q2:=hqi _ (List.getElem_mem hB');have i1:Qdh (c[k]/G)= .tup [.int .i64 (c[k]/G),.int .i64 0]:=by unfold Qdh;rw [if_pos (by omega)]
        have q3:=Qmb (Qan (show(c[k]/G).natAbs<2^64 by omega) (by decide));rw [i1]at q3;have hts:(c.take (k+1)).map (fun x=>PV.int .i64 (x/G))=(c.take k).map (fun x=>PV.int .i64 (x/G))++[PV.int .i64 (c[k]/G)]:=by rw [Qca c k hB',List.map_append];rfl
        have hlt:((c.take k).map (fun x=>PV.int .i64 (x/G))).length=k:=by rw [List.length_map,List.length_take];omega
        have hok:(((c.take k).map (fun x=>PV.int .i64 (x/G))).flatMap PV.cells).all PV.okCell=true:=by have:=Qps ((c.take k).map (· /G));rwa [List.map_map]at this
        have k8:((k+1)*8≤140737488355328)=True:=eq_true (by omega);have kM:(k+1≤maxLen)=True:=eq_true (by unfold maxLen;omega);generalize hX:c[k]/G=X at*;generalize hT:(c.take k).map (fun x=>PV.int .i64 (x/G))=T at*;repeat (first|(simp -implicitDefEqProofs only [go_sem,Nat.reduceAdd,Nat.reduceMul,Nat.reduceEqDiff,Nat.reduceLT,Nat.reduceLeDiff,Nat.reduceSub,Nat.reduceBEq,reduceIte,reduceCtorEq,Int.reduceEq,Int.reduceNe,Nat.reduceBneDiff,Int.reduceLE,Int.reduceLT,Int.reduceToNat,Int.reduceAdd,Int.reduceSub,Int.reduceMul,Int.reduceNeg,T_zp,T_zu,wL,wPV,mdW,mdV,mdB,Nat.reduceLT,Nat.reduceEqDiff,if_true,if_false,hB2,n1,hgk,hwk2,hlt,hok,k8,kM,Int.toNat_natCast])|((with_reducible refine Qab q1 ?_ ?_ ?_);rfl;rfl)|((with_reducible refine Qab q3 ?_ ?_ ?_);rfl;rfl)|(with_reducible exact Qaa _ _ (by kernel_rfl))|(with_reducible refine And.intro (Qaa _ _ (by kernel_rfl)) ?_))
        refine⟨⟨k+1,hB'⟩,by simp only;omega,Qas (θ:=[(0,0),(2,2),(101,101),(1103,1103),(10,2306),(8,8),(9,9)]) rfl ?_ ?_⟩
        ·simp [Qae,lkp,ren1,ren0,Qax,wL]
        ·simp only [hts,mdB,hLc];exact⟨⟨rfl,rfl,rfl,rfl,rfl,.inr ⟨rfl,_,_,rfl,rfl,rfl,rfl⟩⟩,⟨rfl,rfl,rfl,rfl,rfl,.inr ⟨rfl,_,_,rfl,rfl,rfl,rfl⟩⟩,⟨rfl,rfl,rfl,rfl,rfl,.inr ⟨rfl,_,_,rfl,rfl,rfl,rfl⟩⟩,⟨rfl,rfl,rfl,rfl,rfl,.inr ⟨rfl,_,_,rfl,rfl,rfl,rfl⟩⟩,⟨rfl,rfl,rfl,rfl,rfl,.inl ⟨rfl,rfl⟩⟩,⟨rfl,rfl,rfl,rfl,rfl,.inl ⟨rfl,rfl⟩⟩,⟨rfl,rfl,rfl,rfl,rfl,.inl ⟨rfl,rfl⟩⟩,trivial⟩
       ·have hB2:=ltF hB';obtain rfl:k=c.length:=by omega
        have hwk3:=Qak (a:=2) (by omega);by_cases hc0:c=[]
        ·subst hc0;have hC0:C 2=[0]:=by rw [hCi];rfl
         repeat (first|(simp -implicitDefEqProofs only [go_sem,Nat.reduceAdd,Nat.reduceMul,Nat.reduceEqDiff,Nat.reduceLT,Nat.reduceLeDiff,Nat.reduceSub,Nat.reduceBEq,reduceIte,reduceCtorEq,Int.reduceEq,Int.reduceNe,Nat.reduceBneDiff,Int.reduceLE,Int.reduceLT,Int.reduceToNat,Int.reduceAdd,Int.reduceSub,Int.reduceMul,Int.reduceNeg,T_zp,T_zu,wL,wPV,mdW,mdV,mdB,Nat.reduceLT,Nat.reduceEqDiff,if_true,if_false,hB2,hwk3,List.length_nil,List.map_nil,List.take_nil])|(with_reducible exact Qaa _ _ (by kernel_rfl))|(with_reducible refine And.intro (Qaa _ _ (by kernel_rfl)) ?_))
         refine⟨⟨2+1,hA⟩,by simp only;omega,Qas (θ:=[(0,0),(2,2),(101,101),(1103,1103),(10,2601),(8,8),(9,9)]) rfl ?_ ?_⟩
         ·simp [Qae,lkp,ren1,ren0,Qax]
         ·simp only [mdV,mdB,Nat.reduceLT,if_true,if_false,hC0,hLc,Nat.reduceAdd];exact⟨⟨rfl,rfl,rfl,rfl,rfl,.inr ⟨rfl,_,_,rfl,rfl,rfl,rfl⟩⟩,⟨rfl,rfl,rfl,rfl,rfl,.inr ⟨rfl,_,_,rfl,rfl,rfl,rfl⟩⟩,⟨rfl,rfl,rfl,rfl,rfl,.inr ⟨rfl,_,_,rfl,rfl,rfl,rfl⟩⟩,⟨rfl,rfl,rfl,rfl,rfl,.inr ⟨rfl,_,_,rfl,rfl,rfl,rfl⟩⟩,⟨rfl,rfl,rfl,rfl,rfl,.inl ⟨rfl,rfl⟩⟩,⟨rfl,rfl,rfl,rfl,rfl,.inl ⟨rfl,rfl⟩⟩,⟨rfl,rfl,rfl,rfl,rfl,.inl ⟨rfl,rfl⟩⟩,trivial⟩
        ·have hC1:C 2=c.map (· /G):=by rw [hCi];exact if_neg hc0
         have hz:((c.length:Int)==0)=false:=by have:=List.length_pos_iff.2 hc0;simp;omega
         have hC2:(c.take c.length).map (fun x=>PV.int .i64 (x/G))=(C 2).map (PV.int .i64):=by rw [hC1,List.map_map,List.take_length];rfl
         have hC3:(C 2).length=c.length:=by rw [hC1,List.length_map]
         rw [hC2];repeat (first|(simp -implicitDefEqProofs only [go_sem,Nat.reduceAdd,Nat.reduceMul,Nat.reduceEqDiff,Nat.reduceLT,Nat.reduceLeDiff,Nat.reduceSub,Nat.reduceBEq,reduceIte,reduceCtorEq,Int.reduceEq,Int.reduceNe,Nat.reduceBneDiff,Int.reduceLE,Int.reduceLT,Int.reduceToNat,Int.reduceAdd,Int.reduceSub,Int.reduceMul,Int.reduceNeg,T_zp,T_zu,wL,wPV,mdW,mdV,mdB,Nat.reduceLT,Nat.reduceEqDiff,if_true,if_false,hB2,hwk3,hz])|(with_reducible exact Qaa _ _ (by kernel_rfl))|(with_reducible refine And.intro (Qaa _ _ (by kernel_rfl)) ?_))
         refine⟨⟨2+1,hA⟩,by simp only;omega,Qas (θ:=[(0,0),(2,2),(101,101),(1103,1103),(10,10),(8,8),(9,9)]) rfl ?_ ?_⟩
         ·simp [Qae,lkp,ren1,ren0,Qax]
         ·simp only [mdV,mdB,Nat.reduceLT,if_true,if_false,hC3,hLc,Nat.reduceAdd];exact⟨⟨rfl,rfl,rfl,rfl,rfl,.inr ⟨rfl,_,_,rfl,rfl,rfl,rfl⟩⟩,⟨rfl,rfl,rfl,rfl,rfl,.inr ⟨rfl,_,_,rfl,rfl,rfl,rfl⟩⟩,⟨rfl,rfl,rfl,rfl,rfl,.inr ⟨rfl,_,_,rfl,rfl,rfl,rfl⟩⟩,⟨rfl,rfl,rfl,rfl,rfl,.inr ⟨rfl,_,_,rfl,rfl,rfl,rfl⟩⟩,⟨rfl,rfl,rfl,rfl,rfl,.inl ⟨rfl,rfl⟩⟩,⟨rfl,rfl,rfl,rfl,rfl,.inl ⟨rfl,rfl⟩⟩,⟨rfl,rfl,rfl,rfl,rfl,.inl ⟨rfl,rfl⟩⟩,trivial⟩
    ·have hA':((i:Int)<3)=False:=eq_false (by omega);obtain rfl:i=3:=by omega
     have hok: ∀m,((((C m).map (PV.int .i64)).flatMap PV.cells).all PV.okCell)=true:=fun m=>Qps (C m);repeat (first|(simp -implicitDefEqProofs only [go_sem,Nat.reduceAdd,Nat.reduceMul,Nat.reduceEqDiff,Nat.reduceLT,Nat.reduceLeDiff,Nat.reduceSub,Nat.reduceBEq,reduceIte,reduceCtorEq,Int.reduceEq,Int.reduceNe,Nat.reduceBneDiff,Int.reduceLE,Int.reduceLT,Int.reduceToNat,Int.reduceAdd,Int.reduceSub,Int.reduceMul,Int.reduceNeg,T_zp,T_zu,hA',mdV,mdB,Nat.reduceLT,if_true,List.length_map,List.take_length,hok])|(with_reducible exact Qaa _ _ (by kernel_rfl))|(with_reducible refine And.intro (Qaa _ _ (by kernel_rfl)) ?_))
     have ht: ∀m,((C m).map (PV.int .i64)).take (C m).length=(C m).map (PV.int .i64):=fun m=>List.take_of_length_le (by rw [List.length_map];omega);simp only [ht]
end Go.Proofs.YtobaaecbdlhpdaaGreat

namespace Go.Dg
def nrm:List Int→Nat
 | []=>0
 |x::l=>x.natAbs+nrm l
theorem Zgb {l:List Int} {x:Int} (h:x∈l):x.natAbs≤nrm l:=by
 induction l with
 |nil=>cases h
 |cons y l ih=>
  cases h with
  |head=>exact Nat.le_add_right _ _
  |tail _ h=>exact Nat.le_trans (ih h) (Nat.le_add_left _ _)
theorem Qcu {x K:Int} (h:(x.natAbs:Int)≤K): -K≤x∧x≤K:=by omega
theorem Q15 {c:List Int} {o:Int} (h:Qd1 c o c.length=true) (j:Nat) (hj:j<c.length):((ctl c j).natAbs:Int)≤62914560*o:=by
 unfold Qd1 at h;rw [List.all_eq_true]at h;exact of_decide_eq_true (h j (List.mem_range.2 hj))
theorem Zgc {o a0:Int} (ho:0≤o) (h: ∀j,j<1→((ctl [a0] j).natAbs:Int)≤62914560*o):(nrm [a0]:Int)≤1048576*o:=by
 have h0:=Qcu (h 0 (by decide));have e0:ctl [a0] 0=60*a0:=by simp [ctl,sm,cw,bin];omega
 generalize ctl [a0] 0=b0 at*;clear h;have f0:60*a0=1*b0:=by omega
 clear e0;have g0:(a0.natAbs:Int)≤1048576*o:=by omega
 clear h0 f0;simp only [nrm];generalize a0.natAbs=m0 at*;omega
theorem Zgd {o a0 a1:Int} (ho:0≤o) (h: ∀j,j<2→((ctl [a0,a1] j).natAbs:Int)≤62914560*o):(nrm [a0,a1]:Int)≤3145728*o:=by
 have h0:=Qcu (h 0 (by decide));have h1:=Qcu (h 1 (by decide));have e0:ctl [a0,a1] 0=60*a0:=by simp [ctl,sm,cw,bin];omega
 have e1:ctl [a0,a1] 1=60*a0+60*a1:=by simp [ctl,sm,cw,bin];omega
 generalize ctl [a0,a1] 0=b0 at*;generalize ctl [a0,a1] 1=b1 at*;clear h;have f0:60*a0=1*b0:=by omega
 have f1:60*a1= -1*b0+1*b1:=by omega
 clear e0 e1;have g0:(a0.natAbs:Int)≤1048576*o:=by omega
 have g1:(a1.natAbs:Int)≤2097152*o:=by omega
 clear h0 h1 f0 f1;simp only [nrm];generalize a0.natAbs=m0 at*;generalize a1.natAbs=m1 at*;omega
theorem Zge {o a0 a1 a2:Int} (ho:0≤o) (h: ∀j,j<3→((ctl [a0,a1,a2] j).natAbs:Int)≤62914560*o):(nrm [a0,a1,a2]:Int)≤9437184*o:=by
 have h0:=Qcu (h 0 (by decide));have h1:=Qcu (h 1 (by decide));have h2:=Qcu (h 2 (by decide));have e0:ctl [a0,a1,a2] 0=60*a0:=by simp [ctl,sm,cw,bin];omega
 have e1:ctl [a0,a1,a2] 1=60*a0+30*a1:=by simp [ctl,sm,cw,bin];omega
 have e2:ctl [a0,a1,a2] 2=60*a0+60*a1+60*a2:=by simp [ctl,sm,cw,bin];omega
 generalize ctl [a0,a1,a2] 0=b0 at*;generalize ctl [a0,a1,a2] 1=b1 at*;generalize ctl [a0,a1,a2] 2=b2 at*;clear h;have f0:60*a0=1*b0:=by omega
 have f1:30*a1= -1*b0+1*b1:=by omega
 have f2:60*a2=1*b0+ -2*b1+1*b2:=by omega
 clear e0 e1 e2;have g0:(a0.natAbs:Int)≤1048576*o:=by omega
 have g1:(a1.natAbs:Int)≤4194304*o:=by omega
 have g2:(a2.natAbs:Int)≤4194304*o:=by omega
 clear h0 h1 h2 f0 f1 f2;simp only [nrm];generalize a0.natAbs=m0 at*;generalize a1.natAbs=m1 at*;generalize a2.natAbs=m2 at*;omega
theorem Zgf {o a0 a1 a2 a3:Int} (ho:0≤o) (h: ∀j,j<4→((ctl [a0,a1,a2,a3] j).natAbs:Int)≤62914560*o):(nrm [a0,a1,a2,a3]:Int)≤28311552*o:=by
 have h0:=Qcu (h 0 (by decide));have h1:=Qcu (h 1 (by decide));have h2:=Qcu (h 2 (by decide));have h3:=Qcu (h 3 (by decide));have e0:ctl [a0,a1,a2,a3] 0=60*a0:=by simp [ctl,sm,cw,bin];omega
 have e1:ctl [a0,a1,a2,a3] 1=60*a0+20*a1:=by simp [ctl,sm,cw,bin];omega
 have e2:ctl [a0,a1,a2,a3] 2=60*a0+40*a1+20*a2:=by simp [ctl,sm,cw,bin];omega
 have e3:ctl [a0,a1,a2,a3] 3=60*a0+60*a1+60*a2+60*a3:=by simp [ctl,sm,cw,bin];omega
 generalize ctl [a0,a1,a2,a3] 0=b0 at*;generalize ctl [a0,a1,a2,a3] 1=b1 at*;generalize ctl [a0,a1,a2,a3] 2=b2 at*;generalize ctl [a0,a1,a2,a3] 3=b3 at*;clear h;have f0:60*a0=1*b0:=by omega
 have f1:20*a1= -1*b0+1*b1:=by omega
 have f2:20*a2=1*b0+ -2*b1+1*b2:=by omega
 have f3:60*a3= -1*b0+3*b1+ -3*b2+1*b3:=by omega
 clear e0 e1 e2 e3;have g0:(a0.natAbs:Int)≤1048576*o:=by omega
 have g1:(a1.natAbs:Int)≤6291456*o:=by omega
 have g2:(a2.natAbs:Int)≤12582912*o:=by omega
 have g3:(a3.natAbs:Int)≤8388608*o:=by omega
 clear h0 h1 h2 h3 f0 f1 f2 f3;simp only [nrm];generalize a0.natAbs=m0 at*;generalize a1.natAbs=m1 at*;generalize a2.natAbs=m2 at*;generalize a3.natAbs=m3 at*;omega
theorem Zgg {o a0 a1 a2 a3 a4:Int} (ho:0≤o) (h: ∀j,j<5→((ctl [a0,a1,a2,a3,a4] j).natAbs:Int)≤62914560*o):(nrm [a0,a1,a2,a3,a4]:Int)≤84934656*o:=by
 have h0:=Qcu (h 0 (by decide));have h1:=Qcu (h 1 (by decide));have h2:=Qcu (h 2 (by decide));have h3:=Qcu (h 3 (by decide));have h4:=Qcu (h 4 (by decide));have e0:ctl [a0,a1,a2,a3,a4] 0=60*a0:=by simp [ctl,sm,cw,bin];omega
 have e1:ctl [a0,a1,a2,a3,a4] 1=60*a0+15*a1:=by simp [ctl,sm,cw,bin];omega
 have e2:ctl [a0,a1,a2,a3,a4] 2=60*a0+30*a1+10*a2:=by simp [ctl,sm,cw,bin];omega
 have e3:ctl [a0,a1,a2,a3,a4] 3=60*a0+45*a1+30*a2+15*a3:=by simp [ctl,sm,cw,bin];omega
 have e4:ctl [a0,a1,a2,a3,a4] 4=60*a0+60*a1+60*a2+60*a3+60*a4:=by simp [ctl,sm,cw,bin];omega
 generalize ctl [a0,a1,a2,a3,a4] 0=b0 at*;generalize ctl [a0,a1,a2,a3,a4] 1=b1 at*;generalize ctl [a0,a1,a2,a3,a4] 2=b2 at*;generalize ctl [a0,a1,a2,a3,a4] 3=b3 at*;generalize ctl [a0,a1,a2,a3,a4] 4=b4 at*;clear h;have f0:60*a0=1*b0:=by omega
 have f1:15*a1= -1*b0+1*b1:=by omega
 have f2:10*a2=1*b0+ -2*b1+1*b2:=by omega
 have f3:15*a3= -1*b0+3*b1+ -3*b2+1*b3:=by omega
 have f4:60*a4=1*b0+ -4*b1+6*b2+ -4*b3+1*b4:=by omega
 clear e0 e1 e2 e3 e4;have g0:(a0.natAbs:Int)≤1048576*o:=by omega
 have g1:(a1.natAbs:Int)≤8388608*o:=by omega
 have g2:(a2.natAbs:Int)≤25165824*o:=by omega
 have g3:(a3.natAbs:Int)≤33554432*o:=by omega
 have g4:(a4.natAbs:Int)≤16777216*o:=by omega
 clear h0 h1 h2 h3 h4 f0 f1 f2 f3 f4;simp only [nrm];generalize a0.natAbs=m0 at*;generalize a1.natAbs=m1 at*;generalize a2.natAbs=m2 at*;generalize a3.natAbs=m3 at*;generalize a4.natAbs=m4 at*;omega
theorem Zgh {o a0 a1 a2 a3 a4 a5:Int} (ho:0≤o) (h: ∀j,j<6→((ctl [a0,a1,a2,a3,a4,a5] j).natAbs:Int)≤62914560*o):(nrm [a0,a1,a2,a3,a4,a5]:Int)≤254803968*o:=by
 have h0:=Qcu (h 0 (by decide));have h1:=Qcu (h 1 (by decide));have h2:=Qcu (h 2 (by decide));have h3:=Qcu (h 3 (by decide));have h4:=Qcu (h 4 (by decide));have h5:=Qcu (h 5 (by decide));have e0:ctl [a0,a1,a2,a3,a4,a5] 0=60*a0:=by simp [ctl,sm,cw,bin];omega
 have e1:ctl [a0,a1,a2,a3,a4,a5] 1=60*a0+12*a1:=by simp [ctl,sm,cw,bin];omega
 have e2:ctl [a0,a1,a2,a3,a4,a5] 2=60*a0+24*a1+6*a2:=by simp [ctl,sm,cw,bin];omega
 have e3:ctl [a0,a1,a2,a3,a4,a5] 3=60*a0+36*a1+18*a2+6*a3:=by simp [ctl,sm,cw,bin];omega
 have e4:ctl [a0,a1,a2,a3,a4,a5] 4=60*a0+48*a1+36*a2+24*a3+12*a4:=by simp [ctl,sm,cw,bin];omega
 have e5:ctl [a0,a1,a2,a3,a4,a5] 5=60*a0+60*a1+60*a2+60*a3+60*a4+60*a5:=by simp [ctl,sm,cw,bin];omega
 generalize ctl [a0,a1,a2,a3,a4,a5] 0=b0 at*;generalize ctl [a0,a1,a2,a3,a4,a5] 1=b1 at*;generalize ctl [a0,a1,a2,a3,a4,a5] 2=b2 at*;generalize ctl [a0,a1,a2,a3,a4,a5] 3=b3 at*;generalize ctl [a0,a1,a2,a3,a4,a5] 4=b4 at*;generalize ctl [a0,a1,a2,a3,a4,a5] 5=b5 at*;clear h;have f0:60*a0=1*b0:=by omega
 have f1:12*a1= -1*b0+1*b1:=by omega
 have f2:6*a2=1*b0+ -2*b1+1*b2:=by omega
 have f3:6*a3= -1*b0+3*b1+ -3*b2+1*b3:=by omega
 have f4:12*a4=1*b0+ -4*b1+6*b2+ -4*b3+1*b4:=by omega
 have f5:60*a5= -1*b0+5*b1+ -10*b2+10*b3+ -5*b4+1*b5:=by omega
 clear e0 e1 e2 e3 e4 e5;have g0:(a0.natAbs:Int)≤1048576*o:=by omega
 have g1:(a1.natAbs:Int)≤10485760*o:=by omega
 have g2:(a2.natAbs:Int)≤41943040*o:=by omega
 have g3:(a3.natAbs:Int)≤83886080*o:=by omega
 have g4:(a4.natAbs:Int)≤83886080*o:=by omega
 have g5:(a5.natAbs:Int)≤33554432*o:=by omega
 clear h0 h1 h2 h3 h4 h5 f0 f1 f2 f3 f4 f5;simp only [nrm];generalize a0.natAbs=m0 at*;generalize a1.natAbs=m1 at*;generalize a2.natAbs=m2 at*;generalize a3.natAbs=m3 at*;generalize a4.natAbs=m4 at*;generalize a5.natAbs=m5 at*;omega
theorem Zmw {c:List Int} {o:Int} (h:axOK c o=true) (ho:0≤o):(nrm c:Int)≤254803968*o:=by
 obtain⟨h1,h6, -,hb⟩:=Qcj h;have hj:=Q15 hb;clear hb h
 match c,h1,h6,hj with
 | [a0],_,_,hj=>exact Int.le_trans (Zgc ho hj) (by omega)
 | [a0,a1],_,_,hj=>exact Int.le_trans (Zgd ho hj) (by omega)
 | [a0,a1,a2],_,_,hj=>exact Int.le_trans (Zge ho hj) (by omega)
 | [a0,a1,a2,a3],_,_,hj=>exact Int.le_trans (Zgf ho hj) (by omega)
 | [a0,a1,a2,a3,a4],_,_,hj=>exact Int.le_trans (Zgg ho hj) (by omega)
 | [a0,a1,a2,a3,a4,a5],_,_,hj=>exact Int.le_trans (Zgh ho hj) (by omega)
 |_::_::_::_::_::_::_::_,_,h6,_=>simp at h6
theorem Qg3 (g:Nat) (c:List Int):gcdL g c∣g∧ ∀x∈c,gcdL g c∣x.natAbs:=by
 induction c generalizing g with
 |nil=>exact⟨Nat.dvd_refl _,fun _ h=>nomatch h⟩
 |cons y c ih=>
  obtain⟨h1,h2⟩:=ih (Nat.gcd g y.natAbs);refine⟨Nat.dvd_trans h1 (Nat.gcd_dvd_left _ _),fun x hx=> ?_⟩;cases hx with
  |head=>exact Nat.dvd_trans h1 (Nat.gcd_dvd_right _ _)
  |tail _ h=>exact h2 x h
theorem Qt5 (L:Nat→List Int) (o:Int):(mdG L o 3:Int)∣o∧ ∀i,i<3→ ∀x∈L i,(mdG L o 3:Int)∣x:=by
 have d3:=Qg3 (mdG L o 2) (L 2);have d2:=Qg3 (mdG L o 1) (L 1);have d1:=Qg3 (mdG L o 0) (L 0);have a1:mdG L o 3∣mdG L o 1:=Nat.dvd_trans d3.1 d2.1;refine⟨Int.dvd_natAbs.1 (Int.natCast_dvd_natCast.2 (Nat.dvd_trans a1 d1.1)),fun i hi x hx=>Int.dvd_natAbs.1 (Int.natCast_dvd_natCast.2 ?_)⟩;rcases(show i=0∨i=1∨i=2 by omega)with rfl|rfl|rfl
 ·exact Nat.dvd_trans a1 (d1.2 x hx)
 ·exact Nat.dvd_trans d3.1 (d2.2 x hx)
 ·exact d3.2 x hx
def ptL (s:Sg) (a b:Int):Nat→List Int:=cmpL s (a-s.f) (b-a) (s.t-s.f)
def ptO (s:Sg):Int:=s.o*(s.t-s.f)^5
theorem Qjg (s:Sg) (i:Nat) (h:i<3):s.ax.getD i []∈s.ax:=by
 rcases(show i=0∨i=1∨i=2 by omega)with rfl|rfl|rfl<;>simp [Sg.ax]
end Go.Dg

namespace Go.Proofs.YtobaaecbdlhpdaaGreat
open Go.Vl Go.RowKit Go.Dg
def noSg:PV:= .agg [.int .i64 0,.int .i64 0,.int .i64 0,.nilS,.nilS,.nilS]
attribute [go_sem] noSg
end Go.Proofs.YtobaaecbdlhpdaaGreat

namespace Go.Vl
open Go.RowKit
theorem Qtc {P:Program} {tb:Tab} {f:FuncId} {fn:Func} {c:Code} {cap:List PV} {outs:List (List PV)} (nt:Nat) (ks:List Nat) (hm:P.follows .mixedOrders=true) (hf:P.funcs[f]? =some fn) (hb:fn.body=some c)
  (hc:callable P f=true) (hnt:fn.ntmps=nt) (hrs:fn.results.toList=[]) (hn:Nat.ble (cap.length+1) nt=true)
  (h: ∀l stop,go P tb nt ks [.code c] (Qnx outs stop) (St.ofG (Qch 0 (.yld l stop::cap)) [] [] (some (l,stop,outs)))):Qng P f cap outs:=
 Q7b nt hf hb hc hnt hrs hn fun l stop=>Qcl (tb:=tb) (ks:=ks) hm c _ _ (by
  have h:=h l stop;simp only [go]at h;have:(fun e s=>gleave P tb nt ks [] (Qnx outs stop) e s)=Qnx outs stop:=by funext e s;simp only [gleave]
  rwa [this]at h)
theorem Zej {P:Program} {tb:Tab} {nt:Nat} {ks:List Nat} {K:List It} {Q:Exit→St→Prop} (hm:P.follows .mixedOrders=true) {vs0:List (Nat×PV)} {bs0:List (Nat×Box)} {o0:List (List PV)} {g:Operand} {ps:Array Tmp} {assign body:Code} {f:FuncId} {cap xs:List PV} {es:List Eff} {la:Acc} {outs:List (List PV)}
  (hs:Qng P f xs outs) (hg:(St.ofG vs0 bs0 o0 none).ev g=some (.fn f [] cap)) (he:Qe7 cap (lkp bs0)=some ((xs,es),la))
  (bs1:List (Nat×Box)) (he1:Qaj es (St.ofG vs0 bs0 o0 none)=St.ofG vs0 bs1 o0 none)
  (θ:List (Nat×Nat)) (N:List Nat) (hN:(N.all fun b=>Nat.ble LENT b)=true) (vs:List (Nat×PV)) (B:Nat→List (Nat×Box))
  (hκ:Qeo θ=true) (hall:(θ.all fun p=>(lkp (B 0) p.1).isSome)=true) (hv:Qae θ vs0 vs) (hb:Qev θ bs1 (B 0)) (hvN:Qae (Qvy N) vs vs)
  (stop:Nat) (jump:Exit) (hjump:stop<outs.length→(Qtb jump).isSome=true) (hBN: ∀k,k≤outs.length→k≤stop+1→ ∀b∈N,(lkp (B k) b).isSome=true)
  (hps: ∀(k:Nat) (args:List PV),outs[k]? =some args→args.length=ps.size) (hpt:(ps.toList.all fun t=>Nat.blt t nt)=true)
  (hbody: ∀(k:Nat) (args:List PV),outs[k]? =some args→k≤stop→go P tb nt ks [.code assign,.again fun s=>(∀b∈N,(s.box b).isSome=true)∧go P tb nt ks [.code body] (vround B stop jump k) s] (fun _ _=>False) (St.ofG (pvars ps.toList args vs) (B k) [[]] (some (0,0,[]))))
  (θF:List (Nat×Nat)) (vsF:List (Nat×PV)) (bsF:List (Nat×Box)) (hκF:Qeo θF=true) (hallF:(θF.all fun p=>(lkp bsF p.1).isSome&&Nat.blt p.1 LENT)=true) (hvF:Qae θF vs vsF)
  (hbF:Qev θF (B (min outs.length (stop+1))) bsF)
  (hQ1:outs.length≤stop→go P tb nt ks K Q (St.ofG vsF bsF o0 none)) (hQ2:stop<outs.length→gleave P tb nt ks K Q jump (St.ofG vsF bsF o0 none)):go P tb nt ks (.code (.rangeFunc g ps assign body)::K) Q (St.ofG vs0 bs0 o0 none):=by
 simp only [go,vx];refine Qq2 hg he hs bs1 he1 θ N hN vs B hκ hall hv hb hvN stop jump hjump hBN hps hpt (fun j args h1 h2=> ?_) θF vsF bsF hκF hallF hvF hbF ?_
 ·have h:=hbody j args h1 h2;simp only [go]at h;refine Qlf (Qcl hm _ _ _ h) ?_;intro e s q;cases e with
  |normal=>
   simp only [gleave]at q;refine⟨q.1,Qcl (tb:=tb) (ks:=ks) hm _ _ _ ?_⟩;have h2:=q.2;exact h2
  |_=>simp only [gleave]at q
 ·by_cases hl:outs.length≤stop
  ·rw [if_pos hl,Qcs];exact hQ1 hl
  ·rw [if_neg hl];exact hQ2 (by omega)
theorem Q7d {P:Program} {tb:Tab} {nt:Nat} {ks:List Nat} {K:List It} {Q:Exit→St→Prop} (hm:P.follows .mixedOrders=true) {vs0:List (Nat×PV)} {bs0:List (Nat×Box)} {o0:List (List PV)} {g:Operand} {ps:Array Tmp} {assign body:Code} {f:FuncId} {cap xs:List PV} {es:List Eff} {la:Acc} {outs:List (List PV)}
  (hs:Qng P f xs outs) (hg:(St.ofG vs0 bs0 o0 none).ev g=some (.fn f [] cap)) (he:Qe7 cap (lkp bs0)=some ((xs,es),la))
  (bs1:List (Nat×Box)) (he1:Qaj es (St.ofG vs0 bs0 o0 none)=St.ofG vs0 bs1 o0 none)
  (θ:List (Nat×Nat)) (N:List Nat) (hN:(N.all fun b=>Nat.ble LENT b)=true) (vs:List (Nat×PV)) (B:Nat→List (Nat×Box))
  (hκ:Qeo θ=true) (hall:(θ.all fun p=>(lkp (B 0) p.1).isSome)=true) (hv:Qae θ vs0 vs) (hb:Qar θ bs1 (B 0)) (hvN:Qae (Qvy N) vs vs)
  (stop:Nat) (jump:Exit) (hjump:stop<outs.length→(Qtb jump).isSome=true) (hBN: ∀k,k≤outs.length→k≤stop+1→ ∀b∈N,(lkp (B k) b).isSome=true)
  (hps: ∀(k:Nat) (args:List PV),outs[k]? =some args→args.length=ps.size) (hpt:(ps.toList.all fun t=>Nat.blt t nt)=true)
  (hbody: ∀(k:Nat) (args:List PV),outs[k]? =some args→k≤stop→go P tb nt ks [.code assign,.again fun s=>(∀b∈N,(s.box b).isSome=true)∧go P tb nt ks [.code body] (vround B stop jump k) s] (fun _ _=>False) (St.ofG (pvars ps.toList args vs) (B k) [[]] (some (0,0,[]))))
  (θF:List (Nat×Nat)) (vsF:List (Nat×PV)) (bsF:List (Nat×Box)) (hκF:Qeo θF=true) (hallF:(θF.all fun p=>(lkp bsF p.1).isSome&&Nat.blt p.1 LENT)=true) (hvF:Qae θF vs vsF)
  (hbF:Qar θF (B (min outs.length (stop+1))) bsF)
  (hQ1:outs.length≤stop→go P tb nt ks K Q (St.ofG vsF bsF o0 none)) (hQ2:stop<outs.length→gleave P tb nt ks K Q jump (St.ofG vsF bsF o0 none)):go P tb nt ks (.code (.rangeFunc g ps assign body)::K) Q (St.ofG vs0 bs0 o0 none):=
 Zej hm hs hg he bs1 he1 θ N hN vs B hκ hall hv hb.toD hvN stop jump hjump hBN hps hpt hbody θF vsF bsF hκF hallF hvF hbF.toD hQ1 hQ2
theorem Zps {a b:Int} [Decidable (a<b)]:(if a<b then b else a)=max a b:=by split<;>omega
theorem Zpt {a b:Int} [Decidable (a<b)]:(if a<b then a else b)=min b a:=by split<;>omega
theorem Qvz {P:Program} {tb:Tab} {nt:Nat} {ks:List Nat} {ops:Array Oper} {base i:Nat} {rest:List Oper} {accs:List Acc} {draw:Bool} {k:List It} {Q:Exit→St→Prop} (vs:List (Nat×PV)) (bs:List (Nat×Box)) (o:List (List PV)) (y:Yl) (dst:Option Tmp) (n stop:Nat) (args:List PV) (l:Acc):
  gout P tb nt ks (some (.yield n stop args [],l)) ops base i dst rest accs draw k Q (St.ofG vs bs o y)=
  (yOk y n stop o args∧gops P tb nt ks ops base (i+1) rest ((l++[(YID,true)])::accs) draw k Q ((St.ofG vs bs (o++[args]) y).put dst (.bool (decide (o.length<stop))))):=by
 rw [Qoy];simp only [Qb9,List.map_nil,List.append_nil];rfl
attribute [go_sem 10000] Qvz
theorem Zek (n stop n' stop':Nat) (outs o:List (List PV)) (args:List PV):yOk (some (n',stop',outs)) n stop o args=(n=n'∧stop=stop'∧o.length≤stop∧outs[o.length]? =some args):=rfl
attribute [go_sem] Zek
end Go.Vl

namespace Go.Dg
def ptF (s:Sg) (a b:Int):Bool:=Qrk (ptL s a b) (ptO s)
def spF (x:Sg×Int×Int):Bool:=ptF x.1 x.2.1 x.2.2
end Go.Dg

namespace Go.Proofs.YtobaaecbdlhpdaaGreat
open Go.Vl Go.RowKit Go.Dg
attribute [go_sem] Zps Zpt
end Go.Proofs.YtobaaecbdlhpdaaGreat

namespace Go.Proofs.YtobaaecbdlhpdaaGreat
open Go.Vl Go.RowKit Go.Dg
theorem Ze0 (l:List Sg):(((l.map sgPV).flatMap PV.cells).all PV.okCell)=true:=by
 rw [List.all_flatMap,List.all_map,List.all_eq_true];intro _ _;rfl
end Go.Proofs.YtobaaecbdlhpdaaGreat

namespace Go.Proofs.YtobaaecbdlhpdaaGreat
open Go.Vl Go.RowKit Go.Dg
end Go.Proofs.YtobaaecbdlhpdaaGreat

namespace Go.Proofs.YtobaaecbdlhpdaaGreat
open Go.Vl Go.RowKit Go.Dg
end Go.Proofs.YtobaaecbdlhpdaaGreat

namespace Go.Proofs.YtobaaecbdlhpdaaGreat
open Go.Vl Go.RowKit Go.Dg
theorem Qyk {p:List Sg} (h:Qba p=true): ∀s∈p,Qa5 s=true:=by
 intro s hs;obtain⟨i,hi,rfl⟩:=List.getElem_of_mem hs;exact Qci h i hi
theorem Zqb (p:List Sg):Qaf Tryz.prog 23 [Qb0 p] (.fn 43 [] [.rp [Qb0 p]]):=by
 refine Qac (tb:=[]) 4 [.tmp 2] [0,1,2] mixed Tryz.func23 rfl (by kernel_rfl) (by kernel_rfl) (by kernel_rfl) (by kernel_rfl) ?_;repeat (first|(simp -implicitDefEqProofs only [go_sem,Nat.reduceAdd,Nat.reduceMul,Nat.reduceEqDiff,Nat.reduceLT,Nat.reduceLeDiff,Nat.reduceSub,Nat.reduceBEq,reduceIte,reduceCtorEq,Int.reduceEq,Int.reduceNe,Nat.reduceBneDiff,Int.reduceLE,Int.reduceLT,Int.reduceToNat,Int.reduceAdd,Int.reduceSub,Int.reduceMul,Int.reduceNeg,Qb0]))
def bwdO (p:List Sg) (j:Nat):List PV:=[.int .i64 ((p.length-1-j:Nat):Int),sgPV (p.getD (p.length-1-j) sg0)]
def Qd3 (p:List Sg):List (List PV):=(List.range p.length).map (bwdO p)
theorem Qyl {p:List Sg} {k:Nat} (h:k<p.length):(Qd3 p).take (k+1)=(Qd3 p).take k++[bwdO p k]:=by
 have hk:k<(Qd3 p).length:=by simp [Qd3,h]
 rw [Qca _ k hk];simp [Qd3]
set_option maxHeartbeats 1000000 in
theorem Znd (p:List Sg) (hl:p.length≤100000):Qng Tryz.prog 43 [.rp [Qb0 p]] (Qd3 p):=by
 have w0:IntKind.i64.wrap ((p.length:Int)-1)=(p.length:Int)-1:=Qah (by omega) (by omega);refine Qtc (tb:=[]) 19 [0,1,3,8,18] mixed Tryz.func43 rfl (by kernel_rfl) (by kernel_rfl) (by kernel_rfl) (by kernel_rfl) fun l stop=> ?_;repeat (first|(simp -implicitDefEqProofs only [go_sem,Nat.reduceAdd,Nat.reduceMul,Nat.reduceEqDiff,Nat.reduceLT,Nat.reduceLeDiff,Nat.reduceSub,Nat.reduceBEq,reduceIte,reduceCtorEq,Int.reduceEq,Int.reduceNe,Nat.reduceBneDiff,Int.reduceLE,Int.reduceLT,Int.reduceToNat,Int.reduceAdd,Int.reduceSub,Int.reduceMul,Int.reduceNeg,Qb0,w0,List.length_map]))
 refine Qa4 mixed (fun k:{k:Nat // k≤p.length∧k≤stop}=>St.ofG [(0,.yld l stop),(1,.rp [Qb0 p]),(3,.int .i64 ((p.length:Int)-1-(k.1:Int)))] [] ((Qd3 p).take k.1) (some (l,stop,Qd3 p))) (fun k=>p.length-k.1) ⟨0,Nat.zero_le _,Nat.zero_le _⟩ ?_ ?_
 ·refine Qa3 ?_;simp [Qae,lkp,ren1,ren0,Qax,Qb0]
 ·rintro⟨k,hk,hst⟩;simp only;by_cases hA:k<p.length
  ·have e1:(p.length:Int)-1-(k:Int)=((p.length-1-k:Nat):Int):=by omega
   have n0:=nnT (p.length-1-k);have hi:p.length-1-k<p.length:=by omega
   have hg:=Qfh p (p.length-1-k) hi;have hgt:(Qd3 p)[((Qd3 p).take k).length]? =some (bwdO p k):=by
    have:((Qd3 p).take k).length=k:=by rw [List.length_take];simp [Qd3];omega
    rw [this];simp [Qd3,hA]
   have hlen:((Qd3 p).take k).length=k:=by rw [List.length_take];simp [Qd3];omega
   have hst':(k≤stop)=True:=eq_true hst;have htk:=Qyl hA;have hO:bwdO p k=[.int .i64 ((p.length-1-k:Nat):Int),sgPV p[p.length-1-k]]:=by unfold bwdO;rw [sgD hi]
   rw [hO]at hgt htk;unfold sgPV Qa2 at hgt htk;have w1:IntKind.i64.wrap (((p.length-1-k:Nat):Int)-1)=(p.length:Int)-1-((k+1:Nat):Int):=by rw [Qah (by omega) (by omega)];omega
   rw [hlen]at hgt;generalize p[p.length-1-k]=s at*;rw [e1];by_cases hlt:k<stop
   ·have hlt':(k<stop)=True:=eq_true hlt;repeat (first|(simp -implicitDefEqProofs only [go_sem,Nat.reduceAdd,Nat.reduceMul,Nat.reduceEqDiff,Nat.reduceLT,Nat.reduceLeDiff,Nat.reduceSub,Nat.reduceBEq,reduceIte,reduceCtorEq,Int.reduceEq,Int.reduceNe,Nat.reduceBneDiff,Int.reduceLE,Int.reduceLT,Int.reduceToNat,Int.reduceAdd,Int.reduceSub,Int.reduceMul,Int.reduceNeg,n0,hg,hlen,hgt,hst',hlt',w1,Int.toNat_natCast,List.length_map]))
    refine⟨⟨k+1,hA,hlt⟩,by simp only;omega,?_⟩;simp only [htk];refine Qa3 ?_;simp [Qae,lkp,ren1,ren0,Qax,Qb0]
   ·have hlt':(k<stop)=False:=eq_false hlt;have e:k=stop:=by omega
    subst e;repeat (first|(simp -implicitDefEqProofs only [go_sem,Nat.reduceAdd,Nat.reduceMul,Nat.reduceEqDiff,Nat.reduceLT,Nat.reduceLeDiff,Nat.reduceSub,Nat.reduceBEq,reduceIte,reduceCtorEq,Int.reduceEq,Int.reduceNe,Nat.reduceBneDiff,Int.reduceLE,Int.reduceLT,Int.reduceToNat,Int.reduceAdd,Int.reduceSub,Int.reduceMul,Int.reduceNeg,n0,hg,hlen,hgt,hst',hlt',w1,Qnx,htk,Int.toNat_natCast,List.length_map]))
  ·have e1:(p.length:Int)-1-(k:Int)= -1:=by omega
   have ht:(Qd3 p).take (stop+1)=(Qd3 p).take k:=by
    rw [List.take_of_length_le (by simp [Qd3];omega),List.take_of_length_le (by simp [Qd3];omega)]
   rw [e1];repeat (first|(simp -implicitDefEqProofs only [go_sem,Nat.reduceAdd,Nat.reduceMul,Nat.reduceEqDiff,Nat.reduceLT,Nat.reduceLeDiff,Nat.reduceSub,Nat.reduceBEq,reduceIte,reduceCtorEq,Int.reduceEq,Int.reduceNe,Nat.reduceBneDiff,Int.reduceLE,Int.reduceLT,Int.reduceToNat,Int.reduceAdd,Int.reduceSub,Int.reduceMul,Int.reduceNeg,Qnx,ht,List.length_map]))
end Go.Proofs.YtobaaecbdlhpdaaGreat

namespace Go.Proofs.YtobaaecbdlhpdaaGreat
open Go.Vl Go.RowKit Go.Dg
end Go.Proofs.YtobaaecbdlhpdaaGreat

namespace Go.Proofs.YtobaaecbdlhpdaaGreat
open Go.Vl Go.RowKit Go.Dg
end Go.Proofs.YtobaaecbdlhpdaaGreat

namespace Go.Proofs.YtobaaecbdlhpdaaGreat
open Go.Vl Go.RowKit Go.Dg
def revL (s:Sg):Nat→List Int:=cmpL s 1 (-1) 1
def revS (W:Int) (s:Sg):Sg:=Qdo (W-s.t) (W-s.f) (revL s) s.o
def Q2r (s:Sg):Prop:= ∀i,i<3→ ∀x∈revL s i,(x/(mdG (revL s) s.o 3:Int)).natAbs≤4611686018427387904
def revK (p:List Sg) (k:Nat):List Sg:=(List.range k).map fun j=>revS (pBeg p+pEnd p) (p.getD (p.length-1-j) sg0)
def revP (p:List Sg):List Sg:=revK p p.length
theorem Q2s (p:List Sg) (k:Nat):revK p (k+1)=revK p k++[revS (pBeg p+pEnd p) (p.getD (p.length-1-k) sg0)]:=by simp [revK,List.range_succ]
theorem Qws (p:List Sg) (k:Nat):(revK p k).length=k:=by simp [revK]
theorem Q8h {s:Sg} (hv:Qa5 s=true):Qrk (revL s) s.o=true:=by
 obtain⟨⟨v1,v2,v3,v4,v5⟩, -, -⟩:=Qal hv;refine decide_eq_true ?_;unfold mdO;exact Int.le_trans (Int.ediv_le_self _ (by omega)) v5
theorem Q8i:i64 1:=by unfold i64;omega
theorem Ze1:i64 (-1):=by unfold i64;omega
theorem Zg0 {s:Sg} (hs:okSg s) (hv:Qa5 s=true): ∀i,i<3→bd 12000 (revL s i)∧(revL s i).length≤6:=by
 intro i hi;have hm:=Qjg s i hi;obtain⟨l1,l6, -, -⟩:=Qcj ((Qal hv).2.1 _ hm);exact⟨(Qwr l6 (fun x hx=>Qbh (hs.c _ hm x hx)) (Qbh Q8i) (Qbh Ze1) (Qbh Q8i)).2,Zgy l6⟩
theorem Zne (s:Sg) (W:Int) (hs:okSg s) (hv:Qa5 s=true) (hf:Q2r s):
  Qaf Tryz.prog 24 [.int .i64 (W-s.t),.int .i64 (W-s.f),.agg [wL (revL s 0),wL (revL s 1),wL (revL s 2)],wPV s.o] (.tup [sgPV (revS W s),.bool true]):=by
 have hbd:=Zg0 hs hv;obtain⟨⟨v1,v2,v3,v4,v5⟩, -, -⟩:=Qal hv;have h:=Zgz (W-s.t) (W-s.f) (revL s) s.o 12000 (by decide) (by omega) (Qhu (C:=12000) (Qbh hs.o) (by decide)) (fun i hi=>(hbd i hi).1) (fun i hi=>by have:=(hbd i hi).2;omega) (fun _=>hf);rw [if_pos (Q8h hv)]at h;exact h
def rvB (p:List Sg):Nat→List (Nat×Box)
 |0=>[(1000000,{els:=[.int .i64 (pBeg p)],esz:=1,ety:=3,fro:=0,live:=true,arr:=false}),(1000001,{els:=[.int .i64 (pEnd p)],esz:=1,ety:=3,fro:=0,live:=true,arr:=false}),(1000002,{els:=[.nilS],esz:=1,ety:=27,fro:=0,live:=true,arr:=false})]
 |k+1=>[(1000000,{els:=[.int .i64 (pBeg p)],esz:=1,ety:=3,fro:=0,live:=true,arr:=false}),(1000001,{els:=[.int .i64 (pEnd p)],esz:=1,ety:=3,fro:=0,live:=true,arr:=false}),(1000002,{els:=[.bs 7 6 0 (k+1)],esz:=1,ety:=27,fro:=0,live:=true,arr:=false}),(7,{els:=(revK p (k+1)).map sgPV,esz:=6,ety:=46,fro:=0,live:=true,arr:=true})]
theorem Zqc (p:List Sg) (k:Nat): ∀b∈ [1000000,1000001,1000002],(lkp (rvB p k) b).isSome=true:=by
 cases k<;>simp [rvB,lkp]
def Ql6 (p:List Sg):PV:=if Qba p=true then .tup [Qb0 (revP p),.int .i64 0]else .tup [Qb0 [],.int .i64 2]
theorem Ql7 {p:List Sg} (hV:Qba p=true):0≤pBeg p∧pBeg p≤3600000∧0≤pEnd p∧pEnd p≤3600000:=by
 have h:=(Qbs hV).2.1;have h1:p.length-1<p.length:=by omega
 have h0:0<p.length:=by omega
 obtain⟨⟨a1,a2,a3, -, -⟩, -, -⟩:=Qal (Qci hV _ h0);obtain⟨⟨b1,b2,b3, -, -⟩, -, -⟩:=Qal (Qci hV _ h1);unfold pBeg pEnd;rw [sgD h0,sgD h1];omega
set_option maxHeartbeats 4000000 in
theorem Qym (p:List Sg) (hp: ∀s∈p,okSg s) (hl:p.length≤100000) (hfit:Qba p=true→ ∀s∈p,Q2r s):Qaf Tryz.prog 7 [Qb0 p] (Ql6 p):=by
 have hs:=Q2w p hp (by omega);unfold Ql6;unfold Qb0 at hs;cases hV:Qba p with
 |false=>
  rw [hV]at hs;simp only [Bool.false_eq_true,if_false]at hs;unfold Qb0;refine Qac (tb:=[]) 51 [.tmp 2,.tmp 3] [0,2,3,4,5,6,7,9,10,19,22,23,24] mixed Tryz.func7 rfl (by kernel_rfl) (by kernel_rfl) (by kernel_rfl) (by kernel_rfl) ?_;repeat (first|(simp -implicitDefEqProofs only [go_sem,Nat.reduceAdd,Nat.reduceMul,Nat.reduceEqDiff,Nat.reduceLT,Nat.reduceLeDiff,Nat.reduceSub,Nat.reduceBEq,reduceIte,reduceCtorEq,Int.reduceEq,Int.reduceNe,Nat.reduceBneDiff,Int.reduceLE,Int.reduceLT,Int.reduceToNat,Int.reduceAdd,Int.reduceSub,Int.reduceMul,Int.reduceNeg,Znk,Bool.false_eq_true,if_false,List.map_nil])|((with_reducible refine Qab hs ?_ ?_ ?_);rfl;rfl)|(with_reducible exact Qaa _ _ (by kernel_rfl))|(with_reducible refine And.intro (Qaa _ _ (by kernel_rfl)) ?_))
 |true=>
  rw [hV]at hs;simp only [if_true]at hs ⊢;have hv:=Qyk hV;have hft:=hfit hV;obtain⟨e1,e2,e3,e4⟩:=Ql7 hV;have h1:=Zqb p;have hY:=Znd p hl;unfold Qb0 at h1 hY ⊢;obtain⟨n,hn1⟩: ∃n,p.length=n+1:=⟨p.length-1,by have:=(Qbs hV).2.1;omega⟩;have hlo:(Qd3 p).length=n+1:=by simp [Qd3,hn1]
  have hmin:min (Qd3 p).length (n+1+1)=n+1:=by omega
  have wab:IntKind.i64.wrap (pBeg p+pEnd p)=pBeg p+pEnd p:=Qah (by omega) (by omega);refine Qac (tb:=[]) 51 [.tmp 2,.tmp 3] [0,2,3,4,5,6,7,9,10,19,22,23,24] mixed Tryz.func7 rfl (by kernel_rfl) (by kernel_rfl) (by kernel_rfl) (by kernel_rfl) ?_;repeat (first|(simp -implicitDefEqProofs only [go_sem,Nat.reduceAdd,Nat.reduceMul,Nat.reduceEqDiff,Nat.reduceLT,Nat.reduceLeDiff,Nat.reduceSub,Nat.reduceBEq,reduceIte,reduceCtorEq,Int.reduceEq,Int.reduceNe,Nat.reduceBneDiff,Int.reduceLE,Int.reduceLT,Int.reduceToNat,Int.reduceAdd,Int.reduceSub,Int.reduceMul,Int.reduceNeg,Znj,Bool.false_eq_true,if_false])|((with_reducible refine Qab hs ?_ ?_ ?_);rfl;rfl)|((with_reducible refine Qab h1 ?_ ?_ ?_);rfl;rfl)|(with_reducible exact Qaa _ _ (by kernel_rfl))|(with_reducible refine And.intro (Qaa _ _ (by kernel_rfl)) ?_))
  refine Q7d mixed hY rfl rfl _ rfl [(1000000,106),(1000001,107),(1000002,400)] [1000000,1000001,1000002] rfl [(4,.bp 1000000 1 0 0),(5,.bp 1000001 1 0 0),(7,.bp 1000002 1 0 0)] (rvB p) rfl rfl ?_ ?_ ?_ (n+1) .normal (fun h=>by omega) (fun k _ _=>Zqc p k) ?_ rfl ?_
   [(400,1000002),(7,7)] [(7,.bp 400 1 0 0)] [(400,{els:=[.bs 7 6 0 (n+1)],esz:=1,ety:=27,fro:=0,live:=true,arr:=false}),(7,{els:=(revP p).map sgPV,esz:=6,ety:=46,fro:=0,live:=true,arr:=true})] rfl rfl ?_ ?_ (fun _=> ?_) (fun h=>by omega)
  ·simp [Qae,lkp,ren1,ren0,Qax]
  ·exact⟨⟨rfl,rfl,rfl,rfl,rfl,.inr ⟨rfl,_,_,rfl,rfl,rfl,rfl⟩⟩,⟨rfl,rfl,rfl,rfl,rfl,.inr ⟨rfl,_,_,rfl,rfl,rfl,rfl⟩⟩,⟨rfl,rfl,rfl,rfl,rfl,.inr ⟨rfl,_,_,rfl,rfl,rfl,rfl⟩⟩,trivial⟩
  ·simp [Qae,lkp,ren1,ren0,Qax,Qvy]
  ·intro k args h;simp only [Qd3,List.getElem?_map,Option.map_eq_some_iff]at h;obtain⟨x, -,rfl⟩:=h;rfl
  ·rintro k args hka hk;have hkl:k<n+1:=by have:=(List.getElem?_eq_some_iff.1 hka).1;omega
   have hargs:args=bwdO p k:=by
    simp only [Qd3,List.getElem?_map,List.getElem?_range (show k<p.length by omega),Option.map_some,Option.some.injEq]at hka;exact hka.symm
   have hi:p.length-1-k<p.length:=by omega
   have hO:bwdO p k=[.int .i64 ((p.length-1-k:Nat):Int),sgPV p[p.length-1-k]]:=by unfold bwdO;rw [sgD hi]
   rw [hargs,hO];have hmem:=List.getElem_mem hi;have hsn:=Q2s p k;rw [sgD hi]at hsn;have hok:=hp _ hmem;have hvs:=hv _ hmem;have f4:=Zne p[p.length-1-k] (pBeg p+pEnd p) hok hvs (hft _ hmem);generalize p[p.length-1-k]=s at*;generalize ((p.length-1-k:Nat):Int)=ix at*;clear hO hargs hka hi hmem;obtain⟨⟨v1,v2,v3,v4,v5⟩,hax, -⟩:=Qal hvs;have w1:IntKind.i64.wrap (pBeg p+pEnd p-s.t)=pBeg p+pEnd p-s.t:=Qah (by omega) (by omega);have w2:IntKind.i64.wrap (pBeg p+pEnd p-s.f)=pBeg p+pEnd p-s.f:=Qah (by omega) (by omega);have f1:=Qyi s 1 (-1) 1 hok (fun c hc=>(Qcj (hax c hc)).2.1) Q8i Ze1 Q8i (by omega);have eL:cmpL s 1 (-1) 1=revL s:=rfl;rw [eL]at f1;have f2:=Qez s.o hok.o.1 hok.o.2;have hsn2:(revK p (k+1)).map sgPV=(revK p k).map sgPV++[.agg [.int .i64 (revS (pBeg p+pEnd p) s).f,.int .i64 (revS (pBeg p+pEnd p) s).t,.int .i64 (revS (pBeg p+pEnd p) s).o,.slc ((revS (pBeg p+pEnd p) s).x.map (PV.int .i64)),.slc ((revS (pBeg p+pEnd p) s).y.map (PV.int .i64)),.slc ((revS (pBeg p+pEnd p) s).z.map (PV.int .i64))]]:=by rw [hsn,List.map_append];rfl
   generalize revL s=L at*;generalize revS (pBeg p+pEnd p) s=R at*;unfold sgPV at f1 f4;unfold wL at f1 f4;have hlen:((revK p k).map sgPV).length=k:=by rw [List.length_map,Qws]
   have hokf:=Ze0 (revK p k);have c1:((k+1)*96≤140737488355328)=True:=eq_true (by omega);have c2:(k+1≤maxLen)=True:=eq_true (by unfold maxLen;omega);cases k with
   |zero=>
    simp only [rvB];have e0:(revK p 0).map sgPV=[]:=rfl;rw [e0,List.nil_append]at hsn2;repeat (first|(simp -implicitDefEqProofs only [go_sem,Nat.reduceAdd,Nat.reduceMul,Nat.reduceEqDiff,Nat.reduceLT,Nat.reduceLeDiff,Nat.reduceSub,Nat.reduceBEq,reduceIte,reduceCtorEq,Int.reduceEq,Int.reduceNe,Nat.reduceBneDiff,Int.reduceLE,Int.reduceLT,Int.reduceToNat,Int.reduceAdd,Int.reduceSub,Int.reduceMul,Int.reduceNeg,pvars,List.toList_toArray,sgPV])|(with_reducible exact Qaa _ _ (by kernel_rfl))|(with_reducible refine And.intro (Qaa _ _ (by kernel_rfl)) ?_))
    refine⟨by simp [lkp],?_⟩;repeat (first|(simp -implicitDefEqProofs only [go_sem,Nat.reduceAdd,Nat.reduceMul,Nat.reduceEqDiff,Nat.reduceLT,Nat.reduceLeDiff,Nat.reduceSub,Nat.reduceBEq,reduceIte,reduceCtorEq,Int.reduceEq,Int.reduceNe,Nat.reduceBneDiff,Int.reduceLE,Int.reduceLT,Int.reduceToNat,Int.reduceAdd,Int.reduceSub,Int.reduceMul,Int.reduceNeg,wPV,wab,w1,w2])|((with_reducible refine Qab f1 ?_ ?_ ?_);rfl;rfl)|((with_reducible refine Qab f2 ?_ ?_ ?_);rfl;rfl)|((with_reducible refine Qab f4 ?_ ?_ ?_);rfl;rfl)|(with_reducible exact Qaa _ _ (by kernel_rfl))|(with_reducible refine And.intro (Qaa _ _ (by kernel_rfl)) ?_))
    refine⟨by omega,?_⟩;refine Qas (θ:=[(1000000,1000000),(1000001,1000001),(1000002,1000002),(7,803)]) rfl ?_ ?_
    ·simp [Qae,lkp,ren1,ren0,Qax]
    ·simp only [rvB,hsn2];exact⟨⟨rfl,rfl,rfl,rfl,rfl,.inr ⟨rfl,_,_,rfl,rfl,rfl,rfl⟩⟩,⟨rfl,rfl,rfl,rfl,rfl,.inr ⟨rfl,_,_,rfl,rfl,rfl,rfl⟩⟩,⟨rfl,rfl,rfl,rfl,rfl,.inr ⟨rfl,_,_,rfl,rfl,rfl,rfl⟩⟩,⟨rfl,rfl,rfl,rfl,rfl,.inl ⟨rfl,rfl⟩⟩,trivial⟩
   |succ k=>
    simp only [rvB];generalize (revK p (k+1)).map sgPV=T at*;repeat (first|(simp -implicitDefEqProofs only [go_sem,Nat.reduceAdd,Nat.reduceMul,Nat.reduceEqDiff,Nat.reduceLT,Nat.reduceLeDiff,Nat.reduceSub,Nat.reduceBEq,reduceIte,reduceCtorEq,Int.reduceEq,Int.reduceNe,Nat.reduceBneDiff,Int.reduceLE,Int.reduceLT,Int.reduceToNat,Int.reduceAdd,Int.reduceSub,Int.reduceMul,Int.reduceNeg,pvars,List.toList_toArray,sgPV])|(with_reducible exact Qaa _ _ (by kernel_rfl))|(with_reducible refine And.intro (Qaa _ _ (by kernel_rfl)) ?_))
    refine⟨by simp [lkp],?_⟩;repeat (first|(simp -implicitDefEqProofs only [go_sem,Nat.reduceAdd,Nat.reduceMul,Nat.reduceEqDiff,Nat.reduceLT,Nat.reduceLeDiff,Nat.reduceSub,Nat.reduceBEq,reduceIte,reduceCtorEq,Int.reduceEq,Int.reduceNe,Nat.reduceBneDiff,Int.reduceLE,Int.reduceLT,Int.reduceToNat,Int.reduceAdd,Int.reduceSub,Int.reduceMul,Int.reduceNeg,wPV,wab,w1,w2,hlen,hokf,c1,c2])|((with_reducible refine Qab f1 ?_ ?_ ?_);rfl;rfl)|((with_reducible refine Qab f2 ?_ ?_ ?_);rfl;rfl)|((with_reducible refine Qab f4 ?_ ?_ ?_);rfl;rfl)|(with_reducible exact Qaa _ _ (by kernel_rfl))|(with_reducible refine And.intro (Qaa _ _ (by kernel_rfl)) ?_))
    refine⟨by omega,?_⟩;refine Qas (θ:=[(1000000,1000000),(1000001,1000001),(1000002,1000002),(7,803)]) rfl ?_ ?_
    ·simp [Qae,lkp,ren1,ren0,Qax]
    ·simp only [rvB,hsn2];exact⟨⟨rfl,rfl,rfl,rfl,rfl,.inr ⟨rfl,_,_,rfl,rfl,rfl,rfl⟩⟩,⟨rfl,rfl,rfl,rfl,rfl,.inr ⟨rfl,_,_,rfl,rfl,rfl,rfl⟩⟩,⟨rfl,rfl,rfl,rfl,rfl,.inr ⟨rfl,_,_,rfl,rfl,rfl,rfl⟩⟩,⟨rfl,rfl,rfl,rfl,rfl,.inl ⟨rfl,rfl⟩⟩,trivial⟩
  ·simp [Qae,lkp,ren1,ren0,Qax]
  ·rw [hmin];have e:revK p (n+1)=revP p:=by unfold revP;rw [hn1]
   simp only [rvB,e];exact⟨⟨rfl,rfl,rfl,rfl,rfl,.inr ⟨rfl,_,_,rfl,rfl,rfl,rfl⟩⟩,⟨rfl,rfl,rfl,rfl,rfl,.inl ⟨rfl,rfl⟩⟩,trivial⟩
  ·have b1:((revP p).map sgPV).length=n+1:=by rw [List.length_map,revP,Qws,hn1]
   have b2:(((revP p).map sgPV).flatMap PV.cells).all PV.okCell=true:=Ze0 _;have b3:((revP p).map sgPV).take (n+1)=(revP p).map sgPV:=List.take_of_length_le (by omega);generalize (revP p).map sgPV=T at*;repeat (first|(simp -implicitDefEqProofs only [go_sem,Nat.reduceAdd,Nat.reduceMul,Nat.reduceEqDiff,Nat.reduceLT,Nat.reduceLeDiff,Nat.reduceSub,Nat.reduceBEq,reduceIte,reduceCtorEq,Int.reduceEq,Int.reduceNe,Nat.reduceBneDiff,Int.reduceLE,Int.reduceLT,Int.reduceToNat,Int.reduceAdd,Int.reduceSub,Int.reduceMul,Int.reduceNeg,b1,b2,b3])|(with_reducible exact Qaa _ _ (by kernel_rfl))|(with_reducible refine And.intro (Qaa _ _ (by kernel_rfl)) ?_))
end Go.Proofs.YtobaaecbdlhpdaaGreat
