/-
  LM16, Dsn, LM17, Dso, LM18, LM19, LM20 (merged for the claim).
-/
import Derived.Test.YtjlkapdmgjocdaaGreatLM15
import Derived.Test.YtjlkapdmgjocdaaGreatLF4
set_option linter.unusedSimpArgs false
set_option linter.unusedVariables false
namespace Go.Proofs.YtjlkapdmgjocdaaGreat
open Go.Vl Go.RowKit Go.Dg
theorem T_zp:Qaw Tryz.prog 178=none:=by kernel_rfl
theorem T_zu:Zbb Tryz.prog 178=some (.agg [.undef,.undef,.undef]):=by kernel_rfl
theorem Zyq (L:Nat→List Int) (i:Nat) (h:i<3):([.slc ((L 0).map wPV),.slc ((L 1).map wPV),.slc ((L 2).map wPV)]:List PV)[i*1]? =some (.slc ((L i).map wPV)):=by
 rcases(show i=0∨i=1∨i=2 by omega)with rfl|rfl|rfl<;>rfl
theorem Zmd {L:Nat→List Int} {o:Int} {B:Nat} (ho:o.natAbs<2^B) (hL: ∀i,i<3→bd B (L i)): ∀i,i≤3→mdG L o i<2^B
 |0,_=>ho
 |i+1,h=>Qkh _ (Zmd ho hL i (by omega)) (hL i (by omega))
def mdV (C:Nat→List Int) (i m:Nat):PV:=if m<i then .bs (8+m) 1 0 (C m).length else .nilS
def mdB (ety:Nat) (C:Nat→List Int):Nat→List (Nat×Box)
 |0=>[]
 |1=>[(8,{els:=(C 0).map (PV.int .i64),esz:=1,ety:=ety,fro:=0,live:=true,arr:=true})]
 |2=>[(8,{els:=(C 0).map (PV.int .i64),esz:=1,ety:=ety,fro:=0,live:=true,arr:=true}),(9,{els:=(C 1).map (PV.int .i64),esz:=1,ety:=ety,fro:=0,live:=true,arr:=true})]
 |_=>[(8,{els:=(C 0).map (PV.int .i64),esz:=1,ety:=ety,fro:=0,live:=true,arr:=true}),(9,{els:=(C 1).map (PV.int .i64),esz:=1,ety:=ety,fro:=0,live:=true,arr:=true}),(10,{els:=(C 2).map (PV.int .i64),esz:=1,ety:=ety,fro:=0,live:=true,arr:=true})]
theorem Qri (l:List Int):(((l.map (PV.int .i64)).flatMap PV.cells).all PV.okCell)=true:=by
 rw [List.all_flatMap,List.all_map,List.all_eq_true];intro _ _;rfl
abbrev iT:Nat:=3
def mdW (C:Nat→List Int) (i:Nat) (X:PV) (m:Nat):PV:=if m=i then X else mdV C i m
set_option maxHeartbeats 4000000 in
theorem Zor (f t:Int) (L:Nat→List Int) (o:Int) (B:Nat) (hB:B≤60000) (ho:0<o) (hob:o.natAbs<2^B) (hL: ∀i,i<3→bd B (L i)) (hl: ∀i,i<3→(L i).length≤100)
  (hq:Qm8 L o=true→ ∀i,i<3→ ∀x∈L i,(x/(mdG L o 3:Int)).natAbs≤4611686018427387904):
  Qaf Tryz.prog 91 [.int .i64 f,.int .i64 t,.agg [wL (L 0),wL (L 1),wL (L 2)],wPV o]
   (if Qm8 L o=true then .tup [sgPV (Qdk f t L o),.bool true]else .tup [sgPV ⟨f,t,0,[],[],[]⟩,.bool false]):=by
 have hG:=Zmd hob hL;have hGp:=Qki (L:=L) ho;have hO0:((mdG L o 0:Nat):Int)=o:=by show((o.natAbs:Nat):Int)=o;omega
 have o3:=Qfi 4294967296 (by decide) (by decide);have hg3:((mdG L o 3:Nat):Int).natAbs<2^B:=by rw [Int.natAbs_natCast];exact hG 3 (by decide)
 have qO:=Qi9 hob (by omega) (Qps hg3 (by omega)) (show(0:Int)<((mdG L o 3:Nat):Int)by have:=hGp 3;omega);have hOe:o/((mdG L o 3:Nat):Int)=mdO L o:=rfl;rw [hOe]at qO;have hOb:(mdO L o).natAbs<2^(B+1):=Q6q hob (by have:=hGp 3;omega);have cmO:=Qpu (Qap hOb (by omega)) (Qap (show(4294967296:Int).natAbs<2^64 by decide) (by decide));unfold wL;refine Qab (tb:=[]) 98 [.cell 8 91,.tmp 9] [0,1,2,3,6,7,8,9,10,12,14,15,16,17,18,20,21,24,25,26,28,29,30,31,48,59,60,61,66,67,68,69,92] mixed Tryz.func91 rfl (by kernel_rfl) (by kernel_rfl) (by kernel_rfl) (by kernel_rfl) ?_;repeat (first|(simp -implicitDefEqProofs only [go_sem,Nat.reduceAdd,Nat.reduceMul,Nat.reduceEqDiff,Nat.reduceLT,Nat.reduceLeDiff,reduceCtorEq,wPV,if_true,Qdk]))
 refine Qar mixed (fun i:{i:Nat // i≤3}=>St.of [(0,.int .i64 f),(1,.int .i64 t),(6,.bp 0 3 0 0),(7,.bp 1 2 0 0),(8,.bp 2 6 0 0),(10,.bp 101 2 0 0),(24,.agg [wL (L 0),wL (L 1),wL (L 2)]),(25,.int .i64 (i.1:Int))]
  [(0,{els:=[.agg [wL (L 0),wL (L 1),wL (L 2)]],esz:=3,ety:=158,fro:=0,live:=true,arr:=false}),(1,{els:=[wPV o],esz:=2,ety:=93,fro:=0,live:=true,arr:=false}),(2,{els:=[.agg [.int .i64 0,.int .i64 0,.int .i64 0,.nilS,.nilS,.nilS]],esz:=6,ety:=91,fro:=0,live:=true,arr:=false}),(101,{els:=[wPV ((mdG L o i.1:Nat):Int)],esz:=2,ety:=93,fro:=0,live:=true,arr:=false})]) (fun i=>3-i.1) ⟨0,Nat.zero_le _⟩ ?_ ?_
 ·refine Qaj (θ:=[(0,0),(1,1),(2,2),(101,101)]) rfl ?_ ?_
  ·simp [Qac,lkp,ren1,ren0,Qai,wL]
  ·refine⟨⟨rfl,rfl,rfl,rfl,rfl,.inr ⟨rfl,_,_,rfl,rfl,rfl,rfl⟩⟩,⟨rfl,rfl,rfl,rfl,rfl,.inr ⟨rfl,_,_,rfl,rfl,rfl,rfl⟩⟩,⟨rfl,rfl,rfl,rfl,rfl,.inr ⟨rfl,_,_,rfl,rfl,rfl,rfl⟩⟩,⟨rfl,rfl,rfl,rfl,rfl,.inr ⟨rfl,_,_,rfl,rfl,?_,rfl⟩⟩,trivial⟩;simp only [hO0];rfl
 ·rintro⟨i,hi⟩;by_cases hA:i<3
  ·have hA':((i:Int)<3)=True:=eq_true (by omega);have hA2:=ltT hA;have n0:=nnT i;have hx:=Zyq L i hA;have hwk:=Qan (a:=i) (by omega);have hLi:=hL i hA;have hli:=hl i hA;have hGi:=hG i (by omega);have hGs:mdG L o (i+1)=gcdL (mdG L o i) (L i):=rfl;generalize hC:L i=c at*;generalize mdG L o i=Y0 at*;repeat (first|(simp -implicitDefEqProofs only [go_sem,Nat.reduceAdd,Nat.reduceMul,Nat.reduceEqDiff,Nat.reduceLT,Nat.reduceLeDiff,reduceCtorEq,wL,hA',n0,hx,Int.toNat_natCast,List.length_map]))
   refine Qar mixed (fun k:{k:Nat // k≤c.length}=>St.of [(0,.int .i64 f),(1,.int .i64 t),(6,.bp 0 3 0 0),(7,.bp 1 2 0 0),(8,.bp 2 6 0 0),(10,.bp 101 2 0 0),(24,.agg [wL (L 0),wL (L 1),wL (L 2)]),(25,.int .i64 (i:Int)),(28,wL c),(29,.int .i64 (c.length:Int)),(30,.int .i64 (k.1:Int))]
    [(0,{els:=[.agg [wL (L 0),wL (L 1),wL (L 2)]],esz:=3,ety:=158,fro:=0,live:=true,arr:=false}),(1,{els:=[wPV o],esz:=2,ety:=93,fro:=0,live:=true,arr:=false}),(2,{els:=[.agg [.int .i64 0,.int .i64 0,.int .i64 0,.nilS,.nilS,.nilS]],esz:=6,ety:=91,fro:=0,live:=true,arr:=false}),(101,{els:=[wPV ((gcdL Y0 (c.take k.1):Nat):Int)],esz:=2,ety:=93,fro:=0,live:=true,arr:=false})]) (fun k=>c.length-k.1) ⟨0,Nat.zero_le _⟩ ?_ ?_
   ·refine Qaj (θ:=[(0,0),(1,1),(2,2),(101,101)]) rfl ?_ ?_
    ·simp [Qac,lkp,ren1,ren0,Qai,wL]
    ·exact⟨⟨rfl,rfl,rfl,rfl,rfl,.inr ⟨rfl,_,_,rfl,rfl,rfl,rfl⟩⟩,⟨rfl,rfl,rfl,rfl,rfl,.inr ⟨rfl,_,_,rfl,rfl,rfl,rfl⟩⟩,⟨rfl,rfl,rfl,rfl,rfl,.inr ⟨rfl,_,_,rfl,rfl,rfl,rfl⟩⟩,⟨rfl,rfl,rfl,rfl,rfl,.inr ⟨rfl,_,_,rfl,rfl,rfl,rfl⟩⟩,trivial⟩
   ·rintro⟨k,hk⟩;by_cases hB':k<c.length
    ·have hB2:=ltT hB';have n1:=nnT k;have hgk:=Qdn c k hB';have hwk2:=Qan (a:=k) (by omega);have x1:=hLi _ (List.getElem_mem hB');have x2:((gcdL Y0 (c.take k):Nat):Int).natAbs<2^B:=by rw [Int.natAbs_natCast];exact Qkh _ hGi fun x hx=>hLi x (List.mem_of_mem_take hx)
     have m:=Qpr (Qap x2 (by omega)) (Qap x1 (by omega));rw [Int.natAbs_natCast,←Qi6,←Qcb c k hB']at m;generalize hX:gcdL Y0 (c.take (k+1))=X at*;generalize gcdL Y0 (c.take k)=Y at*;repeat (first|(simp -implicitDefEqProofs only [go_sem,Nat.reduceAdd,Nat.reduceMul,Nat.reduceEqDiff,Nat.reduceLT,Nat.reduceLeDiff,reduceCtorEq,wL,wPV,hB2,n1,hgk,hwk2,Int.toNat_natCast])|((with_reducible refine Qaa m ?_ ?_ ?_);rfl;rfl))
     refine⟨⟨k+1,hB'⟩,by simp only;omega,Qaj (θ:=[(0,0),(1,1),(2,2),(101,101)]) rfl ?_ ?_⟩
     ·simp [Qac,lkp,ren1,ren0,Qai,wL]
     ·simp only [hX];exact⟨⟨rfl,rfl,rfl,rfl,rfl,.inr ⟨rfl,_,_,rfl,rfl,rfl,rfl⟩⟩,⟨rfl,rfl,rfl,rfl,rfl,.inr ⟨rfl,_,_,rfl,rfl,rfl,rfl⟩⟩,⟨rfl,rfl,rfl,rfl,rfl,.inr ⟨rfl,_,_,rfl,rfl,rfl,rfl⟩⟩,⟨rfl,rfl,rfl,rfl,rfl,.inr ⟨rfl,_,_,rfl,rfl,rfl,rfl⟩⟩,trivial⟩
    ·have hB2:=ltF hB';obtain rfl:k=c.length:=by omega
     repeat (first|(simp -implicitDefEqProofs only [go_sem,Nat.reduceAdd,Nat.reduceMul,Nat.reduceEqDiff,Nat.reduceLT,Nat.reduceLeDiff,reduceCtorEq,hB2,hwk]))
     refine⟨⟨i+1,hA⟩,by simp only;omega,Qaj (θ:=[(0,0),(1,1),(2,2),(101,101)]) rfl ?_ ?_⟩
     ·simp [Qac,lkp,ren1,ren0,Qai,wL]
     ·simp only [hGs];rw [List.take_length];exact⟨⟨rfl,rfl,rfl,rfl,rfl,.inr ⟨rfl,_,_,rfl,rfl,rfl,rfl⟩⟩,⟨rfl,rfl,rfl,rfl,rfl,.inr ⟨rfl,_,_,rfl,rfl,rfl,rfl⟩⟩,⟨rfl,rfl,rfl,rfl,rfl,.inr ⟨rfl,_,_,rfl,rfl,rfl,rfl⟩⟩,⟨rfl,rfl,rfl,rfl,rfl,.inr ⟨rfl,_,_,rfl,rfl,rfl,rfl⟩⟩,trivial⟩
  ·have hA':((i:Int)<3)=False:=eq_false (by omega);obtain rfl:i=3:=by omega
   simp only;by_cases hf:mdO L o≤4294967296
   case neg=>
    have hF:Qm8 L o=false:=decide_eq_false hf;have hs:((0:Int)<(mdO L o-4294967296).sign)=True:=eq_true (Int.sign_pos_iff.2 (by omega));rw [hF];generalize mdO L o=OO at*;generalize ((mdG L o 3:Nat):Int)=G at*;repeat (first|(simp -implicitDefEqProofs only [go_sem,Nat.reduceAdd,Nat.reduceMul,Nat.reduceEqDiff,Nat.reduceLT,Nat.reduceLeDiff,Nat.reduceSub,reduceCtorEq,Int.reduceLT,wL,wPV,hs,Bool.false_eq_true,List.map_nil])|((with_reducible refine Qaa qO ?_ ?_ ?_);rfl;rfl)|((with_reducible refine Qaa o3 ?_ ?_ ?_);rfl;rfl)|((with_reducible refine Qaa cmO ?_ ?_ ?_);rfl;rfl)|(with_reducible exact Qae _ _ (by kernel_rfl)))
   have hF:Qm8 L o=true:=decide_eq_true hf;have hs:((0:Int)<(mdO L o-4294967296).sign)=False:=eq_false (by have:=Int.sign_nonpos_iff.2 (show mdO L o-4294967296≤0 by omega);omega);have hO1:0≤mdO L o:=Int.ediv_nonneg (by omega) (by omega);have ii:Qd0 (mdO L o)= .tup [.int .i64 (mdO L o),.int .i64 0]:=by unfold Qd0;rw [if_pos (by omega)]
   have wi:=Qnp (Qap hOb (by omega));rw [ii]at wi;rw [hF];have hqq:=hq hF;have hqs: ∀i,i<3→ ∀x∈L i,Qaf Tryz.prog 45 [wPV x,wPV ((mdG L o 3:Nat):Int)] (wPV (x/((mdG L o 3:Nat):Int))):=fun i h x hx=>Qi9 (hL i h x hx) (by omega) (Qps hg3 (by omega)) (by have:=hGp 3;omega);have hCd: ∀i,mdC L o i=mkC ((mdG L o 3:Nat):Int) (L i):=fun _=>rfl;rw [if_pos rfl];generalize mdO L o=OO at*;generalize mdC L o=C at*;generalize ((mdG L o 3:Nat):Int)=G at*;have hs':=hs;clear hO0 hOe hGp hG ho hob hO1 hOb ii hs hF hf hq;repeat (first|(simp -implicitDefEqProofs only [go_sem,Nat.reduceAdd,Nat.reduceMul,Nat.reduceEqDiff,Nat.reduceLT,Nat.reduceLeDiff,Nat.reduceSub,reduceCtorEq,Int.reduceLT,T_zp,T_zu,wL,wPV,hs',List.map_nil])|((with_reducible refine Qaa qO ?_ ?_ ?_);rfl;rfl)|((with_reducible refine Qaa o3 ?_ ?_ ?_);rfl;rfl)|((with_reducible refine Qaa cmO ?_ ?_ ?_);rfl;rfl)|((with_reducible refine Qaa wi ?_ ?_ ?_);rfl;rfl)|(with_reducible refine And.intro (Qae _ _ (by kernel_rfl)) ?_))
   refine Qar mixed (fun i:{i:Nat // i≤3}=>St.of [(6,.bp 0 3 0 0),(8,.bp 2 6 0 0),(10,.bp 101 2 0 0),(15,.bp 1103 6 0 0),(59,.agg [.bp 1103 6 0 3,.bp 1103 6 0 4,.bp 1103 6 0 5]),(60,.int .i64 (i.1:Int))]
    ((0,{els:=[.agg [wL (L 0),wL (L 1),wL (L 2)]],esz:=3,ety:=158,fro:=0,live:=true,arr:=false})::(2,{els:=[.agg [.int .i64 0,.int .i64 0,.int .i64 0,.nilS,.nilS,.nilS]],esz:=6,ety:=91,fro:=0,live:=true,arr:=false})::(101,{els:=[wPV G],esz:=2,ety:=93,fro:=0,live:=true,arr:=false})::(1103,{els:=[.agg [.int .i64 f,.int .i64 t,.int .i64 OO,mdV C i.1 0,mdV C i.1 1,mdV C i.1 2]],esz:=6,ety:=91,fro:=0,live:=true,arr:=false})::mdB iT C i.1)) (fun i=>3-i.1) ⟨0,Nat.zero_le _⟩ ?_ ?_
   ·refine Qaj (θ:=[(0,0),(2,2),(101,101),(1103,1103)]) rfl ?_ ?_
    ·simp [Qac,lkp,ren1,ren0,Qai]
    ·exact⟨⟨rfl,rfl,rfl,rfl,rfl,.inr ⟨rfl,_,_,rfl,rfl,rfl,rfl⟩⟩,⟨rfl,rfl,rfl,rfl,rfl,.inr ⟨rfl,_,_,rfl,rfl,rfl,rfl⟩⟩,⟨rfl,rfl,rfl,rfl,rfl,.inr ⟨rfl,_,_,rfl,rfl,rfl,rfl⟩⟩,⟨rfl,rfl,rfl,rfl,rfl,.inr ⟨rfl,_,_,rfl,rfl,rfl,rfl⟩⟩,trivial⟩
   ·rintro⟨i,hi⟩;by_cases hA:i<3
    ·have hA':((i:Int)<3)=True:=eq_true (by omega);have hli:=hl i hA;have hqi:=hqq i hA;have hqsi:=hqs i hA;have hCi:=hCd i;rcases(show i=0∨i=1∨i=2 by omega)with hi0|hi0|hi0
     ·skip
      obtain rfl:i=0:=hi0;generalize hLc:L 0=c at*;repeat (first|(simp -implicitDefEqProofs only [go_sem,Nat.reduceAdd,Nat.reduceMul,Nat.reduceEqDiff,Nat.reduceLT,Nat.reduceLeDiff,Nat.reduceSub,reduceCtorEq,Int.reduceLT,wL,mdV,mdB,List.length_map]))
      refine Qar mixed (fun k:{k:Nat // k≤c.length}=>St.of [(6,.bp 0 3 0 0),(8,.bp 2 6 0 0),(10,.bp 101 2 0 0),(15,.bp 1103 6 0 0),(59,.agg [.bp 1103 6 0 3,.bp 1103 6 0 4,.bp 1103 6 0 5]),(60,.int .i64 0),(17,.int .i64 0),(18,.bp 1103 6 0 3),(66,wL c),(67,.int .i64 (c.length:Int)),(68,.int .i64 (k.1:Int))]
       ((0,{els:=[.agg [wL (L 0),wL (L 1),wL (L 2)]],esz:=3,ety:=158,fro:=0,live:=true,arr:=false})::(2,{els:=[.agg [.int .i64 0,.int .i64 0,.int .i64 0,.nilS,.nilS,.nilS]],esz:=6,ety:=91,fro:=0,live:=true,arr:=false})::(101,{els:=[wPV G],esz:=2,ety:=93,fro:=0,live:=true,arr:=false})::(1103,{els:=[.agg [.int .i64 f,.int .i64 t,.int .i64 OO,mdW C 0 (.bs 8 1 0 k.1) 0,mdW C 0 (.bs 8 1 0 k.1) 1,mdW C 0 (.bs 8 1 0 k.1) 2]],esz:=6,ety:=91,fro:=0,live:=true,arr:=false})::(8,{els:=(c.take k.1).map (fun x=>PV.int .i64 (x/G)),esz:=1,ety:=3,fro:=0,live:=true,arr:=true})::mdB iT C 0)) (fun k=>c.length-k.1) ⟨0,Nat.zero_le _⟩ ?_ ?_
      ·refine Le.trans (Qsp 1103 3 8 1 iT rfl rfl rfl rfl rfl rfl (by decide)) (Qaj (θ:=[(0,0),(2,2),(101,101),(1103,1103),(8,8)]) rfl ?_ ?_)
       ·simp [Qac,lkp,ren1,ren0,Qai,wL]
       ·simp only [mdB,hLc];exact⟨⟨rfl,rfl,rfl,rfl,rfl,.inr ⟨rfl,_,_,rfl,rfl,rfl,rfl⟩⟩,⟨rfl,rfl,rfl,rfl,rfl,.inr ⟨rfl,_,_,rfl,rfl,rfl,rfl⟩⟩,⟨rfl,rfl,rfl,rfl,rfl,.inr ⟨rfl,_,_,rfl,rfl,rfl,rfl⟩⟩,⟨rfl,rfl,rfl,rfl,rfl,.inr ⟨rfl,_,_,rfl,rfl,rfl,rfl⟩⟩,⟨rfl,rfl,rfl,rfl,rfl,.inl ⟨rfl,rfl⟩⟩,trivial⟩
      ·rintro⟨k,hk⟩;by_cases hB':k<c.length
       ·have hB2:=ltT hB';have n1:=nnT k;have hgk:=Qdn c k hB';have hwk2:=Qan (a:=k) (by omega);have q1:=hqsi _ (List.getElem_mem hB');have q2:=hqi _ (List.getElem_mem hB');have i1:Qd0 (c[k]/G)= .tup [.int .i64 (c[k]/G),.int .i64 0]:=by unfold Qd0;rw [if_pos (by omega)]
        have q3:=Qnp (Qap (show(c[k]/G).natAbs<2^64 by omega) (by decide));rw [i1]at q3;have hts:(c.take (k+1)).map (fun x=>PV.int .i64 (x/G))=(c.take k).map (fun x=>PV.int .i64 (x/G))++[PV.int .i64 (c[k]/G)]:=by rw [Qcb c k hB',List.map_append];rfl
        have hlt:((c.take k).map (fun x=>PV.int .i64 (x/G))).length=k:=by rw [List.length_map,List.length_take];omega
        have hok:(((c.take k).map (fun x=>PV.int .i64 (x/G))).flatMap PV.cells).all PV.okCell=true:=by have:=Qri ((c.take k).map (· /G));rwa [List.map_map]at this
        have k8:((k+1)*8≤140737488355328)=True:=eq_true (by omega);have kM:(k+1≤maxLen)=True:=eq_true (by unfold maxLen;omega);generalize hX:c[k]/G=X at*;generalize hT:(c.take k).map (fun x=>PV.int .i64 (x/G))=T at*;repeat (first|(simp -implicitDefEqProofs only [go_sem,Nat.reduceAdd,Nat.reduceMul,Nat.reduceEqDiff,Nat.reduceLT,Nat.reduceLeDiff,reduceIte,reduceCtorEq,Nat.reduceBneDiff,wL,wPV,mdW,mdV,mdB,if_true,if_false,hB2,n1,hgk,hwk2,hlt,hok,k8,kM,Int.toNat_natCast])|((with_reducible refine Qaa q1 ?_ ?_ ?_);rfl;rfl)|((with_reducible refine Qaa q3 ?_ ?_ ?_);rfl;rfl))
        refine⟨⟨k+1,hB'⟩,by simp only;omega,Qaj (θ:=[(0,0),(2,2),(101,101),(1103,1103),(8,2306)]) rfl ?_ ?_⟩
        ·simp [Qac,lkp,ren1,ren0,Qai,wL]
        ·simp only [hts,mdB,hLc];exact⟨⟨rfl,rfl,rfl,rfl,rfl,.inr ⟨rfl,_,_,rfl,rfl,rfl,rfl⟩⟩,⟨rfl,rfl,rfl,rfl,rfl,.inr ⟨rfl,_,_,rfl,rfl,rfl,rfl⟩⟩,⟨rfl,rfl,rfl,rfl,rfl,.inr ⟨rfl,_,_,rfl,rfl,rfl,rfl⟩⟩,⟨rfl,rfl,rfl,rfl,rfl,.inr ⟨rfl,_,_,rfl,rfl,rfl,rfl⟩⟩,⟨rfl,rfl,rfl,rfl,rfl,.inl ⟨rfl,rfl⟩⟩,trivial⟩
       ·have hB2:=ltF hB';obtain rfl:k=c.length:=by omega
        have hwk3:=Qan (a:=0) (by omega);by_cases hc0:c=[]
        ·subst hc0;have hC0:C 0=[0]:=by rw [hCi];rfl
         repeat (first|(simp -implicitDefEqProofs only [go_sem,Nat.reduceAdd,Nat.reduceMul,Nat.reduceEqDiff,Nat.reduceLT,Nat.reduceLeDiff,Nat.reduceSub,reduceIte,reduceCtorEq,Int.reduceLT,Int.reduceAdd,wL,wPV,mdW,mdV,mdB,if_true,if_false,List.length_nil,List.map_nil,List.take_nil]))
         refine⟨⟨0+1,hA⟩,by simp only;omega,Qaj (θ:=[(0,0),(2,2),(101,101),(1103,1103),(8,2601)]) rfl ?_ ?_⟩
         ·simp [Qac,lkp,ren1,ren0,Qai]
         ·simp only [mdV,mdB,Nat.reduceLT,if_true,if_false,hC0,hLc,Nat.reduceAdd];exact⟨⟨rfl,rfl,rfl,rfl,rfl,.inr ⟨rfl,_,_,rfl,rfl,rfl,rfl⟩⟩,⟨rfl,rfl,rfl,rfl,rfl,.inr ⟨rfl,_,_,rfl,rfl,rfl,rfl⟩⟩,⟨rfl,rfl,rfl,rfl,rfl,.inr ⟨rfl,_,_,rfl,rfl,rfl,rfl⟩⟩,⟨rfl,rfl,rfl,rfl,rfl,.inr ⟨rfl,_,_,rfl,rfl,rfl,rfl⟩⟩,⟨rfl,rfl,rfl,rfl,rfl,.inl ⟨rfl,rfl⟩⟩,trivial⟩
        ·have hC1:C 0=c.map (· /G):=by rw [hCi];exact if_neg hc0
         have hz:((c.length:Int)==0)=false:=by have:=List.length_pos_iff.2 hc0;simp;omega
         have hC2:(c.take c.length).map (fun x=>PV.int .i64 (x/G))=(C 0).map (PV.int .i64):=by rw [hC1,List.map_map,List.take_length];rfl
         have hC3:(C 0).length=c.length:=by rw [hC1,List.length_map]
         rw [hC2];repeat (first|(simp -implicitDefEqProofs only [go_sem,Nat.reduceAdd,Nat.reduceMul,Nat.reduceEqDiff,Nat.reduceLT,Nat.reduceLeDiff,reduceIte,reduceCtorEq,Int.reduceAdd,wL,wPV,mdW,mdV,mdB,if_true,if_false,hB2,hz]))
         refine⟨⟨0+1,hA⟩,by simp only;omega,Qaj (θ:=[(0,0),(2,2),(101,101),(1103,1103),(8,8)]) rfl ?_ ?_⟩
         ·simp [Qac,lkp,ren1,ren0,Qai]
         ·simp only [mdV,mdB,Nat.reduceLT,if_true,if_false,hC3,hLc,Nat.reduceAdd];exact⟨⟨rfl,rfl,rfl,rfl,rfl,.inr ⟨rfl,_,_,rfl,rfl,rfl,rfl⟩⟩,⟨rfl,rfl,rfl,rfl,rfl,.inr ⟨rfl,_,_,rfl,rfl,rfl,rfl⟩⟩,⟨rfl,rfl,rfl,rfl,rfl,.inr ⟨rfl,_,_,rfl,rfl,rfl,rfl⟩⟩,⟨rfl,rfl,rfl,rfl,rfl,.inr ⟨rfl,_,_,rfl,rfl,rfl,rfl⟩⟩,⟨rfl,rfl,rfl,rfl,rfl,.inl ⟨rfl,rfl⟩⟩,trivial⟩
     ·skip
      obtain rfl:i=1:=hi0;generalize hLc:L 1=c at*;repeat (first|(simp -implicitDefEqProofs only [go_sem,Nat.reduceAdd,Nat.reduceMul,Nat.reduceEqDiff,Nat.reduceLT,Nat.reduceLeDiff,Nat.reduceSub,reduceCtorEq,Int.reduceLE,Int.reduceLT,Int.reduceToNat,wL,mdV,mdB,List.length_map]))
      refine Qar mixed (fun k:{k:Nat // k≤c.length}=>St.of [(6,.bp 0 3 0 0),(8,.bp 2 6 0 0),(10,.bp 101 2 0 0),(15,.bp 1103 6 0 0),(59,.agg [.bp 1103 6 0 3,.bp 1103 6 0 4,.bp 1103 6 0 5]),(60,.int .i64 1),(17,.int .i64 1),(18,.bp 1103 6 0 4),(66,wL c),(67,.int .i64 (c.length:Int)),(68,.int .i64 (k.1:Int))]
       ((0,{els:=[.agg [wL (L 0),wL (L 1),wL (L 2)]],esz:=3,ety:=158,fro:=0,live:=true,arr:=false})::(2,{els:=[.agg [.int .i64 0,.int .i64 0,.int .i64 0,.nilS,.nilS,.nilS]],esz:=6,ety:=91,fro:=0,live:=true,arr:=false})::(101,{els:=[wPV G],esz:=2,ety:=93,fro:=0,live:=true,arr:=false})::(1103,{els:=[.agg [.int .i64 f,.int .i64 t,.int .i64 OO,mdW C 1 (.bs 9 1 0 k.1) 0,mdW C 1 (.bs 9 1 0 k.1) 1,mdW C 1 (.bs 9 1 0 k.1) 2]],esz:=6,ety:=91,fro:=0,live:=true,arr:=false})::(9,{els:=(c.take k.1).map (fun x=>PV.int .i64 (x/G)),esz:=1,ety:=3,fro:=0,live:=true,arr:=true})::mdB iT C 1)) (fun k=>c.length-k.1) ⟨0,Nat.zero_le _⟩ ?_ ?_
      ·refine Le.trans (Qsp 1103 4 9 1 iT rfl rfl rfl rfl rfl rfl (by decide)) (Qaj (θ:=[(0,0),(2,2),(101,101),(1103,1103),(9,9),(8,8)]) rfl ?_ ?_)
       ·simp [Qac,lkp,ren1,ren0,Qai,wL]
       ·simp only [mdB,hLc];exact⟨⟨rfl,rfl,rfl,rfl,rfl,.inr ⟨rfl,_,_,rfl,rfl,rfl,rfl⟩⟩,⟨rfl,rfl,rfl,rfl,rfl,.inr ⟨rfl,_,_,rfl,rfl,rfl,rfl⟩⟩,⟨rfl,rfl,rfl,rfl,rfl,.inr ⟨rfl,_,_,rfl,rfl,rfl,rfl⟩⟩,⟨rfl,rfl,rfl,rfl,rfl,.inr ⟨rfl,_,_,rfl,rfl,rfl,rfl⟩⟩,⟨rfl,rfl,rfl,rfl,rfl,.inl ⟨rfl,rfl⟩⟩,⟨rfl,rfl,rfl,rfl,rfl,.inl ⟨rfl,rfl⟩⟩,trivial⟩
      ·rintro⟨k,hk⟩;by_cases hB':k<c.length
       ·have hB2:=ltT hB';have n1:=nnT k;have hgk:=Qdn c k hB';have hwk2:=Qan (a:=k) (by omega);have q1:=hqsi _ (List.getElem_mem hB');have q2:=hqi _ (List.getElem_mem hB');have i1:Qd0 (c[k]/G)= .tup [.int .i64 (c[k]/G),.int .i64 0]:=by unfold Qd0;rw [if_pos (by omega)]
        have q3:=Qnp (Qap (show(c[k]/G).natAbs<2^64 by omega) (by decide));rw [i1]at q3;have hts:(c.take (k+1)).map (fun x=>PV.int .i64 (x/G))=(c.take k).map (fun x=>PV.int .i64 (x/G))++[PV.int .i64 (c[k]/G)]:=by rw [Qcb c k hB',List.map_append];rfl
        have hlt:((c.take k).map (fun x=>PV.int .i64 (x/G))).length=k:=by rw [List.length_map,List.length_take];omega
        have hok:(((c.take k).map (fun x=>PV.int .i64 (x/G))).flatMap PV.cells).all PV.okCell=true:=by have:=Qri ((c.take k).map (· /G));rwa [List.map_map]at this
        have k8:((k+1)*8≤140737488355328)=True:=eq_true (by omega);have kM:(k+1≤maxLen)=True:=eq_true (by unfold maxLen;omega);generalize hX:c[k]/G=X at*;generalize hT:(c.take k).map (fun x=>PV.int .i64 (x/G))=T at*;repeat (first|(simp -implicitDefEqProofs only [go_sem,Nat.reduceAdd,Nat.reduceMul,Nat.reduceEqDiff,Nat.reduceLT,Nat.reduceLeDiff,reduceIte,reduceCtorEq,Nat.reduceBneDiff,wL,wPV,mdW,mdV,mdB,if_true,if_false,hB2,n1,hgk,hwk2,hlt,hok,k8,kM,Int.toNat_natCast])|((with_reducible refine Qaa q1 ?_ ?_ ?_);rfl;rfl)|((with_reducible refine Qaa q3 ?_ ?_ ?_);rfl;rfl))
        refine⟨⟨k+1,hB'⟩,by simp only;omega,Qaj (θ:=[(0,0),(2,2),(101,101),(1103,1103),(9,2306),(8,8)]) rfl ?_ ?_⟩
        ·simp [Qac,lkp,ren1,ren0,Qai,wL]
        ·simp only [hts,mdB,hLc];exact⟨⟨rfl,rfl,rfl,rfl,rfl,.inr ⟨rfl,_,_,rfl,rfl,rfl,rfl⟩⟩,⟨rfl,rfl,rfl,rfl,rfl,.inr ⟨rfl,_,_,rfl,rfl,rfl,rfl⟩⟩,⟨rfl,rfl,rfl,rfl,rfl,.inr ⟨rfl,_,_,rfl,rfl,rfl,rfl⟩⟩,⟨rfl,rfl,rfl,rfl,rfl,.inr ⟨rfl,_,_,rfl,rfl,rfl,rfl⟩⟩,⟨rfl,rfl,rfl,rfl,rfl,.inl ⟨rfl,rfl⟩⟩,⟨rfl,rfl,rfl,rfl,rfl,.inl ⟨rfl,rfl⟩⟩,trivial⟩
       ·have hB2:=ltF hB';obtain rfl:k=c.length:=by omega
        have hwk3:=Qan (a:=1) (by omega);by_cases hc0:c=[]
        ·subst hc0;have hC0:C 1=[0]:=by rw [hCi];rfl
         repeat (first|(simp -implicitDefEqProofs only [go_sem,Nat.reduceAdd,Nat.reduceMul,Nat.reduceEqDiff,Nat.reduceLT,Nat.reduceLeDiff,Nat.reduceSub,reduceIte,reduceCtorEq,Int.reduceLT,Int.reduceAdd,wL,wPV,mdW,mdV,mdB,if_true,if_false,List.length_nil,List.map_nil,List.take_nil]))
         refine⟨⟨1+1,hA⟩,by simp only;omega,Qaj (θ:=[(0,0),(2,2),(101,101),(1103,1103),(9,2601),(8,8)]) rfl ?_ ?_⟩
         ·simp [Qac,lkp,ren1,ren0,Qai]
         ·simp only [mdV,mdB,Nat.reduceLT,if_true,if_false,hC0,hLc,Nat.reduceAdd];exact⟨⟨rfl,rfl,rfl,rfl,rfl,.inr ⟨rfl,_,_,rfl,rfl,rfl,rfl⟩⟩,⟨rfl,rfl,rfl,rfl,rfl,.inr ⟨rfl,_,_,rfl,rfl,rfl,rfl⟩⟩,⟨rfl,rfl,rfl,rfl,rfl,.inr ⟨rfl,_,_,rfl,rfl,rfl,rfl⟩⟩,⟨rfl,rfl,rfl,rfl,rfl,.inr ⟨rfl,_,_,rfl,rfl,rfl,rfl⟩⟩,⟨rfl,rfl,rfl,rfl,rfl,.inl ⟨rfl,rfl⟩⟩,⟨rfl,rfl,rfl,rfl,rfl,.inl ⟨rfl,rfl⟩⟩,trivial⟩
        ·have hC1:C 1=c.map (· /G):=by rw [hCi];exact if_neg hc0
         have hz:((c.length:Int)==0)=false:=by have:=List.length_pos_iff.2 hc0;simp;omega
         have hC2:(c.take c.length).map (fun x=>PV.int .i64 (x/G))=(C 1).map (PV.int .i64):=by rw [hC1,List.map_map,List.take_length];rfl
         have hC3:(C 1).length=c.length:=by rw [hC1,List.length_map]
         rw [hC2];repeat (first|(simp -implicitDefEqProofs only [go_sem,Nat.reduceAdd,Nat.reduceMul,Nat.reduceEqDiff,Nat.reduceLT,Nat.reduceLeDiff,reduceIte,reduceCtorEq,Int.reduceAdd,wL,wPV,mdW,mdV,mdB,if_true,if_false,hB2,hz]))
         refine⟨⟨1+1,hA⟩,by simp only;omega,Qaj (θ:=[(0,0),(2,2),(101,101),(1103,1103),(9,9),(8,8)]) rfl ?_ ?_⟩
         ·simp [Qac,lkp,ren1,ren0,Qai]
         ·simp only [mdV,mdB,Nat.reduceLT,if_true,if_false,hC3,hLc,Nat.reduceAdd];exact⟨⟨rfl,rfl,rfl,rfl,rfl,.inr ⟨rfl,_,_,rfl,rfl,rfl,rfl⟩⟩,⟨rfl,rfl,rfl,rfl,rfl,.inr ⟨rfl,_,_,rfl,rfl,rfl,rfl⟩⟩,⟨rfl,rfl,rfl,rfl,rfl,.inr ⟨rfl,_,_,rfl,rfl,rfl,rfl⟩⟩,⟨rfl,rfl,rfl,rfl,rfl,.inr ⟨rfl,_,_,rfl,rfl,rfl,rfl⟩⟩,⟨rfl,rfl,rfl,rfl,rfl,.inl ⟨rfl,rfl⟩⟩,⟨rfl,rfl,rfl,rfl,rfl,.inl ⟨rfl,rfl⟩⟩,trivial⟩
     ·skip
      obtain rfl:i=2:=hi0;generalize hLc:L 2=c at*;repeat (first|(simp -implicitDefEqProofs only [go_sem,Nat.reduceAdd,Nat.reduceMul,Nat.reduceEqDiff,Nat.reduceLT,Nat.reduceLeDiff,Nat.reduceSub,reduceCtorEq,Int.reduceLE,Int.reduceLT,Int.reduceToNat,wL,mdV,mdB,List.length_map]))
      refine Qar mixed (fun k:{k:Nat // k≤c.length}=>St.of [(6,.bp 0 3 0 0),(8,.bp 2 6 0 0),(10,.bp 101 2 0 0),(15,.bp 1103 6 0 0),(59,.agg [.bp 1103 6 0 3,.bp 1103 6 0 4,.bp 1103 6 0 5]),(60,.int .i64 2),(17,.int .i64 2),(18,.bp 1103 6 0 5),(66,wL c),(67,.int .i64 (c.length:Int)),(68,.int .i64 (k.1:Int))]
       ((0,{els:=[.agg [wL (L 0),wL (L 1),wL (L 2)]],esz:=3,ety:=158,fro:=0,live:=true,arr:=false})::(2,{els:=[.agg [.int .i64 0,.int .i64 0,.int .i64 0,.nilS,.nilS,.nilS]],esz:=6,ety:=91,fro:=0,live:=true,arr:=false})::(101,{els:=[wPV G],esz:=2,ety:=93,fro:=0,live:=true,arr:=false})::(1103,{els:=[.agg [.int .i64 f,.int .i64 t,.int .i64 OO,mdW C 2 (.bs 10 1 0 k.1) 0,mdW C 2 (.bs 10 1 0 k.1) 1,mdW C 2 (.bs 10 1 0 k.1) 2]],esz:=6,ety:=91,fro:=0,live:=true,arr:=false})::(10,{els:=(c.take k.1).map (fun x=>PV.int .i64 (x/G)),esz:=1,ety:=3,fro:=0,live:=true,arr:=true})::mdB iT C 2)) (fun k=>c.length-k.1) ⟨0,Nat.zero_le _⟩ ?_ ?_
      ·refine Le.trans (Qsp 1103 5 10 1 iT rfl rfl rfl rfl rfl rfl (by decide)) (Qaj (θ:=[(0,0),(2,2),(101,101),(1103,1103),(10,10),(8,8),(9,9)]) rfl ?_ ?_)
       ·simp [Qac,lkp,ren1,ren0,Qai,wL]
       ·simp only [mdB,hLc];exact⟨⟨rfl,rfl,rfl,rfl,rfl,.inr ⟨rfl,_,_,rfl,rfl,rfl,rfl⟩⟩,⟨rfl,rfl,rfl,rfl,rfl,.inr ⟨rfl,_,_,rfl,rfl,rfl,rfl⟩⟩,⟨rfl,rfl,rfl,rfl,rfl,.inr ⟨rfl,_,_,rfl,rfl,rfl,rfl⟩⟩,⟨rfl,rfl,rfl,rfl,rfl,.inr ⟨rfl,_,_,rfl,rfl,rfl,rfl⟩⟩,⟨rfl,rfl,rfl,rfl,rfl,.inl ⟨rfl,rfl⟩⟩,⟨rfl,rfl,rfl,rfl,rfl,.inl ⟨rfl,rfl⟩⟩,⟨rfl,rfl,rfl,rfl,rfl,.inl ⟨rfl,rfl⟩⟩,trivial⟩
      ·rintro⟨k,hk⟩;by_cases hB':k<c.length
       ·have hB2:=ltT hB';have n1:=nnT k;have hgk:=Qdn c k hB';have hwk2:=Qan (a:=k) (by omega);have q1:=hqsi _ (List.getElem_mem hB');have q2:=hqi _ (List.getElem_mem hB');have i1:Qd0 (c[k]/G)= .tup [.int .i64 (c[k]/G),.int .i64 0]:=by unfold Qd0;rw [if_pos (by omega)]
        have q3:=Qnp (Qap (show(c[k]/G).natAbs<2^64 by omega) (by decide));rw [i1]at q3;have hts:(c.take (k+1)).map (fun x=>PV.int .i64 (x/G))=(c.take k).map (fun x=>PV.int .i64 (x/G))++[PV.int .i64 (c[k]/G)]:=by rw [Qcb c k hB',List.map_append];rfl
        have hlt:((c.take k).map (fun x=>PV.int .i64 (x/G))).length=k:=by rw [List.length_map,List.length_take];omega
        have hok:(((c.take k).map (fun x=>PV.int .i64 (x/G))).flatMap PV.cells).all PV.okCell=true:=by have:=Qri ((c.take k).map (· /G));rwa [List.map_map]at this
        have k8:((k+1)*8≤140737488355328)=True:=eq_true (by omega);have kM:(k+1≤maxLen)=True:=eq_true (by unfold maxLen;omega);generalize hX:c[k]/G=X at*;generalize hT:(c.take k).map (fun x=>PV.int .i64 (x/G))=T at*;repeat (first|(simp -implicitDefEqProofs only [go_sem,Nat.reduceAdd,Nat.reduceMul,Nat.reduceEqDiff,Nat.reduceLT,Nat.reduceLeDiff,reduceIte,reduceCtorEq,Nat.reduceBneDiff,wL,wPV,mdW,mdV,mdB,if_true,if_false,hB2,n1,hgk,hwk2,hlt,hok,k8,kM,Int.toNat_natCast])|((with_reducible refine Qaa q1 ?_ ?_ ?_);rfl;rfl)|((with_reducible refine Qaa q3 ?_ ?_ ?_);rfl;rfl))
        refine⟨⟨k+1,hB'⟩,by simp only;omega,Qaj (θ:=[(0,0),(2,2),(101,101),(1103,1103),(10,2306),(8,8),(9,9)]) rfl ?_ ?_⟩
        ·simp [Qac,lkp,ren1,ren0,Qai,wL]
        ·simp only [hts,mdB,hLc];exact⟨⟨rfl,rfl,rfl,rfl,rfl,.inr ⟨rfl,_,_,rfl,rfl,rfl,rfl⟩⟩,⟨rfl,rfl,rfl,rfl,rfl,.inr ⟨rfl,_,_,rfl,rfl,rfl,rfl⟩⟩,⟨rfl,rfl,rfl,rfl,rfl,.inr ⟨rfl,_,_,rfl,rfl,rfl,rfl⟩⟩,⟨rfl,rfl,rfl,rfl,rfl,.inr ⟨rfl,_,_,rfl,rfl,rfl,rfl⟩⟩,⟨rfl,rfl,rfl,rfl,rfl,.inl ⟨rfl,rfl⟩⟩,⟨rfl,rfl,rfl,rfl,rfl,.inl ⟨rfl,rfl⟩⟩,⟨rfl,rfl,rfl,rfl,rfl,.inl ⟨rfl,rfl⟩⟩,trivial⟩
       ·have hB2:=ltF hB';obtain rfl:k=c.length:=by omega
        have hwk3:=Qan (a:=2) (by omega);by_cases hc0:c=[]
        ·subst hc0;have hC0:C 2=[0]:=by rw [hCi];rfl
         repeat (first|(simp -implicitDefEqProofs only [go_sem,Nat.reduceAdd,Nat.reduceMul,Nat.reduceEqDiff,Nat.reduceLT,Nat.reduceLeDiff,Nat.reduceSub,reduceIte,reduceCtorEq,Int.reduceLT,Int.reduceAdd,wL,wPV,mdW,mdV,mdB,if_true,if_false,List.length_nil,List.map_nil,List.take_nil]))
         refine⟨⟨2+1,hA⟩,by simp only;omega,Qaj (θ:=[(0,0),(2,2),(101,101),(1103,1103),(10,2601),(8,8),(9,9)]) rfl ?_ ?_⟩
         ·simp [Qac,lkp,ren1,ren0,Qai]
         ·simp only [mdV,mdB,Nat.reduceLT,if_true,if_false,hC0,hLc,Nat.reduceAdd];exact⟨⟨rfl,rfl,rfl,rfl,rfl,.inr ⟨rfl,_,_,rfl,rfl,rfl,rfl⟩⟩,⟨rfl,rfl,rfl,rfl,rfl,.inr ⟨rfl,_,_,rfl,rfl,rfl,rfl⟩⟩,⟨rfl,rfl,rfl,rfl,rfl,.inr ⟨rfl,_,_,rfl,rfl,rfl,rfl⟩⟩,⟨rfl,rfl,rfl,rfl,rfl,.inr ⟨rfl,_,_,rfl,rfl,rfl,rfl⟩⟩,⟨rfl,rfl,rfl,rfl,rfl,.inl ⟨rfl,rfl⟩⟩,⟨rfl,rfl,rfl,rfl,rfl,.inl ⟨rfl,rfl⟩⟩,⟨rfl,rfl,rfl,rfl,rfl,.inl ⟨rfl,rfl⟩⟩,trivial⟩
        ·have hC1:C 2=c.map (· /G):=by rw [hCi];exact if_neg hc0
         have hz:((c.length:Int)==0)=false:=by have:=List.length_pos_iff.2 hc0;simp;omega
         have hC2:(c.take c.length).map (fun x=>PV.int .i64 (x/G))=(C 2).map (PV.int .i64):=by rw [hC1,List.map_map,List.take_length];rfl
         have hC3:(C 2).length=c.length:=by rw [hC1,List.length_map]
         rw [hC2];repeat (first|(simp -implicitDefEqProofs only [go_sem,Nat.reduceAdd,Nat.reduceMul,Nat.reduceEqDiff,Nat.reduceLT,Nat.reduceLeDiff,reduceIte,reduceCtorEq,Int.reduceAdd,wL,wPV,mdW,mdV,mdB,if_true,if_false,hB2,hz]))
         refine⟨⟨2+1,hA⟩,by simp only;omega,Qaj (θ:=[(0,0),(2,2),(101,101),(1103,1103),(10,10),(8,8),(9,9)]) rfl ?_ ?_⟩
         ·simp [Qac,lkp,ren1,ren0,Qai]
         ·simp only [mdV,mdB,Nat.reduceLT,if_true,if_false,hC3,hLc,Nat.reduceAdd];exact⟨⟨rfl,rfl,rfl,rfl,rfl,.inr ⟨rfl,_,_,rfl,rfl,rfl,rfl⟩⟩,⟨rfl,rfl,rfl,rfl,rfl,.inr ⟨rfl,_,_,rfl,rfl,rfl,rfl⟩⟩,⟨rfl,rfl,rfl,rfl,rfl,.inr ⟨rfl,_,_,rfl,rfl,rfl,rfl⟩⟩,⟨rfl,rfl,rfl,rfl,rfl,.inr ⟨rfl,_,_,rfl,rfl,rfl,rfl⟩⟩,⟨rfl,rfl,rfl,rfl,rfl,.inl ⟨rfl,rfl⟩⟩,⟨rfl,rfl,rfl,rfl,rfl,.inl ⟨rfl,rfl⟩⟩,⟨rfl,rfl,rfl,rfl,rfl,.inl ⟨rfl,rfl⟩⟩,trivial⟩
    ·have hA':((i:Int)<3)=False:=eq_false (by omega);obtain rfl:i=3:=by omega
     have hok: ∀m,((((C m).map (PV.int .i64)).flatMap PV.cells).all PV.okCell)=true:=fun m=>Qri (C m);repeat (first|(simp -implicitDefEqProofs only [go_sem,Nat.reduceAdd,Nat.reduceMul,Nat.reduceEqDiff,Nat.reduceLT,Nat.reduceLeDiff,Nat.reduceSub,reduceIte,reduceCtorEq,Int.reduceLT,mdV,mdB,if_true,List.length_map]))
     have ht: ∀m,((C m).map (PV.int .i64)).take (C m).length=(C m).map (PV.int .i64):=fun m=>List.take_of_length_le (by rw [List.length_map];omega);simp only [ht]
end Go.Proofs.YtjlkapdmgjocdaaGreat

namespace Go.Dg
def nrm:List Int→Nat
 | []=>0
 |x::l=>x.natAbs+nrm l
theorem Qpn (a b:List Int):nrm (a++b)=nrm a+nrm b:=by
 induction a with
 |nil=>simp [nrm]
 |cons x a ih=>simp [nrm,ih,Nat.add_assoc]
theorem Q49 {l:List Int} {x:Int} (h:x∈l):x.natAbs≤nrm l:=by
 induction l with
 |nil=>cases h
 |cons y l ih=>
  cases h with
  |head=>exact Nat.le_add_right _ _
  |tail _ h=>exact Nat.le_trans (ih h) (Nat.le_add_left _ _)
theorem Qm9 (l:List Int) (c:Int):nrm (l.map (· *c))=nrm l*c.natAbs:=by
 induction l with
 |nil=>simp [nrm]
 |cons x l ih=>simp only [List.map_cons,nrm,ih,Int.natAbs_mul,Nat.add_mul]
theorem Qna (l:List Int):nrm (Qaq l)≤nrm l:=by
 induction l with
 |nil=>exact Nat.le_refl _
 |cons c r ih=>
  rw [Qb0];split
  ·split
   ·exact Nat.zero_le _
   ·simp [nrm]
  ·simp only [nrm];omega
theorem Qq4 (f g:Nat→Int) (n:Nat):nrm ((List.range n).map fun i=>f i+g i)≤nrm ((List.range n).map f)+nrm ((List.range n).map g):=by
 induction n with
 |zero=>simp [nrm]
 |succ n ih=>simp only [List.range_succ,List.map_append,Qpn,List.map_cons,List.map_nil,nrm];omega
theorem Qd2: ∀(l:List Int) (n:Nat),nrm ((List.range n).map fun i=>l.getD i 0)≤nrm l
 |_,0=>Nat.zero_le _
 | [],n+1=>by
  have:=Qd2 [] n;simp only [List.range_succ,List.map_append,Qpn,List.map_cons,List.map_nil,nrm,List.getD_nil]at this ⊢;simpa using this
 |x::l,n+1=>by
  have:=Qd2 l n;rw [List.range_succ_eq_map,List.map_cons,List.map_map];simp only [nrm,List.getD_cons_zero];exact Nat.add_le_add_left this _
theorem Zdn (p q:List Int):nrm (zipA p q)≤nrm p+nrm q:=
 Nat.le_trans (Qq4 _ _ _) (Nat.add_le_add (Qd2 _ _) (Qd2 _ _))
theorem Zdo (l:List Int) (c:Int):nrm (l.set 0 (l.getD 0 0+c))≤nrm l+c.natAbs:=by
 cases l with
 |nil=>simp [nrm]
 |cons x l=>simp only [List.set_cons_zero,List.getD_cons_zero,nrm];omega
theorem Q5a (out:List Int) (a b c:Int):nrm (hstep out a b c)≤nrm out*(a.natAbs+b.natAbs)+c.natAbs:=by
 unfold hstep;refine Nat.le_trans (Zdo _ _) (Nat.add_le_add_right ?_ _);rw [Qyr];refine Nat.le_trans (Zdn _ _) ?_;simp only [nrm,Qm9,Int.natAbs_zero,Nat.zero_add,Nat.mul_add];exact Nat.le_refl _
theorem Qta (p:List Int) (a b d:Int) (hab:a.natAbs+b.natAbs≤d.natAbs): ∀m,m<p.length→nrm (Qeb p a b d m)≤d.natAbs^m*nrm (p.drop (p.length-1-m))
 |0,h=>by
  have h1:p.length-1<p.length:=by omega
  rw [Qeb,Nat.sub_zero,List.drop_eq_getElem_cons h1];simp only [nrm,List.getD_eq_getElem?_getD,List.getElem?_eq_getElem h1,Option.getD_some,Nat.pow_zero,Nat.one_mul,Nat.add_zero];exact Nat.le_add_right _ _
 |m+1,h=>by
  have ih:=Qta p a b d hab m (by omega);have h1:p.length-1-(m+1)<p.length:=by omega
  have e:p.length-1-(m+1)+1=p.length-1-m:=by omega
  rw [Qeb,List.drop_eq_getElem_cons h1,e];refine Nat.le_trans (Q5a _ _ _ _) ?_;simp only [nrm,List.getD_eq_getElem?_getD,List.getElem?_eq_getElem h1,Option.getD_some,Int.natAbs_mul,Int.natAbs_pow,Nat.mul_add];have k:=Nat.mul_le_mul ih hab;rw [Nat.mul_add]at k;rw [Nat.add_comm (d.natAbs^(m+1)*_),Nat.mul_comm (p[p.length-1-(m+1)]).natAbs];refine Nat.add_le_add_right (Nat.le_trans k ?_) _;rw [Nat.pow_succ,Nat.mul_right_comm];exact Nat.le_refl _
theorem Zdp (p:List Int) (a b d:Int) (hab:a.natAbs+b.natAbs≤d.natAbs):nrm (Qdf p a b d p.length)≤d.natAbs^(p.length-1)*nrm p:=by
 by_cases hp:0<p.length
 ·rw [←Qpl p a b d hp];refine Nat.le_trans (Qna _) ?_;have:=Qta p a b d hab (p.length-1) (by omega)
  rwa [Nat.sub_self,List.drop_zero]at this
 ·obtain rfl:p=[]:=List.eq_nil_of_length_eq_zero (by omega);exact Nat.zero_le _
theorem Zdq (c:List Int) (a b d:Int) (hc:c.length≤6) (h1:1≤c.length) (hd:1≤d) (hab:a.natAbs+b.natAbs≤d.natAbs):nrm (cmpC c a b d)≤d.natAbs^5*nrm c:=by
 unfold cmpC Qef;refine Nat.le_trans (Qna _) ?_;rw [Qm9,Int.natAbs_pow];have h2:=Zdp (Qaq c) a b d hab;have h3:=Qna c;have h4:=Qbl c;have hd':0<d.natAbs:=by omega
 generalize Qaq c=q at*;generalize d.natAbs=D at*;refine Nat.le_trans (Nat.mul_le_mul_right _ h2) ?_;rw [Nat.mul_right_comm,←Nat.pow_add];exact Nat.mul_le_mul (Nat.pow_le_pow_right hd' (by omega)) h3
theorem Qc7 {x K:Int} (h:(x.natAbs:Int)≤K): -K≤x∧x≤K:=by omega
theorem Q5b {c:List Int} {o:Int} (h:Qej c o c.length=true) (j:Nat) (hj:j<c.length):((ctl c j).natAbs:Int)≤62914560*o:=by
 unfold Qej at h;rw [List.all_eq_true]at h;exact of_decide_eq_true (h j (List.mem_range.2 hj))
theorem Zno {o a0:Int} (ho:0≤o) (h: ∀j,j<1→((ctl [a0] j).natAbs:Int)≤62914560*o):(nrm [a0]:Int)≤1048576*o:=by
 have h0:=Qc7 (h 0 (by decide));have e0:ctl [a0] 0=60*a0:=by simp [ctl,sm,cw,bin];omega
 generalize ctl [a0] 0=b0 at*;clear h;have f0:60*a0=1*b0:=by omega
 clear e0;have g0:(a0.natAbs:Int)≤1048576*o:=by omega
 clear h0 f0;simp only [nrm];generalize a0.natAbs=m0 at*;omega
theorem Znp {o a0 a1:Int} (ho:0≤o) (h: ∀j,j<2→((ctl [a0,a1] j).natAbs:Int)≤62914560*o):(nrm [a0,a1]:Int)≤3145728*o:=by
 have h0:=Qc7 (h 0 (by decide));have h1:=Qc7 (h 1 (by decide));have e0:ctl [a0,a1] 0=60*a0:=by simp [ctl,sm,cw,bin];omega
 have e1:ctl [a0,a1] 1=60*a0+60*a1:=by simp [ctl,sm,cw,bin];omega
 generalize ctl [a0,a1] 0=b0 at*;generalize ctl [a0,a1] 1=b1 at*;clear h;have f0:60*a0=1*b0:=by omega
 have f1:60*a1= -1*b0+1*b1:=by omega
 clear e0 e1;have g0:(a0.natAbs:Int)≤1048576*o:=by omega
 have g1:(a1.natAbs:Int)≤2097152*o:=by omega
 clear h0 h1 f0 f1;simp only [nrm];generalize a0.natAbs=m0 at*;generalize a1.natAbs=m1 at*;omega
theorem Znq {o a0 a1 a2:Int} (ho:0≤o) (h: ∀j,j<3→((ctl [a0,a1,a2] j).natAbs:Int)≤62914560*o):(nrm [a0,a1,a2]:Int)≤9437184*o:=by
 have h0:=Qc7 (h 0 (by decide));have h1:=Qc7 (h 1 (by decide));have h2:=Qc7 (h 2 (by decide));have e0:ctl [a0,a1,a2] 0=60*a0:=by simp [ctl,sm,cw,bin];omega
 have e1:ctl [a0,a1,a2] 1=60*a0+30*a1:=by simp [ctl,sm,cw,bin];omega
 have e2:ctl [a0,a1,a2] 2=60*a0+60*a1+60*a2:=by simp [ctl,sm,cw,bin];omega
 generalize ctl [a0,a1,a2] 0=b0 at*;generalize ctl [a0,a1,a2] 1=b1 at*;generalize ctl [a0,a1,a2] 2=b2 at*;clear h;have f0:60*a0=1*b0:=by omega
 have f1:30*a1= -1*b0+1*b1:=by omega
 have f2:60*a2=1*b0+ -2*b1+1*b2:=by omega
 clear e0 e1 e2;have g0:(a0.natAbs:Int)≤1048576*o:=by omega
 have g1:(a1.natAbs:Int)≤4194304*o:=by omega
 have g2:(a2.natAbs:Int)≤4194304*o:=by omega
 clear h0 h1 h2 f0 f1 f2;simp only [nrm];generalize a0.natAbs=m0 at*;generalize a1.natAbs=m1 at*;generalize a2.natAbs=m2 at*;omega
theorem Znr {o a0 a1 a2 a3:Int} (ho:0≤o) (h: ∀j,j<4→((ctl [a0,a1,a2,a3] j).natAbs:Int)≤62914560*o):(nrm [a0,a1,a2,a3]:Int)≤28311552*o:=by
 have h0:=Qc7 (h 0 (by decide));have h1:=Qc7 (h 1 (by decide));have h2:=Qc7 (h 2 (by decide));have h3:=Qc7 (h 3 (by decide));have e0:ctl [a0,a1,a2,a3] 0=60*a0:=by simp [ctl,sm,cw,bin];omega
 have e1:ctl [a0,a1,a2,a3] 1=60*a0+20*a1:=by simp [ctl,sm,cw,bin];omega
 have e2:ctl [a0,a1,a2,a3] 2=60*a0+40*a1+20*a2:=by simp [ctl,sm,cw,bin];omega
 have e3:ctl [a0,a1,a2,a3] 3=60*a0+60*a1+60*a2+60*a3:=by simp [ctl,sm,cw,bin];omega
 generalize ctl [a0,a1,a2,a3] 0=b0 at*;generalize ctl [a0,a1,a2,a3] 1=b1 at*;generalize ctl [a0,a1,a2,a3] 2=b2 at*;generalize ctl [a0,a1,a2,a3] 3=b3 at*;clear h;have f0:60*a0=1*b0:=by omega
 have f1:20*a1= -1*b0+1*b1:=by omega
 have f2:20*a2=1*b0+ -2*b1+1*b2:=by omega
 have f3:60*a3= -1*b0+3*b1+ -3*b2+1*b3:=by omega
 clear e0 e1 e2 e3;have g0:(a0.natAbs:Int)≤1048576*o:=by omega
 have g1:(a1.natAbs:Int)≤6291456*o:=by omega
 have g2:(a2.natAbs:Int)≤12582912*o:=by omega
 have g3:(a3.natAbs:Int)≤8388608*o:=by omega
 clear h0 h1 h2 h3 f0 f1 f2 f3;simp only [nrm];generalize a0.natAbs=m0 at*;generalize a1.natAbs=m1 at*;generalize a2.natAbs=m2 at*;generalize a3.natAbs=m3 at*;omega
theorem Zns {o a0 a1 a2 a3 a4:Int} (ho:0≤o) (h: ∀j,j<5→((ctl [a0,a1,a2,a3,a4] j).natAbs:Int)≤62914560*o):(nrm [a0,a1,a2,a3,a4]:Int)≤84934656*o:=by
 have h0:=Qc7 (h 0 (by decide));have h1:=Qc7 (h 1 (by decide));have h2:=Qc7 (h 2 (by decide));have h3:=Qc7 (h 3 (by decide));have h4:=Qc7 (h 4 (by decide));have e0:ctl [a0,a1,a2,a3,a4] 0=60*a0:=by simp [ctl,sm,cw,bin];omega
 have e1:ctl [a0,a1,a2,a3,a4] 1=60*a0+15*a1:=by simp [ctl,sm,cw,bin];omega
 have e2:ctl [a0,a1,a2,a3,a4] 2=60*a0+30*a1+10*a2:=by simp [ctl,sm,cw,bin];omega
 have e3:ctl [a0,a1,a2,a3,a4] 3=60*a0+45*a1+30*a2+15*a3:=by simp [ctl,sm,cw,bin];omega
 have e4:ctl [a0,a1,a2,a3,a4] 4=60*a0+60*a1+60*a2+60*a3+60*a4:=by simp [ctl,sm,cw,bin];omega
 generalize ctl [a0,a1,a2,a3,a4] 0=b0 at*;generalize ctl [a0,a1,a2,a3,a4] 1=b1 at*;generalize ctl [a0,a1,a2,a3,a4] 2=b2 at*;generalize ctl [a0,a1,a2,a3,a4] 3=b3 at*;generalize ctl [a0,a1,a2,a3,a4] 4=b4 at*;clear h;have f0:60*a0=1*b0:=by omega
 have f1:15*a1= -1*b0+1*b1:=by omega
 have f2:10*a2=1*b0+ -2*b1+1*b2:=by omega
 have f3:15*a3= -1*b0+3*b1+ -3*b2+1*b3:=by omega
 have f4:60*a4=1*b0+ -4*b1+6*b2+ -4*b3+1*b4:=by omega
 clear e0 e1 e2 e3 e4;have g0:(a0.natAbs:Int)≤1048576*o:=by omega
 have g1:(a1.natAbs:Int)≤8388608*o:=by omega
 have g2:(a2.natAbs:Int)≤25165824*o:=by omega
 have g3:(a3.natAbs:Int)≤33554432*o:=by omega
 have g4:(a4.natAbs:Int)≤16777216*o:=by omega
 clear h0 h1 h2 h3 h4 f0 f1 f2 f3 f4;simp only [nrm];generalize a0.natAbs=m0 at*;generalize a1.natAbs=m1 at*;generalize a2.natAbs=m2 at*;generalize a3.natAbs=m3 at*;generalize a4.natAbs=m4 at*;omega
theorem Znt {o a0 a1 a2 a3 a4 a5:Int} (ho:0≤o) (h: ∀j,j<6→((ctl [a0,a1,a2,a3,a4,a5] j).natAbs:Int)≤62914560*o):(nrm [a0,a1,a2,a3,a4,a5]:Int)≤254803968*o:=by
 have h0:=Qc7 (h 0 (by decide));have h1:=Qc7 (h 1 (by decide));have h2:=Qc7 (h 2 (by decide));have h3:=Qc7 (h 3 (by decide));have h4:=Qc7 (h 4 (by decide));have h5:=Qc7 (h 5 (by decide));have e0:ctl [a0,a1,a2,a3,a4,a5] 0=60*a0:=by simp [ctl,sm,cw,bin];omega
 have e1:ctl [a0,a1,a2,a3,a4,a5] 1=60*a0+12*a1:=by simp [ctl,sm,cw,bin];omega
 have e2:ctl [a0,a1,a2,a3,a4,a5] 2=60*a0+24*a1+6*a2:=by simp [ctl,sm,cw,bin];omega
 have e3:ctl [a0,a1,a2,a3,a4,a5] 3=60*a0+36*a1+18*a2+6*a3:=by simp [ctl,sm,cw,bin];omega
 have e4:ctl [a0,a1,a2,a3,a4,a5] 4=60*a0+48*a1+36*a2+24*a3+12*a4:=by simp [ctl,sm,cw,bin];omega
 have e5:ctl [a0,a1,a2,a3,a4,a5] 5=60*a0+60*a1+60*a2+60*a3+60*a4+60*a5:=by simp [ctl,sm,cw,bin];omega
 generalize ctl [a0,a1,a2,a3,a4,a5] 0=b0 at*;generalize ctl [a0,a1,a2,a3,a4,a5] 1=b1 at*;generalize ctl [a0,a1,a2,a3,a4,a5] 2=b2 at*;generalize ctl [a0,a1,a2,a3,a4,a5] 3=b3 at*;generalize ctl [a0,a1,a2,a3,a4,a5] 4=b4 at*;generalize ctl [a0,a1,a2,a3,a4,a5] 5=b5 at*;clear h;have f0:60*a0=1*b0:=by omega
 have f1:12*a1= -1*b0+1*b1:=by omega
 have f2:6*a2=1*b0+ -2*b1+1*b2:=by omega
 have f3:6*a3= -1*b0+3*b1+ -3*b2+1*b3:=by omega
 have f4:12*a4=1*b0+ -4*b1+6*b2+ -4*b3+1*b4:=by omega
 have f5:60*a5= -1*b0+5*b1+ -10*b2+10*b3+ -5*b4+1*b5:=by omega
 clear e0 e1 e2 e3 e4 e5;have g0:(a0.natAbs:Int)≤1048576*o:=by omega
 have g1:(a1.natAbs:Int)≤10485760*o:=by omega
 have g2:(a2.natAbs:Int)≤41943040*o:=by omega
 have g3:(a3.natAbs:Int)≤83886080*o:=by omega
 have g4:(a4.natAbs:Int)≤83886080*o:=by omega
 have g5:(a5.natAbs:Int)≤33554432*o:=by omega
 clear h0 h1 h2 h3 h4 h5 f0 f1 f2 f3 f4 f5;simp only [nrm];generalize a0.natAbs=m0 at*;generalize a1.natAbs=m1 at*;generalize a2.natAbs=m2 at*;generalize a3.natAbs=m3 at*;generalize a4.natAbs=m4 at*;generalize a5.natAbs=m5 at*;omega
theorem Zl3 {c:List Int} {o:Int} (h:axOK c o=true) (ho:0≤o):(nrm c:Int)≤254803968*o:=by
 obtain⟨h1,h6, -,hb⟩:=Qct h;have hj:=Q5b hb;clear hb h
 match c,h1,h6,hj with
 | [a0],_,_,hj=>exact Int.le_trans (Zno ho hj) (by omega)
 | [a0,a1],_,_,hj=>exact Int.le_trans (Znp ho hj) (by omega)
 | [a0,a1,a2],_,_,hj=>exact Int.le_trans (Znq ho hj) (by omega)
 | [a0,a1,a2,a3],_,_,hj=>exact Int.le_trans (Znr ho hj) (by omega)
 | [a0,a1,a2,a3,a4],_,_,hj=>exact Int.le_trans (Zns ho hj) (by omega)
 | [a0,a1,a2,a3,a4,a5],_,_,hj=>exact Int.le_trans (Znt ho hj) (by omega)
 |_::_::_::_::_::_::_::_,_,h6,_=>simp at h6
theorem Qhi (g:Nat) (c:List Int):gcdL g c∣g∧ ∀x∈c,gcdL g c∣x.natAbs:=by
 induction c generalizing g with
 |nil=>exact⟨Nat.dvd_refl _,fun _ h=>nomatch h⟩
 |cons y c ih=>
  obtain⟨h1,h2⟩:=ih (Nat.gcd g y.natAbs);refine⟨Nat.dvd_trans h1 (Nat.gcd_dvd_left _ _),fun x hx=> ?_⟩;cases hx with
  |head=>exact Nat.dvd_trans h1 (Nat.gcd_dvd_right _ _)
  |tail _ h=>exact h2 x h
theorem Qq5 (L:Nat→List Int) (o:Int):(mdG L o 3:Int)∣o∧ ∀i,i<3→ ∀x∈L i,(mdG L o 3:Int)∣x:=by
 have d3:=Qhi (mdG L o 2) (L 2);have d2:=Qhi (mdG L o 1) (L 1);have d1:=Qhi (mdG L o 0) (L 0);have a1:mdG L o 3∣mdG L o 1:=Nat.dvd_trans d3.1 d2.1;refine⟨Int.dvd_natAbs.1 (Int.natCast_dvd_natCast.2 (Nat.dvd_trans a1 d1.1)),fun i hi x hx=>Int.dvd_natAbs.1 (Int.natCast_dvd_natCast.2 ?_)⟩;rcases(show i=0∨i=1∨i=2 by omega)with rfl|rfl|rfl
 ·exact Nat.dvd_trans a1 (d1.2 x hx)
 ·exact Nat.dvd_trans d3.1 (d2.2 x hx)
 ·exact d3.2 x hx
theorem Zun {L:Nat→List Int} {o:Int} (ho:0<o) (hf:Qm8 L o=true) {i:Nat} (hi:i<3) {x:Int} (hx:x∈L i) {K:Int} (hK:(x.natAbs:Int)≤K*o) (h0:0≤K):((x/(mdG L o 3:Int)).natAbs:Int)≤K*4294967296:=by
 obtain⟨h1,h2⟩:=Qq5 L o;have h3:=h2 i hi x hx;have hg:=Qki (L:=L) ho 3;have hO:mdO L o≤4294967296:=of_decide_eq_true hf;unfold mdO at hO;generalize mdG L o 3=G at*;have e1:x.natAbs=(x/(G:Int)).natAbs*G:=by
  have:=congrArg Int.natAbs (Int.ediv_mul_cancel h3);rw [Int.natAbs_mul,Int.natAbs_natCast]at this;exact this.symm
 have e2:o/(G:Int)*G=o:=Int.ediv_mul_cancel h1;rw [e1,←e2,Int.natCast_mul,←Int.mul_assoc]at hK;have h4:=Int.le_of_mul_le_mul_right hK (show(0:Int)<(G:Int)by omega);exact Int.le_trans h4 (Int.mul_le_mul_of_nonneg_left hO h0)
def ptL (s:Sg) (a b:Int):Nat→List Int:=cmpL s (a-s.f) (b-a) (s.t-s.f)
def ptO (s:Sg):Int:=s.o*(s.t-s.f)^5
theorem Qkj (s:Sg) (i:Nat) (h:i<3):s.ax.getD i []∈s.ax:=by
 rcases(show i=0∨i=1∨i=2 by omega)with rfl|rfl|rfl<;>simp [Sg.ax]
theorem Zuo {s:Sg} {a b:Int} (hv:Qa7 s=true) (h1:s.f≤a) (h2:a≤b) (h3:b≤s.t) (i:Nat) (hi:i<3):(nrm (ptL s a b i):Int)≤254803968*ptO s:=by
 obtain⟨⟨v1,v2,v3,v4,v5⟩,hax, -⟩:=Qat hv;have hm:=Qkj s i hi;have ha:=hax _ hm;have hn:=Zl3 ha (by omega);obtain⟨l1,l6, -, -⟩:=Qct ha;have hk:=Zdq (s.ax.getD i []) (a-s.f) (b-a) (s.t-s.f) l6 l1 (by omega) (by omega);have e:ptL s a b i=cmpC (s.ax.getD i []) (a-s.f) (b-a) (s.t-s.f):=rfl;rw [e];unfold ptO;generalize nrm (cmpC (s.ax.getD i []) (a-s.f) (b-a) (s.t-s.f))=X at*;generalize nrm (s.ax.getD i [])=Y at*;have hD:((s.t-s.f).natAbs:Int)=s.t-s.f:=by omega
 have hk':(X:Int)≤(s.t-s.f)^5*(Y:Int):=by
  have:=Int.ofNat_le.2 hk
  rwa [Int.natCast_mul,Int.natCast_pow,hD]at this
 have hp:0≤(s.t-s.f)^5:=Int.pow_nonneg (by omega);refine Int.le_trans hk' (Int.le_trans (Int.mul_le_mul_of_nonneg_left hn hp) ?_);rw [Int.mul_left_comm,Int.mul_comm s.o];exact Int.le_refl _
end Go.Dg

namespace Go.Proofs.YtjlkapdmgjocdaaGreat
open Go.Vl Go.RowKit Go.Dg
def noSg:PV:= .agg [.int .i64 0,.int .i64 0,.int .i64 0,.nilS,.nilS,.nilS]
attribute [go_sem] noSg
end Go.Proofs.YtjlkapdmgjocdaaGreat

namespace Go.Dg
theorem Q5c {s:Sg} (hv:Qa7 s=true):0<ptO s:=by
 obtain⟨⟨v1,v2,v3,v4,v5⟩, -, -⟩:=Qat hv;exact Int.mul_pos (by omega) (Int.pow_pos (by omega))
theorem Zup {s:Sg} {a b:Int} (hv:Qa7 s=true) (h1:s.f≤a) (h2:a≤b) (h3:b≤s.t) (hf:Qm8 (ptL s a b) (ptO s)=true):
  ∀i,i<3→ ∀x∈ptL s a b i,(x/(mdG (ptL s a b) (ptO s) 3:Int)).natAbs≤4611686018427387904:=by
 intro i hi x hx;have h:=Zuo hv h1 h2 h3 i hi;have h4:=Q49 hx;have h5:=Zun (Q5c hv) hf hi hx (K:=254803968) (by omega) (by decide);omega
def ptS (s:Sg) (a b:Int):Sg:=Qdk a b (ptL s a b) (ptO s)
def ptF (s:Sg) (a b:Int):Bool:=Qm8 (ptL s a b) (ptO s)
def spans:List Sg→Int→Int→List (Sg×Int×Int)
 | [],_,_=>[]
 |s::r,f,t=>if max f s.f≥min t s.t then spans r f t else(s,max f s.f,min t s.t)::spans r f t
def spF (x:Sg×Int×Int):Bool:=ptF x.1 x.2.1 x.2.2
def spS (x:Sg×Int×Int):Sg:=ptS x.1 x.2.1 x.2.2
theorem Qgr (p q:List Sg) (f t:Int):spans (p++q) f t=spans p f t++spans q f t:=by
 induction p with
 |nil=>rfl
 |cons x p ih=>simp only [List.cons_append,spans,ih];split<;>rfl
theorem Q0s (p:List Sg) (s:Sg) (f t:Int):spans (p++[s]) f t=spans p f t++(if max f s.f≥min t s.t then []else [(s,max f s.f,min t s.t)]):=by
 rw [Qgr];simp only [spans]
theorem Qla (p:List Sg) (f t:Int):(spans p f t).length≤p.length:=by
 induction p with
 |nil=>exact Nat.le_refl _
 |cons x p ih=>
  simp only [spans];split
  ·simp only [List.length_cons];omega
  ·simp only [List.length_cons];omega
theorem Q5d {p:List Sg} {f t:Int} {x:Sg×Int×Int} (h:x∈spans p f t):x.1∈p∧x.2.1=max f x.1.f∧x.2.2=min t x.1.t∧x.2.1<x.2.2:=by
 induction p with
 |nil=>cases h
 |cons s p ih=>
  simp only [spans]at h;split at h
  ·obtain⟨h1,h2⟩:=ih h;exact⟨List.mem_cons_of_mem _ h1,h2⟩
  ·cases h with
   |head=>exact⟨List.mem_cons_self,rfl,rfl,by simp only;omega⟩
   |tail _ h=>
    obtain⟨h1,h2⟩:=ih h;exact⟨List.mem_cons_of_mem _ h1,h2⟩
end Go.Dg

namespace Go.Proofs.YtjlkapdmgjocdaaGreat
open Go.Vl Go.RowKit Go.Dg
attribute [go_sem] Zxz Zx0
theorem Zme {s:Sg} (hs:okSg s) (hd:i64 (s.t-s.f)):(ptO s).natAbs<2^12000:=by
 exact Qic (C:=12000) (Qja (Qbh hs.o) (Qtp (Qbh hd) 5)) (by decide)
theorem Zvi {s:Sg} {a b:Int} (hs:okSg s) (hv:Qa7 s=true) (h1:i64 (a-s.f)) (h2:i64 (b-a)) (h3:i64 (s.t-s.f)): ∀i,i<3→bd 12000 (ptL s a b i)∧(ptL s a b i).length≤6:=by
 intro i hi;have hm:=Qkj s i hi;obtain⟨l1,l6, -, -⟩:=Qct ((Qat hv).2.1 _ hm);exact⟨(Qy9 l6 (fun x hx=>Qbh (hs.c _ hm x hx)) (Qbh h1) (Qbh h2) (Qbh h3)).2,Zoq l6⟩
end Go.Proofs.YtjlkapdmgjocdaaGreat

namespace Go.Proofs.YtjlkapdmgjocdaaGreat
open Go.Vl Go.RowKit Go.Dg
theorem Q6h (l:List Sg):(((l.map sgPV).flatMap PV.cells).all PV.okCell)=true:=by
 rw [List.all_flatMap,List.all_map,List.all_eq_true];intro _ _;rfl
end Go.Proofs.YtjlkapdmgjocdaaGreat

namespace Go.Proofs.YtjlkapdmgjocdaaGreat
open Go.Vl Go.RowKit Go.Dg
def ptSS (s:Sg) (a b:Int):Sg:=if ptF s a b=true then ptS s a b else⟨a,b,0,[],[],[]⟩
def spO (x:Sg×Int×Int):List PV:=[sgPV (ptSS x.1 x.2.1 x.2.2),.bool (spF x)]
def Qdq (p:List Sg) (f t:Int):List (List PV):=(spans p f t).map spO
theorem Zep (p:List Sg) (f t:Int):Qaf Tryz.prog 74 [Qcs p,.int .i64 f,.int .i64 t] (.fn 90 [] [.rp [Qcs p],.rp [.int .i64 f],.rp [.int .i64 t]]):=by
 refine Qab (tb:=[]) 8 [.tmp 6] [0,1,2,3,4,5,6] mixed Tryz.func74 rfl (by kernel_rfl) (by kernel_rfl) (by kernel_rfl) (by kernel_rfl) ?_;repeat (first|(simp -implicitDefEqProofs only [go_sem,Nat.reduceAdd,Nat.reduceMul,Nat.reduceEqDiff,Nat.reduceLT,Nat.reduceLeDiff,reduceCtorEq,Qcs]))
theorem Q0z {p:List Sg} {f t:Int} {i:Nat} (hi:i<p.length):Qdq (p.take (i+1)) f t=Qdq (p.take i) f t++(if max f p[i].f≥min t p[i].t then []else [[sgPV (ptSS p[i] (max f p[i].f) (min t p[i].t)),.bool (ptF p[i] (max f p[i].f) (min t p[i].t))]]):=by
 unfold Qdq;rw [Qcb p i hi,Q0s,List.map_append];congr 1;split<;>rfl
theorem Q6l {p:List Sg} {f t:Int} {i:Nat} (hi:i<p.length) (h: ¬max f p[i].f≥min t p[i].t):(Qdq p f t)[(Qdq (p.take i) f t).length]? =some [sgPV (ptSS p[i] (max f p[i].f) (min t p[i].t)),.bool (ptF p[i] (max f p[i].f) (min t p[i].t))]:=by
 have e:Qdq p f t=Qdq (p.take i) f t++Qdq (p.drop i) f t:=by
  unfold Qdq;rw [←List.map_append,←Qgr,List.take_append_drop]
 rw [e,List.getElem?_append_right (Nat.le_refl _),Nat.sub_self,List.drop_eq_getElem_cons hi];unfold Qdq;simp only [spans];rw [if_neg h];rfl
theorem Q00 {p:List Sg} {f t:Int} {i:Nat}:Qdq (p.take i) f t=(Qdq p f t).take (Qdq (p.take i) f t).length:=by
 have e:Qdq p f t=Qdq (p.take i) f t++Qdq (p.drop i) f t:=by
  unfold Qdq;rw [←List.map_append,←Qgr,List.take_append_drop]
 conv=>rhs;rw [e]
 rw [List.take_left'];rfl
theorem Zos (s:Sg) (a b:Int) (hs:okSg s) (hv:Qa7 s=true) (h1:s.f≤a) (h2:a<b) (h3:b≤s.t):
  Qaf Tryz.prog 91 [.int .i64 a,.int .i64 b,.agg [wL (ptL s a b 0),wL (ptL s a b 1),wL (ptL s a b 2)],wPV (ptO s)] (.tup [sgPV (ptSS s a b),.bool (ptF s a b)]):=by
 obtain⟨⟨v1,v2,v3,v4,v5⟩,hax, -⟩:=Qat hv;have d1:i64 (a-s.f):=by unfold i64;omega
 have d2:i64 (b-a):=by unfold i64;omega
 have d3:i64 (s.t-s.f):=by unfold i64;omega
 have hbd:=Zvi hs hv d1 d2 d3;have h:=Zor a b (ptL s a b) (ptO s) 12000 (by decide) (Q5c hv) (Zme hs d3) (fun i hi=>(hbd i hi).1) (fun i hi=>by have:=(hbd i hi).2;omega) (Zup hv h1 (by omega) h3);have e:(.tup [sgPV (ptSS s a b),.bool (ptF s a b)]:PV)=if Qm8 (ptL s a b) (ptO s)=true then .tup [sgPV (Qdk a b (ptL s a b) (ptO s)),.bool true]else .tup [sgPV ⟨a,b,0,[],[],[]⟩,.bool false]:=by
  unfold ptSS ptF ptS;cases Qm8 (ptL s a b) (ptO s)<;>rfl
 rw [e];exact h
set_option maxHeartbeats 4000000 in
theorem Q6m (p:List Sg) (f t:Int) (hp: ∀s∈p,okSg s) (hv: ∀s∈p,Qa7 s=true) (hl:p.length≤100000):Qia Tryz.prog 90 [.rp [Qcs p],.rp [.int .i64 f],.rp [.int .i64 t]] (Qdq p f t):=by
 refine Qj8 (tb:=[]) 62 [0,1,2,3,6,7,8,9,10,11,12,13,14,15,28,60] mixed Tryz.func90 rfl (by kernel_rfl) (by kernel_rfl) (by kernel_rfl) (by kernel_rfl) fun l stop=> ?_;repeat (first|(simp -implicitDefEqProofs only [go_sem,Nat.reduceAdd,Nat.reduceMul,Nat.reduceEqDiff,Nat.reduceLT,Nat.reduceLeDiff,reduceCtorEq,Qcs]))
 refine Qar mixed (fun i:{i:Nat // i≤p.length∧(Qdq (p.take i) f t).length≤stop}=>St.ofG [(0,.yld l stop),(1,.rp [Qcs p]),(2,.rp [.int .i64 f]),(3,.rp [.int .i64 t]),(12,Qcs p),(13,.int .i64 (p.length:Int)),(14,.int .i64 (i.1:Int))] [] (Qdq (p.take i.1) f t) (some (l,stop,Qdq p f t))) (fun i=>p.length-i.1) ⟨0,Nat.zero_le _,Nat.zero_le _⟩ ?_ ?_
 ·refine Qa3 ?_;simp [Qac,lkp,ren1,ren0,Qai,Qcs]
 ·rintro⟨i,hi,hst⟩;simp only;by_cases hA:i<p.length
  ·have hA':=ltT hA;have n0:=nnT i;have hg:=Qil p i hA;have hwk:=Qan (a:=i) (by omega);have hs:=hp _ (List.getElem_mem hA);have hvs:=hv _ (List.getElem_mem hA);have hsn:=Q0z (f:=f) (t:=t) hA;have hgt:=Q6l (f:=f) (t:=t) hA;have htk:=Q00 (p:=p) (f:=f) (t:=t) (i:=i+1);generalize hO:Qdq (p.take i) f t=O at*;generalize hOO:Qdq p f t=OO at*;generalize p[i]=s at*;by_cases hc:max f s.f≥min t s.t
   ·have hc':(min t s.t≤max f s.f)=True:=eq_true hc;rw [if_pos hc,List.append_nil]at hsn;repeat (first|(simp -implicitDefEqProofs only [go_sem,Nat.reduceAdd,Nat.reduceMul,Nat.reduceEqDiff,Nat.reduceLT,Nat.reduceLeDiff,reduceCtorEq,hA',n0,hg,hwk,hc',Int.toNat_natCast])|(with_reducible refine And.intro (Qae _ _ (by kernel_rfl)) ?_))
    refine⟨⟨i+1,hA,by rw [hsn];exact hst⟩,by simp only;omega,?_⟩;simp only [hsn];refine Qa3 ?_;simp [Qac,lkp,ren1,ren0,Qai,Qcs]
   ·have hc':(min t s.t≤max f s.f)=False:=eq_false hc;rw [if_neg hc]at hsn;have hgt:=hgt hc;have hmk:=Zos s (max f s.f) (min t s.t) hs hvs (by omega) (by omega) (by omega);obtain⟨⟨v1,v2,v3,v4,v5⟩,hax, -⟩:=Qat hvs;generalize hm1:max f s.f=a at*;generalize hm2:min t s.t=b at*;have d1:i64 (a-s.f):=by unfold i64;omega
    have d2:i64 (b-a):=by unfold i64;omega
    have d3:i64 (s.t-s.f):=by unfold i64;omega
    have w1:=Qag d1.1 d1.2;have w2:=Qag d2.1 d2.2;have w3:=Qag d3.1 d3.2;have f1:=Q0x s (a-s.f) (b-a) (s.t-s.f) hs (fun c hc=>(Qct (hax c hc)).2.1) d1 d2 d3 (by omega);have eL:cmpL s (a-s.f) (b-a) (s.t-s.f)=ptL s a b:=rfl;rw [eL]at f1;have f2:=Qfi s.o hs.o.1 hs.o.2;have f3:=Qdl (s.t-s.f) 5 64 d3.1 d3.2 (by decide) (by decide) (Qbh d3);have hOl:=Zme hs d3;have eO:s.o*(s.t-s.f)^5=ptO s:=rfl;have f4:=Qgv (Qap (Qbh hs.o) (by decide)) (Qap (Qtp (Qbh d3) 5) (by decide)) (Qap (show(s.o*(s.t-s.f)^5).natAbs<2^12000 from hOl) (by decide));rw [eO]at f4;generalize ptL s a b=L at*;generalize ptO s=PO at*;generalize ptSS s a b=X at*;generalize ptF s a b=F at*;unfold sgPV at f1 hgt hsn hmk;unfold wL at f1 hmk;clear eL eO hOl;have hst':(O.length≤stop)=True:=eq_true hst;by_cases hlt:O.length<stop
    case neg=>
     have hlt':(O.length<stop)=False:=eq_false hlt;have htk2:OO.take (stop+1)=O++[[.agg [.int .i64 X.f,.int .i64 X.t,.int .i64 X.o,.slc (X.x.map (PV.int .i64)),.slc (X.y.map (PV.int .i64)),.slc (X.z.map (PV.int .i64))],.bool F]]:=by
      have e:O.length=stop:=by omega
      have:=htk;rw [hsn,List.length_append,e]at this;exact this.symm
     repeat (first|(simp -implicitDefEqProofs only [go_sem,Nat.reduceAdd,Nat.reduceMul,Nat.reduceEqDiff,Nat.reduceLT,Nat.reduceLeDiff,reduceCtorEq,wPV,hA',n0,hg,hm1,hm2,hc',w1,w2,w3,hgt,hst',hlt',Qj6,htk2,Int.toNat_natCast])|((with_reducible refine Qaa f1 ?_ ?_ ?_);rfl;rfl)|((with_reducible refine Qaa f2 ?_ ?_ ?_);rfl;rfl)|((with_reducible refine Qaa f3 ?_ ?_ ?_);rfl;rfl)|((with_reducible refine Qaa f4 ?_ ?_ ?_);rfl;rfl)|((with_reducible refine Qaa hmk ?_ ?_ ?_);rfl;rfl)|(with_reducible exact Qae _ _ (by kernel_rfl))|(with_reducible refine And.intro (Qae _ _ (by kernel_rfl)) ?_))
    have hlt':(O.length<stop)=True:=eq_true hlt;repeat (first|(simp -implicitDefEqProofs only [go_sem,Nat.reduceAdd,Nat.reduceMul,Nat.reduceEqDiff,Nat.reduceLT,Nat.reduceLeDiff,reduceCtorEq,hst',hlt',wPV,hA',n0,hg,hwk,hm1,hm2,hc',w1,w2,w3,hgt,Int.toNat_natCast])|((with_reducible refine Qaa f1 ?_ ?_ ?_);rfl;rfl)|((with_reducible refine Qaa f2 ?_ ?_ ?_);rfl;rfl)|((with_reducible refine Qaa f3 ?_ ?_ ?_);rfl;rfl)|((with_reducible refine Qaa f4 ?_ ?_ ?_);rfl;rfl)|((with_reducible refine Qaa hmk ?_ ?_ ?_);rfl;rfl)|(with_reducible refine And.intro (Qae _ _ (by kernel_rfl)) ?_))
    refine⟨⟨i+1,hA,by rw [hsn,List.length_append];exact hlt⟩,by simp only;omega,?_⟩;simp only [hsn];refine Qa3 ?_;simp [Qac,lkp,ren1,ren0,Qai,Qcs]
  ·have hA':=ltF hA;have hO:Qdq (p.take i) f t=Qdq p f t:=by rw [List.take_of_length_le (by omega)]
   rw [hO]at hst ⊢;have ht:(Qdq p f t).take (stop+1)=Qdq p f t:=List.take_of_length_le (by omega);generalize Qdq p f t=OO at*;repeat (first|(simp -implicitDefEqProofs only [go_sem,Nat.reduceAdd,Nat.reduceMul,Nat.reduceEqDiff,Nat.reduceLT,Nat.reduceLeDiff,reduceCtorEq,hA',Qj6,ht]))
end Go.Proofs.YtjlkapdmgjocdaaGreat
