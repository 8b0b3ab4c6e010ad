/-
  SM16, Dsn, SM17, UYG (merged for the claim).
-/
import Derived.Test.YtlpiamlgibomhaaGreatSM15
import Derived.Test.YtlpiamlgibomhaaGreatUZ
set_option linter.unusedSimpArgs false
set_option linter.unusedVariables false
namespace Go.Proofs.YtlpiamlgibomhaaGreat
open Go.Vl Go.RowKit Go.Dg
theorem T_zp:Qa6 Tryz.prog 159=none:=by kernel_rfl
theorem T_zu:Q66 Tryz.prog 159=some (.agg [.undef,.undef,.undef]):=by kernel_rfl
theorem Zq2 (L:Nat→List Int) (i:Nat) (h:i<3):([.slc ((L 0).map wPV),.slc ((L 1).map wPV),.slc ((L 2).map wPV)]:List PV)[i*1]? =some (.slc ((L i).map wPV)):=by
 rcases(show i=0∨i=1∨i=2 by omega)with rfl|rfl|rfl<;>rfl
theorem Q14 {L:Nat→List Int} {o:Int} {B:Nat} (ho:o.natAbs<2^B) (hL: ∀i,i<3→bd B (L i)): ∀i,i≤3→mdG L o i<2^B
 |0,_=>ho
 |i+1,h=>Qea _ (Q14 ho hL i (by omega)) (hL i (by omega))
def mdV (C:Nat→List Int) (i m:Nat):PV:=if m<i then .bs (8+m) 1 0 (C m).length else .nilS
def mdB (ety:Nat) (C:Nat→List Int):Nat→List (Nat×Box)
 |0=>[]
 |1=>[(8,{els:=(C 0).map (PV.int .i64),esz:=1,ety:=ety,fro:=0,live:=true,arr:=true})]
 |2=>[(8,{els:=(C 0).map (PV.int .i64),esz:=1,ety:=ety,fro:=0,live:=true,arr:=true}),(9,{els:=(C 1).map (PV.int .i64),esz:=1,ety:=ety,fro:=0,live:=true,arr:=true})]
 |_=>[(8,{els:=(C 0).map (PV.int .i64),esz:=1,ety:=ety,fro:=0,live:=true,arr:=true}),(9,{els:=(C 1).map (PV.int .i64),esz:=1,ety:=ety,fro:=0,live:=true,arr:=true}),(10,{els:=(C 2).map (PV.int .i64),esz:=1,ety:=ety,fro:=0,live:=true,arr:=true})]
theorem Qf1 (l:List Int):(((l.map (PV.int .i64)).flatMap PV.cells).all PV.okCell)=true:=by
 rw [List.all_flatMap,List.all_map,List.all_eq_true];intro _ _;rfl
theorem Zin (G:Int) (p:List Int):(mkC G p).length=if p=[]then 1 else p.length:=by unfold mkC;split<;>simp
abbrev iT:Nat:=3
def mdW (C:Nat→List Int) (i:Nat) (X:PV) (m:Nat):PV:=if m=i then X else mdV C i m
set_option maxHeartbeats 4000000 in
theorem Q15 (f t:Int) (L:Nat→List Int) (o:Int) (B:Nat) (hB:B≤60000) (ho:0<o) (hob:o.natAbs<2^B) (hL: ∀i,i<3→bd B (L i)) (hl: ∀i,i<3→(L i).length≤100)
  (hq:Qh3 L o=true→ ∀i,i<3→ ∀x∈L i,(x/(mdG L o 3:Int)).natAbs≤4611686018427387904):
  Qaf Tryz.prog 78 [.int .i64 f,.int .i64 t,.agg [wL (L 0),wL (L 1),wL (L 2)],wPV o]
   (if Qh3 L o=true then .tup [sgPV (Qrd f t L o),.bool true]else .tup [sgPV ⟨f,t,0,[],[],[]⟩,.bool false]):=by
 have hG:=Q14 hob hL
 have hGp:=Qpp (L:=L) ho
 have hO0:((mdG L o 0:Nat):Int)=o:=by show((o.natAbs:Nat):Int)=o;omega
 have o3:=Qe7 4294967296 (by decide) (by decide)
 have hg3:((mdG L o 3:Nat):Int).natAbs<2^B:=by rw [Int.natAbs_natCast];exact hG 3 (by decide)
 have qO:=Qij hob (by omega) (Qoi hg3 (by omega)) (show(0:Int)<((mdG L o 3:Nat):Int)by have:=hGp 3;omega)
 have hOe:o/((mdG L o 3:Nat):Int)=mdO L o:=rfl
 rw [hOe]at qO
 have hOb:(mdO L o).natAbs<2^(B+1):=Qwm hob (by have:=hGp 3;omega)
 have cmO:=Qok (Qau hOb (by omega)) (Qau (show(4294967296:Int).natAbs<2^64 by decide) (by decide))
 unfold wL
 refine Qac (tb:=[]) 98 [.cell 8 24,.tmp 9] [0,1,2,3,6,7,8,9,10,12,14,15,16,17,18,20,21,24,25,26,28,29,30,31,48,59,60,61,66,67,68,69,92] mixed Tryz.func78 rfl (by kernel_rfl) (by kernel_rfl) (by kernel_rfl) (by kernel_rfl) ?_
 repeat (first|(simp -implicitDefEqProofs only [go_sem,Nat.reduceAdd,Nat.reduceMul,Nat.reduceEqDiff,Nat.reduceLT,Nat.reduceLeDiff,reduceCtorEq,T_zp,T_zu,wPV,if_true,Qrd])|(with_reducible exact Qaa _ _ (by kernel_rfl))|(with_reducible refine And.intro (Qaa _ _ (by kernel_rfl)) ?_))
 refine Qao mixed (fun i:{i:Nat // i≤3}=>St.of [(0,.int .i64 f),(1,.int .i64 t),(6,.bp 0 3 0 0),(7,.bp 1 2 0 0),(8,.bp 2 6 0 0),(10,.bp 101 2 0 0),(24,.agg [wL (L 0),wL (L 1),wL (L 2)]),(25,.int .i64 (i.1:Int))]
  [(0,{els:=[.agg [wL (L 0),wL (L 1),wL (L 2)]],esz:=3,ety:=113,fro:=0,live:=true,arr:=false}),(1,{els:=[wPV o],esz:=2,ety:=31,fro:=0,live:=true,arr:=false}),(2,{els:=[.agg [.int .i64 0,.int .i64 0,.int .i64 0,.nilS,.nilS,.nilS]],esz:=6,ety:=24,fro:=0,live:=true,arr:=false}),(101,{els:=[wPV ((mdG L o i.1:Nat):Int)],esz:=2,ety:=31,fro:=0,live:=true,arr:=false})]) (fun i=>3-i.1) ⟨0,Nat.zero_le _⟩ ?_ ?_
 ·refine Qaj (θ:=[(0,0),(1,1),(2,2),(101,101)]) rfl ?_ ?_
  ·simp [Qad,lkp,ren1,ren0,Qam,wL]
  ·refine⟨⟨rfl,rfl,rfl,rfl,rfl,.inr ⟨rfl,_,_,rfl,rfl,rfl,rfl⟩⟩,⟨rfl,rfl,rfl,rfl,rfl,.inr ⟨rfl,_,_,rfl,rfl,rfl,rfl⟩⟩,⟨rfl,rfl,rfl,rfl,rfl,.inr ⟨rfl,_,_,rfl,rfl,rfl,rfl⟩⟩,⟨rfl,rfl,rfl,rfl,rfl,.inr ⟨rfl,_,_,rfl,rfl,?_,rfl⟩⟩,trivial⟩
   simp only [hO0];rfl
 ·rintro⟨i,hi⟩
  by_cases hA:i<3
  ·have hA':((i:Int)<3)=True:=eq_true (by omega)
   have hA2:=ltT hA
   have n0:=nnT i
   have hx:=Zq2 L i hA
   have hwk:=Qah (a:=i) (by omega)
   have hLi:=hL i hA
   have hli:=hl i hA
   have hGi:=hG i (by omega)
   have hGs:mdG L o (i+1)=gcdL (mdG L o i) (L i):=rfl
   generalize hC:L i=c at*
   generalize mdG L o i=Y0 at*
   repeat (first|(simp -implicitDefEqProofs only [go_sem,Nat.reduceAdd,Nat.reduceMul,Nat.reduceEqDiff,Nat.reduceLT,Nat.reduceLeDiff,reduceCtorEq,T_zp,T_zu,wL,hA',hA2,n0,hx,Int.toNat_natCast,List.length_map])|(with_reducible exact Qaa _ _ (by kernel_rfl))|(with_reducible refine And.intro (Qaa _ _ (by kernel_rfl)) ?_))
   refine Qao mixed (fun k:{k:Nat // k≤c.length}=>St.of [(0,.int .i64 f),(1,.int .i64 t),(6,.bp 0 3 0 0),(7,.bp 1 2 0 0),(8,.bp 2 6 0 0),(10,.bp 101 2 0 0),(24,.agg [wL (L 0),wL (L 1),wL (L 2)]),(25,.int .i64 (i:Int)),(28,wL c),(29,.int .i64 (c.length:Int)),(30,.int .i64 (k.1:Int))]
    [(0,{els:=[.agg [wL (L 0),wL (L 1),wL (L 2)]],esz:=3,ety:=113,fro:=0,live:=true,arr:=false}),(1,{els:=[wPV o],esz:=2,ety:=31,fro:=0,live:=true,arr:=false}),(2,{els:=[.agg [.int .i64 0,.int .i64 0,.int .i64 0,.nilS,.nilS,.nilS]],esz:=6,ety:=24,fro:=0,live:=true,arr:=false}),(101,{els:=[wPV ((gcdL Y0 (c.take k.1):Nat):Int)],esz:=2,ety:=31,fro:=0,live:=true,arr:=false})]) (fun k=>c.length-k.1) ⟨0,Nat.zero_le _⟩ ?_ ?_
   ·refine Qaj (θ:=[(0,0),(1,1),(2,2),(101,101)]) rfl ?_ ?_
    ·simp [Qad,lkp,ren1,ren0,Qam,wL]
    ·exact⟨⟨rfl,rfl,rfl,rfl,rfl,.inr ⟨rfl,_,_,rfl,rfl,rfl,rfl⟩⟩,⟨rfl,rfl,rfl,rfl,rfl,.inr ⟨rfl,_,_,rfl,rfl,rfl,rfl⟩⟩,⟨rfl,rfl,rfl,rfl,rfl,.inr ⟨rfl,_,_,rfl,rfl,rfl,rfl⟩⟩,⟨rfl,rfl,rfl,rfl,rfl,.inr ⟨rfl,_,_,rfl,rfl,rfl,rfl⟩⟩,trivial⟩
   ·rintro⟨k,hk⟩
    by_cases hB':k<c.length
    ·have hB2:=ltT hB'
     have n1:=nnT k
     have hgk:=Qdg c k hB'
     have hwk2:=Qah (a:=k) (by omega)
     have x1:=hLi _ (List.getElem_mem hB')
     have x2:((gcdL Y0 (c.take k):Nat):Int).natAbs<2^B:=by rw [Int.natAbs_natCast];exact Qea _ hGi fun x hx=>hLi x (List.mem_of_mem_take hx)
     have m:=Qod (Qau x2 (by omega)) (Qau x1 (by omega))
     rw [Int.natAbs_natCast,←Qd2,←Qbb c k hB']at m
     generalize hX:gcdL Y0 (c.take (k+1))=X at*
     generalize gcdL Y0 (c.take k)=Y at*
     repeat (first|(simp -implicitDefEqProofs only [go_sem,Nat.reduceAdd,Nat.reduceMul,Nat.reduceEqDiff,Nat.reduceLT,Nat.reduceLeDiff,reduceCtorEq,T_zp,T_zu,wL,wPV,hB2,n1,hgk,hwk2,Int.toNat_natCast])|((with_reducible refine Qab (m) ?_ ?_ ?_);(with_reducible rfl);rfl)|(with_reducible exact Qaa _ _ (by kernel_rfl))|(with_reducible refine And.intro (Qaa _ _ (by kernel_rfl)) ?_))
     refine⟨⟨k+1,hB'⟩,by simp only;omega,Qaj (θ:=[(0,0),(1,1),(2,2),(101,101)]) rfl ?_ ?_⟩
     ·simp [Qad,lkp,ren1,ren0,Qam,wL]
     ·simp only [hX]
      exact⟨⟨rfl,rfl,rfl,rfl,rfl,.inr ⟨rfl,_,_,rfl,rfl,rfl,rfl⟩⟩,⟨rfl,rfl,rfl,rfl,rfl,.inr ⟨rfl,_,_,rfl,rfl,rfl,rfl⟩⟩,⟨rfl,rfl,rfl,rfl,rfl,.inr ⟨rfl,_,_,rfl,rfl,rfl,rfl⟩⟩,⟨rfl,rfl,rfl,rfl,rfl,.inr ⟨rfl,_,_,rfl,rfl,rfl,rfl⟩⟩,trivial⟩
    ·have hB2:=ltF hB'
     obtain rfl:k=c.length:=by omega
     repeat (first|(simp -implicitDefEqProofs only [go_sem,Nat.reduceAdd,Nat.reduceMul,Nat.reduceEqDiff,Nat.reduceLT,Nat.reduceLeDiff,reduceCtorEq,T_zp,T_zu,hB2,hwk])|(with_reducible exact Qaa _ _ (by kernel_rfl))|(with_reducible refine And.intro (Qaa _ _ (by kernel_rfl)) ?_))
     refine⟨⟨i+1,hA⟩,by simp only;omega,Qaj (θ:=[(0,0),(1,1),(2,2),(101,101)]) rfl ?_ ?_⟩
     ·simp [Qad,lkp,ren1,ren0,Qam,wL]
     ·simp only [hGs]
      rw [List.take_length]
      exact⟨⟨rfl,rfl,rfl,rfl,rfl,.inr ⟨rfl,_,_,rfl,rfl,rfl,rfl⟩⟩,⟨rfl,rfl,rfl,rfl,rfl,.inr ⟨rfl,_,_,rfl,rfl,rfl,rfl⟩⟩,⟨rfl,rfl,rfl,rfl,rfl,.inr ⟨rfl,_,_,rfl,rfl,rfl,rfl⟩⟩,⟨rfl,rfl,rfl,rfl,rfl,.inr ⟨rfl,_,_,rfl,rfl,rfl,rfl⟩⟩,trivial⟩
  ·have hA':((i:Int)<3)=False:=eq_false (by omega)
   obtain rfl:i=3:=by omega
   simp only
   by_cases hf:mdO L o≤4294967296
   case neg=>
    have hF:Qh3 L o=false:=decide_eq_false hf
    have hs:((0:Int)<(mdO L o-4294967296).sign)=True:=eq_true (Int.sign_pos_iff.2 (by omega))
    rw [hF]
    generalize mdO L o=OO at*
    generalize ((mdG L o 3:Nat):Int)=G at*
    repeat (first|(simp -implicitDefEqProofs only [go_sem,Nat.reduceAdd,Nat.reduceMul,Nat.reduceEqDiff,Nat.reduceLT,Nat.reduceLeDiff,Nat.reduceSub,reduceCtorEq,Int.reduceLT,T_zp,T_zu,wL,wPV,hA',hs,Bool.false_eq_true,List.map_nil])|((with_reducible refine Qab (qO) ?_ ?_ ?_);(with_reducible rfl);rfl)|((with_reducible refine Qab (o3) ?_ ?_ ?_);(with_reducible rfl);rfl)|((with_reducible refine Qab (cmO) ?_ ?_ ?_);(with_reducible rfl);rfl)|(with_reducible exact Qaa _ _ (by kernel_rfl))|(with_reducible refine And.intro (Qaa _ _ (by kernel_rfl)) ?_))
   have hF:Qh3 L o=true:=decide_eq_true hf
   have hs:((0:Int)<(mdO L o-4294967296).sign)=False:=eq_false (by have:=Int.sign_nonpos_iff.2 (show mdO L o-4294967296≤0 by omega);omega)
   have hO1:0≤mdO L o:=Int.ediv_nonneg (by omega) (by omega)
   have ii:Qdu (mdO L o)= .tup [.int .i64 (mdO L o),.int .i64 0]:=by unfold Qdu;rw [if_pos (by omega)]
   have wi:=Qmg (Qau hOb (by omega))
   rw [ii]at wi
   rw [hF]
   have hqq:=hq hF
   have hqs: ∀i,i<3→ ∀x∈L i,Qaf Tryz.prog 62 [wPV x,wPV ((mdG L o 3:Nat):Int)] (wPV (x/((mdG L o 3:Nat):Int))):=fun i h x hx=>Qij (hL i h x hx) (by omega) (Qoi hg3 (by omega)) (by have:=hGp 3;omega)
   have hCd: ∀i,mdC L o i=mkC ((mdG L o 3:Nat):Int) (L i):=fun _=>rfl
   rw [if_pos rfl]
   generalize mdO L o=OO at*
   generalize mdC L o=C at*
   generalize ((mdG L o 3:Nat):Int)=G at*
   have hs':=hs
   clear hO0 hOe hGp hG ho hob hO1 hOb ii hs hF hf hq
   repeat (first|(simp -implicitDefEqProofs only [go_sem,Nat.reduceAdd,Nat.reduceMul,Nat.reduceEqDiff,Nat.reduceLT,Nat.reduceLeDiff,Nat.reduceSub,reduceCtorEq,Int.reduceLT,T_zp,T_zu,wL,wPV,hA',hs',List.map_nil])|((with_reducible refine Qab (qO) ?_ ?_ ?_);(with_reducible rfl);rfl)|((with_reducible refine Qab (o3) ?_ ?_ ?_);(with_reducible rfl);rfl)|((with_reducible refine Qab (cmO) ?_ ?_ ?_);(with_reducible rfl);rfl)|((with_reducible refine Qab (wi) ?_ ?_ ?_);(with_reducible rfl);rfl)|(with_reducible exact Qaa _ _ (by kernel_rfl))|(with_reducible refine And.intro (Qaa _ _ (by kernel_rfl)) ?_))
   refine Qao mixed (fun i:{i:Nat // i≤3}=>St.of [(6,.bp 0 3 0 0),(8,.bp 2 6 0 0),(10,.bp 101 2 0 0),(15,.bp 1103 6 0 0),(59,.agg [.bp 1103 6 0 3,.bp 1103 6 0 4,.bp 1103 6 0 5]),(60,.int .i64 (i.1:Int))]
    ((0,{els:=[.agg [wL (L 0),wL (L 1),wL (L 2)]],esz:=3,ety:=113,fro:=0,live:=true,arr:=false})::(2,{els:=[.agg [.int .i64 0,.int .i64 0,.int .i64 0,.nilS,.nilS,.nilS]],esz:=6,ety:=24,fro:=0,live:=true,arr:=false})::(101,{els:=[wPV G],esz:=2,ety:=31,fro:=0,live:=true,arr:=false})::(1103,{els:=[.agg [.int .i64 f,.int .i64 t,.int .i64 OO,mdV C i.1 0,mdV C i.1 1,mdV C i.1 2]],esz:=6,ety:=24,fro:=0,live:=true,arr:=false})::mdB iT C i.1)) (fun i=>3-i.1) ⟨0,Nat.zero_le _⟩ ?_ ?_
   ·refine Qaj (θ:=[(0,0),(2,2),(101,101),(1103,1103)]) rfl ?_ ?_
    ·simp [Qad,lkp,ren1,ren0,Qam]
    ·exact⟨⟨rfl,rfl,rfl,rfl,rfl,.inr ⟨rfl,_,_,rfl,rfl,rfl,rfl⟩⟩,⟨rfl,rfl,rfl,rfl,rfl,.inr ⟨rfl,_,_,rfl,rfl,rfl,rfl⟩⟩,⟨rfl,rfl,rfl,rfl,rfl,.inr ⟨rfl,_,_,rfl,rfl,rfl,rfl⟩⟩,⟨rfl,rfl,rfl,rfl,rfl,.inr ⟨rfl,_,_,rfl,rfl,rfl,rfl⟩⟩,trivial⟩
   ·rintro⟨i,hi⟩
    by_cases hA:i<3
    ·have hA':((i:Int)<3)=True:=eq_true (by omega)
     have hli:=hl i hA
     have hqi:=hqq i hA
     have hqsi:=hqs i hA
     have hCi:=hCd i
     rcases(show i=0∨i=1∨i=2 by omega)with hi0|hi0|hi0
     ·skip
      obtain rfl:i=0:=hi0
      generalize hLc:L 0=c at*
      repeat (first|(simp -implicitDefEqProofs only [go_sem,Nat.reduceAdd,Nat.reduceMul,Nat.reduceEqDiff,Nat.reduceLT,Nat.reduceLeDiff,Nat.reduceSub,reduceCtorEq,Int.reduceLT,T_zp,T_zu,wL,hA',mdV,mdB,Nat.reduceLT,List.length_map])|(with_reducible exact Qaa _ _ (by kernel_rfl))|(with_reducible refine And.intro (Qaa _ _ (by kernel_rfl)) ?_))
      refine Qao mixed (fun k:{k:Nat // k≤c.length}=>St.of [(6,.bp 0 3 0 0),(8,.bp 2 6 0 0),(10,.bp 101 2 0 0),(15,.bp 1103 6 0 0),(59,.agg [.bp 1103 6 0 3,.bp 1103 6 0 4,.bp 1103 6 0 5]),(60,.int .i64 0),(17,.int .i64 0),(18,.bp 1103 6 0 3),(66,wL c),(67,.int .i64 (c.length:Int)),(68,.int .i64 (k.1:Int))]
       ((0,{els:=[.agg [wL (L 0),wL (L 1),wL (L 2)]],esz:=3,ety:=113,fro:=0,live:=true,arr:=false})::(2,{els:=[.agg [.int .i64 0,.int .i64 0,.int .i64 0,.nilS,.nilS,.nilS]],esz:=6,ety:=24,fro:=0,live:=true,arr:=false})::(101,{els:=[wPV G],esz:=2,ety:=31,fro:=0,live:=true,arr:=false})::(1103,{els:=[.agg [.int .i64 f,.int .i64 t,.int .i64 OO,mdW C 0 (.bs 8 1 0 k.1) 0,mdW C 0 (.bs 8 1 0 k.1) 1,mdW C 0 (.bs 8 1 0 k.1) 2]],esz:=6,ety:=24,fro:=0,live:=true,arr:=false})::(8,{els:=(c.take k.1).map (fun x=>PV.int .i64 (x/G)),esz:=1,ety:=3,fro:=0,live:=true,arr:=true})::mdB iT C 0)) (fun k=>c.length-k.1) ⟨0,Nat.zero_le _⟩ ?_ ?_
      ·refine Le.trans (Qq0 1103 3 8 1 iT rfl rfl rfl rfl rfl rfl (by decide)) (Qaj (θ:=[(0,0),(2,2),(101,101),(1103,1103),(8,8)]) rfl ?_ ?_)
       ·simp [Qad,lkp,ren1,ren0,Qam,wL]
       ·simp only [mdB,hLc]
        exact⟨⟨rfl,rfl,rfl,rfl,rfl,.inr ⟨rfl,_,_,rfl,rfl,rfl,rfl⟩⟩,⟨rfl,rfl,rfl,rfl,rfl,.inr ⟨rfl,_,_,rfl,rfl,rfl,rfl⟩⟩,⟨rfl,rfl,rfl,rfl,rfl,.inr ⟨rfl,_,_,rfl,rfl,rfl,rfl⟩⟩,⟨rfl,rfl,rfl,rfl,rfl,.inr ⟨rfl,_,_,rfl,rfl,rfl,rfl⟩⟩,⟨rfl,rfl,rfl,rfl,rfl,.inl ⟨rfl,rfl⟩⟩,trivial⟩
      ·rintro⟨k,hk⟩
       by_cases hB':k<c.length
       ·have hB2:=ltT hB'
        have n1:=nnT k
        have hgk:=Qdg c k hB'
        have hwk2:=Qah (a:=k) (by omega)
        have q1:=hqsi _ (List.getElem_mem hB')
        have q2:=hqi _ (List.getElem_mem hB')
        have i1:Qdu (c[k]/G)= .tup [.int .i64 (c[k]/G),.int .i64 0]:=by unfold Qdu;rw [if_pos (by omega)]
        have q3:=Qmg (Qau (show(c[k]/G).natAbs<2^64 by omega) (by decide))
        rw [i1]at q3
        have hts:(c.take (k+1)).map (fun x=>PV.int .i64 (x/G))=(c.take k).map (fun x=>PV.int .i64 (x/G))++[PV.int .i64 (c[k]/G)]:=by rw [Qbb c k hB',List.map_append];rfl
        have hlt:((c.take k).map (fun x=>PV.int .i64 (x/G))).length=k:=by rw [List.length_map,List.length_take];omega
        have hok:(((c.take k).map (fun x=>PV.int .i64 (x/G))).flatMap PV.cells).all PV.okCell=true:=by have:=Qf1 ((c.take k).map (· /G));rwa [List.map_map]at this
        have k8:((k+1)*8≤140737488355328)=True:=eq_true (by omega)
        have kM:(k+1≤maxLen)=True:=eq_true (by unfold maxLen;omega)
        generalize hX:c[k]/G=X at*
        generalize hT:(c.take k).map (fun x=>PV.int .i64 (x/G))=T at*
        repeat (first|(simp -implicitDefEqProofs only [go_sem,Nat.reduceAdd,Nat.reduceMul,Nat.reduceEqDiff,Nat.reduceLT,Nat.reduceLeDiff,reduceCtorEq,Nat.reduceBneDiff,T_zp,T_zu,wL,wPV,mdW,mdV,mdB,Nat.reduceLT,Nat.reduceEqDiff,if_true,if_false,hB2,n1,hgk,hwk2,hlt,hok,k8,kM,Int.toNat_natCast])|((with_reducible refine Qab (q1) ?_ ?_ ?_);(with_reducible rfl);rfl)|((with_reducible refine Qab (q3) ?_ ?_ ?_);(with_reducible rfl);rfl)|(with_reducible exact Qaa _ _ (by kernel_rfl))|(with_reducible refine And.intro (Qaa _ _ (by kernel_rfl)) ?_))
        refine⟨⟨k+1,hB'⟩,by simp only;omega,Qaj (θ:=[(0,0),(2,2),(101,101),(1103,1103),(8,2306)]) rfl ?_ ?_⟩
        ·simp [Qad,lkp,ren1,ren0,Qam,wL]
        ·simp only [hts,mdB,hLc]
         exact⟨⟨rfl,rfl,rfl,rfl,rfl,.inr ⟨rfl,_,_,rfl,rfl,rfl,rfl⟩⟩,⟨rfl,rfl,rfl,rfl,rfl,.inr ⟨rfl,_,_,rfl,rfl,rfl,rfl⟩⟩,⟨rfl,rfl,rfl,rfl,rfl,.inr ⟨rfl,_,_,rfl,rfl,rfl,rfl⟩⟩,⟨rfl,rfl,rfl,rfl,rfl,.inr ⟨rfl,_,_,rfl,rfl,rfl,rfl⟩⟩,⟨rfl,rfl,rfl,rfl,rfl,.inl ⟨rfl,rfl⟩⟩,trivial⟩
       ·have hB2:=ltF hB'
        obtain rfl:k=c.length:=by omega
        have hwk3:=Qah (a:=0) (by omega)
        by_cases hc0:c=[]
        ·subst hc0
         have hC0:C 0=[0]:=by rw [hCi];rfl
         repeat (first|(simp -implicitDefEqProofs only [go_sem,Nat.reduceAdd,Nat.reduceMul,Nat.reduceEqDiff,Nat.reduceLT,Nat.reduceLeDiff,Nat.reduceSub,reduceCtorEq,Int.reduceLT,Int.reduceAdd,T_zp,T_zu,wL,wPV,mdW,mdV,mdB,Nat.reduceLT,Nat.reduceEqDiff,if_true,if_false,hB2,hwk3,List.length_nil,List.map_nil,List.take_nil])|(with_reducible exact Qaa _ _ (by kernel_rfl))|(with_reducible refine And.intro (Qaa _ _ (by kernel_rfl)) ?_))
         refine⟨⟨0+1,hA⟩,by simp only;omega,Qaj (θ:=[(0,0),(2,2),(101,101),(1103,1103),(8,2601)]) rfl ?_ ?_⟩
         ·simp [Qad,lkp,ren1,ren0,Qam]
         ·simp only [mdV,mdB,Nat.reduceLT,if_true,if_false,hC0,hLc,Nat.reduceAdd]
          exact⟨⟨rfl,rfl,rfl,rfl,rfl,.inr ⟨rfl,_,_,rfl,rfl,rfl,rfl⟩⟩,⟨rfl,rfl,rfl,rfl,rfl,.inr ⟨rfl,_,_,rfl,rfl,rfl,rfl⟩⟩,⟨rfl,rfl,rfl,rfl,rfl,.inr ⟨rfl,_,_,rfl,rfl,rfl,rfl⟩⟩,⟨rfl,rfl,rfl,rfl,rfl,.inr ⟨rfl,_,_,rfl,rfl,rfl,rfl⟩⟩,⟨rfl,rfl,rfl,rfl,rfl,.inl ⟨rfl,rfl⟩⟩,trivial⟩
        ·have hC1:C 0=c.map (· /G):=by rw [hCi];exact if_neg hc0
         have hz:((c.length:Int)==0)=false:=by have:=List.length_pos_iff.2 hc0;simp;omega
         have hC2:(c.take c.length).map (fun x=>PV.int .i64 (x/G))=(C 0).map (PV.int .i64):=by rw [hC1,List.map_map,List.take_length];rfl
         have hC3:(C 0).length=c.length:=by rw [hC1,List.length_map]
         rw [hC2]
         repeat (first|(simp -implicitDefEqProofs only [go_sem,Nat.reduceAdd,Nat.reduceMul,Nat.reduceEqDiff,Nat.reduceLT,Nat.reduceLeDiff,reduceCtorEq,Int.reduceAdd,T_zp,T_zu,wL,wPV,mdW,mdV,mdB,Nat.reduceLT,Nat.reduceEqDiff,if_true,if_false,hB2,hwk3,hz])|(with_reducible exact Qaa _ _ (by kernel_rfl))|(with_reducible refine And.intro (Qaa _ _ (by kernel_rfl)) ?_))
         refine⟨⟨0+1,hA⟩,by simp only;omega,Qaj (θ:=[(0,0),(2,2),(101,101),(1103,1103),(8,8)]) rfl ?_ ?_⟩
         ·simp [Qad,lkp,ren1,ren0,Qam]
         ·simp only [mdV,mdB,Nat.reduceLT,if_true,if_false,hC3,hLc,Nat.reduceAdd]
          exact⟨⟨rfl,rfl,rfl,rfl,rfl,.inr ⟨rfl,_,_,rfl,rfl,rfl,rfl⟩⟩,⟨rfl,rfl,rfl,rfl,rfl,.inr ⟨rfl,_,_,rfl,rfl,rfl,rfl⟩⟩,⟨rfl,rfl,rfl,rfl,rfl,.inr ⟨rfl,_,_,rfl,rfl,rfl,rfl⟩⟩,⟨rfl,rfl,rfl,rfl,rfl,.inr ⟨rfl,_,_,rfl,rfl,rfl,rfl⟩⟩,⟨rfl,rfl,rfl,rfl,rfl,.inl ⟨rfl,rfl⟩⟩,trivial⟩
     ·skip
      obtain rfl:i=1:=hi0
      generalize hLc:L 1=c at*
      repeat (first|(simp -implicitDefEqProofs only [go_sem,Nat.reduceAdd,Nat.reduceMul,Nat.reduceEqDiff,Nat.reduceLT,Nat.reduceLeDiff,Nat.reduceSub,reduceCtorEq,Int.reduceLE,Int.reduceLT,Int.reduceToNat,T_zp,T_zu,wL,hA',mdV,mdB,Nat.reduceLT,List.length_map])|(with_reducible exact Qaa _ _ (by kernel_rfl))|(with_reducible refine And.intro (Qaa _ _ (by kernel_rfl)) ?_))
      refine Qao mixed (fun k:{k:Nat // k≤c.length}=>St.of [(6,.bp 0 3 0 0),(8,.bp 2 6 0 0),(10,.bp 101 2 0 0),(15,.bp 1103 6 0 0),(59,.agg [.bp 1103 6 0 3,.bp 1103 6 0 4,.bp 1103 6 0 5]),(60,.int .i64 1),(17,.int .i64 1),(18,.bp 1103 6 0 4),(66,wL c),(67,.int .i64 (c.length:Int)),(68,.int .i64 (k.1:Int))]
       ((0,{els:=[.agg [wL (L 0),wL (L 1),wL (L 2)]],esz:=3,ety:=113,fro:=0,live:=true,arr:=false})::(2,{els:=[.agg [.int .i64 0,.int .i64 0,.int .i64 0,.nilS,.nilS,.nilS]],esz:=6,ety:=24,fro:=0,live:=true,arr:=false})::(101,{els:=[wPV G],esz:=2,ety:=31,fro:=0,live:=true,arr:=false})::(1103,{els:=[.agg [.int .i64 f,.int .i64 t,.int .i64 OO,mdW C 1 (.bs 9 1 0 k.1) 0,mdW C 1 (.bs 9 1 0 k.1) 1,mdW C 1 (.bs 9 1 0 k.1) 2]],esz:=6,ety:=24,fro:=0,live:=true,arr:=false})::(9,{els:=(c.take k.1).map (fun x=>PV.int .i64 (x/G)),esz:=1,ety:=3,fro:=0,live:=true,arr:=true})::mdB iT C 1)) (fun k=>c.length-k.1) ⟨0,Nat.zero_le _⟩ ?_ ?_
      ·refine Le.trans (Qq0 1103 4 9 1 iT rfl rfl rfl rfl rfl rfl (by decide)) (Qaj (θ:=[(0,0),(2,2),(101,101),(1103,1103),(9,9),(8,8)]) rfl ?_ ?_)
       ·simp [Qad,lkp,ren1,ren0,Qam,wL]
       ·simp only [mdB,hLc]
        exact⟨⟨rfl,rfl,rfl,rfl,rfl,.inr ⟨rfl,_,_,rfl,rfl,rfl,rfl⟩⟩,⟨rfl,rfl,rfl,rfl,rfl,.inr ⟨rfl,_,_,rfl,rfl,rfl,rfl⟩⟩,⟨rfl,rfl,rfl,rfl,rfl,.inr ⟨rfl,_,_,rfl,rfl,rfl,rfl⟩⟩,⟨rfl,rfl,rfl,rfl,rfl,.inr ⟨rfl,_,_,rfl,rfl,rfl,rfl⟩⟩,⟨rfl,rfl,rfl,rfl,rfl,.inl ⟨rfl,rfl⟩⟩,⟨rfl,rfl,rfl,rfl,rfl,.inl ⟨rfl,rfl⟩⟩,trivial⟩
      ·rintro⟨k,hk⟩
       by_cases hB':k<c.length
       ·have hB2:=ltT hB'
        have n1:=nnT k
        have hgk:=Qdg c k hB'
        have hwk2:=Qah (a:=k) (by omega)
        have q1:=hqsi _ (List.getElem_mem hB')
        have q2:=hqi _ (List.getElem_mem hB')
        have i1:Qdu (c[k]/G)= .tup [.int .i64 (c[k]/G),.int .i64 0]:=by unfold Qdu;rw [if_pos (by omega)]
        have q3:=Qmg (Qau (show(c[k]/G).natAbs<2^64 by omega) (by decide))
        rw [i1]at q3
        have hts:(c.take (k+1)).map (fun x=>PV.int .i64 (x/G))=(c.take k).map (fun x=>PV.int .i64 (x/G))++[PV.int .i64 (c[k]/G)]:=by rw [Qbb c k hB',List.map_append];rfl
        have hlt:((c.take k).map (fun x=>PV.int .i64 (x/G))).length=k:=by rw [List.length_map,List.length_take];omega
        have hok:(((c.take k).map (fun x=>PV.int .i64 (x/G))).flatMap PV.cells).all PV.okCell=true:=by have:=Qf1 ((c.take k).map (· /G));rwa [List.map_map]at this
        have k8:((k+1)*8≤140737488355328)=True:=eq_true (by omega)
        have kM:(k+1≤maxLen)=True:=eq_true (by unfold maxLen;omega)
        generalize hX:c[k]/G=X at*
        generalize hT:(c.take k).map (fun x=>PV.int .i64 (x/G))=T at*
        repeat (first|(simp -implicitDefEqProofs only [go_sem,Nat.reduceAdd,Nat.reduceMul,Nat.reduceEqDiff,Nat.reduceLT,Nat.reduceLeDiff,reduceCtorEq,Nat.reduceBneDiff,T_zp,T_zu,wL,wPV,mdW,mdV,mdB,Nat.reduceLT,Nat.reduceEqDiff,if_true,if_false,hB2,n1,hgk,hwk2,hlt,hok,k8,kM,Int.toNat_natCast])|((with_reducible refine Qab (q1) ?_ ?_ ?_);(with_reducible rfl);rfl)|((with_reducible refine Qab (q3) ?_ ?_ ?_);(with_reducible rfl);rfl)|(with_reducible exact Qaa _ _ (by kernel_rfl))|(with_reducible refine And.intro (Qaa _ _ (by kernel_rfl)) ?_))
        refine⟨⟨k+1,hB'⟩,by simp only;omega,Qaj (θ:=[(0,0),(2,2),(101,101),(1103,1103),(9,2306),(8,8)]) rfl ?_ ?_⟩
        ·simp [Qad,lkp,ren1,ren0,Qam,wL]
        ·simp only [hts,mdB,hLc]
         exact⟨⟨rfl,rfl,rfl,rfl,rfl,.inr ⟨rfl,_,_,rfl,rfl,rfl,rfl⟩⟩,⟨rfl,rfl,rfl,rfl,rfl,.inr ⟨rfl,_,_,rfl,rfl,rfl,rfl⟩⟩,⟨rfl,rfl,rfl,rfl,rfl,.inr ⟨rfl,_,_,rfl,rfl,rfl,rfl⟩⟩,⟨rfl,rfl,rfl,rfl,rfl,.inr ⟨rfl,_,_,rfl,rfl,rfl,rfl⟩⟩,⟨rfl,rfl,rfl,rfl,rfl,.inl ⟨rfl,rfl⟩⟩,⟨rfl,rfl,rfl,rfl,rfl,.inl ⟨rfl,rfl⟩⟩,trivial⟩
       ·have hB2:=ltF hB'
        obtain rfl:k=c.length:=by omega
        have hwk3:=Qah (a:=1) (by omega)
        by_cases hc0:c=[]
        ·subst hc0
         have hC0:C 1=[0]:=by rw [hCi];rfl
         repeat (first|(simp -implicitDefEqProofs only [go_sem,Nat.reduceAdd,Nat.reduceMul,Nat.reduceEqDiff,Nat.reduceLT,Nat.reduceLeDiff,Nat.reduceSub,reduceCtorEq,Int.reduceLT,Int.reduceAdd,T_zp,T_zu,wL,wPV,mdW,mdV,mdB,Nat.reduceLT,Nat.reduceEqDiff,if_true,if_false,hB2,hwk3,List.length_nil,List.map_nil,List.take_nil])|(with_reducible exact Qaa _ _ (by kernel_rfl))|(with_reducible refine And.intro (Qaa _ _ (by kernel_rfl)) ?_))
         refine⟨⟨1+1,hA⟩,by simp only;omega,Qaj (θ:=[(0,0),(2,2),(101,101),(1103,1103),(9,2601),(8,8)]) rfl ?_ ?_⟩
         ·simp [Qad,lkp,ren1,ren0,Qam]
         ·simp only [mdV,mdB,Nat.reduceLT,if_true,if_false,hC0,hLc,Nat.reduceAdd]
          exact⟨⟨rfl,rfl,rfl,rfl,rfl,.inr ⟨rfl,_,_,rfl,rfl,rfl,rfl⟩⟩,⟨rfl,rfl,rfl,rfl,rfl,.inr ⟨rfl,_,_,rfl,rfl,rfl,rfl⟩⟩,⟨rfl,rfl,rfl,rfl,rfl,.inr ⟨rfl,_,_,rfl,rfl,rfl,rfl⟩⟩,⟨rfl,rfl,rfl,rfl,rfl,.inr ⟨rfl,_,_,rfl,rfl,rfl,rfl⟩⟩,⟨rfl,rfl,rfl,rfl,rfl,.inl ⟨rfl,rfl⟩⟩,⟨rfl,rfl,rfl,rfl,rfl,.inl ⟨rfl,rfl⟩⟩,trivial⟩
        ·have hC1:C 1=c.map (· /G):=by rw [hCi];exact if_neg hc0
         have hz:((c.length:Int)==0)=false:=by have:=List.length_pos_iff.2 hc0;simp;omega
         have hC2:(c.take c.length).map (fun x=>PV.int .i64 (x/G))=(C 1).map (PV.int .i64):=by rw [hC1,List.map_map,List.take_length];rfl
         have hC3:(C 1).length=c.length:=by rw [hC1,List.length_map]
         rw [hC2]
         repeat (first|(simp -implicitDefEqProofs only [go_sem,Nat.reduceAdd,Nat.reduceMul,Nat.reduceEqDiff,Nat.reduceLT,Nat.reduceLeDiff,reduceCtorEq,Int.reduceAdd,T_zp,T_zu,wL,wPV,mdW,mdV,mdB,Nat.reduceLT,Nat.reduceEqDiff,if_true,if_false,hB2,hwk3,hz])|(with_reducible exact Qaa _ _ (by kernel_rfl))|(with_reducible refine And.intro (Qaa _ _ (by kernel_rfl)) ?_))
         refine⟨⟨1+1,hA⟩,by simp only;omega,Qaj (θ:=[(0,0),(2,2),(101,101),(1103,1103),(9,9),(8,8)]) rfl ?_ ?_⟩
         ·simp [Qad,lkp,ren1,ren0,Qam]
         ·simp only [mdV,mdB,Nat.reduceLT,if_true,if_false,hC3,hLc,Nat.reduceAdd]
          exact⟨⟨rfl,rfl,rfl,rfl,rfl,.inr ⟨rfl,_,_,rfl,rfl,rfl,rfl⟩⟩,⟨rfl,rfl,rfl,rfl,rfl,.inr ⟨rfl,_,_,rfl,rfl,rfl,rfl⟩⟩,⟨rfl,rfl,rfl,rfl,rfl,.inr ⟨rfl,_,_,rfl,rfl,rfl,rfl⟩⟩,⟨rfl,rfl,rfl,rfl,rfl,.inr ⟨rfl,_,_,rfl,rfl,rfl,rfl⟩⟩,⟨rfl,rfl,rfl,rfl,rfl,.inl ⟨rfl,rfl⟩⟩,⟨rfl,rfl,rfl,rfl,rfl,.inl ⟨rfl,rfl⟩⟩,trivial⟩
     ·skip
      obtain rfl:i=2:=hi0
      generalize hLc:L 2=c at*
      repeat (first|(simp -implicitDefEqProofs only [go_sem,Nat.reduceAdd,Nat.reduceMul,Nat.reduceEqDiff,Nat.reduceLT,Nat.reduceLeDiff,Nat.reduceSub,reduceCtorEq,Int.reduceLE,Int.reduceLT,Int.reduceToNat,T_zp,T_zu,wL,hA',mdV,mdB,Nat.reduceLT,List.length_map])|(with_reducible exact Qaa _ _ (by kernel_rfl))|(with_reducible refine And.intro (Qaa _ _ (by kernel_rfl)) ?_))
      refine Qao mixed (fun k:{k:Nat // k≤c.length}=>St.of [(6,.bp 0 3 0 0),(8,.bp 2 6 0 0),(10,.bp 101 2 0 0),(15,.bp 1103 6 0 0),(59,.agg [.bp 1103 6 0 3,.bp 1103 6 0 4,.bp 1103 6 0 5]),(60,.int .i64 2),(17,.int .i64 2),(18,.bp 1103 6 0 5),(66,wL c),(67,.int .i64 (c.length:Int)),(68,.int .i64 (k.1:Int))]
       ((0,{els:=[.agg [wL (L 0),wL (L 1),wL (L 2)]],esz:=3,ety:=113,fro:=0,live:=true,arr:=false})::(2,{els:=[.agg [.int .i64 0,.int .i64 0,.int .i64 0,.nilS,.nilS,.nilS]],esz:=6,ety:=24,fro:=0,live:=true,arr:=false})::(101,{els:=[wPV G],esz:=2,ety:=31,fro:=0,live:=true,arr:=false})::(1103,{els:=[.agg [.int .i64 f,.int .i64 t,.int .i64 OO,mdW C 2 (.bs 10 1 0 k.1) 0,mdW C 2 (.bs 10 1 0 k.1) 1,mdW C 2 (.bs 10 1 0 k.1) 2]],esz:=6,ety:=24,fro:=0,live:=true,arr:=false})::(10,{els:=(c.take k.1).map (fun x=>PV.int .i64 (x/G)),esz:=1,ety:=3,fro:=0,live:=true,arr:=true})::mdB iT C 2)) (fun k=>c.length-k.1) ⟨0,Nat.zero_le _⟩ ?_ ?_
      ·refine Le.trans (Qq0 1103 5 10 1 iT rfl rfl rfl rfl rfl rfl (by decide)) (Qaj (θ:=[(0,0),(2,2),(101,101),(1103,1103),(10,10),(8,8),(9,9)]) rfl ?_ ?_)
       ·simp [Qad,lkp,ren1,ren0,Qam,wL]
       ·simp only [mdB,hLc]
        exact⟨⟨rfl,rfl,rfl,rfl,rfl,.inr ⟨rfl,_,_,rfl,rfl,rfl,rfl⟩⟩,⟨rfl,rfl,rfl,rfl,rfl,.inr ⟨rfl,_,_,rfl,rfl,rfl,rfl⟩⟩,⟨rfl,rfl,rfl,rfl,rfl,.inr ⟨rfl,_,_,rfl,rfl,rfl,rfl⟩⟩,⟨rfl,rfl,rfl,rfl,rfl,.inr ⟨rfl,_,_,rfl,rfl,rfl,rfl⟩⟩,⟨rfl,rfl,rfl,rfl,rfl,.inl ⟨rfl,rfl⟩⟩,⟨rfl,rfl,rfl,rfl,rfl,.inl ⟨rfl,rfl⟩⟩,⟨rfl,rfl,rfl,rfl,rfl,.inl ⟨rfl,rfl⟩⟩,trivial⟩
      ·rintro⟨k,hk⟩
       by_cases hB':k<c.length
       ·have hB2:=ltT hB'
        have n1:=nnT k
        have hgk:=Qdg c k hB'
        have hwk2:=Qah (a:=k) (by omega)
        have q1:=hqsi _ (List.getElem_mem hB')
        have q2:=hqi _ (List.getElem_mem hB')
        have i1:Qdu (c[k]/G)= .tup [.int .i64 (c[k]/G),.int .i64 0]:=by unfold Qdu;rw [if_pos (by omega)]
        have q3:=Qmg (Qau (show(c[k]/G).natAbs<2^64 by omega) (by decide))
        rw [i1]at q3
        have hts:(c.take (k+1)).map (fun x=>PV.int .i64 (x/G))=(c.take k).map (fun x=>PV.int .i64 (x/G))++[PV.int .i64 (c[k]/G)]:=by rw [Qbb c k hB',List.map_append];rfl
        have hlt:((c.take k).map (fun x=>PV.int .i64 (x/G))).length=k:=by rw [List.length_map,List.length_take];omega
        have hok:(((c.take k).map (fun x=>PV.int .i64 (x/G))).flatMap PV.cells).all PV.okCell=true:=by have:=Qf1 ((c.take k).map (· /G));rwa [List.map_map]at this
        have k8:((k+1)*8≤140737488355328)=True:=eq_true (by omega)
        have kM:(k+1≤maxLen)=True:=eq_true (by unfold maxLen;omega)
        generalize hX:c[k]/G=X at*
        generalize hT:(c.take k).map (fun x=>PV.int .i64 (x/G))=T at*
        repeat (first|(simp -implicitDefEqProofs only [go_sem,Nat.reduceAdd,Nat.reduceMul,Nat.reduceEqDiff,Nat.reduceLT,Nat.reduceLeDiff,reduceCtorEq,Nat.reduceBneDiff,T_zp,T_zu,wL,wPV,mdW,mdV,mdB,Nat.reduceLT,Nat.reduceEqDiff,if_true,if_false,hB2,n1,hgk,hwk2,hlt,hok,k8,kM,Int.toNat_natCast])|((with_reducible refine Qab (q1) ?_ ?_ ?_);(with_reducible rfl);rfl)|((with_reducible refine Qab (q3) ?_ ?_ ?_);(with_reducible rfl);rfl)|(with_reducible exact Qaa _ _ (by kernel_rfl))|(with_reducible refine And.intro (Qaa _ _ (by kernel_rfl)) ?_))
        refine⟨⟨k+1,hB'⟩,by simp only;omega,Qaj (θ:=[(0,0),(2,2),(101,101),(1103,1103),(10,2306),(8,8),(9,9)]) rfl ?_ ?_⟩
        ·simp [Qad,lkp,ren1,ren0,Qam,wL]
        ·simp only [hts,mdB,hLc]
         exact⟨⟨rfl,rfl,rfl,rfl,rfl,.inr ⟨rfl,_,_,rfl,rfl,rfl,rfl⟩⟩,⟨rfl,rfl,rfl,rfl,rfl,.inr ⟨rfl,_,_,rfl,rfl,rfl,rfl⟩⟩,⟨rfl,rfl,rfl,rfl,rfl,.inr ⟨rfl,_,_,rfl,rfl,rfl,rfl⟩⟩,⟨rfl,rfl,rfl,rfl,rfl,.inr ⟨rfl,_,_,rfl,rfl,rfl,rfl⟩⟩,⟨rfl,rfl,rfl,rfl,rfl,.inl ⟨rfl,rfl⟩⟩,⟨rfl,rfl,rfl,rfl,rfl,.inl ⟨rfl,rfl⟩⟩,⟨rfl,rfl,rfl,rfl,rfl,.inl ⟨rfl,rfl⟩⟩,trivial⟩
       ·have hB2:=ltF hB'
        obtain rfl:k=c.length:=by omega
        have hwk3:=Qah (a:=2) (by omega)
        by_cases hc0:c=[]
        ·subst hc0
         have hC0:C 2=[0]:=by rw [hCi];rfl
         repeat (first|(simp -implicitDefEqProofs only [go_sem,Nat.reduceAdd,Nat.reduceMul,Nat.reduceEqDiff,Nat.reduceLT,Nat.reduceLeDiff,Nat.reduceSub,reduceCtorEq,Int.reduceLT,Int.reduceAdd,T_zp,T_zu,wL,wPV,mdW,mdV,mdB,Nat.reduceLT,Nat.reduceEqDiff,if_true,if_false,hB2,hwk3,List.length_nil,List.map_nil,List.take_nil])|(with_reducible exact Qaa _ _ (by kernel_rfl))|(with_reducible refine And.intro (Qaa _ _ (by kernel_rfl)) ?_))
         refine⟨⟨2+1,hA⟩,by simp only;omega,Qaj (θ:=[(0,0),(2,2),(101,101),(1103,1103),(10,2601),(8,8),(9,9)]) rfl ?_ ?_⟩
         ·simp [Qad,lkp,ren1,ren0,Qam]
         ·simp only [mdV,mdB,Nat.reduceLT,if_true,if_false,hC0,hLc,Nat.reduceAdd]
          exact⟨⟨rfl,rfl,rfl,rfl,rfl,.inr ⟨rfl,_,_,rfl,rfl,rfl,rfl⟩⟩,⟨rfl,rfl,rfl,rfl,rfl,.inr ⟨rfl,_,_,rfl,rfl,rfl,rfl⟩⟩,⟨rfl,rfl,rfl,rfl,rfl,.inr ⟨rfl,_,_,rfl,rfl,rfl,rfl⟩⟩,⟨rfl,rfl,rfl,rfl,rfl,.inr ⟨rfl,_,_,rfl,rfl,rfl,rfl⟩⟩,⟨rfl,rfl,rfl,rfl,rfl,.inl ⟨rfl,rfl⟩⟩,⟨rfl,rfl,rfl,rfl,rfl,.inl ⟨rfl,rfl⟩⟩,⟨rfl,rfl,rfl,rfl,rfl,.inl ⟨rfl,rfl⟩⟩,trivial⟩
        ·have hC1:C 2=c.map (· /G):=by rw [hCi];exact if_neg hc0
         have hz:((c.length:Int)==0)=false:=by have:=List.length_pos_iff.2 hc0;simp;omega
         have hC2:(c.take c.length).map (fun x=>PV.int .i64 (x/G))=(C 2).map (PV.int .i64):=by rw [hC1,List.map_map,List.take_length];rfl
         have hC3:(C 2).length=c.length:=by rw [hC1,List.length_map]
         rw [hC2]
         repeat (first|(simp -implicitDefEqProofs only [go_sem,Nat.reduceAdd,Nat.reduceMul,Nat.reduceEqDiff,Nat.reduceLT,Nat.reduceLeDiff,reduceCtorEq,Int.reduceAdd,T_zp,T_zu,wL,wPV,mdW,mdV,mdB,Nat.reduceLT,Nat.reduceEqDiff,if_true,if_false,hB2,hwk3,hz])|(with_reducible exact Qaa _ _ (by kernel_rfl))|(with_reducible refine And.intro (Qaa _ _ (by kernel_rfl)) ?_))
         refine⟨⟨2+1,hA⟩,by simp only;omega,Qaj (θ:=[(0,0),(2,2),(101,101),(1103,1103),(10,10),(8,8),(9,9)]) rfl ?_ ?_⟩
         ·simp [Qad,lkp,ren1,ren0,Qam]
         ·simp only [mdV,mdB,Nat.reduceLT,if_true,if_false,hC3,hLc,Nat.reduceAdd]
          exact⟨⟨rfl,rfl,rfl,rfl,rfl,.inr ⟨rfl,_,_,rfl,rfl,rfl,rfl⟩⟩,⟨rfl,rfl,rfl,rfl,rfl,.inr ⟨rfl,_,_,rfl,rfl,rfl,rfl⟩⟩,⟨rfl,rfl,rfl,rfl,rfl,.inr ⟨rfl,_,_,rfl,rfl,rfl,rfl⟩⟩,⟨rfl,rfl,rfl,rfl,rfl,.inr ⟨rfl,_,_,rfl,rfl,rfl,rfl⟩⟩,⟨rfl,rfl,rfl,rfl,rfl,.inl ⟨rfl,rfl⟩⟩,⟨rfl,rfl,rfl,rfl,rfl,.inl ⟨rfl,rfl⟩⟩,⟨rfl,rfl,rfl,rfl,rfl,.inl ⟨rfl,rfl⟩⟩,trivial⟩
    ·have hA':((i:Int)<3)=False:=eq_false (by omega)
     obtain rfl:i=3:=by omega
     have hok: ∀m,((((C m).map (PV.int .i64)).flatMap PV.cells).all PV.okCell)=true:=fun m=>Qf1 (C m)
     repeat (first|(simp -implicitDefEqProofs only [go_sem,Nat.reduceAdd,Nat.reduceMul,Nat.reduceEqDiff,Nat.reduceLT,Nat.reduceLeDiff,Nat.reduceSub,reduceCtorEq,Int.reduceLT,T_zp,T_zu,hA',mdV,mdB,Nat.reduceLT,if_true,List.length_map,List.take_length,hok])|(with_reducible exact Qaa _ _ (by kernel_rfl))|(with_reducible refine And.intro (Qaa _ _ (by kernel_rfl)) ?_))
     have ht: ∀m,((C m).map (PV.int .i64)).take (C m).length=(C m).map (PV.int .i64):=fun m=>List.take_of_length_le (by rw [List.length_map];omega)
     simp only [ht]
end Go.Proofs.YtlpiamlgibomhaaGreat

namespace Go.Dg
def nrm:List Int→Nat
 | []=>0
 |x::l=>x.natAbs+nrm l
theorem Qn6 (a b:List Int):nrm (a++b)=nrm a+nrm b:=by
 induction a with
 |nil=>simp [nrm]
 |cons x a ih=>simp [nrm,ih,Nat.add_assoc]
theorem Zhz {l:List Int} {x:Int} (h:x∈l):x.natAbs≤nrm l:=by
 induction l with
 |nil=>cases h
 |cons y l ih=>
  cases h with
  |head=>exact Nat.le_add_right _ _
  |tail _ h=>exact Nat.le_trans (ih h) (Nat.le_add_left _ _)
theorem Ql4 (l:List Int) (c:Int):nrm (l.map (· *c))=nrm l*c.natAbs:=by
 induction l with
 |nil=>simp [nrm]
 |cons x l ih=>simp only [List.map_cons,nrm,ih,Int.natAbs_mul,Nat.add_mul]
theorem Ql5 (l:List Int):nrm (Qas l)≤nrm l:=by
 induction l with
 |nil=>exact Nat.le_refl _
 |cons c r ih=>
  rw [Qb6];split
  ·split
   ·exact Nat.zero_le _
   ·simp [nrm]
  ·simp only [nrm];omega
theorem Qpq (f g:Nat→Int) (n:Nat):nrm ((List.range n).map fun i=>f i+g i)≤nrm ((List.range n).map f)+nrm ((List.range n).map g):=by
 induction n with
 |zero=>simp [nrm]
 |succ n ih=>simp only [List.range_succ,List.map_append,Qn6,List.map_cons,List.map_nil,nrm];omega
theorem Qdz: ∀(l:List Int) (n:Nat),nrm ((List.range n).map fun i=>l.getD i 0)≤nrm l
 |_,0=>Nat.zero_le _
 | [],n+1=>by
  have:=Qdz [] n
  simp only [List.range_succ,List.map_append,Qn6,List.map_cons,List.map_nil,nrm,List.getD_nil]at this ⊢;simpa using this
 |x::l,n+1=>by
  have:=Qdz l n
  rw [List.range_succ_eq_map,List.map_cons,List.map_map]
  simp only [nrm,List.getD_cons_zero]
  exact Nat.add_le_add_left this _
theorem Q9e (p q:List Int):nrm (zipA p q)≤nrm p+nrm q:=
 Nat.le_trans (Qpq _ _ _) (Nat.add_le_add (Qdz _ _) (Qdz _ _))
theorem Q9f (l:List Int) (c:Int):nrm (l.set 0 (l.getD 0 0+c))≤nrm l+c.natAbs:=by
 cases l with
 |nil=>simp [nrm]
 |cons x l=>simp only [List.set_cons_zero,List.getD_cons_zero,nrm];omega
theorem Q1l (out:List Int) (a b c:Int):nrm (hstep out a b c)≤nrm out*(a.natAbs+b.natAbs)+c.natAbs:=by
 unfold hstep
 refine Nat.le_trans (Q9f _ _) (Nat.add_le_add_right ?_ _)
 rw [Qv2]
 refine Nat.le_trans (Q9e _ _) ?_
 simp only [nrm,Ql4,Int.natAbs_zero,Nat.zero_add,Nat.mul_add]
 exact Nat.le_refl _
theorem Qre (p:List Int) (a b d:Int) (hab:a.natAbs+b.natAbs≤d.natAbs): ∀m,m<p.length→nrm (Qeb p a b d m)≤d.natAbs^m*nrm (p.drop (p.length-1-m))
 |0,h=>by
  have h1:p.length-1<p.length:=by omega
  rw [Qeb,Nat.sub_zero,List.drop_eq_getElem_cons h1]
  simp only [nrm,List.getD_eq_getElem?_getD,List.getElem?_eq_getElem h1,Option.getD_some,Nat.pow_zero,Nat.one_mul,Nat.add_zero]
  exact Nat.le_add_right _ _
 |m+1,h=>by
  have ih:=Qre p a b d hab m (by omega)
  have h1:p.length-1-(m+1)<p.length:=by omega
  have e:p.length-1-(m+1)+1=p.length-1-m:=by omega
  rw [Qeb,List.drop_eq_getElem_cons h1,e]
  refine Nat.le_trans (Q1l _ _ _ _) ?_
  simp only [nrm,List.getD_eq_getElem?_getD,List.getElem?_eq_getElem h1,Option.getD_some,Int.natAbs_mul,Int.natAbs_pow,Nat.mul_add]
  have k:=Nat.mul_le_mul ih hab
  rw [Nat.mul_add]at k
  rw [Nat.add_comm (d.natAbs^(m+1)*_),Nat.mul_comm (p[p.length-1-(m+1)]).natAbs]
  refine Nat.add_le_add_right (Nat.le_trans k ?_) _
  rw [Nat.pow_succ,Nat.mul_right_comm]
  exact Nat.le_refl _
theorem Q9g (p:List Int) (a b d:Int) (hab:a.natAbs+b.natAbs≤d.natAbs):nrm (Qcg p a b d p.length)≤d.natAbs^(p.length-1)*nrm p:=by
 by_cases hp:0<p.length
 ·rw [←Qn5 p a b d hp]
  refine Nat.le_trans (Ql5 _) ?_
  have:=Qre p a b d hab (p.length-1) (by omega)
  rwa [Nat.sub_self,List.drop_zero]at this
 ·obtain rfl:p=[]:=List.eq_nil_of_length_eq_zero (by omega)
  exact Nat.zero_le _
theorem Q9h (c:List Int) (a b d:Int) (hc:c.length≤6) (h1:1≤c.length) (hd:1≤d) (hab:a.natAbs+b.natAbs≤d.natAbs):nrm (cmpC c a b d)≤d.natAbs^5*nrm c:=by
 unfold cmpC Qc4
 refine Nat.le_trans (Ql5 _) ?_
 rw [Ql4,Int.natAbs_pow]
 have h2:=Q9g (Qas c) a b d hab
 have h3:=Ql5 c
 have h4:=Qbe c
 have hd':0<d.natAbs:=by omega
 generalize Qas c=q at*
 generalize d.natAbs=D at*
 refine Nat.le_trans (Nat.mul_le_mul_right _ h2) ?_
 rw [Nat.mul_right_comm,←Nat.pow_add]
 exact Nat.mul_le_mul (Nat.pow_le_pow_right hd' (by omega)) h3
theorem Qc7 {x K:Int} (h:(x.natAbs:Int)≤K): -K≤x∧x≤K:=by omega
theorem Zh0 {c:List Int} {o:Int} (h:Qc6 c o c.length=true) (j:Nat) (hj:j<c.length):((ctl c j).natAbs:Int)≤62914560*o:=by
 unfold Qc6 at h
 rw [List.all_eq_true]at h
 exact of_decide_eq_true (h j (List.mem_range.2 hj))
theorem Zh1 {o a0:Int} (ho:0≤o) (h: ∀j,j<1→((ctl [a0] j).natAbs:Int)≤62914560*o):(nrm [a0]:Int)≤1048576*o:=by
 have h0:=Qc7 (h 0 (by decide))
 have e0:ctl [a0] 0=60*a0:=by simp [ctl,sm,cw,bin];omega
 generalize ctl [a0] 0=b0 at*
 clear h
 have f0:60*a0=1*b0:=by omega
 clear e0
 have g0:(a0.natAbs:Int)≤1048576*o:=by omega
 clear h0 f0
 simp only [nrm]
 generalize a0.natAbs=m0 at*
 omega
theorem Zh2 {o a0 a1:Int} (ho:0≤o) (h: ∀j,j<2→((ctl [a0,a1] j).natAbs:Int)≤62914560*o):(nrm [a0,a1]:Int)≤3145728*o:=by
 have h0:=Qc7 (h 0 (by decide))
 have h1:=Qc7 (h 1 (by decide))
 have e0:ctl [a0,a1] 0=60*a0:=by simp [ctl,sm,cw,bin];omega
 have e1:ctl [a0,a1] 1=60*a0+60*a1:=by simp [ctl,sm,cw,bin];omega
 generalize ctl [a0,a1] 0=b0 at*
 generalize ctl [a0,a1] 1=b1 at*
 clear h
 have f0:60*a0=1*b0:=by omega
 have f1:60*a1= -1*b0+1*b1:=by omega
 clear e0 e1
 have g0:(a0.natAbs:Int)≤1048576*o:=by omega
 have g1:(a1.natAbs:Int)≤2097152*o:=by omega
 clear h0 h1 f0 f1
 simp only [nrm]
 generalize a0.natAbs=m0 at*
 generalize a1.natAbs=m1 at*
 omega
theorem Zh3 {o a0 a1 a2:Int} (ho:0≤o) (h: ∀j,j<3→((ctl [a0,a1,a2] j).natAbs:Int)≤62914560*o):(nrm [a0,a1,a2]:Int)≤9437184*o:=by
 have h0:=Qc7 (h 0 (by decide))
 have h1:=Qc7 (h 1 (by decide))
 have h2:=Qc7 (h 2 (by decide))
 have e0:ctl [a0,a1,a2] 0=60*a0:=by simp [ctl,sm,cw,bin];omega
 have e1:ctl [a0,a1,a2] 1=60*a0+30*a1:=by simp [ctl,sm,cw,bin];omega
 have e2:ctl [a0,a1,a2] 2=60*a0+60*a1+60*a2:=by simp [ctl,sm,cw,bin];omega
 generalize ctl [a0,a1,a2] 0=b0 at*
 generalize ctl [a0,a1,a2] 1=b1 at*
 generalize ctl [a0,a1,a2] 2=b2 at*
 clear h
 have f0:60*a0=1*b0:=by omega
 have f1:30*a1= -1*b0+1*b1:=by omega
 have f2:60*a2=1*b0+ -2*b1+1*b2:=by omega
 clear e0 e1 e2
 have g0:(a0.natAbs:Int)≤1048576*o:=by omega
 have g1:(a1.natAbs:Int)≤4194304*o:=by omega
 have g2:(a2.natAbs:Int)≤4194304*o:=by omega
 clear h0 h1 h2 f0 f1 f2
 simp only [nrm]
 generalize a0.natAbs=m0 at*
 generalize a1.natAbs=m1 at*
 generalize a2.natAbs=m2 at*
 omega
theorem Zh4 {o a0 a1 a2 a3:Int} (ho:0≤o) (h: ∀j,j<4→((ctl [a0,a1,a2,a3] j).natAbs:Int)≤62914560*o):(nrm [a0,a1,a2,a3]:Int)≤28311552*o:=by
 have h0:=Qc7 (h 0 (by decide))
 have h1:=Qc7 (h 1 (by decide))
 have h2:=Qc7 (h 2 (by decide))
 have h3:=Qc7 (h 3 (by decide))
 have e0:ctl [a0,a1,a2,a3] 0=60*a0:=by simp [ctl,sm,cw,bin];omega
 have e1:ctl [a0,a1,a2,a3] 1=60*a0+20*a1:=by simp [ctl,sm,cw,bin];omega
 have e2:ctl [a0,a1,a2,a3] 2=60*a0+40*a1+20*a2:=by simp [ctl,sm,cw,bin];omega
 have e3:ctl [a0,a1,a2,a3] 3=60*a0+60*a1+60*a2+60*a3:=by simp [ctl,sm,cw,bin];omega
 generalize ctl [a0,a1,a2,a3] 0=b0 at*
 generalize ctl [a0,a1,a2,a3] 1=b1 at*
 generalize ctl [a0,a1,a2,a3] 2=b2 at*
 generalize ctl [a0,a1,a2,a3] 3=b3 at*
 clear h
 have f0:60*a0=1*b0:=by omega
 have f1:20*a1= -1*b0+1*b1:=by omega
 have f2:20*a2=1*b0+ -2*b1+1*b2:=by omega
 have f3:60*a3= -1*b0+3*b1+ -3*b2+1*b3:=by omega
 clear e0 e1 e2 e3
 have g0:(a0.natAbs:Int)≤1048576*o:=by omega
 have g1:(a1.natAbs:Int)≤6291456*o:=by omega
 have g2:(a2.natAbs:Int)≤12582912*o:=by omega
 have g3:(a3.natAbs:Int)≤8388608*o:=by omega
 clear h0 h1 h2 h3 f0 f1 f2 f3
 simp only [nrm]
 generalize a0.natAbs=m0 at*
 generalize a1.natAbs=m1 at*
 generalize a2.natAbs=m2 at*
 generalize a3.natAbs=m3 at*
 omega
theorem Zh5 {o a0 a1 a2 a3 a4:Int} (ho:0≤o) (h: ∀j,j<5→((ctl [a0,a1,a2,a3,a4] j).natAbs:Int)≤62914560*o):(nrm [a0,a1,a2,a3,a4]:Int)≤84934656*o:=by
 have h0:=Qc7 (h 0 (by decide))
 have h1:=Qc7 (h 1 (by decide))
 have h2:=Qc7 (h 2 (by decide))
 have h3:=Qc7 (h 3 (by decide))
 have h4:=Qc7 (h 4 (by decide))
 have e0:ctl [a0,a1,a2,a3,a4] 0=60*a0:=by simp [ctl,sm,cw,bin];omega
 have e1:ctl [a0,a1,a2,a3,a4] 1=60*a0+15*a1:=by simp [ctl,sm,cw,bin];omega
 have e2:ctl [a0,a1,a2,a3,a4] 2=60*a0+30*a1+10*a2:=by simp [ctl,sm,cw,bin];omega
 have e3:ctl [a0,a1,a2,a3,a4] 3=60*a0+45*a1+30*a2+15*a3:=by simp [ctl,sm,cw,bin];omega
 have e4:ctl [a0,a1,a2,a3,a4] 4=60*a0+60*a1+60*a2+60*a3+60*a4:=by simp [ctl,sm,cw,bin];omega
 generalize ctl [a0,a1,a2,a3,a4] 0=b0 at*
 generalize ctl [a0,a1,a2,a3,a4] 1=b1 at*
 generalize ctl [a0,a1,a2,a3,a4] 2=b2 at*
 generalize ctl [a0,a1,a2,a3,a4] 3=b3 at*
 generalize ctl [a0,a1,a2,a3,a4] 4=b4 at*
 clear h
 have f0:60*a0=1*b0:=by omega
 have f1:15*a1= -1*b0+1*b1:=by omega
 have f2:10*a2=1*b0+ -2*b1+1*b2:=by omega
 have f3:15*a3= -1*b0+3*b1+ -3*b2+1*b3:=by omega
 have f4:60*a4=1*b0+ -4*b1+6*b2+ -4*b3+1*b4:=by omega
 clear e0 e1 e2 e3 e4
 have g0:(a0.natAbs:Int)≤1048576*o:=by omega
 have g1:(a1.natAbs:Int)≤8388608*o:=by omega
 have g2:(a2.natAbs:Int)≤25165824*o:=by omega
 have g3:(a3.natAbs:Int)≤33554432*o:=by omega
 have g4:(a4.natAbs:Int)≤16777216*o:=by omega
 clear h0 h1 h2 h3 h4 f0 f1 f2 f3 f4
 simp only [nrm]
 generalize a0.natAbs=m0 at*
 generalize a1.natAbs=m1 at*
 generalize a2.natAbs=m2 at*
 generalize a3.natAbs=m3 at*
 generalize a4.natAbs=m4 at*
 omega
theorem Zh6 {o a0 a1 a2 a3 a4 a5:Int} (ho:0≤o) (h: ∀j,j<6→((ctl [a0,a1,a2,a3,a4,a5] j).natAbs:Int)≤62914560*o):(nrm [a0,a1,a2,a3,a4,a5]:Int)≤254803968*o:=by
 have h0:=Qc7 (h 0 (by decide))
 have h1:=Qc7 (h 1 (by decide))
 have h2:=Qc7 (h 2 (by decide))
 have h3:=Qc7 (h 3 (by decide))
 have h4:=Qc7 (h 4 (by decide))
 have h5:=Qc7 (h 5 (by decide))
 have e0:ctl [a0,a1,a2,a3,a4,a5] 0=60*a0:=by simp [ctl,sm,cw,bin];omega
 have e1:ctl [a0,a1,a2,a3,a4,a5] 1=60*a0+12*a1:=by simp [ctl,sm,cw,bin];omega
 have e2:ctl [a0,a1,a2,a3,a4,a5] 2=60*a0+24*a1+6*a2:=by simp [ctl,sm,cw,bin];omega
 have e3:ctl [a0,a1,a2,a3,a4,a5] 3=60*a0+36*a1+18*a2+6*a3:=by simp [ctl,sm,cw,bin];omega
 have e4:ctl [a0,a1,a2,a3,a4,a5] 4=60*a0+48*a1+36*a2+24*a3+12*a4:=by simp [ctl,sm,cw,bin];omega
 have e5:ctl [a0,a1,a2,a3,a4,a5] 5=60*a0+60*a1+60*a2+60*a3+60*a4+60*a5:=by simp [ctl,sm,cw,bin];omega
 generalize ctl [a0,a1,a2,a3,a4,a5] 0=b0 at*
 generalize ctl [a0,a1,a2,a3,a4,a5] 1=b1 at*
 generalize ctl [a0,a1,a2,a3,a4,a5] 2=b2 at*
 generalize ctl [a0,a1,a2,a3,a4,a5] 3=b3 at*
 generalize ctl [a0,a1,a2,a3,a4,a5] 4=b4 at*
 generalize ctl [a0,a1,a2,a3,a4,a5] 5=b5 at*
 clear h
 have f0:60*a0=1*b0:=by omega
 have f1:12*a1= -1*b0+1*b1:=by omega
 have f2:6*a2=1*b0+ -2*b1+1*b2:=by omega
 have f3:6*a3= -1*b0+3*b1+ -3*b2+1*b3:=by omega
 have f4:12*a4=1*b0+ -4*b1+6*b2+ -4*b3+1*b4:=by omega
 have f5:60*a5= -1*b0+5*b1+ -10*b2+10*b3+ -5*b4+1*b5:=by omega
 clear e0 e1 e2 e3 e4 e5
 have g0:(a0.natAbs:Int)≤1048576*o:=by omega
 have g1:(a1.natAbs:Int)≤10485760*o:=by omega
 have g2:(a2.natAbs:Int)≤41943040*o:=by omega
 have g3:(a3.natAbs:Int)≤83886080*o:=by omega
 have g4:(a4.natAbs:Int)≤83886080*o:=by omega
 have g5:(a5.natAbs:Int)≤33554432*o:=by omega
 clear h0 h1 h2 h3 h4 h5 f0 f1 f2 f3 f4 f5
 simp only [nrm]
 generalize a0.natAbs=m0 at*
 generalize a1.natAbs=m1 at*
 generalize a2.natAbs=m2 at*
 generalize a3.natAbs=m3 at*
 generalize a4.natAbs=m4 at*
 generalize a5.natAbs=m5 at*
 omega
theorem Zn0 {c:List Int} {o:Int} (h:axOK c o=true) (ho:0≤o):(nrm c:Int)≤254803968*o:=by
 obtain⟨h1,h6, -,hb⟩:=Qb7 h
 have hj:=Zh0 hb
 clear hb h
 match c,h1,h6,hj with
 | [a0],_,_,hj=>exact Int.le_trans (Zh1 ho hj) (by omega)
 | [a0,a1],_,_,hj=>exact Int.le_trans (Zh2 ho hj) (by omega)
 | [a0,a1,a2],_,_,hj=>exact Int.le_trans (Zh3 ho hj) (by omega)
 | [a0,a1,a2,a3],_,_,hj=>exact Int.le_trans (Zh4 ho hj) (by omega)
 | [a0,a1,a2,a3,a4],_,_,hj=>exact Int.le_trans (Zh5 ho hj) (by omega)
 | [a0,a1,a2,a3,a4,a5],_,_,hj=>exact Int.le_trans (Zh6 ho hj) (by omega)
 |_::_::_::_::_::_::_::_,_,h6,_=>simp at h6
theorem Qpr (g:Nat) (c:List Int):gcdL g c∣g∧ ∀x∈c,gcdL g c∣x.natAbs:=by
 induction c generalizing g with
 |nil=>exact⟨Nat.dvd_refl _,fun _ h=>nomatch h⟩
 |cons y c ih=>
  obtain⟨h1,h2⟩:=ih (Nat.gcd g y.natAbs)
  refine⟨Nat.dvd_trans h1 (Nat.gcd_dvd_left _ _),fun x hx=> ?_⟩
  cases hx with
  |head=>exact Nat.dvd_trans h1 (Nat.gcd_dvd_right _ _)
  |tail _ h=>exact h2 x h
theorem Zh7 (L:Nat→List Int) (o:Int):(mdG L o 3:Int)∣o∧ ∀i,i<3→ ∀x∈L i,(mdG L o 3:Int)∣x:=by
 have d3:=Qpr (mdG L o 2) (L 2)
 have d2:=Qpr (mdG L o 1) (L 1)
 have d1:=Qpr (mdG L o 0) (L 0)
 have a1:mdG L o 3∣mdG L o 1:=Nat.dvd_trans d3.1 d2.1
 refine⟨Int.dvd_natAbs.1 (Int.natCast_dvd_natCast.2 (Nat.dvd_trans a1 d1.1)),fun i hi x hx=>Int.dvd_natAbs.1 (Int.natCast_dvd_natCast.2 ?_)⟩
 rcases(show i=0∨i=1∨i=2 by omega)with rfl|rfl|rfl
 ·exact Nat.dvd_trans a1 (d1.2 x hx)
 ·exact Nat.dvd_trans d3.1 (d2.2 x hx)
 ·exact d3.2 x hx
theorem Zn1 {L:Nat→List Int} {o:Int} (ho:0<o) (hf:Qh3 L o=true) {i:Nat} (hi:i<3) {x:Int} (hx:x∈L i) {K:Int} (hK:(x.natAbs:Int)≤K*o) (h0:0≤K):((x/(mdG L o 3:Int)).natAbs:Int)≤K*4294967296:=by
 obtain⟨h1,h2⟩:=Zh7 L o
 have h3:=h2 i hi x hx
 have hg:=Qpp (L:=L) ho 3
 have hO:mdO L o≤4294967296:=of_decide_eq_true hf
 unfold mdO at hO
 generalize mdG L o 3=G at*
 have e1:x.natAbs=(x/(G:Int)).natAbs*G:=by
  have:=congrArg Int.natAbs (Int.ediv_mul_cancel h3)
  rw [Int.natAbs_mul,Int.natAbs_natCast]at this;exact this.symm
 have e2:o/(G:Int)*G=o:=Int.ediv_mul_cancel h1
 rw [e1,←e2,Int.natCast_mul,←Int.mul_assoc]at hK
 have h4:=Int.le_of_mul_le_mul_right hK (show(0:Int)<(G:Int)by omega)
 exact Int.le_trans h4 (Int.mul_le_mul_of_nonneg_left hO h0)
def ptL (s:Sg) (a b:Int):Nat→List Int:=cmpL s (a-s.f) (b-a) (s.t-s.f)
def ptO (s:Sg):Int:=s.o*(s.t-s.f)^5
theorem Ql6 (s:Sg) (i:Nat) (h:i<3):s.ax.getD i []∈s.ax:=by
 rcases(show i=0∨i=1∨i=2 by omega)with rfl|rfl|rfl<;>simp [Sg.ax]
theorem Zn2 {s:Sg} {a b:Int} (hv:Qa2 s=true) (h1:s.f≤a) (h2:a≤b) (h3:b≤s.t) (i:Nat) (hi:i<3):(nrm (ptL s a b i):Int)≤254803968*ptO s:=by
 obtain⟨⟨v1,v2,v3,v4,v5⟩,hax, -⟩:=Qa3 hv
 have hm:=Ql6 s i hi
 have ha:=hax _ hm
 have hn:=Zn0 ha (by omega)
 obtain⟨l1,l6, -, -⟩:=Qb7 ha
 have hk:=Q9h (s.ax.getD i []) (a-s.f) (b-a) (s.t-s.f) l6 l1 (by omega) (by omega)
 have e:ptL s a b i=cmpC (s.ax.getD i []) (a-s.f) (b-a) (s.t-s.f):=rfl
 rw [e]
 unfold ptO
 generalize nrm (cmpC (s.ax.getD i []) (a-s.f) (b-a) (s.t-s.f))=X at*
 generalize nrm (s.ax.getD i [])=Y at*
 have hD:((s.t-s.f).natAbs:Int)=s.t-s.f:=by omega
 have hk':(X:Int)≤(s.t-s.f)^5*(Y:Int):=by
  have:=Int.ofNat_le.2 hk
  rwa [Int.natCast_mul,Int.natCast_pow,hD]at this
 have hp:0≤(s.t-s.f)^5:=Int.pow_nonneg (by omega)
 refine Int.le_trans hk' (Int.le_trans (Int.mul_le_mul_of_nonneg_left hn hp) ?_)
 rw [Int.mul_left_comm,Int.mul_comm s.o]
 exact Int.le_refl _
end Go.Dg

namespace Go.Proofs.YtlpiamlgibomhaaGreat
open Go.Vl Go.RowKit Go.Dg
def noSg:PV:= .agg [.int .i64 0,.int .i64 0,.int .i64 0,.nilS,.nilS,.nilS]
attribute [go_sem] noSg
theorem Zn8 (L:Nat→List Int) (i:Nat) (h:i<3):([.slc ((L 0).map rI),.slc ((L 1).map rI),.slc ((L 2).map rI)]:List PV)[i]? =some (.slc ((L i).map rI)):=by
 rcases(show i=0∨i=1∨i=2 by omega)with rfl|rfl|rfl<;>rfl
def rmA (C:Nat→List Int) (i:Nat):List PV:=(List.range i).map fun m=>Qan (C m)
theorem Q9r (C:Nat→List Int) (i:Nat):rmA C (i+1)=rmA C i++[.slc ((C i).map (PV.int .i64))]:=by simp [rmA,List.range_succ,Qan]
theorem Zio (C:Nat→List Int) (i:Nat):(rmA C i).length=i:=by simp [rmA]
theorem Zn9 (C:Nat→List Int) (i:Nat):((rmA C i).flatMap PV.cells).all PV.okCell=true:=by
 unfold rmA;rw [List.all_flatMap,List.all_map,List.all_eq_true];intro _ _;rfl
theorem Zq3 (C:Nat→List Int):rmA C 3=[.slc ((C 0).map (PV.int .i64)),.slc ((C 1).map (PV.int .i64)),.slc ((C 2).map (PV.int .i64))]:=rfl
set_option maxHeartbeats 4000000 in
theorem Q9s (f t:Int) (L:Nat→List Int) (o:Int) (B:Nat) (hB:B≤60000) (ho:0<o) (hob:o.natAbs<2^B) (hL: ∀i,i<3→bd B (L i)) (hl: ∀i,i<3→(L i).length≤100)
  (hq:Qh3 L o=true→ ∀i,i<3→ ∀x∈L i,(x/(mdG L o 3:Int)).natAbs≤4611686018427387904):
  Qaf Tryz.prog 82 [.int .i64 f,.int .i64 t,.slc [rL (L 0),rL (L 1),rL (L 2)],rI o]
   (if Qh3 L o=true then .tup [sgPV (Qrd f t L o),.bool true]else .tup [sgPV ⟨0,0,0,[],[],[]⟩,.bool false]):=by
 have hG:=Q14 hob hL
 have hGp:=Qpp (L:=L) ho
 have hO0:((mdG L o 0:Nat):Int)=o:=by show((o.natAbs:Nat):Int)=o;omega
 have o3:=Qc1 4294967296 (by decide) (by decide)
 have hg3:((mdG L o 3:Nat):Int).natAbs<2^B:=by rw [Int.natAbs_natCast];exact hG 3 (by decide)
 have qO:=Qwq (Qbc hob (by omega)) (Qbc hg3 (by omega)) (show((mdG L o 3:Nat):Int)≠0 by have:=hGp 3;omega)
 have hOe:o/((mdG L o 3:Nat):Int)=mdO L o:=rfl
 rw [hOe]at qO
 have hOb:(mdO L o).natAbs<2^(B+1):=Qwm hob (by have:=hGp 3;omega)
 have cmO:=Qeu (Qbc hOb (by omega)) (Qbc (show(4294967296:Int).natAbs<2^64 by decide) (by decide))
 refine Qac (tb:=[]) 93 [.cell 8 24,.tmp 9] [0,1,2,3,7,8,9,10,11,12,13,14,15,16,20,39,42,51,73] mixed Tryz.func82 rfl (by kernel_rfl) (by kernel_rfl) (by kernel_rfl) (by kernel_rfl) ?_
 repeat (first|(simp -implicitDefEqProofs only [go_sem,Nat.reduceAdd,Nat.reduceMul,Nat.reduceEqDiff,Nat.reduceLT,Nat.reduceLeDiff,reduceCtorEq,rL,rI,di])|(with_reducible exact Qaa _ _ (by kernel_rfl))|(with_reducible refine And.intro (Qaa _ _ (by kernel_rfl)) ?_))
 refine Qao mixed (fun i:{i:Nat // i≤3}=>St.of [(0,.int .i64 f),(1,.int .i64 t),(2,.slc [rL (L 0),rL (L 1),rL (L 2)]),(7,.bp 0 2 0 0),(8,.bp 1 6 0 0),(10,.bp 101 2 0 0),(11,.int .i64 (i.1:Int))]
  [(0,{els:=[rI o],esz:=2,ety:=44,fro:=0,live:=true,arr:=false}),(1,{els:=[noSg],esz:=6,ety:=24,fro:=0,live:=true,arr:=false}),(101,{els:=[rI ((mdG L o i.1:Nat):Int)],esz:=2,ety:=44,fro:=0,live:=true,arr:=false})]) (fun i=>3-i.1) ⟨0,Nat.zero_le _⟩ ?_ ?_
 ·refine Qaj (θ:=[(0,0),(1,1),(101,101)]) rfl ?_ ?_
  ·simp [Qad,lkp,ren1,ren0,Qam,rL]
  ·refine⟨⟨rfl,rfl,rfl,rfl,rfl,.inr ⟨rfl,_,_,rfl,rfl,rfl,rfl⟩⟩,⟨rfl,rfl,rfl,rfl,rfl,.inr ⟨rfl,_,_,rfl,rfl,rfl,rfl⟩⟩,⟨rfl,rfl,rfl,rfl,rfl,.inr ⟨rfl,_,_,rfl,rfl,?_,rfl⟩⟩,trivial⟩
   simp only [hO0];rfl
 ·rintro⟨i,hi⟩
  by_cases hA:i<3
  ·have hA':((i:Int)<3)=True:=eq_true (by omega)
   have hA2:=ltT hA
   have n0:=nnT i
   have hx:=Zn8 L i hA
   have hwk:=Qah (a:=i) (by omega)
   have hc:=Qya (L i) B (by omega) (hL i hA) (by have:=hl i hA;omega)
   have x1:((mdG L o i:Nat):Int).natAbs<2^B:=by rw [Int.natAbs_natCast];exact hG i (by omega)
   have x2:((gcdL 0 (L i):Nat):Int).natAbs<2^B:=by rw [Int.natAbs_natCast];exact Qea _ (Nat.two_pow_pos B) fun x hx=>hL i hA x hx
   have m:=Qrw (Qbc x1 (by omega)) (Qbc x2 (by omega))
   rw [Int.natAbs_natCast,Int.natAbs_natCast,Qrc]at m
   have hGs:mdG L o (i+1)=gcdL (mdG L o i) (L i):=rfl
   rw [←hGs]at m
   generalize hX:mdG L o (i+1)=X at*
   generalize mdG L o i=Y0 at*
   generalize gcdL 0 (L i)=Y1 at*
   generalize hC:L i=c at*
   repeat (first|(simp -implicitDefEqProofs only [go_sem,Nat.reduceAdd,Nat.reduceMul,Nat.reduceEqDiff,Nat.reduceLT,Nat.reduceLeDiff,reduceCtorEq,rL,rI,di,hA',hA2,n0,hx,hwk,Int.toNat_natCast,List.length_map])|((with_reducible refine Qab (hc) ?_ ?_ ?_);(with_reducible rfl);rfl)|((with_reducible refine Qab (m) ?_ ?_ ?_);(with_reducible rfl);rfl)|(with_reducible exact Qaa _ _ (by kernel_rfl))|(with_reducible refine And.intro (Qaa _ _ (by kernel_rfl)) ?_))
   refine⟨⟨i+1,hA⟩,by simp only;omega,Qaj (θ:=[(0,0),(1,1),(101,101)]) rfl ?_ ?_⟩
   ·simp [Qad,lkp,ren1,ren0,Qam,rL]
   ·simp only [hX]
    exact⟨⟨rfl,rfl,rfl,rfl,rfl,.inr ⟨rfl,_,_,rfl,rfl,rfl,rfl⟩⟩,⟨rfl,rfl,rfl,rfl,rfl,.inr ⟨rfl,_,_,rfl,rfl,rfl,rfl⟩⟩,⟨rfl,rfl,rfl,rfl,rfl,.inr ⟨rfl,_,_,rfl,rfl,rfl,rfl⟩⟩,trivial⟩
  ·have hA':((i:Int)<3)=False:=eq_false (by omega)
   obtain rfl:i=3:=by omega
   simp only
   by_cases hf:mdO L o≤4294967296
   case neg=>
    have hF:Qh3 L o=false:=decide_eq_false hf
    have hs:((0:Int)<(mdO L o-4294967296).sign)=True:=eq_true (Int.sign_pos_iff.2 (by omega))
    rw [hF]
    generalize mdO L o=OO at*
    generalize ((mdG L o 3:Nat):Int)=G at*
    repeat (first|(simp -implicitDefEqProofs only [go_sem,Nat.reduceAdd,Nat.reduceMul,Nat.reduceEqDiff,Nat.reduceLT,Nat.reduceLeDiff,Nat.reduceSub,reduceCtorEq,Int.reduceLT,rL,rI,di,hA',hs,Bool.false_eq_true,List.map_nil])|((with_reducible refine Qab (qO) ?_ ?_ ?_);(with_reducible rfl);rfl)|((with_reducible refine Qab (o3) ?_ ?_ ?_);(with_reducible rfl);rfl)|((with_reducible refine Qab (cmO) ?_ ?_ ?_);(with_reducible rfl);rfl)|(with_reducible exact Qaa _ _ (by kernel_rfl))|(with_reducible refine And.intro (Qaa _ _ (by kernel_rfl)) ?_))
   have hF:Qh3 L o=true:=decide_eq_true hf
   have hs:((0:Int)<(mdO L o-4294967296).sign)=False:=eq_false (by have:=Int.sign_nonpos_iff.2 (show mdO L o-4294967296≤0 by omega);omega)
   have hO1:0≤mdO L o:=Int.ediv_nonneg (by omega) (by omega)
   have wi:=Zgj (mdO L o) (by omega)
   rw [hF]
   have hqq:=hq hF
   have hqs: ∀i,i<3→ ∀x∈L i,Qaf Tryz.prog 106 [rI x,rI ((mdG L o 3:Nat):Int)] (.tup [rI (x/((mdG L o 3:Nat):Int)),rI (x%((mdG L o 3:Nat):Int))]):=fun i h x hx=>Qwq (Qbc (hL i h x hx) (by omega)) (Qbc hg3 (by omega)) (by have:=hGp 3;omega)
   have hCd: ∀i,mdC L o i=mkC ((mdG L o 3:Nat):Int) (L i):=fun _=>rfl
   rw [if_pos rfl]
   have hmade:Qrd f t L o=⟨f,t,mdO L o,mdC L o 0,mdC L o 1,mdC L o 2⟩:=rfl
   rw [hmade]
   generalize mdO L o=OO at*
   generalize mdC L o=C at*
   generalize ((mdG L o 3:Nat):Int)=G at*
   have hs':=hs
   clear hO0 hOe hGp hG ho hob hO1 hOb hs hF hf hq hmade
   repeat (first|(simp -implicitDefEqProofs only [go_sem,Nat.reduceAdd,Nat.reduceMul,Nat.reduceEqDiff,Nat.reduceLT,Nat.reduceLeDiff,Nat.reduceSub,reduceCtorEq,Int.reduceLT,rL,rI,di,hA',hs'])|((with_reducible refine Qab (qO) ?_ ?_ ?_);(with_reducible rfl);rfl)|((with_reducible refine Qab (o3) ?_ ?_ ?_);(with_reducible rfl);rfl)|((with_reducible refine Qab (cmO) ?_ ?_ ?_);(with_reducible rfl);rfl)|(with_reducible exact Qaa _ _ (by kernel_rfl))|(with_reducible refine And.intro (Qaa _ _ (by kernel_rfl)) ?_))
   refine Qao mixed (fun i:{i:Nat // i≤3}=>St.of [(0,.int .i64 f),(1,.int .i64 t),(2,.slc [rL (L 0),rL (L 1),rL (L 2)]),(7,.bp 0 2 0 0),(8,.bp 1 6 0 0),(10,.bp 101 2 0 0),(12,.bs 7 1 0 i.1),(13,.int .i64 (i.1:Int))]
    ((0,{els:=[rI OO],esz:=2,ety:=44,fro:=0,live:=true,arr:=false})::(1,{els:=[noSg],esz:=6,ety:=24,fro:=0,live:=true,arr:=false})::(101,{els:=[rI G],esz:=2,ety:=44,fro:=0,live:=true,arr:=false})::(7,{els:=rmA C i.1,esz:=1,ety:=22,fro:=0,live:=true,arr:=true})::[])) (fun i=>3-i.1) ⟨0,Nat.zero_le _⟩ ?_ ?_
   ·refine Qco 12 7 1 22 rfl rfl rfl (by decide) [(0,0),(1,1),(101,101),(7,7)] rfl ?_ ?_
    ·simp [Qad,lkp,ren1,ren0,Qam,rL]
    ·exact⟨⟨rfl,rfl,rfl,rfl,rfl,.inr ⟨rfl,_,_,rfl,rfl,rfl,rfl⟩⟩,⟨rfl,rfl,rfl,rfl,rfl,.inr ⟨rfl,_,_,rfl,rfl,rfl,rfl⟩⟩,⟨rfl,rfl,rfl,rfl,rfl,.inr ⟨rfl,_,_,rfl,rfl,rfl,rfl⟩⟩,⟨rfl,rfl,rfl,rfl,rfl,.inl ⟨rfl,rfl⟩⟩,trivial⟩
   ·rintro⟨i,hi⟩
    by_cases hA:i<3
    ·have hA':((i:Int)<3)=True:=eq_true (by omega)
     have hli:=hl i hA
     have hqi:=hqq i hA
     have hqsi:=hqs i hA
     have hCi:=hCd i
     have n0:=nnT i
     have hx:=Zn8 L i hA
     have hwk3:=Qah (a:=i) (by omega)
     have a1:=Zio C i
     have a2:=Zn9 C i
     have a3:=Q9r C i
     have a4:((i+1)*24≤140737488355328)=True:=eq_true (by omega)
     have a5:(i+1≤maxLen)=True:=eq_true (by unfold maxLen;omega)
     generalize rmA C i=A0 at*
     generalize hLc:L i=c at*
     repeat (first|(simp -implicitDefEqProofs only [go_sem,Nat.reduceAdd,Nat.reduceMul,Nat.reduceEqDiff,Nat.reduceLT,Nat.reduceLeDiff,reduceCtorEq,rL,rI,di,hA',Int.toNat_natCast,List.length_map])|(with_reducible exact Qaa _ _ (by kernel_rfl))|(with_reducible refine And.intro (Qaa _ _ (by kernel_rfl)) ?_))
     refine Qao mixed (fun k:{k:Nat // k≤c.length}=>St.of [(0,.int .i64 f),(1,.int .i64 t),(2,.slc [rL (L 0),rL (L 1),rL (L 2)]),(7,.bp 0 2 0 0),(8,.bp 1 6 0 0),(10,.bp 101 2 0 0),(12,.bs 7 1 0 i),(13,.int .i64 (i:Int)),(14,.bs 8 1 0 k.1),(15,.int .i64 (k.1:Int))]
      [(0,{els:=[rI OO],esz:=2,ety:=44,fro:=0,live:=true,arr:=false}),(1,{els:=[noSg],esz:=6,ety:=24,fro:=0,live:=true,arr:=false}),(101,{els:=[rI G],esz:=2,ety:=44,fro:=0,live:=true,arr:=false}),(7,{els:=A0,esz:=1,ety:=22,fro:=0,live:=true,arr:=true}),(8,{els:=(c.take k.1).map (fun x=>PV.int .i64 (x/G)),esz:=1,ety:=3,fro:=0,live:=true,arr:=true})]) (fun k=>c.length-k.1) ⟨0,Nat.zero_le _⟩ ?_ ?_
     ·refine Qco 14 8 1 iT rfl rfl rfl (by decide) [(0,0),(1,1),(101,101),(7,7),(8,8)] rfl ?_ ?_
      ·simp [Qad,lkp,ren1,ren0,Qam,rL]
      ·exact⟨⟨rfl,rfl,rfl,rfl,rfl,.inr ⟨rfl,_,_,rfl,rfl,rfl,rfl⟩⟩,⟨rfl,rfl,rfl,rfl,rfl,.inr ⟨rfl,_,_,rfl,rfl,rfl,rfl⟩⟩,⟨rfl,rfl,rfl,rfl,rfl,.inr ⟨rfl,_,_,rfl,rfl,rfl,rfl⟩⟩,⟨rfl,rfl,rfl,rfl,rfl,.inl ⟨rfl,rfl⟩⟩,⟨rfl,rfl,rfl,rfl,rfl,.inl ⟨rfl,rfl⟩⟩,trivial⟩
     ·rintro⟨k,hk⟩
      by_cases hB':k<c.length
      ·have hB2:=ltT hB'
       have n1:=nnT k
       have hgk:=Qkj c k hB'
       have hwk2:=Qah (a:=k) (by omega)
       have q1:=hqsi _ (List.getElem_mem hB')
       have q3:=Zgj (c[k]/G) (hqi _ (List.getElem_mem hB'))
       have hts:(c.take (k+1)).map (fun x=>PV.int .i64 (x/G))=(c.take k).map (fun x=>PV.int .i64 (x/G))++[PV.int .i64 (c[k]/G)]:=by rw [Qbb c k hB',List.map_append];rfl
       have hlt:((c.take k).map (fun x=>PV.int .i64 (x/G))).length=k:=by rw [List.length_map,List.length_take];omega
       have hok:(((c.take k).map (fun x=>PV.int .i64 (x/G))).flatMap PV.cells).all PV.okCell=true:=by have:=Qf1 ((c.take k).map (· /G));rwa [List.map_map]at this
       have k8:((k+1)*8≤140737488355328)=True:=eq_true (by omega)
       have kM:(k+1≤maxLen)=True:=eq_true (by unfold maxLen;omega)
       generalize hX:c[k]/G=X at*
       generalize c[k]%G=X2 at*
       generalize hT:(c.take k).map (fun x=>PV.int .i64 (x/G))=T at*
       repeat (first|(simp -implicitDefEqProofs only [go_sem,Nat.reduceAdd,Nat.reduceMul,Nat.reduceEqDiff,Nat.reduceLT,Nat.reduceLeDiff,reduceCtorEq,Nat.reduceBneDiff,rL,rI,di,hx,n0,hB2,n1,hgk,hwk2,hlt,hok,k8,kM,Int.toNat_natCast,List.length_map])|((with_reducible refine Qab (q1) ?_ ?_ ?_);(with_reducible rfl);rfl)|((with_reducible refine Qab (q3) ?_ ?_ ?_);(with_reducible rfl);rfl)|(with_reducible exact Qaa _ _ (by kernel_rfl))|(with_reducible refine And.intro (Qaa _ _ (by kernel_rfl)) ?_))
       refine⟨⟨k+1,hB'⟩,by simp only;omega,Qaj (θ:=[(0,0),(1,1),(101,101),(7,7),(8,1804)]) rfl ?_ ?_⟩
       ·simp [Qad,lkp,ren1,ren0,Qam,rL]
       ·simp only [hts]
        exact⟨⟨rfl,rfl,rfl,rfl,rfl,.inr ⟨rfl,_,_,rfl,rfl,rfl,rfl⟩⟩,⟨rfl,rfl,rfl,rfl,rfl,.inr ⟨rfl,_,_,rfl,rfl,rfl,rfl⟩⟩,⟨rfl,rfl,rfl,rfl,rfl,.inr ⟨rfl,_,_,rfl,rfl,rfl,rfl⟩⟩,⟨rfl,rfl,rfl,rfl,rfl,.inl ⟨rfl,rfl⟩⟩,⟨rfl,rfl,rfl,rfl,rfl,.inl ⟨rfl,rfl⟩⟩,trivial⟩
      ·have hB2:=ltF hB'
       obtain rfl:k=c.length:=by omega
       by_cases hc0:c=[]
       ·subst hc0
        have hC0:C i=[0]:=by rw [hCi];rfl
        rw [hC0]at a3
        repeat (first|(simp -implicitDefEqProofs only [go_sem,Nat.reduceAdd,Nat.reduceMul,Nat.reduceEqDiff,Nat.reduceLT,Nat.reduceLeDiff,Nat.reduceSub,reduceCtorEq,Nat.reduceBneDiff,Int.reduceLT,rL,rI,di,hx,n0,a1,a2,a4,a5,hB2,hwk3,List.length_nil,List.map_nil,List.take_nil,Int.toNat_natCast])|(with_reducible exact Qaa _ _ (by kernel_rfl))|(with_reducible refine And.intro (Qaa _ _ (by kernel_rfl)) ?_))
        refine⟨⟨i+1,hA⟩,by simp only;omega,Qaj (θ:=[(0,0),(1,1),(101,101),(7,2103)]) rfl ?_ ?_⟩
        ·simp [Qad,lkp,ren1,ren0,Qam]
        ·simp only [a3]
         exact⟨⟨rfl,rfl,rfl,rfl,rfl,.inr ⟨rfl,_,_,rfl,rfl,rfl,rfl⟩⟩,⟨rfl,rfl,rfl,rfl,rfl,.inr ⟨rfl,_,_,rfl,rfl,rfl,rfl⟩⟩,⟨rfl,rfl,rfl,rfl,rfl,.inr ⟨rfl,_,_,rfl,rfl,rfl,rfl⟩⟩,⟨rfl,rfl,rfl,rfl,rfl,.inl ⟨rfl,rfl⟩⟩,trivial⟩
       ·have hC1:C i=c.map (· /G):=by rw [hCi];exact if_neg hc0
        have hz:((c.length:Int)==0)=false:=by have:=List.length_pos_iff.2 hc0;simp;omega
        have hC2:(c.take c.length).map (fun x=>PV.int .i64 (x/G))=(C i).map (PV.int .i64):=by rw [hC1,List.map_map,List.take_length];rfl
        have hC3:(C i).length=c.length:=by rw [hC1,List.length_map]
        have hC4:((C i).map (PV.int .i64)).take c.length=(C i).map (PV.int .i64):=List.take_of_length_le (by rw [List.length_map];omega)
        have hC5:=Qf1 (C i)
        rw [hC2]
        repeat (first|(simp -implicitDefEqProofs only [go_sem,Nat.reduceAdd,Nat.reduceMul,Nat.reduceEqDiff,Nat.reduceLT,Nat.reduceLeDiff,reduceCtorEq,Nat.reduceBneDiff,rL,rI,di,hx,n0,a1,a2,a4,a5,hC3,hC4,hC5,hB2,hwk3,hz,Int.toNat_natCast,List.length_map])|(with_reducible exact Qaa _ _ (by kernel_rfl))|(with_reducible refine And.intro (Qaa _ _ (by kernel_rfl)) ?_))
        refine⟨⟨i+1,hA⟩,by simp only;omega,Qaj (θ:=[(0,0),(1,1),(101,101),(7,2103)]) rfl ?_ ?_⟩
        ·simp [Qad,lkp,ren1,ren0,Qam]
        ·simp only [a3]
         exact⟨⟨rfl,rfl,rfl,rfl,rfl,.inr ⟨rfl,_,_,rfl,rfl,rfl,rfl⟩⟩,⟨rfl,rfl,rfl,rfl,rfl,.inr ⟨rfl,_,_,rfl,rfl,rfl,rfl⟩⟩,⟨rfl,rfl,rfl,rfl,rfl,.inr ⟨rfl,_,_,rfl,rfl,rfl,rfl⟩⟩,⟨rfl,rfl,rfl,rfl,rfl,.inl ⟨rfl,rfl⟩⟩,trivial⟩
    ·have hA':((i:Int)<3)=False:=eq_false (by omega)
     obtain rfl:i=3:=by omega
     have hok: ∀m,((((C m).map (PV.int .i64)).flatMap PV.cells).all PV.okCell)=true:=fun m=>Qf1 (C m)
     have g0:([.slc ((C 0).map (PV.int .i64)),.slc ((C 1).map (PV.int .i64)),.slc ((C 2).map (PV.int .i64))]:List PV)[0]? =some (.slc ((C 0).map (PV.int .i64))):=rfl
     have g1:([.slc ((C 0).map (PV.int .i64)),.slc ((C 1).map (PV.int .i64)),.slc ((C 2).map (PV.int .i64))]:List PV)[1]? =some (.slc ((C 1).map (PV.int .i64))):=rfl
     have g2:([.slc ((C 0).map (PV.int .i64)),.slc ((C 1).map (PV.int .i64)),.slc ((C 2).map (PV.int .i64))]:List PV)[2]? =some (.slc ((C 2).map (PV.int .i64))):=rfl
     repeat (first|(simp -implicitDefEqProofs only [go_sem,Nat.reduceAdd,Nat.reduceMul,Nat.reduceEqDiff,Nat.reduceLT,Nat.reduceLeDiff,Nat.reduceSub,reduceCtorEq,Int.reduceLE,Int.reduceLT,Int.reduceToNat,rI,di,hA',Zq3,g0,g1,g2,hok,List.length_map,List.take_length])|((with_reducible refine Qab (wi) ?_ ?_ ?_);(with_reducible rfl);rfl)|(with_reducible exact Qaa _ _ (by kernel_rfl))|(with_reducible refine And.intro (Qaa _ _ (by kernel_rfl)) ?_))
     trace_state
end Go.Proofs.YtlpiamlgibomhaaGreat

namespace Go.Vl
open Go.RowKit
theorem Qs0 {P:Program} {tb:Tab} {f:FuncId} {fn:Func} {c:Code} {cap:List PV} {outs:List (List PV)} (nt:Nat) (ks:List Nat) (hm:P.follows .mixedOrders=true) (hf:P.funcs[f]? =some fn) (hb:fn.body=some c)
  (hc:callable P f=true) (hnt:fn.ntmps=nt) (hrs:fn.results.toList=[]) (hn:Nat.ble (cap.length+1) nt=true)
  (h: ∀l stop,go P tb nt ks [.code c] (Qnu outs stop) (St.ofG (Qck 0 (.yld l stop::cap)) [] [] (some (l,stop,outs)))):Qnd P f cap outs:=
 Q8m nt hf hb hc hnt hrs hn fun l stop=>Qdl (tb:=tb) (ks:=ks) hm c _ _ (by
  have h:=h l stop
  simp only [go]at h
  have:(fun e s=>gleave P tb nt ks [] (Qnu outs stop) e s)=Qnu outs stop:=by funext e s;simp only [gleave]
  rwa [this]at h)
theorem Qqz {P:Program} {tb:Tab} {nt:Nat} {ks:List Nat} {K:List It} {Q:Exit→St→Prop} (hm:P.follows .mixedOrders=true) {vs0:List (Nat×PV)} {bs0:List (Nat×Box)} {o0:List (List PV)} {g:Operand} {ps:Array Tmp} {assign body:Code} {f:FuncId} {cap xs:List PV} {es:List Eff} {la:Acc} {outs:List (List PV)}
  (hs:Qnd P f xs outs) (hg:(St.ofG vs0 bs0 o0 none).ev g=some (.fn f [] cap)) (he:Qfl cap (lkp bs0)=some ((xs,es),la))
  (bs1:List (Nat×Box)) (he1:Qat es (St.ofG vs0 bs0 o0 none)=St.ofG vs0 bs1 o0 none)
  (θ:List (Nat×Nat)) (N:List Nat) (hN:(N.all fun b=>Nat.ble LENT b)=true) (vs:List (Nat×PV)) (B:Nat→List (Nat×Box))
  (hκ:Qfm θ=true) (hall:(θ.all fun p=>(lkp (B 0) p.1).isSome)=true) (hv:Qad θ vs0 vs) (hb:Qal θ bs1 (B 0)) (hvN:Qad (Qsz N) vs vs)
  (stop:Nat) (jump:Exit) (hjump:stop<outs.length→(Qxq jump).isSome=true) (hBN: ∀k,k≤outs.length→k≤stop+1→ ∀b∈N,(lkp (B k) b).isSome=true)
  (hps: ∀(k:Nat) (args:List PV),outs[k]? =some args→args.length=ps.size) (hpt:(ps.toList.all fun t=>Nat.blt t nt)=true)
  (hbody: ∀(k:Nat) (args:List PV),outs[k]? =some args→k≤stop→go P tb nt ks [.code assign,.again fun s=>(∀b∈N,(s.box b).isSome=true)∧go P tb nt ks [.code body] (vround B stop jump k) s] (fun _ _=>False) (St.ofG (pvars ps.toList args vs) (B k) [[]] (some (0,0,[]))))
  (θF:List (Nat×Nat)) (vsF:List (Nat×PV)) (bsF:List (Nat×Box)) (hκF:Qfm θF=true) (hallF:(θF.all fun p=>(lkp bsF p.1).isSome&&Nat.blt p.1 LENT)=true) (hvF:Qad θF vs vsF)
  (hbF:Qal θF (B (min outs.length (stop+1))) bsF)
  (hQ1:outs.length≤stop→go P tb nt ks K Q (St.ofG vsF bsF o0 none)) (hQ2:stop<outs.length→gleave P tb nt ks K Q jump (St.ofG vsF bsF o0 none)):go P tb nt ks (.code (.rangeFunc g ps assign body)::K) Q (St.ofG vs0 bs0 o0 none):=by
 simp only [go,vx]
 refine Qqy hg he hs bs1 he1 θ N hN vs B hκ hall hv hb hvN stop jump hjump hBN hps hpt (fun j args h1 h2=> ?_) θF vsF bsF hκF hallF hvF hbF ?_
 ·have h:=hbody j args h1 h2
  simp only [go]at h
  refine Qqn (Qdl hm _ _ _ h) ?_
  intro e s q
  cases e with
  |normal=>
   simp only [gleave]at q
   refine⟨q.1,Qdl (tb:=tb) (ks:=ks) hm _ _ _ ?_⟩
   have h2:=q.2
   exact h2
  |_=>simp only [gleave]at q
 ·by_cases hl:outs.length≤stop
  ·rw [if_pos hl,Qdm];exact hQ1 hl
  ·rw [if_neg hl];exact hQ2 (by omega)
theorem Zqr {P:Program} {tb:Tab} {nt:Nat} {ks:List Nat} (K:List It) (Q:Exit→St→Prop) (st:St):gleave P tb nt ks K Q .ret st=Q .ret st:=Qfr K Q st
theorem Q8o {a b:Int} [Decidable (a<b)]:(if a<b then b else a)=max a b:=by split<;>omega
theorem Qvm {a b:Int} [Decidable (a<b)]:(if a<b then a else b)=min b a:=by split<;>omega
theorem Qvn {P:Program} {tb:Tab} {nt:Nat} {ks:List Nat} {ops:Array Oper} {base i:Nat} {rest:List Oper} {accs:List Acc} {draw:Bool} {k:List It} {Q:Exit→St→Prop} (vs:List (Nat×PV)) (bs:List (Nat×Box)) (o:List (List PV)) (y:Yl) (dst:Option Tmp) (n stop:Nat) (args:List PV) (l:Acc):
  gout P tb nt ks (some (.yield n stop args [],l)) ops base i dst rest accs draw k Q (St.ofG vs bs o y)=
  (yOk y n stop o args∧gops P tb nt ks ops base (i+1) rest ((l++[(YID,true)])::accs) draw k Q ((St.ofG vs bs (o++[args]) y).put dst (.bool (decide (o.length<stop))))):=by
 rw [Qo3];simp only [Qce,List.map_nil,List.append_nil];rfl
attribute [go_sem 10000] Qvn
theorem Zf7 (n stop n' stop':Nat) (outs o:List (List PV)) (args:List PV):yOk (some (n',stop',outs)) n stop o args=(n=n'∧stop=stop'∧o.length≤stop∧outs[o.length]? =some args):=rfl
attribute [go_sem] Zf7
end Go.Vl
