/-
  SM6, Dsh, SM7, Dsi (merged for the claim).
-/
import Derived.Test.YtlpiamlgibomhaaGreatSM5
import Derived.Test.YtlpiamlgibomhaaGreatSM2
set_option linter.unusedSimpArgs false
set_option linter.unusedVariables false
namespace Go.Proofs.YtlpiamlgibomhaaGreat
open Go.Vl Go.RowKit Go.Dg
theorem Qfc (n:Int) (k B:Nat) (hn:i64 n) (hk:k≤100) (hB:B≤600) (hb:n.natAbs<2^B):Qag Tryz.prog 104 [.int .i64 n,.int .i64 (k:Int)] (rI (n^k)):=by
 have h1:=Qes 1 (by decide) (by decide)
 have h2:=Qes n hn.1 hn.2
 refine Qac (tb:=[]) 18 [.cell 4 44] [0,1,4,5,6,10] mixed Tryz.func104 rfl (by kernel_rfl) (by kernel_rfl) (by kernel_rfl) (by kernel_rfl) ?_
 repeat (first|(simp -implicitDefEqProofs only [go_sem,Nat.reduceAdd,Nat.reduceMul,Nat.reduceEqDiff,Nat.reduceLT,Nat.reduceLeDiff,reduceCtorEq,Int.reduceLT,rI,di])|((with_reducible refine Qab (h1) ?_ ?_ ?_);(with_reducible rfl);rfl)|(with_reducible exact Qaa _ _ (by kernel_rfl))|(with_reducible refine And.intro (Qaa _ _ (by kernel_rfl)) ?_))
 refine Qas mixed (fun i:{i:Nat // i≤k}=>St.of [(0,.int .i64 n),(1,.int .i64 (k:Int)),(4,.bp 0 2 0 0),(5,.bp 101 2 0 0),(6,.int .i64 (i.1:Int))]
  [(0,{els:=[.agg [.bool false,.nilS]],esz:=2,ety:=44,fro:=0,live:=true,arr:=false}),(101,{els:=[rI (n^i.1)],esz:=2,ety:=44,fro:=0,live:=true,arr:=false})]) (fun i=>k-i.1) ⟨0,Nat.zero_le _⟩ ?_ ?_
 ·refine Qal (θ:=[(0,0),(101,101)]) rfl ?_ ?_
  ·simp [Qad,lkp,ren1,ren0,Qap]
  ·refine⟨⟨rfl,rfl,rfl,rfl,rfl,.inr ⟨rfl,_,_,rfl,rfl,rfl,rfl⟩⟩,⟨rfl,rfl,rfl,rfl,rfl,.inr ⟨rfl,_,_,rfl,rfl,?_,rfl⟩⟩,trivial⟩
   simp only [Int.pow_zero];rfl
 ·rintro⟨i,hi⟩
  by_cases hA:i<k
  ·have hA':=ltT hA
   have hwk:=Qaj (a:=i) (by omega)
   have hp:=Qk8 hb i
   have hBk:B*i≤600*100:=Nat.mul_le_mul hB (by omega)
   have e:n^(i+1)=n^i*n:=Int.pow_succ n i
   have hm:=Qg6 (Qbt hp (by omega)) (Qbt hb (by omega))
   rw [←e]at hm
   generalize hX:n^(i+1)=Y at*
   generalize n^i=Z at*
   repeat (first|(simp -implicitDefEqProofs only [go_sem,Nat.reduceAdd,Nat.reduceMul,Nat.reduceEqDiff,Nat.reduceLT,Nat.reduceLeDiff,reduceCtorEq,rI,di,hA',hwk])|((with_reducible refine Qab (h2) ?_ ?_ ?_);(with_reducible rfl);rfl)|((with_reducible refine Qab (hm) ?_ ?_ ?_);(with_reducible rfl);rfl)|(with_reducible exact Qaa _ _ (by kernel_rfl))|(with_reducible refine And.intro (Qaa _ _ (by kernel_rfl)) ?_))
   refine⟨⟨i+1,hA⟩,by simp only;omega,Qal (θ:=[(0,0),(101,101)]) rfl ?_ ?_⟩
   ·simp [Qad,lkp,ren1,ren0,Qap]
   ·simp only [hX]
    exact⟨⟨rfl,rfl,rfl,rfl,rfl,.inr ⟨rfl,_,_,rfl,rfl,rfl,rfl⟩⟩,⟨rfl,rfl,rfl,rfl,rfl,.inr ⟨rfl,_,_,rfl,rfl,rfl,rfl⟩⟩,trivial⟩
  ·have hA':=ltF hA
   obtain rfl:i=k:=by omega
   generalize n^i=Z at*
   repeat (first|(simp -implicitDefEqProofs only [go_sem,Nat.reduceAdd,Nat.reduceMul,Nat.reduceEqDiff,Nat.reduceLT,Nat.reduceLeDiff,reduceCtorEq,rI,di,hA'])|(with_reducible exact Qaa _ _ (by kernel_rfl))|(with_reducible refine And.intro (Qaa _ _ (by kernel_rfl)) ?_))
theorem ml1:(1≤maxLen)=True:=eq_true (by unfold maxLen;omega)
theorem ml2:(2≤maxLen)=True:=eq_true (by unfold maxLen;omega)
theorem ml3:(3≤maxLen)=True:=eq_true (by unfold maxLen;omega)
theorem ml4:(4≤maxLen)=True:=eq_true (by unfold maxLen;omega)
attribute [go_sem] ml1 ml2 ml3 ml4
def Qew (ps:List Int) (o:Int):PV:= .agg [.slc (ps.map rI),.bool (decide (o<0)),di (digs E9 o.natAbs)]
def lowG (P:Nat→Int) (O:Int) (i:Nat):Nat:=gcdL O.natAbs ((List.range i).map P)
theorem Qp2 (P:Nat→Int) (O:Int) (i:Nat):lowG P O (i+1)=Nat.gcd (lowG P O i) (P i).natAbs:=by
 unfold lowG;rw [List.range_succ,List.map_append];exact Qeg _ _ _
theorem Zbi {P:Nat→Int} {O:Int} (h:0<O) (i:Nat):0<lowG P O i:=by
 induction i with
 |zero=>show 0<O.natAbs;omega
 |succ i ih=>rw [Qp2];exact Nat.gcd_pos_of_pos_left _ ih
theorem Zih {P:Nat→Int} {O:Int} {B:Nat} (hO:O.natAbs<2^B) (hP: ∀i,i<3→(P i).natAbs<2^B) (i:Nat) (hi:i≤3):((lowG P O i:Nat):Int).natAbs<2^B:=by
 rw [Int.natAbs_natCast]
 refine Qex _ hO fun x hx=> ?_
 simp only [List.mem_map,List.mem_range]at hx
 obtain⟨m,hm,rfl⟩:=hx
 exact hP m (by omega)
def Qk0 (P:Nat→Int):List Int:=[P 0,P 1,P 2]
theorem Qp3 (P:Nat→Int) (i:Nat) (h:i<3):((Qk0 P).map rI)[i]? =some (.agg [.bool (decide (P i<0)),di (digs E9 (P i).natAbs)]):=by
 rcases(show i=0∨i=1∨i=2 by omega)with rfl|rfl|rfl<;>rfl
def upB (ety:Nat) (P:Nat→Int):Nat→List (Nat×Box)
 |0=>[]
 |i+1=>[(8,{els:=((List.range (i+1)).map P).map rI,esz:=2,ety:=ety,fro:=0,live:=true,arr:=true})]
def upV:Nat→PV
 |0=> .nilS
 |i+1=> .bs 8 2 0 (i+1)
set_option maxHeartbeats 1000000 in
theorem Q23 (P:Nat→Int) (O:Int) (B:Nat) (hB:B≤6000) (hO:0<O) (bO:O.natAbs<2^B) (bP: ∀i,i<3→(P i).natAbs<2^B):
  Qag Tryz.prog 105 [Qew (Qk0 P) O] (Qew (Qk0 fun i=>P i/(lowG P O 3:Int)) (O/(lowG P O 3:Int))):=by
 have bG:=Zih bO bP
 have hp:Qew (Qk0 P) O= .agg [.slc ((Qk0 P).map rI),.bool (decide (O<0)),.slc ((digs E9 O.natAbs).map fun d:Nat=>PV.int .i64 (d:Int))]:=rfl
 rw [hp]
 refine Qac (tb:=[]) 51 [.cell 2 46] [0,1,2,3,4,5,6,7,12,23] mixed Tryz.func105 rfl (by kernel_rfl) (by kernel_rfl) (by kernel_rfl) (by kernel_rfl) ?_
 repeat (first|(simp -implicitDefEqProofs only [go_sem,Nat.reduceAdd,Nat.reduceMul,Nat.reduceEqDiff,Nat.reduceLT,Nat.reduceLeDiff,reduceCtorEq,rI,di])|(with_reducible exact Qaa _ _ (by kernel_rfl))|(with_reducible refine And.intro (Qaa _ _ (by kernel_rfl)) ?_))
 refine Qas mixed (fun i:{i:Nat // i≤3}=>St.of [(1,.bp 0 3 0 0),(2,.bp 1 3 0 0),(3,.bp 102 2 0 0),(4,.int .i64 (i.1:Int))]
  [(0,{els:=[Qew (Qk0 P) O],esz:=3,ety:=46,fro:=0,live:=true,arr:=false}),(1,{els:=[.agg [.nilS,.bool false,.nilS]],esz:=3,ety:=46,fro:=0,live:=true,arr:=false}),(102,{els:=[rI ((lowG P O i.1:Nat):Int)],esz:=2,ety:=44,fro:=0,live:=true,arr:=false})]) (fun i=>3-i.1) ⟨0,Nat.zero_le _⟩ ?_ ?_
 ·refine Qal (θ:=[(0,0),(1,1),(102,102)]) rfl ?_ ?_
  ·simp [Qad,lkp,ren1,ren0,Qap]
  ·refine⟨⟨rfl,rfl,rfl,rfl,rfl,.inr ⟨rfl,_,_,rfl,rfl,rfl,rfl⟩⟩,⟨rfl,rfl,rfl,rfl,rfl,.inr ⟨rfl,_,_,rfl,rfl,rfl,rfl⟩⟩,⟨rfl,rfl,rfl,rfl,rfl,.inr ⟨rfl,_,_,rfl,rfl,?_,rfl⟩⟩,trivial⟩
   have:((lowG P O 0:Nat):Int)=O:=by show((O.natAbs:Nat):Int)=O;omega
   simp only [this];rfl
 ·rintro⟨i,hi⟩
  have hi3:=bG i hi
  by_cases hA:i<3
  ·have hA':((i:Int)<3)=True:=eq_true (by omega)
   have n0:=nnT i
   have hgx:=Qp3 P i hA
   have hwk:=Qaj (a:=i) (by omega)
   have gg:=Q4b (Qbt hi3 (by omega)) (Qbt (bP i hA) (by omega))
   rw [Int.natAbs_natCast,←Qp2]at gg
   generalize hX:lowG P O (i+1)=X at*
   generalize lowG P O i=Y at*
   generalize hZ:P i=Z at*
   repeat (first|(simp -implicitDefEqProofs only [go_sem,Nat.reduceAdd,Nat.reduceMul,Nat.reduceEqDiff,Nat.reduceLT,Nat.reduceLeDiff,reduceCtorEq,Qew,rI,di,hA',n0,hgx,hwk,Int.toNat_natCast,List.length_map])|((with_reducible refine Qab (gg) ?_ ?_ ?_);(with_reducible rfl);rfl)|(with_reducible exact Qaa _ _ (by kernel_rfl))|(with_reducible refine And.intro (Qaa _ _ (by kernel_rfl)) ?_))
   refine⟨⟨i+1,hA⟩,by simp only;omega,Qal (θ:=[(0,0),(1,1),(102,102)]) rfl ?_ ?_⟩
   ·simp [Qad,lkp,ren1,ren0,Qap]
   ·simp only [hX]
    exact⟨⟨rfl,rfl,rfl,rfl,rfl,.inr ⟨rfl,_,_,rfl,rfl,rfl,rfl⟩⟩,⟨rfl,rfl,rfl,rfl,rfl,.inr ⟨rfl,_,_,rfl,rfl,rfl,rfl⟩⟩,⟨rfl,rfl,rfl,rfl,rfl,.inr ⟨rfl,_,_,rfl,rfl,rfl,rfl⟩⟩,trivial⟩
  ·have hA':((i:Int)<3)=False:=eq_false (by omega)
   obtain rfl:i=3:=by omega
   have hG0:=Zbi (P:=P) hO 3
   have hqO:=Zeb (Qbt bO (by omega)) (Qbt hi3 (by omega)) (by omega)
   have hqP:=fun i (h:i<3)=>Zeb (Qbt (bP i h) (by omega)) (Qbt hi3 (by omega)) (by omega)
   simp only
   generalize ((lowG P O 3:Nat):Int)=G at*
   repeat (first|(simp -implicitDefEqProofs only [go_sem,Nat.reduceAdd,Nat.reduceMul,Nat.reduceEqDiff,Nat.reduceLT,Nat.reduceLeDiff,Nat.reduceSub,reduceCtorEq,Int.reduceLT,Qew,rI,di,hA'])|(with_reducible exact Qaa _ _ (by kernel_rfl))|(with_reducible refine And.intro (Qaa _ _ (by kernel_rfl)) ?_))
   refine Qas mixed (fun i:{i:Nat // i≤3}=>St.of [(1,.bp 0 3 0 0),(2,.bp 1 3 0 0),(3,.bp 102 2 0 0),(5,.bp 600 3 0 0),(6,.int .i64 (i.1:Int))]
    ((0,{els:=[Qew (Qk0 P) O],esz:=3,ety:=46,fro:=0,live:=true,arr:=false})::(1,{els:=[.agg [.nilS,.bool false,.nilS]],esz:=3,ety:=46,fro:=0,live:=true,arr:=false})::(102,{els:=[rI G],esz:=2,ety:=44,fro:=0,live:=true,arr:=false})::(600,{els:=[.agg [upV i.1,.bool false,.nilS]],esz:=3,ety:=46,fro:=0,live:=true,arr:=false})::upB 44 (fun i=>P i/G) i.1)) (fun i=>3-i.1) ⟨0,Nat.zero_le _⟩ ?_ ?_
   ·refine Qal (θ:=[(0,0),(1,1),(102,102),(600,600)]) rfl ?_ ?_
    ·simp [Qad,lkp,ren1,ren0,Qap]
    ·exact⟨⟨rfl,rfl,rfl,rfl,rfl,.inr ⟨rfl,_,_,rfl,rfl,rfl,rfl⟩⟩,⟨rfl,rfl,rfl,rfl,rfl,.inr ⟨rfl,_,_,rfl,rfl,rfl,rfl⟩⟩,⟨rfl,rfl,rfl,rfl,rfl,.inr ⟨rfl,_,_,rfl,rfl,rfl,rfl⟩⟩,⟨rfl,rfl,rfl,rfl,rfl,.inr ⟨rfl,_,_,rfl,rfl,rfl,rfl⟩⟩,trivial⟩
   ·rintro⟨i,hi⟩
    by_cases hA:i<3
    ·have hA':((i:Int)<3)=True:=eq_true (by omega)
     have n0:=nnT i
     have hgx:=Qp3 P i hA
     have hwk:=Qaj (a:=i) (by omega)
     have qq:=hqP i hA
     rcases(show i=0∨i=1∨i=2 by omega)with hi0|hi0|hi0
     ·skip
      obtain rfl:i=0:=hi0
      generalize P 0%G=R at*
      repeat (first|(simp -implicitDefEqProofs only [go_sem,Nat.reduceAdd,Nat.reduceMul,Nat.reduceEqDiff,Nat.reduceLT,Nat.reduceLeDiff,Nat.reduceSub,reduceCtorEq,Int.reduceLT,Int.reduceAdd,Qew,rI,di,hA',n0,hgx,hwk,upV,upB,Int.toNat_natCast,List.length_map])|((with_reducible refine Qab (qq) ?_ ?_ ?_);(with_reducible rfl);rfl)|(with_reducible exact Qaa _ _ (by kernel_rfl))|(with_reducible refine And.intro (Qaa _ _ (by kernel_rfl)) ?_))
      refine⟨⟨0+1,hA⟩,by simp only;omega,Qal (θ:=[(0,0),(1,1),(102,102),(600,600),(8,1104)]) rfl ?_ ?_⟩
      ·simp [Qad,lkp,ren1,ren0,Qap]
      ·exact⟨⟨rfl,rfl,rfl,rfl,rfl,.inr ⟨rfl,_,_,rfl,rfl,rfl,rfl⟩⟩,⟨rfl,rfl,rfl,rfl,rfl,.inr ⟨rfl,_,_,rfl,rfl,rfl,rfl⟩⟩,⟨rfl,rfl,rfl,rfl,rfl,.inr ⟨rfl,_,_,rfl,rfl,rfl,rfl⟩⟩,⟨rfl,rfl,rfl,rfl,rfl,.inr ⟨rfl,_,_,rfl,rfl,rfl,rfl⟩⟩,⟨rfl,rfl,rfl,rfl,rfl,.inl ⟨rfl,rfl⟩⟩,trivial⟩
     ·skip
      obtain rfl:i=1:=hi0
      generalize P 1%G=R at*
      repeat (first|(simp -implicitDefEqProofs only [go_sem,Nat.reduceAdd,Nat.reduceMul,Nat.reduceEqDiff,Nat.reduceLT,Nat.reduceLeDiff,Nat.reduceSub,reduceCtorEq,Nat.reduceBneDiff,Int.reduceLE,Int.reduceLT,Int.reduceToNat,Int.reduceAdd,Qew,rI,di,hA',n0,hgx,hwk,upV,upB,Int.toNat_natCast,List.length_map])|((with_reducible refine Qab (qq) ?_ ?_ ?_);(with_reducible rfl);rfl)|(with_reducible exact Qaa _ _ (by kernel_rfl))|(with_reducible refine And.intro (Qaa _ _ (by kernel_rfl)) ?_))
      refine⟨⟨1+1,hA⟩,by simp only;omega,Qal (θ:=[(0,0),(1,1),(102,102),(600,600),(8,1104)]) rfl ?_ ?_⟩
      ·simp [Qad,lkp,ren1,ren0,Qap]
      ·exact⟨⟨rfl,rfl,rfl,rfl,rfl,.inr ⟨rfl,_,_,rfl,rfl,rfl,rfl⟩⟩,⟨rfl,rfl,rfl,rfl,rfl,.inr ⟨rfl,_,_,rfl,rfl,rfl,rfl⟩⟩,⟨rfl,rfl,rfl,rfl,rfl,.inr ⟨rfl,_,_,rfl,rfl,rfl,rfl⟩⟩,⟨rfl,rfl,rfl,rfl,rfl,.inr ⟨rfl,_,_,rfl,rfl,rfl,rfl⟩⟩,⟨rfl,rfl,rfl,rfl,rfl,.inl ⟨rfl,rfl⟩⟩,trivial⟩
     ·skip
      obtain rfl:i=2:=hi0
      generalize P 2%G=R at*
      repeat (first|(simp -implicitDefEqProofs only [go_sem,Nat.reduceAdd,Nat.reduceMul,Nat.reduceEqDiff,Nat.reduceLT,Nat.reduceLeDiff,Nat.reduceSub,reduceCtorEq,Nat.reduceBneDiff,Int.reduceLE,Int.reduceLT,Int.reduceToNat,Int.reduceAdd,Qew,rI,di,hA',n0,hgx,hwk,upV,upB,Int.toNat_natCast,List.length_map])|((with_reducible refine Qab (qq) ?_ ?_ ?_);(with_reducible rfl);rfl)|(with_reducible exact Qaa _ _ (by kernel_rfl))|(with_reducible refine And.intro (Qaa _ _ (by kernel_rfl)) ?_))
      refine⟨⟨2+1,hA⟩,by simp only;omega,Qal (θ:=[(0,0),(1,1),(102,102),(600,600),(8,1104)]) rfl ?_ ?_⟩
      ·simp [Qad,lkp,ren1,ren0,Qap]
      ·exact⟨⟨rfl,rfl,rfl,rfl,rfl,.inr ⟨rfl,_,_,rfl,rfl,rfl,rfl⟩⟩,⟨rfl,rfl,rfl,rfl,rfl,.inr ⟨rfl,_,_,rfl,rfl,rfl,rfl⟩⟩,⟨rfl,rfl,rfl,rfl,rfl,.inr ⟨rfl,_,_,rfl,rfl,rfl,rfl⟩⟩,⟨rfl,rfl,rfl,rfl,rfl,.inr ⟨rfl,_,_,rfl,rfl,rfl,rfl⟩⟩,⟨rfl,rfl,rfl,rfl,rfl,.inl ⟨rfl,rfl⟩⟩,trivial⟩
    ·have hA':((i:Int)<3)=False:=eq_false (by omega)
     obtain rfl:i=3:=by omega
     simp only [upV,upB]
     repeat (first|(simp -implicitDefEqProofs only [go_sem,Nat.reduceAdd,Nat.reduceMul,Nat.reduceEqDiff,Nat.reduceLT,Nat.reduceLeDiff,Nat.reduceSub,reduceCtorEq,Int.reduceLT,Qew,rI,di,hA'])|((with_reducible refine Qab (hqO) ?_ ?_ ?_);(with_reducible rfl);rfl)|(with_reducible exact Qaa _ _ (by kernel_rfl))|(with_reducible refine And.intro (Qaa _ _ (by kernel_rfl)) ?_))
     rfl
set_option maxHeartbeats 1000000 in
theorem Zbj (s:Sg) (a d:Int) (hs:okSg s) (h6: ∀c∈s.ax,c.length≤6) (ho:1≤s.o) (ha:i64 a) (hd:i64 d) (hd1:1≤d):
  Qag Tryz.prog 65 [sgPV s,.int .i64 a,.int .i64 d] (Qew (Qk0 fun i=>plP s a d i/(plG s a d 3:Int)) (s.o*d^5/(plG s a d 3:Int))):=by
 obtain⟨⟨a1,a2⟩,⟨a3,a4⟩,⟨a5,a6⟩,hc,hl⟩:=hs
 have ba:=Qau ha
 have bd':=Qau hd
 have bo:=Qau ⟨a5,a6⟩
 have w1:=Qes s.o a5 a6
 have p5:=Qfc d 5 64 hd (by decide) (by decide) bd'
 have bd5:=Qk8 bd' 5
 have bod:=Zbq (s:=s) bo bd'
 have m1:=Qg6 (Qbt bo (by decide)) (Qbt bd5 (by decide))
 have hax:=Q30 s
 have hcB: ∀c∈s.ax,bd 64 c:=fun c hx x hx2=>Qau (hc c hx x hx2)
 have bP:=Qug hcB h6 ba bd'
 have hO0:0<s.o*d^5:=Int.mul_pos (by omega) (Int.pow_pos (by omega))
 have hlow:=Q23 (plP s a d) (s.o*d^5) (64+(64*5+1+(64*5+1))+7) (by decide) hO0 (Qeh bod (by decide)) bP
 have hlg:lowG (plP s a d) (s.o*d^5) 3=plG s a d 3:=rfl
 rw [hlg]at hlow
 clear hlg
 have hrp:Qew (Qk0 (plP s a d)) (s.o*d^5)= .agg [.slc [rI (plP s a d 0),rI (plP s a d 1),rI (plP s a d 2)],.bool (decide (s.o*d^5<0)),.slc ((digs E9 (s.o*d^5).natAbs).map fun d:Nat=>PV.int .i64 (d:Int))]:=rfl
 rw [hrp]at hlow
 clear hrp
 generalize s.o*d^5=O at*
 have hsg:sgPV s= .agg [.int .i64 s.f,.int .i64 s.t,.int .i64 s.o,.slc (s.x.map (PV.int .i64)),.slc (s.y.map (PV.int .i64)),.slc (s.z.map (PV.int .i64))]:=rfl
 rw [hsg]at hax ⊢
 generalize (Qk0 fun i=>plP s a d i/(plG s a d 3:Int))=RL at*
 generalize (O/(plG s a d 3:Int))=RO at*
 refine Qac (tb:=[]) 62 [.cell 6 46] [0,1,2,3,6,7,8,9,10,11,15,25] mixed Tryz.func65 rfl (by kernel_rfl) (by kernel_rfl) (by kernel_rfl) (by kernel_rfl) ?_
 repeat (first|(simp -implicitDefEqProofs only [go_sem,Nat.reduceAdd,Nat.reduceMul,Nat.reduceEqDiff,Nat.reduceLT,Nat.reduceLeDiff,reduceCtorEq,rI,di])|((with_reducible refine Qab (hax) ?_ ?_ ?_);(with_reducible rfl);rfl)|(with_reducible exact Qaa _ _ (by kernel_rfl))|(with_reducible refine And.intro (Qaa _ _ (by kernel_rfl)) ?_))
 refine Qas mixed (fun i:{i:Nat // i≤3}=>St.of [(1,.int .i64 a),(2,.int .i64 d),(3,.bp 0 6 0 0),(6,.bp 1 3 0 0),(7,.bp 100 3 0 0),(8,.slc [Qan s.x,Qan s.y,Qan s.z]),(9,.int .i64 (i.1:Int))]
  ((0,{els:=[sgPV s],esz:=6,ety:=24,fro:=0,live:=true,arr:=false})::(1,{els:=[.agg [.nilS,.bool false,.nilS]],esz:=3,ety:=46,fro:=0,live:=true,arr:=false})::(100,{els:=[.agg [upV i.1,.bool false,.nilS]],esz:=3,ety:=46,fro:=0,live:=true,arr:=false})::upB 44 (plP s a d) i.1)) (fun i=>3-i.1) ⟨0,Nat.zero_le _⟩ ?_ ?_
 ·refine Qal (θ:=[(0,0),(1,1),(100,100)]) rfl ?_ ?_
  ·simp [Qad,lkp,ren1,ren0,Qap,Qan]
  ·exact⟨⟨rfl,rfl,rfl,rfl,rfl,.inr ⟨rfl,_,_,rfl,rfl,rfl,rfl⟩⟩,⟨rfl,rfl,rfl,rfl,rfl,.inr ⟨rfl,_,_,rfl,rfl,rfl,rfl⟩⟩,⟨rfl,rfl,rfl,rfl,rfl,.inr ⟨rfl,_,_,rfl,rfl,rfl,rfl⟩⟩,trivial⟩
 ·rintro⟨i,hi⟩
  by_cases hA:i<3
  ·have hA':((i:Int)<3)=True:=eq_true (by omega)
   have h0x:=nnT i
   have hx:=Q31 s i hA
   rcases(show i=0∨i=1∨i=2 by omega)with hi0|hi0|hi0
   ·skip
    obtain rfl:i=0:=hi0
    have hP:plP s a d 0=sm (plcT (s.ax[0]'hA) a d) (s.ax[0]'hA).length:=rfl
    have hcx:=hc (s.ax[0]) (List.getElem_mem hA)
    have hlx:=h6 (s.ax[0]) (List.getElem_mem hA)
    generalize s.ax[0]'hA=c at*
    repeat (first|(simp -implicitDefEqProofs only [go_sem,Nat.reduceAdd,Nat.reduceMul,Nat.reduceEqDiff,Nat.reduceLT,Nat.reduceLeDiff,Nat.reduceSub,reduceCtorEq,Int.reduceLT,hA',upV,upB])|(with_reducible exact Qaa _ _ (by kernel_rfl))|(with_reducible refine And.intro (Qaa _ _ (by kernel_rfl)) ?_))
    refine Qas mixed (fun k:{k:Nat // k≤c.length}=>St.of [(1,.int .i64 a),(2,.int .i64 d),(3,.bp 0 6 0 0),(6,.bp 1 3 0 0),(7,.bp 100 3 0 0),(8,.slc [Qan s.x,Qan s.y,Qan s.z]),(9,.int .i64 0),(10,.bp 601 2 0 0),(11,.int .i64 (k.1:Int))]
     ((0,{els:=[sgPV s],esz:=6,ety:=24,fro:=0,live:=true,arr:=false})::(1,{els:=[.agg [.nilS,.bool false,.nilS]],esz:=3,ety:=46,fro:=0,live:=true,arr:=false})::(601,{els:=[rI (sm (plcT c a d) k.1)],esz:=2,ety:=44,fro:=0,live:=true,arr:=false})::(100,{els:=[.agg [upV 0,.bool false,.nilS]],esz:=3,ety:=46,fro:=0,live:=true,arr:=false})::upB 44 (plP s a d) 0)) (fun k=>c.length-k.1) ⟨0,Nat.zero_le _⟩ ?_ ?_
    ·refine Le.trans (Qut 601 rfl) (Qal (θ:=[(0,0),(1,1),(601,601),(100,100)]) rfl ?_ ?_)
     ·simp [Qad,lkp,ren1,ren0,Qap,Qan]
     ·simp only [upB,upV]
      refine⟨⟨rfl,rfl,rfl,rfl,rfl,.inr ⟨rfl,_,_,rfl,rfl,rfl,rfl⟩⟩,⟨rfl,rfl,rfl,rfl,rfl,.inr ⟨rfl,_,_,rfl,rfl,rfl,rfl⟩⟩,⟨rfl,rfl,rfl,rfl,rfl,.inr ⟨rfl,_,_,rfl,rfl,?_,rfl⟩⟩,⟨rfl,rfl,rfl,rfl,rfl,.inr ⟨rfl,_,_,rfl,rfl,rfl,rfl⟩⟩,?_⟩
      ·simp only [sm,rI_z];rfl
      ·exact trivial
    ·rintro⟨k,hk⟩
     by_cases hB:k<c.length
     ·have hB':=ltT hB
      have n0:=nnT k
      have hgk:=Qb2 c k hB
      have hwk2:=Qaj (a:=k) (by omega)
      have w5:IntKind.i64.wrap (5-(k:Int))=((5-k:Nat):Int):=by rw [Qah (by omega) (by omega)];omega
      obtain⟨k1,k2⟩:=hcx _ (List.getElem_mem hB)
      have hcb:bd 64 c:=fun x hx=>Qau (hcx x hx)
      have x1:=hcb _ (List.getElem_mem hB)
      have o1:=Qes c[k] k1 k2
      have q1:=Qfc a k 64 ha (by omega) (by decide) ba
      have q2:=Qfc d (5-k) 64 hd (by omega) (by decide) bd'
      obtain⟨t1,t2,t3,t4⟩:=Qhh hcb ba bd' k (by omega)
      have mm1:=Qg6 (Qbt t1 (by decide)) (Qbt t2 (by decide))
      have eT:plcT c a d k=c[k]*(a^k*d^(5-k)):=by unfold plcT;rw [Qb6 hB]
      have mm2:=Qg6 (Qbt x1 (by decide)) (Qbt t3 (by decide))
      rw [←eT]at mm2
      have y1:=Qdl hcb ba bd' k (by omega)
      have es:sm (plcT c a d) (k+1)=sm (plcT c a d) k+plcT c a d k:=rfl
      have a1:=Quo (Qbt y1 (by decide)) (Qbt t4 (by decide))
      rw [←es]at a1
      clear y1 t1 t2 t3 t4 es eT hP
      generalize hX:sm (plcT c a d) (k+1)=X at*
      generalize sm (plcT c a d) k=Y at*
      generalize plcT c a d k=T at*
      generalize a^k*d^(5-k)=U at*
      generalize a^k=U1 at*
      generalize d^(5-k)=U2 at*
      repeat (first|(simp -implicitDefEqProofs only [go_sem,Nat.reduceAdd,Nat.reduceMul,Nat.reduceEqDiff,Nat.reduceLT,Nat.reduceLeDiff,reduceCtorEq,rI,di,h0x,hx,hB',n0,hgk,hwk2,w5,upV,upB,Int.toNat_natCast,List.length_map])|((with_reducible refine Qab (o1) ?_ ?_ ?_);(with_reducible rfl);rfl)|((with_reducible refine Qab (q1) ?_ ?_ ?_);(with_reducible rfl);rfl)|((with_reducible refine Qab (q2) ?_ ?_ ?_);(with_reducible rfl);rfl)|((with_reducible refine Qab (mm1) ?_ ?_ ?_);(with_reducible rfl);rfl)|((with_reducible refine Qab (mm2) ?_ ?_ ?_);(with_reducible rfl);rfl)|((with_reducible refine Qab (a1) ?_ ?_ ?_);(with_reducible rfl);rfl)|(with_reducible exact Qaa _ _ (by kernel_rfl))|(with_reducible refine And.intro (Qaa _ _ (by kernel_rfl)) ?_))
      refine⟨⟨k+1,hB⟩,by simp only;omega,Qal (θ:=[(0,0),(1,1),(601,601),(100,100)]) rfl ?_ ?_⟩
      ·simp [Qad,lkp,ren1,ren0,Qap,Qan]
      ·simp only [hX]
       try simp only [upB,upV]
       refine⟨⟨rfl,rfl,rfl,rfl,rfl,.inr ⟨rfl,_,_,rfl,rfl,rfl,rfl⟩⟩,⟨rfl,rfl,rfl,rfl,rfl,.inr ⟨rfl,_,_,rfl,rfl,rfl,rfl⟩⟩,⟨rfl,rfl,rfl,rfl,rfl,.inr ⟨rfl,_,_,rfl,rfl,rfl,rfl⟩⟩,⟨rfl,rfl,rfl,rfl,rfl,.inr ⟨rfl,_,_,rfl,rfl,rfl,rfl⟩⟩,?_⟩
       exact trivial
     ·have hB':=ltF hB
      obtain rfl:k=c.length:=by omega
      rw [←hP]
      generalize hX:plP s a d 0=X at*
      repeat (first|(simp -implicitDefEqProofs only [go_sem,Nat.reduceAdd,Nat.reduceMul,Nat.reduceEqDiff,Nat.reduceLT,Nat.reduceLeDiff,reduceCtorEq,Int.reduceAdd,rI,di,h0x,hx,hB',upV,upB,List.length_map])|(with_reducible exact Qaa _ _ (by kernel_rfl))|(with_reducible refine And.intro (Qaa _ _ (by kernel_rfl)) ?_))
      refine⟨⟨0+1,hA⟩,by simp only;omega,Qal (θ:=[(0,0),(1,1),(100,100),(8,1104)]) rfl ?_ ?_⟩
      ·simp [Qad,lkp,ren1,ren0,Qap,Qan]
      ·subst hX
       exact⟨⟨rfl,rfl,rfl,rfl,rfl,.inr ⟨rfl,_,_,rfl,rfl,rfl,rfl⟩⟩,⟨rfl,rfl,rfl,rfl,rfl,.inr ⟨rfl,_,_,rfl,rfl,rfl,rfl⟩⟩,⟨rfl,rfl,rfl,rfl,rfl,.inr ⟨rfl,_,_,rfl,rfl,rfl,rfl⟩⟩,⟨rfl,rfl,rfl,rfl,rfl,.inl ⟨rfl,rfl⟩⟩,trivial⟩
   ·skip
    obtain rfl:i=1:=hi0
    have hP:plP s a d 1=sm (plcT (s.ax[1]'hA) a d) (s.ax[1]'hA).length:=rfl
    have hcx:=hc (s.ax[1]) (List.getElem_mem hA)
    have hlx:=h6 (s.ax[1]) (List.getElem_mem hA)
    generalize s.ax[1]'hA=c at*
    repeat (first|(simp -implicitDefEqProofs only [go_sem,Nat.reduceAdd,Nat.reduceMul,Nat.reduceEqDiff,Nat.reduceLT,Nat.reduceLeDiff,Nat.reduceSub,reduceCtorEq,Int.reduceLT,hA',upV,upB])|(with_reducible exact Qaa _ _ (by kernel_rfl))|(with_reducible refine And.intro (Qaa _ _ (by kernel_rfl)) ?_))
    refine Qas mixed (fun k:{k:Nat // k≤c.length}=>St.of [(1,.int .i64 a),(2,.int .i64 d),(3,.bp 0 6 0 0),(6,.bp 1 3 0 0),(7,.bp 100 3 0 0),(8,.slc [Qan s.x,Qan s.y,Qan s.z]),(9,.int .i64 1),(10,.bp 601 2 0 0),(11,.int .i64 (k.1:Int))]
     ((0,{els:=[sgPV s],esz:=6,ety:=24,fro:=0,live:=true,arr:=false})::(1,{els:=[.agg [.nilS,.bool false,.nilS]],esz:=3,ety:=46,fro:=0,live:=true,arr:=false})::(601,{els:=[rI (sm (plcT c a d) k.1)],esz:=2,ety:=44,fro:=0,live:=true,arr:=false})::(100,{els:=[.agg [upV 1,.bool false,.nilS]],esz:=3,ety:=46,fro:=0,live:=true,arr:=false})::upB 44 (plP s a d) 1)) (fun k=>c.length-k.1) ⟨0,Nat.zero_le _⟩ ?_ ?_
    ·refine Le.trans (Qut 601 rfl) (Qal (θ:=[(0,0),(1,1),(601,601),(100,100),(8,8)]) rfl ?_ ?_)
     ·simp [Qad,lkp,ren1,ren0,Qap,Qan]
     ·simp only [upB,upV]
      refine⟨⟨rfl,rfl,rfl,rfl,rfl,.inr ⟨rfl,_,_,rfl,rfl,rfl,rfl⟩⟩,⟨rfl,rfl,rfl,rfl,rfl,.inr ⟨rfl,_,_,rfl,rfl,rfl,rfl⟩⟩,⟨rfl,rfl,rfl,rfl,rfl,.inr ⟨rfl,_,_,rfl,rfl,?_,rfl⟩⟩,⟨rfl,rfl,rfl,rfl,rfl,.inr ⟨rfl,_,_,rfl,rfl,rfl,rfl⟩⟩,?_⟩
      ·simp only [sm,rI_z];rfl
      ·exact⟨⟨rfl,rfl,rfl,rfl,rfl,.inl ⟨rfl,rfl⟩⟩,trivial⟩
    ·rintro⟨k,hk⟩
     by_cases hB:k<c.length
     ·have hB':=ltT hB
      have n0:=nnT k
      have hgk:=Qb2 c k hB
      have hwk2:=Qaj (a:=k) (by omega)
      have w5:IntKind.i64.wrap (5-(k:Int))=((5-k:Nat):Int):=by rw [Qah (by omega) (by omega)];omega
      obtain⟨k1,k2⟩:=hcx _ (List.getElem_mem hB)
      have hcb:bd 64 c:=fun x hx=>Qau (hcx x hx)
      have x1:=hcb _ (List.getElem_mem hB)
      have o1:=Qes c[k] k1 k2
      have q1:=Qfc a k 64 ha (by omega) (by decide) ba
      have q2:=Qfc d (5-k) 64 hd (by omega) (by decide) bd'
      obtain⟨t1,t2,t3,t4⟩:=Qhh hcb ba bd' k (by omega)
      have mm1:=Qg6 (Qbt t1 (by decide)) (Qbt t2 (by decide))
      have eT:plcT c a d k=c[k]*(a^k*d^(5-k)):=by unfold plcT;rw [Qb6 hB]
      have mm2:=Qg6 (Qbt x1 (by decide)) (Qbt t3 (by decide))
      rw [←eT]at mm2
      have y1:=Qdl hcb ba bd' k (by omega)
      have es:sm (plcT c a d) (k+1)=sm (plcT c a d) k+plcT c a d k:=rfl
      have a1:=Quo (Qbt y1 (by decide)) (Qbt t4 (by decide))
      rw [←es]at a1
      clear y1 t1 t2 t3 t4 es eT hP
      generalize hX:sm (plcT c a d) (k+1)=X at*
      generalize sm (plcT c a d) k=Y at*
      generalize plcT c a d k=T at*
      generalize a^k*d^(5-k)=U at*
      generalize a^k=U1 at*
      generalize d^(5-k)=U2 at*
      repeat (first|(simp -implicitDefEqProofs only [go_sem,Nat.reduceAdd,Nat.reduceMul,Nat.reduceEqDiff,Nat.reduceLT,Nat.reduceLeDiff,reduceCtorEq,Int.reduceLE,Int.reduceToNat,rI,di,h0x,hx,hB',n0,hgk,hwk2,w5,upV,upB,Int.toNat_natCast,List.length_map])|((with_reducible refine Qab (o1) ?_ ?_ ?_);(with_reducible rfl);rfl)|((with_reducible refine Qab (q1) ?_ ?_ ?_);(with_reducible rfl);rfl)|((with_reducible refine Qab (q2) ?_ ?_ ?_);(with_reducible rfl);rfl)|((with_reducible refine Qab (mm1) ?_ ?_ ?_);(with_reducible rfl);rfl)|((with_reducible refine Qab (mm2) ?_ ?_ ?_);(with_reducible rfl);rfl)|((with_reducible refine Qab (a1) ?_ ?_ ?_);(with_reducible rfl);rfl)|(with_reducible exact Qaa _ _ (by kernel_rfl))|(with_reducible refine And.intro (Qaa _ _ (by kernel_rfl)) ?_))
      refine⟨⟨k+1,hB⟩,by simp only;omega,Qal (θ:=[(0,0),(1,1),(601,601),(100,100),(8,8)]) rfl ?_ ?_⟩
      ·simp [Qad,lkp,ren1,ren0,Qap,Qan]
      ·simp only [hX]
       try simp only [upB,upV]
       refine⟨⟨rfl,rfl,rfl,rfl,rfl,.inr ⟨rfl,_,_,rfl,rfl,rfl,rfl⟩⟩,⟨rfl,rfl,rfl,rfl,rfl,.inr ⟨rfl,_,_,rfl,rfl,rfl,rfl⟩⟩,⟨rfl,rfl,rfl,rfl,rfl,.inr ⟨rfl,_,_,rfl,rfl,rfl,rfl⟩⟩,⟨rfl,rfl,rfl,rfl,rfl,.inr ⟨rfl,_,_,rfl,rfl,rfl,rfl⟩⟩,?_⟩
       exact⟨⟨rfl,rfl,rfl,rfl,rfl,.inl ⟨rfl,rfl⟩⟩,trivial⟩
     ·have hB':=ltF hB
      obtain rfl:k=c.length:=by omega
      rw [←hP]
      generalize hX:plP s a d 1=X at*
      repeat (first|(simp -implicitDefEqProofs only [go_sem,Nat.reduceAdd,Nat.reduceMul,Nat.reduceEqDiff,Nat.reduceLT,Nat.reduceLeDiff,reduceCtorEq,Nat.reduceBneDiff,Int.reduceLE,Int.reduceToNat,Int.reduceAdd,rI,di,h0x,hx,hB',upV,upB,List.length_map])|(with_reducible exact Qaa _ _ (by kernel_rfl))|(with_reducible refine And.intro (Qaa _ _ (by kernel_rfl)) ?_))
      refine⟨⟨1+1,hA⟩,by simp only;omega,Qal (θ:=[(0,0),(1,1),(100,100),(8,1104)]) rfl ?_ ?_⟩
      ·simp [Qad,lkp,ren1,ren0,Qap,Qan]
      ·subst hX
       exact⟨⟨rfl,rfl,rfl,rfl,rfl,.inr ⟨rfl,_,_,rfl,rfl,rfl,rfl⟩⟩,⟨rfl,rfl,rfl,rfl,rfl,.inr ⟨rfl,_,_,rfl,rfl,rfl,rfl⟩⟩,⟨rfl,rfl,rfl,rfl,rfl,.inr ⟨rfl,_,_,rfl,rfl,rfl,rfl⟩⟩,⟨rfl,rfl,rfl,rfl,rfl,.inl ⟨rfl,rfl⟩⟩,trivial⟩
   ·skip
    obtain rfl:i=2:=hi0
    have hP:plP s a d 2=sm (plcT (s.ax[2]'hA) a d) (s.ax[2]'hA).length:=rfl
    have hcx:=hc (s.ax[2]) (List.getElem_mem hA)
    have hlx:=h6 (s.ax[2]) (List.getElem_mem hA)
    generalize s.ax[2]'hA=c at*
    repeat (first|(simp -implicitDefEqProofs only [go_sem,Nat.reduceAdd,Nat.reduceMul,Nat.reduceEqDiff,Nat.reduceLT,Nat.reduceLeDiff,Nat.reduceSub,reduceCtorEq,Int.reduceLT,hA',upV,upB])|(with_reducible exact Qaa _ _ (by kernel_rfl))|(with_reducible refine And.intro (Qaa _ _ (by kernel_rfl)) ?_))
    refine Qas mixed (fun k:{k:Nat // k≤c.length}=>St.of [(1,.int .i64 a),(2,.int .i64 d),(3,.bp 0 6 0 0),(6,.bp 1 3 0 0),(7,.bp 100 3 0 0),(8,.slc [Qan s.x,Qan s.y,Qan s.z]),(9,.int .i64 2),(10,.bp 601 2 0 0),(11,.int .i64 (k.1:Int))]
     ((0,{els:=[sgPV s],esz:=6,ety:=24,fro:=0,live:=true,arr:=false})::(1,{els:=[.agg [.nilS,.bool false,.nilS]],esz:=3,ety:=46,fro:=0,live:=true,arr:=false})::(601,{els:=[rI (sm (plcT c a d) k.1)],esz:=2,ety:=44,fro:=0,live:=true,arr:=false})::(100,{els:=[.agg [upV 2,.bool false,.nilS]],esz:=3,ety:=46,fro:=0,live:=true,arr:=false})::upB 44 (plP s a d) 2)) (fun k=>c.length-k.1) ⟨0,Nat.zero_le _⟩ ?_ ?_
    ·refine Le.trans (Qut 601 rfl) (Qal (θ:=[(0,0),(1,1),(601,601),(100,100),(8,8)]) rfl ?_ ?_)
     ·simp [Qad,lkp,ren1,ren0,Qap,Qan]
     ·simp only [upB,upV]
      refine⟨⟨rfl,rfl,rfl,rfl,rfl,.inr ⟨rfl,_,_,rfl,rfl,rfl,rfl⟩⟩,⟨rfl,rfl,rfl,rfl,rfl,.inr ⟨rfl,_,_,rfl,rfl,rfl,rfl⟩⟩,⟨rfl,rfl,rfl,rfl,rfl,.inr ⟨rfl,_,_,rfl,rfl,?_,rfl⟩⟩,⟨rfl,rfl,rfl,rfl,rfl,.inr ⟨rfl,_,_,rfl,rfl,rfl,rfl⟩⟩,?_⟩
      ·simp only [sm,rI_z];rfl
      ·exact⟨⟨rfl,rfl,rfl,rfl,rfl,.inl ⟨rfl,rfl⟩⟩,trivial⟩
    ·rintro⟨k,hk⟩
     by_cases hB:k<c.length
     ·have hB':=ltT hB
      have n0:=nnT k
      have hgk:=Qb2 c k hB
      have hwk2:=Qaj (a:=k) (by omega)
      have w5:IntKind.i64.wrap (5-(k:Int))=((5-k:Nat):Int):=by rw [Qah (by omega) (by omega)];omega
      obtain⟨k1,k2⟩:=hcx _ (List.getElem_mem hB)
      have hcb:bd 64 c:=fun x hx=>Qau (hcx x hx)
      have x1:=hcb _ (List.getElem_mem hB)
      have o1:=Qes c[k] k1 k2
      have q1:=Qfc a k 64 ha (by omega) (by decide) ba
      have q2:=Qfc d (5-k) 64 hd (by omega) (by decide) bd'
      obtain⟨t1,t2,t3,t4⟩:=Qhh hcb ba bd' k (by omega)
      have mm1:=Qg6 (Qbt t1 (by decide)) (Qbt t2 (by decide))
      have eT:plcT c a d k=c[k]*(a^k*d^(5-k)):=by unfold plcT;rw [Qb6 hB]
      have mm2:=Qg6 (Qbt x1 (by decide)) (Qbt t3 (by decide))
      rw [←eT]at mm2
      have y1:=Qdl hcb ba bd' k (by omega)
      have es:sm (plcT c a d) (k+1)=sm (plcT c a d) k+plcT c a d k:=rfl
      have a1:=Quo (Qbt y1 (by decide)) (Qbt t4 (by decide))
      rw [←es]at a1
      clear y1 t1 t2 t3 t4 es eT hP
      generalize hX:sm (plcT c a d) (k+1)=X at*
      generalize sm (plcT c a d) k=Y at*
      generalize plcT c a d k=T at*
      generalize a^k*d^(5-k)=U at*
      generalize a^k=U1 at*
      generalize d^(5-k)=U2 at*
      repeat (first|(simp -implicitDefEqProofs only [go_sem,Nat.reduceAdd,Nat.reduceMul,Nat.reduceEqDiff,Nat.reduceLT,Nat.reduceLeDiff,reduceCtorEq,Int.reduceLE,Int.reduceToNat,rI,di,h0x,hx,hB',n0,hgk,hwk2,w5,upV,upB,Int.toNat_natCast,List.length_map])|((with_reducible refine Qab (o1) ?_ ?_ ?_);(with_reducible rfl);rfl)|((with_reducible refine Qab (q1) ?_ ?_ ?_);(with_reducible rfl);rfl)|((with_reducible refine Qab (q2) ?_ ?_ ?_);(with_reducible rfl);rfl)|((with_reducible refine Qab (mm1) ?_ ?_ ?_);(with_reducible rfl);rfl)|((with_reducible refine Qab (mm2) ?_ ?_ ?_);(with_reducible rfl);rfl)|((with_reducible refine Qab (a1) ?_ ?_ ?_);(with_reducible rfl);rfl)|(with_reducible exact Qaa _ _ (by kernel_rfl))|(with_reducible refine And.intro (Qaa _ _ (by kernel_rfl)) ?_))
      refine⟨⟨k+1,hB⟩,by simp only;omega,Qal (θ:=[(0,0),(1,1),(601,601),(100,100),(8,8)]) rfl ?_ ?_⟩
      ·simp [Qad,lkp,ren1,ren0,Qap,Qan]
      ·simp only [hX]
       try simp only [upB,upV]
       refine⟨⟨rfl,rfl,rfl,rfl,rfl,.inr ⟨rfl,_,_,rfl,rfl,rfl,rfl⟩⟩,⟨rfl,rfl,rfl,rfl,rfl,.inr ⟨rfl,_,_,rfl,rfl,rfl,rfl⟩⟩,⟨rfl,rfl,rfl,rfl,rfl,.inr ⟨rfl,_,_,rfl,rfl,rfl,rfl⟩⟩,⟨rfl,rfl,rfl,rfl,rfl,.inr ⟨rfl,_,_,rfl,rfl,rfl,rfl⟩⟩,?_⟩
       exact⟨⟨rfl,rfl,rfl,rfl,rfl,.inl ⟨rfl,rfl⟩⟩,trivial⟩
     ·have hB':=ltF hB
      obtain rfl:k=c.length:=by omega
      rw [←hP]
      generalize hX:plP s a d 2=X at*
      repeat (first|(simp -implicitDefEqProofs only [go_sem,Nat.reduceAdd,Nat.reduceMul,Nat.reduceEqDiff,Nat.reduceLT,Nat.reduceLeDiff,reduceCtorEq,Nat.reduceBneDiff,Int.reduceLE,Int.reduceToNat,Int.reduceAdd,rI,di,h0x,hx,hB',upV,upB,List.length_map])|(with_reducible exact Qaa _ _ (by kernel_rfl))|(with_reducible refine And.intro (Qaa _ _ (by kernel_rfl)) ?_))
      refine⟨⟨2+1,hA⟩,by simp only;omega,Qal (θ:=[(0,0),(1,1),(100,100),(8,1104)]) rfl ?_ ?_⟩
      ·simp [Qad,lkp,ren1,ren0,Qap,Qan]
      ·subst hX
       exact⟨⟨rfl,rfl,rfl,rfl,rfl,.inr ⟨rfl,_,_,rfl,rfl,rfl,rfl⟩⟩,⟨rfl,rfl,rfl,rfl,rfl,.inr ⟨rfl,_,_,rfl,rfl,rfl,rfl⟩⟩,⟨rfl,rfl,rfl,rfl,rfl,.inr ⟨rfl,_,_,rfl,rfl,rfl,rfl⟩⟩,⟨rfl,rfl,rfl,rfl,rfl,.inl ⟨rfl,rfl⟩⟩,trivial⟩
  ·have hA':((i:Int)<3)=False:=eq_false (by omega)
   obtain rfl:i=3:=by omega
   have e3:((List.range 3).map (plP s a d)).map rI=[rI (plP s a d 0),rI (plP s a d 1),rI (plP s a d 2)]:=rfl
   simp only [upV,upB,e3]
   generalize plP s a d 0=X0 at*
   generalize plP s a d 1=X1 at*
   generalize plP s a d 2=X2 at*
   repeat (first|(simp -implicitDefEqProofs only [go_sem,Nat.reduceAdd,Nat.reduceMul,Nat.reduceEqDiff,Nat.reduceLT,Nat.reduceLeDiff,Nat.reduceSub,reduceCtorEq,Int.reduceLT,Qew,rI,di,hA'])|((with_reducible refine Qab (w1) ?_ ?_ ?_);(with_reducible rfl);rfl)|((with_reducible refine Qab (p5) ?_ ?_ ?_);(with_reducible rfl);rfl)|((with_reducible refine Qab (m1) ?_ ?_ ?_);(with_reducible rfl);rfl)|((with_reducible refine Qab (hlow) ?_ ?_ ?_);(with_reducible rfl);rfl)|(with_reducible exact Qaa _ _ (by kernel_rfl))|(with_reducible refine And.intro (Qaa _ _ (by kernel_rfl)) ?_))
end Go.Proofs.YtlpiamlgibomhaaGreat

namespace Go.Dg
def plQ (s:Sg) (a d:Int) (i:Nat):Int:=plP s a d i/(plG s a d 3:Int)
def plO (s:Sg) (a d:Int):Int:=s.o*d^5/(plG s a d 3:Int)
def Zdw (s:Sg) (a d:Int) (s':Sg) (a' d':Int):Bool:=decide (plQ s a d 0=plQ s' a' d' 0)&&(decide (plQ s a d 1=plQ s' a' d' 1)&&(decide (plQ s a d 2=plQ s' a' d' 2)&&decide (plO s a d=plO s' a' d')))
def Qfy (a b:Sg):Bool:=decide (a.t=b.f)&&Zdw a 1 1 b 0 1
def sg0:Sg:=⟨0,0,0,[],[],[]⟩
def vpAt (p:List Sg) (j:Nat):Bool:=Qa2 (p.getD j sg0)&&(decide (j=0)||Qfy (p.getD (j-1) sg0) (p.getD j sg0))
def vpTo (p:List Sg) (i:Nat):Bool:=(List.range i).all (vpAt p)
def Qbo (p:List Sg):Bool:=vpTo p p.length&&(decide (1≤p.length)&&decide (p.length≤256))
theorem Qp4 (p:List Sg) (i:Nat):vpTo p (i+1)=(vpTo p i&&vpAt p i):=by simp [vpTo,List.range_succ]
theorem Zii {p:List Sg} {j m:Nat} (h:vpAt p j=false) (hm:j<m):vpTo p m=false:=by
 unfold vpTo
 rw [List.all_eq_false]
 exact⟨j,List.mem_range.2 hm,by simp [h]⟩
theorem Qm4 {p:List Sg} {j:Nat} (h:vpAt p j=false) (hm:j<p.length):Qbo p=false:=by unfold Qbo;rw [Zii h hm];rfl
theorem sgD {p:List Sg} {i:Nat} (h:i<p.length):p.getD i sg0=p[i]:=by rw [List.getD_eq_getElem?_getD,List.getElem?_eq_getElem h];rfl
theorem Qm5 {p:List Sg} {i j:Nat} (h:vpTo p i=true) (hj:j<i):Qa2 (p.getD j sg0)=true:=by
 have:=List.all_eq_true.1 h j (List.mem_range.2 hj)
 unfold vpAt at this
 simp only [Bool.and_eq_true]at this
 exact this.1
theorem Qa4 {s:Sg} (h:Qa2 s=true):(0≤s.f∧s.f<s.t∧s.t≤3600000∧1≤s.o∧s.o≤4294967296)∧(∀c∈s.ax,axOK c s.o=true)∧s.ax.foldl gcdL s.o.natAbs=1:=by
 unfold Qa2 rngS at h
 simp only [Bool.and_eq_true,decide_eq_true_eq,List.all_eq_true,beq_iff_eq]at h
 obtain⟨⟨h1,h2,h3,h4,h5⟩,h6,h7⟩:=h
 exact⟨⟨h1,h2,h3,h4,h5⟩,h6,h7⟩
theorem Qco {c:List Int} {o:Int} (h:axOK c o=true):1≤c.length∧c.length≤6∧(1<c.length→c.getD (c.length-1) 0≠0)∧Qcw c o c.length=true:=by
 unfold axOK Qj8 at h
 simp only [Bool.and_eq_true,decide_eq_true_eq,Bool.or_eq_true,Bool.not_eq_true',beq_eq_false_iff_ne]at h
 obtain⟨⟨h1,h2,h3⟩,h4⟩:=h
 exact⟨h1,h2,fun h5=>h3.elim (fun h6=>by omega) id,h4⟩
theorem Qfz {s:Sg} (h:Qa2 s=true): ∀c∈s.ax,c.length≤6:=fun c hc=>(Qco ((Qa4 h).2.1 c hc)).2.1
theorem Qgs {s:Sg} (h:Qa2 s=true):1≤s.o:=(Qa4 h).1.2.2.2.1
end Go.Dg

namespace Go.Proofs.YtlpiamlgibomhaaGreat
open Go.Vl Go.RowKit Go.Dg
theorem Zdx (s:Sg) (a d:Int):plV s a d=Qae (plQ s a d 0) (plQ s a d 1) (plQ s a d 2) (plO s a d):=rfl
theorem Q24 {x y:Int} {B:Nat} (hx:x.natAbs<2^B) (hy:0<y):(x/y).natAbs<2^(B+1):=by
 rw [Nat.pow_succ]
 have h2:0<2^B:=Nat.two_pow_pos B
 rcases Quh hx hy with h|h<;>omega
theorem Zlv {m B:Nat} (h:m<2^B) (hk:B≤2000):m<2^2000:=Qeh (C:=2000) h hk
theorem Zlw {s:Sg} {a d:Int} (hs:okSg s) (h6: ∀c∈s.ax,c.length≤6) (ho:1≤s.o) (ha:i64 a) (hd:i64 d) (hd1:1≤d):(∀i,i<3→(plQ s a d i).natAbs<2^2000)∧(plO s a d).natAbs<2^2000:=by
 have hcB: ∀c∈s.ax,bd 64 c:=fun c hx x hx2=>Qau (hs.c c hx x hx2)
 have bP:=Qug hcB h6 (Qau ha) (Qau hd)
 have bo:=Zbq (s:=s) (Qau hs.o) (Qau hd)
 have hg:=Qsv ho hd1 3 (s:=s) (a:=a)
 exact⟨fun i hi=>Zlv (Q24 (bP i hi) (by omega)) (by decide),Zlv (Q24 bo (by omega)) (by decide)⟩
theorem Zlx (x y z o:Int) (B:Nat) (hB:B≤6000000) (hx:x.natAbs<2^B) (hy:y.natAbs<2^B) (hz:z.natAbs<2^B) (ho:o.natAbs<2^B):
  Qag Tryz.prog 20 [Qew [x,y,z] o] (Qae x y z o):=by
 have t1:=Zb3 (Zcl hx (by omega))
 have t2:=Zb3 (Zcl hy (by omega))
 have t3:=Zb3 (Zcl hz (by omega))
 have t4:=Zb3 (Zcl ho (by omega))
 have hp:Qew [x,y,z] o= .agg [.slc [rI x,rI y,rI z],.bool (decide (o<0)),.slc ((digs E9 o.natAbs).map fun d:Nat=>PV.int .i64 (d:Int))]:=rfl
 rw [hp]
 refine Qac (tb:=[]) 22 [.cell 2 33] [0,1,2] mixed Tryz.func20 rfl (by kernel_rfl) (by kernel_rfl) (by kernel_rfl) (by kernel_rfl) ?_
 repeat (first|(simp -implicitDefEqProofs only [go_sem,Nat.reduceAdd,Nat.reduceMul,Nat.reduceEqDiff,Nat.reduceLT,Nat.reduceLeDiff,reduceCtorEq,Int.reduceLE,Int.reduceToNat,rI,di,wPV])|((with_reducible refine Qab (t1) ?_ ?_ ?_);(with_reducible rfl);rfl)|((with_reducible refine Qab (t2) ?_ ?_ ?_);(with_reducible rfl);rfl)|((with_reducible refine Qab (t3) ?_ ?_ ?_);(with_reducible rfl);rfl)|((with_reducible refine Qab (t4) ?_ ?_ ?_);(with_reducible rfl);rfl)|(with_reducible exact Qaa _ _ (by kernel_rfl))|(with_reducible refine And.intro (Qaa _ _ (by kernel_rfl)) ?_))
theorem Q25 (x y z o x' y' z' o':Int):(decide (x<0)==decide (x'<0)&&(mB x==mB x'&&(decide (y<0)==decide (y'<0)&&(mB y==mB y'&&(decide (z<0)==decide (z'<0)&&(mB z==mB z'&&(decide (o<0)==decide (o'<0)&&mB o==mB o')))))))=
  (decide (x=x')&&(decide (y=y')&&(decide (z=z')&&decide (o=o')))):=by
 rw [←Qk9 x x',←Qk9 y y',←Qk9 z z',←Qk9 o o']
 simp only [Bool.and_assoc]
theorem Qud (a b:Sg) (ha:okSg a) (hb:okSg b) (va:Qa2 a=true) (vb:Qa2 b=true):Qag Tryz.prog 71 [sgPV a,sgPV b] (.bool (Qfy a b)):=by
 have o1:i64 1:=by unfold i64;omega
 have o0:i64 0:=by unfold i64;omega
 have t1:=Qop a 1 1 ha (Qfz va) (Qgs va) o1 o1 (by decide)
 have t2:=Qop b 0 1 hb (Qfz vb) (Qgs vb) o0 o1 (by decide)
 rw [Zdx]at t1 t2
 unfold Qfy Zdw
 generalize plQ a 1 1 0=x0 at*
 generalize plQ a 1 1 1=x1 at*
 generalize plQ a 1 1 2=x2 at*
 generalize plO a 1 1=x3 at*
 generalize plQ b 0 1 0=y0 at*
 generalize plQ b 0 1 1=y1 at*
 generalize plQ b 0 1 2=y2 at*
 generalize plO b 0 1=y3 at*
 by_cases h:a.t=b.f
 ·have h':(a.t==b.f)=true:=by rw [h];exact beq_self_eq_true _
  rw [decide_eq_true h,Bool.true_and]
  refine Qac (tb:=[]) 17 [.tmp 4] [0,1,2,3,4] mixed Tryz.func71 rfl (by kernel_rfl) (by kernel_rfl) (by kernel_rfl) (by kernel_rfl) ?_
  repeat (first|(simp -implicitDefEqProofs only [go_sem,Nat.reduceAdd,Nat.reduceMul,Nat.reduceEqDiff,Nat.reduceLT,Nat.reduceLeDiff,reduceCtorEq,h',Q25])|((with_reducible refine Qab (t1) ?_ ?_ ?_);(with_reducible rfl);rfl)|((with_reducible refine Qab (t2) ?_ ?_ ?_);(with_reducible rfl);rfl)|(with_reducible exact Qaa _ _ (by kernel_rfl))|(with_reducible refine And.intro (Qaa _ _ (by kernel_rfl)) ?_))
 ·have h':(a.t==b.f)=false:=beq_eq_false_iff_ne.2 h
  rw [decide_eq_false h,Bool.false_and]
  refine Qac (tb:=[]) 17 [.tmp 4] [0,1,2,3,4] mixed Tryz.func71 rfl (by kernel_rfl) (by kernel_rfl) (by kernel_rfl) (by kernel_rfl) ?_
  repeat (first|(simp -implicitDefEqProofs only [go_sem,Nat.reduceAdd,Nat.reduceMul,Nat.reduceEqDiff,Nat.reduceLT,Nat.reduceLeDiff,reduceCtorEq,h'])|(with_reducible exact Qaa _ _ (by kernel_rfl))|(with_reducible refine And.intro (Qaa _ _ (by kernel_rfl)) ?_))
def Qaw (p:List Sg):PV:= .slc (p.map sgPV)
attribute [go_sem] Qaw
theorem Qct (p:List Sg) (i:Nat) (h:i<p.length):(p.map sgPV)[i]? =some (.agg [.int .i64 p[i].f,.int .i64 p[i].t,.int .i64 p[i].o,.slc (p[i].x.map (PV.int .i64)),.slc (p[i].y.map (PV.int .i64)),.slc (p[i].z.map (PV.int .i64))]):=by
 rw [List.getElem?_map,List.getElem?_eq_getElem h];rfl
set_option maxHeartbeats 1000000 in
theorem Qf0 (p:List Sg) (hp: ∀s∈p,okSg s) (hl:p.length≤1000000):Qag Tryz.prog 30 [Qaw p] (.bool (Qbo p)):=by
 refine Qac (tb:=[]) 38 [.tmp 2] [0,2,3,4,5,6,7,8,28] mixed Tryz.func30 rfl (by kernel_rfl) (by kernel_rfl) (by kernel_rfl) (by kernel_rfl) ?_
 repeat (first|(simp -implicitDefEqProofs only [go_sem,Nat.reduceAdd,Nat.reduceMul,Nat.reduceEqDiff,Nat.reduceLT,Nat.reduceLeDiff,reduceCtorEq,List.length_map])|(with_reducible exact Qaa _ _ (by kernel_rfl))|(with_reducible refine And.intro (Qaa _ _ (by kernel_rfl)) ?_))
 have z0:0≤p.length∧vpTo p 0=true:=⟨Nat.zero_le _,rfl⟩
 refine Qas mixed (fun i:{i:Nat // i≤p.length∧vpTo p i=true}=>St.of [(0,Qaw p),(2,.bool false),(5,Qaw p),(6,.int .i64 (p.length:Int)),(7,.int .i64 (i.1:Int))] []) (fun i=>p.length-i.1) ⟨0,z0⟩ ?_ ?_
 ·exact Qa1 (by simp [Qad,lkp,ren1,ren0,Qaw])
 ·rintro⟨i,hi,hall⟩
  by_cases hA:i<p.length
  ·have hA':=ltT hA
   have n0:=nnT i
   have hg:=Qct p i hA
   have hwk:=Qaj (a:=i) (by omega)
   have ok1:=hp _ (List.getElem_mem hA)
   have hv:=Qon p[i] ok1
   have hgD:=sgD hA
   cases hV:Qa2 p[i]with
   |false=>
    have e:Qbo p=false:=Qm4 (j:=i) (by unfold vpAt;rw [hgD,hV];rfl) hA
    rw [hV]at hv
    unfold sgPV Qan at hv
    repeat (first|(simp -implicitDefEqProofs only [go_sem,Nat.reduceAdd,Nat.reduceMul,Nat.reduceEqDiff,Nat.reduceLT,Nat.reduceLeDiff,reduceCtorEq,hA',n0,hg,Int.toNat_natCast,List.length_map,e])|((with_reducible refine Qab (hv) ?_ ?_ ?_);(with_reducible rfl);rfl)|(with_reducible exact Qaa _ _ (by kernel_rfl))|(with_reducible refine And.intro (Qaa _ _ (by kernel_rfl)) ?_))
   |true=>
    rw [hV]at hv
    unfold sgPV Qan at hv
    by_cases hz:i=0
    ·have hz':((0:Int)<(i:Int))=False:=eq_false (by omega)
     have hn:vpTo p (i+1)=true:=by rw [Qp4,hall];unfold vpAt;rw [hgD,hV,decide_eq_true hz];rfl
     repeat (first|(simp -implicitDefEqProofs only [go_sem,Nat.reduceAdd,Nat.reduceMul,Nat.reduceEqDiff,Nat.reduceLT,Nat.reduceLeDiff,reduceCtorEq,hA',n0,hg,hwk,hz',Int.toNat_natCast,List.length_map])|((with_reducible refine Qab (hv) ?_ ?_ ?_);(with_reducible rfl);rfl)|(with_reducible exact Qaa _ _ (by kernel_rfl))|(with_reducible refine And.intro (Qaa _ _ (by kernel_rfl)) ?_))
     refine⟨⟨i+1,hA,hn⟩,by simp only;omega,Qa1 (by simp [Qad,lkp,ren1,ren0,Qaw])⟩
    ·have hz':((0:Int)<(i:Int))=True:=eq_true (by omega)
     have hA1:i-1<p.length:=by omega
     have n1:=nnT (i-1)
     have hg1:=Qct p (i-1) hA1
     have w1:IntKind.i64.wrap ((i:Int)-1)=((i-1:Nat):Int):=by rw [Qah (by omega) (by omega)];omega
     have hV1:Qa2 p[i-1]=true:=by have:=Qm5 hall (j:=i-1) (by omega);rwa [sgD hA1]at this
     have hm:=Qud p[i-1] p[i] (hp _ (List.getElem_mem hA1)) ok1 hV1 hV
     have ev:vpAt p i=Qfy p[i-1] p[i]:=by unfold vpAt;rw [hgD,sgD hA1,hV,decide_eq_false hz];simp
     cases hM:Qfy p[i-1] p[i]with
     |false=>
      have e:Qbo p=false:=Qm4 (j:=i) (ev.trans hM) hA
      rw [hM]at hm
      unfold sgPV Qan at hm
      repeat (first|(simp -implicitDefEqProofs only [go_sem,Nat.reduceAdd,Nat.reduceMul,Nat.reduceEqDiff,Nat.reduceLT,Nat.reduceLeDiff,reduceCtorEq,hA',n0,hg,hz',w1,n1,hg1,Int.toNat_natCast,List.length_map,e])|((with_reducible refine Qab (hv) ?_ ?_ ?_);(with_reducible rfl);rfl)|((with_reducible refine Qab (hm) ?_ ?_ ?_);(with_reducible rfl);rfl)|(with_reducible exact Qaa _ _ (by kernel_rfl))|(with_reducible refine And.intro (Qaa _ _ (by kernel_rfl)) ?_))
     |true=>
      have hn:vpTo p (i+1)=true:=by rw [Qp4,hall,ev,hM];rfl
      rw [hM]at hm
      unfold sgPV Qan at hm
      repeat (first|(simp -implicitDefEqProofs only [go_sem,Nat.reduceAdd,Nat.reduceMul,Nat.reduceEqDiff,Nat.reduceLT,Nat.reduceLeDiff,reduceCtorEq,hA',n0,hg,hwk,hz',w1,n1,hg1,Int.toNat_natCast,List.length_map])|((with_reducible refine Qab (hv) ?_ ?_ ?_);(with_reducible rfl);rfl)|((with_reducible refine Qab (hm) ?_ ?_ ?_);(with_reducible rfl);rfl)|(with_reducible exact Qaa _ _ (by kernel_rfl))|(with_reducible refine And.intro (Qaa _ _ (by kernel_rfl)) ?_))
      refine⟨⟨i+1,hA,hn⟩,by simp only;omega,Qa1 (by simp [Qad,lkp,ren1,ren0,Qaw])⟩
  ·have hA':=ltF hA
   obtain rfl:i=p.length:=by omega
   have e0:Qbo p=(decide (1≤p.length)&&decide (p.length≤256)):=by unfold Qbo;rw [hall,Bool.true_and]
   rw [e0]
   by_cases c1:1≤p.length
   ·have c1':((1:Int)≤(p.length:Int))=True:=eq_true (by omega)
    have c2':decide ((p.length:Int)≤256)=decide (p.length≤256):=by rw [decide_eq_decide];omega
    rw [decide_eq_true c1,Bool.true_and]
    repeat (first|(simp -implicitDefEqProofs only [go_sem,Nat.reduceAdd,Nat.reduceMul,Nat.reduceEqDiff,Nat.reduceLT,Nat.reduceLeDiff,reduceCtorEq,hA',c1',c2',List.length_map])|(with_reducible exact Qaa _ _ (by kernel_rfl))|(with_reducible refine And.intro (Qaa _ _ (by kernel_rfl)) ?_))
   ·have c1':((1:Int)≤(p.length:Int))=False:=eq_false (by omega)
    rw [decide_eq_false c1,Bool.false_and]
    repeat (first|(simp -implicitDefEqProofs only [go_sem,Nat.reduceAdd,Nat.reduceMul,Nat.reduceEqDiff,Nat.reduceLT,Nat.reduceLeDiff,reduceCtorEq,hA',c1',List.length_map])|(with_reducible exact Qaa _ _ (by kernel_rfl))|(with_reducible refine And.intro (Qaa _ _ (by kernel_rfl)) ?_))
end Go.Proofs.YtlpiamlgibomhaaGreat

namespace Go.Dg
def Qk1 (a b:Sg):Bool:=decide (a.f=b.f)&&(decide (a.t=b.t)&&(decide (a.o=b.o)&&(decide (a.x=b.x)&&(decide (a.y=b.y)&&decide (a.z=b.z)))))
def Qg4 (a b:List Sg) (i:Nat):Bool:=(List.range i).all fun j=>Qk1 (a.getD j sg0) (b.getD j sg0)
def Q26 (a b:List Sg):Bool:=decide (a.length=b.length)&&Qg4 a b a.length
theorem Qsj (a b:List Sg) (i:Nat):Qg4 a b (i+1)=(Qg4 a b i&&Qk1 (a.getD i sg0) (b.getD i sg0)):=by simp [Qg4,List.range_succ]
theorem Qxi {a b:List Sg} {j m:Nat} (h:Qk1 (a.getD j sg0) (b.getD j sg0)=false) (hm:j<m):Qg4 a b m=false:=by
 unfold Qg4
 rw [List.all_eq_false]
 exact⟨j,List.mem_range.2 hm,by simp only [h];simp⟩
def Qjm (a b:List Int) (i:Nat):Bool:=(List.range i).all fun j=>decide (a.getD j 0=b.getD j 0)
theorem Qsk (a b:List Int) (i:Nat):Qjm a b (i+1)=(Qjm a b i&&decide (a.getD i 0=b.getD i 0)):=by simp [Qjm,List.range_succ]
theorem Qxj {a b:List Int} {j:Nat} (h:a.getD j 0≠b.getD j 0):a≠b:=by rintro rfl;exact h rfl
theorem Qxk {a b:List Int} (hl:a.length=b.length) (h:Qjm a b a.length=true):a=b:=by
 unfold Qjm at h
 simp only [List.all_eq_true,List.mem_range,decide_eq_true_eq]at h
 apply List.ext_getElem hl
 intro i p q
 have:=h i p
 rw [List.getD_eq_getElem?_getD,List.getD_eq_getElem?_getD,List.getElem?_eq_getElem p,List.getElem?_eq_getElem q]at this
 exact this
def few1 (s:Sg):Bool:=decide (s.x.length≤8)&&(decide (s.y.length≤8)&&decide (s.z.length≤8))
def fewB (p:List Sg) (m:Nat):Bool:=((p.take (m+1)).all few1)&&decide (p.length≤m)
theorem Qxl {p:List Sg} {m:Nat} (h:fewB p m=true):p.length≤m∧ ∀s∈p,∀c∈s.ax,c.length≤8:=by
 unfold fewB at h
 simp only [Bool.and_eq_true,decide_eq_true_eq]at h
 obtain⟨h1,h2⟩:=h
 rw [List.take_of_length_le (by omega)]at h1
 refine⟨h2,fun s hs c hc=> ?_⟩
 have:=List.all_eq_true.1 h1 s hs
 unfold few1 at this
 simp only [Bool.and_eq_true,decide_eq_true_eq]at this
 obtain⟨a1,a2,a3⟩:=this
 unfold Sg.ax at hc
 simp only [List.mem_cons,List.not_mem_nil,or_false]at hc
 rcases hc with rfl|rfl|rfl<;>assumption
theorem Qof {p:List Sg} {m i:Nat} (hi:i<p.length) (hm:i≤m) (h:few1 p[i]=false):fewB p m=false:=by
 unfold fewB
 have:(p.take (m+1)).all few1=false:=by
  rw [List.all_eq_false]
  refine⟨p[i],?_,by simp [h]⟩
  rw [List.mem_take_iff_getElem]
  exact⟨i,by omega,rfl⟩
 rw [this];rfl
end Go.Dg
