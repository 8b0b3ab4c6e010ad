/-
  SM6, Dsh, SM7, Dsi, SM8 (merged for the claim).
-/
import Derived.Test.YtlpiamlgibomhaaGreatSM5
import Derived.Test.YtlpiamlgibomhaaGreatSM3
set_option linter.unusedSimpArgs false
set_option linter.unusedVariables false
namespace Go.Proofs.YtlpiamlgibomhaaGreat
open Go.Vl Go.RowKit Go.Dg
theorem Qf4 (n:Int) (k B:Nat) (hn:i64 n) (hk:k≤100) (hB:B≤600) (hb:n.natAbs<2^B):Qaf Tryz.prog 104 [.int .i64 n,.int .i64 (k:Int)] (rI (n^k)):=by
 have h1:=Qe8 1 (by decide) (by decide)
 have h2:=Qe8 n hn.1 hn.2
 refine Qac (tb:=[]) 18 [.cell 4 44] [0,1,4,5,6,10] mixed Tryz.func104 rfl (by kernel_rfl) (by kernel_rfl) (by kernel_rfl) (by kernel_rfl) ?_
 repeat (first|(simp -implicitDefEqProofs only [go_sem,Nat.reduceAdd,Nat.reduceMul,Nat.reduceEqDiff,Nat.reduceLT,Nat.reduceLeDiff,reduceCtorEq,Int.reduceLT,rI,di])|((with_reducible refine Qab (h1) ?_ ?_ ?_);(with_reducible rfl);rfl)|(with_reducible exact Qaa _ _ (by kernel_rfl))|(with_reducible refine And.intro (Qaa _ _ (by kernel_rfl)) ?_))
 refine Qas mixed (fun i:{i:Nat // i≤k}=>St.of [(0,.int .i64 n),(1,.int .i64 (k:Int)),(4,.bp 0 2 0 0),(5,.bp 101 2 0 0),(6,.int .i64 (i.1:Int))]
  [(0,{els:=[.agg [.bool false,.nilS]],esz:=2,ety:=44,fro:=0,live:=true,arr:=false}),(101,{els:=[rI (n^i.1)],esz:=2,ety:=44,fro:=0,live:=true,arr:=false})]) (fun i=>k-i.1) ⟨0,Nat.zero_le _⟩ ?_ ?_
 ·refine Qak (θ:=[(0,0),(101,101)]) rfl ?_ ?_
  ·simp [Qad,lkp,ren1,ren0,Qam]
  ·refine⟨⟨rfl,rfl,rfl,rfl,rfl,.inr ⟨rfl,_,_,rfl,rfl,rfl,rfl⟩⟩,⟨rfl,rfl,rfl,rfl,rfl,.inr ⟨rfl,_,_,rfl,rfl,?_,rfl⟩⟩,trivial⟩
   simp only [Int.pow_zero];rfl
 ·rintro⟨i,hi⟩
  by_cases hA:i<k
  ·have hA':=ltT hA
   have hwk:=Qah (a:=i) (by omega)
   have hp:=Qnd hb i
   have hBk:B*i≤600*100:=Nat.mul_le_mul hB (by omega)
   have e:n^(i+1)=n^i*n:=Int.pow_succ n i
   have hm:=Qh4 (Qbx hp (by omega)) (Qbx hb (by omega))
   rw [←e]at hm
   generalize hX:n^(i+1)=Y at*
   generalize n^i=Z at*
   repeat (first|(simp -implicitDefEqProofs only [go_sem,Nat.reduceAdd,Nat.reduceMul,Nat.reduceEqDiff,Nat.reduceLT,Nat.reduceLeDiff,reduceCtorEq,rI,di,hA',hwk])|((with_reducible refine Qab (h2) ?_ ?_ ?_);(with_reducible rfl);rfl)|((with_reducible refine Qab (hm) ?_ ?_ ?_);(with_reducible rfl);rfl)|(with_reducible exact Qaa _ _ (by kernel_rfl))|(with_reducible refine And.intro (Qaa _ _ (by kernel_rfl)) ?_))
   refine⟨⟨i+1,hA⟩,by simp only;omega,Qak (θ:=[(0,0),(101,101)]) rfl ?_ ?_⟩
   ·simp [Qad,lkp,ren1,ren0,Qam]
   ·simp only [hX]
    exact⟨⟨rfl,rfl,rfl,rfl,rfl,.inr ⟨rfl,_,_,rfl,rfl,rfl,rfl⟩⟩,⟨rfl,rfl,rfl,rfl,rfl,.inr ⟨rfl,_,_,rfl,rfl,rfl,rfl⟩⟩,trivial⟩
  ·have hA':=ltF hA
   obtain rfl:i=k:=by omega
   generalize n^i=Z at*
   repeat (first|(simp -implicitDefEqProofs only [go_sem,Nat.reduceAdd,Nat.reduceMul,Nat.reduceEqDiff,Nat.reduceLT,Nat.reduceLeDiff,reduceCtorEq,rI,di,hA'])|(with_reducible exact Qaa _ _ (by kernel_rfl))|(with_reducible refine And.intro (Qaa _ _ (by kernel_rfl)) ?_))
theorem ml1:(1≤maxLen)=True:=eq_true (by unfold maxLen;omega)
theorem ml2:(2≤maxLen)=True:=eq_true (by unfold maxLen;omega)
theorem ml3:(3≤maxLen)=True:=eq_true (by unfold maxLen;omega)
theorem ml4:(4≤maxLen)=True:=eq_true (by unfold maxLen;omega)
attribute [go_sem] ml1 ml2 ml3 ml4
def Qec (ps:List Int) (o:Int):PV:= .agg [.slc (ps.map rI),.bool (decide (o<0)),di (digs E9 o.natAbs)]
def lowG (P:Nat→Int) (O:Int) (i:Nat):Nat:=gcdL O.natAbs ((List.range i).map P)
theorem Qsx (P:Nat→Int) (O:Int) (i:Nat):lowG P O (i+1)=Nat.gcd (lowG P O i) (P i).natAbs:=by
 unfold lowG;rw [List.range_succ,List.map_append];exact Qex _ _ _
theorem Zbx {P:Nat→Int} {O:Int} (h:0<O) (i:Nat):0<lowG P O i:=by
 induction i with
 |zero=>show 0<O.natAbs;omega
 |succ i ih=>rw [Qsx];exact Nat.gcd_pos_of_pos_left _ ih
theorem Zky {P:Nat→Int} {O:Int} {B:Nat} (hO:O.natAbs<2^B) (hP: ∀i,i<3→(P i).natAbs<2^B) (i:Nat) (hi:i≤3):((lowG P O i:Nat):Int).natAbs<2^B:=by
 rw [Int.natAbs_natCast]
 refine Qfd _ hO fun x hx=> ?_
 simp only [List.mem_map,List.mem_range]at hx
 obtain⟨m,hm,rfl⟩:=hx
 exact hP m (by omega)
def Qln (P:Nat→Int):List Int:=[P 0,P 1,P 2]
theorem Qsy (P:Nat→Int) (i:Nat) (h:i<3):((Qln P).map rI)[i]? =some (.agg [.bool (decide (P i<0)),di (digs E9 (P i).natAbs)]):=by
 rcases(show i=0∨i=1∨i=2 by omega)with rfl|rfl|rfl<;>rfl
def upB (ety:Nat) (P:Nat→Int):Nat→List (Nat×Box)
 |0=>[]
 |i+1=>[(8,{els:=((List.range (i+1)).map P).map rI,esz:=2,ety:=ety,fro:=0,live:=true,arr:=true})]
def upV:Nat→PV
 |0=> .nilS
 |i+1=> .bs 8 2 0 (i+1)
set_option maxHeartbeats 1000000 in
theorem Q4g (P:Nat→Int) (O:Int) (B:Nat) (hB:B≤6000) (hO:0<O) (bO:O.natAbs<2^B) (bP: ∀i,i<3→(P i).natAbs<2^B):
  Qaf Tryz.prog 105 [Qec (Qln P) O] (Qec (Qln fun i=>P i/(lowG P O 3:Int)) (O/(lowG P O 3:Int))):=by
 have bG:=Zky bO bP
 have hp:Qec (Qln P) O= .agg [.slc ((Qln P).map rI),.bool (decide (O<0)),.slc ((digs E9 O.natAbs).map fun d:Nat=>PV.int .i64 (d:Int))]:=rfl
 rw [hp]
 refine Qac (tb:=[]) 51 [.cell 2 46] [0,1,2,3,4,5,6,7,12,23] mixed Tryz.func105 rfl (by kernel_rfl) (by kernel_rfl) (by kernel_rfl) (by kernel_rfl) ?_
 repeat (first|(simp -implicitDefEqProofs only [go_sem,Nat.reduceAdd,Nat.reduceMul,Nat.reduceEqDiff,Nat.reduceLT,Nat.reduceLeDiff,reduceCtorEq,rI,di])|(with_reducible exact Qaa _ _ (by kernel_rfl))|(with_reducible refine And.intro (Qaa _ _ (by kernel_rfl)) ?_))
 refine Qas mixed (fun i:{i:Nat // i≤3}=>St.of [(1,.bp 0 3 0 0),(2,.bp 1 3 0 0),(3,.bp 102 2 0 0),(4,.int .i64 (i.1:Int))]
  [(0,{els:=[Qec (Qln P) O],esz:=3,ety:=46,fro:=0,live:=true,arr:=false}),(1,{els:=[.agg [.nilS,.bool false,.nilS]],esz:=3,ety:=46,fro:=0,live:=true,arr:=false}),(102,{els:=[rI ((lowG P O i.1:Nat):Int)],esz:=2,ety:=44,fro:=0,live:=true,arr:=false})]) (fun i=>3-i.1) ⟨0,Nat.zero_le _⟩ ?_ ?_
 ·refine Qak (θ:=[(0,0),(1,1),(102,102)]) rfl ?_ ?_
  ·simp [Qad,lkp,ren1,ren0,Qam]
  ·refine⟨⟨rfl,rfl,rfl,rfl,rfl,.inr ⟨rfl,_,_,rfl,rfl,rfl,rfl⟩⟩,⟨rfl,rfl,rfl,rfl,rfl,.inr ⟨rfl,_,_,rfl,rfl,rfl,rfl⟩⟩,⟨rfl,rfl,rfl,rfl,rfl,.inr ⟨rfl,_,_,rfl,rfl,?_,rfl⟩⟩,trivial⟩
   have:((lowG P O 0:Nat):Int)=O:=by show((O.natAbs:Nat):Int)=O;omega
   simp only [this];rfl
 ·rintro⟨i,hi⟩
  have hi3:=bG i hi
  by_cases hA:i<3
  ·have hA':((i:Int)<3)=True:=eq_true (by omega)
   have n0:=nnT i
   have hgx:=Qsy P i hA
   have hwk:=Qah (a:=i) (by omega)
   have gg:=Q4n (Qbx hi3 (by omega)) (Qbx (bP i hA) (by omega))
   rw [Int.natAbs_natCast,←Qsx]at gg
   generalize hX:lowG P O (i+1)=X at*
   generalize lowG P O i=Y at*
   generalize hZ:P i=Z at*
   repeat (first|(simp -implicitDefEqProofs only [go_sem,Nat.reduceAdd,Nat.reduceMul,Nat.reduceEqDiff,Nat.reduceLT,Nat.reduceLeDiff,reduceCtorEq,Qec,rI,di,hA',n0,hgx,hwk,Int.toNat_natCast,List.length_map])|((with_reducible refine Qab (gg) ?_ ?_ ?_);(with_reducible rfl);rfl)|(with_reducible exact Qaa _ _ (by kernel_rfl))|(with_reducible refine And.intro (Qaa _ _ (by kernel_rfl)) ?_))
   refine⟨⟨i+1,hA⟩,by simp only;omega,Qak (θ:=[(0,0),(1,1),(102,102)]) rfl ?_ ?_⟩
   ·simp [Qad,lkp,ren1,ren0,Qam]
   ·simp only [hX]
    exact⟨⟨rfl,rfl,rfl,rfl,rfl,.inr ⟨rfl,_,_,rfl,rfl,rfl,rfl⟩⟩,⟨rfl,rfl,rfl,rfl,rfl,.inr ⟨rfl,_,_,rfl,rfl,rfl,rfl⟩⟩,⟨rfl,rfl,rfl,rfl,rfl,.inr ⟨rfl,_,_,rfl,rfl,rfl,rfl⟩⟩,trivial⟩
  ·have hA':((i:Int)<3)=False:=eq_false (by omega)
   obtain rfl:i=3:=by omega
   have hG0:=Zbx (P:=P) hO 3
   have hqO:=Ziw (Qbx bO (by omega)) (Qbx hi3 (by omega)) (by omega)
   have hqP:=fun i (h:i<3)=>Ziw (Qbx (bP i h) (by omega)) (Qbx hi3 (by omega)) (by omega)
   simp only
   generalize ((lowG P O 3:Nat):Int)=G at*
   repeat (first|(simp -implicitDefEqProofs only [go_sem,Nat.reduceAdd,Nat.reduceMul,Nat.reduceEqDiff,Nat.reduceLT,Nat.reduceLeDiff,Nat.reduceSub,reduceCtorEq,Int.reduceLT,Qec,rI,di,hA'])|(with_reducible exact Qaa _ _ (by kernel_rfl))|(with_reducible refine And.intro (Qaa _ _ (by kernel_rfl)) ?_))
   refine Qas mixed (fun i:{i:Nat // i≤3}=>St.of [(1,.bp 0 3 0 0),(2,.bp 1 3 0 0),(3,.bp 102 2 0 0),(5,.bp 600 3 0 0),(6,.int .i64 (i.1:Int))]
    ((0,{els:=[Qec (Qln P) O],esz:=3,ety:=46,fro:=0,live:=true,arr:=false})::(1,{els:=[.agg [.nilS,.bool false,.nilS]],esz:=3,ety:=46,fro:=0,live:=true,arr:=false})::(102,{els:=[rI G],esz:=2,ety:=44,fro:=0,live:=true,arr:=false})::(600,{els:=[.agg [upV i.1,.bool false,.nilS]],esz:=3,ety:=46,fro:=0,live:=true,arr:=false})::upB 44 (fun i=>P i/G) i.1)) (fun i=>3-i.1) ⟨0,Nat.zero_le _⟩ ?_ ?_
   ·refine Qak (θ:=[(0,0),(1,1),(102,102),(600,600)]) rfl ?_ ?_
    ·simp [Qad,lkp,ren1,ren0,Qam]
    ·exact⟨⟨rfl,rfl,rfl,rfl,rfl,.inr ⟨rfl,_,_,rfl,rfl,rfl,rfl⟩⟩,⟨rfl,rfl,rfl,rfl,rfl,.inr ⟨rfl,_,_,rfl,rfl,rfl,rfl⟩⟩,⟨rfl,rfl,rfl,rfl,rfl,.inr ⟨rfl,_,_,rfl,rfl,rfl,rfl⟩⟩,⟨rfl,rfl,rfl,rfl,rfl,.inr ⟨rfl,_,_,rfl,rfl,rfl,rfl⟩⟩,trivial⟩
   ·rintro⟨i,hi⟩
    by_cases hA:i<3
    ·have hA':((i:Int)<3)=True:=eq_true (by omega)
     have n0:=nnT i
     have hgx:=Qsy P i hA
     have hwk:=Qah (a:=i) (by omega)
     have qq:=hqP i hA
     rcases(show i=0∨i=1∨i=2 by omega)with hi0|hi0|hi0
     ·skip
      obtain rfl:i=0:=hi0
      generalize P 0%G=R at*
      repeat (first|(simp -implicitDefEqProofs only [go_sem,Nat.reduceAdd,Nat.reduceMul,Nat.reduceEqDiff,Nat.reduceLT,Nat.reduceLeDiff,Nat.reduceSub,reduceCtorEq,Int.reduceLT,Int.reduceAdd,Qec,rI,di,hA',n0,hgx,hwk,upV,upB,Int.toNat_natCast,List.length_map])|((with_reducible refine Qab (qq) ?_ ?_ ?_);(with_reducible rfl);rfl)|(with_reducible exact Qaa _ _ (by kernel_rfl))|(with_reducible refine And.intro (Qaa _ _ (by kernel_rfl)) ?_))
      refine⟨⟨0+1,hA⟩,by simp only;omega,Qak (θ:=[(0,0),(1,1),(102,102),(600,600),(8,1104)]) rfl ?_ ?_⟩
      ·simp [Qad,lkp,ren1,ren0,Qam]
      ·exact⟨⟨rfl,rfl,rfl,rfl,rfl,.inr ⟨rfl,_,_,rfl,rfl,rfl,rfl⟩⟩,⟨rfl,rfl,rfl,rfl,rfl,.inr ⟨rfl,_,_,rfl,rfl,rfl,rfl⟩⟩,⟨rfl,rfl,rfl,rfl,rfl,.inr ⟨rfl,_,_,rfl,rfl,rfl,rfl⟩⟩,⟨rfl,rfl,rfl,rfl,rfl,.inr ⟨rfl,_,_,rfl,rfl,rfl,rfl⟩⟩,⟨rfl,rfl,rfl,rfl,rfl,.inl ⟨rfl,rfl⟩⟩,trivial⟩
     ·skip
      obtain rfl:i=1:=hi0
      generalize P 1%G=R at*
      repeat (first|(simp -implicitDefEqProofs only [go_sem,Nat.reduceAdd,Nat.reduceMul,Nat.reduceEqDiff,Nat.reduceLT,Nat.reduceLeDiff,Nat.reduceSub,reduceCtorEq,Nat.reduceBneDiff,Int.reduceLE,Int.reduceLT,Int.reduceToNat,Int.reduceAdd,Qec,rI,di,hA',n0,hgx,hwk,upV,upB,Int.toNat_natCast,List.length_map])|((with_reducible refine Qab (qq) ?_ ?_ ?_);(with_reducible rfl);rfl)|(with_reducible exact Qaa _ _ (by kernel_rfl))|(with_reducible refine And.intro (Qaa _ _ (by kernel_rfl)) ?_))
      refine⟨⟨1+1,hA⟩,by simp only;omega,Qak (θ:=[(0,0),(1,1),(102,102),(600,600),(8,1104)]) rfl ?_ ?_⟩
      ·simp [Qad,lkp,ren1,ren0,Qam]
      ·exact⟨⟨rfl,rfl,rfl,rfl,rfl,.inr ⟨rfl,_,_,rfl,rfl,rfl,rfl⟩⟩,⟨rfl,rfl,rfl,rfl,rfl,.inr ⟨rfl,_,_,rfl,rfl,rfl,rfl⟩⟩,⟨rfl,rfl,rfl,rfl,rfl,.inr ⟨rfl,_,_,rfl,rfl,rfl,rfl⟩⟩,⟨rfl,rfl,rfl,rfl,rfl,.inr ⟨rfl,_,_,rfl,rfl,rfl,rfl⟩⟩,⟨rfl,rfl,rfl,rfl,rfl,.inl ⟨rfl,rfl⟩⟩,trivial⟩
     ·skip
      obtain rfl:i=2:=hi0
      generalize P 2%G=R at*
      repeat (first|(simp -implicitDefEqProofs only [go_sem,Nat.reduceAdd,Nat.reduceMul,Nat.reduceEqDiff,Nat.reduceLT,Nat.reduceLeDiff,Nat.reduceSub,reduceCtorEq,Nat.reduceBneDiff,Int.reduceLE,Int.reduceLT,Int.reduceToNat,Int.reduceAdd,Qec,rI,di,hA',n0,hgx,hwk,upV,upB,Int.toNat_natCast,List.length_map])|((with_reducible refine Qab (qq) ?_ ?_ ?_);(with_reducible rfl);rfl)|(with_reducible exact Qaa _ _ (by kernel_rfl))|(with_reducible refine And.intro (Qaa _ _ (by kernel_rfl)) ?_))
      refine⟨⟨2+1,hA⟩,by simp only;omega,Qak (θ:=[(0,0),(1,1),(102,102),(600,600),(8,1104)]) rfl ?_ ?_⟩
      ·simp [Qad,lkp,ren1,ren0,Qam]
      ·exact⟨⟨rfl,rfl,rfl,rfl,rfl,.inr ⟨rfl,_,_,rfl,rfl,rfl,rfl⟩⟩,⟨rfl,rfl,rfl,rfl,rfl,.inr ⟨rfl,_,_,rfl,rfl,rfl,rfl⟩⟩,⟨rfl,rfl,rfl,rfl,rfl,.inr ⟨rfl,_,_,rfl,rfl,rfl,rfl⟩⟩,⟨rfl,rfl,rfl,rfl,rfl,.inr ⟨rfl,_,_,rfl,rfl,rfl,rfl⟩⟩,⟨rfl,rfl,rfl,rfl,rfl,.inl ⟨rfl,rfl⟩⟩,trivial⟩
    ·have hA':((i:Int)<3)=False:=eq_false (by omega)
     obtain rfl:i=3:=by omega
     simp only [upV,upB]
     repeat (first|(simp -implicitDefEqProofs only [go_sem,Nat.reduceAdd,Nat.reduceMul,Nat.reduceEqDiff,Nat.reduceLT,Nat.reduceLeDiff,Nat.reduceSub,reduceCtorEq,Int.reduceLT,Qec,rI,di,hA'])|((with_reducible refine Qab (hqO) ?_ ?_ ?_);(with_reducible rfl);rfl)|(with_reducible exact Qaa _ _ (by kernel_rfl))|(with_reducible refine And.intro (Qaa _ _ (by kernel_rfl)) ?_))
     rfl
set_option maxHeartbeats 1000000 in
theorem Qq8 (s:Sg) (a d:Int) (hs:okSg s) (h6: ∀c∈s.ax,c.length≤6) (ho:1≤s.o) (ha:i64 a) (hd:i64 d) (hd1:1≤d):
  Qaf Tryz.prog 65 [sgPV s,.int .i64 a,.int .i64 d] (Qec (Qln fun i=>plP s a d i/(plG s a d 3:Int)) (s.o*d^5/(plG s a d 3:Int))):=by
 obtain⟨⟨a1,a2⟩,⟨a3,a4⟩,⟨a5,a6⟩,hc,hl⟩:=hs
 have ba:=Qay ha
 have bd':=Qay hd
 have bo:=Qay ⟨a5,a6⟩
 have w1:=Qe8 s.o a5 a6
 have p5:=Qf4 d 5 64 hd (by decide) (by decide) bd'
 have bd5:=Qnd bd' 5
 have bod:=Za5 (s:=s) bo bd'
 have m1:=Qh4 (Qbx bo (by decide)) (Qbx bd5 (by decide))
 have hax:=Q4a s
 have hcB: ∀c∈s.ax,bd 64 c:=fun c hx x hx2=>Qay (hc c hx x hx2)
 have bP:=Qxi hcB h6 ba bd'
 have hO0:0<s.o*d^5:=Int.mul_pos (by omega) (Int.pow_pos (by omega))
 have hlow:=Q4g (plP s a d) (s.o*d^5) (64+(64*5+1+(64*5+1))+7) (by decide) hO0 (Qev bod (by decide)) bP
 have hlg:lowG (plP s a d) (s.o*d^5) 3=plG s a d 3:=rfl
 rw [hlg]at hlow
 clear hlg
 have hrp:Qec (Qln (plP s a d)) (s.o*d^5)= .agg [.slc [rI (plP s a d 0),rI (plP s a d 1),rI (plP s a d 2)],.bool (decide (s.o*d^5<0)),.slc ((digs E9 (s.o*d^5).natAbs).map fun d:Nat=>PV.int .i64 (d:Int))]:=rfl
 rw [hrp]at hlow
 clear hrp
 generalize s.o*d^5=O at*
 have hsg:sgPV s= .agg [.int .i64 s.f,.int .i64 s.t,.int .i64 s.o,.slc (s.x.map (PV.int .i64)),.slc (s.y.map (PV.int .i64)),.slc (s.z.map (PV.int .i64))]:=rfl
 rw [hsg]at hax ⊢
 generalize (Qln fun i=>plP s a d i/(plG s a d 3:Int))=RL at*
 generalize (O/(plG s a d 3:Int))=RO at*
 refine Qac (tb:=[]) 62 [.cell 6 46] [0,1,2,3,6,7,8,9,10,11,15,25] mixed Tryz.func65 rfl (by kernel_rfl) (by kernel_rfl) (by kernel_rfl) (by kernel_rfl) ?_
 repeat (first|(simp -implicitDefEqProofs only [go_sem,Nat.reduceAdd,Nat.reduceMul,Nat.reduceEqDiff,Nat.reduceLT,Nat.reduceLeDiff,reduceCtorEq,rI,di])|((with_reducible refine Qab (hax) ?_ ?_ ?_);(with_reducible rfl);rfl)|(with_reducible exact Qaa _ _ (by kernel_rfl))|(with_reducible refine And.intro (Qaa _ _ (by kernel_rfl)) ?_))
 refine Qas mixed (fun i:{i:Nat // i≤3}=>St.of [(1,.int .i64 a),(2,.int .i64 d),(3,.bp 0 6 0 0),(6,.bp 1 3 0 0),(7,.bp 100 3 0 0),(8,.slc [Qaq s.x,Qaq s.y,Qaq s.z]),(9,.int .i64 (i.1:Int))]
  ((0,{els:=[sgPV s],esz:=6,ety:=24,fro:=0,live:=true,arr:=false})::(1,{els:=[.agg [.nilS,.bool false,.nilS]],esz:=3,ety:=46,fro:=0,live:=true,arr:=false})::(100,{els:=[.agg [upV i.1,.bool false,.nilS]],esz:=3,ety:=46,fro:=0,live:=true,arr:=false})::upB 44 (plP s a d) i.1)) (fun i=>3-i.1) ⟨0,Nat.zero_le _⟩ ?_ ?_
 ·refine Qak (θ:=[(0,0),(1,1),(100,100)]) rfl ?_ ?_
  ·simp [Qad,lkp,ren1,ren0,Qam,Qaq]
  ·exact⟨⟨rfl,rfl,rfl,rfl,rfl,.inr ⟨rfl,_,_,rfl,rfl,rfl,rfl⟩⟩,⟨rfl,rfl,rfl,rfl,rfl,.inr ⟨rfl,_,_,rfl,rfl,rfl,rfl⟩⟩,⟨rfl,rfl,rfl,rfl,rfl,.inr ⟨rfl,_,_,rfl,rfl,rfl,rfl⟩⟩,trivial⟩
 ·rintro⟨i,hi⟩
  by_cases hA:i<3
  ·have hA':((i:Int)<3)=True:=eq_true (by omega)
   have h0x:=nnT i
   have hx:=Q4b s i hA
   rcases(show i=0∨i=1∨i=2 by omega)with hi0|hi0|hi0
   ·skip
    obtain rfl:i=0:=hi0
    have hP:plP s a d 0=sm (plcT (s.ax[0]'hA) a d) (s.ax[0]'hA).length:=rfl
    have hcx:=hc (s.ax[0]) (List.getElem_mem hA)
    have hlx:=h6 (s.ax[0]) (List.getElem_mem hA)
    generalize s.ax[0]'hA=c at*
    repeat (first|(simp -implicitDefEqProofs only [go_sem,Nat.reduceAdd,Nat.reduceMul,Nat.reduceEqDiff,Nat.reduceLT,Nat.reduceLeDiff,Nat.reduceSub,reduceCtorEq,Int.reduceLT,hA',upV,upB])|(with_reducible exact Qaa _ _ (by kernel_rfl))|(with_reducible refine And.intro (Qaa _ _ (by kernel_rfl)) ?_))
    refine Qas mixed (fun k:{k:Nat // k≤c.length}=>St.of [(1,.int .i64 a),(2,.int .i64 d),(3,.bp 0 6 0 0),(6,.bp 1 3 0 0),(7,.bp 100 3 0 0),(8,.slc [Qaq s.x,Qaq s.y,Qaq s.z]),(9,.int .i64 0),(10,.bp 601 2 0 0),(11,.int .i64 (k.1:Int))]
     ((0,{els:=[sgPV s],esz:=6,ety:=24,fro:=0,live:=true,arr:=false})::(1,{els:=[.agg [.nilS,.bool false,.nilS]],esz:=3,ety:=46,fro:=0,live:=true,arr:=false})::(601,{els:=[rI (sm (plcT c a d) k.1)],esz:=2,ety:=44,fro:=0,live:=true,arr:=false})::(100,{els:=[.agg [upV 0,.bool false,.nilS]],esz:=3,ety:=46,fro:=0,live:=true,arr:=false})::upB 44 (plP s a d) 0)) (fun k=>c.length-k.1) ⟨0,Nat.zero_le _⟩ ?_ ?_
    ·refine Le.trans (Qwx 601 rfl) (Qak (θ:=[(0,0),(1,1),(601,601),(100,100)]) rfl ?_ ?_)
     ·simp [Qad,lkp,ren1,ren0,Qam,Qaq]
     ·simp only [upB,upV]
      refine⟨⟨rfl,rfl,rfl,rfl,rfl,.inr ⟨rfl,_,_,rfl,rfl,rfl,rfl⟩⟩,⟨rfl,rfl,rfl,rfl,rfl,.inr ⟨rfl,_,_,rfl,rfl,rfl,rfl⟩⟩,⟨rfl,rfl,rfl,rfl,rfl,.inr ⟨rfl,_,_,rfl,rfl,?_,rfl⟩⟩,⟨rfl,rfl,rfl,rfl,rfl,.inr ⟨rfl,_,_,rfl,rfl,rfl,rfl⟩⟩,?_⟩
      ·simp only [sm,rI_z];rfl
      ·exact trivial
    ·rintro⟨k,hk⟩
     by_cases hB:k<c.length
     ·have hB':=ltT hB
      have n0:=nnT k
      have hgk:=Qb8 c k hB
      have hwk2:=Qah (a:=k) (by omega)
      have w5:IntKind.i64.wrap (5-(k:Int))=((5-k:Nat):Int):=by rw [Qai (by omega) (by omega)];omega
      obtain⟨k1,k2⟩:=hcx _ (List.getElem_mem hB)
      have hcb:bd 64 c:=fun x hx=>Qay (hcx x hx)
      have x1:=hcb _ (List.getElem_mem hB)
      have o1:=Qe8 c[k] k1 k2
      have q1:=Qf4 a k 64 ha (by omega) (by decide) ba
      have q2:=Qf4 d (5-k) 64 hd (by omega) (by decide) bd'
      obtain⟨t1,t2,t3,t4⟩:=Qih hcb ba bd' k (by omega)
      have mm1:=Qh4 (Qbx t1 (by decide)) (Qbx t2 (by decide))
      have eT:plcT c a d k=c[k]*(a^k*d^(5-k)):=by unfold plcT;rw [Qcb hB]
      have mm2:=Qh4 (Qbx x1 (by decide)) (Qbx t3 (by decide))
      rw [←eT]at mm2
      have y1:=Qdx hcb ba bd' k (by omega)
      have es:sm (plcT c a d) (k+1)=sm (plcT c a d) k+plcT c a d k:=rfl
      have a1:=Qx4 (Qbx y1 (by decide)) (Qbx t4 (by decide))
      rw [←es]at a1
      clear y1 t1 t2 t3 t4 es eT hP
      generalize hX:sm (plcT c a d) (k+1)=X at*
      generalize sm (plcT c a d) k=Y at*
      generalize plcT c a d k=T at*
      generalize a^k*d^(5-k)=U at*
      generalize a^k=U1 at*
      generalize d^(5-k)=U2 at*
      repeat (first|(simp -implicitDefEqProofs only [go_sem,Nat.reduceAdd,Nat.reduceMul,Nat.reduceEqDiff,Nat.reduceLT,Nat.reduceLeDiff,reduceCtorEq,rI,di,h0x,hx,hB',n0,hgk,hwk2,w5,upV,upB,Int.toNat_natCast,List.length_map])|((with_reducible refine Qab (o1) ?_ ?_ ?_);(with_reducible rfl);rfl)|((with_reducible refine Qab (q1) ?_ ?_ ?_);(with_reducible rfl);rfl)|((with_reducible refine Qab (q2) ?_ ?_ ?_);(with_reducible rfl);rfl)|((with_reducible refine Qab (mm1) ?_ ?_ ?_);(with_reducible rfl);rfl)|((with_reducible refine Qab (mm2) ?_ ?_ ?_);(with_reducible rfl);rfl)|((with_reducible refine Qab (a1) ?_ ?_ ?_);(with_reducible rfl);rfl)|(with_reducible exact Qaa _ _ (by kernel_rfl))|(with_reducible refine And.intro (Qaa _ _ (by kernel_rfl)) ?_))
      refine⟨⟨k+1,hB⟩,by simp only;omega,Qak (θ:=[(0,0),(1,1),(601,601),(100,100)]) rfl ?_ ?_⟩
      ·simp [Qad,lkp,ren1,ren0,Qam,Qaq]
      ·simp only [hX]
       try simp only [upB,upV]
       refine⟨⟨rfl,rfl,rfl,rfl,rfl,.inr ⟨rfl,_,_,rfl,rfl,rfl,rfl⟩⟩,⟨rfl,rfl,rfl,rfl,rfl,.inr ⟨rfl,_,_,rfl,rfl,rfl,rfl⟩⟩,⟨rfl,rfl,rfl,rfl,rfl,.inr ⟨rfl,_,_,rfl,rfl,rfl,rfl⟩⟩,⟨rfl,rfl,rfl,rfl,rfl,.inr ⟨rfl,_,_,rfl,rfl,rfl,rfl⟩⟩,?_⟩
       exact trivial
     ·have hB':=ltF hB
      obtain rfl:k=c.length:=by omega
      rw [←hP]
      generalize hX:plP s a d 0=X at*
      repeat (first|(simp -implicitDefEqProofs only [go_sem,Nat.reduceAdd,Nat.reduceMul,Nat.reduceEqDiff,Nat.reduceLT,Nat.reduceLeDiff,reduceCtorEq,Int.reduceAdd,rI,di,h0x,hx,hB',upV,upB,List.length_map])|(with_reducible exact Qaa _ _ (by kernel_rfl))|(with_reducible refine And.intro (Qaa _ _ (by kernel_rfl)) ?_))
      refine⟨⟨0+1,hA⟩,by simp only;omega,Qak (θ:=[(0,0),(1,1),(100,100),(8,1104)]) rfl ?_ ?_⟩
      ·simp [Qad,lkp,ren1,ren0,Qam,Qaq]
      ·subst hX
       exact⟨⟨rfl,rfl,rfl,rfl,rfl,.inr ⟨rfl,_,_,rfl,rfl,rfl,rfl⟩⟩,⟨rfl,rfl,rfl,rfl,rfl,.inr ⟨rfl,_,_,rfl,rfl,rfl,rfl⟩⟩,⟨rfl,rfl,rfl,rfl,rfl,.inr ⟨rfl,_,_,rfl,rfl,rfl,rfl⟩⟩,⟨rfl,rfl,rfl,rfl,rfl,.inl ⟨rfl,rfl⟩⟩,trivial⟩
   ·skip
    obtain rfl:i=1:=hi0
    have hP:plP s a d 1=sm (plcT (s.ax[1]'hA) a d) (s.ax[1]'hA).length:=rfl
    have hcx:=hc (s.ax[1]) (List.getElem_mem hA)
    have hlx:=h6 (s.ax[1]) (List.getElem_mem hA)
    generalize s.ax[1]'hA=c at*
    repeat (first|(simp -implicitDefEqProofs only [go_sem,Nat.reduceAdd,Nat.reduceMul,Nat.reduceEqDiff,Nat.reduceLT,Nat.reduceLeDiff,Nat.reduceSub,reduceCtorEq,Int.reduceLT,hA',upV,upB])|(with_reducible exact Qaa _ _ (by kernel_rfl))|(with_reducible refine And.intro (Qaa _ _ (by kernel_rfl)) ?_))
    refine Qas mixed (fun k:{k:Nat // k≤c.length}=>St.of [(1,.int .i64 a),(2,.int .i64 d),(3,.bp 0 6 0 0),(6,.bp 1 3 0 0),(7,.bp 100 3 0 0),(8,.slc [Qaq s.x,Qaq s.y,Qaq s.z]),(9,.int .i64 1),(10,.bp 601 2 0 0),(11,.int .i64 (k.1:Int))]
     ((0,{els:=[sgPV s],esz:=6,ety:=24,fro:=0,live:=true,arr:=false})::(1,{els:=[.agg [.nilS,.bool false,.nilS]],esz:=3,ety:=46,fro:=0,live:=true,arr:=false})::(601,{els:=[rI (sm (plcT c a d) k.1)],esz:=2,ety:=44,fro:=0,live:=true,arr:=false})::(100,{els:=[.agg [upV 1,.bool false,.nilS]],esz:=3,ety:=46,fro:=0,live:=true,arr:=false})::upB 44 (plP s a d) 1)) (fun k=>c.length-k.1) ⟨0,Nat.zero_le _⟩ ?_ ?_
    ·refine Le.trans (Qwx 601 rfl) (Qak (θ:=[(0,0),(1,1),(601,601),(100,100),(8,8)]) rfl ?_ ?_)
     ·simp [Qad,lkp,ren1,ren0,Qam,Qaq]
     ·simp only [upB,upV]
      refine⟨⟨rfl,rfl,rfl,rfl,rfl,.inr ⟨rfl,_,_,rfl,rfl,rfl,rfl⟩⟩,⟨rfl,rfl,rfl,rfl,rfl,.inr ⟨rfl,_,_,rfl,rfl,rfl,rfl⟩⟩,⟨rfl,rfl,rfl,rfl,rfl,.inr ⟨rfl,_,_,rfl,rfl,?_,rfl⟩⟩,⟨rfl,rfl,rfl,rfl,rfl,.inr ⟨rfl,_,_,rfl,rfl,rfl,rfl⟩⟩,?_⟩
      ·simp only [sm,rI_z];rfl
      ·exact⟨⟨rfl,rfl,rfl,rfl,rfl,.inl ⟨rfl,rfl⟩⟩,trivial⟩
    ·rintro⟨k,hk⟩
     by_cases hB:k<c.length
     ·have hB':=ltT hB
      have n0:=nnT k
      have hgk:=Qb8 c k hB
      have hwk2:=Qah (a:=k) (by omega)
      have w5:IntKind.i64.wrap (5-(k:Int))=((5-k:Nat):Int):=by rw [Qai (by omega) (by omega)];omega
      obtain⟨k1,k2⟩:=hcx _ (List.getElem_mem hB)
      have hcb:bd 64 c:=fun x hx=>Qay (hcx x hx)
      have x1:=hcb _ (List.getElem_mem hB)
      have o1:=Qe8 c[k] k1 k2
      have q1:=Qf4 a k 64 ha (by omega) (by decide) ba
      have q2:=Qf4 d (5-k) 64 hd (by omega) (by decide) bd'
      obtain⟨t1,t2,t3,t4⟩:=Qih hcb ba bd' k (by omega)
      have mm1:=Qh4 (Qbx t1 (by decide)) (Qbx t2 (by decide))
      have eT:plcT c a d k=c[k]*(a^k*d^(5-k)):=by unfold plcT;rw [Qcb hB]
      have mm2:=Qh4 (Qbx x1 (by decide)) (Qbx t3 (by decide))
      rw [←eT]at mm2
      have y1:=Qdx hcb ba bd' k (by omega)
      have es:sm (plcT c a d) (k+1)=sm (plcT c a d) k+plcT c a d k:=rfl
      have a1:=Qx4 (Qbx y1 (by decide)) (Qbx t4 (by decide))
      rw [←es]at a1
      clear y1 t1 t2 t3 t4 es eT hP
      generalize hX:sm (plcT c a d) (k+1)=X at*
      generalize sm (plcT c a d) k=Y at*
      generalize plcT c a d k=T at*
      generalize a^k*d^(5-k)=U at*
      generalize a^k=U1 at*
      generalize d^(5-k)=U2 at*
      repeat (first|(simp -implicitDefEqProofs only [go_sem,Nat.reduceAdd,Nat.reduceMul,Nat.reduceEqDiff,Nat.reduceLT,Nat.reduceLeDiff,reduceCtorEq,Int.reduceLE,Int.reduceToNat,rI,di,h0x,hx,hB',n0,hgk,hwk2,w5,upV,upB,Int.toNat_natCast,List.length_map])|((with_reducible refine Qab (o1) ?_ ?_ ?_);(with_reducible rfl);rfl)|((with_reducible refine Qab (q1) ?_ ?_ ?_);(with_reducible rfl);rfl)|((with_reducible refine Qab (q2) ?_ ?_ ?_);(with_reducible rfl);rfl)|((with_reducible refine Qab (mm1) ?_ ?_ ?_);(with_reducible rfl);rfl)|((with_reducible refine Qab (mm2) ?_ ?_ ?_);(with_reducible rfl);rfl)|((with_reducible refine Qab (a1) ?_ ?_ ?_);(with_reducible rfl);rfl)|(with_reducible exact Qaa _ _ (by kernel_rfl))|(with_reducible refine And.intro (Qaa _ _ (by kernel_rfl)) ?_))
      refine⟨⟨k+1,hB⟩,by simp only;omega,Qak (θ:=[(0,0),(1,1),(601,601),(100,100),(8,8)]) rfl ?_ ?_⟩
      ·simp [Qad,lkp,ren1,ren0,Qam,Qaq]
      ·simp only [hX]
       try simp only [upB,upV]
       refine⟨⟨rfl,rfl,rfl,rfl,rfl,.inr ⟨rfl,_,_,rfl,rfl,rfl,rfl⟩⟩,⟨rfl,rfl,rfl,rfl,rfl,.inr ⟨rfl,_,_,rfl,rfl,rfl,rfl⟩⟩,⟨rfl,rfl,rfl,rfl,rfl,.inr ⟨rfl,_,_,rfl,rfl,rfl,rfl⟩⟩,⟨rfl,rfl,rfl,rfl,rfl,.inr ⟨rfl,_,_,rfl,rfl,rfl,rfl⟩⟩,?_⟩
       exact⟨⟨rfl,rfl,rfl,rfl,rfl,.inl ⟨rfl,rfl⟩⟩,trivial⟩
     ·have hB':=ltF hB
      obtain rfl:k=c.length:=by omega
      rw [←hP]
      generalize hX:plP s a d 1=X at*
      repeat (first|(simp -implicitDefEqProofs only [go_sem,Nat.reduceAdd,Nat.reduceMul,Nat.reduceEqDiff,Nat.reduceLT,Nat.reduceLeDiff,reduceCtorEq,Nat.reduceBneDiff,Int.reduceLE,Int.reduceToNat,Int.reduceAdd,rI,di,h0x,hx,hB',upV,upB,List.length_map])|(with_reducible exact Qaa _ _ (by kernel_rfl))|(with_reducible refine And.intro (Qaa _ _ (by kernel_rfl)) ?_))
      refine⟨⟨1+1,hA⟩,by simp only;omega,Qak (θ:=[(0,0),(1,1),(100,100),(8,1104)]) rfl ?_ ?_⟩
      ·simp [Qad,lkp,ren1,ren0,Qam,Qaq]
      ·subst hX
       exact⟨⟨rfl,rfl,rfl,rfl,rfl,.inr ⟨rfl,_,_,rfl,rfl,rfl,rfl⟩⟩,⟨rfl,rfl,rfl,rfl,rfl,.inr ⟨rfl,_,_,rfl,rfl,rfl,rfl⟩⟩,⟨rfl,rfl,rfl,rfl,rfl,.inr ⟨rfl,_,_,rfl,rfl,rfl,rfl⟩⟩,⟨rfl,rfl,rfl,rfl,rfl,.inl ⟨rfl,rfl⟩⟩,trivial⟩
   ·skip
    obtain rfl:i=2:=hi0
    have hP:plP s a d 2=sm (plcT (s.ax[2]'hA) a d) (s.ax[2]'hA).length:=rfl
    have hcx:=hc (s.ax[2]) (List.getElem_mem hA)
    have hlx:=h6 (s.ax[2]) (List.getElem_mem hA)
    generalize s.ax[2]'hA=c at*
    repeat (first|(simp -implicitDefEqProofs only [go_sem,Nat.reduceAdd,Nat.reduceMul,Nat.reduceEqDiff,Nat.reduceLT,Nat.reduceLeDiff,Nat.reduceSub,reduceCtorEq,Int.reduceLT,hA',upV,upB])|(with_reducible exact Qaa _ _ (by kernel_rfl))|(with_reducible refine And.intro (Qaa _ _ (by kernel_rfl)) ?_))
    refine Qas mixed (fun k:{k:Nat // k≤c.length}=>St.of [(1,.int .i64 a),(2,.int .i64 d),(3,.bp 0 6 0 0),(6,.bp 1 3 0 0),(7,.bp 100 3 0 0),(8,.slc [Qaq s.x,Qaq s.y,Qaq s.z]),(9,.int .i64 2),(10,.bp 601 2 0 0),(11,.int .i64 (k.1:Int))]
     ((0,{els:=[sgPV s],esz:=6,ety:=24,fro:=0,live:=true,arr:=false})::(1,{els:=[.agg [.nilS,.bool false,.nilS]],esz:=3,ety:=46,fro:=0,live:=true,arr:=false})::(601,{els:=[rI (sm (plcT c a d) k.1)],esz:=2,ety:=44,fro:=0,live:=true,arr:=false})::(100,{els:=[.agg [upV 2,.bool false,.nilS]],esz:=3,ety:=46,fro:=0,live:=true,arr:=false})::upB 44 (plP s a d) 2)) (fun k=>c.length-k.1) ⟨0,Nat.zero_le _⟩ ?_ ?_
    ·refine Le.trans (Qwx 601 rfl) (Qak (θ:=[(0,0),(1,1),(601,601),(100,100),(8,8)]) rfl ?_ ?_)
     ·simp [Qad,lkp,ren1,ren0,Qam,Qaq]
     ·simp only [upB,upV]
      refine⟨⟨rfl,rfl,rfl,rfl,rfl,.inr ⟨rfl,_,_,rfl,rfl,rfl,rfl⟩⟩,⟨rfl,rfl,rfl,rfl,rfl,.inr ⟨rfl,_,_,rfl,rfl,rfl,rfl⟩⟩,⟨rfl,rfl,rfl,rfl,rfl,.inr ⟨rfl,_,_,rfl,rfl,?_,rfl⟩⟩,⟨rfl,rfl,rfl,rfl,rfl,.inr ⟨rfl,_,_,rfl,rfl,rfl,rfl⟩⟩,?_⟩
      ·simp only [sm,rI_z];rfl
      ·exact⟨⟨rfl,rfl,rfl,rfl,rfl,.inl ⟨rfl,rfl⟩⟩,trivial⟩
    ·rintro⟨k,hk⟩
     by_cases hB:k<c.length
     ·have hB':=ltT hB
      have n0:=nnT k
      have hgk:=Qb8 c k hB
      have hwk2:=Qah (a:=k) (by omega)
      have w5:IntKind.i64.wrap (5-(k:Int))=((5-k:Nat):Int):=by rw [Qai (by omega) (by omega)];omega
      obtain⟨k1,k2⟩:=hcx _ (List.getElem_mem hB)
      have hcb:bd 64 c:=fun x hx=>Qay (hcx x hx)
      have x1:=hcb _ (List.getElem_mem hB)
      have o1:=Qe8 c[k] k1 k2
      have q1:=Qf4 a k 64 ha (by omega) (by decide) ba
      have q2:=Qf4 d (5-k) 64 hd (by omega) (by decide) bd'
      obtain⟨t1,t2,t3,t4⟩:=Qih hcb ba bd' k (by omega)
      have mm1:=Qh4 (Qbx t1 (by decide)) (Qbx t2 (by decide))
      have eT:plcT c a d k=c[k]*(a^k*d^(5-k)):=by unfold plcT;rw [Qcb hB]
      have mm2:=Qh4 (Qbx x1 (by decide)) (Qbx t3 (by decide))
      rw [←eT]at mm2
      have y1:=Qdx hcb ba bd' k (by omega)
      have es:sm (plcT c a d) (k+1)=sm (plcT c a d) k+plcT c a d k:=rfl
      have a1:=Qx4 (Qbx y1 (by decide)) (Qbx t4 (by decide))
      rw [←es]at a1
      clear y1 t1 t2 t3 t4 es eT hP
      generalize hX:sm (plcT c a d) (k+1)=X at*
      generalize sm (plcT c a d) k=Y at*
      generalize plcT c a d k=T at*
      generalize a^k*d^(5-k)=U at*
      generalize a^k=U1 at*
      generalize d^(5-k)=U2 at*
      repeat (first|(simp -implicitDefEqProofs only [go_sem,Nat.reduceAdd,Nat.reduceMul,Nat.reduceEqDiff,Nat.reduceLT,Nat.reduceLeDiff,reduceCtorEq,Int.reduceLE,Int.reduceToNat,rI,di,h0x,hx,hB',n0,hgk,hwk2,w5,upV,upB,Int.toNat_natCast,List.length_map])|((with_reducible refine Qab (o1) ?_ ?_ ?_);(with_reducible rfl);rfl)|((with_reducible refine Qab (q1) ?_ ?_ ?_);(with_reducible rfl);rfl)|((with_reducible refine Qab (q2) ?_ ?_ ?_);(with_reducible rfl);rfl)|((with_reducible refine Qab (mm1) ?_ ?_ ?_);(with_reducible rfl);rfl)|((with_reducible refine Qab (mm2) ?_ ?_ ?_);(with_reducible rfl);rfl)|((with_reducible refine Qab (a1) ?_ ?_ ?_);(with_reducible rfl);rfl)|(with_reducible exact Qaa _ _ (by kernel_rfl))|(with_reducible refine And.intro (Qaa _ _ (by kernel_rfl)) ?_))
      refine⟨⟨k+1,hB⟩,by simp only;omega,Qak (θ:=[(0,0),(1,1),(601,601),(100,100),(8,8)]) rfl ?_ ?_⟩
      ·simp [Qad,lkp,ren1,ren0,Qam,Qaq]
      ·simp only [hX]
       try simp only [upB,upV]
       refine⟨⟨rfl,rfl,rfl,rfl,rfl,.inr ⟨rfl,_,_,rfl,rfl,rfl,rfl⟩⟩,⟨rfl,rfl,rfl,rfl,rfl,.inr ⟨rfl,_,_,rfl,rfl,rfl,rfl⟩⟩,⟨rfl,rfl,rfl,rfl,rfl,.inr ⟨rfl,_,_,rfl,rfl,rfl,rfl⟩⟩,⟨rfl,rfl,rfl,rfl,rfl,.inr ⟨rfl,_,_,rfl,rfl,rfl,rfl⟩⟩,?_⟩
       exact⟨⟨rfl,rfl,rfl,rfl,rfl,.inl ⟨rfl,rfl⟩⟩,trivial⟩
     ·have hB':=ltF hB
      obtain rfl:k=c.length:=by omega
      rw [←hP]
      generalize hX:plP s a d 2=X at*
      repeat (first|(simp -implicitDefEqProofs only [go_sem,Nat.reduceAdd,Nat.reduceMul,Nat.reduceEqDiff,Nat.reduceLT,Nat.reduceLeDiff,reduceCtorEq,Nat.reduceBneDiff,Int.reduceLE,Int.reduceToNat,Int.reduceAdd,rI,di,h0x,hx,hB',upV,upB,List.length_map])|(with_reducible exact Qaa _ _ (by kernel_rfl))|(with_reducible refine And.intro (Qaa _ _ (by kernel_rfl)) ?_))
      refine⟨⟨2+1,hA⟩,by simp only;omega,Qak (θ:=[(0,0),(1,1),(100,100),(8,1104)]) rfl ?_ ?_⟩
      ·simp [Qad,lkp,ren1,ren0,Qam,Qaq]
      ·subst hX
       exact⟨⟨rfl,rfl,rfl,rfl,rfl,.inr ⟨rfl,_,_,rfl,rfl,rfl,rfl⟩⟩,⟨rfl,rfl,rfl,rfl,rfl,.inr ⟨rfl,_,_,rfl,rfl,rfl,rfl⟩⟩,⟨rfl,rfl,rfl,rfl,rfl,.inr ⟨rfl,_,_,rfl,rfl,rfl,rfl⟩⟩,⟨rfl,rfl,rfl,rfl,rfl,.inl ⟨rfl,rfl⟩⟩,trivial⟩
  ·have hA':((i:Int)<3)=False:=eq_false (by omega)
   obtain rfl:i=3:=by omega
   have e3:((List.range 3).map (plP s a d)).map rI=[rI (plP s a d 0),rI (plP s a d 1),rI (plP s a d 2)]:=rfl
   simp only [upV,upB,e3]
   generalize plP s a d 0=X0 at*
   generalize plP s a d 1=X1 at*
   generalize plP s a d 2=X2 at*
   repeat (first|(simp -implicitDefEqProofs only [go_sem,Nat.reduceAdd,Nat.reduceMul,Nat.reduceEqDiff,Nat.reduceLT,Nat.reduceLeDiff,Nat.reduceSub,reduceCtorEq,Int.reduceLT,Qec,rI,di,hA'])|((with_reducible refine Qab (w1) ?_ ?_ ?_);(with_reducible rfl);rfl)|((with_reducible refine Qab (p5) ?_ ?_ ?_);(with_reducible rfl);rfl)|((with_reducible refine Qab (m1) ?_ ?_ ?_);(with_reducible rfl);rfl)|((with_reducible refine Qab (hlow) ?_ ?_ ?_);(with_reducible rfl);rfl)|(with_reducible exact Qaa _ _ (by kernel_rfl))|(with_reducible refine And.intro (Qaa _ _ (by kernel_rfl)) ?_))
end Go.Proofs.YtlpiamlgibomhaaGreat

namespace Go.Dg
def plQ (s:Sg) (a d:Int) (i:Nat):Int:=plP s a d i/(plG s a d 3:Int)
def plO (s:Sg) (a d:Int):Int:=s.o*d^5/(plG s a d 3:Int)
def Qm1 (s:Sg) (a d:Int) (s':Sg) (a' d':Int):Bool:=decide (plQ s a d 0=plQ s' a' d' 0)&&(decide (plQ s a d 1=plQ s' a' d' 1)&&(decide (plQ s a d 2=plQ s' a' d' 2)&&decide (plO s a d=plO s' a' d')))
theorem Qut (s:Sg) (a d:Int) (s':Sg) (a' d':Int):Qm1 s a d s' a' d'=Qm1 s' a' d' s a d:=by
 unfold Qm1
 rw [Bool.eq_iff_iff]
 simp only [Bool.and_eq_true,decide_eq_true_eq]
 constructor<;>(rintro⟨h1,h2,h3,h4⟩;exact⟨h1.symm,h2.symm,h3.symm,h4.symm⟩)
def Qc1 (a b:Sg):Bool:=decide (a.t=b.f)&&Qm1 a 1 1 b 0 1
def sg0:Sg:=⟨0,0,0,[],[],[]⟩
def vpAt (p:List Sg) (j:Nat):Bool:=Qav (p.getD j sg0)&&(decide (j=0)||Qc1 (p.getD (j-1) sg0) (p.getD j sg0))
def vpTo (p:List Sg) (i:Nat):Bool:=(List.range i).all (vpAt p)
def Qa4 (p:List Sg):Bool:=vpTo p p.length&&(decide (1≤p.length)&&decide (p.length≤256))
theorem Qi0 (p:List Sg) (i:Nat):vpTo p (i+1)=(vpTo p i&&vpAt p i):=by simp [vpTo,List.range_succ]
theorem Zjw {p:List Sg} {j m:Nat} (h:vpAt p j=false) (hm:j<m):vpTo p m=false:=by
 unfold vpTo
 rw [List.all_eq_false]
 exact⟨j,List.mem_range.2 hm,by simp [h]⟩
theorem Qfl {p:List Sg} {j:Nat} (h:vpAt p j=false) (hm:j<p.length):Qa4 p=false:=by unfold Qa4;rw [Zjw h hm];rfl
theorem sgD {p:List Sg} {i:Nat} (h:i<p.length):p.getD i sg0=p[i]:=by rw [List.getD_eq_getElem?_getD,List.getElem?_eq_getElem h];rfl
theorem Qka {p:List Sg} {i j:Nat} (h:vpTo p i=true) (hj:j<i):Qav (p.getD j sg0)=true:=by
 have:=List.all_eq_true.1 h j (List.mem_range.2 hj)
 unfold vpAt at this
 simp only [Bool.and_eq_true]at this
 exact this.1
theorem Qao {s:Sg} (h:Qav s=true):(0≤s.f∧s.f<s.t∧s.t≤3600000∧1≤s.o∧s.o≤4294967296)∧(∀c∈s.ax,axOK c s.o=true)∧s.ax.foldl gcdL s.o.natAbs=1:=by
 unfold Qav rngS at h
 simp only [Bool.and_eq_true,decide_eq_true_eq,List.all_eq_true,beq_iff_eq]at h
 obtain⟨⟨h1,h2,h3,h4,h5⟩,h6,h7⟩:=h
 exact⟨⟨h1,h2,h3,h4,h5⟩,h6,h7⟩
theorem Qb5 {c:List Int} {o:Int} (h:axOK c o=true):1≤c.length∧c.length≤6∧(1<c.length→c.getD (c.length-1) 0≠0)∧Qc4 c o c.length=true:=by
 unfold axOK Qj9 at h
 simp only [Bool.and_eq_true,decide_eq_true_eq,Bool.or_eq_true,Bool.not_eq_true',beq_eq_false_iff_ne]at h
 obtain⟨⟨h1,h2,h3⟩,h4⟩:=h
 exact⟨h1,h2,fun h5=>h3.elim (fun h6=>by omega) id,h4⟩
theorem Qch {s:Sg} (h:Qav s=true): ∀c∈s.ax,c.length≤6:=fun c hc=>(Qb5 ((Qao h).2.1 c hc)).2.1
theorem Qdy {s:Sg} (h:Qav s=true):1≤s.o:=(Qao h).1.2.2.2.1
end Go.Dg

namespace Go.Proofs.YtlpiamlgibomhaaGreat
open Go.Vl Go.RowKit Go.Dg
theorem Zip (s:Sg) (a d:Int):plV s a d=Qae (plQ s a d 0) (plQ s a d 1) (plQ s a d 2) (plO s a d):=rfl
theorem Zby (s:Sg) (a d:Int):(Qln fun i=>plP s a d i/(plG s a d 3:Int))=[plQ s a d 0,plQ s a d 1,plQ s a d 2]:=rfl
theorem Q4h {x y:Int} {B:Nat} (hx:x.natAbs<2^B) (hy:0<y):(x/y).natAbs<2^(B+1):=by
 rw [Nat.pow_succ]
 have h2:0<2^B:=Nat.two_pow_pos B
 rcases Qxv hx hy with h|h<;>omega
theorem Zqr {m B:Nat} (h:m<2^B) (hk:B≤2000):m<2^2000:=Qev (C:=2000) h hk
theorem Q4i {s:Sg} {a d:Int} (hs:okSg s) (h6: ∀c∈s.ax,c.length≤6) (ho:1≤s.o) (ha:i64 a) (hd:i64 d) (hd1:1≤d):(∀i,i<3→(plQ s a d i).natAbs<2^2000)∧(plO s a d).natAbs<2^2000:=by
 have hcB: ∀c∈s.ax,bd 64 c:=fun c hx x hx2=>Qay (hs.c c hx x hx2)
 have bP:=Qxi hcB h6 (Qay ha) (Qay hd)
 have bo:=Za5 (s:=s) (Qay hs.o) (Qay hd)
 have hg:=Qus ho hd1 3 (s:=s) (a:=a)
 exact⟨fun i hi=>Zqr (Q4h (bP i hi) (by omega)) (by decide),Zqr (Q4h bo (by omega)) (by decide)⟩
theorem Q4j (x y z o:Int) (B:Nat) (hB:B≤6000000) (hx:x.natAbs<2^B) (hy:y.natAbs<2^B) (hz:z.natAbs<2^B) (ho:o.natAbs<2^B):
  Qaf Tryz.prog 20 [Qec [x,y,z] o] (Qae x y z o):=by
 have t1:=Zb6 (Za2 hx (by omega))
 have t2:=Zb6 (Za2 hy (by omega))
 have t3:=Zb6 (Za2 hz (by omega))
 have t4:=Zb6 (Za2 ho (by omega))
 have hp:Qec [x,y,z] o= .agg [.slc [rI x,rI y,rI z],.bool (decide (o<0)),.slc ((digs E9 o.natAbs).map fun d:Nat=>PV.int .i64 (d:Int))]:=rfl
 rw [hp]
 refine Qac (tb:=[]) 22 [.cell 2 33] [0,1,2] mixed Tryz.func20 rfl (by kernel_rfl) (by kernel_rfl) (by kernel_rfl) (by kernel_rfl) ?_
 repeat (first|(simp -implicitDefEqProofs only [go_sem,Nat.reduceAdd,Nat.reduceMul,Nat.reduceEqDiff,Nat.reduceLT,Nat.reduceLeDiff,reduceCtorEq,Int.reduceLE,Int.reduceToNat,rI,di,wPV])|((with_reducible refine Qab (t1) ?_ ?_ ?_);(with_reducible rfl);rfl)|((with_reducible refine Qab (t2) ?_ ?_ ?_);(with_reducible rfl);rfl)|((with_reducible refine Qab (t3) ?_ ?_ ?_);(with_reducible rfl);rfl)|((with_reducible refine Qab (t4) ?_ ?_ ?_);(with_reducible rfl);rfl)|(with_reducible exact Qaa _ _ (by kernel_rfl))|(with_reducible refine And.intro (Qaa _ _ (by kernel_rfl)) ?_))
theorem Qsz (x y z o x' y' z' o':Int):(decide (x<0)==decide (x'<0)&&(mB x==mB x'&&(decide (y<0)==decide (y'<0)&&(mB y==mB y'&&(decide (z<0)==decide (z'<0)&&(mB z==mB z'&&(decide (o<0)==decide (o'<0)&&mB o==mB o')))))))=
  (decide (x=x')&&(decide (y=y')&&(decide (z=z')&&decide (o=o')))):=by
 rw [←Qni x x',←Qni y y',←Qni z z',←Qni o o']
 simp only [Bool.and_assoc]
theorem Zkz (x y z o x' y' z' o':Int) (B:Nat) (hB:B≤6000000) (hx:x.natAbs<2^B) (hy:y.natAbs<2^B) (hz:z.natAbs<2^B) (ho:o.natAbs<2^B)
  (hx':x'.natAbs<2^B) (hy':y'.natAbs<2^B) (hz':z'.natAbs<2^B) (ho':o'.natAbs<2^B):
  Qaf Tryz.prog 64 [Qec [x,y,z] o,Qec [x',y',z'] o'] (.bool (decide (x=x')&&(decide (y=y')&&(decide (z=z')&&decide (o=o'))))):=by
 have t1:=Q4j x y z o B hB hx hy hz ho
 have t2:=Q4j x' y' z' o' B hB hx' hy' hz' ho'
 refine Qac (tb:=[]) 10 [.tmp 4] [0,1,2,3,4] mixed Tryz.func64 rfl (by kernel_rfl) (by kernel_rfl) (by kernel_rfl) (by kernel_rfl) ?_
 repeat (first|(simp -implicitDefEqProofs only [go_sem,Nat.reduceAdd,Nat.reduceMul,Nat.reduceEqDiff,Nat.reduceLT,Nat.reduceLeDiff,reduceCtorEq,Qec,rI,di,Qsz])|((with_reducible refine Qab (t1) ?_ ?_ ?_);(with_reducible rfl);rfl)|((with_reducible refine Qab (t2) ?_ ?_ ?_);(with_reducible rfl);rfl)|(with_reducible exact Qaa _ _ (by kernel_rfl))|(with_reducible refine And.intro (Qaa _ _ (by kernel_rfl)) ?_))
theorem Qx1 (a b:Sg) (ha:okSg a) (hb:okSg b) (va:Qav a=true) (vb:Qav b=true):Qaf Tryz.prog 71 [sgPV a,sgPV b] (.bool (Qc1 a b)):=by
 have o1:i64 1:=by unfold i64;omega
 have o0:i64 0:=by unfold i64;omega
 have t1:=Qq7 a 1 1 ha (Qch va) (Qdy va) o1 o1 (by decide)
 have t2:=Qq7 b 0 1 hb (Qch vb) (Qdy vb) o0 o1 (by decide)
 rw [Zip]at t1 t2
 unfold Qc1 Qm1
 generalize plQ a 1 1 0=x0 at*
 generalize plQ a 1 1 1=x1 at*
 generalize plQ a 1 1 2=x2 at*
 generalize plO a 1 1=x3 at*
 generalize plQ b 0 1 0=y0 at*
 generalize plQ b 0 1 1=y1 at*
 generalize plQ b 0 1 2=y2 at*
 generalize plO b 0 1=y3 at*
 by_cases h:a.t=b.f
 ·have h':(a.t==b.f)=true:=by rw [h];exact beq_self_eq_true _
  rw [decide_eq_true h,Bool.true_and]
  refine Qac (tb:=[]) 17 [.tmp 4] [0,1,2,3,4] mixed Tryz.func71 rfl (by kernel_rfl) (by kernel_rfl) (by kernel_rfl) (by kernel_rfl) ?_
  repeat (first|(simp -implicitDefEqProofs only [go_sem,Nat.reduceAdd,Nat.reduceMul,Nat.reduceEqDiff,Nat.reduceLT,Nat.reduceLeDiff,reduceCtorEq,h',Qsz])|((with_reducible refine Qab (t1) ?_ ?_ ?_);(with_reducible rfl);rfl)|((with_reducible refine Qab (t2) ?_ ?_ ?_);(with_reducible rfl);rfl)|(with_reducible exact Qaa _ _ (by kernel_rfl))|(with_reducible refine And.intro (Qaa _ _ (by kernel_rfl)) ?_))
 ·have h':(a.t==b.f)=false:=beq_eq_false_iff_ne.2 h
  rw [decide_eq_false h,Bool.false_and]
  refine Qac (tb:=[]) 17 [.tmp 4] [0,1,2,3,4] mixed Tryz.func71 rfl (by kernel_rfl) (by kernel_rfl) (by kernel_rfl) (by kernel_rfl) ?_
  repeat (first|(simp -implicitDefEqProofs only [go_sem,Nat.reduceAdd,Nat.reduceMul,Nat.reduceEqDiff,Nat.reduceLT,Nat.reduceLeDiff,reduceCtorEq,h'])|(with_reducible exact Qaa _ _ (by kernel_rfl))|(with_reducible refine And.intro (Qaa _ _ (by kernel_rfl)) ?_))
def Qan (p:List Sg):PV:= .slc (p.map sgPV)
attribute [go_sem] Qan
theorem Qci (p:List Sg) (i:Nat) (h:i<p.length):(p.map sgPV)[i]? =some (.agg [.int .i64 p[i].f,.int .i64 p[i].t,.int .i64 p[i].o,.slc (p[i].x.map (PV.int .i64)),.slc (p[i].y.map (PV.int .i64)),.slc (p[i].z.map (PV.int .i64))]):=by
 rw [List.getElem?_map,List.getElem?_eq_getElem h];rfl
set_option maxHeartbeats 1000000 in
theorem Qcu (p:List Sg) (hp: ∀s∈p,okSg s) (hl:p.length≤1000000):Qaf Tryz.prog 30 [Qan p] (.bool (Qa4 p)):=by
 refine Qac (tb:=[]) 38 [.tmp 2] [0,2,3,4,5,6,7,8,28] mixed Tryz.func30 rfl (by kernel_rfl) (by kernel_rfl) (by kernel_rfl) (by kernel_rfl) ?_
 repeat (first|(simp -implicitDefEqProofs only [go_sem,Nat.reduceAdd,Nat.reduceMul,Nat.reduceEqDiff,Nat.reduceLT,Nat.reduceLeDiff,reduceCtorEq,List.length_map])|(with_reducible exact Qaa _ _ (by kernel_rfl))|(with_reducible refine And.intro (Qaa _ _ (by kernel_rfl)) ?_))
 have z0:0≤p.length∧vpTo p 0=true:=⟨Nat.zero_le _,rfl⟩
 refine Qas mixed (fun i:{i:Nat // i≤p.length∧vpTo p i=true}=>St.of [(0,Qan p),(2,.bool false),(5,Qan p),(6,.int .i64 (p.length:Int)),(7,.int .i64 (i.1:Int))] []) (fun i=>p.length-i.1) ⟨0,z0⟩ ?_ ?_
 ·exact Qa3 (by simp [Qad,lkp,ren1,ren0,Qan])
 ·rintro⟨i,hi,hall⟩
  by_cases hA:i<p.length
  ·have hA':=ltT hA
   have n0:=nnT i
   have hg:=Qci p i hA
   have hwk:=Qah (a:=i) (by omega)
   have ok1:=hp _ (List.getElem_mem hA)
   have hv:=Qxz p[i] ok1
   have hgD:=sgD hA
   cases hV:Qav p[i]with
   |false=>
    have e:Qa4 p=false:=Qfl (j:=i) (by unfold vpAt;rw [hgD,hV];rfl) hA
    rw [hV]at hv
    unfold sgPV Qaq at hv
    repeat (first|(simp -implicitDefEqProofs only [go_sem,Nat.reduceAdd,Nat.reduceMul,Nat.reduceEqDiff,Nat.reduceLT,Nat.reduceLeDiff,reduceCtorEq,hA',n0,hg,Int.toNat_natCast,List.length_map,e])|((with_reducible refine Qab (hv) ?_ ?_ ?_);(with_reducible rfl);rfl)|(with_reducible exact Qaa _ _ (by kernel_rfl))|(with_reducible refine And.intro (Qaa _ _ (by kernel_rfl)) ?_))
   |true=>
    rw [hV]at hv
    unfold sgPV Qaq at hv
    by_cases hz:i=0
    ·have hz':((0:Int)<(i:Int))=False:=eq_false (by omega)
     have hn:vpTo p (i+1)=true:=by rw [Qi0,hall];unfold vpAt;rw [hgD,hV,decide_eq_true hz];rfl
     repeat (first|(simp -implicitDefEqProofs only [go_sem,Nat.reduceAdd,Nat.reduceMul,Nat.reduceEqDiff,Nat.reduceLT,Nat.reduceLeDiff,reduceCtorEq,hA',n0,hg,hwk,hz',Int.toNat_natCast,List.length_map])|((with_reducible refine Qab (hv) ?_ ?_ ?_);(with_reducible rfl);rfl)|(with_reducible exact Qaa _ _ (by kernel_rfl))|(with_reducible refine And.intro (Qaa _ _ (by kernel_rfl)) ?_))
     refine⟨⟨i+1,hA,hn⟩,by simp only;omega,Qa3 (by simp [Qad,lkp,ren1,ren0,Qan])⟩
    ·have hz':((0:Int)<(i:Int))=True:=eq_true (by omega)
     have hA1:i-1<p.length:=by omega
     have n1:=nnT (i-1)
     have hg1:=Qci p (i-1) hA1
     have w1:IntKind.i64.wrap ((i:Int)-1)=((i-1:Nat):Int):=by rw [Qai (by omega) (by omega)];omega
     have hV1:Qav p[i-1]=true:=by have:=Qka hall (j:=i-1) (by omega);rwa [sgD hA1]at this
     have hm:=Qx1 p[i-1] p[i] (hp _ (List.getElem_mem hA1)) ok1 hV1 hV
     have ev:vpAt p i=Qc1 p[i-1] p[i]:=by unfold vpAt;rw [hgD,sgD hA1,hV,decide_eq_false hz];simp
     cases hM:Qc1 p[i-1] p[i]with
     |false=>
      have e:Qa4 p=false:=Qfl (j:=i) (ev.trans hM) hA
      rw [hM]at hm
      unfold sgPV Qaq at hm
      repeat (first|(simp -implicitDefEqProofs only [go_sem,Nat.reduceAdd,Nat.reduceMul,Nat.reduceEqDiff,Nat.reduceLT,Nat.reduceLeDiff,reduceCtorEq,hA',n0,hg,hz',w1,n1,hg1,Int.toNat_natCast,List.length_map,e])|((with_reducible refine Qab (hv) ?_ ?_ ?_);(with_reducible rfl);rfl)|((with_reducible refine Qab (hm) ?_ ?_ ?_);(with_reducible rfl);rfl)|(with_reducible exact Qaa _ _ (by kernel_rfl))|(with_reducible refine And.intro (Qaa _ _ (by kernel_rfl)) ?_))
     |true=>
      have hn:vpTo p (i+1)=true:=by rw [Qi0,hall,ev,hM];rfl
      rw [hM]at hm
      unfold sgPV Qaq at hm
      repeat (first|(simp -implicitDefEqProofs only [go_sem,Nat.reduceAdd,Nat.reduceMul,Nat.reduceEqDiff,Nat.reduceLT,Nat.reduceLeDiff,reduceCtorEq,hA',n0,hg,hwk,hz',w1,n1,hg1,Int.toNat_natCast,List.length_map])|((with_reducible refine Qab (hv) ?_ ?_ ?_);(with_reducible rfl);rfl)|((with_reducible refine Qab (hm) ?_ ?_ ?_);(with_reducible rfl);rfl)|(with_reducible exact Qaa _ _ (by kernel_rfl))|(with_reducible refine And.intro (Qaa _ _ (by kernel_rfl)) ?_))
      refine⟨⟨i+1,hA,hn⟩,by simp only;omega,Qa3 (by simp [Qad,lkp,ren1,ren0,Qan])⟩
  ·have hA':=ltF hA
   obtain rfl:i=p.length:=by omega
   have e0:Qa4 p=(decide (1≤p.length)&&decide (p.length≤256)):=by unfold Qa4;rw [hall,Bool.true_and]
   rw [e0]
   by_cases c1:1≤p.length
   ·have c1':((1:Int)≤(p.length:Int))=True:=eq_true (by omega)
    have c2':decide ((p.length:Int)≤256)=decide (p.length≤256):=by rw [decide_eq_decide];omega
    rw [decide_eq_true c1,Bool.true_and]
    repeat (first|(simp -implicitDefEqProofs only [go_sem,Nat.reduceAdd,Nat.reduceMul,Nat.reduceEqDiff,Nat.reduceLT,Nat.reduceLeDiff,reduceCtorEq,hA',c1',c2',List.length_map])|(with_reducible exact Qaa _ _ (by kernel_rfl))|(with_reducible refine And.intro (Qaa _ _ (by kernel_rfl)) ?_))
   ·have c1':((1:Int)≤(p.length:Int))=False:=eq_false (by omega)
    rw [decide_eq_false c1,Bool.false_and]
    repeat (first|(simp -implicitDefEqProofs only [go_sem,Nat.reduceAdd,Nat.reduceMul,Nat.reduceEqDiff,Nat.reduceLT,Nat.reduceLeDiff,reduceCtorEq,hA',c1',List.length_map])|(with_reducible exact Qaa _ _ (by kernel_rfl))|(with_reducible refine And.intro (Qaa _ _ (by kernel_rfl)) ?_))
set_option maxHeartbeats 1000000 in
theorem Qk3 (p:List Sg) (hp: ∀s∈p,okSg s) (hl:p.length≤1000000):Qaf Tryz.prog 17 [Qan p] (.bool (Qa4 p)):=by
 have o1:i64 1:=by unfold i64;omega
 have o0:i64 0:=by unfold i64;omega
 refine Qac (tb:=[]) 57 [.tmp 2] [0,2,3,7,48] mixed Tryz.func17 rfl (by kernel_rfl) (by kernel_rfl) (by kernel_rfl) (by kernel_rfl) ?_
 repeat (first|(simp -implicitDefEqProofs only [go_sem,Nat.reduceAdd,Nat.reduceMul,Nat.reduceEqDiff,Nat.reduceLT,Nat.reduceLeDiff,reduceCtorEq,List.length_map])|(with_reducible exact Qaa _ _ (by kernel_rfl))|(with_reducible refine And.intro (Qaa _ _ (by kernel_rfl)) ?_))
 have z0:0≤p.length∧vpTo p 0=true:=⟨Nat.zero_le _,rfl⟩
 refine Qas mixed (fun i:{i:Nat // i≤p.length∧vpTo p i=true}=>St.of [(0,Qan p),(2,.bool false),(3,.int .i64 (i.1:Int))] []) (fun i=>p.length-i.1) ⟨0,z0⟩ ?_ ?_
 ·exact Qa3 (by simp [Qad,lkp,ren1,ren0,Qan])
 ·rintro⟨i,hi,hall⟩
  by_cases hA:i<p.length
  ·have hA':=ltT hA
   have n0:=nnT i
   have hg:=Qci p i hA
   have hwk:=Qah (a:=i) (by omega)
   have ok1:=hp _ (List.getElem_mem hA)
   have hv:=Q4f p[i] ok1
   have hgD:=sgD hA
   cases hV:Qav p[i]with
   |false=>
    have e:Qa4 p=false:=Qfl (j:=i) (by unfold vpAt;rw [hgD,hV];rfl) hA
    rw [hV]at hv
    unfold sgPV Qaq at hv
    repeat (first|(simp -implicitDefEqProofs only [go_sem,Nat.reduceAdd,Nat.reduceMul,Nat.reduceEqDiff,Nat.reduceLT,Nat.reduceLeDiff,reduceCtorEq,hA',n0,hg,Int.toNat_natCast,List.length_map,e])|((with_reducible refine Qab (hv) ?_ ?_ ?_);(with_reducible rfl);rfl)|(with_reducible exact Qaa _ _ (by kernel_rfl))|(with_reducible refine And.intro (Qaa _ _ (by kernel_rfl)) ?_))
   |true=>
    rw [hV]at hv
    unfold sgPV Qaq at hv
    by_cases hz:i=0
    ·have hz':((0:Int)<(i:Int))=False:=eq_false (by omega)
     have hn:vpTo p (i+1)=true:=by rw [Qi0,hall];unfold vpAt;rw [hgD,hV,decide_eq_true hz];rfl
     repeat (first|(simp -implicitDefEqProofs only [go_sem,Nat.reduceAdd,Nat.reduceMul,Nat.reduceEqDiff,Nat.reduceLT,Nat.reduceLeDiff,reduceCtorEq,hA',n0,hg,hwk,hz',Int.toNat_natCast,List.length_map])|((with_reducible refine Qab (hv) ?_ ?_ ?_);(with_reducible rfl);rfl)|(with_reducible exact Qaa _ _ (by kernel_rfl))|(with_reducible refine And.intro (Qaa _ _ (by kernel_rfl)) ?_))
     refine⟨⟨i+1,hA,hn⟩,by simp only;omega,Qa3 (by simp [Qad,lkp,ren1,ren0,Qan])⟩
    ·have hz':((0:Int)<(i:Int))=True:=eq_true (by omega)
     have hA1:i-1<p.length:=by omega
     have n1:=nnT (i-1)
     have hg1:=Qci p (i-1) hA1
     have w1:IntKind.i64.wrap ((i:Int)-1)=((i-1:Nat):Int):=by rw [Qai (by omega) (by omega)];omega
     have hV1:Qav p[i-1]=true:=by have:=Qka hall (j:=i-1) (by omega);rwa [sgD hA1]at this
     have ev:vpAt p i=Qc1 p[i-1] p[i]:=by unfold vpAt;rw [hgD,sgD hA1,hV,decide_eq_false hz];simp
     have ok2:=hp _ (List.getElem_mem hA1)
     by_cases hT:p[i-1].t=p[i].f
     ·have hT':(p[i].f != p[i-1].t)=false:=by rw [hT];simp
      have r1:=Qq8 p[i] 0 1 ok1 (Qch hV) (Qdy hV) o0 o1 (by decide)
      have r2:=Qq8 p[i-1] 1 1 ok2 (Qch hV1) (Qdy hV1) o1 o1 (by decide)
      rw [Zby]at r1 r2
      have b1:=Q4i ok1 (Qch hV) (Qdy hV) o0 o1 (by decide)
      have b2:=Q4i ok2 (Qch hV1) (Qdy hV1) o1 o1 (by decide)
      have bb:=Zkz (plQ p[i] 0 1 0) (plQ p[i] 0 1 1) (plQ p[i] 0 1 2) (plO p[i] 0 1) (plQ p[i-1] 1 1 0) (plQ p[i-1] 1 1 1) (plQ p[i-1] 1 1 2) (plO p[i-1] 1 1) 2000 (by decide) (b1.1 0 (by decide)) (b1.1 1 (by decide)) (b1.1 2 (by decide)) b1.2 (b2.1 0 (by decide)) (b2.1 1 (by decide)) (b2.1 2 (by decide)) b2.2
      have es:(decide (plQ p[i] 0 1 0=plQ p[i-1] 1 1 0)&&(decide (plQ p[i] 0 1 1=plQ p[i-1] 1 1 1)&&(decide (plQ p[i] 0 1 2=plQ p[i-1] 1 1 2)&&decide (plO p[i] 0 1=plO p[i-1] 1 1))))=Qc1 p[i-1] p[i]:=by
       unfold Qc1;rw [decide_eq_true hT,Bool.true_and,Qut];rfl
      rw [es]at bb
      have e4:(p[i].o*1^5/(plG p[i] 0 1 3:Int))=plO p[i] 0 1:=rfl
      have e5:(p[i-1].o*1^5/(plG p[i-1] 1 1 3:Int))=plO p[i-1] 1 1:=rfl
      rw [e4]at r1
      rw [e5]at r2
      clear e4 e5 es
      unfold Qec at r1 r2 bb
      generalize [plQ p[i] 0 1 0,plQ p[i] 0 1 1,plQ p[i] 0 1 2]=L1 at*
      generalize [plQ p[i-1] 1 1 0,plQ p[i-1] 1 1 1,plQ p[i-1] 1 1 2]=L2 at*
      generalize plO p[i] 0 1=z1 at*
      generalize plO p[i-1] 1 1=z2 at*
      unfold sgPV Qaq at r1 r2
      cases hM:Qc1 p[i-1] p[i]with
      |false=>
       have e:Qa4 p=false:=Qfl (j:=i) (ev.trans hM) hA
       rw [hM]at bb
       repeat (first|(simp -implicitDefEqProofs only [go_sem,Nat.reduceAdd,Nat.reduceMul,Nat.reduceEqDiff,Nat.reduceLT,Nat.reduceLeDiff,reduceCtorEq,di,hA',n0,hg,hz',hT',w1,n1,hg1,Int.toNat_natCast,List.length_map,e])|((with_reducible refine Qab (hv) ?_ ?_ ?_);(with_reducible rfl);rfl)|((with_reducible refine Qab (r1) ?_ ?_ ?_);(with_reducible rfl);rfl)|((with_reducible refine Qab (r2) ?_ ?_ ?_);(with_reducible rfl);rfl)|((with_reducible refine Qab (bb) ?_ ?_ ?_);(with_reducible rfl);rfl)|(with_reducible exact Qaa _ _ (by kernel_rfl))|(with_reducible refine And.intro (Qaa _ _ (by kernel_rfl)) ?_))
      |true=>
       have hn:vpTo p (i+1)=true:=by rw [Qi0,hall,ev,hM];rfl
       rw [hM]at bb
       repeat (first|(simp -implicitDefEqProofs only [go_sem,Nat.reduceAdd,Nat.reduceMul,Nat.reduceEqDiff,Nat.reduceLT,Nat.reduceLeDiff,reduceCtorEq,di,hA',n0,hg,hwk,hz',hT',w1,n1,hg1,Int.toNat_natCast,List.length_map])|((with_reducible refine Qab (hv) ?_ ?_ ?_);(with_reducible rfl);rfl)|((with_reducible refine Qab (r1) ?_ ?_ ?_);(with_reducible rfl);rfl)|((with_reducible refine Qab (r2) ?_ ?_ ?_);(with_reducible rfl);rfl)|((with_reducible refine Qab (bb) ?_ ?_ ?_);(with_reducible rfl);rfl)|(with_reducible exact Qaa _ _ (by kernel_rfl))|(with_reducible refine And.intro (Qaa _ _ (by kernel_rfl)) ?_))
       refine⟨⟨i+1,hA,hn⟩,by simp only;omega,Qa3 (by simp [Qad,lkp,ren1,ren0,Qan])⟩
     ·have hT':(p[i].f != p[i-1].t)=true:=by simp only [bne_iff_ne,ne_eq];exact fun e=>hT e.symm
      have e:Qa4 p=false:=Qfl (j:=i) (by rw [ev];unfold Qc1;rw [decide_eq_false hT];rfl) hA
      repeat (first|(simp -implicitDefEqProofs only [go_sem,Nat.reduceAdd,Nat.reduceMul,Nat.reduceEqDiff,Nat.reduceLT,Nat.reduceLeDiff,reduceCtorEq,hA',n0,hg,hz',hT',w1,n1,hg1,Int.toNat_natCast,List.length_map,e])|((with_reducible refine Qab (hv) ?_ ?_ ?_);(with_reducible rfl);rfl)|(with_reducible exact Qaa _ _ (by kernel_rfl))|(with_reducible refine And.intro (Qaa _ _ (by kernel_rfl)) ?_))
  ·have hA':=ltF hA
   obtain rfl:i=p.length:=by omega
   have e0:Qa4 p=(decide (1≤p.length)&&decide (p.length≤256)):=by unfold Qa4;rw [hall,Bool.true_and]
   rw [e0]
   by_cases c1:1≤p.length
   ·have c1':((1:Int)≤(p.length:Int))=True:=eq_true (by omega)
    have c2':decide ((p.length:Int)≤256)=decide (p.length≤256):=by rw [decide_eq_decide];omega
    rw [decide_eq_true c1,Bool.true_and]
    repeat (first|(simp -implicitDefEqProofs only [go_sem,Nat.reduceAdd,Nat.reduceMul,Nat.reduceEqDiff,Nat.reduceLT,Nat.reduceLeDiff,reduceCtorEq,hA',c1',c2',List.length_map])|(with_reducible exact Qaa _ _ (by kernel_rfl))|(with_reducible refine And.intro (Qaa _ _ (by kernel_rfl)) ?_))
   ·have c1':((1:Int)≤(p.length:Int))=False:=eq_false (by omega)
    rw [decide_eq_false c1,Bool.false_and]
    repeat (first|(simp -implicitDefEqProofs only [go_sem,Nat.reduceAdd,Nat.reduceMul,Nat.reduceEqDiff,Nat.reduceLT,Nat.reduceLeDiff,reduceCtorEq,hA',c1',List.length_map])|(with_reducible exact Qaa _ _ (by kernel_rfl))|(with_reducible refine And.intro (Qaa _ _ (by kernel_rfl)) ?_))
end Go.Proofs.YtlpiamlgibomhaaGreat

namespace Go.Dg
theorem Zh9 {a b:Sg} (h1:a.f=b.f) (h2:a.t=b.t) (h3:a.o=b.o) (h4:a.x=b.x) (h5:a.y=b.y) (h6:a.z=b.z):a=b:=by
 cases a;cases b;simp_all
def Qkb (a b:Sg):Bool:=decide (a.f=b.f)&&(decide (a.t=b.t)&&(decide (a.o=b.o)&&(decide (a.x=b.x)&&(decide (a.y=b.y)&&decide (a.z=b.z)))))
theorem Q20 {a b:Sg}:Qkb a b=true↔a=b:=by
 unfold Qkb
 simp only [Bool.and_eq_true,decide_eq_true_eq]
 constructor
 ·rintro⟨h1,h2,h3,h4,h5,h6⟩;exact Zh9 h1 h2 h3 h4 h5 h6
 ·rintro rfl;exact⟨rfl,rfl,rfl,rfl,rfl,rfl⟩
def Qgt (a b:List Sg) (i:Nat):Bool:=(List.range i).all fun j=>Qkb (a.getD j sg0) (b.getD j sg0)
def Quu (a b:List Sg):Bool:=decide (a.length=b.length)&&Qgt a b a.length
theorem Quv (a b:List Sg) (i:Nat):Qgt a b (i+1)=(Qgt a b i&&Qkb (a.getD i sg0) (b.getD i sg0)):=by simp [Qgt,List.range_succ]
theorem Qzg {a b:List Sg} {j m:Nat} (h:Qkb (a.getD j sg0) (b.getD j sg0)=false) (hm:j<m):Qgt a b m=false:=by
 unfold Qgt
 rw [List.all_eq_false]
 exact⟨j,List.mem_range.2 hm,by simp only [h];simp⟩
theorem Qzh (a:List Sg):Quu a a=true:=by
 unfold Quu Qgt
 simp only [decide_true,Bool.true_and,List.all_eq_true]
 intro j _
 exact Q20.2 rfl
def Qkz (a b:List Int) (i:Nat):Bool:=(List.range i).all fun j=>decide (a.getD j 0=b.getD j 0)
theorem Quw (a b:List Int) (i:Nat):Qkz a b (i+1)=(Qkz a b i&&decide (a.getD i 0=b.getD i 0)):=by simp [Qkz,List.range_succ]
theorem Qzi {a b:List Int} {j:Nat} (h:a.getD j 0≠b.getD j 0):a≠b:=by rintro rfl;exact h rfl
theorem Qzj {a b:List Int} (hl:a.length=b.length) (h:Qkz a b a.length=true):a=b:=by
 unfold Qkz at h
 simp only [List.all_eq_true,List.mem_range,decide_eq_true_eq]at h
 apply List.ext_getElem hl
 intro i p q
 have:=h i p
 rw [List.getD_eq_getElem?_getD,List.getD_eq_getElem?_getD,List.getElem?_eq_getElem p,List.getElem?_eq_getElem q]at this
 exact this
def few1 (s:Sg):Bool:=decide (s.x.length≤8)&&(decide (s.y.length≤8)&&decide (s.z.length≤8))
def fewB (p:List Sg) (m:Nat):Bool:=((p.take (m+1)).all few1)&&decide (p.length≤m)
theorem Qpe {p:List Sg} {m:Nat} (h:fewB p m=true):p.length≤m∧ ∀s∈p,∀c∈s.ax,c.length≤8:=by
 unfold fewB at h
 simp only [Bool.and_eq_true,decide_eq_true_eq]at h
 obtain⟨h1,h2⟩:=h
 rw [List.take_of_length_le (by omega)]at h1
 refine⟨h2,fun s hs c hc=> ?_⟩
 have:=List.all_eq_true.1 h1 s hs
 unfold few1 at this
 simp only [Bool.and_eq_true,decide_eq_true_eq]at this
 obtain⟨a1,a2,a3⟩:=this
 unfold Sg.ax at hc
 simp only [List.mem_cons,List.not_mem_nil,or_false]at hc
 rcases hc with rfl|rfl|rfl<;>assumption
theorem Qqy {p:List Sg} {m i:Nat} (hi:i<p.length) (hm:i≤m) (h:few1 p[i]=false):fewB p m=false:=by
 unfold fewB
 have:(p.take (m+1)).all few1=false:=by
  rw [List.all_eq_false]
  refine⟨p[i],?_,by simp [h]⟩
  rw [List.mem_take_iff_getElem]
  exact⟨i,by omega,rfl⟩
 rw [this];rfl
end Go.Dg

namespace Go.Proofs.YtlpiamlgibomhaaGreat
open Go.Vl Go.RowKit Go.Dg
theorem Qkh (a b:List Int) (ha:a.length≤1000000000) (hb:b.length≤1000000000):Qaf Tryz.prog 109 [Qaq a,Qaq b] (.bool (decide (a=b))):=by
 by_cases hl:a.length=b.length
 case neg=>
  have n1:((a.length:Int) != (b.length:Int))=true:=by simp only [bne_iff_ne,ne_eq];omega
  rw [decide_eq_false (fun e=>hl (by rw [e]))]
  refine Qac (tb:=[]) 26 [.tmp 4] [0,1,4,5,10,14,25] mixed Tryz.func109 rfl (by kernel_rfl) (by kernel_rfl) (by kernel_rfl) (by kernel_rfl) ?_
  repeat (first|(simp -implicitDefEqProofs only [go_sem,Nat.reduceAdd,Nat.reduceMul,Nat.reduceEqDiff,Nat.reduceLT,Nat.reduceLeDiff,reduceCtorEq,List.length_map,n1])|(with_reducible exact Qaa _ _ (by kernel_rfl))|(with_reducible refine And.intro (Qaa _ _ (by kernel_rfl)) ?_))
 have n1:((a.length:Int) != (b.length:Int))=false:=by rw [hl];simp
 refine Qac (tb:=[]) 26 [.tmp 4] [0,1,4,5,10,14,25] mixed Tryz.func109 rfl (by kernel_rfl) (by kernel_rfl) (by kernel_rfl) (by kernel_rfl) ?_
 repeat (first|(simp -implicitDefEqProofs only [go_sem,Nat.reduceAdd,Nat.reduceMul,Nat.reduceEqDiff,Nat.reduceLT,Nat.reduceLeDiff,reduceCtorEq,List.length_map,n1])|(with_reducible exact Qaa _ _ (by kernel_rfl))|(with_reducible refine And.intro (Qaa _ _ (by kernel_rfl)) ?_))
 have z0:0≤a.length∧Qkz a b 0=true:=⟨Nat.zero_le _,rfl⟩
 refine Qas mixed (fun i:{i:Nat // i≤a.length∧Qkz a b i=true}=>St.of [(0,Qaq a),(1,Qaq b),(4,.bool false),(5,.int .i64 (i.1:Int))] []) (fun i=>a.length-i.1) ⟨0,z0⟩ ?_ ?_
 ·exact Qa3 (by simp [Qad,lkp,ren1,ren0,Qaq])
 ·rintro⟨i,hi,hall⟩
  by_cases hA:i<a.length
  ·have hA':=ltT hA
   have n0:=nnT i
   have hB:i<b.length:=by omega
   have g1:=Qb8 a i hA
   have g2:=Qb8 b i hB
   have hwk:=Qah (a:=i) (by omega)
   by_cases hx:a[i]=b[i]
   ·have hx':(a[i] != b[i])=false:=by rw [hx];simp
    have hn:Qkz a b (i+1)=true:=by rw [Quw,hall,Qcb hA,Qcb hB];simp [hx]
    repeat (first|(simp -implicitDefEqProofs only [go_sem,Nat.reduceAdd,Nat.reduceMul,Nat.reduceEqDiff,Nat.reduceLT,Nat.reduceLeDiff,reduceCtorEq,hA',n0,g1,g2,hwk,hx',Int.toNat_natCast,List.length_map])|(with_reducible exact Qaa _ _ (by kernel_rfl))|(with_reducible refine And.intro (Qaa _ _ (by kernel_rfl)) ?_))
    refine⟨⟨i+1,hA,hn⟩,by simp only;omega,Qa3 (by simp [Qad,lkp,ren1,ren0,Qaq])⟩
   ·have hx':(a[i] != b[i])=true:=by simp only [bne_iff_ne,ne_eq];exact hx
    rw [decide_eq_false (Qzi (j:=i) (by rw [Qcb hA,Qcb hB];exact hx))]
    repeat (first|(simp -implicitDefEqProofs only [go_sem,Nat.reduceAdd,Nat.reduceMul,Nat.reduceEqDiff,Nat.reduceLT,Nat.reduceLeDiff,reduceCtorEq,hA',n0,g1,g2,hx',Int.toNat_natCast,List.length_map])|(with_reducible exact Qaa _ _ (by kernel_rfl))|(with_reducible refine And.intro (Qaa _ _ (by kernel_rfl)) ?_))
  ·have hA':=ltF hA
   obtain rfl:i=a.length:=by omega
   rw [decide_eq_true (Qzj hl hall)]
   repeat (first|(simp -implicitDefEqProofs only [go_sem,Nat.reduceAdd,Nat.reduceMul,Nat.reduceEqDiff,Nat.reduceLT,Nat.reduceLeDiff,reduceCtorEq,hA',List.length_map])|(with_reducible exact Qaa _ _ (by kernel_rfl))|(with_reducible refine And.intro (Qaa _ _ (by kernel_rfl)) ?_))
def lenP (p:List Sg):Prop:=p.length≤1000000000∧ ∀s∈p,∀c∈s.ax,c.length≤1000000000
theorem Qi6 (a b:Sg) (ha: ∀c∈a.ax,c.length≤1000000000) (hb: ∀c∈b.ax,c.length≤1000000000):Qaf Tryz.prog 69 [sgPV a,sgPV b] (.bool (Qkb a b)):=by
 have t1:=Qkh a.x b.x (ha _ (by simp [Sg.ax])) (hb _ (by simp [Sg.ax]))
 have t2:=Qkh a.y b.y (ha _ (by simp [Sg.ax])) (hb _ (by simp [Sg.ax]))
 have t3:=Qkh a.z b.z (ha _ (by simp [Sg.ax])) (hb _ (by simp [Sg.ax]))
 unfold Qaq at t1 t2 t3
 unfold Qkb
 by_cases h1:a.f=b.f
 case neg=>
  have h1':(a.f==b.f)=false:=beq_eq_false_iff_ne.2 h1
  rw [decide_eq_false h1,Bool.false_and]
  refine Qac (tb:=[]) 45 [.tmp 4] [0,1,2,3,4] mixed Tryz.func69 rfl (by kernel_rfl) (by kernel_rfl) (by kernel_rfl) (by kernel_rfl) ?_
  repeat (first|(simp -implicitDefEqProofs only [go_sem,Nat.reduceAdd,Nat.reduceMul,Nat.reduceEqDiff,Nat.reduceLT,Nat.reduceLeDiff,reduceCtorEq,h1']))
 have h1':(a.f==b.f)=true:=beq_iff_eq.2 h1
 rw [decide_eq_true h1,Bool.true_and]
 by_cases h2:a.t=b.t
 case neg=>
  have h2':(a.t==b.t)=false:=beq_eq_false_iff_ne.2 h2
  rw [decide_eq_false h2,Bool.false_and]
  refine Qac (tb:=[]) 45 [.tmp 4] [0,1,2,3,4] mixed Tryz.func69 rfl (by kernel_rfl) (by kernel_rfl) (by kernel_rfl) (by kernel_rfl) ?_
  repeat (first|(simp -implicitDefEqProofs only [go_sem,Nat.reduceAdd,Nat.reduceMul,Nat.reduceEqDiff,Nat.reduceLT,Nat.reduceLeDiff,reduceCtorEq,h1',h2']))
 have h2':(a.t==b.t)=true:=beq_iff_eq.2 h2
 rw [decide_eq_true h2,Bool.true_and]
 by_cases h3:a.o=b.o
 case neg=>
  have h3':(a.o==b.o)=false:=beq_eq_false_iff_ne.2 h3
  rw [decide_eq_false h3,Bool.false_and]
  refine Qac (tb:=[]) 45 [.tmp 4] [0,1,2,3,4] mixed Tryz.func69 rfl (by kernel_rfl) (by kernel_rfl) (by kernel_rfl) (by kernel_rfl) ?_
  repeat (first|(simp -implicitDefEqProofs only [go_sem,Nat.reduceAdd,Nat.reduceMul,Nat.reduceEqDiff,Nat.reduceLT,Nat.reduceLeDiff,reduceCtorEq,h1',h2',h3']))
 have h3':(a.o==b.o)=true:=beq_iff_eq.2 h3
 rw [decide_eq_true h3,Bool.true_and]
 cases e1:decide (a.x=b.x)with
 |false=>
  rw [e1]at t1
  refine Qac (tb:=[]) 45 [.tmp 4] [0,1,2,3,4] mixed Tryz.func69 rfl (by kernel_rfl) (by kernel_rfl) (by kernel_rfl) (by kernel_rfl) ?_
  repeat (first|(simp -implicitDefEqProofs only [go_sem,Nat.reduceAdd,Nat.reduceMul,Nat.reduceEqDiff,Nat.reduceLT,Nat.reduceLeDiff,reduceCtorEq,h1',h2',h3'])|((with_reducible refine Qab (t1) ?_ ?_ ?_);(with_reducible rfl);rfl))
 |true=>
  rw [e1]at t1
  cases e2:decide (a.y=b.y)with
  |false=>
   rw [e2]at t2
   refine Qac (tb:=[]) 45 [.tmp 4] [0,1,2,3,4] mixed Tryz.func69 rfl (by kernel_rfl) (by kernel_rfl) (by kernel_rfl) (by kernel_rfl) ?_
   repeat (first|(simp -implicitDefEqProofs only [go_sem,Nat.reduceAdd,Nat.reduceMul,Nat.reduceEqDiff,Nat.reduceLT,Nat.reduceLeDiff,reduceCtorEq,h1',h2',h3'])|((with_reducible refine Qab (t1) ?_ ?_ ?_);(with_reducible rfl);rfl)|((with_reducible refine Qab (t2) ?_ ?_ ?_);(with_reducible rfl);rfl))
  |true=>
   rw [e2]at t2
   refine Qac (tb:=[]) 45 [.tmp 4] [0,1,2,3,4] mixed Tryz.func69 rfl (by kernel_rfl) (by kernel_rfl) (by kernel_rfl) (by kernel_rfl) ?_
   repeat (first|(simp -implicitDefEqProofs only [go_sem,Nat.reduceAdd,Nat.reduceMul,Nat.reduceEqDiff,Nat.reduceLT,Nat.reduceLeDiff,reduceCtorEq,h1',h2',h3'])|((with_reducible refine Qab (t1) ?_ ?_ ?_);(with_reducible rfl);rfl)|((with_reducible refine Qab (t2) ?_ ?_ ?_);(with_reducible rfl);rfl)|((with_reducible refine Qab (t3) ?_ ?_ ?_);(with_reducible rfl);rfl))
theorem Ziq (p:List Sg) (m:Nat) (hm:m≤1000) (hl:p.length≤maxLen):Qaf Tryz.prog 11 [Qan p,.int .i64 (m:Int)] (.bool (fewB p m)):=by
 unfold maxLen at hl
 refine Qac (tb:=[]) 46 [.tmp 4] [0,1,4,5,14,41] mixed Tryz.func11 rfl (by kernel_rfl) (by kernel_rfl) (by kernel_rfl) (by kernel_rfl) ?_
 repeat (first|(simp -implicitDefEqProofs only [go_sem,Nat.reduceAdd,Nat.reduceMul,Nat.reduceEqDiff,Nat.reduceLT,Nat.reduceLeDiff,reduceCtorEq,List.length_map]))
 have z0:0≤p.length∧0≤m+1∧(p.take 0).all few1=true:=⟨Nat.zero_le _,Nat.zero_le _,rfl⟩
 refine Qas mixed (fun i:{i:Nat // i≤p.length∧i≤m+1∧(p.take i).all few1=true}=>St.of [(0,Qan p),(1,.int .i64 (m:Int)),(4,.bool false),(5,.int .i64 (i.1:Int))] []) (fun i=>p.length-i.1) ⟨0,z0⟩ ?_ ?_
 ·exact Qa3 (by simp [Qad,lkp,ren1,ren0,Qan])
 ·rintro⟨i,hi,hi2,hall⟩
  by_cases hA:i<p.length
  ·have hA':=ltT hA
   by_cases hM:i≤m
   ·have hM':=leT hM
    have n0:=nnT i
    have g1:=Qci p i hA
    have hwk:=Qah (a:=i) (by omega)
    by_cases x1:p[i].x.length≤8
    case neg=>
     have x1':((8:Int)<(p[i].x.length:Int))=True:=eq_true (by omega)
     have e:fewB p m=false:=Qqy hA hM (by unfold few1;rw [decide_eq_false x1];rfl)
     repeat (first|(simp -implicitDefEqProofs only [go_sem,Nat.reduceAdd,Nat.reduceMul,Nat.reduceEqDiff,Nat.reduceLT,Nat.reduceLeDiff,reduceCtorEq,hA',hM',n0,g1,x1',e,Int.toNat_natCast,List.length_map]))
    have x1':((8:Int)<(p[i].x.length:Int))=False:=eq_false (by omega)
    by_cases x2:p[i].y.length≤8
    case neg=>
     have x2':((8:Int)<(p[i].y.length:Int))=True:=eq_true (by omega)
     have e:fewB p m=false:=Qqy hA hM (by unfold few1;rw [decide_eq_false x2];simp)
     repeat (first|(simp -implicitDefEqProofs only [go_sem,Nat.reduceAdd,Nat.reduceMul,Nat.reduceEqDiff,Nat.reduceLT,Nat.reduceLeDiff,reduceCtorEq,hA',hM',n0,g1,x1',x2',e,Int.toNat_natCast,List.length_map]))
    have x2':((8:Int)<(p[i].y.length:Int))=False:=eq_false (by omega)
    by_cases x3:p[i].z.length≤8
    case neg=>
     have x3':((8:Int)<(p[i].z.length:Int))=True:=eq_true (by omega)
     have e:fewB p m=false:=Qqy hA hM (by unfold few1;rw [decide_eq_false x3];simp)
     repeat (first|(simp -implicitDefEqProofs only [go_sem,Nat.reduceAdd,Nat.reduceMul,Nat.reduceEqDiff,Nat.reduceLT,Nat.reduceLeDiff,reduceCtorEq,hA',hM',n0,g1,x1',x2',x3',e,Int.toNat_natCast,List.length_map]))
    have x3':((8:Int)<(p[i].z.length:Int))=False:=eq_false (by omega)
    repeat (first|(simp -implicitDefEqProofs only [go_sem,Nat.reduceAdd,Nat.reduceMul,Nat.reduceEqDiff,Nat.reduceLT,Nat.reduceLeDiff,reduceCtorEq,hA',hM',n0,g1,hwk,x1',x2',x3',Int.toNat_natCast,List.length_map]))
    refine⟨⟨i+1,hA,by omega,Qx5 hA hall (by unfold few1;rw [decide_eq_true x1,decide_eq_true x2,decide_eq_true x3];rfl)⟩,by simp only;omega,Qa3 (by simp [Qad,lkp,ren1,ren0,Qan])⟩
   ·have hM':=leF hM
    have hle:((p.length:Int)≤(m:Int))=False:=eq_false (by omega)
    have e:fewB p m=false:=by unfold fewB;rw [decide_eq_false (show¬p.length≤m by omega),Bool.and_false]
    repeat (first|(simp -implicitDefEqProofs only [go_sem,Nat.reduceAdd,Nat.reduceMul,Nat.reduceEqDiff,Nat.reduceLT,Nat.reduceLeDiff,reduceCtorEq,hA',hM',hle,e,List.length_map]))
  ·have hA':=ltF hA
   obtain rfl:i=p.length:=by omega
   rw [List.take_length]at hall
   have e:fewB p m=decide (p.length≤m):=by
    unfold fewB
    by_cases c:p.length≤m
    ·rw [List.take_of_length_le (by omega),hall,Bool.true_and]
    ·rw [decide_eq_false c,Bool.and_false]
   have hle:decide ((p.length:Int)≤(m:Int))=decide (p.length≤m):=by rw [decide_eq_decide];omega
   repeat (first|(simp -implicitDefEqProofs only [go_sem,Nat.reduceAdd,Nat.reduceMul,Nat.reduceEqDiff,Nat.reduceLT,Nat.reduceLeDiff,reduceCtorEq,hA',hle,e,List.length_map]))
end Go.Proofs.YtlpiamlgibomhaaGreat
