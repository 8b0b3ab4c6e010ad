/-
  OF20, OF21, Dg, OA1, Dn, OA2, Dm, OA3, OA4, OA5, OA6, OA7, OA8, Dt, OA9, Db, OA10, Bw, OW1, OW2, OW3, OW4, OW5, OW6 (merged for the claim).
-/
import Derived.Test.YtnohfmdlaajpbaaGreatOF12
import Derived.Test.YtnohfmdlaajpbaaGreatUFd
import Derived.Test.YtnohfmdlaajpbaaGreatULD
import Derived.Test.YtnohfmdlaajpbaaGreatDgm
import Derived.Shelf.Spec.BitsCarry
set_option linter.unusedSimpArgs false
set_option linter.unusedVariables false
namespace Go.Proofs.YtnohfmdlaajpbaaGreat
open Go.Vl Go.RowKit Go.Dg
def pthA (p:Pg) (i k:Nat):List Sg:=mvP ((Qcg p k).getD i v0) ((p.as_.getD k ac0).mv.getD i mv0) (begT p k) (p.as_.getD k ac0).ln
def Qba (p:Pg) (i k:Nat):List Sg:=(List.range k).flatMap fun a=>pthA p i a
theorem Qmj (p:Pg) (i k:Nat):Qba p i (k+1)=Qba p i k++pthA p i k:=by simp [Qba,List.range_succ]
theorem Qoz (p:Pg) (i:Nat): ∀k,(Qba p i k).length≤5*k
 |0=>by simp [Qba]
 |k+1=>by
  rw [Qmj,List.length_append];have:=Qoz p i k;have:=Qec ((Qcg p k).getD i v0) ((p.as_.getD k ac0).mv.getD i mv0) (begT p k) (p.as_.getD k ac0).ln;unfold pthA;omega
theorem Zqt (l:List Sg):(((l.map sgV).flatMap PV.cells).all PV.okCell)=true:=by
 rw [List.all_flatMap,List.all_map,List.all_eq_true];intro _ _;rfl
theorem Q51 (l:List Sg):((l.map sgV).all fun e=>e.cells.length==6&&e.cells.all PV.okCell)=true:=by
 rw [List.all_map,List.all_eq_true];intro _ _;rfl
theorem rg5:List.range 0=[]∧List.range 1=[0]∧List.range 2=[0,1]∧List.range 3=[0,1,2]∧List.range 4=[0,1,2,3]∧List.range 5=[0,1,2,3,4]:=⟨rfl,rfl,rfl,rfl,rfl,rfl⟩
def bxs (L:Nat→List Sg) (n:Nat):List (Nat×Box):=(List.range n).map fun i=>(11+i,{els:=(L i).map sgV,esz:=6,ety:=159,fro:=0,live:=true,arr:=true})
def bsl (L:Nat→List Sg) (n:Nat):List PV:=(List.range n).map fun i=> .bs (11+i) 6 0 (L i).length
def idn (n j m:Nat):List (Nat×Nat):=(List.range n).map fun i=>(11+i,if i=j then m else 11+i)
theorem Q52 (p:Pg) (j k:Nat):((Qba p j k).length+(pthA p j k).length≤5*k+5)∧Qba p j (k+1)=Qba p j k++pthA p j k∧(Qba p j (k+1)).length=(Qba p j k).length+(pthA p j k).length:=by
 have hpl:=Qoz p j k;have hpl2:=Qec ((Qcg p k).getD j v0) ((p.as_.getD k ac0).mv.getD j mv0) (begT p k) (p.as_.getD k ac0).ln;have hps:=Qmj p j k;refine⟨by unfold pthA;omega,hps,by rw [hps,List.length_append]⟩
set_option maxRecDepth 100000 in
set_option maxHeartbeats 80000000 in
theorem Zx9 (p:Pg) (hp:okP p) (v:Qbd p=true) (h5:p.ns.length≤5):Qaf Tryz.prog 55 [pgV p] (.slc ((List.range p.ns.length).map fun i=>pV (Qba p i p.as_.length))):=by
 have hpa:=(Qc8 v).2.1;have hcr:=(Qc8 v).1;obtain⟨h1,hhl⟩:1≤p.ns.length∧p.hs.length=p.ns.length:=by
  unfold Qn2 at hcr;simp only [Bool.and_eq_true,decide_eq_true_eq]at hcr;omega
 have hne:p.hs≠ []:=by intro h;rw [h]at hhl;simp at hhl;omega
 have mk1:(((24:Nat):Int)*(p.ns.length:Int)≤281474976710656)=True:=eq_true (by omega);have hfm: ∀k,k<p.as_.length→(Qcg p k).length=p.ns.length:=fun k hk=>by
  unfold Qcg;by_cases h:k=0
  ·rw [if_pos h];exact hhl
  ·rw [if_neg h,List.length_map,((Qc8 v).2.2.1 (p.as_.getD (k-1) ac0) (by rw [List.getD_eq_getElem?_getD,List.getElem?_eq_getElem (by omega)];exact List.getElem_mem _)).2]
 have hl: ∀i k,((Qba p i k).map sgV).length=(Qba p i k).length:=fun i k=>List.length_map ..;have htk: ∀i,((Qba p i p.as_.length).map sgV).take (Qba p i p.as_.length).length=(Qba p i p.as_.length).map sgV:=fun i=>List.take_of_length_le (by simp);obtain hn|hn|hn|hn|hn:p.ns.length=1∨p.ns.length=2∨p.ns.length=3∨p.ns.length=4∨p.ns.length=5:=by omega
 all_goals (
  unfold pgV;simp only [hn,Int.cast_ofNat_Int,Int.natCast_one,rg5,List.map_cons,List.map_nil]at mk1 ⊢;refine Qab (tb:=[]) 44 [.tmp 2] [0,1,2,3,4,5,6,7,8,14,15,16,17,24,25,26] mixed Tryz.func55 rfl (by kernel_rfl) ?_;repeat simp -implicitDefEqProofs only [go_sem,seval,hn,decide_true,List.length_map,List.replicate,Int.cast_ofNat_Int]
  refine Qas mixed (fun k:{k:Nat // k≤p.as_.length}=>St.of [(1,.bp 0 3 0 0),(3,.bp 104 1 0 0),(4,.int .i64 (begT p k.1)),(14,.slc (p.as_.map acV)),(15,.int .i64 (p.as_.length:Int)),(16,.int .i64 (k.1:Int))] ([(0,{els:=[.agg [.slc (p.ns.map PV.str),.slc (p.hs.map v3PV),.slc (p.as_.map acV)]],esz:=3,ety:=26,fro:=0,live:=true,arr:=false}),(104,{els:=[.bs 103 1 0 p.ns.length],esz:=1,ety:=122,fro:=0,live:=true,arr:=false}),(103,{els:=bsl (fun i=>Qba p i k.1) p.ns.length,esz:=1,ety:=80,fro:=0,live:=true,arr:=false})]++bxs (fun i=>Qba p i k.1) p.ns.length)) (fun k=>p.as_.length-k.1) ⟨0,Nat.zero_le _⟩ ?_ ?_
  ·refine(Zny 103 rfl (by simp)).trans ?_;try refine(Qjp 103 0 11 6 159 rfl rfl rfl (by simp [PV.cells]) rfl rfl (by decide)).trans ?_
   try refine(Qjp 103 1 12 6 159 rfl rfl rfl (by simp [PV.cells]) rfl rfl (by decide)).trans ?_
   try refine(Qjp 103 2 13 6 159 rfl rfl rfl (by simp [PV.cells]) rfl rfl (by decide)).trans ?_
   try refine(Qjp 103 3 14 6 159 rfl rfl rfl (by simp [PV.cells]) rfl rfl (by decide)).trans ?_
   try refine(Qjp 103 4 15 6 159 rfl rfl rfl (by simp [PV.cells]) rfl rfl (by decide)).trans ?_
   refine Zc1 (θ:=[(0,0),(104,104),(103,103)]++idn p.ns.length 9 0) (by rw [hn];rfl) ?_ ?_
   ·simp [Qac,lkp,ren1,ren0,Qah,Zon]
   ·skip
    simp only [hn,bxs,bsl,rg5,List.map_cons,List.map_nil,Nat.reduceAdd,List.cons_append,List.nil_append,Nat.reduceLT,Nat.lt_irrefl,Nat.lt_succ_self,Nat.not_lt_zero,Nat.zero_lt_one,if_true,if_false];refine⟨.inl ⟨rfl,rfl,rfl,rfl,rfl,.inr ⟨rfl,_,_,rfl,rfl,rfl,rfl⟩⟩,.inl ⟨rfl,rfl,rfl,rfl,rfl,.inr ⟨rfl,_,_,rfl,rfl,rfl,rfl⟩⟩,.inr ⟨rfl,rfl,rfl,rfl,rfl,rfl,rfl,rfl⟩,?_⟩;repeat' (first|exact trivial|refine⟨.inl ⟨rfl,rfl,rfl,rfl,rfl,.inl ⟨rfl,rfl⟩⟩,?_⟩)
  ·rintro⟨k,hk⟩;simp only [hn,bxs,bsl,rg5,List.map_cons,List.map_nil,Nat.reduceAdd,List.cons_append,List.nil_append,Nat.reduceLT,Nat.lt_irrefl,Nat.lt_succ_self,Nat.not_lt_zero,Nat.zero_lt_one,if_true,if_false];by_cases hA:k<p.as_.length
   case neg=>
    have hA':=lt_F hA;obtain rfl:p.as_.length=k:=by omega
    unfold pV;repeat simp -implicitDefEqProofs only [go_sem,seval,hA',hl,htk,Nat.le_refl,decide_true]
   have hA':=lt_T hA;have n0:=nn_T k;have ga:=Qmk hA;have hwk:=wr_1 (n:=k) (by omega);have b0:=Qd3 v (k:=k) (by omega);have b1:=Qd3 v (k:=k+1) (by omega);have hw:IntKind.i64.wrap (begT p k+(p.as_.getD k ac0).ln)=begT p (k+1):=by rw [Qim hA]at b1 ⊢;exact Qag (by omega) (by omega)
   have hpt:=Q57 p k (begT p k);have hml:=(Qc8 v).2.2.1 (p.as_.getD k ac0) (by rw [List.getD_eq_getElem?_getD,List.getElem?_eq_getElem hA];exact List.getElem_mem _);have hf:=hfm k hA;have hY:=Qyi p k (begT p k) hA hne hp.h (fun i=>(hp.m i).1) hp.a (by omega);have hlO:=Qml (Qcg p k) (p.as_.getD k ac0).mv (begT p k) (p.as_.getD k ac0).ln;have hgO: ∀j,j<p.ns.length→(Qla (Qcg p k) (p.as_.getD k ac0).mv (begT p k) (p.as_.getD k ac0).ln)[j]? =some [pV (pthA p j k),.int .i64 (mvE ((Qcg p k).getD j v0) ((p.as_.getD k ac0).mv.getD j mv0) (begT p k) (p.as_.getD k ac0).ln)]:=fun j h=>Qmm _ _ _ _ (by omega);rw [hf]at hlO;unfold pgV at hpt hY;simp only [PV.cells]at hpt hY;repeat (first|simp -implicitDefEqProofs only [go_sem,seval,hA',n0,ga,Int.toNat_natCast]|(with_reducible refine Qaa hpt ?_ ?_ ?_);rfl;rfl)
   generalize Qla (Qcg p k) (p.as_.getD k ac0).mv (begT p k) (p.as_.getD k ac0).ln=OO at*;refine Qzi mixed hY rfl rfl _ rfl ([(1000000,104),(1000001,103),(1000002,600),(1000003,0),(1000004,503)]++idn p.ns.length 9 0) [1000000,1000001,1000002,1000003,1000004] rfl
    [(1,.bp 1000003 3 0 0),(3,.bp 1000000 1 0 0),(4,.int .i64 (begT p k)),(6,.bp 1000004 3 0 0),(7,.bp 1000002 1 0 0),(14,.slc (p.as_.map acV)),(15,.int .i64 (p.as_.length:Int)),(16,.int .i64 (k:Int))]
    (fun j:Nat=>[(1000000,{els:=[.bs 1000001 1 0 p.ns.length],esz:=1,ety:=122,fro:=0,live:=true,arr:=false}),(1000001,{els:=bsl (fun i=>if i<j then Qba p i (k+1)else Qba p i k) p.ns.length,esz:=1,ety:=80,fro:=0,live:=true,arr:=false}),(1000002,{els:=[.int .i64 (j:Int)],esz:=1,ety:=3,fro:=0,live:=true,arr:=false}),(1000003,{els:=[.agg [.slc (p.ns.map PV.str),.slc (p.hs.map v3PV),.slc (p.as_.map acV)]],esz:=3,ety:=26,fro:=0,live:=true,arr:=false}),(1000004,{els:=[.agg [.str (p.as_.getD k ac0).nm,.int .i64 (p.as_.getD k ac0).ln,.slc ((p.as_.getD k ac0).mv.map mvV)]],esz:=3,ety:=89,fro:=0,live:=true,arr:=false})]++bxs (fun i=>if i<j then Qba p i (k+1)else Qba p i k) p.ns.length) (by rw [hn];rfl) (by rw [hn];rfl) ?_ ?_ ?_ p.ns.length .normal (fun h=>by omega) (fun j _ _=>by simp [lkp]) ?_ rfl ?_
    ([(0,1000003),(104,1000000),(103,1000001),(503,1000004)]++idn p.ns.length 9 0)
    [(1,.bp 0 3 0 0),(3,.bp 104 1 0 0),(4,.int .i64 (begT p k)),(6,.bp 503 3 0 0),(14,.slc (p.as_.map acV)),(15,.int .i64 (p.as_.length:Int)),(16,.int .i64 (k:Int))]
    ([(0,{els:=[.agg [.slc (p.ns.map PV.str),.slc (p.hs.map v3PV),.slc (p.as_.map acV)]],esz:=3,ety:=26,fro:=0,live:=true,arr:=false}),(104,{els:=[.bs 103 1 0 p.ns.length],esz:=1,ety:=122,fro:=0,live:=true,arr:=false}),(103,{els:=bsl (fun i=>Qba p i (k+1)) p.ns.length,esz:=1,ety:=80,fro:=0,live:=true,arr:=false}),(503,{els:=[.agg [.str (p.as_.getD k ac0).nm,.int .i64 (p.as_.getD k ac0).ln,.slc ((p.as_.getD k ac0).mv.map mvV)]],esz:=3,ety:=89,fro:=0,live:=true,arr:=false})]++bxs (fun i=>Qba p i (k+1)) p.ns.length) (by rw [hn];rfl) (by rw [hn];rfl) ?_ ?_ (fun _=> ?_) (fun h=>by omega)
   ·simp [Qac,lkp,ren1,ren0,Qah]
   ·skip
    simp only [hn,bxs,bsl,rg5,List.map_cons,List.map_nil,Nat.reduceAdd,List.cons_append,List.nil_append,Nat.reduceLT,Nat.lt_irrefl,Nat.lt_succ_self,Nat.not_lt_zero,Nat.zero_lt_one,if_true,if_false];refine⟨.inl ⟨rfl,rfl,rfl,rfl,rfl,.inr ⟨rfl,_,_,rfl,rfl,rfl,rfl⟩⟩,.inr ⟨rfl,rfl,rfl,rfl,rfl,rfl,rfl,rfl⟩,.inl ⟨rfl,rfl,rfl,rfl,rfl,.inr ⟨rfl,_,_,rfl,rfl,rfl,rfl⟩⟩,.inl ⟨rfl,rfl,rfl,rfl,rfl,.inr ⟨rfl,_,_,rfl,rfl,rfl,rfl⟩⟩,.inl ⟨rfl,rfl,rfl,rfl,rfl,.inr ⟨rfl,_,_,rfl,rfl,rfl,rfl⟩⟩,?_⟩;repeat' (first|exact trivial|refine⟨.inl ⟨rfl,rfl,rfl,rfl,rfl,.inl ⟨rfl,rfl⟩⟩,?_⟩)
   ·simp [Qac,lkp,ren1,ren0,Qah,Qki]
   ·intro j args h;rw [hgO j (by rw [←hlO];exact(List.getElem?_eq_some_iff.1 h).1)]at h;cases h;rfl
   ·rintro j args hja hjs;have hj:j<p.ns.length:=by rw [←hlO];exact(List.getElem?_eq_some_iff.1 hja).1
    rw [hgO j hj]at hja;cases hja;have hwj:=wr_1 (n:=j) (by omega);obtain⟨q1,q2,q3⟩:=Q52 p j k;have hok:=Zqt (Qba p j k);have hok2:=Q51 (pthA p j k);have hl1:((pthA p j k).map sgV).length=(pthA p j k).length:=List.length_map ..;have k1:(((Qba p j k).length+(pthA p j k).length)*96≤140737488355328)=True:=eq_true (by omega);have k2:((Qba p j k).length+(pthA p j k).length≤maxLen)=True:=eq_true (by unfold maxLen;omega);have jb0:=nn_T j;have jb1:((j:Int)<(p.ns.length:Int))=True:=lt_T hj;rw [hn]at jb1 hj;unfold pV;obtain⟨J,hJ⟩: ∃J,J=j:=⟨j,rfl⟩;obtain rfl|rfl|rfl|rfl|rfl:j=0∨j=1∨j=2∨j=3∨j=4:=by omega
    all_goals (try (exfalso;omega))
    all_goals (
     simp only [hn,bxs,bsl,rg5,List.map_cons,List.map_nil,Nat.reduceAdd,List.cons_append,List.nil_append,Nat.reduceLT,Nat.lt_irrefl,Nat.lt_succ_self,Nat.not_lt_zero,Nat.zero_lt_one,if_true,if_false];repeat simp -implicitDefEqProofs only [go_sem,seval,pvars,List.toList_toArray]
     refine⟨by simp [lkp],?_⟩;repeat (first|simp -implicitDefEqProofs only [go_sem,seval,hwj,jb0,jb1,hl,hl1,hok,hok2,k1,k2,decide_true,Bool.and_self,Int.toNat_natCast]|(with_reducible refine And.intro (Qad _ _ (by kernel_rfl)) ?_))
     refine⟨by decide,?_⟩;simp only [hn,bxs,bsl,rg5,List.map_cons,List.map_nil,Nat.reduceAdd,List.cons_append,List.nil_append,Nat.reduceLT,Nat.lt_irrefl,Nat.lt_succ_self,Nat.not_lt_zero,Nat.zero_lt_one,if_true,if_false];simp only [q2,List.map_append,List.length_append];refine Zc1 (θ:=[(1000000,1000000),(1000001,1000001),(1000002,1000002),(1000003,1000003),(1000004,1000004)]++idn p.ns.length J 907) (by rw [hn,hJ];rfl) ?_ ?_
     ·simp [Qac,lkp,ren1,ren0,Qah]
     ·rw [hn,hJ];refine⟨.inl ⟨rfl,rfl,rfl,rfl,rfl,.inr ⟨rfl,_,_,rfl,rfl,rfl,rfl⟩⟩,.inr ⟨rfl,rfl,rfl,rfl,rfl,rfl,rfl,rfl⟩,.inl ⟨rfl,rfl,rfl,rfl,rfl,.inr ⟨rfl,_,_,rfl,rfl,rfl,rfl⟩⟩,.inl ⟨rfl,rfl,rfl,rfl,rfl,.inr ⟨rfl,_,_,rfl,rfl,rfl,rfl⟩⟩,.inl ⟨rfl,rfl,rfl,rfl,rfl,.inr ⟨rfl,_,_,rfl,rfl,rfl,rfl⟩⟩,?_⟩;repeat' (first|exact trivial|refine⟨.inl ⟨rfl,rfl,rfl,rfl,rfl,.inl ⟨rfl,rfl⟩⟩,?_⟩)
     )
   ·simp [Qac,lkp,ren1,ren0,Qah]
   ·have hm:min OO.length (p.ns.length+1)=p.ns.length:=by omega
    rw [hm];simp only [hn,bxs,bsl,rg5,List.map_cons,List.map_nil,Nat.reduceAdd,List.cons_append,List.nil_append,Nat.reduceLT,Nat.lt_irrefl,Nat.lt_succ_self,Nat.not_lt_zero,Nat.zero_lt_one,if_true,if_false];refine⟨.inl ⟨rfl,rfl,rfl,rfl,rfl,.inr ⟨rfl,_,_,rfl,rfl,rfl,rfl⟩⟩,.inl ⟨rfl,rfl,rfl,rfl,rfl,.inr ⟨rfl,_,_,rfl,rfl,rfl,rfl⟩⟩,.inr ⟨rfl,rfl,rfl,rfl,rfl,rfl,rfl,rfl⟩,.inl ⟨rfl,rfl,rfl,rfl,rfl,.inr ⟨rfl,_,_,rfl,rfl,rfl,rfl⟩⟩,?_⟩;repeat' (first|exact trivial|refine⟨.inl ⟨rfl,rfl,rfl,rfl,rfl,.inl ⟨rfl,rfl⟩⟩,?_⟩)
   ·skip
    simp only [hn,bxs,bsl,rg5,List.map_cons,List.map_nil,Nat.reduceAdd,List.cons_append,List.nil_append,Nat.reduceLT,Nat.lt_irrefl,Nat.lt_succ_self,Nat.not_lt_zero,Nat.zero_lt_one,if_true,if_false];repeat simp -implicitDefEqProofs only [go_sem,seval,hw,hwk]
    refine⟨⟨k+1,hA⟩,by simp only;omega,?_⟩;refine Zc1 (θ:=[(0,0),(104,104),(103,103)]++idn p.ns.length 9 0) (by rw [hn];rfl) ?_ ?_
    ·simp [Qac,lkp,ren1,ren0,Qah]
    ·skip
     simp only [hn,bxs,bsl,rg5,List.map_cons,List.map_nil,Nat.reduceAdd,List.cons_append,List.nil_append,Nat.reduceLT,Nat.lt_irrefl,Nat.lt_succ_self,Nat.not_lt_zero,Nat.zero_lt_one,if_true,if_false];refine⟨.inl ⟨rfl,rfl,rfl,rfl,rfl,.inr ⟨rfl,_,_,rfl,rfl,rfl,rfl⟩⟩,.inl ⟨rfl,rfl,rfl,rfl,rfl,.inr ⟨rfl,_,_,rfl,rfl,rfl,rfl⟩⟩,.inr ⟨rfl,rfl,rfl,rfl,rfl,rfl,rfl,rfl⟩,?_⟩;repeat' (first|exact trivial|refine⟨.inl ⟨rfl,rfl,rfl,rfl,rfl,.inl ⟨rfl,rfl⟩⟩,?_⟩)
  skip)
def allL (p:Pg):List PV:=(List.range p.ns.length).map fun i=>pV (Qba p i p.as_.length)
theorem Qyf (p:Pg):(allL p).length=p.ns.length:=by simp [allL]
theorem Qyg {p:Pg} {i:Nat} (h:i<p.ns.length):(allL p)[i]? =some (pV (Qba p i p.as_.length)):=by simp [allL,h]
theorem Zya (p:Pg) (hf:FewP p) (v:Qbd p=true):Qaf Tryz.prog 55 [pgV p] (.slc (allL p)):=Zx9 p (Qgb hf) v hf.1
def Qil (p:Pg) (i:Int):Int:=if Qbd p=true then(if 0≤i∧i<(p.ns.length:Int)then(if p.as_.length=0 then 9 else 0)else 3)else 2
def Zqu (p:Pg) (i:Int):List Sg:=if Qil p i=0 then Qba p i.toNat p.as_.length else []
theorem Zyb (p:Pg) (hf:FewP p) (i:Int):Qaf Tryz.prog 28 [pgV p,.int .i64 i] (.tup [pV (Zqu p i),.int .i64 (Qil p i)]):=by
 have ok:=Qgb hf;have hV:=Qgc p ok;unfold Zqu;cases e:Qbd p with
 |false=>
  have e2:Qil p i=2:=by unfold Qil;rw [e,if_neg Bool.false_ne_true]
  rw [e2,if_neg (by decide)];rw [e]at hV;unfold pV;unfold pgV at hV ⊢;refine Qab (tb:=[]) 30 [.tmp 4,.tmp 5] [0,1,2,4,5,6,10,20] mixed Tryz.func28 rfl (by kernel_rfl) ?_;repeat (first|simp -implicitDefEqProofs only [go_sem,seval,Bool.not_false]|(with_reducible refine Qaa hV ?_ ?_ ?_);rfl;rfl)
 |true=>
 rw [e]at hV;have hA:=Zya p hf e;by_cases h1:0≤i
 case neg=>
  have h1':(i<0)=True:=eq_true (by omega);have e2:Qil p i=3:=by unfold Qil;rw [e,if_pos rfl,if_neg (by omega)]
  rw [e2,if_neg (by decide)];unfold pV;unfold pgV at hV ⊢;refine Qab (tb:=[]) 30 [.tmp 4,.tmp 5] [0,1,2,4,5,6,10,20] mixed Tryz.func28 rfl (by kernel_rfl) ?_;repeat (first|simp -implicitDefEqProofs only [go_sem,seval,Bool.not_true,h1',decide_true]|(with_reducible refine Qaa hV ?_ ?_ ?_);rfl;rfl)
 have h1':(i<0)=False:=eq_false (by omega);by_cases h2:i<(p.ns.length:Int)
 case neg=>
  have h2':((p.ns.length:Int)≤i)=True:=eq_true (by omega);have e2:Qil p i=3:=by unfold Qil;rw [e,if_pos rfl,if_neg (by omega)]
  rw [e2,if_neg (by decide)];unfold pV;unfold pgV at hV ⊢;refine Qab (tb:=[]) 30 [.tmp 4,.tmp 5] [0,1,2,4,5,6,10,20] mixed Tryz.func28 rfl (by kernel_rfl) ?_;repeat (first|simp -implicitDefEqProofs only [go_sem,seval,Bool.not_true,h1',h2',decide_true,decide_false,List.length_map]|(with_reducible refine Qaa hV ?_ ?_ ?_);rfl;rfl)
 have h2':((p.ns.length:Int)≤i)=False:=eq_false (by omega);by_cases h3:p.as_.length=0
 ·have h3':((p.as_.length:Int)==0)=true:=by rw [h3];rfl
  have e2:Qil p i=9:=by unfold Qil;rw [e,if_pos rfl,if_pos ⟨h1,h2⟩,if_pos h3]
  rw [e2,if_neg (by decide)];unfold pV;unfold pgV at hV ⊢;refine Qab (tb:=[]) 30 [.tmp 4,.tmp 5] [0,1,2,4,5,6,10,20] mixed Tryz.func28 rfl (by kernel_rfl) ?_;repeat (first|simp -implicitDefEqProofs only [go_sem,seval,Bool.not_true,h1',h2',h3',decide_true,decide_false,List.length_map]|(with_reducible refine Qaa hV ?_ ?_ ?_);rfl;rfl)
 have h3':((p.as_.length:Int)==0)=false:=beq_eq_false_iff_ne.2 (by omega);have e2:Qil p i=0:=by unfold Qil;rw [e,if_pos rfl,if_pos ⟨h1,h2⟩,if_neg h3]
 rw [e2,if_pos rfl];obtain⟨j,rfl⟩: ∃j:Nat,i=(j:Int):=⟨i.toNat,by omega⟩;have nj:=nn_T j;have hg:=Qyg (p:=p) (i:=j) (by omega);have hll:=Qyf p;have hlt:((j:Int)<(p.ns.length:Int))=True:=eq_true h2;unfold pV at hg ⊢;generalize allL p=AL at*;unfold pgV at hV hA ⊢;simp only [Int.toNat_natCast];refine Qab (tb:=[]) 30 [.tmp 4,.tmp 5] [0,1,2,4,5,6,10,20] mixed Tryz.func28 rfl (by kernel_rfl) ?_;repeat (first|simp -implicitDefEqProofs only [go_sem,seval,Bool.not_true,h1',h2',h3',nj,hg,decide_true,decide_false,Int.toNat_natCast,List.length_map]|(with_reducible refine Qaa hV ?_ ?_ ?_);rfl;rfl|(with_reducible refine Qaa hA ?_ ?_ ?_);rfl;rfl)
end Go.Proofs.YtnohfmdlaajpbaaGreat

namespace Go.Dg
def digs (B n:Nat):List Nat:=if h:n=0∨B<2 then []else n%B::digs B (n/B)
termination_by n
decreasing_by
 simp only [not_or,Nat.not_lt]at h;exact Nat.div_lt_self (Nat.pos_of_ne_zero h.1) h.2
def val (B:Nat):List Nat→Nat
 | []=>0
 |d::l=>d+B*val B l
section
variable {B:Nat}
theorem Qbi:digs B 0=[]:=by unfold digs;simp
theorem Qf7 (hB:2≤B) {n:Nat} (hn:n≠0):digs B n=n%B::digs B (n/B):=by
 conv=>lhs;unfold digs
 rw [dif_neg];simp only [not_or,Nat.not_lt];exact⟨hn,hB⟩
theorem Qxp (hB:2≤B) (n:Nat):val B (digs B n)=n:=by
 induction n using Nat.strongRecOn with
 |_ n ih=>
  by_cases hn:n=0
  ·subst hn;rw [Qbi];rfl
  ·rw [Qf7 hB hn];simp only [val];rw [ih _ (Nat.div_lt_self (Nat.pos_of_ne_zero hn) hB)];exact Nat.mod_add_div n B
theorem Qpu (hB:2≤B) (n k:Nat):(digs B n)[k]? =if n/B^k=0 then none else some (n/B^k%B):=by
 induction k generalizing n with
 |zero=>
  by_cases hn:n=0
  ·subst hn;simp [Qbi]
  ·rw [Qf7 hB hn];simp [hn]
 |succ k ih=>
  by_cases hn:n=0
  ·subst hn;simp [Qbi]
  ·rw [Qf7 hB hn,List.getElem?_cons_succ,ih];have:n/B/B^k=n/B^(k+1):=by rw [Nat.div_div_eq_div_mul,Nat.pow_succ,Nat.mul_comm]
   rw [this]
theorem Qc7 (hB:2≤B) (n k:Nat):k<(digs B n).length↔n/B^k≠0:=by
 have:=Qpu hB n k;constructor
 ·intro h hz;rw [if_pos hz,List.getElem?_eq_none_iff]at this;omega
 ·intro h;rw [if_neg h]at this;exact(List.getElem?_eq_some_iff.1 this).1
theorem Qaw (hB:2≤B) (n k:Nat):(digs B n).length≤k↔n<B^k:=by
 have h:=Qc7 hB n k;have hp:0<B^k:=Nat.pow_pos (by omega);rw [←Nat.not_lt,h,Decidable.not_not,Nat.div_eq_zero_iff];omega
theorem Qbg (hB:2≤B) (n:Nat):n<B^(digs B n).length:=(Qaw hB n _).1 (Nat.le_refl _)
theorem Qax (hB:2≤B) {n k:Nat} (h:k<(digs B n).length):(digs B n)[k]? =some (n/B^k%B):=by
 rw [Qpu hB,if_neg ((Qc7 hB n k).1 h)]
theorem Quk (hB:2≤B) {n d:Nat} (h:d∈digs B n):d<B:=by
 obtain⟨k,hk⟩:=List.mem_iff_getElem?.1 h;rw [Qpu hB]at hk;split at hk
 ·cases hk
 ·cases hk;exact Nat.mod_lt _ (by omega)
theorem Qck (hB:2≤B) {n k:Nat} (h:(digs B n).length≤k):n/B^k=0:=by
 have:=(Qaw hB n k).1 h;exact Nat.div_eq_of_lt this
theorem Qbm (hB:2≤B) {n:Nat}:digs B n=[]↔n=0:=by
 constructor
 ·intro h;have:=Qxp hB n;rw [h]at this;exact this.symm
 ·rintro rfl;exact Qbi
def lows (B n i:Nat):List Nat:=(List.range i).map fun k=>n/B^k%B
theorem Qam (n i:Nat):(lows B n i).length=i:=by simp [lows]
theorem Qbw (n i k:Nat) (h:k<i):(lows B n i)[k]? =some (n/B^k%B):=by simp [lows,h]
theorem Qr0 (n i:Nat):lows B n (i+1)=n%B::lows B (n/B) i:=by
 simp only [lows,List.range_succ_eq_map,List.map_cons,Nat.pow_zero,Nat.div_one,List.map_map];congr 1;apply List.map_congr_left;intro k _;simp only [Function.comp,Nat.succ_eq_add_one];rw [Nat.div_div_eq_div_mul,Nat.pow_succ,Nat.mul_comm]
theorem Zea (hB:0<B) (n i:Nat):val B (lows B n i)=n%B^i:=by
 induction i generalizing n with
 |zero=>simp [lows,val,Nat.mod_one]
 |succ i ih=>
  rw [Qr0];simp only [val];rw [ih,Nat.pow_succ,Nat.mul_comm (B^i) B,Nat.mod_mul]
theorem Qia (hB:2≤B) (n:Nat):lows B n (digs B n).length=digs B n:=by
 apply List.ext_getElem?;intro k;by_cases hk:k<(digs B n).length
 ·rw [Qbw _ _ _ hk,Qax hB hk]
 ·rw [List.getElem?_eq_none (by rw [Qam];omega),List.getElem?_eq_none (by omega)]
def Qf4 (l:List Nat):List Nat:=(l.reverse.dropWhile (· ==0)).reverse
theorem Qei (l:List Nat):Qf4 (l++[0])=Qf4 l:=by simp [Qf4]
theorem Qjr (l:List Nat) {d:Nat} (h:d≠0):Qf4 (l++[d])=l++[d]:=by simp [Qf4,h]
theorem Q33:Qf4 []=[]:=rfl
theorem Qos (l m:List Nat):val B (l++m)=val B l+B^l.length*val B m:=by
 induction l with
 |nil=>simp [val]
 |cons d l ih=>
  simp only [List.cons_append,val,ih,List.length_cons,Nat.pow_succ];rw [Nat.mul_add,Nat.add_assoc,←Nat.mul_assoc,Nat.mul_comm B (B^l.length)]
theorem Zwr (hB:0<B) {l:List Nat} (h: ∀d∈l,d<B):val B l<B^l.length:=by
 induction l with
 |nil=>simp [val]
 |cons d l ih=>
  have h1:=ih fun x hx=>h x (by simp [hx]);have h2:=h d (by simp);simp only [val,List.length_cons,Nat.pow_succ];have:B*val B l+B≤B*B^l.length:=by rw [←Nat.mul_succ];exact Nat.mul_le_mul_left _ h1
  rw [Nat.mul_comm (B^l.length)];omega
theorem Zeb (hB:2≤B) {l:List Nat} (h: ∀d∈l,d<B):lows B (val B l) l.length=l:=by
 induction l with
 |nil=>rfl
 |cons d l ih=>
  have h2:=h d (by simp);rw [List.length_cons,Qr0];simp only [val];rw [Nat.add_mul_mod_self_left,Nat.mod_eq_of_lt h2,Nat.add_mul_div_left _ _ (by omega),Nat.div_eq_of_lt h2,Nat.zero_add,ih fun x hx=>h x (by simp [hx])]
theorem Qxq (hB:2≤B) (l:List Nat) (h: ∀d∈l,d<B):Qf4 l=digs B (val B l):=by
 have key: ∀n,∀l:List Nat,l.length=n→(∀d∈l,d<B)→Qf4 l=digs B (val B l):=by
  intro n
  induction n with
  |zero=>intro l hl _;rw [List.length_eq_zero_iff.1 hl];simp [Q33,val,Qbi]
  |succ n ih=>
   intro l hl h;have hne:l≠ []:=by rintro rfl;simp at hl
   have hcut:=List.dropLast_concat_getLast hne;generalize l.dropLast=m at hcut;generalize l.getLast hne=d at hcut;subst hcut;have hm:m.length=n:=by simpa using hl
   have hmd: ∀x∈m,x<B:=fun x hx=>h x (by simp [hx]);by_cases hd:d=0
   ·subst hd;rw [Qei,ih m hm hmd,Qos];simp [val]
   ·rw [Qjr m hd];have hlen:(digs B (val B (m++[d]))).length=(m++[d]).length:=by
     apply Nat.le_antisymm
     ·exact(Qaw hB _ _).2 (Zwr (by omega) h)
     ·have:(m++[d]).length=m.length+1:=by simp
      rw [this];apply (Qc7 hB _ _).2;rw [Qos];simp only [val,Nat.mul_zero,Nat.add_zero];rw [Nat.add_mul_div_left _ _ (Nat.pow_pos (by omega))];exact fun e=>hd (Nat.eq_zero_of_add_eq_zero_left e)
    have:=Qia hB (val B (m++[d]));rw [hlen,Zeb hB h]at this;exact this
 exact key l.length l rfl h
theorem Qb8 (hB:2≤B) (n i:Nat):Qf4 (lows B n i)=digs B (n%B^i):=by
 rw [Qxq hB,Zea (by omega)];intro d hd;simp only [lows,List.mem_map]at hd;obtain⟨k,_,rfl⟩:=hd;exact Nat.mod_lt _ (by omega)
end
end Go.Dg

namespace Go.Proofs.YtnohfmdlaajpbaaGreat
open Go.Vl Go.RowKit Go.Dg
theorem wrapn {n:Nat} (h:n<9223372036854775808):IntKind.i64.wrap (n:Int)=n:=Qag (by omega) (by omega)
theorem Qsd {n:Nat} (h:n<9223372036854775808):IntKind.i64.wrap (((n+1:Nat):Int)-1)=(n:Int):=by
 rw [Qag (by omega) (by omega)];omega
theorem Qse:maxLen<9223372036854775808:=by simp [maxLen]
end Go.Proofs.YtnohfmdlaajpbaaGreat

namespace Go.Dg
section
variable {B:Nat}
def carry (B a b i:Nat):Nat:=(a%B^i+b%B^i)/B^i
theorem Qou (a b:Nat):carry B a b 0=0:=by simp [carry,Nat.mod_one]
theorem Qxv (hB:0<B) (a b i:Nat):carry B a b i≤1:=by
 have hp:0<B^i:=Nat.pow_pos hB;have h1:=Nat.mod_lt a hp;have h2:=Nat.mod_lt b hp;unfold carry;rw [Nat.div_le_iff_le_mul hp];omega
theorem Qxw (hB:0<B) (a b i:Nat):(a/B^i%B+b/B^i%B+carry B a b i)%B=(a+b)/B^i%B∧(a/B^i%B+b/B^i%B+carry B a b i)/B=carry B a b (i+1):=by
 have hp:0<B^i:=Nat.pow_pos hB;unfold carry;generalize hP:B^i=P at*;have e1:(a+b)/P=a/P+b/P+(a%P+b%P)/P:=by
  conv=>lhs;rw [←Nat.div_add_mod a P,←Nat.div_add_mod b P]
  have:P*(a/P)+a%P+(P*(b/P)+b%P)=(a%P+b%P)+P*(a/P+b/P):=by rw [Nat.mul_add];omega
  rw [this,Nat.add_mul_div_left _ _ hp];omega
 constructor
 ·rw [e1]
  conv=>rhs;rw [Nat.add_mod,Nat.add_mod (a/P)]
  conv=>lhs;rw [Nat.add_mod,Nat.add_mod (a/P%B)]
  simp
 ·have hP1:B^(i+1)=P*B:=by rw [Nat.pow_succ,hP]
  rw [hP1,Nat.mod_mul,Nat.mod_mul];have:a%P+P*(a/P%B)+(b%P+P*(b/P%B))=(a%P+b%P)+P*(a/P%B+b/P%B):=by rw [Nat.mul_add];omega
  rw [this,←Nat.div_div_eq_div_mul,Nat.add_mul_div_left _ _ hp];congr 1;omega
theorem Q4j (hB:2≤B) {n i:Nat} (h1:n<B^i) (h2: ∀j,j<i→n/B^j≠0):lows B n i=digs B n:=by
 have hl:(digs B n).length=i:=by
  apply Nat.le_antisymm ((Qaw hB n i).2 h1);rcases Nat.eq_zero_or_pos i with rfl|hi
  ·exact Nat.zero_le _
  ·have:=(Qc7 hB n (i-1)).2 (h2 (i-1) (by omega));omega
 rw [←hl,Qia hB]
end
end Go.Dg

namespace Go.Proofs.YtnohfmdlaajpbaaGreat
open Go.Vl Go.RowKit Go.Dg
theorem Qg5 {a b:Nat} (h:a+b<9223372036854775808):IntKind.i64.wrap ((a:Int)+(b:Int))=((a+b:Nat):Int):=by
 rw [Qag (by omega) (by omega)];omega
theorem Qa7 {a:Nat} (h:a+1<9223372036854775808):IntKind.i64.wrap ((a:Int)+1)=((a+1:Nat):Int):=by
 rw [Qag (by omega) (by omega)];omega
end Go.Proofs.YtnohfmdlaajpbaaGreat

namespace Go.Dg
section
variable {B:Nat}
def cmpN (a b:Nat):Int:=if a<b then -1 else if b<a then 1 else 0
theorem Zpg {a b:Nat} (h:a<b):cmpN a b= -1:=by simp [cmpN,h]
theorem Zph {a b:Nat} (h:b<a):cmpN a b=1:=by simp [cmpN,h];omega
theorem Zpi (a:Nat):cmpN a a=0:=by simp [cmpN]
theorem Zn3 (hB:2≤B) {a b:Nat} (h:(digs B a).length<(digs B b).length):a<b:=by
 have h1:=Qbg hB a;have h2:=(Qc7 hB b _).1 h;have h3:=Nat.div_eq_zero_iff (a:=b) (b:=B^(digs B a).length);have:0<B^(digs B a).length:=Nat.pow_pos (by omega);omega
theorem Qif (hB:0<B) (a i:Nat):a/B^i=B*(a/B^(i+1))+a/B^i%B:=by
 rw [Nat.pow_succ,←Nat.div_div_eq_div_mul];exact(Nat.div_add_mod _ _).symm
theorem Qr4 (hB:0<B) {a b i:Nat} (h:a/B^(i+1)=b/B^(i+1)) (hd:a/B^i%B<b/B^i%B):a<b:=by
 have h1:=Qif hB a i;have h2:=Qif hB b i;rw [h]at h1;apply Nat.lt_of_not_le;intro hle;have:=Nat.div_le_div_right (c:=B^i) hle;omega
theorem Qzv (hB:0<B) {a b i:Nat} (h:a/B^(i+1)=b/B^(i+1)) (hd:a/B^i%B=b/B^i%B):a/B^i=b/B^i:=by
 rw [Qif hB a i,Qif hB b i,h,hd]
def bor (B a b i:Nat):Nat:=if a%B^i<b%B^i then 1 else 0
theorem Qxr (a b:Nat):bor B a b 0=0:=by simp [bor,Nat.mod_one]
theorem Qxs (a b i:Nat):bor B a b i≤1:=by unfold bor;split<;>omega
theorem Q4h (hB:0<B) {a b:Nat} (h:b≤a) (i:Nat):(a-b)/B^i+b/B^i+bor B a b i=a/B^i:=by
 have hp:0<B^i:=Nat.pow_pos hB;unfold bor;generalize B^i=P at*;have ha:=Nat.div_add_mod a P;have hb:=Nat.div_add_mod b P;have hm1:=Nat.mod_lt a hp;have hm2:=Nat.mod_lt b hp;have hle:b/P≤a/P:=Nat.div_le_div_right h;generalize a/P=x at*;generalize b/P=y at*;generalize a%P=r at*;generalize b%P=s at*;obtain⟨z,rfl⟩:=Nat.exists_eq_add_of_le hle;rw [Nat.mul_add]at ha;split
 ·rename_i hlt;have hz:z≠0:=by rintro rfl;rw [Nat.mul_zero]at ha;omega
  obtain⟨z',rfl⟩:=Nat.exists_eq_succ_of_ne_zero hz;have e:a-b=(P+r-s)+P*z':=by rw [Nat.mul_succ]at ha;omega
  rw [e,Nat.add_mul_div_left _ _ hp,Nat.div_eq_of_lt (by omega)];omega
 ·rename_i hlt;have e:a-b=(r-s)+P*z:=by omega
  rw [e,Nat.add_mul_div_left _ _ hp,Nat.div_eq_of_lt (by omega)];omega
theorem Qxt (hB:2≤B) {a b:Nat} (h:b≤a) (i:Nat):
  (a-b)/B^i%B+b/B^i%B+bor B a b i=a/B^i%B+B*bor B a b (i+1):=by
 have hB0:0<B:=by omega
 have h1:=Q4h hB0 h i;have h2:=Q4h hB0 h (i+1);have e1:=Qif hB0 (a-b) i;have e2:=Qif hB0 b i;have e3:=Qif hB0 a i;have hm:=Nat.mul_add B ((a-b)/B^(i+1)+b/B^(i+1)) (bor B a b (i+1));have hm2:=Nat.mul_add B ((a-b)/B^(i+1)) (b/B^(i+1));rw [h2]at hm;omega
def mix (B V S n m:Nat):List Nat:=(List.range n).map fun j=>if j<m then V/B^j%B else S/B^j%B
theorem Qbn (V S n m:Nat):(mix B V S n m).length=n:=by simp [mix]
theorem Qdj (V S n m j:Nat) (h:j<n):(mix B V S n m)[j]? =some (if j<m then V/B^j%B else S/B^j%B):=by simp [mix,h]
theorem Qma (hB:0<B) {V W m j:Nat} (h:V%B^m=W%B^m) (hj:j<m):V/B^j%B=W/B^j%B:=by
 have key: ∀n,n/B^j%B=(n%B^m)/B^j%B:=by
  intro n;have e:B^m=B^j*(B*B^(m-j-1)):=by
   rw [←Nat.mul_assoc,←Nat.pow_succ,←Nat.pow_add];congr 1;omega
  rw [e,Nat.mod_mul_right_div_self,Nat.mod_mul_right_mod]
 rw [key V,key W,h]
theorem Qej (hB:0<B) {V W S n m d:Nat} (hm:m<n) (h:V%B^m=W%B^m) (hd:W/B^m%B=d):(mix B V S n m).set m d=mix B W S n (m+1):=by
 apply List.ext_getElem?;intro j;rw [List.getElem?_set];by_cases hj:j<n
 ·rw [Qdj _ _ _ _ _ hj,Qdj _ _ _ _ _ hj,Qbn];by_cases e:m=j
  ·subst e;simp [hj,hd]
  ·simp only [e,if_false];by_cases hlt:j<m
   ·rw [if_pos hlt,if_pos (by omega),Qma hB h hlt]
   ·rw [if_neg hlt,if_neg (by omega)]
 ·rw [List.getElem?_eq_none (by rw [Qbn];omega),List.getElem?_eq_none (by rw [Qbn];omega),Qbn];simp;omega
theorem Qf8 {V S n m:Nat} (hB:0<B) (h:V/B^m=S/B^m):mix B V S n m=lows B V n:=by
 apply List.map_congr_left;intro j _;split
 ·rfl
 ·rename_i hj;obtain⟨k,rfl⟩:=Nat.exists_eq_add_of_le (Nat.le_of_not_lt hj);rw [Nat.pow_add,←Nat.div_div_eq_div_mul,←Nat.div_div_eq_div_mul,h]
theorem Qlj (V S n:Nat):mix B V S n 0=lows B S n:=by simp [mix,lows]
def mulV (B S x i b k:Nat):Nat:=S+x*B^i*(b%B^k)
theorem Qr5 (S x i b:Nat):mulV B S x i b 0=S:=by simp [mulV,Nat.mod_one]
theorem Qr6 (S x i b k:Nat):mulV B S x i b (k+1)=mulV B S x i b k+x*(b/B^k%B)*B^(i+k):=by
 unfold mulV;rw [Nat.pow_succ,Nat.mod_mul,Nat.mul_add,Nat.pow_add];have:x*B^i*(B^k*(b/B^k%B))=x*(b/B^k%B)*(B^i*B^k):=by
  simp only [Nat.mul_assoc,Nat.mul_comm,Nat.mul_left_comm]
 rw [this];omega
def mulC (B S x i b k:Nat):Nat:=mulV B S x i b k/B^(i+k)-S/B^(i+k)
theorem Zpj (S x i b k:Nat):S≤mulV B S x i b k:=Nat.le_add_right _ _
theorem Qp3 (S x i b k:Nat):mulC B S x i b k+S/B^(i+k)=mulV B S x i b k/B^(i+k):=by
 have:=Nat.div_le_div_right (c:=B^(i+k)) (Zpj (B:=B) S x i b k);unfold mulC;omega
theorem Qr7 (S x i b:Nat):mulC B S x i b 0=0:=by simp [mulC,Qr5]
theorem Qxu (hB:0<B) (S x i b k:Nat):
  (S/B^(i+k)%B+mulC B S x i b k+x*(b/B^k%B))%B=mulV B S x i b (k+1)/B^(i+k)%B∧
  (S/B^(i+k)%B+mulC B S x i b k+x*(b/B^k%B))/B=mulC B S x i b (k+1):=by
 have hp:0<B^(i+k):=Nat.pow_pos hB;have h1:=Qp3 (B:=B) S x i b k;have e1:mulV B S x i b (k+1)/B^(i+k)=(S/B^(i+k)%B+mulC B S x i b k+x*(b/B^k%B))+B*(S/B^(i+k+1)):=by
  rw [Qr6,Nat.add_mul_div_right _ _ hp,←h1];have:=Qif hB S (i+k);omega
 constructor
 ·rw [e1,Nat.add_mul_mod_self_left]
 ·have h2:=Qp3 (B:=B) S x i b (k+1);have e2:mulV B S x i b (k+1)/B^(i+(k+1))=mulV B S x i b (k+1)/B^(i+k)/B:=by
   rw [Nat.div_div_eq_div_mul,←Nat.pow_succ];rfl
  rw [e1,Nat.add_mul_div_left _ _ hB]at e2;have e3:S/B^(i+(k+1))=S/B^(i+k+1):=rfl;omega
theorem Zed (S x i b k:Nat):mulV B S x i b k%B^(i+k)=mulV B S x i b (k+1)%B^(i+k):=by
 rw [Qr6,Nat.add_mul_mod_self_right]
theorem Q4i (a i b k:Nat) (hk:b<B^k):mulV B (a%B^i*b) (a/B^i%B) i b k=a%B^(i+1)*b:=by
 unfold mulV;rw [Nat.mod_eq_of_lt hk,Nat.pow_succ,Nat.mod_mul,Nat.add_mul];congr 1;rw [Nat.mul_comm (a/B^i%B)]
theorem Zpk (hB:0<B) {S x i b k:Nat} (hx:x<B):mulC B S x i b k<B:=by
 induction k with
 |zero=>rw [Qr7];exact hB
 |succ k ih=>
  rw [←(Qxu hB S x i b k).2,Nat.div_lt_iff_lt_mul hB];have h1:S/B^(i+k)%B<B:=Nat.mod_lt _ hB;have h2:b/B^k%B<B:=Nat.mod_lt _ hB;have h3:x*(b/B^k%B)≤(B-1)*(B-1):=Nat.mul_le_mul (by omega) (by omega);have h4:B*B=(B-1)*(B-1)+2*(B-1)+1:=by
   obtain⟨c,rfl⟩: ∃c,B=c+1:=⟨B-1,by omega⟩;simp only [Nat.add_sub_cancel,Nat.add_mul,Nat.mul_add];omega
  omega
end
end Go.Dg

namespace Go.Proofs.YtnohfmdlaajpbaaGreat
open Go.Vl Go.RowKit Go.Dg
end Go.Proofs.YtnohfmdlaajpbaaGreat

namespace Go.Dg
variable {B:Nat}
theorem Qxy {V S N i d:Nat} (hi:i<N) (hd:S/B^i%B=d):(mix B V S N (i+1)).set i d=mix B V S N i:=by
 apply List.ext_getElem?;intro j;rw [List.getElem?_set];by_cases hj:j<N
 ·rw [Qdj _ _ _ _ _ hj,Qdj _ _ _ _ _ hj,Qbn];by_cases e:i=j
  ·subst e;simp [hj,hd]
  ·simp only [e,if_false];by_cases hlt:j<i
   ·rw [if_pos (by omega),if_pos hlt]
   ·rw [if_neg (by omega),if_neg hlt]
 ·rw [List.getElem?_eq_none (by rw [Qbn];omega),List.getElem?_eq_none (by rw [Qbn];omega),Qbn];simp;omega
theorem Q4z (v N n:Nat) (h:n≤N):(lows B v N).take n=lows B v n:=by
 apply List.ext_getElem?;intro j;by_cases hj:j<n
 ·rw [List.getElem?_take_of_lt hj,Qbw _ _ _ (by omega),Qbw _ _ _ hj]
 ·rw [List.getElem?_eq_none (by rw [List.length_take,Qam];omega),List.getElem?_eq_none (by rw [Qam];omega)]
end Go.Dg

namespace Go.Proofs.YtnohfmdlaajpbaaGreat
open Go.Vl Go.RowKit Go.Dg
abbrev f8:Nat→PV:=fun d:Nat=>PV.int .u8 (d:Int)
def magL (n:Nat):List UInt8:=(digs 256 n).reverse.map fun d=>UInt8.ofNat d
def wPV (n:Int):PV:= .agg [.bool (decide (n<0)),.str ⟨(magL n.natAbs).toArray⟩]
theorem Qzz (l:List Nat):Qdm (l.map f8)=some (l.map fun d=>UInt8.ofNat d):=by
 induction l with
 |nil=>rfl
 |cons d l ih=>simp only [List.map_cons,Qdm,ih];rfl
theorem Qf9 {n:Nat} (h:n<256):IntKind.u8.wrap (n:Int)=(n:Int):=by
 simp [IntKind.wrap,IntKind.signed,IntKind.bits];omega
end Go.Proofs.YtnohfmdlaajpbaaGreat

namespace Go.Dg
variable {B:Nat}

def blen (m:Nat):Nat:=if h:m=0 then 0 else blen (m/2)+1
termination_by m
decreasing_by exact Nat.div_lt_self (Nat.pos_of_ne_zero h) (by decide)
theorem Qf5:blen 0=0:=by unfold blen;simp
theorem Qf6 {m:Nat} (h:m≠0):blen m=blen (m/2)+1:=by
  conv=>lhs;unfold blen
  simp [h]
theorem Qd5: ∀(k m:Nat),m/2^k≠0→blen m=blen (m/2^k)+k
  |0,m,_=>by simp
  |k+1,m,h=>by
    have e:m/2^(k+1)=m/2/2^k:=by rw [Nat.div_div_eq_div_mul,Nat.pow_succ,Nat.mul_comm]
    have hm:m≠0:=by intro h0;rw [h0]at h;simp at h
    rw [Qf6 hm,e,Qd5 k (m/2) (by rw [←e];exact h)];omega
theorem Qd2: ∀(k m:Nat),m<2^k→blen m≤k
  |0,m,h=>by
        obtain rfl:m=0:=by simpa using h
        rw [Qf5];exact Nat.le_refl _
  |k+1,m,h=>by
    by_cases h0:m=0
    · rw [h0,Qf5];omega
    · rw [Qf6 h0];have:=Qd2 k (m/2) (by rw [Nat.pow_succ]at h;omega);omega
theorem Ql0: ∀(k m:Nat),2^k≤m→k<blen m
  |0,m,h=>by
    have h0:m≠0:=by intro e;rw [e]at h;simp at h
    rw [Qf6 h0];omega
  |k+1,m,h=>by
    have h0:m≠0:=by intro e;rw [e]at h;have:=Nat.pow_pos (n:=k+1) (show 0<2 by decide);omega
    rw [Qf6 h0];have:=Ql0 k (m/2) (by rw [Nat.pow_succ]at h;omega);omega
/-- The highest digit. -/
theorem Qdu (hB:2≤B) {m:Nat} (h:m≠0):m/B^((digs B m).length-1)≠0∧m/B^((digs B m).length-1)<B:=by
  have hp:0<(digs B m).length:=List.length_pos_iff.2 (mt (Qbm hB).1 h);refine⟨(Qc7 hB m _).1 (by omega),?_⟩;have:=Qbg hB m;have e:B^(digs B m).length=B^((digs B m).length-1)*B:=by rw [←Nat.pow_succ];congr 1;omega
  rw [e]at this;exact Nat.div_lt_of_lt_mul this
theorem Qxm {m:Nat} (h:m≠0) (c:Nat) (hc:0<c):blen m=blen (m/(2^c)^((digs (2^c) m).length-1))+c*((digs (2^c) m).length-1):=by
  have hB:2≤2^c:=by
    have:=Nat.pow_le_pow_right (show 0<2 by decide) hc;simpa using this
  have:=Qdu hB h;rw [←Nat.pow_mul]at this ⊢;exact Qd5 _ _ this.1
end Go.Dg

namespace Go.Proofs.YtnohfmdlaajpbaaGreat
open Go.Vl Go.RowKit Go.Dg
theorem Qdk (m:Nat):(magL m).length=(digs 256 m).length:=by simp [magL]
theorem Q40 (m:Nat):(⟨(magL m).toArray⟩:ByteArray).size=(digs 256 m).length:=by rw [Qlz,←Qdk]
theorem Zei {m:Nat} (h:m≠0): ∃d:UInt8,(⟨(magL m).toArray⟩:ByteArray)[0]? =some d∧d.toNat=m/256^((digs 256 m).length-1):=by
 have hp:0<(digs 256 m).length:=List.length_pos_iff.2 (mt (Qbm (by decide)).1 h);have ht:=Qdu (B:=256) (by decide) h;have hg:=Qax (B:=256) (n:=m) (k:=(digs 256 m).length-1) (by decide) (by omega);rw [Nat.mod_eq_of_lt ht.2]at hg;have hl:0<(⟨(magL m).toArray⟩:ByteArray).data.toList.length:=by show 0<(magL m).length;rw [Qdk];exact hp
 refine⟨_,Qrs _ 0 hl,?_⟩;have e:(⟨(magL m).toArray⟩:ByteArray).data.toList[0]=UInt8.ofNat (m/256^((digs 256 m).length-1)):=by
  show(magL m)[0]'(by rw [Qdk];exact hp)=_;have:(magL m)[0]? =some (UInt8.ofNat (m/256^((digs 256 m).length-1))):=by
   rw [magL,List.getElem?_map,List.getElem?_reverse (by omega),Nat.sub_zero,hg];rfl
  exact Option.some.inj (by rw [←this,List.getElem?_eq_getElem])
 rw [e,UInt8.toNat_ofNat_of_lt' ht.2]
def Qh0 (n:Int):PV:=if 65536<blen n.natAbs then .tup [wPV 0,.int .i64 7]else .tup [wPV n,.int .i64 0]
theorem Zej:wPV 0= .agg [.bool false,.str ⟨#[]⟩]:=by simp [wPV,magL,Qbi]
end Go.Proofs.YtnohfmdlaajpbaaGreat

namespace Go.Vl
open Go.RowKit
theorem Qdp (n:Nat):IntKind.u64.wrap (n:Int)=((n%18446744073709551616:Nat):Int):=by
 simp [IntKind.wrap,IntKind.signed,IntKind.bits]
theorem Qrr (n:Nat):(n:Int).fdiv (2^min 32 64)=((n/4294967296:Nat):Int):=by
 rw [Int.fdiv_eq_ediv_of_nonneg _ (by decide)];rfl
theorem Zwp (n:Nat):IntKind.u64.wrap ((BitVec.ofInt 64 (n:Int) &&& BitVec.ofInt 64 4294967295).toNat:Int)=((n%4294967296:Nat):Int):=by
 rw [Qdp];congr 1;rw [BitVec.toNat_and];have h1:(BitVec.ofInt 64 (n:Int)).toNat=n%18446744073709551616:=by simp
 have h2:(BitVec.ofInt 64 4294967295).toNat=2^32-1:=by decide
 rw [h1,h2,Nat.and_two_pow_sub_one_eq_mod];omega
theorem Znz {P:Program} {t:TypeId} (n:Nat):Qbp .and t P (.int .u64 (n:Int)) (.int .u64 4294967295)=some (.int .u64 ((n%4294967296:Nat):Int)):=by
 rw [Z0n];exact congrArg (fun z=>some (PV.int .u64 z)) (Zwp n)
attribute [go_sem high] Znz
theorem Z1a {x y:Nat} (hx:x<18446744073709551616) (hy:y<18446744073709551616):
  ((x/4294967296*(y/4294967296)%18446744073709551616+(x/4294967296*(y%4294967296)%18446744073709551616+(x%4294967296*(y%4294967296)%18446744073709551616)/4294967296)%18446744073709551616/4294967296)%18446744073709551616+
   ((x/4294967296*(y%4294967296)%18446744073709551616+(x%4294967296*(y%4294967296)%18446744073709551616)/4294967296)%18446744073709551616%4294967296+x%4294967296*(y/4294967296)%18446744073709551616)%18446744073709551616/4294967296)%18446744073709551616=x*y/18446744073709551616:=by
 have a1:x/4294967296≤4294967295:=by omega
 have a0:x%4294967296≤4294967295:=by omega
 have b1:y/4294967296≤4294967295:=by omega
 have b0:y%4294967296≤4294967295:=by omega
 have ex:x=x/4294967296*4294967296+x%4294967296:=by omega
 have ey:y=y/4294967296*4294967296+y%4294967296:=by omega
 have hxy:x*y=x/4294967296*(y/4294967296)*18446744073709551616+(x/4294967296*(y%4294967296)+x%4294967296*(y/4294967296))*4294967296+x%4294967296*(y%4294967296):=by
  generalize x/4294967296=p at*;generalize x%4294967296=q at*;generalize y/4294967296=r at*;generalize y%4294967296=s at*;subst ex ey;simp only [Nat.add_mul,Nat.mul_add];rw [show p*4294967296*(r*4294967296)=p*r*18446744073709551616 by rw [Nat.mul_mul_mul_comm]];rw [show p*4294967296*s=p*s*4294967296 by rw [Nat.mul_right_comm],show q*(r*4294967296)=q*r*4294967296 by rw [Nat.mul_assoc]];omega
 have hlt:x*y≤18446744073709551615*18446744073709551615:=Nat.mul_le_mul (by omega) (by omega);have h11:=Nat.mul_le_mul a1 b1;have h10:=Nat.mul_le_mul a1 b0;have h01:=Nat.mul_le_mul a0 b1;have h00:=Nat.mul_le_mul a0 b0;rw [hxy]at hlt ⊢;generalize x/4294967296*(y/4294967296)=P at*;generalize x/4294967296*(y%4294967296)=Q at*;generalize x%4294967296*(y/4294967296)=R at*;generalize x%4294967296*(y%4294967296)=W at*;clear hxy ex ey a1 a0 b1 b0;omega
end Go.Vl

namespace Go.Proofs.YtnohfmdlaajpbaaGreat
open Go.Vl Go.RowKit
theorem Qss {w:World} {im:Im} {k1 k2 k3:IntKind} {x y z:Int} {us:List Value} (h:RepL w im [.int k1 x,.int k2 y,.int k3 z] us):us=[.int k1 x,.int k2 y,.int k3 z]:=by
 cases h with
 |cons _ u _ us h t=>
 cases h;cases t with
 |cons _ u _ us h t=>
 cases h;cases t with
 |cons _ u _ us h t=>
 cases h;cases t;rfl
theorem Qqj (x y c:Nat) (hc:c≤1):Qaf Tryz.prog 149 [.int .u64 (x:Int),.int .u64 (y:Int),.int .u64 (c:Int)] (.tup [.int .u64 (((x+y+c)%18446744073709551616:Nat):Int),.int .u64 (((x+y+c)/18446744073709551616:Nat):Int)]):=by
 refine .inr ⟨by kernel_rfl,rfl,fun w im us hr=> ?_⟩;rw [Qss hr];refine⟨.tuple #[.int .u64 (((x+y+c)%18446744073709551616:Nat):Int),.int .u64 (((x+y+c)/18446744073709551616:Nat):Int)],?_,.tup _ [_,_] (.cons _ _ _ _ (.int _ _) (.cons _ _ _ _ (.int _ _) .nil))⟩;rw [run_callFunc_extern Tryz.func149 (by kernel_rfl) (by kernel_rfl) (by kernel_rfl) (e:=add64Entry) (by kernel_rfl),run_add64 x y c (by omega) (by omega) (by omega) (by omega)];simp only [Result.andThen];congr 5<;>omega
theorem Zbz (x y b:Nat) (hb:b≤1):Qaf Tryz.prog 150 [.int .u64 (x:Int),.int .u64 (y:Int),.int .u64 (b:Int)] (.tup [.int .u64 (((x+18446744073709551616-y-b)%18446744073709551616:Nat):Int),.int .u64 ((if x<y+b then 1 else 0:Nat):Int)]):=by
 refine .inr ⟨by kernel_rfl,rfl,fun w im us hr=> ?_⟩;rw [Qss hr];refine⟨.tuple #[.int .u64 (((x+18446744073709551616-y-b)%18446744073709551616:Nat):Int),.int .u64 ((if x<y+b then 1 else 0:Nat):Int)],?_,.tup _ [_,_] (.cons _ _ _ _ (.int _ _) (.cons _ _ _ _ (.int _ _) .nil))⟩;rw [run_callFunc_extern Tryz.func150 (by kernel_rfl) (by kernel_rfl) (by kernel_rfl) (e:=sub64Entry) (by kernel_rfl),run_sub64 x y b hb];rfl
end Go.Proofs.YtnohfmdlaajpbaaGreat

namespace Go.Proofs.YtnohfmdlaajpbaaGreat
open Go.Vl Go.RowKit Go.Dg
abbrev BW:Nat:=18446744073709551616
theorem BW_2:2≤BW:=by decide
abbrev fW:Nat→PV:=fun d:Nat=>PV.int .u64 (d:Int)
def dw (l:List Nat):PV:= .slc (l.map fun d:Nat=>PV.int .u64 (d:Int))
theorem Qch (l:List Nat) (k:Nat):(l.map fun d:Nat=>PV.int .u64 (d:Int))[k]? =l[k]?.map fun d:Nat=>PV.int .u64 (d:Int):=List.getElem?_map
theorem Zo0 (l:List Nat):((l.map fun d:Nat=>PV.int .u64 (d:Int)).all fun x=>x.cells.length==1)=true:=by rw [List.all_map,List.all_eq_true];intro d _;rfl
theorem Qde (l:List Nat) (hl:l.length≤maxLen):Qaf Tryz.prog 125 [dw l] (dw (Qf4 l)):=by
 have hm:=Qse;refine Qab (tb:=[]) 21 [.tmp 2] [0,2,14] mixed Tryz.func125 rfl (by kernel_rfl) ?_;simp -implicitDefEqProofs only [go_sem,seval,dw];refine Qas mixed (fun k:{k:Nat // k≤l.length∧Qf4 (l.take k)=Qf4 l}=>St.of [(0,dw (l.take k.1)),(2,.nilS)] []) (fun k=>k.1) ⟨l.length,Nat.le_refl _,by rw [List.take_length]⟩ ?_ ?_
 ·exact Qa0 (by simp [Qac,lkp,ren1,ren0,dw])
 ·rintro⟨k,hk,ht⟩;have hlen:(l.take k).length=k:=by simp;omega
  cases k with
  |zero=>
   have h1:((0:Int)<((0:Nat):Int))=False:=by simp
   simp -implicitDefEqProofs only [go_sem,seval,dw,h1];rw [←ht];rfl
  |succ k=>
   have h1:((0:Int)<((k+1:Nat):Int))=True:=by simp
   have h2:(0≤(k:Int))=True:=by simp
   have hw:=Qsd (n:=k) (by omega);have hlt:k<l.length:=by omega
   have hget:(l.take (k+1))[k]? =some l[k]:=by simp [hlt]
   have hcut:l.take (k+1)=l.take k++[l[k]]:=by rw [List.take_add_one];simp [hlt]
   cases hd:((l[k]:Int)==0)with
   |true=>
    have hd0:l[k]=0:=by simpa using hd
    have h3:((k:Int)≤((k+1:Nat):Int))=True:=by simp;omega
    simp -implicitDefEqProofs only [go_sem,seval,dw,List.length_map,hlen,h1,h2,hw,Qch,hget,hd,h3,Int.toNat_natCast,Zo0];refine⟨⟨k,by omega,?_⟩,by simp,?_⟩
    ·rw [←ht,hcut,hd0,Qei]
    ·refine Qa0 (by simp [Qac,lkp,ren1,ren0,dw];rw [←List.map_take];simp [List.take_take])
   |false=>
    have hd0:l[k]≠0:=by simpa using hd
    simp -implicitDefEqProofs only [go_sem,seval,dw,List.length_map,hlen,h1,h2,hw,Qch,hget,hd,Int.toNat_natCast];rw [←ht,hcut,Qjr _ hd0]
def cmpW (a b:Nat):Int:=if(digs BW a).length=(digs BW b).length then cmpN a b else((digs BW a).length:Int)-((digs BW b).length:Int)
theorem Qd6 (a b:Nat):(cmpW a b<0)↔a<b:=by
 unfold cmpW;split
 ·unfold cmpN;split
  ·simp;assumption
  ·split<;>simp<;>omega
 ·rename_i h;constructor
  ·intro h2;exact Zn3 BW_2 (by omega)
  ·intro h2;rcases Nat.lt_trichotomy (digs BW a).length (digs BW b).length with h3|h3|h3
   ·omega
   ·exact absurd h3 h
   ·have:=Zn3 BW_2 h3;omega
theorem Qdl (a b:Nat) (ha:(digs BW a).length≤1000000000) (hb:(digs BW b).length≤1000000000):Qaf Tryz.prog 132 [dw (digs BW a),dw (digs BW b)] (.int .i64 (cmpW a b)):=by
 refine Qab (tb:=[]) 43 [.tmp 4] [0,1,4,5,10,20,23,33] mixed Tryz.func132 rfl (by kernel_rfl) ?_;by_cases hl:(digs BW a).length=(digs BW b).length
 ·have hl':(((digs BW a).length:Int) != ((digs BW b).length:Int))=false:=by simp [hl]
  have hw:IntKind.i64.wrap (((digs BW a).length:Int)-1)=((digs BW a).length:Int)-1:=Qag (by omega) (by omega);rw [cmpW,if_pos hl];simp -implicitDefEqProofs only [go_sem,seval,dw,List.length_map,hl',hw];refine Qas mixed (fun i:{i:Nat // i≤(digs BW a).length∧a/BW^i=b/BW^i}=>St.of [(0,dw (digs BW a)),(1,dw (digs BW b)),(4,.int .i64 0),(5,.int .i64 ((i.1:Int)-1))] []) (fun i=>i.1)
   ⟨(digs BW a).length,Nat.le_refl _,by rw [Qck BW_2 (Nat.le_refl _),hl,Qck BW_2 (Nat.le_refl _)]⟩ ?_ ?_
  ·exact Qa0 (by simp [Qac,lkp,ren1,ren0,dw])
  ·rintro⟨i,hi,he⟩;cases i with
   |zero=>
    have h1:((0:Int)≤((0:Nat):Int)-1)=False:=by simp
    have hab:a=b:=by simpa using he
    subst hab;simp -implicitDefEqProofs only [go_sem,seval,dw,h1,Zpi]
   |succ i=>
    have hs:(((i+1:Nat):Int)-1)=(i:Int):=by omega
    have h1:((0:Int)≤(i:Int))=True:=by simp
    have hga:=Qax BW_2 (show i<(digs BW a).length by omega);have hgb:=Qax BW_2 (show i<(digs BW b).length by omega);by_cases hlt:a/BW^i%BW<b/BW^i%BW
    ·have h2:(((a/BW^i%BW:Nat):Int)<((b/BW^i%BW:Nat):Int))=True:=by simp only [eq_iff_iff,iff_true];omega
     have hc:=Zpg (Qr4 (by decide) he hlt);simp -implicitDefEqProofs only [go_sem,seval,dw,hs,h1,Qch,hga,hgb,h2,hc];exact Qad _ _ (by kernel_rfl)
    ·have h2:(((a/BW^i%BW:Nat):Int)<((b/BW^i%BW:Nat):Int))=False:=by simp only [eq_iff_iff,iff_false];omega
     by_cases hgt:b/BW^i%BW<a/BW^i%BW
     ·have h3:(((b/BW^i%BW:Nat):Int)<((a/BW^i%BW:Nat):Int))=True:=by simp only [eq_iff_iff,iff_true];omega
      have hc:=Zph (Qr4 (by decide) he.symm hgt);simp -implicitDefEqProofs only [go_sem,seval,dw,hs,h1,Qch,hga,hgb,h2,h3,hc];exact⟨Qad _ _ (by kernel_rfl),Qad _ _ (by kernel_rfl)⟩
     ·have h3:(((b/BW^i%BW:Nat):Int)<((a/BW^i%BW:Nat):Int))=False:=by simp only [eq_iff_iff,iff_false];omega
      have hw2:IntKind.i64.wrap ((i:Int)-1)=(i:Int)-1:=Qag (by omega) (by omega);simp -implicitDefEqProofs only [go_sem,seval,dw,hs,h1,Qch,hga,hgb,h2,h3,hw2];refine⟨Qad _ _ (by kernel_rfl),Qad _ _ (by kernel_rfl),⟨i,by omega,Qzv (by decide) he (by omega)⟩,by simp,?_⟩;exact Qa0 (by simp [Qac,lkp,ren1,ren0,dw])
 ·have hl':(((digs BW a).length:Int) != ((digs BW b).length:Int))=true:=by simp;omega
  have hw:IntKind.i64.wrap (((digs BW a).length:Int)-((digs BW b).length:Int))=((digs BW a).length:Int)-((digs BW b).length:Int):=Qag (by omega) (by omega);rw [cmpW,if_neg hl];simp -implicitDefEqProofs only [go_sem,seval,dw,List.length_map,hl',hw]
theorem Qc3 (l:List Nat) (i:Nat) (d:Nat):(l.map fW).set i (PV.int .u64 (d:Int))=(l.set i d).map fW:=(List.map_set (f:=fW)).symm
theorem Qeg (B n:Nat):lows B 0 n=List.replicate n 0:=by
 apply List.ext_getElem?;intro k;by_cases h:k<n
 ·rw [Qbw _ _ _ h];simp [h]
 ·rw [List.getElem?_eq_none (by rw [Qam];omega),List.getElem?_eq_none (by simp;omega)]
theorem Qiz (V n:Nat):List.replicate n (PV.int .u64 0)=(mix BW V 0 n 0).map fW:=by
 rw [Qlj,Qeg];simp
theorem Qsw (a b:Nat) (hba:b≤a) (ha:(digs BW a).length≤1000000000):Qaf Tryz.prog 129 [dw (digs BW a),dw (digs BW b)] (dw (digs BW (a-b))):=by
 refine Qab (tb:=[]) 41 [.tmp 4] [0,1,4,5,6,7,8,13,14,15,20] mixed Tryz.func129 rfl (by kernel_rfl) ?_;have hn0:((0:Int)≤((digs BW a).length:Int))=True:=by simp
 have hn1:((8:Nat):Int)*((digs BW a).length:Int)≤281474976710656:=by omega
 have hn2:((digs BW a).length:Int)≤9223372036854775807:=by omega
 simp -implicitDefEqProofs only [go_sem,Nat.reduceAdd,Nat.reduceMul,Nat.reduceEqDiff,Nat.reduceLT,Nat.reduceLeDiff,reduceCtorEq,dw,List.length_map,hn0,hn1,hn2,Int.toNat_natCast];generalize hN:(digs BW a).length=N at*;rw [Qiz (a-b) N];refine Qas mixed (fun i:{i:Nat // i≤N}=>St.of [(0,dw (digs BW a)),(1,dw (digs BW b)),(4,.nilS),(5,.bs 102 1 0 N),(6,.int .u64 (bor BW a b i.1:Int)),(13,.int .i64 (N:Int)),(14,.int .i64 (i.1:Int))]
  [(102,{els:=(mix BW (a-b) 0 N i.1).map fW,esz:=1,ety:=169,fro:=0,live:=true,arr:=true})]) (fun i=>N-i.1) ⟨0,Nat.zero_le _⟩ ?_ ?_
 ·refine Qaj (θ:=[(102,102)]) rfl ?_ ?_
  ·simp [Qac,lkp,ren1,ren0,dw,Qxr]
  ·simp [Qaz,lkp,Box.renames]
 ·rintro⟨i,hi⟩;have hml:=Qbn (B:=BW) (a-b) 0 N i;by_cases hA:i<N
  ·have hA':((i:Int)<(N:Int))=True:=by simp;omega
   have h0:(0≤(i:Int))=True:=by simp
   have hga:=Qax BW_2 (show i<(digs BW a).length by omega);have hwk:=Qa7 (a:=i) (by omega);have hbl:=Qxs (B:=BW) a b i;have hbl2:=Qxs (B:=BW) a b (i+1);have hst:=Qxt BW_2 hba i;have hx:a/BW^i%BW<BW:=Nat.mod_lt _ (by decide);have hy:b/BW^i%BW<BW:=Nat.mod_lt _ (by decide);have hz:(a-b)/BW^i%BW<BW:=Nat.mod_lt _ (by decide);have hset:=Qej (B:=BW) (V:=a-b) (W:=a-b) (S:=0) (n:=N) (m:=i) (d:=(a-b)/BW^i%BW) (by decide) hA rfl rfl;have hy0: ¬i<(digs BW b).length→b/BW^i%BW=0:=fun h=>by rw [Qck BW_2 (Nat.le_of_not_lt h),Nat.zero_mod]
   have hgb:i<(digs BW b).length→(digs BW b)[i]? =some (b/BW^i%BW):=fun h=>Qax BW_2 h;obtain⟨e,hgo⟩: ∃e:Nat,((mix BW (a-b) 0 N i).map fW)[i]? =some (PV.int .u64 (e:Int)):=⟨_,by rw [List.getElem?_map,Qdj _ _ _ _ _ hA];rfl⟩;generalize a/BW^i%BW=x at*;generalize b/BW^i%BW=y at*;generalize (a-b)/BW^i%BW=z at*;have s1:(x+18446744073709551616-y-bor BW a b i)%18446744073709551616=z:=by simp only [BW]at*;omega
   have s2:(if x<y+bor BW a b i then 1 else 0)=bor BW a b (i+1):=by
    simp only [BW]at*;split<;>omega
   have hc:=Zbz x y (bor BW a b i) hbl;rw [s1,s2]at hc;by_cases hB:i<(digs BW b).length
   ·have hB':((i:Int)<((digs BW b).length:Int))=True:=by simp;omega
    have hgb:=hgb hB;simp -implicitDefEqProofs only [go_sem,Nat.reduceAdd,Nat.reduceMul,Nat.reduceEqDiff,Nat.reduceLT,Nat.reduceLeDiff,reduceCtorEq,dw,List.length_map,hA',hB',h0,Qch,hga,hgb,Int.toNat_natCast];refine Qak _ _ _ _ _ _ _ _ _ hc ?_;simp -implicitDefEqProofs only [go_sem,Nat.reduceAdd,Nat.reduceMul,Nat.reduceEqDiff,Nat.reduceLT,Nat.reduceLeDiff,reduceIte,reduceCtorEq,hA',h0,Int.toNat_natCast,hwk,hgo];refine⟨⟨i+1,hA⟩,by simp only;omega,?_⟩;refine Qaj (θ:=[(102,102)]) rfl ?_ ?_
    ·simp [Qac,lkp,ren1,ren0,dw]
    ·rw [Qc3,hset];simp [Qaz,lkp,Box.renames]
   ·have hB':((i:Int)<((digs BW b).length:Int))=False:=by simp;omega
    obtain rfl:=hy0 hB;simp -implicitDefEqProofs only [go_sem,Nat.reduceAdd,Nat.reduceMul,Nat.reduceEqDiff,Nat.reduceLT,Nat.reduceLeDiff,reduceCtorEq,dw,List.length_map,hA',hB',h0,Qch,hga,Int.toNat_natCast];refine Qak _ _ _ _ _ _ _ _ _ hc ?_;simp -implicitDefEqProofs only [go_sem,Nat.reduceAdd,Nat.reduceMul,Nat.reduceEqDiff,Nat.reduceLT,Nat.reduceLeDiff,reduceIte,reduceCtorEq,hA',h0,Int.toNat_natCast,hwk,hgo];refine⟨⟨i+1,hA⟩,by simp only;omega,?_⟩;refine Qaj (θ:=[(102,102)]) rfl ?_ ?_
    ·simp [Qac,lkp,ren1,ren0,dw]
    ·rw [Qc3,hset];simp [Qaz,lkp,Box.renames]
  ·have hA':((i:Int)<(N:Int))=False:=by simp;omega
   obtain rfl:i=N:=by omega
   have htk:((lows BW (a-b) i).map fW).take i=(lows BW (a-b) i).map fW:=List.take_of_length_le (by simp [Qam]);have hll:=Qam (B:=BW) (a-b) i;have hlt:a<BW^i:=by rw [←hN];exact Qbg BW_2 a
   have hm:mix BW (a-b) 0 i i=lows BW (a-b) i:=Qf8 (by decide) (by rw [Nat.div_eq_of_lt (Nat.lt_of_le_of_lt (Nat.sub_le _ _) hlt),Nat.zero_div]);simp -implicitDefEqProofs only [go_sem,Nat.reduceAdd,Nat.reduceMul,Nat.reduceEqDiff,Nat.reduceLT,Nat.reduceLeDiff,reduceIte,reduceCtorEq,hA',List.length_map,hll,htk,hm];refine Qak _ _ _ _ _ _ _ _ _ (Qde (lows BW (a-b) i) (by rw [Qam];simp [maxLen];omega)) ?_;simp -implicitDefEqProofs only [go_sem,Nat.reduceAdd,Nat.reduceEqDiff,Nat.reduceLT,reduceCtorEq,dw];rw [Qb8 BW_2,Nat.mod_eq_of_lt (Nat.lt_of_le_of_lt (Nat.sub_le _ _) hlt)]
theorem Zo2 (a b:Nat) (ha:(digs BW a).length≤1000000000) (hb:(digs BW b).length≤1000000000):Qaf Tryz.prog 128 [dw (digs BW a),dw (digs BW b)] (dw (digs BW (a+b))):=by
 refine Qab (tb:=[]) 54 [.tmp 4] [0,1,4,5,6,7,8,13,21,22,23,28] mixed Tryz.func128 rfl (by kernel_rfl) ?_;by_cases hab:(digs BW a).length<(digs BW b).length
 ·have hab':(((digs BW a).length:Int)<((digs BW b).length:Int))=True:=by simp;omega
  have hPQ:(digs BW a).length≤(digs BW b).length:=by omega
  rw [Nat.add_comm a b];have hn0:((0:Int)≤(((digs BW b).length+1:Nat):Int))=True:=by simp only [eq_iff_iff,iff_true];omega
  have hn1:((8:Nat):Int)*(((digs BW b).length+1:Nat):Int)≤281474976710656:=by omega
  have hn2:(((digs BW b).length+1:Nat):Int)≤9223372036854775807:=by omega
  have hw1:=Qa7 (a:=(digs BW b).length) (by omega);simp -implicitDefEqProofs only [go_sem,Nat.reduceAdd,Nat.reduceMul,Nat.reduceEqDiff,Nat.reduceLT,Nat.reduceLeDiff,reduceCtorEq,dw,List.length_map,hab',hw1,hn0,hn1,hn2,Int.toNat_natCast];have hlt:b<BW^(digs BW b).length:=Qbg BW_2 b;have hlt2:a<BW^(digs BW b).length:=(Qaw BW_2 a _).1 hPQ;generalize hN:(digs BW b).length=N at*;rw [Qiz (b+a) (N+1)];refine Qas mixed (fun i:{i:Nat // i≤N}=>St.of [(0,dw (digs BW b)),(1,dw (digs BW a)),(4,.nilS),(5,.bs 303 1 0 (N+1)),(6,.int .u64 (carry BW b a i.1:Int)),(21,.int .i64 (N:Int)),(22,.int .i64 (i.1:Int))]
   [(303,{els:=(mix BW (b+a) 0 (N+1) i.1).map fW,esz:=1,ety:=169,fro:=0,live:=true,arr:=true})]) (fun i=>N-i.1) ⟨0,Nat.zero_le _⟩ ?_ ?_
  ·refine Qaj (θ:=[(303,303)]) rfl ?_ ?_
   ·simp [Qac,lkp,ren1,ren0,dw,Qou]
   ·simp [Qaz,lkp,Box.renames]
  ·rintro⟨i,hi⟩;have hml:=Qbn (B:=BW) (b+a) 0 (N+1) i;have hset:=Qej (B:=BW) (V:=b+a) (W:=b+a) (S:=0) (n:=N+1) (m:=i) (d:=(b+a)/BW^i%BW) (by decide) (by omega) rfl rfl;obtain⟨e,hgo⟩: ∃e:Nat,((mix BW (b+a) 0 (N+1) i).map fW)[i]? =some (PV.int .u64 (e:Int)):=⟨_,by rw [List.getElem?_map,Qdj _ _ _ _ _ (by omega)];rfl⟩;have h0:(0≤(i:Int))=True:=by simp
   have hiN:((i:Int)<((N+1:Nat):Int))=True:=by simp only [eq_iff_iff,iff_true];omega
   by_cases hA:i<N
   ·have hA':((i:Int)<(N:Int))=True:=by simp;omega
    have hga:=Qax BW_2 (show i<(digs BW b).length by omega);have hwk:=Qa7 (a:=i) (by omega);have hcl:=Qxv (B:=BW) (by decide) b a i;obtain⟨s1,s2⟩:(b/BW^i%BW+a/BW^i%BW+carry BW b a i)%18446744073709551616=(b+a)/BW^i%BW∧(b/BW^i%BW+a/BW^i%BW+carry BW b a i)/18446744073709551616=carry BW b a (i+1):=Qxw (B:=BW) (by decide) b a i;have hy0: ¬i<(digs BW a).length→a/BW^i%BW=0:=fun h=>by rw [Qck BW_2 (Nat.le_of_not_lt h),Nat.zero_mod]
    have hgb:i<(digs BW a).length→(digs BW a)[i]? =some (a/BW^i%BW):=fun h=>Qax BW_2 h;have hc:=Qqj (b/BW^i%BW) (a/BW^i%BW) (carry BW b a i) hcl;rw [s1,s2]at hc;generalize b/BW^i%BW=x at*;generalize a/BW^i%BW=y at*;generalize (b+a)/BW^i%BW=z at*;by_cases hB:i<(digs BW a).length
    ·have hB':((i:Int)<((digs BW a).length:Int))=True:=by simp;omega
     have hgb:=hgb hB;simp -implicitDefEqProofs only [go_sem,Nat.reduceAdd,Nat.reduceMul,Nat.reduceEqDiff,Nat.reduceLT,Nat.reduceLeDiff,reduceCtorEq,dw,List.length_map,hA',hB',h0,Qch,hga,hgb,Int.toNat_natCast];refine Qak _ _ _ _ _ _ _ _ _ hc ?_;simp -implicitDefEqProofs only [go_sem,Nat.reduceAdd,Nat.reduceMul,Nat.reduceEqDiff,Nat.reduceLT,Nat.reduceLeDiff,reduceIte,reduceCtorEq,h0,hiN,Int.toNat_natCast,hwk,hgo];refine⟨⟨i+1,hA⟩,by simp only;omega,?_⟩;refine Qaj (θ:=[(303,303)]) rfl ?_ ?_
     ·simp [Qac,lkp,ren1,ren0,dw]
     ·rw [Qc3,hset];simp [Qaz,lkp,Box.renames]
    ·have hB':((i:Int)<((digs BW a).length:Int))=False:=by simp;omega
     obtain rfl:=hy0 hB;simp -implicitDefEqProofs only [go_sem,Nat.reduceAdd,Nat.reduceMul,Nat.reduceEqDiff,Nat.reduceLT,Nat.reduceLeDiff,reduceCtorEq,dw,List.length_map,hA',hB',h0,Qch,hga,Int.toNat_natCast];refine Qak _ _ _ _ _ _ _ _ _ hc ?_;simp -implicitDefEqProofs only [go_sem,Nat.reduceAdd,Nat.reduceMul,Nat.reduceEqDiff,Nat.reduceLT,Nat.reduceLeDiff,reduceIte,reduceCtorEq,h0,hiN,Int.toNat_natCast,hwk,hgo];refine⟨⟨i+1,hA⟩,by simp only;omega,?_⟩;refine Qaj (θ:=[(303,303)]) rfl ?_ ?_
     ·simp [Qac,lkp,ren1,ren0,dw]
     ·rw [Qc3,hset];simp [Qaz,lkp,Box.renames]
   ·have hA':((i:Int)<(N:Int))=False:=by simp;omega
    obtain rfl:i=N:=by omega
    have hsum:(b+a)/BW^i<2:=Nat.div_lt_of_lt_mul (by omega);have hcN:carry BW b a i=(b+a)/BW^i%BW:=by
     rw [carry,Nat.mod_eq_of_lt hlt,Nat.mod_eq_of_lt hlt2,Nat.mod_eq_of_lt (Nat.lt_trans hsum (by decide))]
    have hm:mix BW (b+a) 0 (i+1) (i+1)=lows BW (b+a) (i+1):=Qf8 (by decide) (by rw [Nat.pow_succ,←Nat.div_div_eq_div_mul,Nat.div_eq_of_lt (Nat.lt_trans hsum (by decide)),Nat.zero_div]);rw [hm]at hset;have htk:((lows BW (b+a) (i+1)).map fW).take (i+1)=(lows BW (b+a) (i+1)).map fW:=List.take_of_length_le (by simp [Qam]);have hll:=Qam (B:=BW) (b+a) (i+1);have hbig:b+a<BW^(i+1):=by
     rw [Nat.pow_succ];have:BW^i*2≤BW^i*BW:=Nat.mul_le_mul_left _ (by decide);omega
    rw [hcN];simp -implicitDefEqProofs only [go_sem,Nat.reduceAdd,Nat.reduceMul,Nat.reduceEqDiff,Nat.reduceLT,Nat.reduceLeDiff,reduceIte,reduceCtorEq,dw,hA',h0,hiN,hN,Int.toNat_natCast,hgo,List.length_map,Qc3,hset,hll,htk];refine Qak _ _ _ _ _ _ _ _ _ (Qde (lows BW (b+a) (i+1)) (by rw [Qam];simp [maxLen];omega)) ?_;simp -implicitDefEqProofs only [go_sem,Nat.reduceAdd,Nat.reduceEqDiff,Nat.reduceLT,reduceCtorEq,dw];rw [Qb8 BW_2,Nat.mod_eq_of_lt hbig]
 ·have hab':(((digs BW a).length:Int)<((digs BW b).length:Int))=False:=by simp;omega
  have hPQ:(digs BW b).length≤(digs BW a).length:=by omega
  have hn0:((0:Int)≤(((digs BW a).length+1:Nat):Int))=True:=by simp only [eq_iff_iff,iff_true];omega
  have hn1:((8:Nat):Int)*(((digs BW a).length+1:Nat):Int)≤281474976710656:=by omega
  have hn2:(((digs BW a).length+1:Nat):Int)≤9223372036854775807:=by omega
  have hw1:=Qa7 (a:=(digs BW a).length) (by omega);simp -implicitDefEqProofs only [go_sem,Nat.reduceAdd,Nat.reduceMul,Nat.reduceEqDiff,Nat.reduceLT,Nat.reduceLeDiff,reduceCtorEq,dw,List.length_map,hab',hw1,hn0,hn1,hn2,Int.toNat_natCast];have hlt:a<BW^(digs BW a).length:=Qbg BW_2 a;have hlt2:b<BW^(digs BW a).length:=(Qaw BW_2 b _).1 hPQ;generalize hN:(digs BW a).length=N at*;rw [Qiz (a+b) (N+1)];refine Qas mixed (fun i:{i:Nat // i≤N}=>St.of [(0,dw (digs BW a)),(1,dw (digs BW b)),(4,.nilS),(5,.bs 303 1 0 (N+1)),(6,.int .u64 (carry BW a b i.1:Int)),(21,.int .i64 (N:Int)),(22,.int .i64 (i.1:Int))]
   [(303,{els:=(mix BW (a+b) 0 (N+1) i.1).map fW,esz:=1,ety:=169,fro:=0,live:=true,arr:=true})]) (fun i=>N-i.1) ⟨0,Nat.zero_le _⟩ ?_ ?_
  ·refine Qaj (θ:=[(303,303)]) rfl ?_ ?_
   ·simp [Qac,lkp,ren1,ren0,dw,Qou]
   ·simp [Qaz,lkp,Box.renames]
  ·rintro⟨i,hi⟩;have hml:=Qbn (B:=BW) (a+b) 0 (N+1) i;have hset:=Qej (B:=BW) (V:=a+b) (W:=a+b) (S:=0) (n:=N+1) (m:=i) (d:=(a+b)/BW^i%BW) (by decide) (by omega) rfl rfl;obtain⟨e,hgo⟩: ∃e:Nat,((mix BW (a+b) 0 (N+1) i).map fW)[i]? =some (PV.int .u64 (e:Int)):=⟨_,by rw [List.getElem?_map,Qdj _ _ _ _ _ (by omega)];rfl⟩;have h0:(0≤(i:Int))=True:=by simp
   have hiN:((i:Int)<((N+1:Nat):Int))=True:=by simp only [eq_iff_iff,iff_true];omega
   by_cases hA:i<N
   ·have hA':((i:Int)<(N:Int))=True:=by simp;omega
    have hga:=Qax BW_2 (show i<(digs BW a).length by omega);have hwk:=Qa7 (a:=i) (by omega);have hcl:=Qxv (B:=BW) (by decide) a b i;obtain⟨s1,s2⟩:(a/BW^i%BW+b/BW^i%BW+carry BW a b i)%18446744073709551616=(a+b)/BW^i%BW∧(a/BW^i%BW+b/BW^i%BW+carry BW a b i)/18446744073709551616=carry BW a b (i+1):=Qxw (B:=BW) (by decide) a b i;have hy0: ¬i<(digs BW b).length→b/BW^i%BW=0:=fun h=>by rw [Qck BW_2 (Nat.le_of_not_lt h),Nat.zero_mod]
    have hgb:i<(digs BW b).length→(digs BW b)[i]? =some (b/BW^i%BW):=fun h=>Qax BW_2 h;have hc:=Qqj (a/BW^i%BW) (b/BW^i%BW) (carry BW a b i) hcl;rw [s1,s2]at hc;generalize a/BW^i%BW=x at*;generalize b/BW^i%BW=y at*;generalize (a+b)/BW^i%BW=z at*;by_cases hB:i<(digs BW b).length
    ·have hB':((i:Int)<((digs BW b).length:Int))=True:=by simp;omega
     have hgb:=hgb hB;simp -implicitDefEqProofs only [go_sem,Nat.reduceAdd,Nat.reduceMul,Nat.reduceEqDiff,Nat.reduceLT,Nat.reduceLeDiff,reduceCtorEq,dw,List.length_map,hA',hB',h0,Qch,hga,hgb,Int.toNat_natCast];refine Qak _ _ _ _ _ _ _ _ _ hc ?_;simp -implicitDefEqProofs only [go_sem,Nat.reduceAdd,Nat.reduceMul,Nat.reduceEqDiff,Nat.reduceLT,Nat.reduceLeDiff,reduceIte,reduceCtorEq,h0,hiN,Int.toNat_natCast,hwk,hgo];refine⟨⟨i+1,hA⟩,by simp only;omega,?_⟩;refine Qaj (θ:=[(303,303)]) rfl ?_ ?_
     ·simp [Qac,lkp,ren1,ren0,dw]
     ·rw [Qc3,hset];simp [Qaz,lkp,Box.renames]
    ·have hB':((i:Int)<((digs BW b).length:Int))=False:=by simp;omega
     obtain rfl:=hy0 hB;simp -implicitDefEqProofs only [go_sem,Nat.reduceAdd,Nat.reduceMul,Nat.reduceEqDiff,Nat.reduceLT,Nat.reduceLeDiff,reduceCtorEq,dw,List.length_map,hA',hB',h0,Qch,hga,Int.toNat_natCast];refine Qak _ _ _ _ _ _ _ _ _ hc ?_;simp -implicitDefEqProofs only [go_sem,Nat.reduceAdd,Nat.reduceMul,Nat.reduceEqDiff,Nat.reduceLT,Nat.reduceLeDiff,reduceIte,reduceCtorEq,h0,hiN,Int.toNat_natCast,hwk,hgo];refine⟨⟨i+1,hA⟩,by simp only;omega,?_⟩;refine Qaj (θ:=[(303,303)]) rfl ?_ ?_
     ·simp [Qac,lkp,ren1,ren0,dw]
     ·rw [Qc3,hset];simp [Qaz,lkp,Box.renames]
   ·have hA':((i:Int)<(N:Int))=False:=by simp;omega
    obtain rfl:i=N:=by omega
    have hsum:(a+b)/BW^i<2:=Nat.div_lt_of_lt_mul (by omega);have hcN:carry BW a b i=(a+b)/BW^i%BW:=by
     rw [carry,Nat.mod_eq_of_lt hlt,Nat.mod_eq_of_lt hlt2,Nat.mod_eq_of_lt (Nat.lt_trans hsum (by decide))]
    have hm:mix BW (a+b) 0 (i+1) (i+1)=lows BW (a+b) (i+1):=Qf8 (by decide) (by rw [Nat.pow_succ,←Nat.div_div_eq_div_mul,Nat.div_eq_of_lt (Nat.lt_trans hsum (by decide)),Nat.zero_div]);rw [hm]at hset;have htk:((lows BW (a+b) (i+1)).map fW).take (i+1)=(lows BW (a+b) (i+1)).map fW:=List.take_of_length_le (by simp [Qam]);have hll:=Qam (B:=BW) (a+b) (i+1);have hbig:a+b<BW^(i+1):=by
     rw [Nat.pow_succ];have:BW^i*2≤BW^i*BW:=Nat.mul_le_mul_left _ (by decide);omega
    rw [hcN];simp -implicitDefEqProofs only [go_sem,Nat.reduceAdd,Nat.reduceMul,Nat.reduceEqDiff,Nat.reduceLT,Nat.reduceLeDiff,reduceIte,reduceCtorEq,dw,hA',h0,hiN,hN,Int.toNat_natCast,hgo,List.length_map,Qc3,hset,hll,htk];refine Qak _ _ _ _ _ _ _ _ _ (Qde (lows BW (a+b) (i+1)) (by rw [Qam];simp [maxLen];omega)) ?_;simp -implicitDefEqProofs only [go_sem,Nat.reduceAdd,Nat.reduceEqDiff,Nat.reduceLT,reduceCtorEq,dw];rw [Qb8 BW_2,Nat.mod_eq_of_lt hbig]
def nP (neg:Bool) (m:Nat):PV:= .agg [.bool neg,dw (digs BW m)]
def sv (neg:Bool) (m:Nat):Int:=if neg then -(m:Int)else m
theorem Z0a (neg:Bool) (m:Nat):Qaf Tryz.prog 161 [nP neg m] (nP (!neg) m):=by
 refine Qab (tb:=[]) 9 [.cell 2 167] [0,1,2] mixed Tryz.func161 rfl (by kernel_rfl) ?_;simp -implicitDefEqProofs only [go_sem,seval,nP,dw]
theorem Zvo (neg:Bool) (m:Nat):Qaf Tryz.prog 162 [nP neg m] (.int .i64 (sv neg m).sign):=by
 refine Qab (tb:=[]) 11 [.tmp 2] [0,1,2,3,8] mixed Tryz.func162 rfl (by kernel_rfl) ?_;by_cases h0:m=0
 ·subst h0;have h1:(((0:Nat):Int)==0)=true:=rfl;have e:(sv neg 0).sign=0:=by cases neg<;>rfl
  rw [e];simp -implicitDefEqProofs only [go_sem,seval,nP,dw,Qbi,List.map_nil,List.length_nil,h1]
 ·have h1:(((digs BW m).length:Int)==0)=false:=by
   have:=List.length_pos_iff.2 (mt (Qbm BW_2).1 h0);simp only [beq_eq_false_iff_ne,ne_eq];omega
  cases neg with
  |true=>
   have e:(sv true m).sign= -1:=Int.sign_eq_neg_one_of_neg (by simp [sv];omega);rw [e];simp -implicitDefEqProofs only [go_sem,seval,nP,dw,List.length_map,h1]
  |false=>
   have e:(sv false m).sign=1:=Int.sign_eq_one_of_pos (by simp [sv];omega);rw [e];simp -implicitDefEqProofs only [go_sem,seval,nP,dw,List.length_map,h1]
theorem Zo3 (xn yn:Bool) (x y:Nat) (hx:(digs BW x).length≤1000000000) (hy:(digs BW y).length≤1000000000):
  ∃(n:Bool) (m:Nat),Qaf Tryz.prog 110 [nP xn x,nP yn y] (nP n m)∧sv n m=sv xn x+sv yn y∧m≤x+y:=by
 cases hs:(xn==yn)with
 |true=>
  obtain rfl:xn=yn:=by simpa using hs
  refine⟨xn,x+y,?_,by cases xn<;>simp [sv]<;>omega,Nat.le_refl _⟩;refine Qab (tb:=[]) 42 [.cell 4 167] [0,1,2,3,4,5,19] mixed Tryz.func110 rfl (by kernel_rfl) ?_;simp -implicitDefEqProofs only [go_sem,seval,nP,dw,hs];refine Qak _ _ _ _ _ _ _ _ _ (Zo2 x y hx hy) ?_;simp -implicitDefEqProofs only [go_sem,seval,dw];exact Qad _ _ (by kernel_rfl)
 |false=>
  have hne:yn= !xn:=by cases xn<;>cases yn<;>simp at hs ⊢
  by_cases hc:y≤x
  ·refine⟨xn,x-y,?_,by subst hne;cases xn<;>simp [sv]<;>omega,by omega⟩;have h1:(0≤cmpW x y)=True:=by simp only [eq_iff_iff,iff_true];have:=Qd6 x y;omega
   refine Qab (tb:=[]) 42 [.cell 4 167] [0,1,2,3,4,5,19] mixed Tryz.func110 rfl (by kernel_rfl) ?_;simp -implicitDefEqProofs only [go_sem,seval,nP,dw,hs];refine Qak _ _ _ _ _ _ _ _ _ (Qdl x y hx hy) ?_;simp -implicitDefEqProofs only [go_sem,seval,h1];refine Qak _ _ _ _ _ _ _ _ _ (Qsw x y hc hx) ?_;simp -implicitDefEqProofs only [go_sem,seval,dw];exact Qad _ _ (by kernel_rfl)
  ·refine⟨yn,y-x,?_,by subst hne;cases xn<;>simp [sv]<;>omega,by omega⟩;have h1:(0≤cmpW x y)=False:=by simp only [eq_iff_iff,iff_false];have:=Qd6 x y;omega
   refine Qab (tb:=[]) 42 [.cell 4 167] [0,1,2,3,4,5,19] mixed Tryz.func110 rfl (by kernel_rfl) ?_;simp -implicitDefEqProofs only [go_sem,seval,nP,dw,hs];refine Qak _ _ _ _ _ _ _ _ _ (Qdl x y hx hy) ?_;simp -implicitDefEqProofs only [go_sem,seval,h1];refine Qak _ _ _ _ _ _ _ _ _ (Qsw y x (by omega) hy) ?_;simp -implicitDefEqProofs only [go_sem,seval,dw];exact Qad _ _ (by kernel_rfl)
def Qb0 (neg:Bool) (l:List UInt8):Bool:=match l with
 | []=> !neg
 |b::_=>decide (l.length≤8192)&&b != 0
theorem Zvp {s:ByteArray} {b:UInt8} {r:List UInt8} (h:s.data.toList=b::r):s[0]? =some b:=by
 rw [Qrs s 0 (by rw [h];simp)];simp only [h,List.getElem_cons_zero]
theorem Qwb (b:UInt8):((b.toNat:Int) != 0)=(b != 0):=by
 by_cases h:b=0
 ·subst h;rfl
 ·have:b.toNat≠0:=fun e=>h (UInt8.toNat_inj.1 (by simpa using e));have h1:((b.toNat:Int) != 0)=true:=by simp;omega
  have h2:(b != 0)=true:=by simp [h]
  rw [h1,h2]
theorem Qqp (neg:Bool) (s:ByteArray):Qaf Tryz.prog 81 [.agg [.bool neg,.str s]] (.bool (Qb0 neg s.data.toList)):=by
 have hz:=Qlz s;cases h:s.data.toList with
 |nil=>
  have h1:(([]:List UInt8)== [])=true:=rfl;refine Qab (tb:=[]) 19 [.tmp 2] [0,1,2,5] mixed Tryz.func81 rfl (by kernel_rfl) ?_;simp -implicitDefEqProofs only [go_sem,seval,Qb0,h,h1]
 |cons b r=>
  have h0:=Zvp h;have hne:(b::r== [])=false:=rfl;rw [h]at hz;refine Qab (tb:=[]) 19 [.tmp 2] [0,1,2,5] mixed Tryz.func81 rfl (by kernel_rfl) ?_;by_cases hb:(b != 0)=true
  ·by_cases h2:(b::r).length≤8192
   ·have h2':((s.size:Int)≤8192)=True:=by rw [hz];simp only [eq_iff_iff,iff_true];omega
    have e:Qb0 neg (b::r)=true:=by simp only [Qb0,h2,decide_true,Bool.true_and,hb]
    rw [e];simp -implicitDefEqProofs only [go_sem,seval,h,hne,h2',h0,Qwb,hb]
   ·have h2':((s.size:Int)≤8192)=False:=by rw [hz];simp only [eq_iff_iff,iff_false];omega
    have e:Qb0 neg (b::r)=false:=by simp only [Qb0,h2,decide_false,Bool.false_and]
    rw [e];simp -implicitDefEqProofs only [go_sem,seval,h,hne,h2',h0,Qwb,hb]
  ·have hb':(b != 0)=false:=by simpa using hb
   have e:Qb0 neg (b::r)=false:=by simp only [Qb0,hb',Bool.and_false]
   rw [e];simp -implicitDefEqProofs only [go_sem,seval,h,hne,h0,Qwb,hb']
theorem Qsx (an bn:Bool) (a b:ByteArray):Qaf Tryz.prog 107 [.agg [.bool an,.str a],.agg [.bool bn,.str b]] (.bool (Qb0 an a.data.toList&&Qb0 bn b.data.toList)):=by
 refine Qab (tb:=[]) 11 [.tmp 4] [0,1,2,3,4] mixed Tryz.func107 rfl (by kernel_rfl) ?_;simp -implicitDefEqProofs only [go_sem,seval];refine Qak _ _ _ _ _ _ _ _ _ (Qqp an a) ?_;cases h:Qb0 an a.data.toList with
 |true=>
  simp -implicitDefEqProofs only [go_sem,seval,Bool.true_and];refine Qak _ _ _ _ _ _ _ _ _ (Qqp bn b) ?_;simp -implicitDefEqProofs only [go_sem,seval]
 |false=>
  simp -implicitDefEqProofs only [go_sem,seval,Bool.false_and]
end Go.Proofs.YtnohfmdlaajpbaaGreat
