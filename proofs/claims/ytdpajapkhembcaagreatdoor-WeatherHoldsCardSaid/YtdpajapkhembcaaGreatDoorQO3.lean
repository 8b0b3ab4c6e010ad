/-
  QJ10, QJ11, QJ12, QJ13, QJ14, QJ15, QJ16, Dsx, Dws, Dwh, QJ22, UYC, QI5, QI7, QO1, QO2, QSh, USo, QO3 (merged for the claim).
-/
import Derived.Test.YtdpajapkhembcaaGreatDoorQJ9
import Derived.Test.YtdpajapkhembcaaGreatDoorDgn
import Derived.Test.YtdpajapkhembcaaGreatDoorULD
import Derived.Test.YtdpajapkhembcaaGreatDoorQI4
import Derived.Shelf.Sort.Plain
import Derived.Shelf.Slices.In.SortNone
import Derived.Test.YtdpajapkhembcaaGreatDoorChecked
import Derived.Sort.OwnSortedInts
import Derived.Sort.Grow
set_option linter.unusedSimpArgs false
set_option linter.unusedVariables false
namespace Go.Proofs.YtdpajapkhembcaaGreatDoor
open Go.Vl Go.RowKit Go.Dg
def staB (st tr:Int):Bool:=decide (1≤st)&&(decide (st≤3600000)&&(decide (1≤tr)&&(decide (tr≤100)&&decide ((tr-1)*st≤3600000))))
def stpE (st:Int) (i:Nat):List Int:=(List.range i).map (fun(k:Nat)=>(k:Int)*st)++List.replicate (100-i) 0
theorem Qi7 (st:Int) {i:Nat} (h:i≤100):(stpE st i).length=100:=by
 unfold stpE;rw [List.length_append,List.length_map,List.length_range,List.length_replicate];omega
theorem Zga (st:Int) {i:Nat} (h:i<100):(stpE st i).set i ((i:Int)*st)=stpE st (i+1):=by
 unfold stpE;have hl:((List.range i).map (fun(k:Nat)=>(k:Int)*st)).length=i:=by simp
 rw [List.set_append_right _ _ (by omega),hl,Nat.sub_self,show 100-i=(100-(i+1))+1 by omega,List.replicate_succ,List.set_cons_zero,List.range_succ,List.map_append];simp
theorem Zgb (st:Int) {i:Nat} (h:i<100):(stpE st 100)[i]? =some ((i:Int)*st):=by
 unfold stpE;rw [List.getElem?_append_left (by simpa using h)];simp [h]
theorem Qy7 (st:Int) {i:Nat} (h:i<100):((stpE st 100).map (PV.int .i64))[i]? =some (.int .i64 ((i:Int)*st)):=by rw [List.getElem?_map,Zgb st h];rfl
theorem Q7e (st:Int):(stpE st 0).map (PV.int .i64)=List.replicate 100 (.int .i64 0):=by
 unfold stpE;rw [List.range_zero,List.map_nil,List.nil_append,List.map_replicate]
theorem Qi8 {st tr:Int} (e:staB st tr=true):1≤st∧st≤3600000∧1≤tr∧tr≤100∧(tr-1)*st≤3600000:=by
 unfold staB at e;simpa only [Bool.and_eq_true,decide_eq_true_eq]using e
theorem Zgc {st tr:Int} (e:staB st tr=true) {i:Nat} (h:(i:Int)<tr):0≤(i:Int)*st∧(i:Int)*st≤3600000:=by
 obtain⟨h1,h2,h3,h4,h5⟩:=Qi8 e;refine⟨Int.mul_nonneg (by omega) (by omega),Int.le_trans (Int.mul_le_mul_of_nonneg_right (by omega) (by omega)) h5⟩
theorem Zgd {st:Int} (h1:1≤st) (h2:st≤3600000) {i:Nat} (h:i<100):IntKind.i64.wrap ((i:Int)*st)=(i:Int)*st:=by
 have a:0≤(i:Int)*st:=Int.mul_nonneg (by omega) (by omega);have b:(i:Int)*st≤100*3600000:=Int.mul_le_mul (by omega) h2 (by omega) (by omega);exact Qag (by omega) (by omega)
theorem Zqk {st tr:Int} (h1:1≤st) (h2:st≤3600000) (h3:1≤tr) (h4:tr≤100):IntKind.i64.wrap (tr-1)=tr-1∧IntKind.i64.wrap ((tr-1)*st)=(tr-1)*st:=by
 have a:0≤(tr-1)*st:=Int.mul_nonneg (by omega) (by omega);have b:(tr-1)*st≤100*3600000:=Int.mul_le_mul (by omega) h2 (by omega) (by omega);exact⟨Qag (by omega) (by omega),Qag (by omega) (by omega)⟩
theorem Z3y (xs:List Int) (i:Nat) (h:i<xs.length):(xs.map (PV.int .i64))[i]? =some (.int .i64 xs[i]):=by rw [List.getElem?_map,List.getElem?_eq_getElem h];rfl
theorem Q7f (st tr:Int) (e:staB st tr=false):Qct Tryz.prog 36 [.int .i64 st,.int .i64 tr] [] .nilS []:=by
 by_cases h1:1≤st
 case neg=>
  have q1:(st<1)=True:=eq_true (by omega);refine Qbp (tb:=[]) 45 [.tmp 4] [0,1,4,5,6,27,30,31,32] mixed Tryz.func36 rfl (by kernel_rfl) (by kernel_rfl) (by kernel_rfl) (by kernel_rfl) (by rfl) ?_;repeat simp -implicitDefEqProofs only [go_sem,seval,q1,decide_true]
  refine Qa7 (.inl rfl) ?_;simp -implicitDefEqProofs only [go_sem,seval];refine Qaj (θ:=[]) rfl ?_ ?_
  ·simp [Qae,lkp,ren1,ren0,Qai]
  ·exact trivial
 have q1:(st<1)=False:=eq_false (by omega);by_cases h2:st≤3600000
 case neg=>
  have q2:(3600000<st)=True:=eq_true (by omega);refine Qbp (tb:=[]) 45 [.tmp 4] [0,1,4,5,6,27,30,31,32] mixed Tryz.func36 rfl (by kernel_rfl) (by kernel_rfl) (by kernel_rfl) (by kernel_rfl) (by rfl) ?_;repeat simp -implicitDefEqProofs only [go_sem,seval,q1,q2,decide_true,decide_false]
  refine Qa7 (.inl rfl) ?_;simp -implicitDefEqProofs only [go_sem,seval];refine Qaj (θ:=[]) rfl ?_ ?_
  ·simp [Qae,lkp,ren1,ren0,Qai]
  ·exact trivial
 have q2:(3600000<st)=False:=eq_false (by omega);by_cases h3:1≤tr
 case neg=>
  have q3:(tr<1)=True:=eq_true (by omega);refine Qbp (tb:=[]) 45 [.tmp 4] [0,1,4,5,6,27,30,31,32] mixed Tryz.func36 rfl (by kernel_rfl) (by kernel_rfl) (by kernel_rfl) (by kernel_rfl) (by rfl) ?_;repeat simp -implicitDefEqProofs only [go_sem,seval,q1,q2,q3,decide_true,decide_false]
  refine Qa7 (.inl rfl) ?_;simp -implicitDefEqProofs only [go_sem,seval];refine Qaj (θ:=[]) rfl ?_ ?_
  ·simp [Qae,lkp,ren1,ren0,Qai]
  ·exact trivial
 have q3:(tr<1)=False:=eq_false (by omega);by_cases h4:tr≤100
 case neg=>
  have q4:(100<tr)=True:=eq_true (by omega);refine Qbp (tb:=[]) 45 [.tmp 4] [0,1,4,5,6,27,30,31,32] mixed Tryz.func36 rfl (by kernel_rfl) (by kernel_rfl) (by kernel_rfl) (by kernel_rfl) (by rfl) ?_;repeat simp -implicitDefEqProofs only [go_sem,seval,q1,q2,q3,q4,decide_true,decide_false]
  refine Qa7 (.inl rfl) ?_;simp -implicitDefEqProofs only [go_sem,seval];refine Qaj (θ:=[]) rfl ?_ ?_
  ·simp [Qae,lkp,ren1,ren0,Qai]
  ·exact trivial
 have q4:(100<tr)=False:=eq_false (by omega);obtain⟨w1,w2⟩:=Zqk h1 h2 h3 h4;have h5: ¬(tr-1)*st≤3600000:=fun h5=>by
  unfold staB at e;rw [decide_eq_true h1,decide_eq_true h2,decide_eq_true h3,decide_eq_true h4,decide_eq_true h5]at e;cases e
 have q5:(3600000<(tr-1)*st)=True:=eq_true (by omega);refine Qbp (tb:=[]) 45 [.tmp 4] [0,1,4,5,6,27,30,31,32] mixed Tryz.func36 rfl (by kernel_rfl) (by kernel_rfl) (by kernel_rfl) (by kernel_rfl) (by rfl) ?_;repeat simp -implicitDefEqProofs only [go_sem,seval,q1,q2,q3,q4,q5,w1,w2,decide_true,decide_false]
 refine Qa7 (.inl rfl) ?_;simp -implicitDefEqProofs only [go_sem,seval];refine Qaj (θ:=[]) rfl ?_ ?_
 ·simp [Qae,lkp,ren1,ren0,Qai]
 ·exact trivial
set_option maxRecDepth 100000 in
set_option maxHeartbeats 4000000 in
theorem Qtu (st:Int) (n:Nat) (e:staB st (n:Int)=true):Qct Tryz.prog 36 [.int .i64 st,.int .i64 (n:Int)] [] (.bs 7 1 0 n) [(7,iB1 (stpE st 100))]:=by
 obtain⟨h1,h2,h3,h4,h5⟩:=Qi8 e;obtain⟨w1,w2⟩:=Zqk h1 h2 h3 h4;have q1:(st<1)=False:=eq_false (by omega);have q2:(3600000<st)=False:=eq_false (by omega);have q3:((n:Int)<1)=False:=eq_false (by omega);have q4:((100:Int)<(n:Int))=False:=eq_false (by omega);have q5:(3600000<((n:Int)-1)*st)=False:=eq_false (by omega);have c100:((100:Nat):Int)=100:=rfl;have hz:=Q7e st;have mk:(((8:Nat):Int)*100≤281474976710656)=True:=eq_true (by decide);refine Qbp (tb:=[]) 45 [.tmp 4] [0,1,4,5,6,27,30,31,32] mixed Tryz.func36 rfl (by kernel_rfl) (by kernel_rfl) (by kernel_rfl) (by kernel_rfl) (by rfl) ?_;repeat simp -implicitDefEqProofs only [go_sem,seval,q1,q2,q3,q4,q5,w1,w2,mk,decide_true,decide_false]
 refine Qau mixed (fun i:{i:Nat // i≤100}=>St.of [(0,.int .i64 st),(1,.int .i64 (n:Int)),(5,.bs 300 1 0 100),(30,.int .i64 100),(31,.int .i64 (i.1:Int))] [(300,iB1 (stpE st i.1))]) (fun i=>100-i.1) ⟨0,Nat.zero_le _⟩ ?_ ?_
 ·refine Qaj (θ:=[(300,300)]) rfl ?_ ?_
  ·simp [Qae,lkp,ren1,ren0,Qai]
  ·exact⟨⟨rfl,rfl,rfl,rfl,rfl,.inl ⟨rfl,rfl⟩⟩,trivial⟩
 ·rintro⟨i,hi⟩;simp only;by_cases hA:i<100
  ·have hA':((i:Int)<100)=True:=eq_true (by omega);have n0:=nnT i;have hwi:=Qak (a:=i) (by omega);have wi:=Zgd h1 h2 hA;have hs:((stpE st i).map (PV.int .i64)).set i (.int .i64 ((i:Int)*st))=(stpE st (i+1)).map (PV.int .i64):=by rw [←List.map_set,Zga st hA]
   obtain⟨y,hy⟩: ∃y,((stpE st i).map (PV.int .i64))[i]? =some (.int .i64 y):=⟨_,Z3y _ _ (by rw [Qi7 st hi];exact hA)⟩;have hl:=Qi7 st hi;generalize hD:stpE st (i+1)=D at*;generalize stpE st i=E at*;repeat simp -implicitDefEqProofs only [go_sem,seval,hA',n0,hwi,wi,hs,hy,c100,decide_true,Int.toNat_natCast]
   refine⟨⟨i+1,hA⟩,by simp only;omega,?_⟩;simp only [hD];refine Qaj (θ:=[(300,300)]) rfl ?_ ?_
   ·simp [Qae,lkp,ren1,ren0,Qai]
   ·exact⟨⟨rfl,rfl,rfl,rfl,rfl,.inl ⟨rfl,rfl⟩⟩,trivial⟩
  ·obtain rfl:i=100:=by omega
   have n0:=nnT n;have hl:=Qi7 st (Nat.le_refl 100);have r1:((n:Int)≤100)=True:=eq_true h4;have r0:((0:Int)<(n:Int))=True:=eq_true (by omega);have r2:(n≤100)=True:=eq_true (by omega);generalize stpE st 100=E at*;repeat simp -implicitDefEqProofs only [go_sem,seval,c100,r0,r1,decide_true,Int.lt_irrefl,Int.toNat_natCast]
   refine Qa7 (.inl rfl) ?_;simp -implicitDefEqProofs only [go_sem,seval];refine Qaj (θ:=[(7,300)]) rfl ?_ ?_
   ·simp [Qae,lkp,ren1,ren0,Qai]
   ·exact⟨⟨rfl,rfl,rfl,rfl,rfl,.inl ⟨rfl,rfl⟩⟩,trivial⟩
def tabE (W:List Wd) (B:Bat) (p:Pg) (g h st tr:Int):Int:=if rulB g h=true∧staB st tr=true then Qd6 p B W else 2
def tabL (W:List Wd) (B:Bat) (p:Pg) (g h st:Int) (k:Nat):List Int:=(List.range k).map fun(i:Nat)=>decI (Qcw ((i:Int)*st) W) B p g h
theorem Qi9 (W:List Wd) (B:Bat) (p:Pg) (g h st:Int) (k:Nat):(tabL W B p g h st k).length=k:=by simp [tabL]
theorem Q7g (W:List Wd) (B:Bat) (p:Pg) (g h st:Int) (k:Nat):tabL W B p g h st (k+1)=tabL W B p g h st k++[decI (Qcw ((k:Int)*st) W) B p g h]:=by
 unfold tabL;rw [List.range_succ,List.map_append];rfl
def Q7h (W:List Wd) (B:Bat) (p:Pg) (g h st tr:Int):PV:= .tup [.slc ((if tabE W B p g h st tr=0 then tabL W B p g h st tr.toNat else []).map (PV.int .i64)),.int .i64 (tabE W B p g h st tr)]
abbrev weB (xs:List Int):Box:={els:=xs.map (PV.int .i64),esz:=1,ety:=39,fro:=0,live:=true,arr:=true}
theorem Zge {p:Pg} {B:Bat} {W:List Wd} (e:Qd6 p B W=0) {s:Int} (h:0≤s):Qd6 p B (Qcw s W)=0:=by
 obtain⟨v,hw,hB,hN⟩:=Qhq e;exact Qpy v (Qk4 hw h) hB hN
theorem Qki (s:Int) (l:List Wd):(Qcw s l).length≤l.length:=by
 unfold Qcw;rw [List.length_map];exact Qhj s l
set_option maxHeartbeats 8000000 in
theorem Qv4 (p:Pg) (B:Bat) (W:List Wd) (g h st tr:Int) (hf:FewP p) (hl:W.length≤maxLen):Qaf Tryz.prog 16 [pgV p,baPV B,wsPV W,.agg [.int .i64 g,.int .i64 h],.int .i64 st,.int .i64 tr] (Q7h W B p g h st tr):=by
 have f1:=Qtt g h;have f2:=Qv5 p B W (Qpu hf) hl;unfold Q7h;cases e1:staB st tr with
 |false=>
  have f0:=Q7f st tr e1;have eE:tabE W B p g h st tr=2:=by unfold tabE;rw [if_neg (fun q=>by rw [e1]at q;exact Bool.false_ne_true q.2)]
  rw [eE,if_neg (by decide)];cases e0:rulB g h with
  |false=>
   rw [e0]at f1;unfold pgV baPV

   refine Qab (tb:=[(102,[],[])]) 69 [.tmp 12,.tmp 13] [0,1,2,3,4,5,6,7,9,12,13,14,15,16,18,19,21,22,32,38,40,41,42,43,61] mixed Tryz.func16 rfl (by kernel_rfl) ?_;repeat (first|simp only [go_sem,seval,Bool.not_false,List.map_nil]|(with_reducible refine Qa4 f0 ?_ ?_ ?_ ?_);rfl;rfl;rfl|(with_reducible refine Qaa f1 ?_ ?_ ?_);rfl;rfl)
  |true=>
   rw [e0]at f1;unfold pgV baPV

   refine Qab (tb:=[(102,[],[])]) 69 [.tmp 12,.tmp 13] [0,1,2,3,4,5,6,7,9,12,13,14,15,16,18,19,21,22,32,38,40,41,42,43,61] mixed Tryz.func16 rfl (by kernel_rfl) ?_;repeat (first|simp only [go_sem,seval,Bool.not_true,List.map_nil]|(with_reducible refine Qa4 f0 ?_ ?_ ?_ ?_);rfl;rfl;rfl|(with_reducible refine Qaa f1 ?_ ?_ ?_);rfl;rfl)
 |true=>
 obtain⟨s1,s2,s3,s4,s5⟩:=Qi8 e1;obtain⟨n,rfl⟩: ∃n:Nat,tr=(n:Int):=⟨tr.toNat,by omega⟩;have f0:=Qtu st n e1;have nb:Nat.beq n 0=false:=(fun h0:n≠0=>match n,h0 with|0,q=>absurd rfl q|_+1,_=>rfl) (by omega);have bl7:Nat.blt 1700 1000000=true:=rfl;cases e0:rulB g h with
 |false=>
  rw [e0]at f1;have eE:tabE W B p g h st (n:Int)=2:=by unfold tabE;rw [if_neg (fun q=>by rw [e0]at q;exact Bool.false_ne_true q.1)]
  rw [eE,if_neg (by decide)];unfold pgV baPV

  refine Qab (tb:=[(102,[],[(7,1700)])]) 69 [.tmp 12,.tmp 13] [0,1,2,3,4,5,6,7,9,12,13,14,15,16,18,19,21,22,32,38,40,41,42,43,61] mixed Tryz.func16 rfl (by kernel_rfl) ?_;repeat (first|simp only [go_sem,seval,Bool.not_false,bl7,List.map_nil]|(with_reducible refine Qa4 f0 ?_ ?_ ?_ ?_);rfl;rfl;rfl|(with_reducible refine Qaa f1 ?_ ?_ ?_);rfl;rfl)
 |true=>
 rw [e0]at f1;have eE:tabE W B p g h st (n:Int)=Qd6 p B W:=by unfold tabE;rw [if_pos ⟨e0,e1⟩]
 rw [eE];rcases Qnl p B W with e|e|e
 case inr.inl=>
  rw [e]at f2 ⊢;rw [if_neg (by decide)];unfold pgV baPV at*

  refine Qab (tb:=[(102,[],[(7,1700)])]) 69 [.tmp 12,.tmp 13] [0,1,2,3,4,5,6,7,9,12,13,14,15,16,18,19,21,22,32,38,40,41,42,43,61] mixed Tryz.func16 rfl (by kernel_rfl) ?_;repeat (first|simp only [go_sem,seval,Bool.not_true,bl7,nb,n2_0,List.map_nil]|(with_reducible refine Qa4 f0 ?_ ?_ ?_ ?_);rfl;rfl;rfl|(with_reducible refine Qaa f1 ?_ ?_ ?_);rfl;rfl|(with_reducible refine Qaa f2 ?_ ?_ ?_);rfl;rfl)
 case inr.inr=>
  rw [e]at f2 ⊢;rw [if_neg (by decide)];unfold pgV baPV at*

  refine Qab (tb:=[(102,[],[(7,1700)])]) 69 [.tmp 12,.tmp 13] [0,1,2,3,4,5,6,7,9,12,13,14,15,16,18,19,21,22,32,38,40,41,42,43,61] mixed Tryz.func16 rfl (by kernel_rfl) ?_;repeat (first|simp only [go_sem,seval,Bool.not_true,bl7,nb,n9_0,List.map_nil]|(with_reducible refine Qa4 f0 ?_ ?_ ?_ ?_);rfl;rfl;rfl|(with_reducible refine Qaa f1 ?_ ?_ ?_);rfl;rfl|(with_reducible refine Qaa f2 ?_ ?_ ?_);rfl;rfl)
 rw [e]at f2 ⊢;rw [if_pos rfl,Int.toNat_natCast];have hMv:=fun s=>Qil W s hl;have hDc:=fun s=>Qja p B (Qcw s W) g h hf (Nat.le_trans (Qki s W) hl);obtain⟨v,hw,hB,hN⟩:=Qhq e;unfold pgV baPV at*

 refine Qab (tb:=[(102,[],[(7,1700)])]) 69 [.tmp 12,.tmp 13] [0,1,2,3,4,5,6,7,9,12,13,14,15,16,18,19,21,22,32,38,40,41,42,43,61] mixed Tryz.func16 rfl (by kernel_rfl) ?_;repeat (first|simp only [go_sem,seval,Bool.not_true,bl7,nb,n0_0]|(with_reducible refine Qa4 f0 ?_ ?_ ?_ ?_);rfl;rfl;rfl|(with_reducible refine Qaa f1 ?_ ?_ ?_);rfl;rfl|(with_reducible refine Qaa f2 ?_ ?_ ?_);rfl;rfl)
 refine Qau mixed (fun i:{i:Nat // i≤n}=>St.of [(2,wsPV W),(6,.bp 0 3 0 0),(7,.bp 1 5 0 0),(9,.bp 2 2 0 0),(16,.bs 7 1 0 i.1),(40,.bs 1700 1 0 n),(41,.int .i64 (n:Int)),(42,.int .i64 (i.1:Int))] [(0,{els:=[.agg [.slc (p.ns.map PV.str),.slc (p.hs.map v3PV),.slc (p.as_.map acV)]],esz:=3,ety:=26,fro:=0,live:=true,arr:=false}),(1,{els:=[.agg [.int .i64 B.base,.int .i64 B.climb,.int .i64 B.drag,.int .i64 B.cap,.int .i64 B.res]],esz:=5,ety:=28,fro:=0,live:=true,arr:=false}),(2,{els:=[.agg [.int .i64 g,.int .i64 h]],esz:=2,ety:=31,fro:=0,live:=true,arr:=false}),(1700,iB1 (stpE st 100)),(7,weB (tabL W B p g h st i.1))]) (fun i=>n-i.1) ⟨0,Nat.zero_le _⟩ ?_ ?_
 ·refine Qow 16 7 1 39 rfl rfl rfl (by decide) [(0,0),(1,1),(2,2),(1700,1700),(7,7)] rfl ?_ ?_
  ·simp [Qae,lkp,ren1,ren0,Qai]
  ·exact⟨⟨rfl,rfl,rfl,rfl,rfl,.inr ⟨rfl,_,_,rfl,rfl,rfl,rfl⟩⟩,⟨rfl,rfl,rfl,rfl,rfl,.inr ⟨rfl,_,_,rfl,rfl,rfl,rfl⟩⟩,⟨rfl,rfl,rfl,rfl,rfl,.inr ⟨rfl,_,_,rfl,rfl,rfl,rfl⟩⟩,⟨rfl,rfl,rfl,rfl,rfl,.inl ⟨rfl,rfl⟩⟩,⟨rfl,rfl,rfl,rfl,rfl,.inl ⟨rfl,rfl⟩⟩,trivial⟩
 ·rintro⟨i,hi⟩;simp only;by_cases hA:i<n
  ·have hA':=ltT hA;have n0:=nnT i;have hwi:=Qak (a:=i) (by omega);obtain⟨r1,r2⟩:=Zgc e1 (i:=i) (by omega);have hM:=hMv ((i:Int)*st);have hD:=hDc ((i:Int)*st);unfold mvPV at hM;rw [if_pos ⟨hw,r1,r2⟩]at hM;unfold Qv7 decE at hD;rw [if_pos e0,Zge e r1,if_pos rfl]at hD;have hge:=Qy7 st (i:=i) (by omega);have hse:=Qi7 st (Nat.le_refl 100);have hts:=Q7g W B p g h st i;have htl:=Qi9 W B p g h st i;have hk1:=Qfy (tabL W B p g h st i);have hk2:((i+1)*8≤140737488355328)=True:=eq_true (by omega);have hk3:(i+1≤maxLen)=True:=eq_true (by unfold maxLen;omega);generalize decI (Qcw ((i:Int)*st) W) B p g h=d at*;generalize Qcw ((i:Int)*st) W=MW at*;generalize (i:Int)*st=s at*;generalize stpE st 100=SE at*;generalize hQ:tabL W B p g h st (i+1)=Q at*;generalize tabL W B p g h st i=T at*;repeat (first|simp only [go_sem,seval,hA',n0,hwi,hge,n0_0,htl,hk1,hk2,hk3,Int.toNat_natCast,List.length_map]|(with_reducible refine Qaa hM ?_ ?_ ?_);rfl;rfl|(with_reducible refine Qaa hD ?_ ?_ ?_);rfl;rfl)
   refine⟨⟨i+1,hA⟩,by simp only;omega,?_⟩;refine Qaj (θ:=[(0,0),(1,1),(2,2),(1700,1700),(7,1503)]) rfl ?_ ?_
   ·simp [Qae,lkp,ren1,ren0,Qai]
   ·simp only [hQ,hts];refine⟨⟨rfl,rfl,rfl,rfl,rfl,.inr ⟨rfl,_,_,rfl,rfl,rfl,rfl⟩⟩,⟨rfl,rfl,rfl,rfl,rfl,.inr ⟨rfl,_,_,rfl,rfl,rfl,rfl⟩⟩,⟨rfl,rfl,rfl,rfl,rfl,.inr ⟨rfl,_,_,rfl,rfl,rfl,rfl⟩⟩,⟨rfl,rfl,rfl,rfl,rfl,.inl ⟨rfl,rfl⟩⟩,⟨rfl,rfl,rfl,rfl,rfl,.inl ⟨rfl,?_⟩⟩,trivial⟩;simp
  ·have hA':=ltF hA;obtain rfl:i=n:=by omega
   have ht:((tabL W B p g h st i).map (PV.int .i64)).take i=(tabL W B p g h st i).map (PV.int .i64):=List.take_of_length_le (by rw [List.length_map,Qi9];exact Nat.le_refl _);have hk1:=Qfy (tabL W B p g h st i);have htl:=Qi9 W B p g h st i;generalize tabL W B p g h st i=T at*;repeat simp only [go_sem,seval,hA',ht,htl,List.length_map,Nat.le_refl,decide_true]
def fz (xs:List Int):Nat→Int
 |0=> -1
 |d+1=>if xs.getD (xs.length-(d+1)) 1=0 then((xs.length-(d+1):Nat):Int)else fz xs d
theorem Q7i {xs:List Int} {k:Nat} (h:k<xs.length):fz xs (xs.length-k)=if xs.getD k 1=0 then(k:Int)else fz xs (xs.length-(k+1)):=by
 obtain⟨d,hd⟩: ∃d,xs.length-k=d+1:=⟨xs.length-k-1,by omega⟩;rw [hd,fz,show xs.length-(d+1)=k by omega,show xs.length-(k+1)=d by omega]
theorem Qy8 (xs:List Int): ∀d,d≤xs.length→fz xs d= -1∨ ∃k:Nat,k<xs.length∧fz xs d=(k:Int)
 |0,_=> .inl rfl
 |d+1,h=>by
  unfold fz;split
  ·exact .inr ⟨_,by omega,rfl⟩
  ·exact Qy8 xs d (by omega)
theorem Zz1 (xs:List Int) {i:Nat} (h:i<xs.length):(xs.map (PV.int .i64))[i]? =some (.int .i64 (xs.getD i 1)):=by
 rw [List.getElem?_map,List.getElem?_eq_getElem h,List.getD_eq_getElem?_getD,List.getElem?_eq_getElem h];rfl
set_option maxHeartbeats 4000000 in
theorem Zgf (xs:List Int) (hl:xs.length≤100000):Qaf Tryz.prog 37 [.slc (xs.map (PV.int .i64)),.int .i64 0] (.int .i64 (fz xs xs.length)):=by
 refine Qab (tb:=[]) 19 [.tmp 4] [0,1,4,5,7,8,9,16] mixed Tryz.func37 rfl (by kernel_rfl) ?_;repeat simp only [go_sem,seval,List.length_map]
 refine Qau mixed (fun k:{k:Nat // k≤xs.length∧fz xs (xs.length-k)=fz xs xs.length}=>St.of [(0,.slc (xs.map (PV.int .i64))),(1,.int .i64 0),(7,.int .i64 (xs.length:Int)),(8,.int .i64 (k.1:Int))] []) (fun k=>xs.length-k.1) ⟨0,Nat.zero_le _,rfl⟩ ?_ ?_
 ·refine Qax ?_;simp [Qae,lkp,ren1,ren0,Qai]
 ·rintro⟨k,hk,hz⟩;simp only;by_cases hA:k<xs.length
  ·have hA':=ltT hA;have n0:=nnT k;have hg:=Zz1 xs hA;have hwk:=Qak (a:=k) (by omega);have hs:=Q7i hA;by_cases h0:xs.getD k 1=0
   ·rw [if_pos h0]at hs;have h0':((0:Int)==xs.getD k 1)=true:=by rw [h0];rfl
    rw [←hz,hs];generalize xs.getD k 1=y at*;repeat simp only [go_sem,seval,hA',n0,hg,h0',Int.toNat_natCast]
   ·rw [if_neg h0]at hs;have h0':((0:Int)==xs.getD k 1)=false:=beq_eq_false_iff_ne.2 (fun q=>h0 q.symm);generalize xs.getD k 1=y at*;repeat simp only [go_sem,seval,hA',n0,hg,h0',hwk,Int.toNat_natCast]
    refine⟨⟨k+1,hA,by rw [←hs];exact hz⟩,by simp only;omega,?_⟩;refine Qax ?_;simp [Qae,lkp,ren1,ren0,Qai]
  ·have hA':=ltF hA;obtain rfl:k=xs.length:=by omega
   rw [Nat.sub_self]at hz;rw [←hz,show fz xs 0= -1 from rfl];repeat simp only [go_sem,seval,hA']
def winI (W:List Wd) (B:Bat) (p:Pg) (g h st:Int) (n:Nat):Int:=fz (tabL W B p g h st n) n
def winE (W:List Wd) (B:Bat) (p:Pg) (g h st tr:Int):Int:=if tabE W B p g h st tr=0 then(if winI W B p g h st tr.toNat<0 then 9 else 0)else tabE W B p g h st tr
def winV (W:List Wd) (B:Bat) (p:Pg) (g h st tr:Int):Int:=if tabE W B p g h st tr=0 then(if winI W B p g h st tr.toNat<0 then 0 else winI W B p g h st tr.toNat*st)else 0
theorem Zz2 (W:List Wd) (B:Bat) (p:Pg) (g h st tr:Int):tabE W B p g h st tr=0∨tabE W B p g h st tr=2∨tabE W B p g h st tr=9:=by
 unfold tabE;split
 ·exact Qnl p B W
 ·exact .inr (.inl rfl)
set_option maxHeartbeats 8000000 in
theorem Qy9 (p:Pg) (B:Bat) (W:List Wd) (g h st tr:Int) (hf:FewP p) (hl:W.length≤maxLen):Qaf Tryz.prog 17 [pgV p,baPV B,wsPV W,.agg [.int .i64 g,.int .i64 h],.int .i64 st,.int .i64 tr] (.tup [.int .i64 (winV W B p g h st tr),.int .i64 (winE W B p g h st tr)]):=by
 have f1:=Qv4 p B W g h st tr hf hl;unfold Q7h at f1;unfold winV winE;rcases Zz2 W B p g h st tr with e|e|e
 case inr.inl=>
  rw [e,if_neg (by decide)]at f1;rw [e,if_neg (by decide),if_neg (by decide)];unfold pgV baPV at*;refine Qab (tb:=[]) 40 [.tmp 12,.tmp 13] [0,1,2,3,4,5,6,7,9,12,13,14,15,16,28,33] mixed Tryz.func17 rfl (by kernel_rfl) ?_;repeat (first|simp only [go_sem,seval,n2_0]|(with_reducible refine Qaa f1 ?_ ?_ ?_);rfl;rfl)
 case inr.inr=>
  rw [e,if_neg (by decide)]at f1;rw [e,if_neg (by decide),if_neg (by decide)];unfold pgV baPV at*;refine Qab (tb:=[]) 40 [.tmp 12,.tmp 13] [0,1,2,3,4,5,6,7,9,12,13,14,15,16,28,33] mixed Tryz.func17 rfl (by kernel_rfl) ?_;repeat (first|simp only [go_sem,seval,n9_0]|(with_reducible refine Qaa f1 ?_ ?_ ?_);rfl;rfl)
 rw [e,if_pos rfl]at f1;rw [e,if_pos rfl,if_pos rfl];have hst:staB st tr=true:=by
  cases q:staB st tr with
  |true=>rfl
  |false=>
   exfalso;unfold tabE at e;rw [if_neg (fun w=>by rw [q]at w;exact Bool.false_ne_true w.2)]at e;exact absurd e (by decide)
 obtain⟨s1,s2,s3,s4,s5⟩:=Qi8 hst;obtain⟨n,rfl⟩: ∃n:Nat,tr=(n:Int):=⟨tr.toNat,by omega⟩;rw [Int.toNat_natCast]at f1 ⊢;have hlen:=Qi9 W B p g h st n;have f2:=Zgf (tabL W B p g h st n) (by omega);have f3:=Qtu st n hst;have hc:=Qy8 (tabL W B p g h st n) n (by omega);rw [hlen]at f2 hc;unfold winI;generalize fz (tabL W B p g h st n) n=i at*;generalize tabL W B p g h st n=T at*;unfold pgV baPV at*;rcases hc with rfl|⟨k,hk,rfl⟩
 ·rw [if_pos (by decide),if_pos (by decide)];refine Qab (tb:=[]) 40 [.tmp 12,.tmp 13] [0,1,2,3,4,5,6,7,9,12,13,14,15,16,28,33] mixed Tryz.func17 rfl (by kernel_rfl) ?_;repeat (first|simp only [go_sem,seval,n0_0]|(with_reducible refine Qaa f1 ?_ ?_ ?_);rfl;rfl|(with_reducible refine Qaa f2 ?_ ?_ ?_);rfl;rfl)
 ·rw [if_neg (by omega),if_neg (by omega)];have hlt:((k:Int)<0)=False:=eq_false (by omega);have hA':=ltT hk;have n0:=nnT k;have hge:=Qy7 st (i:=k) (by omega);have hse:=Qi7 st (Nat.le_refl 100);have hr1:(n≤100)=True:=eq_true (by omega);have bl7:Nat.blt 1700 1000000=true:=rfl;generalize stpE st 100=SE at*

  refine Qab (tb:=[(702,[],[(7,1700)])]) 40 [.tmp 12,.tmp 13] [0,1,2,3,4,5,6,7,9,12,13,14,15,16,28,33] mixed Tryz.func17 rfl (by kernel_rfl) ?_;repeat (first|simp only [go_sem,seval,n0_0,hlt,hA',n0,hge,bl7,Int.toNat_natCast]|(with_reducible refine Qaa f1 ?_ ?_ ?_);rfl;rfl|(with_reducible refine Qaa f2 ?_ ?_ ?_);rfl;rfl|(with_reducible refine Qa4 f3 ?_ ?_ ?_ ?_);rfl;rfl;rfl)
theorem Z3z:Qci Tryz.prog 71=some [1,1,1,1,1,1,1,1,1,1,1]:=by kernel_rfl
set_option maxHeartbeats 4000000 in
theorem Zs2 (l:List Wd) (hl:l.length≤100000):Qaf Tryz.prog 12 [wsPV l,wsPV l] (.bool true):=by
 refine Qab (tb:=[]) 26 [.tmp 4] [0,1,4,5,10,14,25] mixed Tryz.func12 rfl (by kernel_rfl) ?_;repeat simp only [go_sem,seval,List.length_map,bne_self_eq_false]
 refine Qau mixed (fun k:{k:Nat // k≤l.length}=>St.of [(0,wsPV l),(1,wsPV l),(5,.int .i64 (k.1:Int))] []) (fun k=>l.length-k.1) ⟨0,Nat.zero_le _⟩ ?_ ?_
 ·refine Qax ?_;simp [Qae,lkp,ren1,ren0,Qai]
 ·rintro⟨k,hk⟩;simp only;by_cases hA:k<l.length
  ·have hA':=ltT hA;have n0:=nnT k;have hg:=Qk5 l k hA;have hwk:=Qak (a:=k) (by omega);generalize l[k]=w at*;repeat (first|simp only [go_sem,seval,Z3z,hA',n0,hg,hwk,Qav,BEq.rfl,Bool.not_true,Int.toNat_natCast,List.length_map]|(with_reducible refine And.intro (Qac _ _ (by kernel_rfl)) ?_))
   refine⟨⟨k+1,hA⟩,by simp only;omega,?_⟩;refine Qax ?_;simp [Qae,lkp,ren1,ren0,Qai]
  ·have hA':=ltF hA;repeat simp only [go_sem,seval,hA',List.length_map]
def exW:Pg:=⟨[⟨#[97]⟩],[⟨0,0,0⟩],[⟨⟨#[117,112]⟩,2000,[⟨⟨0,0,500⟩,0,1000,0⟩]⟩]⟩
def exL:List Wd:=[⟨-1048576, -1048576, -1048576,1048576,1048576,1048576,0,5000,300,400,0⟩]
theorem Zs3:FewQ exW:=by decide+kernel
theorem Qrd:Qd6 exW bat0 exL=0:=by decide+kernel
theorem Zz3:Qcw 4000 exL=[⟨-1048576, -1048576, -1048576,1048576,1048576,1048576,0,1000,300,400,0⟩]:=by decide+kernel
theorem Zz4:Qcw 5000 exL=[]:=by decide+kernel
theorem Q7j:wstI exL exW=250000:=by decide+kernel
theorem Zz5:decI exL bat0 exW 400 500=1:=by decide+kernel
theorem Zz6:decI exL bat0 exW 500 500=0:=by decide+kernel
theorem Zz7:decI exL bat0 exW 400 499=2:=by decide+kernel
theorem Zz8:tabL exL bat0 exW 400 500 2500 3=[1,1,0]:=by decide+kernel
theorem Q08:Qaf Tryz.prog 27 [] (.tup [pgV exW,wsPV exL]):=by
 refine Qab (tb:=[]) 28 [.cell 0 26,.tmp 1] [0,1,2,3] mixed Tryz.func27 rfl (by kernel_rfl) ?_;repeat simp only [go_sem,seval]
 rfl
theorem T_zr:Qar Tryz.prog 31=some (.agg [.int .i64 0,.int .i64 0]):=by kernel_rfl
theorem Z30:Qar Tryz.prog 28=some (.agg [.int .i64 0,.int .i64 0,.int .i64 0,.int .i64 0,.int .i64 0]):=by kernel_rfl
theorem Qmb:FewP exW:=Q7v Zs3
theorem Qkj:exL.length≤maxLen:=by decide
theorem Zz9:Qaf Tryz.prog 11 [wsPV exL,.int .i64 4000] (.tup [.slc [.agg [.int .i64 (-1048576),.int .i64 (-1048576),.int .i64 (-1048576),.int .i64 1048576,.int .i64 1048576,.int .i64 1048576,.int .i64 0,.int .i64 1000,.int .i64 300,.int .i64 400,.int .i64 0]],.int .i64 0]):=by
 have h:=Qil exL 4000 Qkj;unfold mvPV at h;rw [if_pos (by decide+kernel),Zz3]at h;exact h
theorem Z0a:Qaf Tryz.prog 11 [wsPV exL,.int .i64 5000] (.tup [.slc [],.int .i64 0]):=by
 have h:=Qil exL 5000 Qkj;unfold mvPV at h;rw [if_pos (by decide+kernel),Zz4]at h;exact h
theorem Z0b:Qaf Tryz.prog 14 [pgV exW,wsPV exL] (.tup [.int .i64 250000,.int .i64 0]):=by
 have h:=Qv6 exW exL Qmb Qkj;unfold Q7z at h;rw [Qrd,if_pos rfl,Q7j]at h;exact h
theorem Q7k {g h v:Int} (e0:rulB g h=true) (e:decI exL bat0 exW g h=v):Qaf Tryz.prog 13 [pgV exW,.agg [.int .i64 0,.int .i64 0,.int .i64 0,.int .i64 0,.int .i64 0],wsPV exL,.agg [.int .i64 g,.int .i64 h]] (.tup [.int .i64 v,.int .i64 0]):=by
 have h1:=Qja exW bat0 exL g h Qmb Qkj;unfold Qv7 decE at h1;rw [if_pos e0,Qrd,if_pos rfl,e]at h1;exact h1
theorem Qza:tabE exL bat0 exW 400 500 2500 3=0:=by
 unfold tabE;rw [if_pos (by decide+kernel),Qrd]
theorem Z0c:Qaf Tryz.prog 16 [pgV exW,.agg [.int .i64 0,.int .i64 0,.int .i64 0,.int .i64 0,.int .i64 0],wsPV exL,.agg [.int .i64 400,.int .i64 500],.int .i64 2500,.int .i64 3] (.tup [.slc [.int .i64 1,.int .i64 1,.int .i64 0],.int .i64 0]):=by
 have h:=Qv4 exW bat0 exL 400 500 2500 3 Qmb Qkj;unfold Q7h at h;rw [Qza,if_pos rfl,show Int.toNat 3=3 from rfl,Zz8]at h;exact h
theorem Z0d:Qaf Tryz.prog 17 [pgV exW,.agg [.int .i64 0,.int .i64 0,.int .i64 0,.int .i64 0,.int .i64 0],wsPV exL,.agg [.int .i64 400,.int .i64 500],.int .i64 2500,.int .i64 3] (.tup [.int .i64 5000,.int .i64 0]):=by
 have h:=Qy9 exW bat0 exL 400 500 2500 3 Qmb Qkj;unfold winV winE winI at h;rw [Qza,if_pos rfl,if_pos rfl,show Int.toNat 3=3 from rfl,Zz8]at h;exact h
set_option maxRecDepth 100000 in
set_option maxHeartbeats 4000000 in
theorem Zgg:Qaf Tryz.prog 10 [] (.bool true):=by
 have hx:=Q08;have k1:=Zz9;have k2:=Z0a;have k3:=Z0b;have k4:=Q7k (g:=400) (h:=500) (by decide) Zz5;have k5:=Q7k (g:=500) (h:=500) (by decide) Zz6;have k6:=Q7k (g:=400) (h:=499) (by decide) Zz7;have k7:=Z0c;have k8:=Z0d;unfold pgV at*;generalize exW.ns.map PV.str=A at*;generalize exW.hs.map v3PV=B at*;generalize exW.as_.map acV=C at*;generalize exL.map wdPV=L at*;have c0:((0:Nat):Int)=0:=rfl;have c1:((1:Nat):Int)=1:=rfl;have c3:((3:Nat):Int)=3:=rfl;refine Qab (tb:=[]) 173 [.tmp 0] [0,1,2,3,4,5,6,7,8,9,10,11,12,13,14,15,16,74] mixed Tryz.func10 rfl (by kernel_rfl) ?_;repeat (first|simp -implicitDefEqProofs only [go_sem,seval,T_zr,Z30,c0,c1,c3,decide_true,bne_self_eq_false,BEq.rfl,Bool.and_self,Bool.true_and,Bool.and_true,List.length_cons,List.length_nil]|(with_reducible refine Qaa hx ?_ ?_ ?_);rfl;rfl|(with_reducible refine Qaa k1 ?_ ?_ ?_);rfl;rfl|(with_reducible refine Qaa k2 ?_ ?_ ?_);rfl;rfl|(with_reducible refine Qaa k3 ?_ ?_ ?_);rfl;rfl|(with_reducible refine Qaa k4 ?_ ?_ ?_);rfl;rfl|(with_reducible refine Qaa k5 ?_ ?_ ?_);rfl;rfl|(with_reducible refine Qaa k6 ?_ ?_ ?_);rfl;rfl|(with_reducible refine Qaa k7 ?_ ?_ ?_);rfl;rfl|(with_reducible refine Qaa k8 ?_ ?_ ?_);rfl;rfl)
theorem z00:((0:Int)==0)=true:=rfl
theorem z22:((2:Int)==2)=true:=rfl
end Go.Proofs.YtdpajapkhembcaaGreatDoor

namespace Go.Dg
def srtI (xs:List Int):List Int:=xs.mergeSort fun x y=>decide (x≤y)
theorem Ql5 (xs:List Int):(srtI xs).length=xs.length:=by unfold srtI;exact List.length_mergeSort _
theorem Q54 (xs:List Int):(srtI xs).Pairwise (· ≤ ·)∧ ∀y,y∈srtI xs↔y∈xs:=by
 unfold srtI;refine⟨?_,fun y=>List.mem_mergeSort⟩;have h:=List.pairwise_mergeSort (le:=fun x y:Int=>decide (x≤y)) (fun a b c h1 h2=>by
  simp only [decide_eq_true_eq]at h1 h2 ⊢;omega) (fun a b=>by
  simp only [Bool.or_eq_true,decide_eq_true_eq];omega) xs
 exact h.imp fun h=>of_decide_eq_true h
def Qdq (k:Nat) (w:Wd):List Int:=match k with
 |0=>[w.lx,w.hx+1]
 |1=>[w.ly,w.hy+1]
 |2=>[w.lz,w.hz+1]
 |_=>[w.f,w.t]
def allE (k:Nat) (l:List Wd):List Int:=l.flatMap (Qdq k)
def numE (k:Nat) (l:List Wd):List Int:=dd (srtI (allE k l))
theorem Q6f (k:Nat) (l:List Wd) (w:Wd):allE k (l++[w])=allE k l++Qdq k w:=by simp [allE,List.flatMap_append]
theorem Z3f (k:Nat) (w:Wd):(Qdq k w).length=2:=by unfold Qdq;split<;>rfl
theorem Qfw (k:Nat): ∀l:List Wd,(allE k l).length=2*l.length
 | []=>rfl
 |w::l=>by
  have:=Qfw k l;simp only [allE,List.flatMap_cons,List.length_append,Z3f,List.length_cons]at this ⊢;omega
def sqL (l:List Wd) (q:Int×Int×Int×Int):Int:=atW Wd.ux l q.1 q.2.1 q.2.2.1 q.2.2.2*atW Wd.ux l q.1 q.2.1 q.2.2.1 q.2.2.2+atW Wd.uy l q.1 q.2.1 q.2.2.1 q.2.2.2*atW Wd.uy l q.1 q.2.1 q.2.2.1 q.2.2.2+atW Wd.uz l q.1 q.2.1 q.2.2.1 q.2.2.2*atW Wd.uz l q.1 q.2.1 q.2.2.1 q.2.2.2
def Qi4 (l:List Wd):Int→List (Int×Int×Int×Int)→Int
 |m,[]=>m
 |m,q::qs=>Qi4 l (max m (sqL l q)) qs
theorem Qtg (l:List Wd): ∀(a b:List (Int×Int×Int×Int)) (m:Int),Qi4 l m (a++b)=Qi4 l (Qi4 l m a) b
 | [],_,_=>rfl
 |q::a,b,m=>Qtg l a b _
def c3 (x y z:Int) (T:List Int):List (Int×Int×Int×Int):=T.map fun t=>(x,y,z,t)
def c2 (x y:Int) (Z T:List Int):List (Int×Int×Int×Int):=Z.flatMap fun z=>c3 x y z T
def c1 (x:Int) (Y Z T:List Int):List (Int×Int×Int×Int):=Y.flatMap fun y=>c2 x y Z T
def c0 (X Y Z T:List Int):List (Int×Int×Int×Int):=X.flatMap fun x=>c1 x Y Z T
def Qpt (l:List Wd):List (Int×Int×Int×Int):=c0 (numE 0 l) (numE 1 l) (numE 2 l) (numE 3 l)
def Qkg (l:List Wd):Int:=Qi4 l 0 (Qpt l)
theorem Q6g {x:Int} (h: -40000≤x∧x≤40000):0≤x*x∧x*x≤1600000000:=by
 have h1:=Int.mul_le_mul (a:=(x.natAbs:Int)) (b:=(x.natAbs:Int)) (c:=40000) (d:=40000) (by omega) (by omega) (by omega) (by omega);have h2:(x.natAbs:Int)*(x.natAbs:Int)=x*x:=Int.natAbs_mul_self' x;rw [h2]at h1;have h3:0≤x*x:=by rw [←h2];exact Int.mul_nonneg (by omega) (by omega)
 omega
theorem Ql7 (l:List Wd): ∀(qs:List (Int×Int×Int×Int)) (m:Int),m≤Qi4 l m qs
 | [],m=>Int.le_refl m
 |q::qs,m=>Int.le_trans (by omega) (Ql7 l qs (max m (sqL l q)))
theorem Qth (l:List Wd): ∀(qs:List (Int×Int×Int×Int)) (m:Int) (q),q∈qs→sqL l q≤Qi4 l m qs
 |p::qs,m,q,h=>by
  simp only [List.mem_cons]at h;rcases h with rfl|h
  ·exact Int.le_trans (by omega) (Ql7 l qs (max m (sqL l q)))
  ·exact Qth l qs _ q h
theorem Qtb: ∀(E:List Int) (c:Int),(∃e∈E,e≤c)→ ∃r∈E,r≤c∧ ∀e∈E,e≤c→e≤r
 | [],_,h=>by obtain⟨_,h,_⟩:=h;simp at h
 |x::E,c,h=>by
  by_cases h1: ∃e∈E,e≤c
  ·obtain⟨r,hr,hc,hg⟩:=Qtb E c h1;by_cases h2:x≤c∧r<x
   ·refine⟨x,by simp,h2.1,fun e he hec=> ?_⟩;simp only [List.mem_cons]at he;rcases he with rfl|he
    ·exact Int.le_refl _
    ·have:=hg e he hec;omega
   ·refine⟨r,by simp [hr],hc,fun e he hec=> ?_⟩;simp only [List.mem_cons]at he;rcases he with rfl|he
    ·omega
    ·exact hg e he hec
  ·obtain⟨e,he,hec⟩:=h;simp only [List.mem_cons]at he;rcases he with rfl|he
   ·refine⟨e,by simp,hec,fun y hy hyc=> ?_⟩;simp only [List.mem_cons]at hy;rcases hy with rfl|hy
    ·exact Int.le_refl _
    ·exact absurd ⟨y,hy,hyc⟩ h1
   ·exact absurd ⟨e,he,hec⟩ h1
theorem Qdf (k:Nat) (l:List Wd) (y:Int):y∈numE k l↔ ∃w∈l,y∈Qdq k w:=by
 unfold numE allE;rw [Zp9,(Q54 _).2,List.mem_flatMap]
theorem Zyx (x y z:Int) (T:List Int) (q:Int×Int×Int×Int):q∈c3 x y z T↔q.1=x∧q.2.1=y∧q.2.2.1=z∧q.2.2.2∈T:=by
 obtain⟨a,b,c,d⟩:=q;simp only [c3,List.mem_map,Prod.mk.injEq];constructor
 ·rintro⟨t,h,rfl,rfl,rfl,rfl⟩;exact⟨rfl,rfl,rfl,h⟩
 ·rintro⟨rfl,rfl,rfl,h⟩;exact⟨_,h,rfl,rfl,rfl,rfl⟩
theorem Q56 {l:List Wd} {x y z t:Int} (h0:x∈numE 0 l) (h1:y∈numE 1 l) (h2:z∈numE 2 l) (h3:t∈numE 3 l):(x,y,z,t)∈Qpt l:=by
 simp only [Qpt,c0,c1,c2,List.mem_flatMap];exact⟨x,h0,y,h1,z,h2,(Zyx _ _ _ _ _).2 ⟨rfl,rfl,rfl,h3⟩⟩
theorem Zyy (l:List Wd) (x y z t:Int):sqL l (x,y,z,t)≤Qkg l:=by
 by_cases hb: ∃w∈l,blW x y z t w=true
 ·obtain⟨w,hw,hbw⟩:=hb;simp only [blW,decide_eq_true_eq]at hbw;obtain⟨rx,mx,lx,gx⟩:=Qtb (numE 0 l) x ⟨w.lx,(Qdf _ _ _).2 ⟨w,hw,by simp [Qdq]⟩,by omega⟩;obtain⟨ry,my,ly,gy⟩:=Qtb (numE 1 l) y ⟨w.ly,(Qdf _ _ _).2 ⟨w,hw,by simp [Qdq]⟩,by omega⟩;obtain⟨rz,mz,lz,gz⟩:=Qtb (numE 2 l) z ⟨w.lz,(Qdf _ _ _).2 ⟨w,hw,by simp [Qdq]⟩,by omega⟩;obtain⟨rt,mt,lt,gt⟩:=Qtb (numE 3 l) t ⟨w.f,(Qdf _ _ _).2 ⟨w,hw,by simp [Qdq]⟩,by omega⟩;have key:l.filter (blW x y z t)=l.filter (blW rx ry rz rt):=by
   refine List.filter_congr fun v hv=> ?_;have a1:=gx v.lx ((Qdf _ _ _).2 ⟨v,hv,by simp [Qdq]⟩);have a2:=gx (v.hx+1) ((Qdf _ _ _).2 ⟨v,hv,by simp [Qdq]⟩);have b1:=gy v.ly ((Qdf _ _ _).2 ⟨v,hv,by simp [Qdq]⟩);have b2:=gy (v.hy+1) ((Qdf _ _ _).2 ⟨v,hv,by simp [Qdq]⟩);have d1:=gz v.lz ((Qdf _ _ _).2 ⟨v,hv,by simp [Qdq]⟩);have d2:=gz (v.hz+1) ((Qdf _ _ _).2 ⟨v,hv,by simp [Qdq]⟩);have t1:=gt v.f ((Qdf _ _ _).2 ⟨v,hv,by simp [Qdq]⟩);have t2:=gt v.t ((Qdf _ _ _).2 ⟨v,hv,by simp [Qdq]⟩);unfold blW;rw [decide_eq_decide];omega
  have e:sqL l (x,y,z,t)=sqL l (rx,ry,rz,rt):=by
   simp only [sqL,atW,key]
  rw [e];exact Qth l _ 0 _ (Q56 mx my mz mt)
 ·have e:l.filter (blW x y z t)=[]:=by
   rw [List.filter_eq_nil_iff];intro w hw h;exact hb ⟨w,hw,h⟩
  have:sqL l (x,y,z,t)=0:=by
   simp only [sqL,atW,e,smW];rfl
  rw [this];exact Ql7 l _ 0
end Go.Dg

namespace Go.Proofs.YtdpajapkhembcaaGreatDoor
open Go.Vl Go.RowKit Go.Dg
theorem Qij (s:Int) (w:Wd) (l:List Wd):Qcw s (w::l)=(if s<w.t then [mvW s w]else [])++Qcw s l:=by
 unfold Qcw Qbr;rw [List.filter_cons];by_cases h:s<w.t
 ·rw [if_pos (decide_eq_true h),if_pos h];rfl
 ·rw [if_neg (by simpa using h),if_neg h];rfl
theorem Qkk {a b:Int} (ha:0≤a) (hb:0≤b): ∀l:List Wd,Qcw b (Qcw a l)=Qcw (a+b) l
 | []=>rfl
 |w::l=>by
  rw [Qij a,Qij (a+b)];by_cases h1:a<w.t
  ·rw [if_pos h1,List.singleton_append,Qij b,Qkk ha hb l];congr 1;by_cases h2:a+b<w.t
   ·rw [if_pos (show b<(mvW a w).t from(by show b<w.t-a;omega)),if_pos h2];congr 1;show(⟨_,_,_,_,_,_,max 0 (max 0 (w.f-a)-b),w.t-a-b,_,_,_⟩:Wd)=⟨_,_,_,_,_,_,max 0 (w.f-(a+b)),w.t-(a+b),_,_,_⟩;rw [show max 0 (max 0 (w.f-a)-b)=max 0 (w.f-(a+b))by omega,show w.t-a-b=w.t-(a+b)by omega];rfl
   ·rw [if_neg (show¬b<(mvW a w).t from(by show¬b<w.t-a;omega)),if_neg h2]
  ·rw [if_neg h1,if_neg (by omega),List.nil_append,List.nil_append,Qkk ha hb l]
theorem Qzb {M:Int}: ∀(xs:List Int) (m:Int),m≤M→(∀x∈xs,x≤M)→xs.foldl max m≤M
 | [],_,h,_=>h
 |x::xs,m,h,hx=>Qzb xs (max m x) (by have:=hx x (by simp);omega) fun y hy=>hx y (by simp [hy])
theorem Z0g (W:List Wd) (p:Pg):wstI W p≤Qkg W:=by
 refine Qzb _ 0 (Ql7 W (Qpt W) 0) fun x hx=> ?_;obtain⟨L,hL,hx⟩:=List.mem_flatten.1 hx;unfold sqA sqP at hL;obtain⟨i, -,rfl⟩:=List.mem_map.1 hL;obtain⟨s, -,rfl⟩:=List.mem_map.1 hx;exact Zyy W (posS s 0) (posS s 1) (posS s 2) s.f
theorem Q7s {a b:Int} (h0:0≤a) (h:a≤b):a*a≤b*b:=Int.mul_le_mul h h h0 (by omega)
theorem Q7t {n:Int} {s:Nat} {g h m:Int} (h0:0≤g) (h1:g≤h) (hm:0≤m):decN n s (g+m) (h+m)≤decN n s g h:=by
 have q1:=Q7s h0 (show g≤g+m by omega);have q2:=Q7s (show 0≤h by omega) (show h≤h+m by omega);unfold decN;by_cases c1:0<s∨h*h<n
 ·rw [if_pos c1];split
  ·exact Int.le_refl _
  ·split<;>omega
 ·rw [if_neg c1,if_neg (fun q=>c1 (q.imp id fun q=>by omega))];by_cases c2:g*g<n
  ·rw [if_pos c2];split<;>omega
  ·rw [if_neg c2,if_neg (by omega)];omega
def capW (B:Bat) (m:Int):Bat:=⟨B.base,B.climb,B.drag,B.cap+m,B.res⟩
theorem Q7u (W:List Wd) (B:Bat) (m:Int) (p:List Sg):totE W (capW B m) p=totE W B p:=rfl
theorem Zs7 {W:List Wd} {B:Bat} {m:Int} (hm:0≤m) {p:Pg} {i:Nat} (h:shB W (capW B m) p i=true):shB W B p i=true:=by
 unfold shB at h ⊢;rw [Q7u]at h;have e:(capW B m).cap=B.cap+m:=rfl;have e2:(capW B m).res=B.res:=rfl;rw [e,e2]at h;simp only [Bool.not_eq_true',Bool.and_eq_false_iff,decide_eq_false_iff_not]at h ⊢;exact h.imp id fun q=>by omega
theorem Zgs {W:List Wd} {B:Bat} {m:Int} (hm:0≤m) {p:Pg} (g h:Int):decI W (capW B m) p g h≤decI W B p g h:=by
 have key:0<(shL W (capW B m) p p.ns.length).length→0<(shL W B p p.ns.length).length:=fun q=>by
  unfold shL at q ⊢;rw [List.length_map]at q ⊢;obtain⟨i,hi⟩:=List.exists_mem_of_length_pos q;obtain⟨h1,h2⟩:=List.mem_filter.1 hi;exact List.length_pos_of_mem (List.mem_filter.2 ⟨h1,Zs7 hm h2⟩)
 unfold decI decN;generalize wstI W p=n;by_cases c1:0<(shL W B p p.ns.length).length∨h*h<n
 ·rw [if_pos c1];split
  ·exact Int.le_refl _
  ·split<;>omega
 ·rw [if_neg c1,if_neg (fun q=>c1 (q.imp key id))];exact Int.le_refl _
theorem Z0h {n:Nat} (h1:1≤n) (h4:n≤4):staB 700 (n:Int)=true:=by
 unfold staB;simp only [Bool.and_eq_true,decide_eq_true_eq];omega
end Go.Proofs.YtdpajapkhembcaaGreatDoor

namespace Go.Vl
open Go.RowKit
end Go.Vl

namespace Go.Proofs.YtdpajapkhembcaaGreatDoor
open Go.Vl Go.RowKit Go.Dg
def Z3w:Box:={els:=[],esz:=1,ety:=82,fro:=0,live:=false,arr:=true}
attribute [go_sem] Z3w
def oP (q:Int×Int×Int×Int):List PV:=[.agg [.int .i64 q.1,.int .i64 q.2.1,.int .i64 q.2.2.1],.int .i64 q.2.2.2]
theorem Qv2 {α β:Type} (f:α→List β) (L:List α) (i:Nat) (h:i<L.length):(L.take (i+1)).flatMap f=(L.take i).flatMap f++f L[i]:=by rw [Qcp L i h,List.flatMap_append];simp
theorem Qrb {α β:Type} (f:α→List β) (L:List α) (i:Nat) (h:i<L.length):L.flatMap f=(L.take i).flatMap f++(f L[i]++(L.drop (i+1)).flatMap f):=by
 conv=>lhs;rw [←List.take_append_drop i L,List.flatMap_append,List.drop_eq_getElem_cons h,List.flatMap_cons]
theorem Zs0 {α β:Type} {A B tot:List α} {a:α} (h:tot=A++a::B) (f:α→β):(tot.map f)[(A.map f).length]? =some (f a)∧(tot.map f).take ((A.map f).length+1)=A.map f++[f a]:=by
 subst h;constructor
 ·rw [List.map_append,List.getElem?_append_right (Nat.le_refl _),Nat.sub_self];rfl
 ·rw [List.map_append,List.map_cons];have:=List.take_append_of_le_length (l₁:=A.map f++[f a]) (l₂:=B.map f) (i:=(A.map f).length+1) (by simp);rw [List.append_assoc,List.singleton_append]at this;rw [this,List.take_of_length_le (by simp)]
theorem Qy5 (L:List Int) (i:Nat) (h:i<L.length):(L.map (PV.int .i64))[i]? =some (.int .i64 L[i]):=by rw [List.getElem?_map,List.getElem?_eq_getElem h];rfl
set_option maxHeartbeats 8000000 in
theorem Zf9 (X Y Z T:List Int) (hX:X.length≤100000) (hY:Y.length≤100000) (hZ:Z.length≤100000) (hT:T.length≤100000):
  Qj3 Tryz.prog 50 [.rp [.slc (X.map (PV.int .i64)),.slc (Y.map (PV.int .i64)),.slc (Z.map (PV.int .i64)),.slc (T.map (PV.int .i64))]] ((c0 X Y Z T).map oP):=by
 refine Qj6 (tb:=[]) 51 [0,1,4,6,8,10,12,13,14,15,19,20,21,22,26,27,28,29,33,34,35,36,46] mixed Tryz.func50 rfl (by kernel_rfl) (by kernel_rfl) (by kernel_rfl) (by kernel_rfl) fun l stop=> ?_;repeat simp only [go_sem,seval,List.length_map]
 generalize htot:c0 X Y Z T=tot at*;refine Qau mixed (fun i:{i:Nat // i≤X.length∧(c0 (X.take i) Y Z T).length≤stop}=>St.ofG [(0,.yld l stop),(1,.rp [.slc (X.map (PV.int .i64)),.slc (Y.map (PV.int .i64)),.slc (Z.map (PV.int .i64)),.slc (T.map (PV.int .i64))]),(12,.slc (X.map (PV.int .i64))),(13,.int .i64 (X.length:Int)),(14,.int .i64 (i.1:Int))] [] ((c0 (X.take i.1) Y Z T).map oP) (some (l,stop,tot.map oP))) (fun i=>X.length-i.1) ⟨0,Nat.zero_le _,Nat.zero_le _⟩ ?_ ?_
 ·refine Qax ?_;simp [Qae,lkp,ren1,ren0,Qai]
 rintro⟨i,hi,hst⟩;simp only;by_cases hA:i<X.length
 case neg=>
  have hA':=ltF hA;have e:X.take i=X:=List.take_of_length_le (by omega);rw [e,htot]at hst ⊢;have ht:(tot.map oP).take (stop+1)=tot.map oP:=List.take_of_length_le (by rw [List.length_map];omega);generalize tot.map oP=OO at*;repeat simp only [go_sem,seval,hA',Qe3,ht]
 have hA':=ltT hA;have n0:=nnT i;have hg:=Qy5 X i hA;have hwk:=Qak (a:=i) (by omega);have hP:c0 (X.take (i+1)) Y Z T=c0 (X.take i) Y Z T++c1 X[i] Y Z T:=Qv2 _ X i hA;have hR: ∃R,tot=c0 (X.take i) Y Z T++(c1 X[i] Y Z T++R):=⟨_,by rw [←htot];exact Qrb (fun x=>c1 x Y Z T) X i hA⟩;clear htot;generalize hPN:c0 (X.take (i+1)) Y Z T=PN at*;generalize c0 (X.take i) Y Z T=P at*;generalize X[i]=x at*;repeat simp only [go_sem,seval,hA',n0,hg,Int.toNat_natCast,List.length_map]
 refine Qau mixed (fun j:{j:Nat // j≤Y.length∧(P++c1 x (Y.take j) Z T).length≤stop}=>St.ofG [(0,.yld l stop),(1,.rp [.slc (X.map (PV.int .i64)),.slc (Y.map (PV.int .i64)),.slc (Z.map (PV.int .i64)),.slc (T.map (PV.int .i64))]),(12,.slc (X.map (PV.int .i64))),(13,.int .i64 (X.length:Int)),(14,.int .i64 (i:Int)),(4,.int .i64 x),(19,.slc (Y.map (PV.int .i64))),(20,.int .i64 (Y.length:Int)),(21,.int .i64 (j.1:Int))] [] ((P++c1 x (Y.take j.1) Z T).map oP) (some (l,stop,tot.map oP))) (fun j=>Y.length-j.1) ⟨0,Nat.zero_le _,by simp only [List.take_zero,c1,List.flatMap_nil,List.append_nil];exact hst⟩ ?_ ?_
 ·simp only [List.take_zero,c1,List.flatMap_nil,List.append_nil];refine Qax ?_;simp [Qae,lkp,ren1,ren0,Qai]
 rintro⟨j,hj,hst1⟩;simp only;by_cases hB:j<Y.length
 case neg=>
  have hB':=ltF hB;have e:Y.take j=Y:=List.take_of_length_le (by omega);rw [e,←hP]at hst1 ⊢;repeat simp only [go_sem,seval,hB',hwk]
  refine⟨⟨i+1,hA,by rw [hPN];exact hst1⟩,by simp only;omega,?_⟩;simp only [hPN];refine Qax ?_;simp [Qae,lkp,ren1,ren0,Qai]
 have hB':=ltT hB;have n1:=nnT j;have hg1:=Qy5 Y j hB;have hwk1:=Qak (a:=j) (by omega);have hP1:P++c1 x (Y.take (j+1)) Z T=(P++c1 x (Y.take j) Z T)++c2 x Y[j] Z T:=by rw [List.append_assoc];exact congrArg _ (Qv2 _ Y j hB)
 have hR1: ∃R,tot=(P++c1 x (Y.take j) Z T)++(c2 x Y[j] Z T++R):=by
  obtain⟨R,hR⟩:=hR;refine⟨(Y.drop (j+1)).flatMap (fun y=>c2 x y Z T)++R,?_⟩;have hs:c1 x Y Z T=c1 x (Y.take j) Z T++(c2 x Y[j] Z T++(Y.drop (j+1)).flatMap (fun y=>c2 x y Z T)):=Qrb (fun y=>c2 x y Z T) Y j hB;rw [hR,hs];simp only [List.append_assoc]
 clear hst hR;generalize hPN1:P++c1 x (Y.take (j+1)) Z T=PN1 at*;generalize hQ1:P++c1 x (Y.take j) Z T=Q1 at*;generalize Y[j]=y at*;repeat simp only [go_sem,seval,hB',n1,hg1,Int.toNat_natCast,List.length_map]
 refine Qau mixed (fun k:{k:Nat // k≤Z.length∧(Q1++c2 x y (Z.take k) T).length≤stop}=>St.ofG [(0,.yld l stop),(1,.rp [.slc (X.map (PV.int .i64)),.slc (Y.map (PV.int .i64)),.slc (Z.map (PV.int .i64)),.slc (T.map (PV.int .i64))]),(12,.slc (X.map (PV.int .i64))),(13,.int .i64 (X.length:Int)),(14,.int .i64 (i:Int)),(4,.int .i64 x),(19,.slc (Y.map (PV.int .i64))),(20,.int .i64 (Y.length:Int)),(21,.int .i64 (j:Int)),(6,.int .i64 y),(26,.slc (Z.map (PV.int .i64))),(27,.int .i64 (Z.length:Int)),(28,.int .i64 (k.1:Int))] [] ((Q1++c2 x y (Z.take k.1) T).map oP) (some (l,stop,tot.map oP))) (fun k=>Z.length-k.1) ⟨0,Nat.zero_le _,by simp only [List.take_zero,c2,List.flatMap_nil,List.append_nil];exact hst1⟩ ?_ ?_
 ·simp only [List.take_zero,c2,List.flatMap_nil,List.append_nil];refine Qax ?_;simp [Qae,lkp,ren1,ren0,Qai]
 rintro⟨k,hk,hst2⟩;simp only;by_cases hC:k<Z.length
 case neg=>
  have hC':=ltF hC;have e:Z.take k=Z:=List.take_of_length_le (by omega);rw [e,←hP1]at hst2 ⊢;repeat simp only [go_sem,seval,hC',hwk1]
  refine⟨⟨j+1,hB,by rw [hPN1];exact hst2⟩,by simp only;omega,?_⟩;simp only [hPN1];refine Qax ?_;simp [Qae,lkp,ren1,ren0,Qai]
 have hC':=ltT hC;have n2:=nnT k;have hg2:=Qy5 Z k hC;have hwk2:=Qak (a:=k) (by omega);have hP2:Q1++c2 x y (Z.take (k+1)) T=(Q1++c2 x y (Z.take k) T)++c3 x y Z[k] T:=by rw [List.append_assoc];exact congrArg _ (Qv2 _ Z k hC)
 have hR2: ∃R,tot=(Q1++c2 x y (Z.take k) T)++(c3 x y Z[k] T++R):=by
  obtain⟨R,hR⟩:=hR1;refine⟨(Z.drop (k+1)).flatMap (fun z=>c3 x y z T)++R,?_⟩;have hs:c2 x y Z T=c2 x y (Z.take k) T++(c3 x y Z[k] T++(Z.drop (k+1)).flatMap (fun z=>c3 x y z T)):=Qrb (fun z=>c3 x y z T) Z k hC;rw [hR,hs];simp only [List.append_assoc]
 clear hst1 hR1;generalize hPN2:Q1++c2 x y (Z.take (k+1)) T=PN2 at*;generalize hQ2:Q1++c2 x y (Z.take k) T=Q2 at*;generalize Z[k]=z at*;repeat simp only [go_sem,seval,hC',n2,hg2,Int.toNat_natCast,List.length_map]
 refine Qau mixed (fun q:{q:Nat // q≤T.length∧(Q2++c3 x y z (T.take q)).length≤stop}=>St.ofG [(0,.yld l stop),(1,.rp [.slc (X.map (PV.int .i64)),.slc (Y.map (PV.int .i64)),.slc (Z.map (PV.int .i64)),.slc (T.map (PV.int .i64))]),(12,.slc (X.map (PV.int .i64))),(13,.int .i64 (X.length:Int)),(14,.int .i64 (i:Int)),(4,.int .i64 x),(19,.slc (Y.map (PV.int .i64))),(20,.int .i64 (Y.length:Int)),(21,.int .i64 (j:Int)),(6,.int .i64 y),(26,.slc (Z.map (PV.int .i64))),(27,.int .i64 (Z.length:Int)),(28,.int .i64 (k:Int)),(8,.int .i64 z),(33,.slc (T.map (PV.int .i64))),(34,.int .i64 (T.length:Int)),(35,.int .i64 (q.1:Int))] [] ((Q2++c3 x y z (T.take q.1)).map oP) (some (l,stop,tot.map oP))) (fun q=>T.length-q.1) ⟨0,Nat.zero_le _,by simp only [List.take_zero,c3,List.map_nil,List.append_nil];exact hst2⟩ ?_ ?_
 ·simp only [List.take_zero,c3,List.map_nil,List.append_nil];refine Qax ?_;simp [Qae,lkp,ren1,ren0,Qai]
 rintro⟨q,hq,hst3⟩;simp only;by_cases hD:q<T.length
 case neg=>
  have hD':=ltF hD;have e:T.take q=T:=List.take_of_length_le (by omega);rw [e,←hP2]at hst3 ⊢;repeat simp only [go_sem,seval,hD',hwk2]
  refine⟨⟨k+1,hC,by rw [hPN2];exact hst3⟩,by simp only;omega,?_⟩;simp only [hPN2];refine Qax ?_;simp [Qae,lkp,ren1,ren0,Qai]
 have hD':=ltT hD;have n3:=nnT q;have hg3:=Qy5 T q hD;have hwk3:=Qak (a:=q) (by omega);have hsn:Q2++c3 x y z (T.take (q+1))=(Q2++c3 x y z (T.take q))++[(x,y,z,T[q])]:=by
  rw [List.append_assoc];unfold c3;rw [Qcp T q hD,List.map_append];rfl
 have hsp: ∃R,tot=(Q2++c3 x y z (T.take q))++(x,y,z,T[q])::R:=by
  obtain⟨R,hR⟩:=hR2;refine⟨c3 x y z (T.drop (q+1))++R,?_⟩;have hs:c3 x y z T=c3 x y z (T.take q)++(x,y,z,T[q])::c3 x y z (T.drop (q+1)):=by
   unfold c3
   conv=>lhs;rw [←List.take_append_drop q T,List.map_append,List.drop_eq_getElem_cons hD,List.map_cons]
  rw [hR,hs];simp only [List.append_assoc,List.cons_append]
 obtain⟨R,hsp⟩:=hsp;obtain⟨hgt,htk⟩:=Zs0 hsp oP;have hL:((Q2++c3 x y z (T.take q)).map oP).length=(Q2++c3 x y z (T.take q)).length:=List.length_map _;have hS:(Q2++c3 x y z (T.take (q+1))).length=(Q2++c3 x y z (T.take q)).length+1:=by rw [hsn,List.length_append];rfl
 have hsm:(Q2++c3 x y z (T.take (q+1))).map oP=(Q2++c3 x y z (T.take q)).map oP++[[.agg [.int .i64 x,.int .i64 y,.int .i64 z],.int .i64 T[q]]]:=by rw [hsn,List.map_append];rfl
 have eo:oP (x,y,z,T[q])=[.agg [.int .i64 x,.int .i64 y,.int .i64 z],.int .i64 T[q]]:=rfl;rw [eo]at hgt htk;clear hsp eo hsn hR2 hst2;generalize hMN:(Q2++c3 x y z (T.take (q+1))).map oP=MN at*;generalize (Q2++c3 x y z (T.take q)).map oP=M at*;generalize T[q]=t at*;generalize tot.map oP=OO at*;have hst':(M.length≤stop)=True:=eq_true (by omega);by_cases hlt:M.length<stop
 case neg=>
  have hlt':(M.length<stop)=False:=eq_false hlt;have e:M.length=stop:=by omega
  rw [e]at htk;repeat simp only [go_sem,seval,hD',n3,hg3,hgt,hst',hlt',Qe3,htk,Int.toNat_natCast]
 have hlt':(M.length<stop)=True:=eq_true hlt;repeat simp only [go_sem,seval,hD',n3,hg3,hgt,hst',hlt',hwk3,Int.toNat_natCast]
 refine⟨⟨q+1,hD,by rw [hS];omega⟩,by simp only;omega,?_⟩;simp only [hMN,hsm];refine Qax ?_;simp [Qae,lkp,ren1,ren0,Qai]
abbrev iB (xs:List Int):Box:={els:=xs.map (PV.int .i64),esz:=1,ety:=3,fro:=0,live:=true,arr:=true}
theorem iget (xs:List Int) (i:Nat) (h:i<xs.length):(xs.map (PV.int .i64))[i]? =some (.int .i64 (xs.getD i 0)):=by simp [h]
theorem iset (xs:List Int) (i:Nat) (x:Int):(xs.map (PV.int .i64)).set i (.int .i64 x)=(xs.set i x).map (PV.int .i64):=by rw [List.map_set]
def ddB (xs:List Int):List Int:=dd xs++List.replicate (xs.length-(dd xs).length) 0
set_option maxHeartbeats 4000000 in
theorem Q77 (xs:List Int) (hl:xs.length≤1000000):Qct Tryz.prog 49 [.bs 1000000 1 0 xs.length] [(1000000,iB xs)] (.bs 1000000 1 0 (dd xs).length) [(1000000,iB (ddB xs))]:=by
 by_cases h2:xs.length<2
 ·have h2':((xs.length:Int)<2)=True:=eq_true (by omega);have hd:dd xs=xs:=by
   match xs,h2 with
   | [],_=>rfl
   | [_],_=>rfl
  have hB:ddB xs=xs:=by unfold ddB;rw [hd,Nat.sub_self];simp
  rw [hd,hB];refine Qbp (tb:=[]) 61 [.tmp 2] [0,2,3,4,5,8,13,25,32,44] mixed Tryz.func49 rfl (by kernel_rfl) (by kernel_rfl) (by kernel_rfl) (by kernel_rfl) (by rfl) ?_;repeat simp only [go_sem,seval,h2']
  refine Qa7 (.inl rfl) ?_;simp only [go_sem,seval];refine Qaj (θ:=[(1000000,1000000)]) rfl ?_ ?_
  ·simp [Qae,lkp,ren1,ren0,Qai]
  ·exact⟨⟨rfl,rfl,rfl,rfl,rfl,.inl ⟨rfl,rfl⟩⟩,trivial⟩
 ·have h2':((xs.length:Int)<2)=False:=eq_false (by omega);refine Qbp (tb:=[]) 61 [.tmp 2] [0,2,3,4,5,8,13,25,32,44] mixed Tryz.func49 rfl (by kernel_rfl) (by kernel_rfl) (by kernel_rfl) (by kernel_rfl) (by rfl) ?_;repeat simp only [go_sem,seval,h2']
  refine Qau mixed (fun k:{k:Nat // 1≤k∧k≤xs.length∧dd (xs.take k)=xs.take k}=>St.of [(0,.bs 1000000 1 0 xs.length),(3,.int .i64 (k.1:Int))] [(1000000,iB xs)]) (fun k=>xs.length-k.1) ⟨1,by omega,by omega,?_⟩ ?_ ?_
  ·match xs,h2 with
   |a::_,_=>rfl
  ·refine Qaj (θ:=[(1000000,1000000)]) rfl ?_ ?_
   ·simp [Qae,lkp,ren1,ren0,Qai]
   ·exact⟨⟨rfl,rfl,rfl,rfl,rfl,.inl ⟨rfl,rfl⟩⟩,trivial⟩
  ·rintro⟨k,hk1,hk,hd⟩;by_cases hA:k<xs.length
   ·have hA':=ltT hA;obtain⟨i,rfl⟩: ∃i,k=i+1:=⟨k-1,by omega⟩;have n1:=nnT (i+1);have n0:=nnT i;have ws:=Qi5 (n:=i) (by omega);have l0:((i:Int)<(xs.length:Int))=True:=eq_true (by omega);have g1:=iget xs (i+1) hA;have g0:=iget xs i (by omega);have hw:=Qak (a:=i+1) (by omega);have hdt:=Qm9 xs (i+1) hk1 hA;rw [Nat.add_sub_cancel]at hdt;by_cases he:xs.getD i 0=xs.getD (i+1) 0
    ·have he':(xs.getD (i+1) 0==xs.getD i 0)=true:=by rw [he];exact beq_self_eq_true _
     obtain⟨s1,s2⟩:=Q53 xs (i+1) hk1 hA hd (by rw [Nat.add_sub_cancel];exact he);have b1:(((i+1:Nat):Int)≤(xs.length:Int))=True:=eq_true (by omega);have b2:(i+1<xs.length)=True:=eq_true hA;repeat (first|simp only [go_sem,seval,hA',n0,n1,ws,l0,g0,g1,he',b1,b2,Int.toNat_natCast]|(with_reducible refine And.intro (Qac _ _ (by kernel_rfl)) ?_))
     refine Qau mixed (fun d:{d:Nat // 1≤d∧i+1+d≤xs.length∧(dd (xs.take (i+1+d))).length<i+1+d}=>St.of [(0,.bs 1000000 1 0 xs.length),(3,.int .i64 ((dd (xs.take (i+1+d.1))).length:Int)),(4,.bs 1000000 1 (i+1) (xs.length-(i+1))),(5,.int .i64 (d.1:Int))] [(1000000,iB (ddE xs (i+1+d.1)))]) (fun d=>xs.length-d.1) ⟨1,by omega,by omega,by rw [s2];omega⟩ ?_ ?_
     ·refine Qaj (θ:=[(1000000,1000000)]) rfl ?_ ?_
      ·simp only [s2];simp [Qae,lkp,ren1,ren0,Qai]
      ·simp only [s1];exact⟨⟨rfl,rfl,rfl,rfl,rfl,.inl ⟨rfl,rfl⟩⟩,trivial⟩
     ·rintro⟨d,hd1,hdn,hdl⟩;simp only;obtain⟨e,rfl⟩: ∃e,d=e+1:=⟨d-1,by omega⟩;by_cases hD:i+1+(e+1)<xs.length
      ·have hD':(((e+1:Nat):Int)<((xs.length-(i+1):Nat):Int))=True:=eq_true (by omega);have m1:=nnT (e+1);have m0:=nnT e;have we:=Qi5 (n:=e) (by omega);have we2:=Qak (a:=e+1) (by omega);have l1:((e:Int)<((xs.length-(i+1):Nat):Int))=True:=eq_true (by omega);have q1:((ddE xs (i+1+(e+1))).map (PV.int .i64))[i+1+(e+1)]? =some (.int .i64 (xs.getD (i+1+(e+1)) 0)):=by
        rw [iget _ _ (by rw [Qna];exact hD),Q52 _ _ _ (by omega)]
       have q0:((ddE xs (i+1+(e+1))).map (PV.int .i64))[i+1+e]? =some (.int .i64 (xs.getD (i+1+e) 0)):=by
        rw [iget _ _ (by rw [Qna];omega),Q52 _ _ _ (by omega)]
       have hj:i+1+(e+1)-1=i+1+e:=by omega
       by_cases hx:xs.getD (i+1+e) 0=xs.getD (i+1+(e+1)) 0
       ·have hx':(xs.getD (i+1+(e+1)) 0 != xs.getD (i+1+e) 0)=false:=by rw [hx];simp
        obtain⟨k1,k2⟩:=Zfk xs (i+1+(e+1)) (by omega) hD (by rw [hj];exact hx);repeat (first|simp only [go_sem,seval,hD',m1,m0,we,we2,l1,q1,q0,hx',Int.toNat_natCast]|(with_reducible refine And.intro (Qac _ _ (by kernel_rfl)) ?_))
        refine⟨⟨e+1+1,by omega,by omega,by show(dd (xs.take (i+1+(e+1)+1))).length<_;rw [k2];omega⟩,by simp only;omega,Qaj (θ:=[(1000000,1000000)]) rfl ?_ ?_⟩
        ·have k3:(dd (xs.take (i+1+(e+1+1)))).length=(dd (xs.take (i+1+(e+1)))).length:=k2;simp only [k3];simp [Qae,lkp,ren1,ren0,Qai]
        ·have k3:ddE xs (i+1+(e+1+1))=ddE xs (i+1+(e+1)):=k1;simp only [k3];exact⟨⟨rfl,rfl,rfl,rfl,rfl,.inl ⟨rfl,rfl⟩⟩,trivial⟩
       ·have hx':(xs.getD (i+1+(e+1)) 0 != xs.getD (i+1+e) 0)=true:=bne_iff_ne.2 fun z=>hx z.symm;have hdt2:=Qm9 xs (i+1+(e+1)) (by omega) hD;rw [hj,if_neg hx]at hdt2;have hst:=Zr2 xs (i+1+(e+1)) (by omega) hD hdl (by rw [hj];exact hx);have hst2:=iset (ddE xs (i+1+(e+1))) (dd (xs.take (i+1+(e+1)))).length (xs.getD (i+1+(e+1)) 0);rw [hst]at hst2;have k2:(dd (xs.take (i+1+(e+1)+1))).length=(dd (xs.take (i+1+(e+1)))).length+1:=by rw [hdt2];simp
        have hg:=iget (ddE xs (i+1+(e+1))) (dd (xs.take (i+1+(e+1)))).length (by rw [Qna];omega);generalize (dd (xs.take (i+1+(e+1)))).length=K at*;have wk:=Qak (a:=K) (by omega);have nk:=nnT K;have lk:((K:Int)<(xs.length:Int))=True:=eq_true (by omega);repeat (first|simp only [go_sem,seval,hD',m1,m0,we,we2,l1,q1,q0,hx',wk,nk,lk,hg,hst2,Int.toNat_natCast]|(with_reducible refine And.intro (Qac _ _ (by kernel_rfl)) ?_))
        refine⟨⟨e+1+1,by omega,by omega,by show(dd (xs.take (i+1+(e+1)+1))).length<_;rw [k2];omega⟩,by simp only;omega,Qaj (θ:=[(1000000,1000000)]) rfl ?_ ?_⟩
        ·have k3:(dd (xs.take (i+1+(e+1+1)))).length=K+1:=k2;simp only [k3];simp [Qae,lkp,ren1,ren0,Qai]
        ·exact⟨⟨rfl,rfl,rfl,rfl,rfl,.inl ⟨rfl,rfl⟩⟩,trivial⟩
      ·have hD':(((e+1:Nat):Int)<((xs.length-(i+1):Nat):Int))=False:=eq_false (by omega);have hn:i+1+(e+1)=xs.length:=by omega
       have hK:(dd (xs.take (i+1+(e+1)))).length=(dd xs).length:=by rw [hn,List.take_length]
       rw [hK]at hdl;have c1:(((dd xs).length:Int)≤(xs.length:Int))=True:=eq_true (by omega);have c2:((dd xs).length<xs.length)=True:=eq_true (by omega);have nk:=nnT (dd xs).length;have f1:(Nat.ble 0 (dd xs).length&&((dd xs).length+(xs.length-(dd xs).length)).ble ((ddE xs (i+1+(e+1))).map (PV.int .i64)).length)=true:=by
        rw [List.length_map,Qna,Bool.and_eq_true];exact⟨Nat.ble_eq_true_of_le (Nat.zero_le _),Nat.ble_eq_true_of_le (by omega)⟩
       have f2:((ddE xs (i+1+(e+1))).map (PV.int .i64)).take (dd xs).length++List.replicate (xs.length-(dd xs).length) (PV.int .i64 0)++
         ((ddE xs (i+1+(e+1))).map (PV.int .i64)).drop ((dd xs).length+(List.replicate (xs.length-(dd xs).length) (PV.int .i64 0)).length)=(ddB xs).map (PV.int .i64):=by
        have g1:(ddE xs (i+1+(e+1))).take (dd xs).length=dd xs:=by
         unfold ddE;rw [hn,List.take_length];exact List.take_left' rfl
        have g2:((ddE xs (i+1+(e+1))).map (PV.int .i64)).drop ((dd xs).length+(List.replicate (xs.length-(dd xs).length) (PV.int .i64 0)).length)=[]:=List.drop_eq_nil_of_le (by rw [List.length_map,Qna,List.length_replicate];omega);rw [g2,←List.map_take,g1,List.append_nil];unfold ddB;rw [List.map_append,List.map_replicate]
       have c3:(((dd xs).length:Int)≤(xs.length:Int))=True:=eq_true (by omega);simp only [hK];repeat simp only [go_sem,seval,hD',c1,c2,nk,f1,f2,Int.toNat_natCast]
       refine Qa7 (.inl rfl) ?_;simp only [go_sem,seval];refine Qaj (θ:=[(1000000,1000000)]) rfl ?_ ?_
       ·simp [Qae,lkp,ren1,ren0,Qai]
       ·exact⟨⟨rfl,rfl,rfl,rfl,rfl,.inl ⟨rfl,rfl⟩⟩,trivial⟩
    ·have he':(xs.getD (i+1) 0==xs.getD i 0)=false:=beq_eq_false_iff_ne.2 fun e=>he e.symm;repeat (first|simp only [go_sem,seval,hA',n0,n1,ws,l0,g0,g1,he',hw,Int.toNat_natCast]|(with_reducible refine And.intro (Qac _ _ (by kernel_rfl)) ?_))
     refine⟨⟨i+1+1,by omega,by omega,?_⟩,by simp only;omega,Qaj (θ:=[(1000000,1000000)]) rfl ?_ ?_⟩
     ·rw [hdt,if_neg he,hd,List.take_add_one (i:=i+1),List.getElem?_eq_getElem hA,gD hA];rfl
     ·simp [Qae,lkp,ren1,ren0,Qai]
     ·exact⟨⟨rfl,rfl,rfl,rfl,rfl,.inl ⟨rfl,rfl⟩⟩,trivial⟩
   ·have hA':=ltF hA;obtain rfl:k=xs.length:=by omega
    rw [List.take_length]at hd;have hB:ddB xs=xs:=by unfold ddB;rw [hd,Nat.sub_self];simp
    rw [hd,hB];repeat simp only [go_sem,seval,hA']
    refine Qa7 (.inl rfl) ?_;simp only [go_sem,seval];refine Qaj (θ:=[(1000000,1000000)]) rfl ?_ ?_
    ·simp [Qae,lkp,ren1,ren0,Qai]
    ·exact⟨⟨rfl,rfl,rfl,rfl,rfl,.inl ⟨rfl,rfl⟩⟩,trivial⟩
end Go.Proofs.YtdpajapkhembcaaGreatDoor

namespace Go.Proofs.YtdpajapkhembcaaGreatDoor
open Go.Shelf Go.Proofs
def Tryz.lays189_ren:Go.Shelf.Ren:=⟨fun|189=>48|125=>61|257=>60|128=>83|129=>84|294=>74|295=>75|296=>76|297=>77|298=>78|299=>79|216=>80|300=>81|301=>82|328=>104|329=>105|330=>106|331=>107|332=>108|215=>109|343=>128|n=>n,fun|28=>53|3=>3|46=>81|0=>0|51=>152|53=>154|4=>4|183=>144|182=>143|131=>149|5=>5|9=>9|218=>177|222=>181|228=>202|229=>203|n=>n,fun|n=>n⟩
theorem Tryz.lays189:Go.Proofs.Lays.n189 Tryz.prog Tryz.lays189_ren:={
 mixed:=by kernel_rfl
 f125:=Tryz.func61.trans (congrArg some (by kernel_rfl))
 f128:=Tryz.func83.trans (congrArg some (by kernel_rfl))
 f129:=Tryz.func84.trans (congrArg some (by kernel_rfl))
 f189:=Tryz.func48.trans (congrArg some (by kernel_rfl))
 f215:=Tryz.func109.trans (congrArg some (by kernel_rfl))
 f216:=Tryz.func80.trans (congrArg some (by kernel_rfl))
 f257:=Tryz.func60.trans (congrArg some (by kernel_rfl))
 f294:=Tryz.func74.trans (congrArg some (by kernel_rfl))
 f295:=Tryz.func75.trans (congrArg some (by kernel_rfl))
 f296:=Tryz.func76.trans (congrArg some (by kernel_rfl))
 f297:=Tryz.func77.trans (congrArg some (by kernel_rfl))
 f298:=Tryz.func78.trans (congrArg some (by kernel_rfl))
 f299:=Tryz.func79.trans (congrArg some (by kernel_rfl))
 f300:=Tryz.func81.trans (congrArg some (by kernel_rfl))
 f301:=Tryz.func82.trans (congrArg some (by kernel_rfl))
 f328:=Tryz.func104.trans (congrArg some (by kernel_rfl))
 f329:=Tryz.func105.trans (congrArg some (by kernel_rfl))
 f330:=Tryz.func106.trans (congrArg some (by kernel_rfl))
 f331:=Tryz.func107.trans (congrArg some (by kernel_rfl))
 f332:=Tryz.func108.trans (congrArg some (by kernel_rfl))
 f343:=Tryz.func128.trans (congrArg some (by kernel_rfl))
 t0:=Tryz.underlying0
 a0:=Tryz.isAgg0
 z0:=Tryz.sizeOf0
 v0:=Tryz.zeroValue0
 t3:=Tryz.underlying3
 a3:=Tryz.isAgg3
 z3:=Tryz.sizeOf3
 v3:=Tryz.zeroValue3
 t4:=Tryz.underlying4
 a4:=Tryz.isAgg4
 z4:=Tryz.sizeOf4
 v4:=Tryz.zeroValue4
 t5:=Tryz.underlying5
 a5:=Tryz.isAgg5
 z5:=Tryz.sizeOf5
 v5:=Tryz.zeroValue5
 t9:=Tryz.underlying9
 a9:=Tryz.isAgg9
 z9:=Tryz.sizeOf9
 v9:=Tryz.zeroValue9
 t28:=Tryz.underlying53
 a28:=Tryz.isAgg53
 z28:=Tryz.sizeOf53
 v28:=Tryz.zeroValue53
 t46:=Tryz.underlying81
 a46:=Tryz.isAgg81
 z46:=Tryz.sizeOf81
 v46:=Tryz.zeroValue81
 t51:=Tryz.underlying152
 a51:=Tryz.isAgg152
 z51:=Tryz.sizeOf152
 v51:=Tryz.zeroValue152
 t53:=Tryz.underlying154
 a53:=Tryz.isAgg154
 z53:=Tryz.sizeOf154
 v53:=Tryz.zeroValue154
 t131:=Tryz.underlying149
 a131:=Tryz.isAgg149
 z131:=Tryz.sizeOf149
 v131:=Tryz.zeroValue149
 t182:=Tryz.underlying143
 a182:=Tryz.isAgg143
 z182:=Tryz.sizeOf143
 v182:=Tryz.zeroValue143
 t183:=Tryz.underlying144
 a183:=Tryz.isAgg144
 z183:=Tryz.sizeOf144
 v183:=Tryz.zeroValue144
 t218:=Tryz.underlying177
 a218:=Tryz.isAgg177
 z218:=Tryz.sizeOf177
 v218:=Tryz.zeroValue177
 t222:=Tryz.underlying181
 a222:=Tryz.isAgg181
 z222:=Tryz.sizeOf181
 v222:=Tryz.zeroValue181
 t228:=Tryz.underlying202
 a228:=Tryz.isAgg202
 z228:=Tryz.sizeOf202
 v228:=Tryz.zeroValue202
 t229:=Tryz.underlying203
 a229:=Tryz.isAgg203
 z229:=Tryz.sizeOf203
 v229:=Tryz.zeroValue203}
open Go.RowKit Go.Sort in
theorem Tryz.slices_Sort_int (blk off cap:Nat) (zs:List Int) (w:World) (hH:Holds (Value.int .i64) w blk off zs.toArray) (hblk:blk<w.heap.size) (hsz:zs.length<4611686018427387904):
  Calls Tryz.prog 48 #[.slice (some ⟨blk,off,none⟩) zs.length cap] w fun e w'=>
   e= .returned (.tuple #[])∧ ∃n os,w'=grow (putRow (Value.int .i64) (Sort.ahead w n) blk off (zs.mergeSort fun x y=>decide (x≤y)).toArray) os:=Any.slices_Sort_int Tryz.lays189 blk off cap zs w hH hblk hsz
open Go.RowKit Go.Sort in
theorem Tryz.slices_Sort_int_none (p:Option Addr) (cap:Nat) (w:World):
  Calls Tryz.prog 48 #[.slice p 0 cap] w fun e w'=>e= .returned (.tuple #[])∧w'=w:=Any.slices_Sort_int_none Tryz.lays189 p cap w
end Go.Proofs.YtdpajapkhembcaaGreatDoor

namespace Go.Vl
open Go.RowKit Go.Sort Go.Proofs Go.Dg
theorem Qky (xs:List Int):(xs.map (PV.int .i64)).flatMap PV.cells=xs.map (PV.int .i64):=by
 induction xs with
 |nil=>rfl
 |cons x xs ih=>simp only [List.map_cons,List.flatMap_cons,ih,PV.cells,List.singleton_append]
theorem Q0i {w:World} {im:Im}: ∀{xs:List Int} {us:List Value},RepL w im (xs.map (PV.int .i64)) us→us=xs.map (Value.int .i64)
 | [],_,h=>by cases h;rfl
 |x::xs,_,h=>by
  cases h with
  |cons _ u _ us h t=>
   cases h;rw [Q0i t];rfl
theorem Qva {w:World} {im:Im}: ∀xs:List Int,RepL w im (xs.map (PV.int .i64)) (xs.map (Value.int .i64))
 | []=> .nil
 |x::xs=> .cons _ _ _ _ (.int _ _) (Qva xs)
theorem Q0j {w:World} {im:Im} {ρ:Rho}: ∀xs:List Int,LRL w im ρ (xs.map (PV.int .i64)) (xs.map (Value.int .i64))
 | []=> .nil
 |x::xs=> .cons _ _ _ _ (.ext _ _ (.int _ _)) (Q0j xs)
def intB (t:TypeId) (xs:List Int):Box:={els:=xs.map (PV.int .i64),esz:=1,ety:=t,fro:=0,live:=true,arr:=true}
theorem Qx7 {P:Program} {f:FuncId} (t:TypeId) (hc:callable P f=true)
  (hS: ∀(blk off cap:Nat) (zs:List Int) (w:World),Holds (Value.int .i64) w blk off zs.toArray→blk<w.heap.size→zs.length<4611686018427387904→
   Calls P f #[.slice (some ⟨blk,off,none⟩) zs.length cap] w fun e w'=>e= .returned (.tuple #[])∧ ∃n os,w'=grow (putRow (Value.int .i64) (Sort.ahead w n) blk off (zs.mergeSort fun x y=>decide (x≤y)).toArray) os)
  (hN: ∀(p:Option Addr) (cap:Nat) (w:World),Calls P f #[.slice p 0 cap] w fun e w'=>e= .returned (.tuple #[])∧w'=w)
  (xs:List Int) (hl:xs.length<4611686018427387904):Qct P f [.bs 1000000 1 0 xs.length] [(1000000,intB t xs)] (.tup []) [(1000000,intB t (srtI xs))]:=by
 refine⟨hc,fun w im ρ us F hF hLd hOw him hB hA=> ?_⟩;cases hA with
 |cons _ u _ us' hu ht=>
 cases ht;have hrho: ∀b,ρ b=none↔lkp [(1000000,intB t (srtI xs))] b=none:=fun b=>by
  rw [hB.rho b];simp only [lkp];by_cases e:b=1000000
  ·rw [if_pos e,if_pos e];exact⟨fun h=>(by cases h),fun h=>(by cases h)⟩
  ·rw [if_neg e,if_neg e]
 have hone: ∀{b:Nat} {B C:Box},lkp [(1000000,C)] b=some B→b=1000000∧B=C:=fun{b B C} h=>by
  simp only [lkp]at h;by_cases e:b=1000000
  ·rw [if_pos e]at h;cases h;exact⟨e,rfl⟩
  ·rw [if_neg e]at h;cases h
 obtain⟨n0,hn0⟩: ∃n,n=xs.length:=⟨_,rfl⟩;rw [←hn0]at hu;cases hu with
 |ext _ _ h=>cases h
 |bsNil _ _ x h=>
  have hb:=hB.box 1000000 none _ h rfl;have hx:xs=[]:=by
   have:=hb.1;simpa [intB]using this
  subst hx;refine(hN _ _ w).mono ?_;rintro e w' ⟨rfl,rfl⟩;refine⟨_,ρ,im,rfl,⟨Lent.refl _ _ _,Keeps.refl _ _,fun _ x=> .inl x,fun _ _ x=>x,fun _ _ x=> .inl x⟩,him,⟨hrho,fun b x B h1 h2=> ?_,fun b b' g B B' h1 h2 h3 h4 _ _=> ?_⟩,fun b x x' h1 h2=> ?_,.tup [] [] .nil⟩
  ·obtain⟨rfl,rfl⟩:=hone h2;rw [h]at h1;cases h1;rw [show srtI []=[]from by simp [srtI]];exact hb
  ·exact(hone h3).1.trans (hone h4).1.symm
  ·rw [h1]at h2;cases h2;rfl
 |bs _ _ _ _ g o cap cur e h ho hoff hcap hlen hm=>
  have hb:=hB.box 1000000 (some g) _ h rfl;obtain⟨h1,h2,h3,h4,⟨hmn,cur',us,rest,h5,h6,h7,h8,h9,h10,h11⟩|hmp⟩:=hb
  case inr=>
   obtain⟨-, -, -,es, -, -,q, -⟩:=hmp;cases q
  have hO:Own ρ g:=⟨_,h⟩;rw [ho]at h5;cases h5;obtain rfl:o=0:=by rw [hoff]
  have hr8:=h8 rfl;unfold intB at hr8;simp only [Qky]at hr8;have hus:=Q0i hr8;subst hus;have hsz:xs.length≤cur.size:=by rw [←Array.length_toList,h6];simp
  have hg:g<w.heap.size:=(Array.getElem?_eq_some_iff.1 ho).1;have hH:Holds (Value.int .i64) w g 0 xs.toArray:=holds_of_blockI ho (by rw [h6,List.take_left' (by simp)]);subst hn0;refine(hS g 0 cap xs w hH hg hl).mono ?_;rintro e w' ⟨rfl,n,os,rfl⟩;have hys:(xs.mergeSort fun x y=>decide (x≤y))=srtI xs:=rfl;rw [hys];have k1:=heap_sortedI (n:=n) (os:=os) (srtI xs).toArray ho;have k2:=grownBy_sortedI (w:=w) (g:=g) (n:=n) (os:=os) (srtI xs).toArray;have k3:=take_putCellsI cur (srtI xs) (by rw [Ql5];exact hsz);generalize grow (putRow (Value.int .i64) (Sort.ahead w n) g 0 (srtI xs).toArray) os=W at*;have ksz:(putCells (Value.int .i64) 0 (srtI xs).toArray cur).size=cur.size:=by simp [putCells]
  generalize putCells (Value.int .i64) 0 (srtI xs).toArray cur=C at*;obtain⟨g1,g2,g3,g4,g5⟩:=k2;have hoth: ∀k,k<w.heap.size→k≠g→W.heap[k]? =w.heap[k]? :=fun k hk hn=>g5 k hk (fun q=>hn (Option.some.inj q));have hni: ∀j,¬im g j:=fun j=>h11 rfl j (by show 0*1≤j;omega);have hcell: ∀g' j,im g' j→W.cell? ⟨g',j,none⟩=w.cell? ⟨g',j,none⟩:=fun g' j hi=>by
   have hne:g'≠g:=fun q=>hni j (q▸hi);obtain⟨u,hu⟩:=him g' j hi;have hlt:g'<w.heap.size:=by
    by_cases q:g'<w.heap.size
    ·exact q
    ·exfalso;unfold World.cell? at hu;rw [Array.getElem?_eq_none (by simpa using q)]at hu;cases hu
   unfold World.cell?;simp only [hoth g' hlt hne]
  refine⟨_,ρ,im,rfl,⟨⟨g1,g2,g3,g4,fun k hk hx=>hoth k hk (fun q=>hx (q▸hO))⟩,⟨hcell,fun k c e' hk=> ?_,fun k o hk hc=> ?_⟩,fun _ x=> .inl x,fun _ _ x=>x,fun _ _ x=> .inl x⟩,
   fun g' j hi=>by rw [hcell g' j hi];exact him g' j hi,⟨hrho,fun b x B q1 q2=> ?_,fun b b' g B B' q1 q2 q3 q4 _ _=> ?_⟩,fun b x x' q1 q2=> ?_,.tup [] [] .nil⟩
  ·by_cases q:k=g
   ·subst q;rw [ho]at hk;cases hk;exact⟨_,k1,ksz⟩
   ·exact⟨c,(hoth k (Array.getElem?_eq_some_iff.1 hk).1 q).trans hk,rfl⟩
  ·have q:k≠g:=fun q=>by
    subst q;rw [ho]at hk;cases hk;cases hc
   exact(hoth k (Array.getElem?_eq_some_iff.1 hk).1 q).trans hk
  ·obtain⟨rfl,rfl⟩:=hone q2;rw [h]at q1;cases q1;refine⟨h1,Nat.zero_le _,Nat.one_pos,fun e he=> ?_,.inl ⟨rfl,C,(srtI xs).map (Value.int .i64),C.toList.drop (srtI xs).length,k1,?_,?_,fun _=> ?_,fun u hu=> ?_,fun j hj hh=> ?_,fun _ j _=>hni j⟩⟩
   ·obtain⟨x, -,rfl⟩:=List.mem_map.1 he;rfl
   ·rw [←k3,List.take_append_drop]
   ·show LRL W im ρ (((srtI xs).map (PV.int .i64)).flatMap PV.cells) _;rw [Qky];exact Q0j _
   ·show RepL W im (((srtI xs).map (PV.int .i64)).flatMap PV.cells) _;rw [Qky];exact Qva _
   ·obtain⟨x, -,rfl⟩:=List.mem_map.1 hu;rfl
   ·rcases hh with hh|hh
    ·exact absurd hh (by show¬j<0*1;omega)
    ·cases hh
  ·exact(hone q3).1.trans (hone q4).1.symm
  ·rw [q1]at q2;cases q2;rfl
end Go.Vl

namespace Go.Proofs.YtdpajapkhembcaaGreatDoor
open Go.Vl Go.RowKit Go.Dg
theorem Zth (xs:List Int) (hl:xs.length≤100000):Qct Tryz.prog 48 [.bs 1000000 1 0 xs.length] [(1000000,iB xs)] (.tup []) [(1000000,iB (srtI xs))]:=
 Qx7 _ (by kernel_rfl) (fun blk off cap zs w h1 h2 h3=>Tryz.slices_Sort_int blk off cap zs w h1 h2 h3) (fun p cap w=>Tryz.slices_Sort_int_none p cap w) xs (by omega)
end Go.Proofs.YtdpajapkhembcaaGreatDoor
