/-
  KA11, KA12, KA13, Dq, KP1, KP2, Dbr, KB1, Dr, KN1, Bn, KN2 (merged for the claim).
-/
import Derived.Test.YtcaffiaempefjaaGreatDoorKW5
import Derived.Test.YtcaffiaempefjaaGreatDoorKW25
import Derived.Test.YtcaffiaempefjaaGreatDoorKW32
set_option linter.unusedSimpArgs false
set_option linter.unusedVariables false
namespace Go.Proofs.YtcaffiaempefjaaGreatDoor
open Go.Vl Go.RowKit Go.Dg
theorem Zqh (r d:Nat) (hd:d<E9):Qdm (d::digs E9 r)=digs E9 (r*E9+d):=by
 rw [Qmk E9_2 (d::digs E9 r) (by
  intro x hx;rcases List.mem_cons.1 hx with rfl|hx
  ·exact hd
  ·exact Qm9 E9_2 hx)]
 congr 1;simp only [val,Qq7 E9_2];rw [Nat.mul_comm,Nat.add_comm]
theorem Zfb (V N i:Nat) (hi:i<N) (h:V/E9^i%E9=0):mix E9 0 V N (i+1)=mix E9 0 V N i:=by
 have h1:=Qjm (B:=E9) (V:=0) (S:=V) (N:=N) (i:=i) (d:=0) hi h;rw [←h1];apply List.ext_getElem?;intro j;rw [List.getElem?_set];by_cases e:i=j
 ·subst e;simp only [if_true];rw [if_pos (by rw [Qbm];exact hi),Qc4 _ _ _ _ _ hi,if_pos (by omega)];simp
 ·simp [e]
theorem app1 (d:Nat) (D:List PV) (bx:Bx) (hb:bx 606=none) (h4:bx 604=some {els:=[.int .i64 (d:Int)],esz:=1,ety:=3,fro:=0,live:=true,arr:=true}) (hD:D.length≤1000000000) (hok:D.all (fun e=>e.cells.length==1&&e.cells.all PV.okCell)=true):
  Qbb Tryz.prog [] 606 (.call ⟨.builtin .append, #[.tmp 26,.tmp 27], #[40,40]⟩) [.bs 604 1 0 1,.slc D] bx=
   some (.done (.bs 606 1 0 (1+D.length)) [.kill 604,.new 606 {els:= .int .i64 (d:Int)::D,esz:=1,ety:=3,fro:=0,live:=true,arr:=true}],[(606,true),(604,true)]):=by
 have c1:((1+D.length)*8≤140737488355328)=True:=by simp only [eq_iff_iff,iff_true];omega
 have c2:(1+D.length≤maxLen)=True:=by simp only [eq_iff_iff,iff_true];unfold maxLen;omega
 skip
 simp -implicitDefEqProofs only [go_sem,seval,hok,c1,c2,hb,h4]
theorem Zqi {P:Program} (id:Nat) (bx:Bx) (fo:Operand) (as0:Array Operand) (ts:Array TypeId) (f b esz len:Nat) (B:Box) (xs:List PV) (hB:bx b=some B) (ha:B.arr=true) (he:B.esz=esz) (hx:B.els=xs) (hl:len=xs.length):
  Qbb P [] id (.call ⟨.value fo,as0,ts⟩) [.fn f [] [],.bs b esz 0 len] bx=some (.call f [.slc xs] [.fro b len],[(b,false),(b,false)]):=by
 subst hx;subst hl;subst he;rw [Zdx];have e1:(true&&B.soft.esz==B.esz&&decide (B.els.length≤B.soft.els.length))=true:=by simp [Box.soft,ha]
 have hs:B.soft.arr=true:=by simp [Box.soft,ha]
 have e2:(List.drop 0 B.soft.els).take B.els.length=B.els:=by rw [List.drop_zero];exact List.take_of_length_le (Nat.le_refl _)
 have h0:esc0 (.bs b B.esz 0 B.els.length) bx=some ((.slc B.els,[.fro b B.els.length]),[(b,false),(b,false)]):=by
  simp only [esc0,escS,M.bind,M.soft,hB,hs,M.ok,Nat.zero_add,e1,if_true,M.pure,List.nil_append,List.append_nil,e2,List.cons_append]
 have h1:Qg0 [.bs b B.esz 0 B.els.length] bx=some (([.slc B.els],[.fro b B.els.length]),[(b,false),(b,false)]):=by
  simp only [Qg0,esc1,escC,M.bind,h0,M.pure,List.nil_append,List.append_nil]
 simp only [M.bind,Qgg,M.pure,h1,List.nil_append,List.append_nil]
set_option maxHeartbeats 1000000 in
theorem Q59 (a b:Nat) (hb:0<b) (ha:(digs E9 a).length≤10000000) (hbl:(digs E9 b).length≤10000000):Qaf Tryz.prog 85 [di (digs E9 a),di (digs E9 b)] (.tup [di (digs E9 (a/b)),di (digs E9 (a%b))]):=by
 refine Qab (tb:=[]) 63 [.tmp 4,.tmp 5] [0,1,4,5,6,7,8,9,10,11,19,33,36,47] mixed Tryz.func85 rfl (by kernel_rfl) ?_;have hn0:((0:Int)≤((digs E9 a).length:Int))=True:=by simp
 have hn1:((8:Nat):Int)*((digs E9 a).length:Int)≤281474976710656:=by omega
 have hn2:((digs E9 a).length:Int)≤9223372036854775807:=by omega
 have hlt:a<E9^(digs E9 a).length:=Qa0 E9_2 a;have hw:IntKind.i64.wrap (((digs E9 a).length:Int)-1)=((digs E9 a).length:Int)-1:=Qah (by omega) (by omega);simp -implicitDefEqProofs only [go_sem,Nat.reduceAdd,Nat.reduceMul,Nat.reduceEqDiff,Nat.reduceLT,Nat.reduceLeDiff,reduceCtorEq,di,List.length_map,hn0,hn1,hn2,Int.toNat_natCast,hw];generalize hN:(digs E9 a).length=N at*;have hrep:List.replicate N (PV.int .i64 0)=(mix E9 0 (a/b) N N).map fI:=by rw [Qmj,Qtr];simp
 rw [hrep];refine Qat mixed (fun i:{i:Nat // i≤N}=>St.of [(0,di (digs E9 a)),(1,di (digs E9 b)),(6,.bs 102 1 0 N),(7,di (digs E9 (a/E9^i.1%b))),(8,.int .i64 ((i.1:Int)-1))]
  [(102,{els:=(mix E9 0 (a/b) N i.1).map fI,esz:=1,ety:=3,fro:=0,live:=true,arr:=true})]) (fun i=>i.1) ⟨N,Nat.le_refl _⟩ ?_ ?_
 ·refine Le.trans (Zd5 7 rfl) (Qak (θ:=[(102,102)]) rfl ?_ ?_)
  ·simp [Qae,lkp,ren1,ren0,di,Nat.div_eq_of_lt hlt,Qa3]
  ·simp [Qal,lkp,Box.renames]
 ·rintro⟨i,hi⟩;cases i with
  |zero=>
   have h1:((0:Int)≤((0:Nat):Int)-1)=False:=by simp
   have hll:=Qaj (B:=E9) (a/b) N;have htk:((lows E9 (a/b) N).map fI).take N=(lows E9 (a/b) N).map fI:=List.take_of_length_le (by simp [hll]);have e0:a/E9^0%b=a%b:=by rw [Nat.pow_zero,Nat.div_one]
   simp -implicitDefEqProofs only [go_sem,Nat.reduceAdd,Nat.reduceMul,Nat.reduceEqDiff,Nat.reduceLT,Nat.reduceLeDiff,reduceIte,reduceCtorEq,h1,Qhv,List.length_map,hll,htk];refine Qag _ _ _ _ _ _ _ _ _ (Qkw (lows E9 (a/b) N) (by rw [hll];simp [maxLen];omega)) ?_;simp -implicitDefEqProofs only [go_sem,Nat.reduceAdd,Nat.reduceEqDiff,Nat.reduceLT,reduceCtorEq,di,e0];rw [Qbu E9_2,Nat.mod_eq_of_lt (Nat.lt_of_le_of_lt (Nat.div_le_self _ _) hlt)]
  |succ i=>
   have hs:(((i+1:Nat):Int)-1)=(i:Int):=by omega
   have h1:((0:Int)≤(i:Int))=True:=by simp
   have h2:((i:Int)<(N:Int))=True:=by simp;omega
   have hga:=Qap E9_2 (show i<(digs E9 a).length by omega);have e0:a/E9^(i+1)=a/E9^i/E9:=by rw [Nat.pow_succ,Nat.div_div_eq_div_mul]
   obtain⟨s1,s2⟩:=Qpo (a/E9^i) b E9 (by decide) hb;have e1:a/E9^i/b=a/b/E9^i:=by rw [Nat.div_div_eq_div_mul,Nat.div_div_eq_div_mul,Nat.mul_comm]
   rw [←e0]at s1 s2;rw [e1]at s1;have hset:=Qjm (B:=E9) (V:=0) (S:=a/b) (N:=N) (i:=i) (d:=a/b/E9^i%E9) (by omega) rfl;have hsame:=Zfb (a/b) N i (by omega);have hml:=Qbm (B:=E9) 0 (a/b) N (i+1);obtain⟨e,hgo⟩: ∃e:Nat,((mix E9 0 (a/b) N (i+1)).map fI)[i]? =some (PV.int .i64 (e:Int)):=⟨_,by rw [List.getElem?_map,Qc4 _ _ _ _ _ (by omega)];rfl⟩;have hdl:a/E9^i%E9<E9:=Nat.mod_lt _ (by decide);have hrl:a/E9^(i+1)%b<b:=Nat.mod_lt _ hb;have hup:=Zqh (a/E9^(i+1)%b) (a/E9^i%E9) hdl;have hL1:(digs E9 (a/E9^(i+1)%b)).length≤10000000:=Nat.le_trans (Qpy (Nat.le_of_lt hrl)) hbl;have w4:IntKind.i64.wrap ((i:Int)-1)=(i:Int)-1:=Qah (by omega) (by omega);generalize a/E9^i%E9=d at*;generalize a/E9^(i+1)%b=ρ at*;have ht:=Qkw (d::digs E9 ρ) (by rw [List.length_cons];unfold maxLen;omega);rw [hup,di,List.map_cons]at ht;have hL2:(digs E9 (ρ*E9+d)).length≤10000001:=by
    refine Nat.le_trans ((Qam E9_2 _ ((digs E9 b).length+1)).2 ?_) (Nat.succ_le_succ hbl);have h5:=Nat.mul_le_mul_right E9 (show ρ+1≤b from hrl);have h6:=Nat.mul_lt_mul_of_pos_right (Qa0 E9_2 b) (show 0<E9 by decide);rw [Nat.add_mul,Nat.one_mul]at h5;rw [Nat.pow_succ];exact Nat.lt_trans (Nat.lt_of_lt_of_le (Nat.add_lt_add_left hdl _) h5) h6
   have c1:((1+(digs E9 ρ).length)*8≤140737488355328)=True:=by simp only [eq_iff_iff,iff_true];omega
   have c2:(1+(digs E9 ρ).length≤maxLen)=True:=by simp only [eq_iff_iff,iff_true];unfold maxLen;omega
   have hok:((digs E9 ρ).map fI).all (fun e=>e.cells.length==1&&e.cells.all PV.okCell)=true:=by rw [List.all_map,List.all_eq_true];intro _ _;rfl
   have hor:=Qrp (ρ*E9+d) b (by omega);have c3:(1+(digs E9 ρ).length≤(digs E9 ρ).length+1)=True:=by simp only [eq_iff_iff,iff_true];omega
   have c4:List.take (1+(digs E9 ρ).length) (PV.int .i64 (d:Int)::(digs E9 ρ).map fI)=PV.int .i64 (d:Int)::(digs E9 ρ).map fI:=List.take_of_length_le (by rw [List.length_cons,List.length_map,Nat.add_comm];exact Nat.le_refl _);generalize hR:ρ*E9+d=R at*;generalize digs E9 ρ=D at*;have hap:=fun(bx:Bx) h1 h2=>app1 d (D.map fI) bx h1 h2 (by rw [List.length_map];omega) hok;rw [List.length_map]at hap;have hca:=fun(bx:Bx) hB=>Zqi (P:=Tryz.prog) 607 bx (.func 51) #[.tmp 28] #[40] 51 606 1 (1+D.length) {els:= .int .i64 (d:Int)::D.map fI,esz:=1,ety:=3,fro:=0,live:=true,arr:=true} (.int .i64 (d:Int)::D.map fI) hB rfl rfl rfl (by rw [List.length_cons,List.length_map,Nat.add_comm]);simp -implicitDefEqProofs only [go_sem,Nat.reduceAdd,Nat.reduceMul,Nat.reduceEqDiff,Nat.reduceLT,Nat.reduceLeDiff,reduceCtorEq,di,hs,h1,Qfc,hga,Int.toNat_natCast,hap,hca];refine Qag _ _ _ _ _ _ _ _ _ ht ?_;simp -implicitDefEqProofs only [go_sem,Nat.reduceAdd,Nat.reduceMul,Nat.reduceEqDiff,Nat.reduceLT,Nat.reduceLeDiff,reduceCtorEq,di];refine Qag _ _ _ _ _ _ _ _ _ hor ?_;by_cases hc:R<b
   ·have hc':(cmpN R b<0)=True:=by rw [Qra hc];simp
    have hq0:R/b=0:=Nat.div_eq_of_lt hc;rw [hq0]at s1;rw [Nat.mod_eq_of_lt hc]at s2;simp -implicitDefEqProofs only [go_sem,Nat.reduceAdd,Nat.reduceMul,Nat.reduceEqDiff,Nat.reduceLT,Nat.reduceLeDiff,reduceIte,reduceCtorEq,hc',w4];refine⟨⟨i,by omega⟩,by simp only;omega,Qak (θ:=[(102,102)]) rfl ?_ ?_⟩
    ·simp [Qae,lkp,ren1,ren0,di,←s2]
    ·simp [Qal,lkp,Box.renames,hsame s1.symm]
   ·have hc':(cmpN R b<0)=False:=by simp [cmpN];omega
    have hQ:R/b<E9:=by
     rw [Nat.div_lt_iff_lt_mul hb,←hR,Nat.mul_comm E9];have:=Nat.mul_le_mul_right E9 (show ρ+1≤b from hrl);rw [Nat.add_mul]at this;omega
    simp -implicitDefEqProofs only [go_sem,Nat.reduceAdd,Nat.reduceMul,Nat.reduceEqDiff,Nat.reduceLT,Nat.reduceLeDiff,reduceCtorEq,hc'];refine Qat mixed (fun p:{p:Nat×Nat // p.1≤R/b∧R/b≤p.2∧p.2<E9}=>St.of [(0,di (digs E9 a)),(1,di (digs E9 b)),(6,.bs 102 1 0 N),(7,di (digs E9 R)),(8,.int .i64 (i:Int)),(9,.int .i64 (p.1.1:Int)),(10,.int .i64 (p.1.2:Int))]
     [(102,{els:=(mix E9 0 (a/b) N (i+1)).map fI,esz:=1,ety:=3,fro:=0,live:=true,arr:=true})]) (fun p=>p.1.2-p.1.1) ⟨(0,999999999),Nat.zero_le _,by simp only [E9]at hQ;omega,by decide⟩ ?_ ?_
    ·refine Qak (θ:=[(102,102)]) rfl ?_ ?_
     ·simp [Qae,lkp,ren1,ren0,di]
     ·simp [Qal,lkp,Box.renames]
    ·rintro⟨⟨lo,hi⟩,p1,p2,p3⟩;simp only at p1 p2 p3 ⊢;simp only [E9]at p3;by_cases hlh:lo<hi
     ·have g1:((lo:Int)<(hi:Int))=True:=by simp;omega
      have w1:=Qcu (a:=lo) (b:=hi) (by omega);have w2:=Qai (a:=lo+hi) (by omega);have t2:Int.tdiv ((lo+hi+1:Nat):Int) 2=(((lo+hi+1)/2:Nat):Int):=rfl;have w3:=wrapn (n:=(lo+hi+1)/2) (by omega);generalize hmid:(lo+hi+1)/2=mid at*;have hsm:=Qzd b mid (by simp only [E9];omega) (by omega);have hLb:(digs E9 (b*mid)).length≤1000000000:=by
       refine Nat.le_trans ((Qam E9_2 _ ((digs E9 b).length+1)).2 ?_) (show(digs E9 b).length+1≤1000000000 by omega);rw [Nat.pow_succ];exact Nat.mul_lt_mul_of_lt_of_le (Qa0 E9_2 b) (show mid≤E9 by simp only [E9];omega) (by decide)
      have ho:=Qrp (b*mid) R hLb;have hiff:b*mid≤R↔mid≤R/b:=by rw [Nat.le_div_iff_mul_le hb,Nat.mul_comm]
      simp -implicitDefEqProofs only [go_sem,Nat.reduceAdd,Nat.reduceMul,Nat.reduceEqDiff,Nat.reduceLT,Nat.reduceLeDiff,reduceCtorEq,Int.reduceEq,di,g1,w1,w2,t2,w3];refine Qag _ _ _ _ _ _ _ _ _ hsm ?_;simp -implicitDefEqProofs only [go_sem,Nat.reduceAdd,Nat.reduceEqDiff,Nat.reduceLT,reduceCtorEq,di];refine Qag _ _ _ _ _ _ _ _ _ ho ?_;by_cases hm:b*mid≤R
      ·have g2:(cmpN (b*mid) R≤0)=True:=by simp [cmpN];omega
       have hm2:=hiff.1 hm;simp -implicitDefEqProofs only [go_sem,Nat.reduceAdd,Nat.reduceMul,Nat.reduceEqDiff,Nat.reduceLT,Nat.reduceLeDiff,reduceCtorEq,g2];refine⟨⟨(mid,hi),hm2,p2,by simp only [E9];omega⟩,by simp only;omega,Qak (θ:=[(102,102)]) rfl ?_ ?_⟩
       ·simp [Qae,lkp,ren1,ren0,di]
       ·simp [Qal,lkp,Box.renames]
      ·have g2:(cmpN (b*mid) R≤0)=False:=by simp [cmpN];omega
       have hm2:=mt hiff.2 hm;have w5:IntKind.i64.wrap ((mid:Int)-1)=((mid-1:Nat):Int):=by rw [Qah (by omega) (by omega)];omega
       simp -implicitDefEqProofs only [go_sem,Nat.reduceAdd,Nat.reduceMul,Nat.reduceEqDiff,Nat.reduceLT,Nat.reduceLeDiff,reduceCtorEq,g2,w5];refine⟨⟨(lo,mid-1),p1,by simp only;omega,by simp only [E9];omega⟩,by simp only;omega,Qak (θ:=[(102,102)]) rfl ?_ ?_⟩
       ·simp [Qae,lkp,ren1,ren0,di]
       ·simp [Qal,lkp,Box.renames]
     ·have g1:((lo:Int)<(hi:Int))=False:=by simp;omega
      obtain rfl:lo=R/b:=by omega
      have hsm:=Qzd b (R/b) hQ (by omega);have hle:b*(R/b)≤R:=Nat.mul_div_le R b;have hmi:=Qrq R (b*(R/b)) hle (by omega);have e3:R-b*(R/b)=R%b:=by have:=Nat.div_add_mod R b;omega
      rw [e3,s2]at hmi;rw [←s1]at hset;simp -implicitDefEqProofs only [go_sem,Nat.reduceAdd,Nat.reduceMul,Nat.reduceEqDiff,Nat.reduceLT,Nat.reduceLeDiff,reduceIte,reduceCtorEq,g1,di,h1,h2,Int.toNat_natCast,List.length_map,hml,hgo];refine Qag _ _ _ _ _ _ _ _ _ hsm ?_;simp -implicitDefEqProofs only [go_sem,Nat.reduceAdd,Nat.reduceEqDiff,Nat.reduceLT,reduceCtorEq,di];refine Qag _ _ _ _ _ _ _ _ _ hmi ?_;simp -implicitDefEqProofs only [go_sem,Nat.reduceAdd,Nat.reduceMul,Nat.reduceEqDiff,Nat.reduceLT,Nat.reduceLeDiff,reduceCtorEq,di,w4];refine⟨⟨i,by omega⟩,by simp only;omega,Qak (θ:=[(102,102)]) rfl ?_ ?_⟩
      ·simp [Qae,lkp,ren1,ren0,di]
      ·rw [Qza,hset];simp [Qal,lkp,Box.renames]
theorem Q6a (a b:Nat):(digs E9 (a*b)).length≤(digs E9 a).length+(digs E9 b).length:=by
 refine(Qam E9_2 _ _).2 ?_;rw [Nat.pow_add];exact Nat.mul_lt_mul'' (Qa0 E9_2 _) (Qa0 E9_2 _)
theorem Qns (a b k:Nat) (h1:(digs E9 a).length≤k) (h2:(digs E9 b).length≤k):(digs E9 (a+b)).length≤k+1:=by
 rw [Qam E9_2]at h1 h2 ⊢;rw [Nat.pow_succ];generalize E9^k=K at*;simp only [E9];omega
theorem Zqj (x y:Int) (hy:y≠0):(0≤x-Int.tdiv x y*y→Int.tdiv x y=x/y∧x-Int.tdiv x y*y=x%y)∧
  (x-Int.tdiv x y*y<0→(if 0<y then Int.tdiv x y-1 else Int.tdiv x y+1)=x/y∧x-(if 0<y then Int.tdiv x y-1 else Int.tdiv x y+1)*y=x%y):=by
 have h1:y*Int.tdiv x y+Int.tmod x y=x:=Int.mul_tdiv_add_tmod x y;have h2:=Int.natAbs_tmod x y;have h3:=Nat.mod_lt x.natAbs (show 0<y.natAbs by omega);rw [←h2]at h3;generalize Int.tdiv x y=q at*;generalize Int.tmod x y=r at*;have e:q*y=y*q:=Int.mul_comm _ _;have key: ∀q' r':Int,r'+y*q'=x→0≤r'→r'<y.natAbs→q'=x/y∧r'=x%y:=by
  intro q' r' a1 a2 a3;rcases Int.lt_or_gt_of_ne hy with hn|hp
  ·have:=(Int.ediv_emod_unique' (a:=x) (b:=y) (r:=r') (q:=q') hn).2 ⟨a1,a2,by omega⟩;exact⟨this.1.symm,this.2.symm⟩
  ·have:=(Int.ediv_emod_unique (a:=x) (b:=y) (r:=r') (q:=q') hp).2 ⟨a1,a2,by omega⟩;exact⟨this.1.symm,this.2.symm⟩
 rw [e];constructor
 ·intro h0;exact key q (x-y*q) (by omega) h0 (by omega)
 ·intro h0;by_cases hp:0<y
  ·rw [if_pos hp];have e2:(q-1)*y=y*q-y:=by rw [Int.sub_mul,Int.one_mul,e]
   have e3:y*(q-1)=y*q-y:=by rw [Int.mul_comm,e2]
   exact key (q-1) (x-(q-1)*y) (by omega) (by omega) (by omega)
  ·rw [if_neg hp];have e2:(q+1)*y=y*q+y:=by rw [Int.add_mul,Int.one_mul,e]
   have e3:y*(q+1)=y*q+y:=by rw [Int.mul_comm,e2]
   exact key (q+1) (x-(q+1)*y) (by omega) (by omega) (by omega)
theorem Zqk {a b:Nat} (h:a≤b):(digs E9 a).length≤(digs E9 b).length:=Qpy h
theorem Q1j (x y:Int):(if(!(decide (x<0)==decide (y<0)))=true then -((x.natAbs/y.natAbs:Nat):Int)else((x.natAbs/y.natAbs:Nat):Int))=Int.tdiv x y:=by
 cases x with
 |ofNat m=>cases y with
  |ofNat n=>
   have h1: ¬Int.ofNat m<0:=by simp
   have h2: ¬Int.ofNat n<0:=by simp
   simp only [h1,h2,decide_false,beq_self_eq_true,Bool.not_true,Bool.false_eq_true,if_false];rfl
  |negSucc n=>
   have h1: ¬Int.ofNat m<0:=by simp
   have h2:Int.negSucc n<0:=Int.negSucc_lt_zero n;simp only [h1,h2,decide_false,decide_true,Bool.false_beq,Bool.not_true,Bool.not_false,if_true];rfl
 |negSucc m=>cases y with
  |ofNat n=>
   have h1:Int.negSucc m<0:=Int.negSucc_lt_zero m;have h2: ¬Int.ofNat n<0:=by simp
   simp only [h1,h2,decide_false,decide_true,Bool.true_beq,Bool.not_false,if_true];rfl
  |negSucc n=>
   have h1:Int.negSucc m<0:=Int.negSucc_lt_zero m;have h2:Int.negSucc n<0:=Int.negSucc_lt_zero n;simp only [h1,h2,decide_true,beq_self_eq_true,Bool.not_true,Bool.false_eq_true,if_false];rfl
set_option maxHeartbeats 1000000 in
theorem Zwv (x y:Int) (hy:y≠0) (hx:(digs E9 x.natAbs).length≤1000000) (hyl:(digs E9 y.natAbs).length≤1000000):Qaf Tryz.prog 54 [rI x,rI y] (.tup [rI (x/y),rI (x%y)]):=by
 have ho:=Q59 x.natAbs y.natAbs (by omega) (by omega) (by omega);have hm:=Qgq (!(decide (x<0)==decide (y<0))) (x.natAbs/y.natAbs);rw [Q1j]at hm;have hql:(digs E9 (Int.tdiv x y).natAbs).length≤1000000:=by
  rw [Int.natAbs_tdiv];exact Nat.le_trans (Zqk (Nat.div_le_self _ _)) hx
 have h1l:(digs E9 1).length≤1000000:=Nat.le_trans (Q6c (by decide)) (by decide);obtain⟨f1,f2⟩:=Zqj x y hy;have hnum:=Qfu 1 (by decide) (by decide);generalize hq:Int.tdiv x y=q at*;have hmq:(digs E9 (q*y).natAbs).length≤2000000:=by rw [Int.natAbs_mul];have:=Q6a q.natAbs y.natAbs;omega
 have m1:=Qze q y (by omega);have s1:=Qpz x (q*y) (Nat.le_trans (Qns _ _ 2000000 (by omega) hmq) (by decide));have g1:=Qwd (x-q*y);have g2:=Qwd y;by_cases h0:x-q*y<0
 ·have c1:((x-q*y).sign<0)=True:=by simp only [eq_iff_iff,iff_true];rw [Int.sign_eq_neg_one_of_neg h0];decide
  obtain⟨e1,e2⟩:=f2 h0;by_cases hp:0<y
  ·have c2:(0<y.sign)=True:=by simp only [eq_iff_iff,iff_true];rw [Int.sign_eq_one_of_pos hp];decide
   rw [if_pos hp]at e1 e2;have s2:=Qpz q 1 (Nat.le_trans (Qns _ _ 1000000 hql h1l) (by decide));have hq2:(digs E9 (q-1).natAbs).length≤1000001:=Nat.le_trans (Zqk (show(q-1).natAbs≤q.natAbs+1 by omega)) (Qns _ _ 1000000 hql h1l);have m2:=Qze (q-1) y (by omega);have hmq2:(digs E9 ((q-1)*y).natAbs).length≤2000001:=by rw [Int.natAbs_mul];have:=Q6a (q-1).natAbs y.natAbs;omega
   have s3:=Qpz x ((q-1)*y) (Nat.le_trans (Qns _ _ 2000001 (by omega) hmq2) (by decide));rw [e1]at s2 m2 s3;rw [e1]at e2;rw [e2]at s3;generalize x-q*y=r at*;generalize q*y=p at*;generalize x/y*y=p2 at*;generalize x/y=Q at*;generalize x%y=R at*;generalize x.natAbs/y.natAbs=n1 at*;generalize x.natAbs%y.natAbs=n2 at*;refine Qab (tb:=[]) 50 [.cell 4 42,.cell 5 42] [0,1,2,3,4,5,6,7,8,9,32,35] mixed Tryz.func54 rfl (by kernel_rfl) ?_;repeat (first|simp -implicitDefEqProofs only [go_sem,seval,rI,di,c1,c2]|(with_reducible refine Qaa ho ?_ ?_ ?_);rfl;rfl|(with_reducible refine Qaa hm ?_ ?_ ?_);rfl;rfl|(with_reducible refine Qaa m1 ?_ ?_ ?_);rfl;rfl|(with_reducible refine Qaa s1 ?_ ?_ ?_);rfl;rfl|(with_reducible refine Qaa g1 ?_ ?_ ?_);rfl;rfl|(with_reducible refine Qaa g2 ?_ ?_ ?_);rfl;rfl|(with_reducible refine Qaa hnum ?_ ?_ ?_);rfl;rfl|(with_reducible refine Qaa s2 ?_ ?_ ?_);rfl;rfl|(with_reducible refine Qaa m2 ?_ ?_ ?_);rfl;rfl|(with_reducible refine Qaa s3 ?_ ?_ ?_);rfl;rfl|(with_reducible exact Qac _ _ (by kernel_rfl))|(with_reducible refine And.intro (Qac _ _ (by kernel_rfl)) ?_))
  ·have c2:(0<y.sign)=False:=by simp only [eq_iff_iff,iff_false];rw [Int.sign_eq_neg_one_of_neg (by omega)];decide
   rw [if_neg hp]at e1 e2;have s2:=Q6b q 1 (Nat.le_trans (Qns _ _ 1000000 hql h1l) (by decide));have hq2:(digs E9 (q+1).natAbs).length≤1000001:=Nat.le_trans (Zqk (show(q+1).natAbs≤q.natAbs+1 by omega)) (Qns _ _ 1000000 hql h1l);have m2:=Qze (q+1) y (by omega);have hmq2:(digs E9 ((q+1)*y).natAbs).length≤2000001:=by rw [Int.natAbs_mul];have:=Q6a (q+1).natAbs y.natAbs;omega
   have s3:=Qpz x ((q+1)*y) (Nat.le_trans (Qns _ _ 2000001 (by omega) hmq2) (by decide));rw [e1]at s2 m2 s3;rw [e1]at e2;rw [e2]at s3;generalize x-q*y=r at*;generalize q*y=p at*;generalize x/y*y=p2 at*;generalize x/y=Q at*;generalize x%y=R at*;generalize x.natAbs/y.natAbs=n1 at*;generalize x.natAbs%y.natAbs=n2 at*;refine Qab (tb:=[]) 50 [.cell 4 42,.cell 5 42] [0,1,2,3,4,5,6,7,8,9,32,35] mixed Tryz.func54 rfl (by kernel_rfl) ?_;repeat (first|simp -implicitDefEqProofs only [go_sem,seval,rI,di,c1,c2]|(with_reducible refine Qaa ho ?_ ?_ ?_);rfl;rfl|(with_reducible refine Qaa hm ?_ ?_ ?_);rfl;rfl|(with_reducible refine Qaa m1 ?_ ?_ ?_);rfl;rfl|(with_reducible refine Qaa s1 ?_ ?_ ?_);rfl;rfl|(with_reducible refine Qaa g1 ?_ ?_ ?_);rfl;rfl|(with_reducible refine Qaa g2 ?_ ?_ ?_);rfl;rfl|(with_reducible refine Qaa hnum ?_ ?_ ?_);rfl;rfl|(with_reducible refine Qaa s2 ?_ ?_ ?_);rfl;rfl|(with_reducible refine Qaa m2 ?_ ?_ ?_);rfl;rfl|(with_reducible refine Qaa s3 ?_ ?_ ?_);rfl;rfl|(with_reducible exact Qac _ _ (by kernel_rfl))|(with_reducible refine And.intro (Qac _ _ (by kernel_rfl)) ?_))
 ·have c1:((x-q*y).sign<0)=False:=by simp only [eq_iff_iff,iff_false];have:=Int.sign_nonneg_iff.2 (show 0≤x-q*y by omega);omega
  obtain⟨e1,e2⟩:=f1 (by omega);rw [e2]at s1 g1 c1;rw [e1]at hm m1 s1;generalize q*y=p at*;generalize x/y*y=p2 at*;generalize x/y=Q at*;generalize x%y=R at*;generalize x.natAbs/y.natAbs=n1 at*;generalize x.natAbs%y.natAbs=n2 at*;refine Qab (tb:=[]) 50 [.cell 4 42,.cell 5 42] [0,1,2,3,4,5,6,7,8,9,32,35] mixed Tryz.func54 rfl (by kernel_rfl) ?_;repeat (first|simp -implicitDefEqProofs only [go_sem,seval,rI,di,c1]|(with_reducible refine Qaa ho ?_ ?_ ?_);rfl;rfl|(with_reducible refine Qaa hm ?_ ?_ ?_);rfl;rfl|(with_reducible refine Qaa m1 ?_ ?_ ?_);rfl;rfl|(with_reducible refine Qaa s1 ?_ ?_ ?_);rfl;rfl|(with_reducible refine Qaa g1 ?_ ?_ ?_);rfl;rfl|(with_reducible exact Qac _ _ (by kernel_rfl))|(with_reducible refine And.intro (Qac _ _ (by kernel_rfl)) ?_))
theorem Zww (x y:Int) (hx:(digs E9 x.natAbs).length≤1000000) (hyl:(digs E9 y.natAbs).length≤1000000):Qaf Tryz.prog 53 [rI x,rI y] (rI ((Nat.gcd x.natAbs y.natAbs:Nat):Int)):=by
 have hm:=Qgq false (Nat.gcd x.natAbs y.natAbs);simp only [Bool.false_eq_true,if_false]at hm;refine Qab (tb:=[]) 26 [.cell 4 42] [0,1,2,3,4,5,6,8,15] mixed Tryz.func53 rfl (by kernel_rfl) ?_;repeat (first|simp -implicitDefEqProofs only [go_sem,seval,rI,di]|(with_reducible refine And.intro (Qac _ _ (by kernel_rfl)) ?_))
 refine Qat mixed (fun p:{p:Nat×Nat // Nat.gcd p.1 p.2=Nat.gcd x.natAbs y.natAbs∧(digs E9 p.1).length≤1000000∧(digs E9 p.2).length≤1000000}=>St.of [(4,.bp 2 2 0 0),(5,di (digs E9 p.1.1)),(6,di (digs E9 p.1.2))]
  [(2,{els:=[.agg [.bool false,.nilS]],esz:=2,ety:=42,fro:=0,live:=true,arr:=false})]) (fun p=>p.1.2) ⟨(x.natAbs,y.natAbs),rfl,hx,hyl⟩ ?_ ?_
 ·refine Qak (θ:=[(2,2)]) rfl ?_ ?_
  ·simp [Qae,lkp,ren1,ren0,di]
  ·refine⟨⟨rfl,rfl,rfl,rfl,rfl,.inr ⟨rfl,_,_,rfl,rfl,rfl,rfl⟩⟩,trivial⟩
 ·rintro⟨⟨u,v⟩,h1,h2,h3⟩;simp only at h1 h2 h3 ⊢;by_cases hv:v=0
  ·subst hv;have g1:((0:Int)<((0:Nat):Int))=False:=by simp
   rw [Nat.gcd_zero_right]at h1;subst h1;repeat (first|simp -implicitDefEqProofs only [go_sem,seval,rI,di,Qa3,List.map_nil,List.length_nil,g1]|(with_reducible refine Qaa hm ?_ ?_ ?_);rfl;rfl)
  ·have hp:0<(digs E9 v).length:=Zfd hv;have g1:((0:Int)<((digs E9 v).length:Int))=True:=by simp only [eq_iff_iff,iff_true];omega
   have hd:=Q59 u v (Nat.pos_of_ne_zero hv) (by omega) (by omega);have hr:=Nat.mod_lt u (Nat.pos_of_ne_zero hv);repeat (first|simp -implicitDefEqProofs only [go_sem,seval,di,List.length_map,g1]|(with_reducible refine Qaa hd ?_ ?_ ?_);rfl;rfl)
   refine⟨⟨(v,u%v),by rw [←h1,Nat.gcd_comm u v,Nat.gcd_rec v u,Nat.gcd_comm],h3,Nat.le_trans (Qpy (Nat.le_of_lt hr)) h3⟩,by simp only;exact hr,Qak (θ:=[(2,2)]) rfl ?_ ?_⟩
   ·simp [Qae,lkp,ren1,ren0,di]
   ·refine⟨⟨rfl,rfl,rfl,rfl,rfl,.inr ⟨rfl,_,_,rfl,rfl,rfl,rfl⟩⟩,trivial⟩
theorem mod_lt {y:Int} {k:Nat} (x:Int) (h0:y≠0) (hy:y.natAbs<256^k):(x%y).natAbs<256^k:=by
 have h1:=Int.emod_nonneg x h0;have h2:=Int.emod_lt x h0;omega
theorem Zql {n:Bool} {s:ByteArray} (h:Qba n s.data.toList=true) (h0:s.data.toList≠ []):wnum n s≠0:=by
 intro e;have h1:=Zml n s h;rw [e,Qrm]at h1;simp only [PV.agg.injEq,List.cons.injEq,PV.str.injEq,PV.bool.injEq,and_true]at h1;exact h0 (by rw [←h1.2])
theorem Zfc {n:Bool} {s:ByteArray} (h0:s.data.toList=[]):wnum n s=0:=by
 unfold wnum sv;rw [h0];cases n<;>rfl
section
variable (a b c d:Int) (k:Nat) (hk:k≤10000) (ha:a.natAbs<256^k) (hb:b.natAbs<256^k) (hc:c.natAbs<256^k) (hd:d.natAbs<256^k)
include hk ha hb hc hd
end
end Go.Proofs.YtcaffiaempefjaaGreatDoor

namespace Go.Dg

/-! ### sums -/
/-- The sum of the first n values. -/
def sm (f:Nat→Int):Nat→Int
  |0=>0
  |n+1=>sm f n+f n
theorem Qbd {f g:Nat→Int}: ∀(n:Nat),(∀i,i<n→f i=g i)→sm f n=sm g n
  |0,_=>rfl
  |n+1,h=>by rw [sm,sm,Qbd n (fun i hi=>h i (Nat.lt_succ_of_lt hi)),h n (Nat.lt_succ_self n)]
theorem Qng {f:Nat→Int}: ∀(n:Nat),(∀i,i<n→f i=0)→sm f n=0
  |0,_=>rfl
  |n+1,h=>by rw [sm,Qng n (fun i hi=>h i (Nat.lt_succ_of_lt hi)),h n (Nat.lt_succ_self n)];rfl
theorem Qti (f g:Nat→Int): ∀n,sm (fun i=>f i+g i) n=sm f n+sm g n
  |0=>rfl
  |n+1=>by simp only [sm,Qti f g n];omega
theorem Qdf (c:Int) (f:Nat→Int): ∀n,sm (fun i=>c*f i) n=c*sm f n
  |0=>by simp [sm]
  |n+1=>by simp only [sm,Qdf c f n,Int.mul_add]
theorem Qji (f:Nat→Int): ∀n,sm f (n+1)=f 0+sm (fun i=>f (i+1)) n
  |0=>by simp [sm]
  |n+1=>by rw [sm,Qji f n,sm];omega
theorem Q5f (f:Nat→Int) {n m:Nat} (h:n≤m) (hz: ∀i,n≤i→i<m→f i=0):sm f m=sm f n:=by
  induction m with
  |zero=>
        obtain rfl:n=0:=by omega
        rfl
  |succ m ih=>
    rcases Nat.lt_or_eq_of_le h with h1|h1
    · rw [sm,ih (by omega) (fun i a b=>hz i a (by omega)),hz m (by omega) (by omega),Int.add_zero]
    · rw [h1]
theorem Q5g (g:Nat→Nat→Int): ∀n,sm (fun j=>sm (fun i=>g i j) (j+1)) n=sm (fun i=>sm (fun k=>g i (i+k)) (n-i)) n
  |0=>rfl
  |n+1=>by
    rw [sm,Q5g g n];have h1:sm (fun i=>sm (fun k=>g i (i+k)) (n+1-i)) n=sm (fun i=>sm (fun k=>g i (i+k)) (n-i)+g i n) n:=
      Qbd n fun i hi=>by
        have e:n+1-i=(n-i)+1:=by omega
        have e2:i+(n-i)=n:=by omega
        rw [e,sm,e2]
    have e3:n+1-n=1:=by omega
    rw [sm,sm,h1,Qti,e3];simp only [sm,Nat.add_zero,Int.zero_add];omega
theorem Q5h (f:Nat→Nat→Int) (m:Nat): ∀n,sm (fun i=>sm (fun j=>f i j) m) n=sm (fun j=>sm (fun i=>f i j) n) m
  |0=>(Qng m (fun _ _=>rfl)).symm
  |n+1=>by rw [sm,Q5h f m n,←Qti];rfl
theorem Q5i {f g:Nat→Int}: ∀(n:Nat),(∀i,i<n→f i≤g i)→sm f n≤sm g n
  |0,_=>Int.le_refl 0
  |n+1,h=>Int.add_le_add (Q5i n fun i hi=>h i (Nat.lt_succ_of_lt hi)) (h n (Nat.lt_succ_self n))

/-! ### binomials -/
/-- The number of ways to choose k of n elements. -/
def bin:Nat→Nat→Nat
  |_,0=>1
  |0,_+1=>0
  |n+1,k+1=>bin n k+bin n (k+1)
theorem Qgn (n:Nat):bin n 0=1:=by cases n<;>rfl
theorem Q5j: ∀{n k:Nat},n<k→bin n k=0
  |0,0,h=>absurd h (Nat.lt_irrefl 0)
  |0,_+1,_=>rfl
  |n+1,0,h=>absurd h (Nat.not_lt_zero _)
  |n+1,k+1,h=>by rw [bin,Q5j (by omega),Q5j (by omega)]
/-- The next one of a row. -/
theorem Qmm: ∀(n k:Nat),(bin n (k+1):Int)*((k:Int)+1)=(bin n k:Int)*((n:Int)-(k:Int))
  |0,0=>by simp [bin]
  |0,k+1=>by simp [bin]
  |n+1,0=>by
    have h:=Qmm n 0;rw [Qgn]at h ⊢;rw [bin,Qgn];simp only [Int.natCast_add,Int.natCast_zero,Int.zero_add,Int.mul_one,Int.sub_zero,Int.one_mul]at h ⊢;omega
  |n+1,k+1=>by
    have h1:=Qmm n k;have h2:=Qmm n (k+1);rw [bin,bin];simp only [Int.natCast_add]at h1 h2 ⊢;generalize (bin n k:Int)=a at*;generalize (bin n (k+1):Int)=b at*;generalize (bin n (k+1+1):Int)=c at*;generalize (n:Int)=N at*;generalize (k:Int)=K at*;simp only [Int.mul_add,Int.add_mul,Int.mul_sub,Int.sub_mul]at h1 h2 ⊢;simp only [Int.mul_one]at h1 h2 ⊢;omega
theorem Qrg: ∀{n k:Nat},k≤n→0<bin n k
  |_,0,_=>by rw [Qgn];decide
  |0,k+1,h=>absurd h (by omega)
  |n+1,k+1,h=>by rw [bin];have:=Qrg (n:=n) (k:=k) (by omega);omega
theorem Qhw: ∀(n k:Nat),bin n k≤2^n
  |0,0=>by decide
  |0,_+1=>by simp [bin]
  |n+1,0=>by rw [Qgn];exact Nat.pow_pos (by decide)
  |n+1,k+1=>by rw [bin,Nat.pow_succ];have:=Qhw n k;have:=Qhw n (k+1);omega
theorem Ql5 (x:Int) (n:Nat):x^(n+1)=x*x^n:=by rw [Int.pow_succ,Int.mul_comm]
/-- The power of a sum. -/
theorem Qnh (a b:Int): ∀n,sm (fun k=>(bin n k:Int)*(a^k*b^(n-k))) (n+1)=(a+b)^n
  |0=>by simp [sm,bin]
  |n+1=>by
    have ih:=Qnh a b n;rw [Qji];have h1:sm (fun k=>(bin (n+1) (k+1):Int)*(a^(k+1)*b^(n+1-(k+1)))) (n+1)
        =sm (fun k=>a*((bin n k:Int)*(a^k*b^(n-k)))+(bin n (k+1):Int)*(a^(k+1)*b^(n-k))) (n+1):=
      Qbd _ fun k _=>by
        have e:n+1-(k+1)=n-k:=by omega
        rw [e,bin,Int.natCast_add,Int.add_mul,Ql5];congr 1;rw [Int.mul_assoc,Int.mul_left_comm]
    rw [h1,Qti,Qdf,ih];have h2:sm (fun k=>(bin n (k+1):Int)*(a^(k+1)*b^(n-k))) (n+1)=sm (fun k=>b*((bin n (k+1):Int)*(a^(k+1)*b^(n-(k+1))))) n:=by
      rw [sm,Q5j (Nat.lt_succ_self n),Int.natCast_zero,Int.zero_mul,Int.add_zero];refine Qbd _ fun k hk=> ?_;have e:n-k=(n-(k+1))+1:=by omega
      rw [e,Ql5 b];simp only [Int.mul_comm,Int.mul_left_comm,Int.mul_assoc]
    have h3:=Qji (fun k=>(bin n k:Int)*(a^k*b^(n-k))) n;rw [ih]at h3;rw [h2,Qdf,Qgn];rw [Qgn]at h3;simp only [Int.pow_zero,Int.one_mul,Nat.sub_zero,Int.natCast_one]at h3 ⊢;rw [Ql5,Ql5,Int.add_mul,h3];simp only [Int.mul_add];omega

/-! ### polynomials by their values -/
/-- A polynomial at x/y,times y to the power of its degree. -/
def hev:List Int→Int→Int→Int
  | [],_,_=>0
  |c::r,x,y=>c*y^r.length+x*hev r x y
theorem Qim: ∀(p:List Int) (x y:Int),hev p x y=sm (fun i=>p.getD i 0*(x^i*y^(p.length-1-i))) p.length
  | [],_,_=>rfl
  |c::r,x,y=>by
    rw [hev,List.length_cons,Qji,Qim r x y,←Qdf];congr 1
    · simp
    · refine Qbd _ fun i hi=> ?_;have e:r.length+1-1-(i+1)=r.length-1-i:=by omega
      rw [e,Ql5,List.getD_cons_succ];simp only [Int.mul_comm,Int.mul_left_comm,Int.mul_assoc]
/-- Lists of equal length with equal values are equal. -/
theorem Qdo: ∀{p q:List Int},p.length=q.length→(∀x:Int,1≤x→hev p x 1=hev q x 1)→p=q
  | [],[],_,_=>rfl
  | [],_::_,h,_=>by simp at h
  |_::_,[],h,_=>by simp at h
  |a::p,b::q,hl,h=>by
    simp only [hev,Int.one_pow,Int.mul_one]at h;have hab:a=b:=by
      have h1:=h ((a-b).natAbs+1) (by omega);generalize hev p _ 1=A at h1;generalize hev q _ 1=B at h1;have h2:a-b=(((a-b).natAbs:Int)+1)*(B-A):=by rw [Int.mul_sub];omega
      have h3:(((a-b).natAbs:Int)+1)∣(a-b):=⟨_,h2⟩;have h4:=Int.natAbs_dvd_natAbs.2 h3;rcases Nat.eq_zero_or_pos (a-b).natAbs with h0|h0
      · omega
      · have:=Nat.le_of_dvd h0 h4;omega
    subst hab;congr 1;refine Qdo (by simpa using hl) fun x hx=> ?_;have h1:=h x hx;have h2:x*hev p x 1=x*hev q x 1:=by omega
    exact Int.eq_of_mul_eq_mul_left (by omega) h2
/-- A list of sums of products,at two values. -/
theorem Qmn (F:Nat→Int) (n:Nat) (x y:Int):hev ((List.range (n+1)).map F) x y=sm (fun j=>F j*(x^j*y^(n-j))) (n+1):=by
  rw [Qim];simp only [List.length_map,List.length_range];refine Qbd _ fun j hj=> ?_;rw [List.getD_eq_getElem?_getD];simp [hj]

/-- The list whose value at x,y is the sum of f i x^i (c x+y)^(n-i). -/
def trans (f:List Int) (c:Int) (n:Nat):List Int:=(List.range (n+1)).map fun j=>sm (fun i=>f.getD i 0*(c^(j-i)*(bin (n-i) (j-i):Int))) (j+1)
theorem Qfq (f:List Int) (c:Int) (n:Nat):(trans f c n).length=n+1:=by simp [trans]
theorem Qrh (a b:Int): ∀n:Nat,(a*b)^n=a^n*b^n
  |0=>by simp
  |n+1=>by rw [Ql5,Ql5,Ql5,Qrh a b n];simp only [Int.mul_comm,Int.mul_left_comm,Int.mul_assoc]
theorem Qi0 (c:Int) (f:Nat→Int) (n:Nat):sm (fun i=>f i*c) n=sm f n*c:=by
  rw [Int.mul_comm,←Qdf];exact Qbd n fun i _=>Int.mul_comm _ _
theorem Q5k (f:List Int) (c:Int) (n:Nat) (x y:Int):hev (trans f c n) x y=sm (fun i=>f.getD i 0*(x^i*(c*x+y)^(n-i))) (n+1):=by
  rw [trans,Qmn];have h1:sm (fun j=>sm (fun i=>f.getD i 0*(c^(j-i)*(bin (n-i) (j-i):Int))) (j+1)*(x^j*y^(n-j))) (n+1)
      =sm (fun j=>sm (fun i=>f.getD i 0*(c^(j-i)*(bin (n-i) (j-i):Int))*(x^j*y^(n-j))) (j+1)) (n+1):=
    Qbd _ fun j _=>(Qi0 _ _ _).symm
  rw [h1,Q5g (fun i j=>f.getD i 0*(c^(j-i)*(bin (n-i) (j-i):Int))*(x^j*y^(n-j)))];refine Qbd _ fun i hi=> ?_;have e:n+1-i=(n-i)+1:=by omega
  rw [←Qnh (c*x) y (n-i),e,←Qdf,←Qdf];refine Qbd _ fun k hk=> ?_;have e1:i+k-i=k:=by omega
  have e2:n-(i+k)=n-i-k:=by omega
  rw [e1,e2,Qrh,Int.pow_add];simp only [Int.mul_comm,Int.mul_left_comm,Int.mul_assoc]
theorem Zpv {f:List Int} {n:Nat} (h:f.length≤n+1) (x s:Int):sm (fun i=>f.getD i 0*(x^i*s^(n-i))) (n+1)=s^(n+1-f.length)*hev f x s:=by
  rw [Q5f _ h (fun i h1 _=>by rw [List.getD_eq_getElem?_getD,List.getElem?_eq_none h1];simp),Qim,←Qdf];refine Qbd _ fun i hi=> ?_;have e:n-i=(n+1-f.length)+(f.length-1-i):=by omega
  rw [e,Int.pow_add];simp only [Int.mul_comm,Int.mul_left_comm,Int.mul_assoc]
theorem Q1c {f:List Int} {n:Nat} (h:f.length≤n+1) (c x y:Int):hev (trans f c n) x y=(c*x+y)^(n+1-f.length)*hev f x (c*x+y):=by
  rw [Q5k,Zpv h]
theorem Qf9 {f:List Int} {n:Nat} (h:f.length=n+1) (c x y:Int):hev (trans f c n) x y=hev f x (c*x+y):=by
  rw [Q1c (by omega),h,Nat.sub_self,Int.pow_zero,Int.one_mul]
/-- Each value times a power. -/
def Zwn (b:Int) (n:Nat) (f:List Int):List Int:=(List.range (n+1)).map fun j=>f.getD j 0*b^(n-j)
end Go.Dg

namespace Go.Proofs.YtcaffiaempefjaaGreatDoor
open Go.Vl Go.RowKit Go.Dg
theorem Qp5 {x y:Int} {B:Nat} (hx:x.natAbs<2^B) (hy:y.natAbs<2^B):(x+y).natAbs<2^(B+1):=by
 rw [Nat.pow_succ];generalize 2^B=K at*;omega
theorem Qip {x y:Int} {B C:Nat} (hx:x.natAbs<2^B) (hy:y.natAbs<2^C):(x*y).natAbs<2^(B+C):=by
 rw [Int.natAbs_mul,Nat.pow_add];exact Nat.mul_lt_mul'' hx hy
theorem Zok {x:Int} {B:Nat} (hx:x.natAbs<2^B):(-x).natAbs<2^B:=by rw [Int.natAbs_neg];exact hx
theorem Zol {x:Int} (h:x.natAbs<2^65536):(digs 256 x.natAbs).length≤8192:=(Qam (by decide) x.natAbs 8192).2 (Qnf (k:=8192) h (by decide))
theorem Qh3 {n:Int} (h:n.natAbs<2^65536):Qf2 n= .tup [wPV n,.int .i64 0]:=by
 rw [Qf2,if_neg (Nat.not_lt.2 (Qdh 65536 _ h))]
abbrev mB (x:Int):ByteArray:=⟨(magL x.natAbs).toArray⟩
theorem Qb4 {x:Int} (h:x.natAbs<2^65536):(mB x).size≤100000:=by rw [Qnr];have:=Zol h;omega
theorem Qch {x:Int} (h:x.natAbs<2^65536):Qba (decide (x<0)) (mB x).data.toList=true:=Qi9 x (Zol h)
theorem Qn2 (x:Int):(bnum (mB x).data.toList)=x.natAbs:=by
 have h:=Qbk x;unfold wnum at h;have h2:=congrArg Int.natAbs h
 rwa [Zcl]at h2
theorem Zom {x y:Int} (hx:x.natAbs<2^65536) (hy:y.natAbs<2^65536):Qaf Tryz.prog 125 [wPV x,wPV y] (Qf2 (x*y)):=by
 have h:=Zyl (decide (x<0)) (decide (y<0)) (mB x) (mB y) (Qch hx) (Qch hy) (Qb4 hx) (Qb4 hy)
 rwa [Qbk,Qbk]at h
theorem Zon {x y:Int} (hx:x.natAbs<2^65536) (hy:y.natAbs<2^65536):Qaf Tryz.prog 126 [wPV x,wPV y] (Qf2 (x+y)):=by
 have h:=Zyg (decide (x<0)) (decide (y<0)) (mB x) (mB y) (Qch hx) (Qch hy) (Qb4 hx) (Qb4 hy)
 rwa [Qbk,Qbk]at h
theorem Zxl {x y:Int} (hx:x.natAbs<2^65536) (hy:y.natAbs<2^65536):Qaf Tryz.prog 87 [wPV x,wPV y] (Qf2 ((Nat.gcd x.natAbs y.natAbs:Nat):Int)):=by
 have h:=Zym (decide (x<0)) (decide (y<0)) (mB x) (mB y) (Qch hx) (Qch hy) (Qb4 hx) (Qb4 hy)
 rwa [Qn2,Qn2]at h
theorem Q7g {x:Int} (hx:x.natAbs<2^65536):Qaf Tryz.prog 97 [wPV x] (.int .i64 x.sign):=by
 have h:=Qxj (decide (x<0)) (mB x) (Qch hx) (Qb4 hx)
 rwa [Qbk]at h
theorem Zxm {x:Int} (hx:x.natAbs<2^65536):Qaf Tryz.prog 123 [wPV x] (.int .i64 (blen x.natAbs:Int)):=by
 have h:=Zyj (decide (x<0)) (mB x) (Qch hx) (Qb4 hx)
 rwa [Qn2]at h
theorem Qll {x:Int} (hx:x.natAbs<2^65536):Qaf Tryz.prog 59 [wPV x] (Qdy x):=by
 have h:=Zyi (decide (x<0)) (mB x) (Qch hx) (Qb4 hx)
 rwa [Qbk]at h
theorem Qp6 {x y:Int} (hx:x.natAbs<2^65536) (hy:y.natAbs<2^65536):Qaf Tryz.prog 58 [wPV x,wPV y] (.int .i64 (x-y).sign):=by
 have h:=Q3f (decide (x<0)) (decide (y<0)) (mB x) (mB y) (Qch hx) (Qch hy) (Qb4 hx) (Qb4 hy)
 rwa [Qbk,Qbk]at h
theorem Qmr {x:Int} (hx:x.natAbs<2^65536):Qaf Tryz.prog 94 [wPV x] (.bool true):=by
 have h:=Qgy (decide (x<0)) (mB x)
 rwa [Qch hx]at h
theorem Zrh {x:Int} (h:x≠0):(mB x).data.toList≠ []:=fun e=>h ((Qmu x).1 e)
theorem Zxn {x y:Int} (hx:x.natAbs<2^65536) (hy:y.natAbs<2^65536) (h0:y≠0):Qaf Tryz.prog 88 [wPV x,wPV y] (Zmo x y):=by
 have h:=Zyo (decide (x<0)) (decide (y<0)) (mB x) (mB y) (Qch hx) (Qch hy) (Zrh h0) (Qb4 hx) (Qb4 hy)
 rwa [Qbk,Qbk]at h
theorem Qud {x y:Int} (hx:x.natAbs<2^65536) (hy:y.natAbs<2^65536) (h0:0<y):vRat (decide (x<0)) (mB x) (decide (y<0)) (mB y)=true:=by
 unfold vRat;rw [Qch hx,Qch hy,Qmt (Zrh (show y≠0 by omega))];have:decide (y<0)=false:=by simp;omega
 rw [this];rfl
theorem Qwr {a b c d:Int} (ha:a.natAbs<2^65536) (hb:b.natAbs<2^65536) (hc:c.natAbs<2^65536) (hd:d.natAbs<2^65536) (b0:0<b) (d0:0<d):
  Qaf Tryz.prog 113 [Qd8 a b,Qd8 c d] (outQ (Zmq a b c d) (Zmr a b c d)):=by
 have h:=Qxk (decide (a<0)) (decide (b<0)) (decide (c<0)) (decide (d<0)) (mB a) (mB b) (mB c) (mB d) (Qud ha hb b0) (Qud hc hd d0) (Qb4 ha) (Qb4 hb) (Qb4 hc) (Qb4 hd)
 rwa [Qbk,Qbk,Qbk,Qbk]at h
theorem Qws {a b c d:Int} (ha:a.natAbs<2^65536) (hb:b.natAbs<2^65536) (hc:c.natAbs<2^65536) (hd:d.natAbs<2^65536) (b0:0<b) (d0:0<d):
  Qaf Tryz.prog 114 [Qd8 a b,Qd8 c d] (outQ (lowN (a*c) (b*d)) (lowD (a*c) (b*d))):=by
 have h:=Qxl (decide (a<0)) (decide (b<0)) (decide (c<0)) (decide (d<0)) (mB a) (mB b) (mB c) (mB d) (Qud ha hb b0) (Qud hc hd d0) (Qb4 ha) (Qb4 hb) (Qb4 hc) (Qb4 hd)
 rwa [Qbk,Qbk,Qbk,Qbk]at h
theorem Zf0 {a b:Int} (ha:a.natAbs<2^65536) (hb:b.natAbs<2^65536) (b0:0<b):Qaf Tryz.prog 115 [Qd8 a b] (Qf2 (a/b)):=by
 have h:=Zms (decide (a<0)) (decide (b<0)) (mB a) (mB b) (Qud ha hb b0) (Qb4 ha) (Qb4 hb)
 rwa [Qbk,Qbk]at h
theorem Qwt {x:Int} {B k:Nat} (h:x.natAbs<2^B) (hk:B≤8*k):(digs E9 x.natAbs).length≤k:=(Qzy x k (Qnf h hk)).1
theorem Z0n {x:Int} {B k:Nat} (h:x.natAbs<2^B) (hk:B≤8*k):(digs 256 x.natAbs).length≤k:=(Qzy x k (Qnf h hk)).2
theorem Zf1 {x:Int} (h:x.natAbs<2^8000000):Qaf Tryz.prog 27 [rI x] (wPV x):=Zz1 x (Qwt h (by decide)) (Nat.le_trans (Z0n h (k:=1000000) (by decide)) (by decide))
theorem Qzu {x y:Int} (hx:x.natAbs<2^7000000) (hy:y.natAbs<2^7000000):Qaf Tryz.prog 22 [rI x,rI y] (rI (x+y)):=
 Q6b x y (Zot (k:=1000000) (by decide) (Qnf (k:=1000000) hx (by decide)) (Qnf (k:=1000000) hy (by decide)))
theorem Qiq {x y:Int} (hx:x.natAbs<2^7000000) (hy:y.natAbs<2^7000000):Qaf Tryz.prog 23 [rI x,rI y] (rI (x*y)):=
 Qze x y (by have:=Qwt hx (k:=1000000) (by decide);have:=Qwt hy (k:=1000000) (by decide);omega)
theorem Zoo {x y:Int} (hx:x.natAbs<2^7000000) (hy:y.natAbs<2^7000000) (h0:y≠0):Qaf Tryz.prog 54 [rI x,rI y] (.tup [rI (x/y),rI (x%y)]):=
 Zwv x y h0 (Qwt hx (by decide)) (Qwt hy (by decide))
theorem Q7h {x y:Int} (hx:x.natAbs<2^7000000) (hy:y.natAbs<2^7000000):Qaf Tryz.prog 53 [rI x,rI y] (rI ((Nat.gcd x.natAbs y.natAbs:Nat):Int)):=
 Zww x y (Qwt hx (by decide)) (Qwt hy (by decide))
theorem Qgc {x y:Int} (hx:x.natAbs<2^7000000) (hy:y.natAbs<2^7000000):Qaf Tryz.prog 69 [rI x,rI y] (.int .i64 (x-y).sign):=
 Q1k x y (Zot (k:=1000000) (by decide) (Qnf (k:=1000000) hx (by decide)) (Qnf (k:=1000000) hy (by decide)))
def wA (p:Bool×ByteArray):PV:= .agg [.bool p.1,.str p.2]
theorem Zop (l:List (Bool×ByteArray)) (i:Nat) (h:i<l.length):(l.map wA)[i]? =some (.agg [.bool l[i].1,.str l[i].2]):=by
 rw [List.getElem?_map,List.getElem?_eq_getElem h];rfl
theorem Zxo (a b:ByteArray):(a==b)=(a.data==b.data):=rfl
def wL (xs:List Int):PV:= .slc (xs.map wPV)
def rL (xs:List Int):PV:= .slc (xs.map rI)
theorem Qdu (xs:List Int) (i:Nat) (h:i<xs.length):(xs.map wPV)[i]? =some (.agg [.bool (decide (xs[i]<0)),.str (mB xs[i])]):=by
 rw [List.getElem?_map,List.getElem?_eq_getElem h];rfl
theorem Zoq (xs:List Int) (i:Nat) (h:i<xs.length):(xs.map rI)[i]? =some (.agg [.bool (decide (xs[i]<0)),di (digs E9 xs[i].natAbs)]):=by
 rw [List.getElem?_map,List.getElem?_eq_getElem h];rfl
theorem Zri (xs:List Int):(((xs.map wPV).flatMap PV.cells).all PV.okCell)=true:=by
 rw [List.all_flatMap,List.all_map,List.all_eq_true];intro _ _;rfl
theorem Zxp (xs:List Int):(((xs.map rI).flatMap PV.cells).all PV.okCell)=true:=by
 rw [List.all_flatMap,List.all_map,List.all_eq_true];intro _ _;rfl
theorem Qzv {α:Type} {p:α→Bool} {l:List α} {i:Nat} (hi:i<l.length) (h:(l.take i).all p=true) (hp:p l[i]=true):(l.take (i+1)).all p=true:=by
 rw [List.take_add_one,List.all_append,h];simp [hi,hp]
theorem Qwu {α:Type} {p:α→Bool} {l:List α} {i:Nat} (hi:i<l.length) (hp:p l[i]=false):l.all p=false:=by
 rw [List.all_eq_false];exact⟨l[i],List.getElem_mem hi,by simp [hp]⟩
theorem Qbq {α:Type} (l:List α) (i:Nat) (hi:i<l.length):l.take (i+1)=l.take i++[l[i]]:=by rw [List.take_add_one];simp [hi]
theorem ltT {i n:Nat} (h:i<n):((i:Int)<(n:Int))=True:=by simp only [eq_iff_iff,iff_true];omega
theorem ltF {i n:Nat} (h: ¬i<n):((i:Int)<(n:Int))=False:=by simp only [eq_iff_iff,iff_false];omega
theorem leT {i n:Nat} (h:i≤n):((i:Int)≤(n:Int))=True:=by simp only [eq_iff_iff,iff_true];omega
theorem leF {i n:Nat} (h: ¬i≤n):((i:Int)≤(n:Int))=False:=by simp only [eq_iff_iff,iff_false];omega
theorem nnT (i:Nat):((0:Int)≤(i:Int))=True:=by simp
def topB (l:List (Bool×ByteArray)):Bool:=match l[l.length-1]? with
 |some p=>decide (0<p.2.size)
 |none=>true
def Qzw (l:List (Bool×ByteArray)):Bool:=l.all fun p=>Qba p.1 p.2.data.toList
def Qwv (l:List (Bool×ByteArray)):Bool:=Qzw l&&(decide (l.length≤25)&&topB l)
theorem Que {l:List (Bool×ByteArray)} (h:l.length-1<l.length):topB l=decide (0<(l[l.length-1]'h).2.size):=by
 unfold topB;rw [List.getElem?_eq_getElem h]
theorem Zf2 (l:List (Bool×ByteArray)) (hl:l.length≤100000) (hs2: ∀p∈l,p.2.size≤100000):Qaf Tryz.prog 96 [.slc (l.map wA)] (.bool (Qwv l)):=by
 refine Qab (tb:=[]) 33 [.tmp 2] [0,2,4,5,6,7,8,13] mixed Tryz.func96 rfl (by kernel_rfl) ?_;simp -implicitDefEqProofs only [go_sem,seval,List.length_map];refine Qat mixed (fun i:{i:Nat // i≤l.length∧(l.take i).all (fun p=>Qba p.1 p.2.data.toList)=true}=>St.of [(0,.slc (l.map wA)),(5,.slc (l.map wA)),(6,.int .i64 (l.length:Int)),(7,.int .i64 (i.1:Int))] []) (fun i=>l.length-i.1) ⟨0,Nat.zero_le _,rfl⟩ ?_ ?_
 ·exact Qa5 (by simp [Qae,lkp,ren1,ren0])
 ·rintro⟨i,hi,hall⟩;by_cases hA:i<l.length
  ·have hA':=ltT hA;have h0:=nnT i;have hg:=Zop l i hA;have hwk:=Qai (a:=i) (by omega);simp -implicitDefEqProofs only [go_sem,seval,hA',h0,hg,Int.toNat_natCast];refine Qag _ _ _ _ _ _ _ _ _ (Qgy l[i].1 l[i].2) ?_;cases hs:Qba l[i].1 l[i].2.data.toList with
   |true=>
    simp -implicitDefEqProofs only [go_sem,seval,hwk];exact⟨⟨i+1,hA,Qzv hA hall hs⟩,by simp only;omega,Qa5 (by simp [Qae,lkp,ren1,ren0])⟩
   |false=>
    have e:Qwv l=false:=by unfold Qwv Qzw;rw [Qwu hA hs];rfl
    simp -implicitDefEqProofs only [go_sem,seval,e]
  ·have hA':=ltF hA;rw [List.take_of_length_le (by omega)]at hall;have e0:Qwv l=(decide (l.length≤25)&&topB l):=by unfold Qwv Qzw;rw [hall,Bool.true_and]
   rw [e0];by_cases h25:l.length≤25
   ·have h25':((l.length:Int)≤25)=True:=by simp only [eq_iff_iff,iff_true];omega
    rw [decide_eq_true h25,Bool.true_and];by_cases hz:l.length=0
    ·have hz':((l.length:Int)==0)=true:=by rw [hz];rfl
     have ht:topB l=true:=by rw [List.length_eq_zero_iff.1 hz];rfl
     repeat simp -implicitDefEqProofs only [go_sem,seval,hA',h25',hz',ht,List.length_map]
    ·have hz':((l.length:Int)==0)=false:=by simp only [beq_eq_false_iff_ne,ne_eq];omega
     have hlt:l.length-1<l.length:=by omega
     have hg:=Zop l (l.length-1) hlt;have hwm:IntKind.i64.wrap ((l.length:Int)-1)=((l.length-1:Nat):Int):=by rw [Qah (by omega) (by omega)];omega
     have h0:=nnT (l.length-1);have hv:=List.all_eq_true.1 hall _ (List.getElem_mem hlt);have hsg:=Qxj l[l.length-1].1 l[l.length-1].2 hv (hs2 _ (List.getElem_mem hlt));have e5:((wnum l[l.length-1].1 l[l.length-1].2).sign != 0)=topB l:=by
      rw [Que hlt,bne,Bool.eq_iff_iff];simp only [Bool.not_eq_true',beq_eq_false_iff_ne,ne_eq,Int.sign_eq_zero_iff_zero,decide_eq_true_eq];rw [Qiy];constructor
      ·intro h;refine Nat.pos_of_ne_zero fun e=>h ?_;exact Zfc (List.length_eq_zero_iff.1 e)
      ·intro h;exact Zql hv (fun e=>by rw [e]at h;exact absurd h (by decide))
     repeat (first|simp -implicitDefEqProofs only [go_sem,seval,hA',h25',hz',hwm,h0,hg,e5,List.length_map,Int.toNat_natCast]|(with_reducible refine Qaa hsg ?_ ?_ ?_);rfl;rfl)
   ·have h25':((l.length:Int)≤25)=False:=by simp only [eq_iff_iff,iff_false];omega
    rw [decide_eq_false h25,Bool.false_and];repeat simp -implicitDefEqProofs only [go_sem,seval,hA',h25',List.length_map]
end Go.Proofs.YtcaffiaempefjaaGreatDoor

namespace Go.Dg
def fitQ (k:Nat) (q:Rat):Prop:=q.num.natAbs<2^k∧q.den<2^k
theorem fitQ.mono {k l:Nat} {q:Rat} (h:fitQ k q) (hk:k≤l):fitQ l q:=
 ⟨Nat.lt_of_lt_of_le h.1 (Nat.pow_le_pow_right (by decide) hk),Nat.lt_of_lt_of_le h.2 (Nat.pow_le_pow_right (by decide) hk)⟩
theorem Znv {k:Nat} {n:Int} {d:Nat} (h1:n.natAbs<2^k) (h2:d<2^k) (hd:d≠0):fitQ k (mkRat n d):=by
 refine⟨?_,?_⟩
 ·rw [Rat.num_mkRat,if_neg hd];exact Nat.lt_of_le_of_lt (Int.natAbs_ediv_le_natAbs _ _) h1
 ·rw [Rat.den_mkRat,if_neg hd];exact Nat.lt_of_le_of_lt (Nat.div_le_self _ _) h2
theorem Qqu {k:Nat} {n d:Int} (h1:n.natAbs<2^k) (h2:d.natAbs<2^k) (hd:d≠0):fitQ k ((n:Rat)/(d:Rat)):=by
 rw [←Rat.divInt_eq_div];refine⟨?_,?_⟩
 ·rw [Rat.num_divInt];refine Nat.lt_of_le_of_lt (Int.natAbs_ediv_le_natAbs _ _) (Nat.lt_of_le_of_lt ?_ h1);rw [Int.natAbs_mul];have:d.sign.natAbs≤1:=by
    rcases Int.lt_trichotomy d 0 with h|h|h
    ·rw [Int.sign_eq_neg_one_of_neg h];decide
    ·exact absurd h hd
    ·rw [Int.sign_eq_one_of_pos h];decide
  calc d.sign.natAbs*n.natAbs≤1*n.natAbs:=Nat.mul_le_mul_right _ this
   _=n.natAbs:=Nat.one_mul _
 ·rw [Rat.den_divInt,if_neg hd];exact Nat.lt_of_le_of_lt (Nat.div_le_self _ _) h2
theorem Qdi {k l:Nat} {x y:Rat} (h1:fitQ k x) (h2:fitQ l y):fitQ (k+l) (x*y):=by
 rw [Rat.mul_def'];refine Znv ?_ ?_ (Nat.mul_ne_zero x.den_nz y.den_nz)
 ·rw [Int.natAbs_mul,Nat.pow_add];exact Nat.mul_lt_mul'' h1.1 h2.1
 ·rw [Nat.pow_add];exact Nat.mul_lt_mul'' h1.2 h2.2
theorem Zpc {k l:Nat} {x y:Rat} {n:Int} (hn:n.natAbs≤x.num.natAbs*y.den+y.num.natAbs*x.den) (h1:fitQ k x) (h2:fitQ l y):fitQ (k+l+1) (mkRat n (x.den*y.den)):=by
 refine Znv ?_ ?_ (Nat.mul_ne_zero x.den_nz y.den_nz)
 ·have e1:x.num.natAbs*y.den<2^(k+l):=by rw [Nat.pow_add];exact Nat.mul_lt_mul'' h1.1 h2.2
  have e2:y.num.natAbs*x.den<2^(k+l):=by rw [Nat.pow_add,Nat.mul_comm (2^k)];exact Nat.mul_lt_mul'' h2.1 h1.2
  rw [Nat.pow_succ];omega
 ·have e2:x.den*y.den<2^(k+l):=by rw [Nat.pow_add];exact Nat.mul_lt_mul'' h1.2 h2.2
  rw [Nat.pow_succ];omega
theorem Qhc {k l:Nat} {x y:Rat} (h1:fitQ k x) (h2:fitQ l y):fitQ (k+l+1) (x+y):=by
 rw [Rat.add_def'];refine Zpc ?_ h1 h2;refine Nat.le_trans (Int.natAbs_add_le _ _) ?_;rw [Int.natAbs_mul,Int.natAbs_mul];simp
def qs (f:Nat→Rat):Nat→Rat
 |0=>0
 |n+1=>qs f n+f n
theorem Qyn {k:Nat} {f:Nat→Rat}: ∀(n:Nat),(∀i,i<n→fitQ k (f i))→fitQ (n*(k+1)+1) (qs f n)
 |0,_=>⟨by show(0:Int).natAbs<2^(0*(k+1)+1);simp,by show 1<2^(0*(k+1)+1);simp⟩
 |n+1,h=>(Qhc (Qyn n fun i hi=>h i (by omega)) (h n (Nat.lt_succ_self _))).mono (by rw [Nat.succ_mul];omega)
def upQ (x:Rat):Int:= -((-x).num/((-x).den:Int))
theorem Qd1 (x:Rat):0≤x*x:=by
 rcases Rat.le_total (a:=0) (b:=x)with h|h
 ·exact Rat.mul_nonneg h h
 ·have:=Rat.neg_le_neg h;have:=Rat.mul_nonneg (a:= -x) (b:= -x) (by simpa using this) (by simpa using this)
  grind
theorem Qig {x K:Rat} (h1: -K≤x) (h2:x≤K):x*x≤K*K:=by
 have e1:0≤K-x:=by grind
 have e2:0≤K+x:=by grind
 have:=Rat.mul_nonneg e1 e2
 grind
theorem Qtb (x1 x2 x3 x4 x5:Rat):(x1+x2+x3+x4+x5)*(x1+x2+x3+x4+x5)≤
  x1*x1+x2*x2*(4/3)+x3*x3*(9/5)+x4*x4*(16/7)+x5*x5*(25/9)+2*(x1*x2+x1*x3+x1*x4+x1*x5)+x2*x3*3+x2*x4*(16/5)+x2*x5*(10/3)
   +x3*x4*4+x3*x5*(30/7)+x4*x5*5:=by
 have h1:=Qd1 (2*x2+3*x3+18/5*x4+4*x5);have h2:=Qd1 (3*x3+6*x4+60/7*x5);have h3:=Qd1 (4*x4+10*x5);have h4:=Qd1 (5*x5)
 grind
theorem Zv3 {a1 d0 K:Rat} (e0:d0=a1*1) (h0: -K≤d0∧d0≤K):a1*a1*1≤1*(K*K):=by
 have s0:=Qig h0.1 h0.2;have key:a1*a1*1+(0)=1*(d0*d0):=by subst e0;grind
 clear e0 h0
 grind
theorem Zv4 {a1 a2 d0 d1 K:Rat} (e0:d0=a1*(1/2)) (e1:d1=a1*(1/2)+a2*1) (h0: -K≤d0∧d0≤K) (h1: -K≤d1∧d1≤K):a1*a1*1+a1*a2*1+a2*a1*1+a2*a2*(4/3)≤4*(K*K):=by
 have s0:=Qig h0.1 h0.2;have s1:=Qig h1.1 h1.2;have q01:=Qd1 (d0-d1);have key:a1*a1*1+a1*a2*1+a2*a1*1+a2*a2*(4/3)+((2/3)*((d0-d1)*(d0-d1)))=2*(d0*d0+d1*d1):=by subst e0 e1;grind
 clear e0 h0 e1 h1
 grind
theorem Zv5 {a1 a2 a3 d0 d1 d2 K:Rat} (e0:d0=a1*(1/3)) (e1:d1=a1*(1/3)+a2*(1/3)) (e2:d2=a1*(1/3)+a2*(2/3)+a3*1) (h0: -K≤d0∧d0≤K) (h1: -K≤d1∧d1≤K) (h2: -K≤d2∧d2≤K):a1*a1*1+a1*a2*1+a1*a3*1+a2*a1*1+a2*a2*(4/3)+a2*a3*(3/2)+a3*a1*1+a3*a2*(3/2)+a3*a3*(9/5)≤9*(K*K):=by
 have s0:=Qig h0.1 h0.2;have s1:=Qig h1.1 h1.2;have s2:=Qig h2.1 h2.2;have q01:=Qd1 (d0-d1);have q02:=Qd1 (d0-d2);have q12:=Qd1 (d1-d2);have key:a1*a1*1+a1*a2*1+a1*a3*1+a2*a1*1+a2*a2*(4/3)+a2*a3*(3/2)+a3*a1*1+a3*a2*(3/2)+a3*a3*(9/5)+((9/10)*((d0-d1)*(d0-d1))+(3/10)*((d0-d2)*(d0-d2))+(9/10)*((d1-d2)*(d1-d2)))=3*(d0*d0+d1*d1+d2*d2):=by subst e0 e1 e2;grind
 clear e0 h0 e1 h1 e2 h2
 grind
theorem Zv6 {a1 a2 a3 a4 d0 d1 d2 d3 K:Rat} (e0:d0=a1*(1/4)) (e1:d1=a1*(1/4)+a2*(1/6)) (e2:d2=a1*(1/4)+a2*(1/3)+a3*(1/4)) (e3:d3=a1*(1/4)+a2*(1/2)+a3*(3/4)+a4*1) (h0: -K≤d0∧d0≤K) (h1: -K≤d1∧d1≤K) (h2: -K≤d2∧d2≤K) (h3: -K≤d3∧d3≤K):a1*a1*1+a1*a2*1+a1*a3*1+a1*a4*1+a2*a1*1+a2*a2*(4/3)+a2*a3*(3/2)+a2*a4*(8/5)+a3*a1*1+a3*a2*(3/2)+a3*a3*(9/5)+a3*a4*2+a4*a1*1+a4*a2*(8/5)+a4*a3*2+a4*a4*(16/7)≤16*(K*K):=by
 have s0:=Qig h0.1 h0.2;have s1:=Qig h1.1 h1.2;have s2:=Qig h2.1 h2.2;have s3:=Qig h3.1 h3.2;have q01:=Qd1 (d0-d1);have q02:=Qd1 (d0-d2);have q03:=Qd1 (d0-d3);have q12:=Qd1 (d1-d2);have q13:=Qd1 (d1-d3);have q23:=Qd1 (d2-d3);have key:a1*a1*1+a1*a2*1+a1*a3*1+a1*a4*1+a2*a1*1+a2*a2*(4/3)+a2*a3*(3/2)+a2*a4*(8/5)+a3*a1*1+a3*a2*(3/2)+a3*a3*(9/5)+a3*a4*2+a4*a1*1+a4*a2*(8/5)+a4*a3*2+a4*a4*(16/7)+((8/7)*((d0-d1)*(d0-d1))+(16/35)*((d0-d2)*(d0-d2))+(4/35)*((d0-d3)*(d0-d3))+(36/35)*((d1-d2)*(d1-d2))+(16/35)*((d1-d3)*(d1-d3))+(8/7)*((d2-d3)*(d2-d3)))=4*(d0*d0+d1*d1+d2*d2+d3*d3):=by subst e0 e1 e2 e3;grind
 clear e0 h0 e1 h1 e2 h2 e3 h3
 grind
theorem Zv7 {a1 a2 a3 a4 a5 d0 d1 d2 d3 d4 K:Rat} (e0:d0=a1*(1/5)) (e1:d1=a1*(1/5)+a2*(1/10)) (e2:d2=a1*(1/5)+a2*(1/5)+a3*(1/10)) (e3:d3=a1*(1/5)+a2*(3/10)+a3*(3/10)+a4*(1/5)) (e4:d4=a1*(1/5)+a2*(2/5)+a3*(3/5)+a4*(4/5)+a5*1) (h0: -K≤d0∧d0≤K) (h1: -K≤d1∧d1≤K) (h2: -K≤d2∧d2≤K) (h3: -K≤d3∧d3≤K) (h4: -K≤d4∧d4≤K):a1*a1*1+a1*a2*1+a1*a3*1+a1*a4*1+a1*a5*1+a2*a1*1+a2*a2*(4/3)+a2*a3*(3/2)+a2*a4*(8/5)+a2*a5*(5/3)+a3*a1*1+a3*a2*(3/2)+a3*a3*(9/5)+a3*a4*2+a3*a5*(15/7)+a4*a1*1+a4*a2*(8/5)+a4*a3*2+a4*a4*(16/7)+a4*a5*(5/2)+a5*a1*1+a5*a2*(5/3)+a5*a3*(15/7)+a5*a4*(5/2)+a5*a5*(25/9)≤25*(K*K):=by
 have s0:=Qig h0.1 h0.2;have s1:=Qig h1.1 h1.2;have s2:=Qig h2.1 h2.2;have s3:=Qig h3.1 h3.2;have s4:=Qig h4.1 h4.2;have q01:=Qd1 (d0-d1);have q02:=Qd1 (d0-d2);have q03:=Qd1 (d0-d3);have q04:=Qd1 (d0-d4);have q12:=Qd1 (d1-d2);have q13:=Qd1 (d1-d3);have q14:=Qd1 (d1-d4);have q23:=Qd1 (d2-d3);have q24:=Qd1 (d2-d4);have q34:=Qd1 (d3-d4);have key:a1*a1*1+a1*a2*1+a1*a3*1+a1*a4*1+a1*a5*1+a2*a1*1+a2*a2*(4/3)+a2*a3*(3/2)+a2*a4*(8/5)+a2*a5*(5/3)+a3*a1*1+a3*a2*(3/2)+a3*a3*(9/5)+a3*a4*2+a3*a5*(15/7)+a4*a1*1+a4*a2*(8/5)+a4*a3*2+a4*a4*(16/7)+a4*a5*(5/2)+a5*a1*1+a5*a2*(5/3)+a5*a3*(15/7)+a5*a4*(5/2)+a5*a5*(25/9)+((25/18)*((d0-d1)*(d0-d1))+(25/42)*((d0-d2)*(d0-d2))+(25/126)*((d0-d3)*(d0-d3))+(5/126)*((d0-d4)*(d0-d4))+(25/21)*((d1-d2)*(d1-d2))+(40/63)*((d1-d3)*(d1-d3))+(25/126)*((d1-d4)*(d1-d4))+(25/21)*((d2-d3)*(d2-d3))+(25/42)*((d2-d4)*(d2-d4))+(25/18)*((d3-d4)*(d3-d4)))=5*(d0*d0+d1*d1+d2*d2+d3*d3+d4*d4):=by subst e0 e1 e2 e3 e4;grind
 clear e0 h0 e1 h1 e2 h2 e3 h3 e4 h4
 grind
end Go.Dg

namespace Go.Proofs.YtcaffiaempefjaaGreatDoor
open Go.Vl Go.RowKit Go.Dg
theorem Zqq {n d:Int} (hd:d≠0):lowN n d=((n:Rat)/(d:Rat)).num∧lowD n d=(((n:Rat)/(d:Rat)).den:Int):=by
 rw [←Rat.divInt_eq_div,Rat.num_divInt,Rat.den_divInt,if_neg hd];have hc:d.gcd n=Nat.gcd n.natAbs d.natAbs:=Nat.gcd_comm _ _;rw [hc];have d1:((Nat.gcd n.natAbs d.natAbs:Nat):Int)∣n:=Int.ofNat_dvd_left.2 (Nat.gcd_dvd_left _ _);have d2:((Nat.gcd n.natAbs d.natAbs:Nat):Int)∣d:=Int.ofNat_dvd_left.2 (Nat.gcd_dvd_right _ _);unfold lowN lowD gN;generalize Nat.gcd n.natAbs d.natAbs=g at*;by_cases h:d<0
 ·rw [if_pos h,Int.sign_eq_neg_one_of_neg h,Int.ediv_neg,Int.ediv_neg,←Int.neg_ediv_of_dvd d1,←Int.neg_ediv_of_dvd d2];refine⟨by rw [Int.neg_mul,Int.one_mul],?_⟩;rw [Int.natCast_ediv];congr 1;omega
 ·rw [if_neg h,Int.sign_eq_one_of_pos (by omega)];refine⟨by rw [Int.one_mul],?_⟩;rw [Int.natCast_ediv];congr 1;omega
def ratQ (q:Rat):PV:=Qd8 q.num (q.den:Int)
theorem Qrr {n d:Int} {k:Nat} (hd:d≠0) (h:fitQ k ((n:Rat)/(d:Rat))) (hk:k≤65536):outQ (lowN n d) (lowD n d)= .tup [ratQ ((n:Rat)/(d:Rat)),.int .i64 0]:=by
 obtain⟨e1,e2⟩:=Zqq (n:=n) hd;rw [e1,e2];refine Qqa ?_;unfold big;have h1:=Qdh k _ h.1;have h2:=Qdh k _ h.2;simp only [Int.natAbs_natCast,Bool.or_eq_false_iff,decide_eq_false_iff_not];omega
theorem Q6d {n:Int} (h1: -9223372036854775808≤n) (h2:n≤9223372036854775807):n.natAbs<2^64:=by omega
theorem Zz2 (n d:Int) (h1: -9223372036854775808≤n) (h2:n≤9223372036854775807) (h3: -9223372036854775808≤d) (h4:d≤9223372036854775807) (h0:d≠0):
  Qaf Tryz.prog 112 [.int .i64 n,.int .i64 d] (.tup [ratQ ((n:Rat)/(d:Rat)),.int .i64 0]):=by
 have h:=Q3h n d h1 h2 h3 h4 h0
 rwa [Qrr h0 (Qqu (Q6d h1 h2) (Q6d h3 h4) h0) (by decide)]at h
theorem den0 (x:Rat):(0:Int)<(x.den:Int):=by have:=x.den_pos;omega
theorem Zn5 (x y:Rat):(x.den:Int)*(y.den:Int)≠0:=Int.ne_of_gt (Int.mul_pos (den0 x) (den0 y))
theorem Zqr (x y:Rat):((x.num*(y.den:Int)+y.num*(x.den:Int):Int):Rat)/((((x.den:Int)*(y.den:Int):Int)):Rat)=x+y:=by
 rw [Rat.add_def',Rat.mkRat_eq_div,←Rat.intCast_natCast,Int.natCast_mul]
theorem Zqs (x y:Rat):((x.num*y.num:Int):Rat)/((((x.den:Int)*(y.den:Int):Int)):Rat)=x*y:=by
 rw [Rat.mul_def',Rat.mkRat_eq_div,←Rat.intCast_natCast,Int.natCast_mul]
theorem Q6e {k:Nat} {x:Rat} (h:fitQ k x) (hk:k≤65536):x.num.natAbs<2^65536∧((x.den:Int)).natAbs<2^65536:=
 ⟨Qav h.1 hk,by rw [Int.natAbs_natCast];exact Qav h.2 hk⟩
theorem Zwy {k l:Nat} {x y:Rat} (hx:fitQ k x) (hy:fitQ l y) (hk:k+l+1≤65536):Qaf Tryz.prog 113 [ratQ x,ratQ y] (.tup [ratQ (x+y),.int .i64 0]):=by
 obtain⟨a1,a2⟩:=Q6e hx (by omega);obtain⟨b1,b2⟩:=Q6e hy (by omega);have h:=Qwr a1 a2 b1 b2 (den0 x) (den0 y);unfold Zmq Zmr at h;have e:=Zqr x y;rw [Qrr (k:=k+l+1) (Zn5 x y) (by rw [e];exact Qhc hx hy) hk,e]at h;exact h
theorem Q6f {k l:Nat} {x y:Rat} (hx:fitQ k x) (hy:fitQ l y) (hk:k+l≤65536):Qaf Tryz.prog 114 [ratQ x,ratQ y] (.tup [ratQ (x*y),.int .i64 0]):=by
 obtain⟨a1,a2⟩:=Q6e hx (by omega);obtain⟨b1,b2⟩:=Q6e hy (by omega);have h:=Qws a1 a2 b1 b2 (den0 x) (den0 y);have e:=Zqs x y;rw [Qrr (k:=k+l) (Zn5 x y) (by rw [e];exact Qdi hx hy) hk,e]at h;exact h
theorem Zfg {k:Nat} {x:Rat} (hx:fitQ k x) (hk:k+1≤65536):Qaf Tryz.prog 115 [ratQ x] (.tup [wPV (x.num/(x.den:Int)),.int .i64 0]):=by
 obtain⟨a1,a2⟩:=Q6e hx (by omega);have h:=Zf0 a1 a2 (den0 x)
 rwa [Qh3 (Nat.lt_of_le_of_lt (Int.natAbs_ediv_le_natAbs _ _) a1)]at h
end Go.Proofs.YtcaffiaempefjaaGreatDoor

namespace Go.Dg
def upto (F:Nat→Int) (N j:Nat):List Int:=(List.range N).map fun m=>if m<j then F m else 0
theorem Qgo (F:Nat→Int) (N j:Nat):(upto F N j).length=N:=by simp [upto]
theorem Q5l (F:Nat→Int) (N:Nat):upto F N 0=List.replicate N 0:=by
 refine List.ext_getElem? fun i=> ?_;simp only [upto,List.getElem?_map,List.getElem?_replicate,Nat.not_lt_zero,if_false];by_cases h:i<N
 ·simp [h]
 ·simp [h]
theorem Qy2 (F:Nat→Int) (N j i:Nat) (h:i<N):(upto F N j)[i]? =some (if i<j then F i else 0):=by
 simp [upto,h]
theorem Zeu (F:Nat→Int) (N j:Nat) (h:j<N):(upto F N j).set j (F j)=upto F N (j+1):=by
 refine List.ext_getElem? fun i=> ?_;rw [List.getElem?_set];by_cases hi:i<N
 ·rw [Qy2 _ _ _ _ hi,Qy2 _ _ _ _ hi,Qgo];by_cases e:j=i
  ·subst e;simp [h]
  ·rw [if_neg e];congr 1;by_cases h1:i<j
   ·rw [if_pos h1,if_pos (by omega)]
   ·rw [if_neg h1,if_neg (by omega)]
 ·have e1:(upto F N j)[i]? =none:=List.getElem?_eq_none (by rw [Qgo];omega);have e2:(upto F N (j+1))[i]? =none:=List.getElem?_eq_none (by rw [Qgo];omega);rw [e1,e2,if_neg (by omega)]
theorem Q5m (F:Nat→Int) (N j:Nat) (h:N≤j):upto F N j=(List.range N).map F:=by
 refine List.map_congr_left fun m hm=> ?_;rw [if_pos (Nat.lt_of_lt_of_le (List.mem_range.1 hm) h)]
theorem Znz {f:Nat→Int} {C:Nat}: ∀(m:Nat),(∀i,i<m→(f i).natAbs≤C)→(sm f m).natAbs≤m*C
 |0,_=>by simp [sm]
 |m+1,h=>by
  have h1:=Znz m (fun i hi=>h i (by omega));have h2:=h m (Nat.lt_succ_self m);rw [sm,Nat.succ_mul];omega
theorem Zev {xs:List Int} {B:Nat} (h: ∀x∈xs,x.natAbs<2^B) (i:Nat):(xs.getD i 0).natAbs<2^B:=by
 rw [List.getD_eq_getElem?_getD];cases e:xs[i]? with
 |none=>exact Nat.pow_pos (by decide)
 |some x=>exact h x (List.mem_of_getElem? e)
theorem Q5n {n k:Nat} (h:k≤n):bin n k*(n-k)=bin n (k+1)*(k+1):=by
 have h1:=Qmm n k;have e:((n-k:Nat):Int)=(n:Int)-(k:Int):=by omega
 rw [←e]at h1;have h2:((bin n (k+1)*(k+1):Nat):Int)=((bin n k*(n-k):Nat):Int):=by rw [Int.natCast_mul,Int.natCast_mul,←h1];rfl
 omega
def Qdp (bl:Nat→Nat) (xs:List Int):Nat:=xs.foldl (fun n x=>if n<bl x.natAbs then bl x.natAbs else n) 0
theorem Q1d (bl:Nat→Nat) (xs:List Int) (x:Int):Qdp bl (xs++[x])=if Qdp bl xs<bl x.natAbs then bl x.natAbs else Qdp bl xs:=by
 rw [Qdp,List.foldl_append];rfl
theorem Qlf (bl:Nat→Nat) (C:Nat): ∀(xs:List Int) (a:Nat),a≤C→(∀x∈xs,bl x.natAbs≤C)→xs.foldl (fun n x=>if n<bl x.natAbs then bl x.natAbs else n) a≤C
 | [],a,ha,_=>ha
 |x::xs,a,ha,h=>by
  rw [List.foldl_cons];refine Qlf bl C xs _ ?_ fun y hy=>h y (by simp [hy]);split
  ·exact h x (by simp)
  ·exact ha
theorem Qy3 {bl:Nat→Nat} {xs:List Int} {C:Nat} (h: ∀x∈xs,bl x.natAbs≤C):Qdp bl xs≤C:=Qlf bl C xs 0 (Nat.zero_le _) h
end Go.Dg

namespace Go.Proofs.YtcaffiaempefjaaGreatDoor
open Go.Vl Go.RowKit Go.Dg
theorem Zfz {a b:Nat} (h:b≤a) (ha:a<9223372036854775808):IntKind.i64.wrap ((a:Int)-(b:Int))=((a-b:Nat):Int):=by rw [Qah (by omega) (by omega)];omega
theorem ne0 (a:Nat):(((a+1:Nat):Int)=0)=False:=by simp only [eq_iff_iff,iff_false];omega
theorem Quc {n i m:Nat} (hn:n≤50) (hm:m≤50):bin n i*m<9223372036854775808:=by
 have h1:=Qhw n i;have h2:2^n≤2^50:=Nat.pow_le_pow_right (by decide) hn;have h3:bin n i*m≤2^50*50:=Nat.mul_le_mul (Nat.le_trans h1 h2) hm;have e:(2:Nat)^50*50=56294995342131200:=rfl;omega
end Go.Proofs.YtcaffiaempefjaaGreatDoor

namespace Go.Vl
def Qlc:PV→PV
 | .nilS=> .slc []
 |v=>v
def Q0x:PV→PV
 | .agg cs=> .agg (cs.map Qlc)
 |v=>Qlc v
theorem Qm0 (v:PV):(Q0x v).cells=v.cells.map Qlc:=by
 cases v<;>rfl
theorem Qpi (l:List PV):(l.map Q0x).flatMap PV.cells=(l.flatMap PV.cells).map Qlc:=by
 induction l with
 |nil=>rfl
 |cons v l ih=>simp only [List.map_cons,List.flatMap_cons,List.map_append,Qm0,ih]
theorem Rep.up {w:World} {im:Im} {v:PV} {u:Value} (h:Rep w im v u):Rep w im (Qlc v) u:=by
 cases v with
 |nilS=>cases h;exact .slcNil 0 (Nat.zero_le _)
 |_=>exact h
theorem LR.up {w:World} {im:Im} {ρ:Rho} {v:PV} {u:Value} (h:LR w im ρ v u):LR w im ρ (Qlc v) u:=by
 cases v with
 |nilS=>rw [h.nilS_inv];exact .ext _ _ (.slcNil 0 (Nat.zero_le _))
 |_=>exact h
theorem RepL.up {w:World} {im:Im}: ∀{vs:List PV} {us:List Value},RepL w im vs us→RepL w im (vs.map Qlc) us
 |_,_,.nil=> .nil
 |_,_,.cons _ _ _ _ h t=> .cons _ _ _ _ h.up t.up
theorem LRL.up {w:World} {im:Im} {ρ:Rho}: ∀{vs:List PV} {us:List Value},LRL w im ρ vs us→LRL w im ρ (vs.map Qlc) us
 |_,_,.nil=> .nil
 |_,_,.cons _ _ _ _ h t=> .cons _ _ _ _ h.up t.up
theorem Qea.up {own:Nat→Prop} {w:World} {im:Im} {ρ:Rho} {B:Box} {x:Option Nat} (h:Qea own w im ρ B x):Qea own w im ρ {B with els:=B.els.map Q0x} x:=by
 cases x with
 |none=>obtain⟨h1,h2,h3,h4⟩:=h;exact⟨by simp [h1],h2,h3,h4⟩
 |some g=>
  obtain⟨h1,h2,h3,h4,cur,us,rest,h5,h6,h7,h8,h9,h10,h11⟩:=h;refine⟨h1,by simpa using h2,h3,?_,cur,us,rest,h5,h6,?_,?_,h9,h10,h11⟩
  ·intro e he;obtain⟨v,hv,rfl⟩:=List.mem_map.1 he;rw [Qm0,List.length_map];exact h4 v hv
  ·simp only [Qpi];exact h7.up
  ·intro ha;simp only [Qpi];exact(h8 ha).up
theorem Zzm {st:St} {b:Nat} {B:Box} (hB:st.box b=some B):Le st (st.setBox b {B with els:=B.els.map Q0x}):=by
 rintro C a w ⟨ρ,im,h⟩;refine⟨ρ,im,h.root,h.nt,h.dfr,h.imc,h.var,?_,?_,?_⟩
 ·intro b';by_cases e:b'=b
  ·subst e;simp [St.setBox,Qaw,h.rho b',hB]
  ·simp [St.setBox,Qar _ _ _ _ e,h.rho b']
 ·intro b' x B' hx hB';by_cases e:b'=b
  ·subst e;simp only [St.setBox,Qaw,Option.some.injEq]at hB';subst hB';exact(h.box b' x B hx hB).up
  ·simp only [St.setBox,Qar _ _ _ _ e]at hB';exact h.box b' x B' hx hB'
 ·have key: ∀b' B',(st.setBox b {B with els:=B.els.map Q0x}).box b'=some B'→ ∃B0,st.box b'=some B0∧B0.live=B'.live:=fun b' B' e=>by
   by_cases y:b'=b
   ·subst y;simp only [St.setBox,Qaw,Option.some.injEq]at e;subst e;exact⟨B,hB,rfl⟩
   ·exact⟨B',by simpa only [St.setBox,Qar _ _ _ _ y]using e,rfl⟩
  intro b1 b2 g B1 B2 g1 g2 e1 e2 l1 l2;obtain⟨C1,x1,y1⟩:=key _ _ e1;obtain⟨C2,x2,y2⟩:=key _ _ e2;exact h.inj b1 b2 g C1 C2 g1 g2 x1 x2 (y1.trans l1) (y2.trans l2)
theorem Qyh {vs:List (Nat×PV)} {bs:List (Nat×Box)} {o:List (List PV)} {y:Yl} (b:Nat) {B:Box} (hB:lkp bs b=some B):
  Le (St.ofG vs bs o y) (St.ofG vs ((b,{B with els:=B.els.map Q0x})::bs) o y):=Zzm (st:=St.ofG vs bs o y) hB
end Go.Vl

namespace Go.Proofs.YtcaffiaempefjaaGreatDoor
open Go.Vl Go.RowKit Go.Dg
theorem rI_z:rI 0= .agg [.bool false,.slc []]:=by simp [rI,di,Qa3]
theorem Qc5 {xs:List Int} {i:Nat} (h:i<xs.length):xs.getD i 0=xs[i]:=by rw [List.getD_eq_getElem?_getD,List.getElem?_eq_getElem h];rfl
end Go.Proofs.YtcaffiaempefjaaGreatDoor
