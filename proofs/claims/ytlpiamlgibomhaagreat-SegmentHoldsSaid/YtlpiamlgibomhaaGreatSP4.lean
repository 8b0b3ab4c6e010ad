/-
  SA11, SA12, SA13, Dq, SP1, SP2, Dr, SN1, Bn, SN2, Ds, SP3, Du, SP4 (merged for the claim).
-/
import Derived.Test.YtlpiamlgibomhaaGreatSW3
import Derived.Test.YtlpiamlgibomhaaGreatUS3
import Derived.Test.YtlpiamlgibomhaaGreatSW32
set_option linter.unusedSimpArgs false
set_option linter.unusedVariables false
namespace Go.Proofs.YtlpiamlgibomhaaGreat
open Go.Vl Go.RowKit Go.Dg
theorem Zkb (r d:Nat) (hd:d<E9):Qda (d::digs E9 r)=digs E9 (r*E9+d):=by
 rw [Ql2 E9_2 (d::digs E9 r) (by
  intro x hx
  rcases List.mem_cons.1 hx with rfl|hx
  ·exact hd
  ·exact Qmp E9_2 hx)]
 congr 1
 simp only [val,Qqm E9_2]
 rw [Nat.mul_comm,Nat.add_comm]
theorem Zbk (V N i:Nat) (hi:i<N) (h:V/E9^i%E9=0):mix E9 0 V N (i+1)=mix E9 0 V N i:=by
 have h1:=Qi1 (B:=E9) (V:=0) (S:=V) (N:=N) (i:=i) (d:=0) hi h
 rw [←h1]
 apply List.ext_getElem?
 intro j
 rw [List.getElem?_set]
 by_cases e:i=j
 ·subst e
  simp only [if_true]
  rw [if_pos (by rw [Qbg];exact hi),Qcr _ _ _ _ _ hi,if_pos (by omega)]
  simp
 ·simp [e]
theorem app1 (d:Nat) (D:List PV) (bx:Bx) (hb:bx 606=none) (h4:bx 604=some {els:=[.int .i64 (d:Int)],esz:=1,ety:=3,fro:=0,live:=true,arr:=true}) (hD:D.length≤1000000000) (hok:D.all (fun e=>e.cells.length==1&&e.cells.all PV.okCell)=true):
  Qa7 Tryz.prog [] 606 (.call ⟨.builtin .append, #[.tmp 26,.tmp 27], #[22,22]⟩) [.bs 604 1 0 1,.slc D] bx=
   some (.done (.bs 606 1 0 (1+D.length)) [.kill 604,.new 606 {els:= .int .i64 (d:Int)::D,esz:=1,ety:=3,fro:=0,live:=true,arr:=true}],[(606,true),(604,true)]):=by
 have c1:((1+D.length)*8≤140737488355328)=True:=by simp only [eq_iff_iff,iff_true];omega
 have c2:(1+D.length≤maxLen)=True:=by simp only [eq_iff_iff,iff_true];unfold maxLen;omega
 skip
 simp -implicitDefEqProofs only [go_sem,Nat.reduceAdd,Nat.reduceLT,hok,c1,c2,hb,h4]
theorem Zkc {P:Program} (id:Nat) (bx:Bx) (fo:Operand) (as0:Array Operand) (ts:Array TypeId) (f b esz len:Nat) (B:Box) (xs:List PV) (hB:bx b=some B) (ha:B.arr=true) (he:B.esz=esz) (hx:B.els=xs) (hl:len=xs.length):
  Qa7 P [] id (.call ⟨.value fo,as0,ts⟩) [.fn f [] [],.bs b esz 0 len] bx=some (.call f [.slc xs] [.fro b len],[(b,false)]):=by
 subst hx;subst hl;subst he
 rw [Zaa]
 have e1:(B.soft.arr&&B.soft.esz==B.esz&&decide (B.els.length≤B.soft.els.length))=true:=by simp [Box.soft,ha]
 have e2:(List.drop 0 B.soft.els).take B.els.length=B.els:=by rw [List.drop_zero];exact List.take_of_length_le (Nat.le_refl _)
 have h0:esc0 (.bs b B.esz 0 B.els.length) bx=some ((.slc B.els,[.fro b B.els.length]),[(b,false)]):=by
  simp only [esc0,M.bind,M.soft,hB,M.ok,Nat.zero_add,e1,if_true,M.pure,List.nil_append,List.append_nil,e2,List.cons_append]
 have h1:Qgl [.bs b B.esz 0 B.els.length] bx=some (([.slc B.els],[.fro b B.els.length]),[(b,false)]):=by
  simp only [Qgl,esc1,escC,M.bind,h0,M.pure,List.nil_append,List.append_nil]
 simp only [M.bind,Qfq,M.pure,h1,List.nil_append,List.append_nil]
set_option maxHeartbeats 1000000 in
theorem Q3m (a b:Nat) (hb:0<b) (ha:(digs E9 a).length≤10000000) (hbl:(digs E9 b).length≤10000000):Qaf Tryz.prog 97 [di (digs E9 a),di (digs E9 b)] (.tup [di (digs E9 (a/b)),di (digs E9 (a%b))]):=by
 refine Qac (tb:=[]) 63 [.tmp 4,.tmp 5] [0,1,4,5,6,7,8,9,10,11,19,33,36,47] mixed Tryz.func97 rfl (by kernel_rfl) (by kernel_rfl) (by kernel_rfl) (by kernel_rfl) ?_
 have hn0:((0:Int)≤((digs E9 a).length:Int))=True:=by simp
 have hn1:((8:Nat):Int)*((digs E9 a).length:Int)≤281474976710656:=by omega
 have hn2:((digs E9 a).length:Int)≤9223372036854775807:=by omega
 have hlt:a<E9^(digs E9 a).length:=Qa1 E9_2 a
 have hw:IntKind.i64.wrap (((digs E9 a).length:Int)-1)=((digs E9 a).length:Int)-1:=Qai (by omega) (by omega)
 simp -implicitDefEqProofs only [go_sem,Nat.reduceAdd,Nat.reduceMul,Nat.reduceEqDiff,Nat.reduceLT,Nat.reduceLeDiff,reduceCtorEq,di,List.length_map,hn0,hn1,hn2,Int.toNat_natCast,hw]
 generalize hN:(digs E9 a).length=N at*
 have hrep:List.replicate N (PV.int .i64 0)=(mix E9 0 (a/b) N N).map fI:=by rw [Ql1,Qso];simp
 rw [hrep]
 refine Qas mixed (fun i:{i:Nat // i≤N}=>St.of [(0,di (digs E9 a)),(1,di (digs E9 b)),(6,.bs 102 1 0 N),(7,di (digs E9 (a/E9^i.1%b))),(8,.int .i64 ((i.1:Int)-1))]
  [(102,{els:=(mix E9 0 (a/b) N i.1).map fI,esz:=1,ety:=3,fro:=0,live:=true,arr:=true})]) (fun i=>i.1) ⟨N,Nat.le_refl _⟩ ?_ ?_
 ·refine Le.trans (Zah 7 rfl) (Qak (θ:=[(102,102)]) rfl ?_ ?_)
  ·simp [Qad,lkp,ren1,ren0,di,Nat.div_eq_of_lt hlt,Qaz]
  ·simp [Qal,lkp,Box.renames]
 ·rintro⟨i,hi⟩
  cases i with
  |zero=>
   have h1:((0:Int)≤((0:Nat):Int)-1)=False:=by simp
   have hll:=Qaj (B:=E9) (a/b) N
   have htk:((lows E9 (a/b) N).map fI).take N=(lows E9 (a/b) N).map fI:=List.take_of_length_le (by simp [hll])
   have e0:a/E9^0%b=a%b:=by rw [Nat.pow_zero,Nat.div_one]
   simp -implicitDefEqProofs only [go_sem,Nat.reduceAdd,Nat.reduceMul,Nat.reduceEqDiff,Nat.reduceLT,Nat.reduceLeDiff,reduceCtorEq,h1,Qhf,List.length_map,hll,htk]
   refine Qag _ _ _ _ _ _ _ _ _ (Qke (lows E9 (a/b) N) (by rw [hll];simp [maxLen];omega)) ?_
   simp -implicitDefEqProofs only [go_sem,Nat.reduceAdd,Nat.reduceEqDiff,Nat.reduceLT,reduceCtorEq,di,e0]
   rw [Qbo E9_2,Nat.mod_eq_of_lt (Nat.lt_of_le_of_lt (Nat.div_le_self _ _) hlt)]
  |succ i=>
   have hs:(((i+1:Nat):Int)-1)=(i:Int):=by omega
   have h1:((0:Int)≤(i:Int))=True:=by simp
   have h2:((i:Int)<(N:Int))=True:=by simp;omega
   have hga:=Qar E9_2 (show i<(digs E9 a).length by omega)
   have e0:a/E9^(i+1)=a/E9^i/E9:=by rw [Nat.pow_succ,Nat.div_div_eq_div_mul]
   obtain⟨s1,s2⟩:=Qo9 (a/E9^i) b E9 (by decide) hb
   have e1:a/E9^i/b=a/b/E9^i:=by rw [Nat.div_div_eq_div_mul,Nat.div_div_eq_div_mul,Nat.mul_comm]
   rw [←e0]at s1 s2
   rw [e1]at s1
   have hset:=Qi1 (B:=E9) (V:=0) (S:=a/b) (N:=N) (i:=i) (d:=a/b/E9^i%E9) (by omega) rfl
   have hsame:=Zbk (a/b) N i (by omega)
   have hml:=Qbg (B:=E9) 0 (a/b) N (i+1)
   obtain⟨e,hgo⟩: ∃e:Nat,((mix E9 0 (a/b) N (i+1)).map fI)[i]? =some (PV.int .i64 (e:Int)):=⟨_,by rw [List.getElem?_map,Qcr _ _ _ _ _ (by omega)];rfl⟩
   have hdl:a/E9^i%E9<E9:=Nat.mod_lt _ (by decide)
   have hrl:a/E9^(i+1)%b<b:=Nat.mod_lt _ hb
   have hup:=Zkb (a/E9^(i+1)%b) (a/E9^i%E9) hdl
   have hL1:(digs E9 (a/E9^(i+1)%b)).length≤10000000:=Nat.le_trans (Qpk (Nat.le_of_lt hrl)) hbl
   have w4:IntKind.i64.wrap ((i:Int)-1)=(i:Int)-1:=Qai (by omega) (by omega)
   generalize a/E9^i%E9=d at*
   generalize a/E9^(i+1)%b=ρ at*
   have ht:=Qke (d::digs E9 ρ) (by rw [List.length_cons];unfold maxLen;omega)
   rw [hup,di,List.map_cons]at ht
   have hL2:(digs E9 (ρ*E9+d)).length≤10000001:=by
    refine Nat.le_trans ((Qap E9_2 _ ((digs E9 b).length+1)).2 ?_) (Nat.succ_le_succ hbl)
    have h5:=Nat.mul_le_mul_right E9 (show ρ+1≤b from hrl)
    have h6:=Nat.mul_lt_mul_of_pos_right (Qa1 E9_2 b) (show 0<E9 by decide)
    rw [Nat.add_mul,Nat.one_mul]at h5
    rw [Nat.pow_succ]
    exact Nat.lt_trans (Nat.lt_of_lt_of_le (Nat.add_lt_add_left hdl _) h5) h6
   have c1:((1+(digs E9 ρ).length)*8≤140737488355328)=True:=by simp only [eq_iff_iff,iff_true];omega
   have c2:(1+(digs E9 ρ).length≤maxLen)=True:=by simp only [eq_iff_iff,iff_true];unfold maxLen;omega
   have hok:((digs E9 ρ).map fI).all (fun e=>e.cells.length==1&&e.cells.all PV.okCell)=true:=by rw [List.all_map,List.all_eq_true];intro _ _;rfl
   have hor:=Qq3 (ρ*E9+d) b (by omega)
   have c3:(1+(digs E9 ρ).length≤(digs E9 ρ).length+1)=True:=by simp only [eq_iff_iff,iff_true];omega
   have c4:List.take (1+(digs E9 ρ).length) (PV.int .i64 (d:Int)::(digs E9 ρ).map fI)=PV.int .i64 (d:Int)::(digs E9 ρ).map fI:=List.take_of_length_le (by rw [List.length_cons,List.length_map,Nat.add_comm];exact Nat.le_refl _)
   generalize hR:ρ*E9+d=R at*
   generalize digs E9 ρ=D at*
   have hap:=fun(bx:Bx) h1 h2=>app1 d (D.map fI) bx h1 h2 (by rw [List.length_map];omega) hok
   rw [List.length_map]at hap
   have hca:=fun(bx:Bx) hB=>Zkc (P:=Tryz.prog) 607 bx (.func 92) #[.tmp 28] #[22] 92 606 1 (1+D.length) {els:= .int .i64 (d:Int)::D.map fI,esz:=1,ety:=3,fro:=0,live:=true,arr:=true} (.int .i64 (d:Int)::D.map fI) hB rfl rfl rfl (by rw [List.length_cons,List.length_map,Nat.add_comm])
   simp -implicitDefEqProofs only [go_sem,Nat.reduceAdd,Nat.reduceMul,Nat.reduceEqDiff,Nat.reduceLT,Nat.reduceLeDiff,reduceCtorEq,di,hs,h1,h2,Qey,hga,Int.toNat_natCast,List.length_map,hap,hca]
   refine Qag _ _ _ _ _ _ _ _ _ ht ?_
   simp -implicitDefEqProofs only [go_sem,Nat.reduceAdd,Nat.reduceMul,Nat.reduceEqDiff,Nat.reduceLT,Nat.reduceLeDiff,reduceCtorEq,di]
   refine Qag _ _ _ _ _ _ _ _ _ hor ?_
   by_cases hc:R<b
   ·have hc':(cmpN R b<0)=True:=by rw [Qqp hc];simp
    have hq0:R/b=0:=Nat.div_eq_of_lt hc
    rw [hq0]at s1
    rw [Nat.mod_eq_of_lt hc]at s2
    simp -implicitDefEqProofs only [go_sem,Nat.reduceAdd,Nat.reduceMul,Nat.reduceEqDiff,Nat.reduceLT,Nat.reduceLeDiff,reduceCtorEq,hc',w4]
    refine⟨⟨i,by omega⟩,by simp only;omega,Qak (θ:=[(102,102)]) rfl ?_ ?_⟩
    ·simp [Qad,lkp,ren1,ren0,di,←s2]
    ·simp [Qal,lkp,Box.renames,hsame s1.symm]
   ·have hc':(cmpN R b<0)=False:=by simp [cmpN];omega
    have hQ:R/b<E9:=by
     rw [Nat.div_lt_iff_lt_mul hb,←hR,Nat.mul_comm E9]
     have:=Nat.mul_le_mul_right E9 (show ρ+1≤b from hrl)
     rw [Nat.add_mul]at this
     omega
    simp -implicitDefEqProofs only [go_sem,Nat.reduceAdd,Nat.reduceMul,Nat.reduceEqDiff,Nat.reduceLT,Nat.reduceLeDiff,reduceCtorEq,hc']
    refine Qas mixed (fun p:{p:Nat×Nat // p.1≤R/b∧R/b≤p.2∧p.2<E9}=>St.of [(0,di (digs E9 a)),(1,di (digs E9 b)),(6,.bs 102 1 0 N),(7,di (digs E9 R)),(8,.int .i64 (i:Int)),(9,.int .i64 (p.1.1:Int)),(10,.int .i64 (p.1.2:Int))]
     [(102,{els:=(mix E9 0 (a/b) N (i+1)).map fI,esz:=1,ety:=3,fro:=0,live:=true,arr:=true})]) (fun p=>p.1.2-p.1.1) ⟨(0,999999999),Nat.zero_le _,by simp only [E9]at hQ;omega,by decide⟩ ?_ ?_
    ·refine Qak (θ:=[(102,102)]) rfl ?_ ?_
     ·simp [Qad,lkp,ren1,ren0,di]
     ·simp [Qal,lkp,Box.renames]
    ·rintro⟨⟨lo,hi⟩,p1,p2,p3⟩
     simp only at p1 p2 p3 ⊢
     simp only [E9]at p3
     by_cases hlh:lo<hi
     ·have g1:((lo:Int)<(hi:Int))=True:=by simp;omega
      have w1:=Qcl (a:=lo) (b:=hi) (by omega)
      have w2:=Qah (a:=lo+hi) (by omega)
      have t2:Int.tdiv ((lo+hi+1:Nat):Int) 2=(((lo+hi+1)/2:Nat):Int):=rfl
      have w3:=wrapn (n:=(lo+hi+1)/2) (by omega)
      generalize hmid:(lo+hi+1)/2=mid at*
      have hsm:=Qxt b mid (by simp only [E9];omega) (by omega)
      have hLb:(digs E9 (b*mid)).length≤1000000000:=by
       refine Nat.le_trans ((Qap E9_2 _ ((digs E9 b).length+1)).2 ?_) (show(digs E9 b).length+1≤1000000000 by omega)
       rw [Nat.pow_succ]
       exact Nat.mul_lt_mul_of_lt_of_le (Qa1 E9_2 b) (show mid≤E9 by simp only [E9];omega) (by decide)
      have ho:=Qq3 (b*mid) R hLb
      have hiff:b*mid≤R↔mid≤R/b:=by rw [Nat.le_div_iff_mul_le hb,Nat.mul_comm]
      simp -implicitDefEqProofs only [go_sem,Nat.reduceAdd,Nat.reduceMul,Nat.reduceEqDiff,Nat.reduceLT,Nat.reduceLeDiff,reduceCtorEq,Int.reduceEq,di,g1,w1,w2,t2,w3]
      refine Qag _ _ _ _ _ _ _ _ _ hsm ?_
      simp -implicitDefEqProofs only [go_sem,Nat.reduceAdd,Nat.reduceEqDiff,Nat.reduceLT,reduceCtorEq,di]
      refine Qag _ _ _ _ _ _ _ _ _ ho ?_
      by_cases hm:b*mid≤R
      ·have g2:(cmpN (b*mid) R≤0)=True:=by simp [cmpN];omega
       have hm2:=hiff.1 hm
       simp -implicitDefEqProofs only [go_sem,Nat.reduceAdd,Nat.reduceMul,Nat.reduceEqDiff,Nat.reduceLT,Nat.reduceLeDiff,reduceCtorEq,g2]
       refine⟨⟨(mid,hi),hm2,p2,by simp only [E9];omega⟩,by simp only;omega,Qak (θ:=[(102,102)]) rfl ?_ ?_⟩
       ·simp [Qad,lkp,ren1,ren0,di]
       ·simp [Qal,lkp,Box.renames]
      ·have g2:(cmpN (b*mid) R≤0)=False:=by simp [cmpN];omega
       have hm2:=mt hiff.2 hm
       have w5:IntKind.i64.wrap ((mid:Int)-1)=((mid-1:Nat):Int):=by rw [Qai (by omega) (by omega)];omega
       simp -implicitDefEqProofs only [go_sem,Nat.reduceAdd,Nat.reduceMul,Nat.reduceEqDiff,Nat.reduceLT,Nat.reduceLeDiff,reduceCtorEq,g2,w5]
       refine⟨⟨(lo,mid-1),p1,by simp only;omega,by simp only [E9];omega⟩,by simp only;omega,Qak (θ:=[(102,102)]) rfl ?_ ?_⟩
       ·simp [Qad,lkp,ren1,ren0,di]
       ·simp [Qal,lkp,Box.renames]
     ·have g1:((lo:Int)<(hi:Int))=False:=by simp;omega
      obtain rfl:lo=R/b:=by omega
      have hsm:=Qxt b (R/b) hQ (by omega)
      have hle:b*(R/b)≤R:=Nat.mul_div_le R b
      have hmi:=Qq4 R (b*(R/b)) hle (by omega)
      have e3:R-b*(R/b)=R%b:=by have:=Nat.div_add_mod R b;omega
      rw [e3,s2]at hmi
      rw [←s1]at hset
      simp -implicitDefEqProofs only [go_sem,Nat.reduceAdd,Nat.reduceMul,Nat.reduceEqDiff,Nat.reduceLT,Nat.reduceLeDiff,reduceIte,reduceCtorEq,g1,di,hs,h1,h2,Int.toNat_natCast,List.length_map,hml,hgo]
      refine Qag _ _ _ _ _ _ _ _ _ hsm ?_
      simp -implicitDefEqProofs only [go_sem,Nat.reduceAdd,Nat.reduceEqDiff,Nat.reduceLT,reduceCtorEq,di]
      refine Qag _ _ _ _ _ _ _ _ _ hmi ?_
      simp -implicitDefEqProofs only [go_sem,Nat.reduceAdd,Nat.reduceMul,Nat.reduceEqDiff,Nat.reduceLT,Nat.reduceLeDiff,reduceCtorEq,di,w4]
      refine⟨⟨i,by omega⟩,by simp only;omega,Qak (θ:=[(102,102)]) rfl ?_ ?_⟩
      ·simp [Qad,lkp,ren1,ren0,di]
      ·rw [Qxq,hset]
       simp [Qal,lkp,Box.renames]
end Go.Proofs.YtlpiamlgibomhaaGreat

namespace Go.Proofs.YtlpiamlgibomhaaGreat
open Go.Vl Go.RowKit Go.Dg
theorem Q3n (a b:Nat):(digs E9 (a*b)).length≤(digs E9 a).length+(digs E9 b).length:=by
 refine(Qap E9_2 _ _).2 ?_
 rw [Nat.pow_add]
 exact Nat.mul_lt_mul'' (Qa1 E9_2 _) (Qa1 E9_2 _)
theorem Qnc (a b k:Nat) (h1:(digs E9 a).length≤k) (h2:(digs E9 b).length≤k):(digs E9 (a+b)).length≤k+1:=by
 rw [Qap E9_2]at h1 h2 ⊢
 rw [Nat.pow_succ]
 generalize E9^k=K at*
 simp only [E9]
 omega
theorem Zkd (x y:Int) (hy:y≠0):(0≤x-Int.tdiv x y*y→Int.tdiv x y=x/y∧x-Int.tdiv x y*y=x%y)∧
  (x-Int.tdiv x y*y<0→(if 0<y then Int.tdiv x y-1 else Int.tdiv x y+1)=x/y∧x-(if 0<y then Int.tdiv x y-1 else Int.tdiv x y+1)*y=x%y):=by
 have h1:y*Int.tdiv x y+Int.tmod x y=x:=Int.mul_tdiv_add_tmod x y
 have h2:=Int.natAbs_tmod x y
 have h3:=Nat.mod_lt x.natAbs (show 0<y.natAbs by omega)
 rw [←h2]at h3
 generalize Int.tdiv x y=q at*
 generalize Int.tmod x y=r at*
 have e:q*y=y*q:=Int.mul_comm _ _
 have key: ∀q' r':Int,r'+y*q'=x→0≤r'→r'<y.natAbs→q'=x/y∧r'=x%y:=by
  intro q' r' a1 a2 a3
  rcases Int.lt_or_gt_of_ne hy with hn|hp
  ·have:=(Int.ediv_emod_unique' (a:=x) (b:=y) (r:=r') (q:=q') hn).2 ⟨a1,a2,by omega⟩
   exact⟨this.1.symm,this.2.symm⟩
  ·have:=(Int.ediv_emod_unique (a:=x) (b:=y) (r:=r') (q:=q') hp).2 ⟨a1,a2,by omega⟩
   exact⟨this.1.symm,this.2.symm⟩
 rw [e]
 constructor
 ·intro h0
  exact key q (x-y*q) (by omega) h0 (by omega)
 ·intro h0
  by_cases hp:0<y
  ·rw [if_pos hp]
   have e2:(q-1)*y=y*q-y:=by rw [Int.sub_mul,Int.one_mul,e]
   have e3:y*(q-1)=y*q-y:=by rw [Int.mul_comm,e2]
   exact key (q-1) (x-(q-1)*y) (by omega) (by omega) (by omega)
  ·rw [if_neg hp]
   have e2:(q+1)*y=y*q+y:=by rw [Int.add_mul,Int.one_mul,e]
   have e3:y*(q+1)=y*q+y:=by rw [Int.mul_comm,e2]
   exact key (q+1) (x-(q+1)*y) (by omega) (by omega) (by omega)
theorem Zke {a b:Nat} (h:a≤b):(digs E9 a).length≤(digs E9 b).length:=Qpk h
theorem Qzn (x y:Int):(if(!(decide (x<0)==decide (y<0)))=true then -((x.natAbs/y.natAbs:Nat):Int)else((x.natAbs/y.natAbs:Nat):Int))=Int.tdiv x y:=by
 cases x with
 |ofNat m=>cases y with
  |ofNat n=>
   have h1: ¬Int.ofNat m<0:=by simp
   have h2: ¬Int.ofNat n<0:=by simp
   simp only [h1,h2,decide_false,beq_self_eq_true,Bool.not_true,Bool.false_eq_true,if_false];rfl
  |negSucc n=>
   have h1: ¬Int.ofNat m<0:=by simp
   have h2:Int.negSucc n<0:=Int.negSucc_lt_zero n
   simp only [h1,h2,decide_false,decide_true,Bool.false_beq,Bool.not_true,Bool.not_false,if_true];rfl
 |negSucc m=>cases y with
  |ofNat n=>
   have h1:Int.negSucc m<0:=Int.negSucc_lt_zero m
   have h2: ¬Int.ofNat n<0:=by simp
   simp only [h1,h2,decide_false,decide_true,Bool.true_beq,Bool.not_false,if_true];rfl
  |negSucc n=>
   have h1:Int.negSucc m<0:=Int.negSucc_lt_zero m
   have h2:Int.negSucc n<0:=Int.negSucc_lt_zero n
   simp only [h1,h2,decide_true,beq_self_eq_true,Bool.not_true,Bool.false_eq_true,if_false];rfl
set_option maxHeartbeats 1000000 in
theorem Zqb (x y:Int) (hy:y≠0) (hx:(digs E9 x.natAbs).length≤1000000) (hyl:(digs E9 y.natAbs).length≤1000000):Qaf Tryz.prog 106 [rI x,rI y] (.tup [rI (x/y),rI (x%y)]):=by
 have ho:=Q3m x.natAbs y.natAbs (by omega) (by omega) (by omega)
 have hm:=Qf1 (!(decide (x<0)==decide (y<0))) (x.natAbs/y.natAbs)
 rw [Qzn]at hm
 have hql:(digs E9 (Int.tdiv x y).natAbs).length≤1000000:=by
  rw [Int.natAbs_tdiv];exact Nat.le_trans (Zke (Nat.div_le_self _ _)) hx
 have h1l:(digs E9 1).length≤1000000:=Nat.le_trans (Q3p (by decide)) (by decide)
 obtain⟨f1,f2⟩:=Zkd x y hy
 have hnum:=Qe8 1 (by decide) (by decide)
 generalize hq:Int.tdiv x y=q at*
 have hmq:(digs E9 (q*y).natAbs).length≤2000000:=by rw [Int.natAbs_mul];have:=Q3n q.natAbs y.natAbs;omega
 have m1:=Qxu q y (by omega)
 have s1:=Qpl x (q*y) (Nat.le_trans (Qnc _ _ 2000000 (by omega) hmq) (by decide))
 have g1:=Qu1 (x-q*y)
 have g2:=Qu1 y
 by_cases h0:x-q*y<0
 ·have c1:((x-q*y).sign<0)=True:=by simp only [eq_iff_iff,iff_true];rw [Int.sign_eq_neg_one_of_neg h0];decide
  obtain⟨e1,e2⟩:=f2 h0
  by_cases hp:0<y
  ·have c2:(0<y.sign)=True:=by simp only [eq_iff_iff,iff_true];rw [Int.sign_eq_one_of_pos hp];decide
   rw [if_pos hp]at e1 e2
   have s2:=Qpl q 1 (Nat.le_trans (Qnc _ _ 1000000 hql h1l) (by decide))
   have hq2:(digs E9 (q-1).natAbs).length≤1000001:=Nat.le_trans (Zke (show(q-1).natAbs≤q.natAbs+1 by omega)) (Qnc _ _ 1000000 hql h1l)
   have m2:=Qxu (q-1) y (by omega)
   have hmq2:(digs E9 ((q-1)*y).natAbs).length≤2000001:=by rw [Int.natAbs_mul];have:=Q3n (q-1).natAbs y.natAbs;omega
   have s3:=Qpl x ((q-1)*y) (Nat.le_trans (Qnc _ _ 2000001 (by omega) hmq2) (by decide))
   rw [e1]at s2 m2 s3
   rw [e1]at e2
   rw [e2]at s3
   generalize x-q*y=r at*
   generalize q*y=p at*
   generalize x/y*y=p2 at*
   generalize x/y=Q at*
   generalize x%y=R at*
   generalize x.natAbs/y.natAbs=n1 at*
   generalize x.natAbs%y.natAbs=n2 at*
   refine Qac (tb:=[]) 50 [.cell 4 44,.cell 5 44] [0,1,2,3,4,5,6,7,8,9,32,35] mixed Tryz.func106 rfl (by kernel_rfl) (by kernel_rfl) (by kernel_rfl) (by kernel_rfl) ?_
   repeat (first|(simp -implicitDefEqProofs only [go_sem,Nat.reduceAdd,Nat.reduceMul,Nat.reduceEqDiff,Nat.reduceLT,Nat.reduceLeDiff,reduceCtorEq,Int.reduceLT,rI,di,c1,c2])|((with_reducible refine Qab (ho) ?_ ?_ ?_);(with_reducible rfl);rfl)|((with_reducible refine Qab (hm) ?_ ?_ ?_);(with_reducible rfl);rfl)|((with_reducible refine Qab (m1) ?_ ?_ ?_);(with_reducible rfl);rfl)|((with_reducible refine Qab (s1) ?_ ?_ ?_);(with_reducible rfl);rfl)|((with_reducible refine Qab (g1) ?_ ?_ ?_);(with_reducible rfl);rfl)|((with_reducible refine Qab (g2) ?_ ?_ ?_);(with_reducible rfl);rfl)|((with_reducible refine Qab (hnum) ?_ ?_ ?_);(with_reducible rfl);rfl)|((with_reducible refine Qab (s2) ?_ ?_ ?_);(with_reducible rfl);rfl)|((with_reducible refine Qab (m2) ?_ ?_ ?_);(with_reducible rfl);rfl)|((with_reducible refine Qab (s3) ?_ ?_ ?_);(with_reducible rfl);rfl)|(with_reducible exact Qaa _ _ (by kernel_rfl))|(with_reducible refine And.intro (Qaa _ _ (by kernel_rfl)) ?_))
  ·have c2:(0<y.sign)=False:=by simp only [eq_iff_iff,iff_false];rw [Int.sign_eq_neg_one_of_neg (by omega)];decide
   rw [if_neg hp]at e1 e2
   have s2:=Q3o q 1 (Nat.le_trans (Qnc _ _ 1000000 hql h1l) (by decide))
   have hq2:(digs E9 (q+1).natAbs).length≤1000001:=Nat.le_trans (Zke (show(q+1).natAbs≤q.natAbs+1 by omega)) (Qnc _ _ 1000000 hql h1l)
   have m2:=Qxu (q+1) y (by omega)
   have hmq2:(digs E9 ((q+1)*y).natAbs).length≤2000001:=by rw [Int.natAbs_mul];have:=Q3n (q+1).natAbs y.natAbs;omega
   have s3:=Qpl x ((q+1)*y) (Nat.le_trans (Qnc _ _ 2000001 (by omega) hmq2) (by decide))
   rw [e1]at s2 m2 s3
   rw [e1]at e2
   rw [e2]at s3
   generalize x-q*y=r at*
   generalize q*y=p at*
   generalize x/y*y=p2 at*
   generalize x/y=Q at*
   generalize x%y=R at*
   generalize x.natAbs/y.natAbs=n1 at*
   generalize x.natAbs%y.natAbs=n2 at*
   refine Qac (tb:=[]) 50 [.cell 4 44,.cell 5 44] [0,1,2,3,4,5,6,7,8,9,32,35] mixed Tryz.func106 rfl (by kernel_rfl) (by kernel_rfl) (by kernel_rfl) (by kernel_rfl) ?_
   repeat (first|(simp -implicitDefEqProofs only [go_sem,Nat.reduceAdd,Nat.reduceMul,Nat.reduceEqDiff,Nat.reduceLT,Nat.reduceLeDiff,reduceCtorEq,Int.reduceLT,rI,di,c1,c2])|((with_reducible refine Qab (ho) ?_ ?_ ?_);(with_reducible rfl);rfl)|((with_reducible refine Qab (hm) ?_ ?_ ?_);(with_reducible rfl);rfl)|((with_reducible refine Qab (m1) ?_ ?_ ?_);(with_reducible rfl);rfl)|((with_reducible refine Qab (s1) ?_ ?_ ?_);(with_reducible rfl);rfl)|((with_reducible refine Qab (g1) ?_ ?_ ?_);(with_reducible rfl);rfl)|((with_reducible refine Qab (g2) ?_ ?_ ?_);(with_reducible rfl);rfl)|((with_reducible refine Qab (hnum) ?_ ?_ ?_);(with_reducible rfl);rfl)|((with_reducible refine Qab (s2) ?_ ?_ ?_);(with_reducible rfl);rfl)|((with_reducible refine Qab (m2) ?_ ?_ ?_);(with_reducible rfl);rfl)|((with_reducible refine Qab (s3) ?_ ?_ ?_);(with_reducible rfl);rfl)|(with_reducible exact Qaa _ _ (by kernel_rfl))|(with_reducible refine And.intro (Qaa _ _ (by kernel_rfl)) ?_))
 ·have c1:((x-q*y).sign<0)=False:=by simp only [eq_iff_iff,iff_false];have:=Int.sign_nonneg_iff.2 (show 0≤x-q*y by omega);omega
  obtain⟨e1,e2⟩:=f1 (by omega)
  rw [e2]at s1 g1 c1
  rw [e1]at hm m1 s1
  generalize q*y=p at*
  generalize x/y*y=p2 at*
  generalize x/y=Q at*
  generalize x%y=R at*
  generalize x.natAbs/y.natAbs=n1 at*
  generalize x.natAbs%y.natAbs=n2 at*
  refine Qac (tb:=[]) 50 [.cell 4 44,.cell 5 44] [0,1,2,3,4,5,6,7,8,9,32,35] mixed Tryz.func106 rfl (by kernel_rfl) (by kernel_rfl) (by kernel_rfl) (by kernel_rfl) ?_
  repeat (first|(simp -implicitDefEqProofs only [go_sem,Nat.reduceAdd,Nat.reduceMul,Nat.reduceEqDiff,Nat.reduceLT,Nat.reduceLeDiff,reduceCtorEq,rI,di,c1])|((with_reducible refine Qab (ho) ?_ ?_ ?_);(with_reducible rfl);rfl)|((with_reducible refine Qab (hm) ?_ ?_ ?_);(with_reducible rfl);rfl)|((with_reducible refine Qab (m1) ?_ ?_ ?_);(with_reducible rfl);rfl)|((with_reducible refine Qab (s1) ?_ ?_ ?_);(with_reducible rfl);rfl)|((with_reducible refine Qab (g1) ?_ ?_ ?_);(with_reducible rfl);rfl)|(with_reducible exact Qaa _ _ (by kernel_rfl))|(with_reducible refine And.intro (Qaa _ _ (by kernel_rfl)) ?_))
theorem Zqc (x y:Int) (hx:(digs E9 x.natAbs).length≤1000000) (hyl:(digs E9 y.natAbs).length≤1000000):Qaf Tryz.prog 55 [rI x,rI y] (rI ((Nat.gcd x.natAbs y.natAbs:Nat):Int)):=by
 have hm:=Qf1 false (Nat.gcd x.natAbs y.natAbs)
 simp only [Bool.false_eq_true,if_false]at hm
 refine Qac (tb:=[]) 26 [.cell 4 44] [0,1,2,3,4,5,6,8,15] mixed Tryz.func55 rfl (by kernel_rfl) (by kernel_rfl) (by kernel_rfl) (by kernel_rfl) ?_
 repeat (first|(simp -implicitDefEqProofs only [go_sem,Nat.reduceAdd,Nat.reduceMul,Nat.reduceEqDiff,Nat.reduceLT,Nat.reduceLeDiff,reduceCtorEq,rI,di])|((with_reducible refine Qab (hm) ?_ ?_ ?_);(with_reducible rfl);rfl)|(with_reducible exact Qaa _ _ (by kernel_rfl))|(with_reducible refine And.intro (Qaa _ _ (by kernel_rfl)) ?_))
 refine Qas mixed (fun p:{p:Nat×Nat // Nat.gcd p.1 p.2=Nat.gcd x.natAbs y.natAbs∧(digs E9 p.1).length≤1000000∧(digs E9 p.2).length≤1000000}=>St.of [(4,.bp 2 2 0 0),(5,di (digs E9 p.1.1)),(6,di (digs E9 p.1.2))]
  [(2,{els:=[.agg [.bool false,.nilS]],esz:=2,ety:=44,fro:=0,live:=true,arr:=false})]) (fun p=>p.1.2) ⟨(x.natAbs,y.natAbs),rfl,hx,hyl⟩ ?_ ?_
 ·refine Qak (θ:=[(2,2)]) rfl ?_ ?_
  ·simp [Qad,lkp,ren1,ren0,di]
  ·refine⟨⟨rfl,rfl,rfl,rfl,rfl,.inr ⟨rfl,_,_,rfl,rfl,rfl,rfl⟩⟩,trivial⟩
 ·rintro⟨⟨u,v⟩,h1,h2,h3⟩
  simp only at h1 h2 h3 ⊢
  by_cases hv:v=0
  ·subst hv
   have g1:((0:Int)<((0:Nat):Int))=False:=by simp
   rw [Nat.gcd_zero_right]at h1
   subst h1
   repeat (first|(simp -implicitDefEqProofs only [go_sem,Nat.reduceAdd,Nat.reduceMul,Nat.reduceEqDiff,Nat.reduceLT,Nat.reduceLeDiff,reduceCtorEq,rI,di,Qaz,List.map_nil,List.length_nil,g1])|((with_reducible refine Qab (hm) ?_ ?_ ?_);(with_reducible rfl);rfl)|(with_reducible exact Qaa _ _ (by kernel_rfl))|(with_reducible refine And.intro (Qaa _ _ (by kernel_rfl)) ?_))
  ·have hp:0<(digs E9 v).length:=Zbm hv
   have g1:((0:Int)<((digs E9 v).length:Int))=True:=by simp only [eq_iff_iff,iff_true];omega
   have hd:=Q3m u v (Nat.pos_of_ne_zero hv) (by omega) (by omega)
   have hr:=Nat.mod_lt u (Nat.pos_of_ne_zero hv)
   repeat (first|(simp -implicitDefEqProofs only [go_sem,Nat.reduceAdd,Nat.reduceMul,Nat.reduceEqDiff,Nat.reduceLT,Nat.reduceLeDiff,reduceCtorEq,di,List.length_map,g1])|((with_reducible refine Qab (hd) ?_ ?_ ?_);(with_reducible rfl);rfl)|(with_reducible exact Qaa _ _ (by kernel_rfl))|(with_reducible refine And.intro (Qaa _ _ (by kernel_rfl)) ?_))
   refine⟨⟨(v,u%v),by rw [←h1,Nat.gcd_comm u v,Nat.gcd_rec v u,Nat.gcd_comm],h3,Nat.le_trans (Qpk (Nat.le_of_lt hr)) h3⟩,by simp only;exact hr,Qak (θ:=[(2,2)]) rfl ?_ ?_⟩
   ·simp [Qad,lkp,ren1,ren0,di]
   ·refine⟨⟨rfl,rfl,rfl,rfl,rfl,.inr ⟨rfl,_,_,rfl,rfl,rfl,rfl⟩⟩,trivial⟩
end Go.Proofs.YtlpiamlgibomhaaGreat

namespace Go.Proofs.YtlpiamlgibomhaaGreat
open Go.Vl Go.RowKit Go.Dg
theorem mod_lt {y:Int} {k:Nat} (x:Int) (h0:y≠0) (hy:y.natAbs<256^k):(x%y).natAbs<256^k:=by
 have h1:=Int.emod_nonneg x h0
 have h2:=Int.emod_lt x h0
 omega
theorem Zkf {n:Bool} {s:ByteArray} (h:Qbj n s.data.toList=true) (h0:s.data.toList≠ []):wnum n s≠0:=by
 intro e
 have h1:=Zgy n s h
 rw [e,Qxp]at h1
 simp only [PV.agg.injEq,List.cons.injEq,PV.str.injEq,PV.bool.injEq,and_true]at h1
 exact h0 (by rw [←h1.2])
theorem Zbl {n:Bool} {s:ByteArray} (h0:s.data.toList=[]):wnum n s=0:=by
 unfold wnum sv;rw [h0];cases n<;>rfl
section
variable (a b c d:Int) (k:Nat) (hk:k≤10000) (ha:a.natAbs<256^k) (hb:b.natAbs<256^k) (hc:c.natAbs<256^k) (hd:d.natAbs<256^k)
include hk ha hb hc hd
end
end Go.Proofs.YtlpiamlgibomhaaGreat

namespace Go.Dg

/-! ### sums -/
/-- The sum of the first n values. -/
def sm (f:Nat→Int):Nat→Int
  |0=>0
  |n+1=>sm f n+f n
theorem Qa8 {f g:Nat→Int}: ∀(n:Nat),(∀i,i<n→f i=g i)→sm f n=sm g n
  |0,_=>rfl
  |n+1,h=>by rw [sm,sm,Qa8 n (fun i hi=>h i (Nat.lt_succ_of_lt hi)),h n (Nat.lt_succ_self n)]
theorem Qmw {f:Nat→Int}: ∀(n:Nat),(∀i,i<n→f i=0)→sm f n=0
  |0,_=>rfl
  |n+1,h=>by rw [sm,Qmw n (fun i hi=>h i (Nat.lt_succ_of_lt hi)),h n (Nat.lt_succ_self n)];rfl
theorem Qsg (f g:Nat→Int): ∀n,sm (fun i=>f i+g i) n=sm f n+sm g n
  |0=>rfl
  |n+1=>by simp only [sm,Qsg f g n];omega
theorem Qc6 (c:Int) (f:Nat→Int): ∀n,sm (fun i=>c*f i) n=c*sm f n
  |0=>by simp [sm]
  |n+1=>by simp only [sm,Qc6 c f n,Int.mul_add]
theorem Qiw (f:Nat→Int): ∀n,sm f (n+1)=f 0+sm (fun i=>f (i+1)) n
  |0=>by simp [sm]
  |n+1=>by rw [sm,Qiw f n,sm];omega
theorem Q2l (f:Nat→Int) {n m:Nat} (h:n≤m) (hz: ∀i,n≤i→i<m→f i=0):sm f m=sm f n:=by
  induction m with
  |zero=>obtain rfl:n=0:=by omega
         rfl
  |succ m ih=>
    rcases Nat.lt_or_eq_of_le h with h1|h1
    · rw [sm,ih (by omega) (fun i a b=>hz i a (by omega)),hz m (by omega) (by omega),Int.add_zero]
    · rw [h1]
theorem Q2m (g:Nat→Nat→Int): ∀n,sm (fun j=>sm (fun i=>g i j) (j+1)) n=sm (fun i=>sm (fun k=>g i (i+k)) (n-i)) n
  |0=>rfl
  |n+1=>by
    rw [sm,Q2m g n]
    have h1:sm (fun i=>sm (fun k=>g i (i+k)) (n+1-i)) n=sm (fun i=>sm (fun k=>g i (i+k)) (n-i)+g i n) n:=
      Qa8 n fun i hi=>by
        have e:n+1-i=(n-i)+1:=by omega
        have e2:i+(n-i)=n:=by omega
        rw [e,sm,e2]
    have e3:n+1-n=1:=by omega
    rw [sm,sm,h1,Qsg,e3]
    simp only [sm,Nat.add_zero,Int.zero_add]
    omega
theorem Q2n (f:Nat→Nat→Int) (m:Nat): ∀n,sm (fun i=>sm (fun j=>f i j) m) n=sm (fun j=>sm (fun i=>f i j) n) m
  |0=>(Qmw m (fun _ _=>rfl)).symm
  |n+1=>by rw [sm,Q2n f m n,←Qsg];rfl
theorem Q2o {f g:Nat→Int}: ∀(n:Nat),(∀i,i<n→f i≤g i)→sm f n≤sm g n
  |0,_=>Int.le_refl 0
  |n+1,h=>Int.add_le_add (Q2o n fun i hi=>h i (Nat.lt_succ_of_lt hi)) (h n (Nat.lt_succ_self n))

/-! ### binomials -/
/-- The number of ways to choose k of n elements. -/
def bin:Nat→Nat→Nat
  |_,0=>1
  |0,_+1=>0
  |n+1,k+1=>bin n k+bin n (k+1)
theorem Qfy (n:Nat):bin n 0=1:=by cases n<;>rfl
theorem Q2p: ∀{n k:Nat},n<k→bin n k=0
  |0,0,h=>absurd h (Nat.lt_irrefl 0)
  |0,_+1,_=>rfl
  |n+1,0,h=>absurd h (Nat.not_lt_zero _)
  |n+1,k+1,h=>by rw [bin,Q2p (by omega),Q2p (by omega)]
/-- The next one of a row. -/
theorem Ql4: ∀(n k:Nat),(bin n (k+1):Int)*((k:Int)+1)=(bin n k:Int)*((n:Int)-(k:Int))
  |0,0=>by simp [bin]
  |0,k+1=>by simp [bin]
  |n+1,0=>by
    have h:=Ql4 n 0
    rw [Qfy]at h ⊢
    rw [bin,Qfy]
    simp only [Int.natCast_add,Int.natCast_zero,Int.zero_add,Int.mul_one,Int.sub_zero,Int.one_mul]at h ⊢
    omega
  |n+1,k+1=>by
    have h1:=Ql4 n k
    have h2:=Ql4 n (k+1)
    rw [bin,bin]
    simp only [Int.natCast_add]at h1 h2 ⊢
    generalize (bin n k:Int)=a at*
    generalize (bin n (k+1):Int)=b at*
    generalize (bin n (k+1+1):Int)=c at*
    generalize (n:Int)=N at*
    generalize (k:Int)=K at*
    simp only [Int.mul_add,Int.add_mul,Int.mul_sub,Int.sub_mul]at h1 h2 ⊢
    simp only [Int.mul_one]at h1 h2 ⊢
    omega
theorem Qqv: ∀{n k:Nat},k≤n→0<bin n k
  |_,0,_=>by rw [Qfy];decide
  |0,k+1,h=>absurd h (by omega)
  |n+1,k+1,h=>by rw [bin];have:=Qqv (n:=n) (k:=k) (by omega);omega
theorem Qhg: ∀(n k:Nat),bin n k≤2^n
  |0,0=>by decide
  |0,_+1=>by simp [bin]
  |n+1,0=>by rw [Qfy];exact Nat.pow_pos (by decide)
  |n+1,k+1=>by rw [bin,Nat.pow_succ];have:=Qhg n k;have:=Qhg n (k+1);omega
theorem Qlk (x:Int) (n:Nat):x^(n+1)=x*x^n:=by rw [Int.pow_succ,Int.mul_comm]
/-- The power of a sum. -/
theorem Qmx (a b:Int): ∀n,sm (fun k=>(bin n k:Int)*(a^k*b^(n-k))) (n+1)=(a+b)^n
  |0=>by simp [sm,bin]
  |n+1=>by
    have ih:=Qmx a b n
    rw [Qiw]
    have h1:sm (fun k=>(bin (n+1) (k+1):Int)*(a^(k+1)*b^(n+1-(k+1)))) (n+1)
        =sm (fun k=>a*((bin n k:Int)*(a^k*b^(n-k)))+(bin n (k+1):Int)*(a^(k+1)*b^(n-k))) (n+1):=
      Qa8 _ fun k _=>by
        have e:n+1-(k+1)=n-k:=by omega
        rw [e,bin,Int.natCast_add,Int.add_mul,Qlk]
        congr 1
        rw [Int.mul_assoc,Int.mul_left_comm]
    rw [h1,Qsg,Qc6,ih]
    have h2:sm (fun k=>(bin n (k+1):Int)*(a^(k+1)*b^(n-k))) (n+1)=sm (fun k=>b*((bin n (k+1):Int)*(a^(k+1)*b^(n-(k+1))))) n:=by
      rw [sm,Q2p (Nat.lt_succ_self n),Int.natCast_zero,Int.zero_mul,Int.add_zero]
      refine Qa8 _ fun k hk=> ?_
      have e:n-k=(n-(k+1))+1:=by omega
      rw [e,Qlk b]
      simp only [Int.mul_comm,Int.mul_left_comm,Int.mul_assoc]
    have h3:=Qiw (fun k=>(bin n k:Int)*(a^k*b^(n-k))) n
    rw [ih]at h3
    rw [h2,Qc6,Qfy]
    rw [Qfy]at h3
    simp only [Int.pow_zero,Int.one_mul,Nat.sub_zero,Int.natCast_one]at h3 ⊢
    rw [Qlk,Qlk,Int.add_mul,h3]
    simp only [Int.mul_add]
    omega

/-! ### polynomials by their values -/
/-- A polynomial at x/y,times y to the power of its degree. -/
def hev:List Int→Int→Int→Int
  | [],_,_=>0
  |c::r,x,y=>c*y^r.length+x*hev r x y
theorem Qh2: ∀(p:List Int) (x y:Int),hev p x y=sm (fun i=>p.getD i 0*(x^i*y^(p.length-1-i))) p.length
  | [],_,_=>rfl
  |c::r,x,y=>by
    rw [hev,List.length_cons,Qiw,Qh2 r x y,←Qc6]
    congr 1
    · simp
    · refine Qa8 _ fun i hi=> ?_
      have e:r.length+1-1-(i+1)=r.length-1-i:=by omega
      rw [e,Qlk,List.getD_cons_succ]
      simp only [Int.mul_comm,Int.mul_left_comm,Int.mul_assoc]
/-- Lists of equal length with equal values are equal. -/
theorem Qix: ∀{p q:List Int},p.length=q.length→(∀x:Int,1≤x→hev p x 1=hev q x 1)→p=q
  | [],[],_,_=>rfl
  | [],_::_,h,_=>by simp at h
  |_::_,[],h,_=>by simp at h
  |a::p,b::q,hl,h=>by
    simp only [hev,Int.one_pow,Int.mul_one]at h
    have hab:a=b:=by
      have h1:=h ((a-b).natAbs+1) (by omega)
      generalize hev p _ 1=A at h1
      generalize hev q _ 1=B at h1
      have h2:a-b=(((a-b).natAbs:Int)+1)*(B-A):=by rw [Int.mul_sub];omega
      have h3:(((a-b).natAbs:Int)+1)∣(a-b):=⟨_,h2⟩
      have h4:=Int.natAbs_dvd_natAbs.2 h3
      rcases Nat.eq_zero_or_pos (a-b).natAbs with h0|h0
      · omega
      · have:=Nat.le_of_dvd h0 h4
        omega
    subst hab
    congr 1
    refine Qix (by simpa using hl) fun x hx=> ?_
    have h1:=h x hx
    have h2:x*hev p x 1=x*hev q x 1:=by omega
    exact Int.eq_of_mul_eq_mul_left (by omega) h2
/-- A list of sums of products,at two values. -/
theorem Ql5 (F:Nat→Int) (n:Nat) (x y:Int):hev ((List.range (n+1)).map F) x y=sm (fun j=>F j*(x^j*y^(n-j))) (n+1):=by
  rw [Qh2]
  simp only [List.length_map,List.length_range]
  refine Qa8 _ fun j hj=> ?_
  rw [List.getD_eq_getElem?_getD]
  simp [hj]

/-- The list whose value at x,y is the sum of f i x^i (c x+y)^(n-i). -/
def trans (f:List Int) (c:Int) (n:Nat):List Int:=(List.range (n+1)).map fun j=>sm (fun i=>f.getD i 0*(c^(j-i)*(bin (n-i) (j-i):Int))) (j+1)
theorem Qe5 (f:List Int) (c:Int) (n:Nat):(trans f c n).length=n+1:=by simp [trans]
theorem Qqw (a b:Int): ∀n:Nat,(a*b)^n=a^n*b^n
  |0=>by simp
  |n+1=>by rw [Qlk,Qlk,Qlk,Qqw a b n];simp only [Int.mul_comm,Int.mul_left_comm,Int.mul_assoc]
theorem Qie (c:Int) (f:Nat→Int) (n:Nat):sm (fun i=>f i*c) n=sm f n*c:=by
  rw [Int.mul_comm,←Qc6];exact Qa8 n fun i _=>Int.mul_comm _ _
theorem Q2q (f:List Int) (c:Int) (n:Nat) (x y:Int):hev (trans f c n) x y=sm (fun i=>f.getD i 0*(x^i*(c*x+y)^(n-i))) (n+1):=by
  rw [trans,Ql5]
  have h1:sm (fun j=>sm (fun i=>f.getD i 0*(c^(j-i)*(bin (n-i) (j-i):Int))) (j+1)*(x^j*y^(n-j))) (n+1)
      =sm (fun j=>sm (fun i=>f.getD i 0*(c^(j-i)*(bin (n-i) (j-i):Int))*(x^j*y^(n-j))) (j+1)) (n+1):=
    Qa8 _ fun j _=>(Qie _ _ _).symm
  rw [h1,Q2m (fun i j=>f.getD i 0*(c^(j-i)*(bin (n-i) (j-i):Int))*(x^j*y^(n-j)))]
  refine Qa8 _ fun i hi=> ?_
  have e:n+1-i=(n-i)+1:=by omega
  rw [←Qmx (c*x) y (n-i),e,←Qc6,←Qc6]
  refine Qa8 _ fun k hk=> ?_
  have e1:i+k-i=k:=by omega
  have e2:n-(i+k)=n-i-k:=by omega
  rw [e1,e2,Qqw,Int.pow_add]
  simp only [Int.mul_comm,Int.mul_left_comm,Int.mul_assoc]
theorem Zjq {f:List Int} {n:Nat} (h:f.length≤n+1) (x s:Int):sm (fun i=>f.getD i 0*(x^i*s^(n-i))) (n+1)=s^(n+1-f.length)*hev f x s:=by
  rw [Q2l _ h (fun i h1 _=>by rw [List.getD_eq_getElem?_getD,List.getElem?_eq_none h1];simp),Qh2,←Qc6]
  refine Qa8 _ fun i hi=> ?_
  have e:n-i=(n+1-f.length)+(f.length-1-i):=by omega
  rw [e,Int.pow_add]
  simp only [Int.mul_comm,Int.mul_left_comm,Int.mul_assoc]
theorem Qze {f:List Int} {n:Nat} (h:f.length≤n+1) (c x y:Int):hev (trans f c n) x y=(c*x+y)^(n+1-f.length)*hev f x (c*x+y):=by
  rw [Q2q,Zjq h]
theorem Qfj {f:List Int} {n:Nat} (h:f.length=n+1) (c x y:Int):hev (trans f c n) x y=hev f x (c*x+y):=by
  rw [Qze (by omega),h,Nat.sub_self,Int.pow_zero,Int.one_mul]
/-- Each value times a power. -/
def Zp2 (b:Int) (n:Nat) (f:List Int):List Int:=(List.range (n+1)).map fun j=>f.getD j 0*b^(n-j)
end Go.Dg

namespace Go.Proofs.YtlpiamlgibomhaaGreat
open Go.Vl Go.RowKit Go.Dg
theorem Qpt {x y:Int} {B:Nat} (hx:x.natAbs<2^B) (hy:y.natAbs<2^B):(x+y).natAbs<2^(B+1):=by
 rw [Nat.pow_succ];generalize 2^B=K at*;omega
theorem Qgz {x y:Int} {B C:Nat} (hx:x.natAbs<2^B) (hy:y.natAbs<2^C):(x*y).natAbs<2^(B+C):=by
 rw [Int.natAbs_mul,Nat.pow_add];exact Nat.mul_lt_mul'' hx hy
theorem Zis {x:Int} {B:Nat} (hx:x.natAbs<2^B):(-x).natAbs<2^B:=by rw [Int.natAbs_neg];exact hx
theorem Zit {x:Int} (h:x.natAbs<2^65536):(digs 256 x.natAbs).length≤8192:=(Qap (by decide) x.natAbs 8192).2 (Qmv (k:=8192) h (by decide))
theorem Qi8 {n:Int} (h:n.natAbs<2^65536):Qij n= .tup [wPV n,.int .i64 0]:=by
 rw [Qij,if_neg (Nat.not_lt.2 (Qdn 65536 _ h))]
abbrev mB (x:Int):ByteArray:=⟨(magL x.natAbs).toArray⟩
theorem Qdg {x:Int} (h:x.natAbs<2^65536):(mB x).size≤100000:=by rw [Q3l];have:=Zit h;omega
theorem Qcm {x:Int} (h:x.natAbs<2^65536):Qbj (decide (x<0)) (mB x).data.toList=true:=Qvy x (Zit h)
theorem Qnp (x:Int):(bnum (mB x).data.toList)=x.natAbs:=by
 have h:=Qcv x
 unfold wnum at h
 have h2:=congrArg Int.natAbs h
 rwa [Zr7]at h2
theorem Ziu {x y:Int} (hx:x.natAbs<2^65536) (hy:y.natAbs<2^65536):Qaf Tryz.prog 126 [wPV x,wPV y] (Qij (x*y)):=by
 have h:=Zr2 (decide (x<0)) (decide (y<0)) (mB x) (mB y) (Qcm hx) (Qcm hy) (Qdg hx) (Qdg hy)
 rwa [Qcv,Qcv]at h
theorem Ziv {x y:Int} (hx:x.natAbs<2^65536) (hy:y.natAbs<2^65536):Qaf Tryz.prog 103 [wPV x,wPV y] (Qij (x+y)):=by
 have h:=Zrs (decide (x<0)) (decide (y<0)) (mB x) (mB y) (Qcm hx) (Qcm hy) (Qdg hx) (Qdg hy)
 rwa [Qcv,Qcv]at h
theorem Zqz {x y:Int} (hx:x.natAbs<2^65536) (hy:y.natAbs<2^65536):Qaf Tryz.prog 90 [wPV x,wPV y] (Qij ((Nat.gcd x.natAbs y.natAbs:Nat):Int)):=by
 have h:=Zr3 (decide (x<0)) (decide (y<0)) (mB x) (mB y) (Qcm hx) (Qcm hy) (Qdg hx) (Qdg hy)
 rwa [Qnp,Qnp]at h
theorem Q4m {x:Int} (hx:x.natAbs<2^65536):Qaf Tryz.prog 141 [wPV x] (.int .i64 x.sign):=by
 have h:=Q8n (decide (x<0)) (mB x) (Qcm hx) (Qdg hx)
 rwa [Qcv]at h
theorem Zq0 {x:Int} (hx:x.natAbs<2^65536):Qaf Tryz.prog 164 [wPV x] (.int .i64 (blen x.natAbs:Int)):=by
 have h:=Zrv (decide (x<0)) (mB x) (Qcm hx) (Qdg hx)
 rwa [Qnp]at h
theorem Qnq {x:Int} (hx:x.natAbs<2^65536):Qaf Tryz.prog 61 [wPV x] (Qdu x):=by
 have h:=Zru (decide (x<0)) (mB x) (Qcm hx) (Qdg hx)
 rwa [Qcv]at h
theorem Qpu {x y:Int} (hx:x.natAbs<2^65536) (hy:y.natAbs<2^65536):Qaf Tryz.prog 89 [wPV x,wPV y] (.int .i64 (x-y).sign):=by
 have h:=Q04 (decide (x<0)) (decide (y<0)) (mB x) (mB y) (Qcm hx) (Qcm hy) (Qdg hx) (Qdg hy)
 rwa [Qcv,Qcv]at h
theorem Ql8 {x:Int} (hx:x.natAbs<2^65536):Qaf Tryz.prog 100 [wPV x] (.bool true):=by
 have h:=Qf6 (decide (x<0)) (mB x)
 rwa [Qcm hx]at h
theorem Zq1 {x:Int} (h:x≠0):(mB x).data.toList≠ []:=fun e=>h ((Qrh x).1 e)
theorem Zq2 {x y:Int} (hx:x.natAbs<2^65536) (hy:y.natAbs<2^65536) (h0:y≠0):Qaf Tryz.prog 102 [wPV x,wPV y] (Zg1 x y):=by
 have h:=Zr6 (decide (x<0)) (decide (y<0)) (mB x) (mB y) (Qcm hx) (Qcm hy) (Zq1 h0) (Qdg hx) (Qdg hy)
 rwa [Qcv,Qcv]at h
theorem Qu9 {x:Int} {B k:Nat} (h:x.natAbs<2^B) (hk:B≤8*k):(digs E9 x.natAbs).length≤k:=(Qx8 x k (Qmv h hk)).1
theorem Ztx {x:Int} {B k:Nat} (h:x.natAbs<2^B) (hk:B≤8*k):(digs 256 x.natAbs).length≤k:=(Qx8 x k (Qmv h hk)).2
theorem Zb6 {x:Int} (h:x.natAbs<2^8000000):Qaf Tryz.prog 66 [rI x] (wPV x):=Zth x (Qu9 h (by decide)) (Nat.le_trans (Ztx h (k:=1000000) (by decide)) (by decide))
theorem Qx4 {x y:Int} (hx:x.natAbs<2^7000000) (hy:y.natAbs<2^7000000):Qaf Tryz.prog 95 [rI x,rI y] (rI (x+y)):=
 Q3o x y (Zi1 (k:=1000000) (by decide) (Qmv (k:=1000000) hx (by decide)) (Qmv (k:=1000000) hy (by decide)))
theorem Qh4 {x y:Int} (hx:x.natAbs<2^7000000) (hy:y.natAbs<2^7000000):Qaf Tryz.prog 52 [rI x,rI y] (rI (x*y)):=
 Qxu x y (by have:=Qu9 hx (k:=1000000) (by decide);have:=Qu9 hy (k:=1000000) (by decide);omega)
theorem Ziw {x y:Int} (hx:x.natAbs<2^7000000) (hy:y.natAbs<2^7000000) (h0:y≠0):Qaf Tryz.prog 106 [rI x,rI y] (.tup [rI (x/y),rI (x%y)]):=
 Zqb x y h0 (Qu9 hx (by decide)) (Qu9 hy (by decide))
theorem Q4n {x y:Int} (hx:x.natAbs<2^7000000) (hy:y.natAbs<2^7000000):Qaf Tryz.prog 55 [rI x,rI y] (rI ((Nat.gcd x.natAbs y.natAbs:Nat):Int)):=
 Zqc x y (Qu9 hx (by decide)) (Qu9 hy (by decide))
theorem Qfp {x y:Int} (hx:x.natAbs<2^7000000) (hy:y.natAbs<2^7000000):Qaf Tryz.prog 56 [rI x,rI y] (.int .i64 (x-y).sign):=
 Qzo x y (Zi1 (k:=1000000) (by decide) (Qmv (k:=1000000) hx (by decide)) (Qmv (k:=1000000) hy (by decide)))
end Go.Proofs.YtlpiamlgibomhaaGreat

namespace Go.Proofs.YtlpiamlgibomhaaGreat
open Go.Vl Go.RowKit Go.Dg
def wA (p:Bool×ByteArray):PV:= .agg [.bool p.1,.str p.2]
theorem Zix (l:List (Bool×ByteArray)) (i:Nat) (h:i<l.length):(l.map wA)[i]? =some (.agg [.bool l[i].1,.str l[i].2]):=by
 rw [List.getElem?_map,List.getElem?_eq_getElem h];rfl
theorem Ziy (a b:ByteArray):(a==b)=(a.data==b.data):=rfl
theorem Qnr (b:ByteArray):(b==b)=true:=by rw [Ziy];exact beq_self_eq_true _
def wL (xs:List Int):PV:= .slc (xs.map wPV)
def rL (xs:List Int):PV:= .slc (xs.map rI)
theorem Qdh (xs:List Int) (i:Nat) (h:i<xs.length):(xs.map wPV)[i]? =some (.agg [.bool (decide (xs[i]<0)),.str (mB xs[i])]):=by
 rw [List.getElem?_map,List.getElem?_eq_getElem h];rfl
theorem Ziz (xs:List Int) (i:Nat) (h:i<xs.length):(xs.map rI)[i]? =some (.agg [.bool (decide (xs[i]<0)),di (digs E9 xs[i].natAbs)]):=by
 rw [List.getElem?_map,List.getElem?_eq_getElem h];rfl
theorem Zk0 (xs:List Int):(((xs.map wPV).flatMap PV.cells).all PV.okCell)=true:=by
 rw [List.all_flatMap,List.all_map,List.all_eq_true];intro _ _;rfl
theorem Zq3 (xs:List Int):(((xs.map rI).flatMap PV.cells).all PV.okCell)=true:=by
 rw [List.all_flatMap,List.all_map,List.all_eq_true];intro _ _;rfl
theorem Qx5 {α:Type} {p:α→Bool} {l:List α} {i:Nat} (hi:i<l.length) (h:(l.take i).all p=true) (hp:p l[i]=true):(l.take (i+1)).all p=true:=by
 rw [List.take_add_one,List.all_append,h];simp [hi,hp]
theorem Qva {α:Type} {p:α→Bool} {l:List α} {i:Nat} (hi:i<l.length) (hp:p l[i]=false):l.all p=false:=by
 rw [List.all_eq_false];exact⟨l[i],List.getElem_mem hi,by simp [hp]⟩
theorem Qbq {α:Type} (l:List α) (i:Nat) (hi:i<l.length):l.take (i+1)=l.take i++[l[i]]:=by rw [List.take_add_one];simp [hi]
theorem ltT {i n:Nat} (h:i<n):((i:Int)<(n:Int))=True:=by simp only [eq_iff_iff,iff_true];omega
theorem ltF {i n:Nat} (h: ¬i<n):((i:Int)<(n:Int))=False:=by simp only [eq_iff_iff,iff_false];omega
theorem leT {i n:Nat} (h:i≤n):((i:Int)≤(n:Int))=True:=by simp only [eq_iff_iff,iff_true];omega
theorem leF {i n:Nat} (h: ¬i≤n):((i:Int)≤(n:Int))=False:=by simp only [eq_iff_iff,iff_false];omega
theorem nnT (i:Nat):((0:Int)≤(i:Int))=True:=by simp
def topB (l:List (Bool×ByteArray)):Bool:=match l[l.length-1]? with
 |some p=>decide (0<p.2.size)
 |none=>true
def Qx6 (l:List (Bool×ByteArray)):Bool:=l.all fun p=>Qbj p.1 p.2.data.toList
def Qvb (l:List (Bool×ByteArray)):Bool:=Qx6 l&&(decide (l.length≤25)&&topB l)
theorem Qs1 {l:List (Bool×ByteArray)} (h:l.length-1<l.length):topB l=decide (0<(l[l.length-1]'h).2.size):=by
 unfold topB;rw [List.getElem?_eq_getElem h]
theorem Zb7 (l:List (Bool×ByteArray)) (hl:l.length≤100000) (hs2: ∀p∈l,p.2.size≤100000):Qaf Tryz.prog 140 [.slc (l.map wA)] (.bool (Qvb l)):=by
 refine Qac (tb:=[]) 33 [.tmp 2] [0,2,4,5,6,7,8,13] mixed Tryz.func140 rfl (by kernel_rfl) (by kernel_rfl) (by kernel_rfl) (by kernel_rfl) ?_
 simp -implicitDefEqProofs only [go_sem,Nat.reduceAdd,Nat.reduceMul,Nat.reduceEqDiff,Nat.reduceLT,Nat.reduceLeDiff,reduceCtorEq,List.length_map]
 refine Qas mixed (fun i:{i:Nat // i≤l.length∧(l.take i).all (fun p=>Qbj p.1 p.2.data.toList)=true}=>St.of [(0,.slc (l.map wA)),(5,.slc (l.map wA)),(6,.int .i64 (l.length:Int)),(7,.int .i64 (i.1:Int))] []) (fun i=>l.length-i.1) ⟨0,Nat.zero_le _,rfl⟩ ?_ ?_
 ·exact Qa3 (by simp [Qad,lkp,ren1,ren0])
 ·rintro⟨i,hi,hall⟩
  by_cases hA:i<l.length
  ·have hA':=ltT hA
   have h0:=nnT i
   have hg:=Zix l i hA
   have hwk:=Qah (a:=i) (by omega)
   simp -implicitDefEqProofs only [go_sem,Nat.reduceAdd,Nat.reduceMul,Nat.reduceEqDiff,Nat.reduceLT,Nat.reduceLeDiff,reduceCtorEq,hA',h0,hg,Int.toNat_natCast]
   refine Qag _ _ _ _ _ _ _ _ _ (Qf6 l[i].1 l[i].2) ?_
   cases hs:Qbj l[i].1 l[i].2.data.toList with
   |true=>
    simp -implicitDefEqProofs only [go_sem,Nat.reduceAdd,Nat.reduceMul,Nat.reduceEqDiff,Nat.reduceLT,Nat.reduceLeDiff,reduceCtorEq,hwk]
    exact⟨⟨i+1,hA,Qx5 hA hall hs⟩,by simp only;omega,Qa3 (by simp [Qad,lkp,ren1,ren0])⟩
   |false=>
    have e:Qvb l=false:=by unfold Qvb Qx6;rw [Qva hA hs];rfl
    simp -implicitDefEqProofs only [go_sem,Nat.reduceAdd,Nat.reduceMul,Nat.reduceEqDiff,Nat.reduceLT,Nat.reduceLeDiff,reduceCtorEq,e]
  ·have hA':=ltF hA
   rw [List.take_of_length_le (by omega)]at hall
   have e0:Qvb l=(decide (l.length≤25)&&topB l):=by unfold Qvb Qx6;rw [hall,Bool.true_and]
   rw [e0]
   by_cases h25:l.length≤25
   ·have h25':((l.length:Int)≤25)=True:=by simp only [eq_iff_iff,iff_true];omega
    rw [decide_eq_true h25,Bool.true_and]
    by_cases hz:l.length=0
    ·have hz':((l.length:Int)==0)=true:=by rw [hz];rfl
     have ht:topB l=true:=by rw [List.length_eq_zero_iff.1 hz];rfl
     repeat (first|(simp -implicitDefEqProofs only [go_sem,Nat.reduceAdd,Nat.reduceMul,Nat.reduceEqDiff,Nat.reduceLT,Nat.reduceLeDiff,reduceCtorEq,hA',h25',hz',ht,List.length_map]))
    ·have hz':((l.length:Int)==0)=false:=by simp only [beq_eq_false_iff_ne,ne_eq];omega
     have hlt:l.length-1<l.length:=by omega
     have hg:=Zix l (l.length-1) hlt
     have hwm:IntKind.i64.wrap ((l.length:Int)-1)=((l.length-1:Nat):Int):=by rw [Qai (by omega) (by omega)];omega
     have h0:=nnT (l.length-1)
     have hv:=List.all_eq_true.1 hall _ (List.getElem_mem hlt)
     have hsg:=Q8n l[l.length-1].1 l[l.length-1].2 hv (hs2 _ (List.getElem_mem hlt))
     have e5:((wnum l[l.length-1].1 l[l.length-1].2).sign != 0)=topB l:=by
      rw [Qs1 hlt,bne,Bool.eq_iff_iff]
      simp only [Bool.not_eq_true',beq_eq_false_iff_ne,ne_eq,Int.sign_eq_zero_iff_zero,decide_eq_true_eq]
      rw [Qic]
      constructor
      ·intro h
       refine Nat.pos_of_ne_zero fun e=>h ?_
       exact Zbl (List.length_eq_zero_iff.1 e)
      ·intro h
       exact Zkf hv (fun e=>by rw [e]at h;exact absurd h (by decide))
     repeat (first|(simp -implicitDefEqProofs only [go_sem,Nat.reduceAdd,Nat.reduceMul,Nat.reduceEqDiff,Nat.reduceLT,Nat.reduceLeDiff,reduceCtorEq,hA',h25',hz',hwm,h0,hg,e5,List.length_map,Int.toNat_natCast])|((with_reducible refine Qab (hsg) ?_ ?_ ?_);(with_reducible rfl);rfl))
   ·have h25':((l.length:Int)≤25)=False:=by simp only [eq_iff_iff,iff_false];omega
    rw [decide_eq_false h25,Bool.false_and]
    repeat (first|(simp -implicitDefEqProofs only [go_sem,Nat.reduceAdd,Nat.reduceMul,Nat.reduceEqDiff,Nat.reduceLT,Nat.reduceLeDiff,reduceCtorEq,hA',h25',List.length_map]))
end Go.Proofs.YtlpiamlgibomhaaGreat

namespace Go.Dg
def upto (F:Nat→Int) (N j:Nat):List Int:=(List.range N).map fun m=>if m<j then F m else 0
theorem Qfz (F:Nat→Int) (N j:Nat):(upto F N j).length=N:=by simp [upto]
theorem Q2r (F:Nat→Int) (N:Nat):upto F N 0=List.replicate N 0:=by
 refine List.ext_getElem? fun i=> ?_
 simp only [upto,List.getElem?_map,List.getElem?_replicate,Nat.not_lt_zero,if_false]
 by_cases h:i<N
 ·simp [h]
 ·simp [h]
theorem Qxg (F:Nat→Int) (N j i:Nat) (h:i<N):(upto F N j)[i]? =some (if i<j then F i else 0):=by
 simp [upto,h]
theorem Za3 (F:Nat→Int) (N j:Nat) (h:j<N):(upto F N j).set j (F j)=upto F N (j+1):=by
 refine List.ext_getElem? fun i=> ?_
 rw [List.getElem?_set]
 by_cases hi:i<N
 ·rw [Qxg _ _ _ _ hi,Qxg _ _ _ _ hi,Qfz]
  by_cases e:j=i
  ·subst e;simp [h]
  ·rw [if_neg e]
   congr 1
   by_cases h1:i<j
   ·rw [if_pos h1,if_pos (by omega)]
   ·rw [if_neg h1,if_neg (by omega)]
 ·have e1:(upto F N j)[i]? =none:=List.getElem?_eq_none (by rw [Qfz];omega)
  have e2:(upto F N (j+1))[i]? =none:=List.getElem?_eq_none (by rw [Qfz];omega)
  rw [e1,e2,if_neg (by omega)]
theorem Q2s (F:Nat→Int) (N j:Nat) (h:N≤j):upto F N j=(List.range N).map F:=by
 refine List.map_congr_left fun m hm=> ?_
 rw [if_pos (Nat.lt_of_lt_of_le (List.mem_range.1 hm) h)]
theorem Zh8 {f:Nat→Int} {C:Nat}: ∀(m:Nat),(∀i,i<m→(f i).natAbs≤C)→(sm f m).natAbs≤m*C
 |0,_=>by simp [sm]
 |m+1,h=>by
  have h1:=Zh8 m (fun i hi=>h i (by omega))
  have h2:=h m (Nat.lt_succ_self m)
  rw [sm,Nat.succ_mul]
  omega
theorem Za4 {xs:List Int} {B:Nat} (h: ∀x∈xs,x.natAbs<2^B) (i:Nat):(xs.getD i 0).natAbs<2^B:=by
 rw [List.getD_eq_getElem?_getD]
 cases e:xs[i]? with
 |none=>exact Nat.pow_pos (by decide)
 |some x=>exact h x (List.mem_of_getElem? e)
theorem Q2t {n k:Nat} (h:k≤n):bin n k*(n-k)=bin n (k+1)*(k+1):=by
 have h1:=Ql4 n k
 have e:((n-k:Nat):Int)=(n:Int)-(k:Int):=by omega
 rw [←e]at h1
 have h2:((bin n (k+1)*(k+1):Nat):Int)=((bin n k*(n-k):Nat):Int):=by rw [Int.natCast_mul,Int.natCast_mul,←h1];rfl
 omega
def Qdd (bl:Nat→Nat) (xs:List Int):Nat:=xs.foldl (fun n x=>if n<bl x.natAbs then bl x.natAbs else n) 0
theorem Qzf (bl:Nat→Nat) (xs:List Int) (x:Int):Qdd bl (xs++[x])=if Qdd bl xs<bl x.natAbs then bl x.natAbs else Qdd bl xs:=by
 rw [Qdd,List.foldl_append];rfl
theorem Qky (bl:Nat→Nat) (C:Nat): ∀(xs:List Int) (a:Nat),a≤C→(∀x∈xs,bl x.natAbs≤C)→xs.foldl (fun n x=>if n<bl x.natAbs then bl x.natAbs else n) a≤C
 | [],a,ha,_=>ha
 |x::xs,a,ha,h=>by
  rw [List.foldl_cons]
  refine Qky bl C xs _ ?_ fun y hy=>h y (by simp [hy])
  split
  ·exact h x (by simp)
  ·exact ha
theorem Qxh {bl:Nat→Nat} {xs:List Int} {C:Nat} (h: ∀x∈xs,bl x.natAbs≤C):Qdd bl xs≤C:=Qky bl C xs 0 (Nat.zero_le _) h
end Go.Dg

namespace Go.Proofs.YtlpiamlgibomhaaGreat
open Go.Vl Go.RowKit Go.Dg
theorem Zb5 {a b:Nat} (h:b≤a) (ha:a<9223372036854775808):IntKind.i64.wrap ((a:Int)-(b:Int))=((a-b:Nat):Int):=by rw [Qai (by omega) (by omega)];omega
theorem ne0 (a:Nat):(((a+1:Nat):Int)=0)=False:=by simp only [eq_iff_iff,iff_false];omega
theorem Qs0 {n i m:Nat} (hn:n≤50) (hm:m≤50):bin n i*m<9223372036854775808:=by
 have h1:=Qhg n i
 have h2:2^n≤2^50:=Nat.pow_le_pow_right (by decide) hn
 have h3:bin n i*m≤2^50*50:=Nat.mul_le_mul (Nat.le_trans h1 h2) hm
 have e:(2:Nat)^50*50=56294995342131200:=rfl
 omega
end Go.Proofs.YtlpiamlgibomhaaGreat

namespace Go.Vl
def Qkv:PV→PV
 | .nilS=> .slc []
 |v=>v
def Qy4:PV→PV
 | .agg cs=> .agg (cs.map Qkv)
 |v=>Qkv v
theorem Qmg (v:PV):(Qy4 v).cells=v.cells.map Qkv:=by
 cases v<;>rfl
theorem Qo4 (l:List PV):(l.map Qy4).flatMap PV.cells=(l.flatMap PV.cells).map Qkv:=by
 induction l with
 |nil=>rfl
 |cons v l ih=>simp only [List.map_cons,List.flatMap_cons,List.map_append,Qmg,ih]
theorem Rep.up {w:World} {im:Im} {v:PV} {u:Value} (h:Rep w im v u):Rep w im (Qkv v) u:=by
 cases v with
 |nilS=>cases h;exact .slcNil 0 (Nat.zero_le _)
 |_=>exact h
theorem LR.up {w:World} {im:Im} {ρ:Rho} {v:PV} {u:Value} (h:LR w im ρ v u):LR w im ρ (Qkv v) u:=by
 cases v with
 |nilS=>rw [h.nilS_inv];exact .ext _ _ (.slcNil 0 (Nat.zero_le _))
 |_=>exact h
theorem RepL.up {w:World} {im:Im}: ∀{vs:List PV} {us:List Value},RepL w im vs us→RepL w im (vs.map Qkv) us
 |_,_,.nil=> .nil
 |_,_,.cons _ _ _ _ h t=> .cons _ _ _ _ h.up t.up
theorem LRL.up {w:World} {im:Im} {ρ:Rho}: ∀{vs:List PV} {us:List Value},LRL w im ρ vs us→LRL w im ρ (vs.map Qkv) us
 |_,_,.nil=> .nil
 |_,_,.cons _ _ _ _ h t=> .cons _ _ _ _ h.up t.up
theorem Qff.up {own:Nat→Prop} {w:World} {im:Im} {ρ:Rho} {B:Box} {x:Option Nat} (h:Qff own w im ρ B x):Qff own w im ρ {B with els:=B.els.map Qy4} x:=by
 cases x with
 |none=>obtain⟨h1,h2,h3,h4⟩:=h;exact⟨by simp [h1],h2,h3,h4⟩
 |some g=>
  obtain⟨h1,h2,h3,h4,cur,us,rest,h5,h6,h7,h8,h9,h10,h11⟩:=h
  refine⟨h1,by simpa using h2,h3,?_,cur,us,rest,h5,h6,?_,?_,h9,h10,h11⟩
  ·intro e he
   obtain⟨v,hv,rfl⟩:=List.mem_map.1 he
   rw [Qmg,List.length_map];exact h4 v hv
  ·simp only [Qo4];exact h7.up
  ·intro ha;simp only [Qo4];exact(h8 ha).up
theorem Zs6 {st:St} {b:Nat} {B:Box} (hB:st.box b=some B):Le st (st.setBox b {B with els:=B.els.map Qy4}):=by
 rintro C a w ⟨ρ,im,h⟩
 refine⟨ρ,im,h.root,h.nt,h.dfr,h.imc,h.var,?_,?_,?_⟩
 ·intro b'
  by_cases e:b'=b
  ·subst e;simp [St.setBox,Qa0,h.rho b',hB]
  ·simp [St.setBox,Qax _ _ _ _ e,h.rho b']
 ·intro b' x B' hx hB'
  by_cases e:b'=b
  ·subst e
   simp only [St.setBox,Qa0,Option.some.injEq]at hB'
   subst hB'
   exact(h.box b' x B hx hB).up
  ·simp only [St.setBox,Qax _ _ _ _ e]at hB'
   exact h.box b' x B' hx hB'
 ·have key: ∀b' B',(st.setBox b {B with els:=B.els.map Qy4}).box b'=some B'→ ∃B0,st.box b'=some B0∧B0.live=B'.live:=fun b' B' e=>by
   by_cases y:b'=b
   ·subst y
    simp only [St.setBox,Qa0,Option.some.injEq]at e
    subst e;exact⟨B,hB,rfl⟩
   ·exact⟨B',by simpa only [St.setBox,Qax _ _ _ _ y]using e,rfl⟩
  intro b1 b2 g B1 B2 g1 g2 e1 e2 l1 l2
  obtain⟨C1,x1,y1⟩:=key _ _ e1
  obtain⟨C2,x2,y2⟩:=key _ _ e2
  exact h.inj b1 b2 g C1 C2 g1 g2 x1 x2 (y1.trans l1) (y2.trans l2)
theorem Qwx {vs:List (Nat×PV)} {bs:List (Nat×Box)} {o:List (List PV)} {y:Yl} (b:Nat) {B:Box} (hB:lkp bs b=some B):
  Le (St.ofG vs bs o y) (St.ofG vs ((b,{B with els:=B.els.map Qy4})::bs) o y):=Zs6 (st:=St.ofG vs bs o y) hB
end Go.Vl

namespace Go.Proofs.YtlpiamlgibomhaaGreat
open Go.Vl Go.RowKit Go.Dg
theorem rI_z:rI 0= .agg [.bool false,.slc []]:=by simp [rI,di,Qaz]
theorem Qcb {xs:List Int} {i:Nat} (h:i<xs.length):xs.getD i 0=xs[i]:=by rw [List.getD_eq_getElem?_getD,List.getElem?_eq_getElem h];rfl
end Go.Proofs.YtlpiamlgibomhaaGreat

namespace Go.Dg
def Qaw:List Int→List Int
 | []=>[]
 |c::r=>match Qaw r with
  | []=>if c=0 then []else [c]
  |d::t=>c::d::t
theorem Qby (c:Int) (r:List Int):Qaw (c::r)=if Qaw r=[]then(if c=0 then []else [c])else c::Qaw r:=by
 rw [Qaw];cases h:Qaw r<;>simp
theorem Qif: ∀l:List Int,Qaw (l++[0])=Qaw l
 | []=>rfl
 |c::r=>by rw [List.cons_append,Qby,Qif r,Qby]
theorem Qj8: ∀(l:List Int) (c:Int),c≠0→Qaw (l++[c])=l++[c]
 | [],c,h=>by simp [Qaw,h]
 |a::r,c,h=>by rw [List.cons_append,Qby,Qj8 r c h,if_neg (by simp)]
theorem Qbl: ∀l:List Int,(Qaw l).length≤l.length
 | []=>Nat.le_refl _
 |c::r=>by
  have:=Qbl r
  rw [Qby];split
  ·split<;>simp
  ·simp only [List.length_cons];omega
theorem Qiy {l:List Int} {x:Int} (h:x∈Qaw l):x∈l:=by
 induction l with
 |nil=>exact h
 |cons c r ih=>
  rw [Qby]at h
  split at h
  ·split at h
   ·cases h
   ·simp at h;simp [h]
  ·rcases List.mem_cons.1 h with rfl|h
   ·simp
   ·exact List.mem_cons_of_mem _ (ih h)
theorem Qhh: ∀l:List Int,Qaw (Qaw l)=Qaw l
 | []=>rfl
 |c::r=>by
  have ih:=Qhh r
  rw [Qby]
  split
  ·split
   ·rfl
   ·rename_i h;simp [Qaw,h]
  ·rename_i h;rw [Qby,ih,if_neg h]
def ev:List Int→Int→Int
 | [],_=>0
 |c::r,u=>c+u*ev r u
theorem Q2u: ∀(p:List Int) (u:Int),ev p u=hev p u 1
 | [],_=>rfl
 |c::r,u=>by rw [ev,hev,Q2u r u,Int.one_pow,Int.mul_one]
theorem Qe6: ∀(p:List Int) (u:Int),ev (Qaw p) u=ev p u
 | [],_=>rfl
 |c::r,u=>by
  have ih:=Qe6 r u
  rw [Qby]
  split
  ·rename_i h
   rw [h]at ih
   have h0:ev r u=0:=ih.symm
   split
   ·rename_i hc;rw [ev,ev,h0,hc];simp
   ·rw [ev,ev,ev,h0]
  ·rw [ev,ev,ih]
theorem Quk: ∀(p:List Int),(∀u:Int,1≤u→ev p u=0)→Qaw p=[]
 | [],_=>rfl
 |c::r,h=>by
  have hc:c=0:=by
   have h1:=h (c.natAbs+1) (by omega)
   rw [ev]at h1
   generalize ev r _=A at h1
   have h2:c=((c.natAbs:Int)+1)*(-A):=by rw [Int.mul_neg];omega
   have h3:((c.natAbs:Int)+1)∣c:=⟨_,h2⟩
   have h4:=Int.natAbs_dvd_natAbs.2 h3
   rcases Nat.eq_zero_or_pos c.natAbs with h0|h0
   ·omega
   ·have:=Nat.le_of_dvd h0 h4
    omega
  subst hc
  rw [Qby,Quk r ?_]
  ·rfl
  ·intro u hu
   have:=h u hu
   rw [ev,Int.zero_add]at this
   rcases Int.mul_eq_zero.1 this with h|h
   ·omega
   ·exact h
theorem Qul: ∀(p q:List Int),(∀u:Int,1≤u→ev p u=ev q u)→Qaw p=Qaw q
 | [],q,h=>(Quk q fun u hu=>(h u hu).symm).symm
 |p,[],h=>Quk p h
 |a::p,b::q,h=>by
  have hab:a=b:=by
   have h1:=h ((a-b).natAbs+1) (by omega)
   rw [ev,ev]at h1
   generalize ev p _=A at h1
   generalize ev q _=B at h1
   have h2:a-b=(((a-b).natAbs:Int)+1)*(B-A):=by rw [Int.mul_sub];omega
   have h3:(((a-b).natAbs:Int)+1)∣(a-b):=⟨_,h2⟩
   have h4:=Int.natAbs_dvd_natAbs.2 h3
   rcases Nat.eq_zero_or_pos (a-b).natAbs with h0|h0
   ·omega
   ·have:=Nat.le_of_dvd h0 h4
    omega
  subst hab
  have ih:=Qul p q fun u hu=>by
   have h1:=h u hu
   rw [ev,ev]at h1
   exact Int.eq_of_mul_eq_mul_left (a:=u) (by omega) (by omega)
  rw [Qby,Qby,ih]
theorem Q2v (p:List Int) (u:Int) {N:Nat} (h:p.length≤N):ev p u=sm (fun i=>p.getD i 0*u^i) N:=by
 rw [Q2u,Qh2,Q2l _ h (fun i h1 _=>by rw [List.getD_eq_getElem?_getD,List.getElem?_eq_none h1];simp)]
 exact Qa8 _ fun i _=>by rw [Int.one_pow,Int.mul_one]
theorem Qmy (F:Nat→Int) (N i:Nat):((List.range N).map F).getD i 0=if i<N then F i else 0:=by
 rw [List.getD_eq_getElem?_getD,List.getElem?_map]
 by_cases h:i<N
 ·simp [h]
 ·rw [List.getElem?_eq_none (by simpa using h),if_neg h];rfl
theorem Q2w (F:Nat→Int) (N:Nat) (u:Int):ev ((List.range N).map F) u=sm (fun i=>F i*u^i) N:=by
 rw [Q2v _ u (N:=N) (by simp)]
 exact Qa8 _ fun i hi=>by rw [Qmy,if_pos hi]
def zipA (p q:List Int):List Int:=(List.range (max p.length q.length)).map fun i=>p.getD i 0+q.getD i 0
def pAdd (p q:List Int):List Int:=Qaw (zipA p q)
def Qeg (p:List Int) (c:Int):List Int:=Qaw (p.map (· *c))
def conv (p q:List Int):List Int:=(List.range (p.length+q.length-1)).map fun i=>sm (fun k=>p.getD k 0*q.getD (i-k) 0) (i+1)
def pMul (p q:List Int):List Int:=Qaw (conv p q)
def pPow (p:List Int):Nat→List Int
 |0=>Qaw [1]
 |n+1=>pMul (pPow p n) p
theorem Q2x (p q:List Int) (u:Int):ev (pAdd p q) u=ev p u+ev q u:=by
 rw [pAdd,Qe6,zipA,Q2w,Q2v p u (N:=max p.length q.length) (Nat.le_max_left _ _),Q2v q u (N:=max p.length q.length) (Nat.le_max_right _ _),←Qsg]
 exact Qa8 _ fun i _=>Int.add_mul _ _ _
theorem Qmz (p:List Int) (c u:Int):ev (Qeg p c) u=ev p u*c:=by
 rw [Qeg,Qe6]
 induction p with
 |nil=>simp [ev]
 |cons a r ih=>rw [List.map_cons,ev,ev,ih,Int.add_mul,Int.mul_assoc]
theorem Zjr (p q:List Int) (u:Int):ev (pMul p q) u=ev p u*ev q u:=by
 rw [pMul,Qe6,conv,Q2w]
 have h1:sm (fun i=>sm (fun k=>p.getD k 0*q.getD (i-k) 0) (i+1)*u^i) (p.length+q.length-1)
   =sm (fun i=>sm (fun k=>p.getD k 0*q.getD (i-k) 0*u^i) (i+1)) (p.length+q.length-1):=Qa8 _ fun i _=>(Qie _ _ _).symm
 rw [h1,Q2m (fun k i=>p.getD k 0*q.getD (i-k) 0*u^i)]
 rcases Nat.eq_zero_or_pos q.length with hq|hq
 ·have e:q=[]:=List.length_eq_zero_iff.1 hq
  subst e
  rw [Qmw _ fun i _=>Qmw _ fun k _=>by simp]
  simp [ev]
 ·have hN:p.length≤p.length+q.length-1:=by omega
  rw [Q2v p u hN,←Qie]
  refine Qa8 _ fun i hi=> ?_
  by_cases hip:i<p.length
  ·rw [Q2v q u (N:=p.length+q.length-1-i) (by omega),←Qc6]
   refine Qa8 _ fun k _=> ?_
   rw [show i+k-i=k by omega,Int.pow_add]
   simp only [Int.mul_comm,Int.mul_left_comm,Int.mul_assoc]
  ·have e:p.getD i 0=0:=by rw [List.getD_eq_getElem?_getD,List.getElem?_eq_none (by omega)];rfl
   rw [Qmw _ fun k _=>by rw [e,Int.zero_mul,Int.zero_mul],e,Int.zero_mul,Int.zero_mul]
theorem Zp3 (u:Int):ev (Qaw [1]) u=1:=by rw [Qe6];simp [ev]
theorem Q2y (p:List Int) (u:Int): ∀n,ev (pPow p n) u=ev p u^n
 |0=>by rw [pPow,Zp3,Int.pow_zero]
 |n+1=>by rw [pPow,Zjr,Q2y p u n,Int.pow_succ]
theorem Qum (p q:List Int):(zipA p q).length=max p.length q.length:=by simp [zipA]
theorem Qun (p q:List Int):(conv p q).length=p.length+q.length-1:=by simp [conv]
theorem Qup (p q:List Int):(pAdd p q).length≤max p.length q.length:=by rw [←Qum];exact Qbl _
theorem Qiz (p:List Int) (c:Int):(Qeg p c).length≤p.length:=by rw [Qeg];exact Nat.le_trans (Qbl _) (by simp)
theorem Quq (p q:List Int):(pMul p q).length≤p.length+q.length-1:=by rw [←Qun];exact Qbl _
theorem Qig {p:List Int} {m:Nat} (h:p.length≤m+1): ∀n,(pPow p n).length≤m*n+1
 |0=>by simp [pPow,Qaw]
 |n+1=>by
  have h1:=Quq (pPow p n) p
  have h2:=Qig h n
  rw [pPow,Nat.mul_succ];omega
def bd (B:Nat) (p:List Int):Prop:= ∀x∈p,x.natAbs<2^B
theorem Qm0 {B C:Nat} {p:List Int} (h:bd B p) (hc:B≤C):bd C p:=fun x hx=>Nat.lt_of_lt_of_le (h x hx) (Nat.pow_le_pow_right (by decide) hc)
theorem Qe7 {B:Nat} {p:List Int} (h:bd B p):bd B (Qaw p):=fun x hx=>h x (Qiy hx)
theorem Qew {B:Nat} {p:List Int} (h:bd B p) (i:Nat):(p.getD i 0).natAbs<2^B:=Za4 h i
theorem Zjs {B:Nat} {p q:List Int} (hp:bd B p) (hq:bd B q):bd (B+1) (pAdd p q):=by
 refine Qe7 fun x hx=> ?_
 obtain⟨i,_,rfl⟩:=List.mem_map.1 hx
 have h1:=Qew hp i
 have h2:=Qew hq i
 rw [Nat.pow_succ]
 generalize 2^B=K at*
 omega
theorem Qsh {B C:Nat} {p:List Int} {c:Int} (hp:bd B p) (hc:c.natAbs<2^C):bd (B+C) (Qeg p c):=by
 refine Qe7 fun x hx=> ?_
 obtain⟨y,hy,rfl⟩:=List.mem_map.1 hx
 rw [Int.natAbs_mul,Nat.pow_add]
 exact Nat.mul_lt_mul'' (hp y hy) hc
theorem Qur {f:Nat→Int} {B m:Nat} (hm:m≤64) (h: ∀i,i<m→(f i).natAbs<2^B):(sm f m).natAbs<2^(B+7):=by
 have h1:=Zh8 m (fun i hi=>Nat.le_of_lt (h i hi))
 have h2:m*2^B≤64*2^B:=Nat.mul_le_mul_right _ hm
 have hp:0<2^B:=Nat.pow_pos (by decide)
 rw [Nat.pow_add,show(2:Nat)^7=128 from rfl]
 omega
theorem Zjt {B C:Nat} {p q:List Int} (hp:bd B p) (hq:bd C q) (hl:p.length+q.length≤64) (i m:Nat) (hm:m≤i+1) (hi:i<p.length+q.length-1):
  (sm (fun k=>p.getD k 0*q.getD (i-k) 0) m).natAbs<2^(B+C+7):=
 Qur (by omega) fun k _=>by
  rw [Int.natAbs_mul,Nat.pow_add]
  exact Nat.mul_lt_mul'' (Qew hp k) (Qew hq (i-k))
theorem Zju {B C:Nat} {p q:List Int} (hp:bd B p) (hq:bd C q) (hl:p.length+q.length≤64):bd (B+C+7) (pMul p q):=by
 refine Qe7 fun x hx=> ?_
 obtain⟨i,hi,rfl⟩:=List.mem_map.1 hx
 exact Zjt hp hq hl i (i+1) (Nat.le_refl _) (List.mem_range.1 hi)
theorem Q2z {B m:Nat} {p:List Int} (hp:bd B p) (hl:p.length≤m+1): ∀n,m*n+m≤62→bd ((B+7)*n+1) (pPow p n)
 |0,_=>by intro x hx;simp [pPow,Qaw]at hx;subst hx;simp
 |n+1,h=>by
  have ih:=Q2z hp hl n (by rw [Nat.mul_succ]at h;omega)
  have h1:=Qig hl n
  have:=Zju ih hp (by rw [Nat.mul_succ]at h;omega)
  refine Qm0 this ?_
  rw [Nat.mul_succ];omega
def Zp4 (f:List Int) (n:Nat):List Int:=Zp2 2 n (trans f 1 n)
def Zp5 (f:List Int) (n:Nat):List Int:=(Zp4 f.reverse n).reverse
end Go.Dg

namespace Go.Proofs.YtlpiamlgibomhaaGreat
open Go.Vl Go.RowKit Go.Dg
theorem Qd0 {n:Nat} (h:0<n) (hn:n<9223372036854775808):IntKind.i64.wrap ((n:Int)-1)=((n-1:Nat):Int):=by rw [Qai (by omega) (by omega)];omega
def Qaq (l:List Int):PV:= .slc (l.map (PV.int .i64))
theorem Qb8 (l:List Int) (i:Nat) (h:i<l.length):(l.map (PV.int .i64))[i]? =some (.int .i64 l[i]):=by rw [List.getElem?_map,List.getElem?_eq_getElem h];rfl
theorem map_take {α β:Type} (f:α→β) (l:List α) (i:Nat) (hi:i<l.length):(l.take (i+1)).map f=(l.take i).map f++[f l[i]]:=by rw [Qbq l i hi,List.map_append];rfl
end Go.Proofs.YtlpiamlgibomhaaGreat

namespace Go.Dg
def Qdb (p:List Int) (a b d:Int):Nat→List Int
 |0=>[]
 |i+1=>pAdd (Qdb p a b d i) (Qeg (pPow (Qaw [a,b]) i) (p.getD i 0*d^(p.length-1-i)))
theorem Qh3 (a b:Int):(Qaw [a,b]).length≤1+1:=Qbl _
theorem Zj9 (a b u:Int):ev (Qaw [a,b]) u=a+b*u:=by rw [Qe6];simp [ev,Int.mul_comm]
theorem Qxn (p:List Int) (a b d u:Int): ∀i,ev (Qdb p a b d i) u=sm (fun k=>p.getD k 0*((a+b*u)^k*d^(p.length-1-k))) i
 |0=>rfl
 |i+1=>by
  rw [Qdb,Q2x,Qxn p a b d u i,Qmz,Q2y,Zj9,sm]
  congr 1
  simp only [Int.mul_comm,Int.mul_left_comm,Int.mul_assoc]
theorem Q3k (p:List Int) (a b d u:Int):ev (Qdb p a b d p.length) u=hev p (a+b*u) d:=by rw [Qxn,Qh2]
theorem Qhk (p:List Int) (a b d:Int): ∀i,Qaw (Qdb p a b d i)=Qdb p a b d i
 |0=>rfl
 |i+1=>by rw [Qdb,pAdd,Qhh]
theorem Qd3 (p:List Int) (a b d:Int): ∀i,(Qdb p a b d i).length≤i
 |0=>Nat.le_refl _
 |i+1=>by
  rw [Qdb]
  have h1:=Qup (Qdb p a b d i) (Qeg (pPow (Qaw [a,b]) i) (p.getD i 0*d^(p.length-1-i)))
  have h2:=Qd3 p a b d i
  have h3:=Qiz (pPow (Qaw [a,b]) i) (p.getD i 0*d^(p.length-1-i))
  have h4:=Qig (m:=1) (Qh3 a b) i
  omega
theorem Zka {B:Nat} {a b:Int} (ha:a.natAbs<2^B) (hb:b.natAbs<2^B):bd B (Qaw [a,b]):=Qe7 fun x hx=>by
 rcases List.mem_cons.1 hx with rfl|hx
 ·exact ha
 ·rw [List.mem_singleton]at hx;subst hx;exact hb
theorem Qb6 {d:Int} {D:Nat} (h:d.natAbs<2^D) (k:Nat):(d^k).natAbs<2^(D*k+1):=by
 rw [Int.natAbs_pow]
 have h1:d.natAbs^k≤(2^D)^k:=Nat.pow_le_pow_left (Nat.le_of_lt h) k
 rw [←Nat.pow_mul]at h1
 rw [Nat.pow_succ]
 have:=Nat.pow_pos (n:=D*k) (show 0<2 by decide)
 omega
theorem Qxo {B C D:Nat} {p:List Int} {a b d:Int} (hp:bd B p) (ha:a.natAbs<2^C) (hb:b.natAbs<2^C) (hd:d.natAbs<2^D) (hl:p.length≤30):
  ∀i,i≤p.length→bd ((C+7)*30+1+(B+(D*30+1))+i) (Qdb p a b d i)
 |0,_=>fun x hx=>by cases hx
 |i+1,h=>by
  have ih:=Qxo hp ha hb hd hl i (by omega)
  have h1:=Q2z (m:=1) (Zka ha hb) (Qh3 a b) i (by omega)
  have h2:(C+7)*i≤(C+7)*30:=Nat.mul_le_mul_left _ (by omega)
  have h3:=Qb6 hd (p.length-1-i)
  have h4:D*(p.length-1-i)≤D*30:=Nat.mul_le_mul_left _ (by omega)
  have h5:(p.getD i 0*d^(p.length-1-i)).natAbs<2^(B+(D*30+1)):=by
   rw [Int.natAbs_mul,Nat.pow_add]
   exact Nat.mul_lt_mul'' (Qew hp i) (Nat.lt_of_lt_of_le h3 (Nat.pow_le_pow_right (by decide) (by omega)))
  have h6:=Qsh (Qm0 h1 (show(C+7)*i+1≤(C+7)*30+1 by omega)) h5
  exact Zjs ih (Qm0 h6 (Nat.le_add_right _ i))
end Go.Dg

namespace Go.Proofs.YtlpiamlgibomhaaGreat
open Go.Vl Go.RowKit Go.Dg
end Go.Proofs.YtlpiamlgibomhaaGreat
