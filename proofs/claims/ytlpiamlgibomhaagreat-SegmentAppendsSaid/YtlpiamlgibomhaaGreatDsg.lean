/-
  SA11, SA12, SA13, Dq, SP1, SP2, Dr, SN1, Bn, SN2, Ds, SP3, Du, SP4, Dsg (merged for the claim).
-/
import Derived.Test.YtlpiamlgibomhaaGreatSW3
import Derived.Test.YtlpiamlgibomhaaGreatUS3
import Derived.Test.YtlpiamlgibomhaaGreatSW32
set_option linter.unusedSimpArgs false
set_option linter.unusedVariables false
namespace Go.Proofs.YtlpiamlgibomhaaGreat
open Go.Vl Go.RowKit Go.Dg
theorem Zgr (r d:Nat) (hd:d<E9):Qc1 (d::digs E9 r)=digs E9 (r*E9+d):=by
 rw [Qkw E9_2 (d::digs E9 r) (by
  intro x hx
  rcases List.mem_cons.1 hx with rfl|hx
  ·exact hd
  ·exact Qlc E9_2 hx)]
 congr 1
 simp only [val,Qol E9_2]
 rw [Nat.mul_comm,Nat.add_comm]
theorem Q78 (V N i:Nat) (hi:i<N) (h:V/E9^i%E9=0):mix E9 0 V N (i+1)=mix E9 0 V N i:=by
 have h1:=Qh7 (B:=E9) (V:=0) (S:=V) (N:=N) (i:=i) (d:=0) hi h
 rw [←h1]
 apply List.ext_getElem?
 intro j
 rw [List.getElem?_set]
 by_cases e:i=j
 ·subst e
  simp only [if_true]
  rw [if_pos (by rw [Qbe];exact hi),Qcn _ _ _ _ _ hi,if_pos (by omega)]
  simp
 ·simp [e]
theorem app1 (d:Nat) (D:List PV) (bx:Bx) (hb:bx 606=none) (h4:bx 604=some {els:=[.int .i64 (d:Int)],esz:=1,ety:=3,fro:=0,live:=true,arr:=true}) (hD:D.length≤1000000000) (hok:D.all (fun e=>e.cells.length==1&&e.cells.all PV.okCell)=true):
  Qa7 Tryz.prog [] 606 (.call ⟨.builtin .append, #[.tmp 26,.tmp 27], #[22,22]⟩) [.bs 604 1 0 1,.slc D] bx=
   some (.done (.bs 606 1 0 (1+D.length)) [.kill 604,.new 606 {els:= .int .i64 (d:Int)::D,esz:=1,ety:=3,fro:=0,live:=true,arr:=true}],[(606,true),(604,true)]):=by
 have c1:((1+D.length)*8≤140737488355328)=True:=by simp only [eq_iff_iff,iff_true];omega
 have c2:(1+D.length≤maxLen)=True:=by simp only [eq_iff_iff,iff_true];unfold maxLen;omega
 skip
 simp -implicitDefEqProofs only [go_sem,Nat.reduceAdd,Nat.reduceLT,hok,c1,c2,hb,h4]
theorem Zgs {P:Program} (id:Nat) (bx:Bx) (fo:Operand) (as0:Array Operand) (ts:Array TypeId) (f b esz len:Nat) (B:Box) (xs:List PV) (hB:bx b=some B) (ha:B.arr=true) (he:B.esz=esz) (hx:B.els=xs) (hl:len=xs.length):
  Qa7 P [] id (.call ⟨.value fo,as0,ts⟩) [.fn f [] [],.bs b esz 0 len] bx=some (.call f [.slc xs] [.fro b len],[(b,false)]):=by
 subst hx;subst hl;subst he
 rw [Q7d]
 have e1:(B.soft.arr&&B.soft.esz==B.esz&&decide (B.els.length≤B.soft.els.length))=true:=by simp [Box.soft,ha]
 have e2:(List.drop 0 B.soft.els).take B.els.length=B.els:=by rw [List.drop_zero];exact List.take_of_length_le (Nat.le_refl _)
 have h0:esc0 (.bs b B.esz 0 B.els.length) bx=some ((.slc B.els,[.fro b B.els.length]),[(b,false)]):=by
  simp only [esc0,M.bind,M.soft,hB,M.ok,Nat.zero_add,e1,if_true,M.pure,List.nil_append,List.append_nil,e2,List.cons_append]
 have h1:Qf5 [.bs b B.esz 0 B.els.length] bx=some (([.slc B.els],[.fro b B.els.length]),[(b,false)]):=by
  simp only [Qf5,esc1,escC,M.bind,h0,M.pure,List.nil_append,List.append_nil]
 simp only [M.bind,Qfd,M.pure,h1,List.nil_append,List.append_nil]
set_option maxHeartbeats 1000000 in
theorem Q0r (a b:Nat) (hb:0<b) (ha:(digs E9 a).length≤10000000) (hbl:(digs E9 b).length≤10000000):Qag Tryz.prog 97 [di (digs E9 a),di (digs E9 b)] (.tup [di (digs E9 (a/b)),di (digs E9 (a%b))]):=by
 refine Qac (tb:=[]) 63 [.tmp 4,.tmp 5] [0,1,4,5,6,7,8,9,10,11,19,33,36,47] mixed Tryz.func97 rfl (by kernel_rfl) (by kernel_rfl) (by kernel_rfl) (by kernel_rfl) ?_
 have hn0:((0:Int)≤((digs E9 a).length:Int))=True:=by simp
 have hn1:((8:Nat):Int)*((digs E9 a).length:Int)≤281474976710656:=by omega
 have hn2:((digs E9 a).length:Int)≤9223372036854775807:=by omega
 have hlt:a<E9^(digs E9 a).length:=Qaz E9_2 a
 have hw:IntKind.i64.wrap (((digs E9 a).length:Int)-1)=((digs E9 a).length:Int)-1:=Qah (by omega) (by omega)
 simp -implicitDefEqProofs only [go_sem,Nat.reduceAdd,Nat.reduceMul,Nat.reduceEqDiff,Nat.reduceLT,Nat.reduceLeDiff,reduceCtorEq,di,List.length_map,hn0,hn1,hn2,Int.toNat_natCast,hw]
 generalize hN:(digs E9 a).length=N at*
 have hrep:List.replicate N (PV.int .i64 0)=(mix E9 0 (a/b) N N).map fI:=by rw [Qkv,Qqw];simp
 rw [hrep]
 refine Qat mixed (fun i:{i:Nat // i≤N}=>St.of [(0,di (digs E9 a)),(1,di (digs E9 b)),(6,.bs 102 1 0 N),(7,di (digs E9 (a/E9^i.1%b))),(8,.int .i64 ((i.1:Int)-1))]
  [(102,{els:=(mix E9 0 (a/b) N i.1).map fI,esz:=1,ety:=3,fro:=0,live:=true,arr:=true})]) (fun i=>i.1) ⟨N,Nat.le_refl _⟩ ?_ ?_
 ·refine Le.trans (Q7h 7 rfl) (Qal (θ:=[(102,102)]) rfl ?_ ?_)
  ·simp [Qad,lkp,ren1,ren0,di,Nat.div_eq_of_lt hlt,Qax]
  ·simp [Qak,lkp,Box.renames]
 ·rintro⟨i,hi⟩
  cases i with
  |zero=>
   have h1:((0:Int)≤((0:Nat):Int)-1)=False:=by simp
   have hll:=Qaj (B:=E9) (a/b) N
   have htk:((lows E9 (a/b) N).map fI).take N=(lows E9 (a/b) N).map fI:=List.take_of_length_le (by simp [hll])
   have e0:a/E9^0%b=a%b:=by rw [Nat.pow_zero,Nat.div_one]
   simp -implicitDefEqProofs only [go_sem,Nat.reduceAdd,Nat.reduceMul,Nat.reduceEqDiff,Nat.reduceLT,Nat.reduceLeDiff,reduceCtorEq,h1,Qgv,List.length_map,hll,htk]
   refine Qaf _ _ _ _ _ _ _ _ _ (Qje (lows E9 (a/b) N) (by rw [hll];simp [maxLen];omega)) ?_
   simp -implicitDefEqProofs only [go_sem,Nat.reduceAdd,Nat.reduceEqDiff,Nat.reduceLT,reduceCtorEq,di,e0]
   rw [Qbm E9_2,Nat.mod_eq_of_lt (Nat.lt_of_le_of_lt (Nat.div_le_self _ _) hlt)]
  |succ i=>
   have hs:(((i+1:Nat):Int)-1)=(i:Int):=by omega
   have h1:((0:Int)≤(i:Int))=True:=by simp
   have h2:((i:Int)<(N:Int))=True:=by simp;omega
   have hga:=Qap E9_2 (show i<(digs E9 a).length by omega)
   have e0:a/E9^(i+1)=a/E9^i/E9:=by rw [Nat.pow_succ,Nat.div_div_eq_div_mul]
   obtain⟨s1,s2⟩:=Qng (a/E9^i) b E9 (by decide) hb
   have e1:a/E9^i/b=a/b/E9^i:=by rw [Nat.div_div_eq_div_mul,Nat.div_div_eq_div_mul,Nat.mul_comm]
   rw [←e0]at s1 s2
   rw [e1]at s1
   have hset:=Qh7 (B:=E9) (V:=0) (S:=a/b) (N:=N) (i:=i) (d:=a/b/E9^i%E9) (by omega) rfl
   have hsame:=Q78 (a/b) N i (by omega)
   have hml:=Qbe (B:=E9) 0 (a/b) N (i+1)
   obtain⟨e,hgo⟩: ∃e:Nat,((mix E9 0 (a/b) N (i+1)).map fI)[i]? =some (PV.int .i64 (e:Int)):=⟨_,by rw [List.getElem?_map,Qcn _ _ _ _ _ (by omega)];rfl⟩
   have hdl:a/E9^i%E9<E9:=Nat.mod_lt _ (by decide)
   have hrl:a/E9^(i+1)%b<b:=Nat.mod_lt _ hb
   have hup:=Zgr (a/E9^(i+1)%b) (a/E9^i%E9) hdl
   have hL1:(digs E9 (a/E9^(i+1)%b)).length≤10000000:=Nat.le_trans (Qnq (Nat.le_of_lt hrl)) hbl
   have w4:IntKind.i64.wrap ((i:Int)-1)=(i:Int)-1:=Qah (by omega) (by omega)
   generalize a/E9^i%E9=d at*
   generalize a/E9^(i+1)%b=ρ at*
   have ht:=Qje (d::digs E9 ρ) (by rw [List.length_cons];unfold maxLen;omega)
   rw [hup,di,List.map_cons]at ht
   have hL2:(digs E9 (ρ*E9+d)).length≤10000001:=by
    refine Nat.le_trans ((Qam E9_2 _ ((digs E9 b).length+1)).2 ?_) (Nat.succ_le_succ hbl)
    have h5:=Nat.mul_le_mul_right E9 (show ρ+1≤b from hrl)
    have h6:=Nat.mul_lt_mul_of_pos_right (Qaz E9_2 b) (show 0<E9 by decide)
    rw [Nat.add_mul,Nat.one_mul]at h5
    rw [Nat.pow_succ]
    exact Nat.lt_trans (Nat.lt_of_lt_of_le (Nat.add_lt_add_left hdl _) h5) h6
   have c1:((1+(digs E9 ρ).length)*8≤140737488355328)=True:=by simp only [eq_iff_iff,iff_true];omega
   have c2:(1+(digs E9 ρ).length≤maxLen)=True:=by simp only [eq_iff_iff,iff_true];unfold maxLen;omega
   have hok:((digs E9 ρ).map fI).all (fun e=>e.cells.length==1&&e.cells.all PV.okCell)=true:=by rw [List.all_map,List.all_eq_true];intro _ _;rfl
   have hor:=Qo6 (ρ*E9+d) b (by omega)
   have c3:(1+(digs E9 ρ).length≤(digs E9 ρ).length+1)=True:=by simp only [eq_iff_iff,iff_true];omega
   have c4:List.take (1+(digs E9 ρ).length) (PV.int .i64 (d:Int)::(digs E9 ρ).map fI)=PV.int .i64 (d:Int)::(digs E9 ρ).map fI:=List.take_of_length_le (by rw [List.length_cons,List.length_map,Nat.add_comm];exact Nat.le_refl _)
   generalize hR:ρ*E9+d=R at*
   generalize digs E9 ρ=D at*
   have hap:=fun(bx:Bx) h1 h2=>app1 d (D.map fI) bx h1 h2 (by rw [List.length_map];omega) hok
   rw [List.length_map]at hap
   have hca:=fun(bx:Bx) hB=>Zgs (P:=Tryz.prog) 607 bx (.func 92) #[.tmp 28] #[22] 92 606 1 (1+D.length) {els:= .int .i64 (d:Int)::D.map fI,esz:=1,ety:=3,fro:=0,live:=true,arr:=true} (.int .i64 (d:Int)::D.map fI) hB rfl rfl rfl (by rw [List.length_cons,List.length_map,Nat.add_comm])
   simp -implicitDefEqProofs only [go_sem,Nat.reduceAdd,Nat.reduceMul,Nat.reduceEqDiff,Nat.reduceLT,Nat.reduceLeDiff,reduceCtorEq,di,hs,h1,h2,Qeq,hga,Int.toNat_natCast,List.length_map,hap,hca]
   refine Qaf _ _ _ _ _ _ _ _ _ ht ?_
   simp -implicitDefEqProofs only [go_sem,Nat.reduceAdd,Nat.reduceMul,Nat.reduceEqDiff,Nat.reduceLT,Nat.reduceLeDiff,reduceCtorEq,di]
   refine Qaf _ _ _ _ _ _ _ _ _ hor ?_
   by_cases hc:R<b
   ·have hc':(cmpN R b<0)=True:=by rw [Qoo hc];simp
    have hq0:R/b=0:=Nat.div_eq_of_lt hc
    rw [hq0]at s1
    rw [Nat.mod_eq_of_lt hc]at s2
    simp -implicitDefEqProofs only [go_sem,Nat.reduceAdd,Nat.reduceMul,Nat.reduceEqDiff,Nat.reduceLT,Nat.reduceLeDiff,reduceCtorEq,hc',w4]
    refine⟨⟨i,by omega⟩,by simp only;omega,Qal (θ:=[(102,102)]) rfl ?_ ?_⟩
    ·simp [Qad,lkp,ren1,ren0,di,←s2]
    ·simp [Qak,lkp,Box.renames,hsame s1.symm]
   ·have hc':(cmpN R b<0)=False:=by simp [cmpN];omega
    have hQ:R/b<E9:=by
     rw [Nat.div_lt_iff_lt_mul hb,←hR,Nat.mul_comm E9]
     have:=Nat.mul_le_mul_right E9 (show ρ+1≤b from hrl)
     rw [Nat.add_mul]at this
     omega
    simp -implicitDefEqProofs only [go_sem,Nat.reduceAdd,Nat.reduceMul,Nat.reduceEqDiff,Nat.reduceLT,Nat.reduceLeDiff,reduceCtorEq,hc']
    refine Qat mixed (fun p:{p:Nat×Nat // p.1≤R/b∧R/b≤p.2∧p.2<E9}=>St.of [(0,di (digs E9 a)),(1,di (digs E9 b)),(6,.bs 102 1 0 N),(7,di (digs E9 R)),(8,.int .i64 (i:Int)),(9,.int .i64 (p.1.1:Int)),(10,.int .i64 (p.1.2:Int))]
     [(102,{els:=(mix E9 0 (a/b) N (i+1)).map fI,esz:=1,ety:=3,fro:=0,live:=true,arr:=true})]) (fun p=>p.1.2-p.1.1) ⟨(0,999999999),Nat.zero_le _,by simp only [E9]at hQ;omega,by decide⟩ ?_ ?_
    ·refine Qal (θ:=[(102,102)]) rfl ?_ ?_
     ·simp [Qad,lkp,ren1,ren0,di]
     ·simp [Qak,lkp,Box.renames]
    ·rintro⟨⟨lo,hi⟩,p1,p2,p3⟩
     simp only at p1 p2 p3 ⊢
     simp only [E9]at p3
     by_cases hlh:lo<hi
     ·have g1:((lo:Int)<(hi:Int))=True:=by simp;omega
      have w1:=Qcf (a:=lo) (b:=hi) (by omega)
      have w2:=Qai (a:=lo+hi) (by omega)
      have t2:Int.tdiv ((lo+hi+1:Nat):Int) 2=(((lo+hi+1)/2:Nat):Int):=rfl
      have w3:=wrapn (n:=(lo+hi+1)/2) (by omega)
      generalize hmid:(lo+hi+1)/2=mid at*
      have hsm:=Qvf b mid (by simp only [E9];omega) (by omega)
      have hLb:(digs E9 (b*mid)).length≤1000000000:=by
       refine Nat.le_trans ((Qam E9_2 _ ((digs E9 b).length+1)).2 ?_) (show(digs E9 b).length+1≤1000000000 by omega)
       rw [Nat.pow_succ]
       exact Nat.mul_lt_mul_of_lt_of_le (Qaz E9_2 b) (show mid≤E9 by simp only [E9];omega) (by decide)
      have ho:=Qo6 (b*mid) R hLb
      have hiff:b*mid≤R↔mid≤R/b:=by rw [Nat.le_div_iff_mul_le hb,Nat.mul_comm]
      simp -implicitDefEqProofs only [go_sem,Nat.reduceAdd,Nat.reduceMul,Nat.reduceEqDiff,Nat.reduceLT,Nat.reduceLeDiff,reduceCtorEq,Int.reduceEq,di,g1,w1,w2,t2,w3]
      refine Qaf _ _ _ _ _ _ _ _ _ hsm ?_
      simp -implicitDefEqProofs only [go_sem,Nat.reduceAdd,Nat.reduceEqDiff,Nat.reduceLT,reduceCtorEq,di]
      refine Qaf _ _ _ _ _ _ _ _ _ ho ?_
      by_cases hm:b*mid≤R
      ·have g2:(cmpN (b*mid) R≤0)=True:=by simp [cmpN];omega
       have hm2:=hiff.1 hm
       simp -implicitDefEqProofs only [go_sem,Nat.reduceAdd,Nat.reduceMul,Nat.reduceEqDiff,Nat.reduceLT,Nat.reduceLeDiff,reduceCtorEq,g2]
       refine⟨⟨(mid,hi),hm2,p2,by simp only [E9];omega⟩,by simp only;omega,Qal (θ:=[(102,102)]) rfl ?_ ?_⟩
       ·simp [Qad,lkp,ren1,ren0,di]
       ·simp [Qak,lkp,Box.renames]
      ·have g2:(cmpN (b*mid) R≤0)=False:=by simp [cmpN];omega
       have hm2:=mt hiff.2 hm
       have w5:IntKind.i64.wrap ((mid:Int)-1)=((mid-1:Nat):Int):=by rw [Qah (by omega) (by omega)];omega
       simp -implicitDefEqProofs only [go_sem,Nat.reduceAdd,Nat.reduceMul,Nat.reduceEqDiff,Nat.reduceLT,Nat.reduceLeDiff,reduceCtorEq,g2,w5]
       refine⟨⟨(lo,mid-1),p1,by simp only;omega,by simp only [E9];omega⟩,by simp only;omega,Qal (θ:=[(102,102)]) rfl ?_ ?_⟩
       ·simp [Qad,lkp,ren1,ren0,di]
       ·simp [Qak,lkp,Box.renames]
     ·have g1:((lo:Int)<(hi:Int))=False:=by simp;omega
      obtain rfl:lo=R/b:=by omega
      have hsm:=Qvf b (R/b) hQ (by omega)
      have hle:b*(R/b)≤R:=Nat.mul_div_le R b
      have hmi:=Qo7 R (b*(R/b)) hle (by omega)
      have e3:R-b*(R/b)=R%b:=by have:=Nat.div_add_mod R b;omega
      rw [e3,s2]at hmi
      rw [←s1]at hset
      simp -implicitDefEqProofs only [go_sem,Nat.reduceAdd,Nat.reduceMul,Nat.reduceEqDiff,Nat.reduceLT,Nat.reduceLeDiff,reduceIte,reduceCtorEq,g1,di,hs,h1,h2,Int.toNat_natCast,List.length_map,hml,hgo]
      refine Qaf _ _ _ _ _ _ _ _ _ hsm ?_
      simp -implicitDefEqProofs only [go_sem,Nat.reduceAdd,Nat.reduceEqDiff,Nat.reduceLT,reduceCtorEq,di]
      refine Qaf _ _ _ _ _ _ _ _ _ hmi ?_
      simp -implicitDefEqProofs only [go_sem,Nat.reduceAdd,Nat.reduceMul,Nat.reduceEqDiff,Nat.reduceLT,Nat.reduceLeDiff,reduceCtorEq,di,w4]
      refine⟨⟨i,by omega⟩,by simp only;omega,Qal (θ:=[(102,102)]) rfl ?_ ?_⟩
      ·simp [Qad,lkp,ren1,ren0,di]
      ·rw [Qvc,hset]
       simp [Qak,lkp,Box.renames]
end Go.Proofs.YtlpiamlgibomhaaGreat

namespace Go.Proofs.YtlpiamlgibomhaaGreat
open Go.Vl Go.RowKit Go.Dg
theorem Q0s (a b:Nat):(digs E9 (a*b)).length≤(digs E9 a).length+(digs E9 b).length:=by
 refine(Qam E9_2 _ _).2 ?_
 rw [Nat.pow_add]
 exact Nat.mul_lt_mul'' (Qaz E9_2 _) (Qaz E9_2 _)
theorem Qlr (a b k:Nat) (h1:(digs E9 a).length≤k) (h2:(digs E9 b).length≤k):(digs E9 (a+b)).length≤k+1:=by
 rw [Qam E9_2]at h1 h2 ⊢
 rw [Nat.pow_succ]
 generalize E9^k=K at*
 simp only [E9]
 omega
theorem Zgt (x y:Int) (hy:y≠0):(0≤x-Int.tdiv x y*y→Int.tdiv x y=x/y∧x-Int.tdiv x y*y=x%y)∧
  (x-Int.tdiv x y*y<0→(if 0<y then Int.tdiv x y-1 else Int.tdiv x y+1)=x/y∧x-(if 0<y then Int.tdiv x y-1 else Int.tdiv x y+1)*y=x%y):=by
 have h1:y*Int.tdiv x y+Int.tmod x y=x:=Int.mul_tdiv_add_tmod x y
 have h2:=Int.natAbs_tmod x y
 have h3:=Nat.mod_lt x.natAbs (show 0<y.natAbs by omega)
 rw [←h2]at h3
 generalize Int.tdiv x y=q at*
 generalize Int.tmod x y=r at*
 have e:q*y=y*q:=Int.mul_comm _ _
 have key: ∀q' r':Int,r'+y*q'=x→0≤r'→r'<y.natAbs→q'=x/y∧r'=x%y:=by
  intro q' r' a1 a2 a3
  rcases Int.lt_or_gt_of_ne hy with hn|hp
  ·have:=(Int.ediv_emod_unique' (a:=x) (b:=y) (r:=r') (q:=q') hn).2 ⟨a1,a2,by omega⟩
   exact⟨this.1.symm,this.2.symm⟩
  ·have:=(Int.ediv_emod_unique (a:=x) (b:=y) (r:=r') (q:=q') hp).2 ⟨a1,a2,by omega⟩
   exact⟨this.1.symm,this.2.symm⟩
 rw [e]
 constructor
 ·intro h0
  exact key q (x-y*q) (by omega) h0 (by omega)
 ·intro h0
  by_cases hp:0<y
  ·rw [if_pos hp]
   have e2:(q-1)*y=y*q-y:=by rw [Int.sub_mul,Int.one_mul,e]
   have e3:y*(q-1)=y*q-y:=by rw [Int.mul_comm,e2]
   exact key (q-1) (x-(q-1)*y) (by omega) (by omega) (by omega)
  ·rw [if_neg hp]
   have e2:(q+1)*y=y*q+y:=by rw [Int.add_mul,Int.one_mul,e]
   have e3:y*(q+1)=y*q+y:=by rw [Int.mul_comm,e2]
   exact key (q+1) (x-(q+1)*y) (by omega) (by omega) (by omega)
theorem Zgu {a b:Nat} (h:a≤b):(digs E9 a).length≤(digs E9 b).length:=Qnq h
theorem Qxc (x y:Int):(if(!(decide (x<0)==decide (y<0)))=true then -((x.natAbs/y.natAbs:Nat):Int)else((x.natAbs/y.natAbs:Nat):Int))=Int.tdiv x y:=by
 cases x with
 |ofNat m=>cases y with
  |ofNat n=>
   have h1: ¬Int.ofNat m<0:=by simp
   have h2: ¬Int.ofNat n<0:=by simp
   simp only [h1,h2,decide_false,beq_self_eq_true,Bool.not_true,Bool.false_eq_true,if_false];rfl
  |negSucc n=>
   have h1: ¬Int.ofNat m<0:=by simp
   have h2:Int.negSucc n<0:=Int.negSucc_lt_zero n
   simp only [h1,h2,decide_false,decide_true,Bool.false_beq,Bool.not_true,Bool.not_false,if_true];rfl
 |negSucc m=>cases y with
  |ofNat n=>
   have h1:Int.negSucc m<0:=Int.negSucc_lt_zero m
   have h2: ¬Int.ofNat n<0:=by simp
   simp only [h1,h2,decide_false,decide_true,Bool.true_beq,Bool.not_false,if_true];rfl
  |negSucc n=>
   have h1:Int.negSucc m<0:=Int.negSucc_lt_zero m
   have h2:Int.negSucc n<0:=Int.negSucc_lt_zero n
   simp only [h1,h2,decide_true,beq_self_eq_true,Bool.not_true,Bool.false_eq_true,if_false];rfl
set_option maxHeartbeats 1000000 in
theorem Zmb (x y:Int) (hy:y≠0) (hx:(digs E9 x.natAbs).length≤1000000) (hyl:(digs E9 y.natAbs).length≤1000000):Qag Tryz.prog 106 [rI x,rI y] (.tup [rI (x/y),rI (x%y)]):=by
 have ho:=Q0r x.natAbs y.natAbs (by omega) (by omega) (by omega)
 have hm:=Qfn (!(decide (x<0)==decide (y<0))) (x.natAbs/y.natAbs)
 rw [Qxc]at hm
 have hql:(digs E9 (Int.tdiv x y).natAbs).length≤1000000:=by
  rw [Int.natAbs_tdiv];exact Nat.le_trans (Zgu (Nat.div_le_self _ _)) hx
 have h1l:(digs E9 1).length≤1000000:=Nat.le_trans (Q0u (by decide)) (by decide)
 obtain⟨f1,f2⟩:=Zgt x y hy
 have hnum:=Qey 1 (by decide) (by decide)
 generalize hq:Int.tdiv x y=q at*
 have hmq:(digs E9 (q*y).natAbs).length≤2000000:=by rw [Int.natAbs_mul];have:=Q0s q.natAbs y.natAbs;omega
 have m1:=Qvg q y (by omega)
 have s1:=Qnr x (q*y) (Nat.le_trans (Qlr _ _ 2000000 (by omega) hmq) (by decide))
 have g1:=Qsz (x-q*y)
 have g2:=Qsz y
 by_cases h0:x-q*y<0
 ·have c1:((x-q*y).sign<0)=True:=by simp only [eq_iff_iff,iff_true];rw [Int.sign_eq_neg_one_of_neg h0];decide
  obtain⟨e1,e2⟩:=f2 h0
  by_cases hp:0<y
  ·have c2:(0<y.sign)=True:=by simp only [eq_iff_iff,iff_true];rw [Int.sign_eq_one_of_pos hp];decide
   rw [if_pos hp]at e1 e2
   have s2:=Qnr q 1 (Nat.le_trans (Qlr _ _ 1000000 hql h1l) (by decide))
   have hq2:(digs E9 (q-1).natAbs).length≤1000001:=Nat.le_trans (Zgu (show(q-1).natAbs≤q.natAbs+1 by omega)) (Qlr _ _ 1000000 hql h1l)
   have m2:=Qvg (q-1) y (by omega)
   have hmq2:(digs E9 ((q-1)*y).natAbs).length≤2000001:=by rw [Int.natAbs_mul];have:=Q0s (q-1).natAbs y.natAbs;omega
   have s3:=Qnr x ((q-1)*y) (Nat.le_trans (Qlr _ _ 2000001 (by omega) hmq2) (by decide))
   rw [e1]at s2 m2 s3
   rw [e1]at e2
   rw [e2]at s3
   generalize x-q*y=r at*
   generalize q*y=p at*
   generalize x/y*y=p2 at*
   generalize x/y=Q at*
   generalize x%y=R at*
   generalize x.natAbs/y.natAbs=n1 at*
   generalize x.natAbs%y.natAbs=n2 at*
   refine Qac (tb:=[]) 50 [.cell 4 44,.cell 5 44] [0,1,2,3,4,5,6,7,8,9,32,35] mixed Tryz.func106 rfl (by kernel_rfl) (by kernel_rfl) (by kernel_rfl) (by kernel_rfl) ?_
   repeat (first|(simp -implicitDefEqProofs only [go_sem,Nat.reduceAdd,Nat.reduceMul,Nat.reduceEqDiff,Nat.reduceLT,Nat.reduceLeDiff,reduceCtorEq,Int.reduceLT,rI,di,c1,c2])|((with_reducible refine Qab (ho) ?_ ?_ ?_);(with_reducible rfl);rfl)|((with_reducible refine Qab (hm) ?_ ?_ ?_);(with_reducible rfl);rfl)|((with_reducible refine Qab (m1) ?_ ?_ ?_);(with_reducible rfl);rfl)|((with_reducible refine Qab (s1) ?_ ?_ ?_);(with_reducible rfl);rfl)|((with_reducible refine Qab (g1) ?_ ?_ ?_);(with_reducible rfl);rfl)|((with_reducible refine Qab (g2) ?_ ?_ ?_);(with_reducible rfl);rfl)|((with_reducible refine Qab (hnum) ?_ ?_ ?_);(with_reducible rfl);rfl)|((with_reducible refine Qab (s2) ?_ ?_ ?_);(with_reducible rfl);rfl)|((with_reducible refine Qab (m2) ?_ ?_ ?_);(with_reducible rfl);rfl)|((with_reducible refine Qab (s3) ?_ ?_ ?_);(with_reducible rfl);rfl)|(with_reducible exact Qaa _ _ (by kernel_rfl))|(with_reducible refine And.intro (Qaa _ _ (by kernel_rfl)) ?_))
  ·have c2:(0<y.sign)=False:=by simp only [eq_iff_iff,iff_false];rw [Int.sign_eq_neg_one_of_neg (by omega)];decide
   rw [if_neg hp]at e1 e2
   have s2:=Q0t q 1 (Nat.le_trans (Qlr _ _ 1000000 hql h1l) (by decide))
   have hq2:(digs E9 (q+1).natAbs).length≤1000001:=Nat.le_trans (Zgu (show(q+1).natAbs≤q.natAbs+1 by omega)) (Qlr _ _ 1000000 hql h1l)
   have m2:=Qvg (q+1) y (by omega)
   have hmq2:(digs E9 ((q+1)*y).natAbs).length≤2000001:=by rw [Int.natAbs_mul];have:=Q0s (q+1).natAbs y.natAbs;omega
   have s3:=Qnr x ((q+1)*y) (Nat.le_trans (Qlr _ _ 2000001 (by omega) hmq2) (by decide))
   rw [e1]at s2 m2 s3
   rw [e1]at e2
   rw [e2]at s3
   generalize x-q*y=r at*
   generalize q*y=p at*
   generalize x/y*y=p2 at*
   generalize x/y=Q at*
   generalize x%y=R at*
   generalize x.natAbs/y.natAbs=n1 at*
   generalize x.natAbs%y.natAbs=n2 at*
   refine Qac (tb:=[]) 50 [.cell 4 44,.cell 5 44] [0,1,2,3,4,5,6,7,8,9,32,35] mixed Tryz.func106 rfl (by kernel_rfl) (by kernel_rfl) (by kernel_rfl) (by kernel_rfl) ?_
   repeat (first|(simp -implicitDefEqProofs only [go_sem,Nat.reduceAdd,Nat.reduceMul,Nat.reduceEqDiff,Nat.reduceLT,Nat.reduceLeDiff,reduceCtorEq,Int.reduceLT,rI,di,c1,c2])|((with_reducible refine Qab (ho) ?_ ?_ ?_);(with_reducible rfl);rfl)|((with_reducible refine Qab (hm) ?_ ?_ ?_);(with_reducible rfl);rfl)|((with_reducible refine Qab (m1) ?_ ?_ ?_);(with_reducible rfl);rfl)|((with_reducible refine Qab (s1) ?_ ?_ ?_);(with_reducible rfl);rfl)|((with_reducible refine Qab (g1) ?_ ?_ ?_);(with_reducible rfl);rfl)|((with_reducible refine Qab (g2) ?_ ?_ ?_);(with_reducible rfl);rfl)|((with_reducible refine Qab (hnum) ?_ ?_ ?_);(with_reducible rfl);rfl)|((with_reducible refine Qab (s2) ?_ ?_ ?_);(with_reducible rfl);rfl)|((with_reducible refine Qab (m2) ?_ ?_ ?_);(with_reducible rfl);rfl)|((with_reducible refine Qab (s3) ?_ ?_ ?_);(with_reducible rfl);rfl)|(with_reducible exact Qaa _ _ (by kernel_rfl))|(with_reducible refine And.intro (Qaa _ _ (by kernel_rfl)) ?_))
 ·have c1:((x-q*y).sign<0)=False:=by simp only [eq_iff_iff,iff_false];have:=Int.sign_nonneg_iff.2 (show 0≤x-q*y by omega);omega
  obtain⟨e1,e2⟩:=f1 (by omega)
  rw [e2]at s1 g1 c1
  rw [e1]at hm m1 s1
  generalize q*y=p at*
  generalize x/y*y=p2 at*
  generalize x/y=Q at*
  generalize x%y=R at*
  generalize x.natAbs/y.natAbs=n1 at*
  generalize x.natAbs%y.natAbs=n2 at*
  refine Qac (tb:=[]) 50 [.cell 4 44,.cell 5 44] [0,1,2,3,4,5,6,7,8,9,32,35] mixed Tryz.func106 rfl (by kernel_rfl) (by kernel_rfl) (by kernel_rfl) (by kernel_rfl) ?_
  repeat (first|(simp -implicitDefEqProofs only [go_sem,Nat.reduceAdd,Nat.reduceMul,Nat.reduceEqDiff,Nat.reduceLT,Nat.reduceLeDiff,reduceCtorEq,rI,di,c1])|((with_reducible refine Qab (ho) ?_ ?_ ?_);(with_reducible rfl);rfl)|((with_reducible refine Qab (hm) ?_ ?_ ?_);(with_reducible rfl);rfl)|((with_reducible refine Qab (m1) ?_ ?_ ?_);(with_reducible rfl);rfl)|((with_reducible refine Qab (s1) ?_ ?_ ?_);(with_reducible rfl);rfl)|((with_reducible refine Qab (g1) ?_ ?_ ?_);(with_reducible rfl);rfl)|(with_reducible exact Qaa _ _ (by kernel_rfl))|(with_reducible refine And.intro (Qaa _ _ (by kernel_rfl)) ?_))
theorem Zmc (x y:Int) (hx:(digs E9 x.natAbs).length≤1000000) (hyl:(digs E9 y.natAbs).length≤1000000):Qag Tryz.prog 55 [rI x,rI y] (rI ((Nat.gcd x.natAbs y.natAbs:Nat):Int)):=by
 have hm:=Qfn false (Nat.gcd x.natAbs y.natAbs)
 simp only [Bool.false_eq_true,if_false]at hm
 refine Qac (tb:=[]) 26 [.cell 4 44] [0,1,2,3,4,5,6,8,15] mixed Tryz.func55 rfl (by kernel_rfl) (by kernel_rfl) (by kernel_rfl) (by kernel_rfl) ?_
 repeat (first|(simp -implicitDefEqProofs only [go_sem,Nat.reduceAdd,Nat.reduceMul,Nat.reduceEqDiff,Nat.reduceLT,Nat.reduceLeDiff,reduceCtorEq,rI,di])|((with_reducible refine Qab (hm) ?_ ?_ ?_);(with_reducible rfl);rfl)|(with_reducible exact Qaa _ _ (by kernel_rfl))|(with_reducible refine And.intro (Qaa _ _ (by kernel_rfl)) ?_))
 refine Qat mixed (fun p:{p:Nat×Nat // Nat.gcd p.1 p.2=Nat.gcd x.natAbs y.natAbs∧(digs E9 p.1).length≤1000000∧(digs E9 p.2).length≤1000000}=>St.of [(4,.bp 2 2 0 0),(5,di (digs E9 p.1.1)),(6,di (digs E9 p.1.2))]
  [(2,{els:=[.agg [.bool false,.nilS]],esz:=2,ety:=44,fro:=0,live:=true,arr:=false})]) (fun p=>p.1.2) ⟨(x.natAbs,y.natAbs),rfl,hx,hyl⟩ ?_ ?_
 ·refine Qal (θ:=[(2,2)]) rfl ?_ ?_
  ·simp [Qad,lkp,ren1,ren0,di]
  ·refine⟨⟨rfl,rfl,rfl,rfl,rfl,.inr ⟨rfl,_,_,rfl,rfl,rfl,rfl⟩⟩,trivial⟩
 ·rintro⟨⟨u,v⟩,h1,h2,h3⟩
  simp only at h1 h2 h3 ⊢
  by_cases hv:v=0
  ·subst hv
   have g1:((0:Int)<((0:Nat):Int))=False:=by simp
   rw [Nat.gcd_zero_right]at h1
   subst h1
   repeat (first|(simp -implicitDefEqProofs only [go_sem,Nat.reduceAdd,Nat.reduceMul,Nat.reduceEqDiff,Nat.reduceLT,Nat.reduceLeDiff,reduceCtorEq,rI,di,Qax,List.map_nil,List.length_nil,g1])|((with_reducible refine Qab (hm) ?_ ?_ ?_);(with_reducible rfl);rfl)|(with_reducible exact Qaa _ _ (by kernel_rfl))|(with_reducible refine And.intro (Qaa _ _ (by kernel_rfl)) ?_))
  ·have hp:0<(digs E9 v).length:=Q8a hv
   have g1:((0:Int)<((digs E9 v).length:Int))=True:=by simp only [eq_iff_iff,iff_true];omega
   have hd:=Q0r u v (Nat.pos_of_ne_zero hv) (by omega) (by omega)
   have hr:=Nat.mod_lt u (Nat.pos_of_ne_zero hv)
   repeat (first|(simp -implicitDefEqProofs only [go_sem,Nat.reduceAdd,Nat.reduceMul,Nat.reduceEqDiff,Nat.reduceLT,Nat.reduceLeDiff,reduceCtorEq,di,List.length_map,g1])|((with_reducible refine Qab (hd) ?_ ?_ ?_);(with_reducible rfl);rfl)|(with_reducible exact Qaa _ _ (by kernel_rfl))|(with_reducible refine And.intro (Qaa _ _ (by kernel_rfl)) ?_))
   refine⟨⟨(v,u%v),by rw [←h1,Nat.gcd_comm u v,Nat.gcd_rec v u,Nat.gcd_comm],h3,Nat.le_trans (Qnq (Nat.le_of_lt hr)) h3⟩,by simp only;exact hr,Qal (θ:=[(2,2)]) rfl ?_ ?_⟩
   ·simp [Qad,lkp,ren1,ren0,di]
   ·refine⟨⟨rfl,rfl,rfl,rfl,rfl,.inr ⟨rfl,_,_,rfl,rfl,rfl,rfl⟩⟩,trivial⟩
end Go.Proofs.YtlpiamlgibomhaaGreat

namespace Go.Proofs.YtlpiamlgibomhaaGreat
open Go.Vl Go.RowKit Go.Dg
theorem mod_lt {y:Int} {k:Nat} (x:Int) (h0:y≠0) (hy:y.natAbs<256^k):(x%y).natAbs<256^k:=by
 have h1:=Int.emod_nonneg x h0
 have h2:=Int.emod_lt x h0
 omega
theorem Zgv {n:Bool} {s:ByteArray} (h:Qbh n s.data.toList=true) (h0:s.data.toList≠ []):wnum n s≠0:=by
 intro e
 have h1:=Zdj n s h
 rw [e,Qvb]at h1
 simp only [PV.agg.injEq,List.cons.injEq,PV.str.injEq,PV.bool.injEq,and_true]at h1
 exact h0 (by rw [←h1.2])
theorem Q79 {n:Bool} {s:ByteArray} (h0:s.data.toList=[]):wnum n s=0:=by
 unfold wnum sv;rw [h0];cases n<;>rfl
section
variable (a b c d:Int) (k:Nat) (hk:k≤10000) (ha:a.natAbs<256^k) (hb:b.natAbs<256^k) (hc:c.natAbs<256^k) (hd:d.natAbs<256^k)
include hk ha hb hc hd
end
end Go.Proofs.YtlpiamlgibomhaaGreat

namespace Go.Dg

/-! ### sums -/
/-- The sum of the first n values. -/
def sm (f:Nat→Int):Nat→Int
  |0=>0
  |n+1=>sm f n+f n
theorem Qbp {f g:Nat→Int}: ∀(n:Nat),(∀i,i<n→f i=g i)→sm f n=sm g n
  |0,_=>rfl
  |n+1,h=>by rw [sm,sm,Qbp n (fun i hi=>h i (Nat.lt_succ_of_lt hi)),h n (Nat.lt_succ_self n)]
theorem Qou {f:Nat→Int}: ∀(n:Nat),(∀i,i<n→f i=0)→sm f n=0
  |0,_=>rfl
  |n+1,h=>by rw [sm,Qou n (fun i hi=>h i (Nat.lt_succ_of_lt hi)),h n (Nat.lt_succ_self n)];rfl
theorem Qu1 (f g:Nat→Int): ∀n,sm (fun i=>f i+g i) n=sm f n+sm g n
  |0=>rfl
  |n+1=>by simp only [sm,Qu1 f g n];omega
theorem Qd5 (c:Int) (f:Nat→Int): ∀n,sm (fun i=>c*f i) n=c*sm f n
  |0=>by simp [sm]
  |n+1=>by simp only [sm,Qd5 c f n,Int.mul_add]
theorem Qh4 (f:Nat→Int): ∀n,sm f (n+1)=f 0+sm (fun i=>f (i+1)) n
  |0=>by simp [sm]
  |n+1=>by rw [sm,Qh4 f n,sm];omega
theorem Qz0 (f:Nat→Int) {n m:Nat} (h:n≤m) (hz: ∀i,n≤i→i<m→f i=0):sm f m=sm f n:=by
  induction m with
  |zero=>obtain rfl:n=0:=by omega
         rfl
  |succ m ih=>
    rcases Nat.lt_or_eq_of_le h with h1|h1
    · rw [sm,ih (by omega) (fun i a b=>hz i a (by omega)),hz m (by omega) (by omega),Int.add_zero]
    · rw [h1]
theorem Qz1 (g:Nat→Nat→Int): ∀n,sm (fun j=>sm (fun i=>g i j) (j+1)) n=sm (fun i=>sm (fun k=>g i (i+k)) (n-i)) n
  |0=>rfl
  |n+1=>by
    rw [sm,Qz1 g n]
    have h1:sm (fun i=>sm (fun k=>g i (i+k)) (n+1-i)) n=sm (fun i=>sm (fun k=>g i (i+k)) (n-i)+g i n) n:=
      Qbp n fun i hi=>by
        have e:n+1-i=(n-i)+1:=by omega
        have e2:i+(n-i)=n:=by omega
        rw [e,sm,e2]
    have e3:n+1-n=1:=by omega
    rw [sm,sm,h1,Qu1,e3]
    simp only [sm,Nat.add_zero,Int.zero_add]
    omega
theorem Zf1 {f g:Nat→Int}: ∀(n:Nat),(∀i,i<n→f i≤g i)→sm f n≤sm g n
  |0,_=>Int.le_refl 0
  |n+1,h=>Int.add_le_add (Zf1 n fun i hi=>h i (Nat.lt_succ_of_lt hi)) (h n (Nat.lt_succ_self n))

/-! ### binomials -/
/-- The number of ways to choose k of n elements. -/
def bin:Nat→Nat→Nat
  |_,0=>1
  |0,_+1=>0
  |n+1,k+1=>bin n k+bin n (k+1)
theorem Qfk (n:Nat):bin n 0=1:=by cases n<;>rfl
theorem Qz2: ∀{n k:Nat},n<k→bin n k=0
  |0,0,h=>absurd h (Nat.lt_irrefl 0)
  |0,_+1,_=>rfl
  |n+1,0,h=>absurd h (Nat.not_lt_zero _)
  |n+1,k+1,h=>by rw [bin,Qz2 (by omega),Qz2 (by omega)]
/-- The next one of a row. -/
theorem Qky: ∀(n k:Nat),(bin n (k+1):Int)*((k:Int)+1)=(bin n k:Int)*((n:Int)-(k:Int))
  |0,0=>by simp [bin]
  |0,k+1=>by simp [bin]
  |n+1,0=>by
    have h:=Qky n 0
    rw [Qfk]at h ⊢
    rw [bin,Qfk]
    simp only [Int.natCast_add,Int.natCast_zero,Int.zero_add,Int.mul_one,Int.sub_zero,Int.one_mul]at h ⊢
    omega
  |n+1,k+1=>by
    have h1:=Qky n k
    have h2:=Qky n (k+1)
    rw [bin,bin]
    simp only [Int.natCast_add]at h1 h2 ⊢
    generalize (bin n k:Int)=a at*
    generalize (bin n (k+1):Int)=b at*
    generalize (bin n (k+1+1):Int)=c at*
    generalize (n:Int)=N at*
    generalize (k:Int)=K at*
    simp only [Int.mul_add,Int.add_mul,Int.mul_sub,Int.sub_mul]at h1 h2 ⊢
    simp only [Int.mul_one]at h1 h2 ⊢
    omega
theorem Qsl: ∀{n k:Nat},k≤n→0<bin n k
  |_,0,_=>by rw [Qfk];decide
  |0,k+1,h=>absurd h (by omega)
  |n+1,k+1,h=>by rw [bin];have:=Qsl (n:=n) (k:=k) (by omega);omega
theorem Qgw: ∀(n k:Nat),bin n k≤2^n
  |0,0=>by decide
  |0,_+1=>by simp [bin]
  |n+1,0=>by rw [Qfk];exact Nat.pow_pos (by decide)
  |n+1,k+1=>by rw [bin,Nat.pow_succ];have:=Qgw n k;have:=Qgw n (k+1);omega
theorem Qqj (x:Int) (n:Nat):x^(n+1)=x*x^n:=by rw [Int.pow_succ,Int.mul_comm]
/-- The power of a sum. -/
theorem Qsm (a b:Int): ∀n,sm (fun k=>(bin n k:Int)*(a^k*b^(n-k))) (n+1)=(a+b)^n
  |0=>by simp [sm,bin]
  |n+1=>by
    have ih:=Qsm a b n
    rw [Qh4]
    have h1:sm (fun k=>(bin (n+1) (k+1):Int)*(a^(k+1)*b^(n+1-(k+1)))) (n+1)
        =sm (fun k=>a*((bin n k:Int)*(a^k*b^(n-k)))+(bin n (k+1):Int)*(a^(k+1)*b^(n-k))) (n+1):=
      Qbp _ fun k _=>by
        have e:n+1-(k+1)=n-k:=by omega
        rw [e,bin,Int.natCast_add,Int.add_mul,Qqj]
        congr 1
        rw [Int.mul_assoc,Int.mul_left_comm]
    rw [h1,Qu1,Qd5,ih]
    have h2:sm (fun k=>(bin n (k+1):Int)*(a^(k+1)*b^(n-k))) (n+1)=sm (fun k=>b*((bin n (k+1):Int)*(a^(k+1)*b^(n-(k+1))))) n:=by
      rw [sm,Qz2 (Nat.lt_succ_self n),Int.natCast_zero,Int.zero_mul,Int.add_zero]
      refine Qbp _ fun k hk=> ?_
      have e:n-k=(n-(k+1))+1:=by omega
      rw [e,Qqj b]
      simp only [Int.mul_comm,Int.mul_left_comm,Int.mul_assoc]
    have h3:=Qh4 (fun k=>(bin n k:Int)*(a^k*b^(n-k))) n
    rw [ih]at h3
    rw [h2,Qd5,Qfk]
    rw [Qfk]at h3
    simp only [Int.pow_zero,Int.one_mul,Nat.sub_zero,Int.natCast_one]at h3 ⊢
    rw [Qqj,Qqj,Int.add_mul,h3]
    simp only [Int.mul_add]
    omega

/-! ### polynomials by their values -/
/-- A polynomial at x/y,times y to the power of its degree. -/
def hev:List Int→Int→Int→Int
  | [],_,_=>0
  |c::r,x,y=>c*y^r.length+x*hev r x y
theorem Qjy: ∀(p:List Int) (x y:Int),hev p x y=sm (fun i=>p.getD i 0*(x^i*y^(p.length-1-i))) p.length
  | [],_,_=>rfl
  |c::r,x,y=>by
    rw [hev,List.length_cons,Qh4,Qjy r x y,←Qd5]
    congr 1
    · simp
    · refine Qbp _ fun i hi=> ?_
      have e:r.length+1-1-(i+1)=r.length-1-i:=by omega
      rw [e,Qqj,List.getD_cons_succ]
      simp only [Int.mul_comm,Int.mul_left_comm,Int.mul_assoc]
/-- A list of sums of products,at two values. -/
theorem Q7t (F:Nat→Int) (n:Nat) (x y:Int):hev ((List.range (n+1)).map F) x y=sm (fun j=>F j*(x^j*y^(n-j))) (n+1):=by
  rw [Qjy]
  simp only [List.length_map,List.length_range]
  refine Qbp _ fun j hj=> ?_
  rw [List.getD_eq_getElem?_getD]
  simp [hj]

/-- The list whose value at x,y is the sum of f i x^i (c x+y)^(n-i). -/
def trans (f:List Int) (c:Int) (n:Nat):List Int:=(List.range (n+1)).map fun j=>sm (fun i=>f.getD i 0*(c^(j-i)*(bin (n-i) (j-i):Int))) (j+1)
theorem Qqk (f:List Int) (c:Int) (n:Nat):(trans f c n).length=n+1:=by simp [trans]
theorem Qu2 (a b:Int): ∀n:Nat,(a*b)^n=a^n*b^n
  |0=>by simp
  |n+1=>by rw [Qqj,Qqj,Qqj,Qu2 a b n];simp only [Int.mul_comm,Int.mul_left_comm,Int.mul_assoc]
theorem Qov (c:Int) (f:Nat→Int) (n:Nat):sm (fun i=>f i*c) n=sm f n*c:=by
  rw [Int.mul_comm,←Qd5];exact Qbp n fun i _=>Int.mul_comm _ _
theorem Qz3 (f:List Int) (c:Int) (n:Nat) (x y:Int):hev (trans f c n) x y=sm (fun i=>f.getD i 0*(x^i*(c*x+y)^(n-i))) (n+1):=by
  rw [trans,Q7t]
  have h1:sm (fun j=>sm (fun i=>f.getD i 0*(c^(j-i)*(bin (n-i) (j-i):Int))) (j+1)*(x^j*y^(n-j))) (n+1)
      =sm (fun j=>sm (fun i=>f.getD i 0*(c^(j-i)*(bin (n-i) (j-i):Int))*(x^j*y^(n-j))) (j+1)) (n+1):=
    Qbp _ fun j _=>(Qov _ _ _).symm
  rw [h1,Qz1 (fun i j=>f.getD i 0*(c^(j-i)*(bin (n-i) (j-i):Int))*(x^j*y^(n-j)))]
  refine Qbp _ fun i hi=> ?_
  have e:n+1-i=(n-i)+1:=by omega
  rw [←Qsm (c*x) y (n-i),e,←Qd5,←Qd5]
  refine Qbp _ fun k hk=> ?_
  have e1:i+k-i=k:=by omega
  have e2:n-(i+k)=n-i-k:=by omega
  rw [e1,e2,Qu2,Int.pow_add]
  simp only [Int.mul_comm,Int.mul_left_comm,Int.mul_assoc]
theorem Zf2 {f:List Int} {n:Nat} (h:f.length≤n+1) (x s:Int):sm (fun i=>f.getD i 0*(x^i*s^(n-i))) (n+1)=s^(n+1-f.length)*hev f x s:=by
  rw [Qz0 _ h (fun i h1 _=>by rw [List.getD_eq_getElem?_getD,List.getElem?_eq_none h1];simp),Qjy,←Qd5]
  refine Qbp _ fun i hi=> ?_
  have e:n-i=(n+1-f.length)+(f.length-1-i):=by omega
  rw [e,Int.pow_add]
  simp only [Int.mul_comm,Int.mul_left_comm,Int.mul_assoc]
theorem Qw3 {f:List Int} {n:Nat} (h:f.length≤n+1) (c x y:Int):hev (trans f c n) x y=(c*x+y)^(n+1-f.length)*hev f x (c*x+y):=by
  rw [Qz3,Zf2 h]
theorem Qw4 {f:List Int} {n:Nat} (h:f.length=n+1) (c x y:Int):hev (trans f c n) x y=hev f x (c*x+y):=by
  rw [Qw3 (by omega),h,Nat.sub_self,Int.pow_zero,Int.one_mul]
end Go.Dg

namespace Go.Proofs.YtlpiamlgibomhaaGreat
open Go.Vl Go.RowKit Go.Dg
theorem Qny {x y:Int} {B:Nat} (hx:x.natAbs<2^B) (hy:y.natAbs<2^B):(x+y).natAbs<2^(B+1):=by
 rw [Nat.pow_succ];generalize 2^B=K at*;omega
theorem Qgg {x y:Int} {B C:Nat} (hx:x.natAbs<2^B) (hy:y.natAbs<2^C):(x*y).natAbs<2^(B+C):=by
 rw [Int.natAbs_mul,Nat.pow_add];exact Nat.mul_lt_mul'' hx hy
theorem Zfa {x:Int} {B:Nat} (hx:x.natAbs<2^B):(-x).natAbs<2^B:=by rw [Int.natAbs_neg];exact hx
theorem Zfb {x:Int} (h:x.natAbs<2^65536):(digs 256 x.natAbs).length≤8192:=(Qam (by decide) x.natAbs 8192).2 (Qli (k:=8192) h (by decide))
theorem Qie {n:Int} (h:n.natAbs<2^65536):Qhs n= .tup [wPV n,.int .i64 0]:=by
 rw [Qhs,if_neg (Nat.not_lt.2 (Qdh 65536 _ h))]
abbrev mB (x:Int):ByteArray:=⟨(magL x.natAbs).toArray⟩
theorem Qc7 {x:Int} (h:x.natAbs<2^65536):(mB x).size≤100000:=by rw [Q0q];have:=Zfb h;omega
theorem Qcg {x:Int} (h:x.natAbs<2^65536):Qbh (decide (x<0)) (mB x).data.toList=true:=Qtw x (Zfb h)
theorem Qly (x:Int):(bnum (mB x).data.toList)=x.natAbs:=by
 have h:=Qcp x
 unfold wnum at h
 have h2:=congrArg Int.natAbs h
 rwa [Zn4]at h2
theorem Zfc {x y:Int} (hx:x.natAbs<2^65536) (hy:y.natAbs<2^65536):Qag Tryz.prog 126 [wPV x,wPV y] (Qhs (x*y)):=by
 have h:=Znz (decide (x<0)) (decide (y<0)) (mB x) (mB y) (Qcg hx) (Qcg hy) (Qc7 hx) (Qc7 hy)
 rwa [Qcp,Qcp]at h
theorem Zfd {x y:Int} (hx:x.natAbs<2^65536) (hy:y.natAbs<2^65536):Qag Tryz.prog 103 [wPV x,wPV y] (Qhs (x+y)):=by
 have h:=Znp (decide (x<0)) (decide (y<0)) (mB x) (mB y) (Qcg hx) (Qcg hy) (Qc7 hx) (Qc7 hy)
 rwa [Qcp,Qcp]at h
theorem Zmw {x y:Int} (hx:x.natAbs<2^65536) (hy:y.natAbs<2^65536):Qag Tryz.prog 90 [wPV x,wPV y] (Qhs ((Nat.gcd x.natAbs y.natAbs:Nat):Int)):=by
 have h:=Zn0 (decide (x<0)) (decide (y<0)) (mB x) (mB y) (Qcg hx) (Qcg hy) (Qc7 hx) (Qc7 hy)
 rwa [Qly,Qly]at h
theorem Q1o {x:Int} (hx:x.natAbs<2^65536):Qag Tryz.prog 141 [wPV x] (.int .i64 x.sign):=by
 have h:=Q5q (decide (x<0)) (mB x) (Qcg hx) (Qc7 hx)
 rwa [Qcp]at h
theorem Zmx {x:Int} (hx:x.natAbs<2^65536):Qag Tryz.prog 164 [wPV x] (.int .i64 (blen x.natAbs:Int)):=by
 have h:=Zns (decide (x<0)) (mB x) (Qcg hx) (Qc7 hx)
 rwa [Qly]at h
theorem Qlz {x:Int} (hx:x.natAbs<2^65536):Qag Tryz.prog 61 [wPV x] (Qdn x):=by
 have h:=Znr (decide (x<0)) (mB x) (Qcg hx) (Qc7 hx)
 rwa [Qcp]at h
theorem Qnz {x y:Int} (hx:x.natAbs<2^65536) (hy:y.natAbs<2^65536):Qag Tryz.prog 89 [wPV x,wPV y] (.int .i64 (x-y).sign):=by
 have h:=Qyu (decide (x<0)) (decide (y<0)) (mB x) (mB y) (Qcg hx) (Qcg hy) (Qc7 hx) (Qc7 hy)
 rwa [Qcp,Qcp]at h
theorem Qk1 {x:Int} (hx:x.natAbs<2^65536):Qag Tryz.prog 100 [wPV x] (.bool true):=by
 have h:=Qfq (decide (x<0)) (mB x)
 rwa [Qcg hx]at h
theorem Zmy {x:Int} (h:x≠0):(mB x).data.toList≠ []:=fun e=>h ((Qpn x).1 e)
theorem Zmz {x y:Int} (hx:x.natAbs<2^65536) (hy:y.natAbs<2^65536) (h0:y≠0):Qag Tryz.prog 102 [wPV x,wPV y] (Zdm x y):=by
 have h:=Zn3 (decide (x<0)) (decide (y<0)) (mB x) (mB y) (Qcg hx) (Qcg hy) (Zmy h0) (Qc7 hx) (Qc7 hy)
 rwa [Qcp,Qcp]at h
theorem Qs7 {x:Int} {B k:Nat} (h:x.natAbs<2^B) (hk:B≤8*k):(digs E9 x.natAbs).length≤k:=(Qvx x k (Qli h hk)).1
theorem Zpo {x:Int} {B k:Nat} (h:x.natAbs<2^B) (hk:B≤8*k):(digs 256 x.natAbs).length≤k:=(Qvx x k (Qli h hk)).2
theorem Q8r {x:Int} (h:x.natAbs<2^8000000):Qag Tryz.prog 66 [rI x] (wPV x):=Zo5 x (Qs7 h (by decide)) (Nat.le_trans (Zpo h (k:=1000000) (by decide)) (by decide))
theorem Qvt {x y:Int} (hx:x.natAbs<2^7000000) (hy:y.natAbs<2^7000000):Qag Tryz.prog 95 [rI x,rI y] (rI (x+y)):=
 Q0t x y (Zfj (k:=1000000) (by decide) (Qli (k:=1000000) hx (by decide)) (Qli (k:=1000000) hy (by decide)))
theorem Qhg {x y:Int} (hx:x.natAbs<2^7000000) (hy:y.natAbs<2^7000000):Qag Tryz.prog 52 [rI x,rI y] (rI (x*y)):=
 Qvg x y (by have:=Qs7 hx (k:=1000000) (by decide);have:=Qs7 hy (k:=1000000) (by decide);omega)
theorem Zfe {x y:Int} (hx:x.natAbs<2^7000000) (hy:y.natAbs<2^7000000) (h0:y≠0):Qag Tryz.prog 106 [rI x,rI y] (.tup [rI (x/y),rI (x%y)]):=
 Zmb x y h0 (Qs7 hx (by decide)) (Qs7 hy (by decide))
theorem Q1p {x y:Int} (hx:x.natAbs<2^7000000) (hy:y.natAbs<2^7000000):Qag Tryz.prog 55 [rI x,rI y] (rI ((Nat.gcd x.natAbs y.natAbs:Nat):Int)):=
 Zmc x y (Qs7 hx (by decide)) (Qs7 hy (by decide))
theorem Qfc {x y:Int} (hx:x.natAbs<2^7000000) (hy:y.natAbs<2^7000000):Qag Tryz.prog 56 [rI x,rI y] (.int .i64 (x-y).sign):=
 Qxd x y (Zfj (k:=1000000) (by decide) (Qli (k:=1000000) hx (by decide)) (Qli (k:=1000000) hy (by decide)))
end Go.Proofs.YtlpiamlgibomhaaGreat

namespace Go.Proofs.YtlpiamlgibomhaaGreat
open Go.Vl Go.RowKit Go.Dg
def wA (p:Bool×ByteArray):PV:= .agg [.bool p.1,.str p.2]
theorem Zff (l:List (Bool×ByteArray)) (i:Nat) (h:i<l.length):(l.map wA)[i]? =some (.agg [.bool l[i].1,.str l[i].2]):=by
 rw [List.getElem?_map,List.getElem?_eq_getElem h];rfl
theorem Zfg (a b:ByteArray):(a==b)=(a.data==b.data):=rfl
theorem Q1q (b:ByteArray):(b==b)=true:=by rw [Zfg];exact beq_self_eq_true _
def wL (xs:List Int):PV:= .slc (xs.map wPV)
def rL (xs:List Int):PV:= .slc (xs.map rI)
theorem Qc8 (xs:List Int) (i:Nat) (h:i<xs.length):(xs.map wPV)[i]? =some (.agg [.bool (decide (xs[i]<0)),.str (mB xs[i])]):=by
 rw [List.getElem?_map,List.getElem?_eq_getElem h];rfl
theorem Zfh (xs:List Int) (i:Nat) (h:i<xs.length):(xs.map rI)[i]? =some (.agg [.bool (decide (xs[i]<0)),di (digs E9 xs[i].natAbs)]):=by
 rw [List.getElem?_map,List.getElem?_eq_getElem h];rfl
theorem Zhg (xs:List Int):(((xs.map wPV).flatMap PV.cells).all PV.okCell)=true:=by
 rw [List.all_flatMap,List.all_map,List.all_eq_true];intro _ _;rfl
theorem Zm0 (xs:List Int):(((xs.map rI).flatMap PV.cells).all PV.okCell)=true:=by
 rw [List.all_flatMap,List.all_map,List.all_eq_true];intro _ _;rfl
theorem Qvu {α:Type} {p:α→Bool} {l:List α} {i:Nat} (hi:i<l.length) (h:(l.take i).all p=true) (hp:p l[i]=true):(l.take (i+1)).all p=true:=by
 rw [List.take_add_one,List.all_append,h];simp [hi,hp]
theorem Qs8 {α:Type} {p:α→Bool} {l:List α} {i:Nat} (hi:i<l.length) (hp:p l[i]=false):l.all p=false:=by
 rw [List.all_eq_false];exact⟨l[i],List.getElem_mem hi,by simp [hp]⟩
theorem Qbk {α:Type} (l:List α) (i:Nat) (hi:i<l.length):l.take (i+1)=l.take i++[l[i]]:=by rw [List.take_add_one];simp [hi]
theorem ltT {i n:Nat} (h:i<n):((i:Int)<(n:Int))=True:=by simp only [eq_iff_iff,iff_true];omega
theorem ltF {i n:Nat} (h: ¬i<n):((i:Int)<(n:Int))=False:=by simp only [eq_iff_iff,iff_false];omega
theorem leT {i n:Nat} (h:i≤n):((i:Int)≤(n:Int))=True:=by simp only [eq_iff_iff,iff_true];omega
theorem leF {i n:Nat} (h: ¬i≤n):((i:Int)≤(n:Int))=False:=by simp only [eq_iff_iff,iff_false];omega
theorem nnT (i:Nat):((0:Int)≤(i:Int))=True:=by simp
def topB (l:List (Bool×ByteArray)):Bool:=match l[l.length-1]? with
 |some p=>decide (0<p.2.size)
 |none=>true
def Qvv (l:List (Bool×ByteArray)):Bool:=l.all fun p=>Qbh p.1 p.2.data.toList
def Qs9 (l:List (Bool×ByteArray)):Bool:=Qvv l&&(decide (l.length≤25)&&topB l)
theorem Qrb {l:List (Bool×ByteArray)} (h:l.length-1<l.length):topB l=decide (0<(l[l.length-1]'h).2.size):=by
 unfold topB;rw [List.getElem?_eq_getElem h]
theorem Q8s (l:List (Bool×ByteArray)) (hl:l.length≤100000) (hs2: ∀p∈l,p.2.size≤100000):Qag Tryz.prog 140 [.slc (l.map wA)] (.bool (Qs9 l)):=by
 refine Qac (tb:=[]) 33 [.tmp 2] [0,2,4,5,6,7,8,13] mixed Tryz.func140 rfl (by kernel_rfl) (by kernel_rfl) (by kernel_rfl) (by kernel_rfl) ?_
 simp -implicitDefEqProofs only [go_sem,Nat.reduceAdd,Nat.reduceMul,Nat.reduceEqDiff,Nat.reduceLT,Nat.reduceLeDiff,reduceCtorEq,List.length_map]
 refine Qat mixed (fun i:{i:Nat // i≤l.length∧(l.take i).all (fun p=>Qbh p.1 p.2.data.toList)=true}=>St.of [(0,.slc (l.map wA)),(5,.slc (l.map wA)),(6,.int .i64 (l.length:Int)),(7,.int .i64 (i.1:Int))] []) (fun i=>l.length-i.1) ⟨0,Nat.zero_le _,rfl⟩ ?_ ?_
 ·exact Qa1 (by simp [Qad,lkp,ren1,ren0])
 ·rintro⟨i,hi,hall⟩
  by_cases hA:i<l.length
  ·have hA':=ltT hA
   have h0:=nnT i
   have hg:=Zff l i hA
   have hwk:=Qai (a:=i) (by omega)
   simp -implicitDefEqProofs only [go_sem,Nat.reduceAdd,Nat.reduceMul,Nat.reduceEqDiff,Nat.reduceLT,Nat.reduceLeDiff,reduceCtorEq,hA',h0,hg,Int.toNat_natCast]
   refine Qaf _ _ _ _ _ _ _ _ _ (Qfq l[i].1 l[i].2) ?_
   cases hs:Qbh l[i].1 l[i].2.data.toList with
   |true=>
    simp -implicitDefEqProofs only [go_sem,Nat.reduceAdd,Nat.reduceMul,Nat.reduceEqDiff,Nat.reduceLT,Nat.reduceLeDiff,reduceCtorEq,hwk]
    exact⟨⟨i+1,hA,Qvu hA hall hs⟩,by simp only;omega,Qa1 (by simp [Qad,lkp,ren1,ren0])⟩
   |false=>
    have e:Qs9 l=false:=by unfold Qs9 Qvv;rw [Qs8 hA hs];rfl
    simp -implicitDefEqProofs only [go_sem,Nat.reduceAdd,Nat.reduceMul,Nat.reduceEqDiff,Nat.reduceLT,Nat.reduceLeDiff,reduceCtorEq,e]
  ·have hA':=ltF hA
   rw [List.take_of_length_le (by omega)]at hall
   have e0:Qs9 l=(decide (l.length≤25)&&topB l):=by unfold Qs9 Qvv;rw [hall,Bool.true_and]
   rw [e0]
   by_cases h25:l.length≤25
   ·have h25':((l.length:Int)≤25)=True:=by simp only [eq_iff_iff,iff_true];omega
    rw [decide_eq_true h25,Bool.true_and]
    by_cases hz:l.length=0
    ·have hz':((l.length:Int)==0)=true:=by rw [hz];rfl
     have ht:topB l=true:=by rw [List.length_eq_zero_iff.1 hz];rfl
     repeat (first|(simp -implicitDefEqProofs only [go_sem,Nat.reduceAdd,Nat.reduceMul,Nat.reduceEqDiff,Nat.reduceLT,Nat.reduceLeDiff,reduceCtorEq,hA',h25',hz',ht,List.length_map]))
    ·have hz':((l.length:Int)==0)=false:=by simp only [beq_eq_false_iff_ne,ne_eq];omega
     have hlt:l.length-1<l.length:=by omega
     have hg:=Zff l (l.length-1) hlt
     have hwm:IntKind.i64.wrap ((l.length:Int)-1)=((l.length-1:Nat):Int):=by rw [Qah (by omega) (by omega)];omega
     have h0:=nnT (l.length-1)
     have hv:=List.all_eq_true.1 hall _ (List.getElem_mem hlt)
     have hsg:=Q5q l[l.length-1].1 l[l.length-1].2 hv (hs2 _ (List.getElem_mem hlt))
     have e5:((wnum l[l.length-1].1 l[l.length-1].2).sign != 0)=topB l:=by
      rw [Qrb hlt,bne,Bool.eq_iff_iff]
      simp only [Bool.not_eq_true',beq_eq_false_iff_ne,ne_eq,Int.sign_eq_zero_iff_zero,decide_eq_true_eq]
      rw [Qho]
      constructor
      ·intro h
       refine Nat.pos_of_ne_zero fun e=>h ?_
       exact Q79 (List.length_eq_zero_iff.1 e)
      ·intro h
       exact Zgv hv (fun e=>by rw [e]at h;exact absurd h (by decide))
     repeat (first|(simp -implicitDefEqProofs only [go_sem,Nat.reduceAdd,Nat.reduceMul,Nat.reduceEqDiff,Nat.reduceLT,Nat.reduceLeDiff,reduceCtorEq,hA',h25',hz',hwm,h0,hg,e5,List.length_map,Int.toNat_natCast])|((with_reducible refine Qab (hsg) ?_ ?_ ?_);(with_reducible rfl);rfl))
   ·have h25':((l.length:Int)≤25)=False:=by simp only [eq_iff_iff,iff_false];omega
    rw [decide_eq_false h25,Bool.false_and]
    repeat (first|(simp -implicitDefEqProofs only [go_sem,Nat.reduceAdd,Nat.reduceMul,Nat.reduceEqDiff,Nat.reduceLT,Nat.reduceLeDiff,reduceCtorEq,hA',h25',List.length_map]))
end Go.Proofs.YtlpiamlgibomhaaGreat

namespace Go.Dg
def upto (F:Nat→Int) (N j:Nat):List Int:=(List.range N).map fun m=>if m<j then F m else 0
theorem Qfl (F:Nat→Int) (N j:Nat):(upto F N j).length=N:=by simp [upto]
theorem Qz4 (F:Nat→Int) (N:Nat):upto F N 0=List.replicate N 0:=by
 refine List.ext_getElem? fun i=> ?_
 simp only [upto,List.getElem?_map,List.getElem?_replicate,Nat.not_lt_zero,if_false]
 by_cases h:i<N
 ·simp [h]
 ·simp [h]
theorem Qu3 (F:Nat→Int) (N j i:Nat) (h:i<N):(upto F N j)[i]? =some (if i<j then F i else 0):=by
 simp [upto,h]
theorem Q7u (F:Nat→Int) (N j:Nat) (h:j<N):(upto F N j).set j (F j)=upto F N (j+1):=by
 refine List.ext_getElem? fun i=> ?_
 rw [List.getElem?_set]
 by_cases hi:i<N
 ·rw [Qu3 _ _ _ _ hi,Qu3 _ _ _ _ hi,Qfl]
  by_cases e:j=i
  ·subst e;simp [h]
  ·rw [if_neg e]
   congr 1
   by_cases h1:i<j
   ·rw [if_pos h1,if_pos (by omega)]
   ·rw [if_neg h1,if_neg (by omega)]
 ·have e1:(upto F N j)[i]? =none:=List.getElem?_eq_none (by rw [Qfl];omega)
  have e2:(upto F N (j+1))[i]? =none:=List.getElem?_eq_none (by rw [Qfl];omega)
  rw [e1,e2,if_neg (by omega)]
theorem Qz5 (F:Nat→Int) (N j:Nat) (h:N≤j):upto F N j=(List.range N).map F:=by
 refine List.map_congr_left fun m hm=> ?_
 rw [if_pos (Nat.lt_of_lt_of_le (List.mem_range.1 hm) h)]
theorem Zeq {f:Nat→Int} {C:Nat}: ∀(m:Nat),(∀i,i<m→(f i).natAbs≤C)→(sm f m).natAbs≤m*C
 |0,_=>by simp [sm]
 |m+1,h=>by
  have h1:=Zeq m (fun i hi=>h i (by omega))
  have h2:=h m (Nat.lt_succ_self m)
  rw [sm,Nat.succ_mul]
  omega
theorem Q7v {xs:List Int} {B:Nat} (h: ∀x∈xs,x.natAbs<2^B) (i:Nat):(xs.getD i 0).natAbs<2^B:=by
 rw [List.getD_eq_getElem?_getD]
 cases e:xs[i]? with
 |none=>exact Nat.pow_pos (by decide)
 |some x=>exact h x (List.mem_of_getElem? e)
theorem Qz6 {n k:Nat} (h:k≤n):bin n k*(n-k)=bin n (k+1)*(k+1):=by
 have h1:=Qky n k
 have e:((n-k:Nat):Int)=(n:Int)-(k:Int):=by omega
 rw [←e]at h1
 have h2:((bin n (k+1)*(k+1):Nat):Int)=((bin n k*(n-k):Nat):Int):=by rw [Int.natCast_mul,Int.natCast_mul,←h1];rfl
 omega
def Qc4 (bl:Nat→Nat) (xs:List Int):Nat:=xs.foldl (fun n x=>if n<bl x.natAbs then bl x.natAbs else n) 0
theorem Qw5 (bl:Nat→Nat) (xs:List Int) (x:Int):Qc4 bl (xs++[x])=if Qc4 bl xs<bl x.natAbs then bl x.natAbs else Qc4 bl xs:=by
 rw [Qc4,List.foldl_append];rfl
theorem Qjz (bl:Nat→Nat) (C:Nat): ∀(xs:List Int) (a:Nat),a≤C→(∀x∈xs,bl x.natAbs≤C)→xs.foldl (fun n x=>if n<bl x.natAbs then bl x.natAbs else n) a≤C
 | [],a,ha,_=>ha
 |x::xs,a,ha,h=>by
  rw [List.foldl_cons]
  refine Qjz bl C xs _ ?_ fun y hy=>h y (by simp [hy])
  split
  ·exact h x (by simp)
  ·exact ha
theorem Qu4 {bl:Nat→Nat} {xs:List Int} {C:Nat} (h: ∀x∈xs,bl x.natAbs≤C):Qc4 bl xs≤C:=Qjz bl C xs 0 (Nat.zero_le _) h
end Go.Dg

namespace Go.Proofs.YtlpiamlgibomhaaGreat
open Go.Vl Go.RowKit Go.Dg
theorem Q8q {a b:Nat} (h:b≤a) (ha:a<9223372036854775808):IntKind.i64.wrap ((a:Int)-(b:Int))=((a-b:Nat):Int):=by rw [Qah (by omega) (by omega)];omega
theorem ne0 (a:Nat):(((a+1:Nat):Int)=0)=False:=by simp only [eq_iff_iff,iff_false];omega
theorem Qra {n i m:Nat} (hn:n≤50) (hm:m≤50):bin n i*m<9223372036854775808:=by
 have h1:=Qgw n i
 have h2:2^n≤2^50:=Nat.pow_le_pow_right (by decide) hn
 have h3:bin n i*m≤2^50*50:=Nat.mul_le_mul (Nat.le_trans h1 h2) hm
 have e:(2:Nat)^50*50=56294995342131200:=rfl
 omega
end Go.Proofs.YtlpiamlgibomhaaGreat

namespace Go.Vl
def Qjw:PV→PV
 | .nilS=> .slc []
 |v=>v
def Qwv:PV→PV
 | .agg cs=> .agg (cs.map Qjw)
 |v=>Qjw v
theorem Qk7 (v:PV):(Qwv v).cells=v.cells.map Qjw:=by
 cases v<;>rfl
theorem Qnd (l:List PV):(l.map Qwv).flatMap PV.cells=(l.flatMap PV.cells).map Qjw:=by
 induction l with
 |nil=>rfl
 |cons v l ih=>simp only [List.map_cons,List.flatMap_cons,List.map_append,Qk7,ih]
theorem Rep.up {w:World} {im:Im} {v:PV} {u:Value} (h:Rep w im v u):Rep w im (Qjw v) u:=by
 cases v with
 |nilS=>cases h;exact .slcNil 0 (Nat.zero_le _)
 |_=>exact h
theorem LR.up {w:World} {im:Im} {ρ:Rho} {v:PV} {u:Value} (h:LR w im ρ v u):LR w im ρ (Qjw v) u:=by
 cases v with
 |nilS=>rw [h.nilS_inv];exact .ext _ _ (.slcNil 0 (Nat.zero_le _))
 |_=>exact h
theorem RepL.up {w:World} {im:Im}: ∀{vs:List PV} {us:List Value},RepL w im vs us→RepL w im (vs.map Qjw) us
 |_,_,.nil=> .nil
 |_,_,.cons _ _ _ _ h t=> .cons _ _ _ _ h.up t.up
theorem LRL.up {w:World} {im:Im} {ρ:Rho}: ∀{vs:List PV} {us:List Value},LRL w im ρ vs us→LRL w im ρ (vs.map Qjw) us
 |_,_,.nil=> .nil
 |_,_,.cons _ _ _ _ h t=> .cons _ _ _ _ h.up t.up
theorem Qe6.up {own:Nat→Prop} {w:World} {im:Im} {ρ:Rho} {B:Box} {x:Option Nat} (h:Qe6 own w im ρ B x):Qe6 own w im ρ {B with els:=B.els.map Qwv} x:=by
 cases x with
 |none=>obtain⟨h1,h2,h3,h4⟩:=h;exact⟨by simp [h1],h2,h3,h4⟩
 |some g=>
  obtain⟨h1,h2,h3,h4,cur,us,rest,h5,h6,h7,h8,h9,h10,h11⟩:=h
  refine⟨h1,by simpa using h2,h3,?_,cur,us,rest,h5,h6,?_,?_,h9,h10,h11⟩
  ·intro e he
   obtain⟨v,hv,rfl⟩:=List.mem_map.1 he
   rw [Qk7,List.length_map];exact h4 v hv
  ·simp only [Qnd];exact h7.up
  ·intro ha;simp only [Qnd];exact(h8 ha).up
theorem Zoz {st:St} {b:Nat} {B:Box} (hB:st.box b=some B):Le st (st.setBox b {B with els:=B.els.map Qwv}):=by
 rintro C a w ⟨ρ,im,h⟩
 refine⟨ρ,im,h.root,h.nt,h.dfr,h.imc,h.var,?_,?_,?_⟩
 ·intro b'
  by_cases e:b'=b
  ·subst e;simp [St.setBox,Qay,h.rho b',hB]
  ·simp [St.setBox,Qau _ _ _ _ e,h.rho b']
 ·intro b' x B' hx hB'
  by_cases e:b'=b
  ·subst e
   simp only [St.setBox,Qay,Option.some.injEq]at hB'
   subst hB'
   exact(h.box b' x B hx hB).up
  ·simp only [St.setBox,Qau _ _ _ _ e]at hB'
   exact h.box b' x B' hx hB'
 ·have key: ∀b' B',(st.setBox b {B with els:=B.els.map Qwv}).box b'=some B'→ ∃B0,st.box b'=some B0∧B0.live=B'.live:=fun b' B' e=>by
   by_cases y:b'=b
   ·subst y
    simp only [St.setBox,Qay,Option.some.injEq]at e
    subst e;exact⟨B,hB,rfl⟩
   ·exact⟨B',by simpa only [St.setBox,Qau _ _ _ _ y]using e,rfl⟩
  intro b1 b2 g B1 B2 g1 g2 e1 e2 l1 l2
  obtain⟨C1,x1,y1⟩:=key _ _ e1
  obtain⟨C2,x2,y2⟩:=key _ _ e2
  exact h.inj b1 b2 g C1 C2 g1 g2 x1 x2 (y1.trans l1) (y2.trans l2)
theorem Quv {vs:List (Nat×PV)} {bs:List (Nat×Box)} {o:List (List PV)} {y:Yl} (b:Nat) {B:Box} (hB:lkp bs b=some B):
  Le (St.ofG vs bs o y) (St.ofG vs ((b,{B with els:=B.els.map Qwv})::bs) o y):=Zoz (st:=St.ofG vs bs o y) hB
end Go.Vl

namespace Go.Proofs.YtlpiamlgibomhaaGreat
open Go.Vl Go.RowKit Go.Dg
theorem rI_z:rI 0= .agg [.bool false,.slc []]:=by simp [rI,di,Qax]
theorem Qb8 {xs:List Int} {i:Nat} (h:i<xs.length):xs.getD i 0=xs[i]:=by rw [List.getD_eq_getElem?_getD,List.getElem?_eq_getElem h];rfl
end Go.Proofs.YtlpiamlgibomhaaGreat

namespace Go.Dg
def Qaw:List Int→List Int
 | []=>[]
 |c::r=>match Qaw r with
  | []=>if c=0 then []else [c]
  |d::t=>c::d::t
theorem Qb2 (c:Int) (r:List Int):Qaw (c::r)=if Qaw r=[]then(if c=0 then []else [c])else c::Qaw r:=by
 rw [Qaw];cases h:Qaw r<;>simp
theorem Qhp: ∀l:List Int,Qaw (l++[0])=Qaw l
 | []=>rfl
 |c::r=>by rw [List.cons_append,Qb2,Qhp r,Qb2]
theorem Qnl: ∀(l:List Int) (c:Int),c≠0→Qaw (l++[c])=l++[c]
 | [],c,h=>by simp [Qaw,h]
 |a::r,c,h=>by rw [List.cons_append,Qb2,Qnl r c h,if_neg (by simp)]
theorem Qbj: ∀l:List Int,(Qaw l).length≤l.length
 | []=>Nat.le_refl _
 |c::r=>by
  have:=Qbj r
  rw [Qb2];split
  ·split<;>simp
  ·simp only [List.length_cons];omega
theorem Qql {l:List Int} {x:Int} (h:x∈Qaw l):x∈l:=by
 induction l with
 |nil=>exact h
 |cons c r ih=>
  rw [Qb2]at h
  split at h
  ·split at h
   ·cases h
   ·simp at h;simp [h]
  ·rcases List.mem_cons.1 h with rfl|h
   ·simp
   ·exact List.mem_cons_of_mem _ (ih h)
theorem Qjb: ∀l:List Int,Qaw (Qaw l)=Qaw l
 | []=>rfl
 |c::r=>by
  have ih:=Qjb r
  rw [Qb2]
  split
  ·split
   ·rfl
   ·rename_i h;simp [Qaw,h]
  ·rename_i h;rw [Qb2,ih,if_neg h]
def ev:List Int→Int→Int
 | [],_=>0
 |c::r,u=>c+u*ev r u
theorem Zer: ∀(p:List Int) (u:Int),ev p u=hev p u 1
 | [],_=>rfl
 |c::r,u=>by rw [ev,hev,Zer r u,Int.one_pow,Int.mul_one]
theorem Qew: ∀(p:List Int) (u:Int),ev (Qaw p) u=ev p u
 | [],_=>rfl
 |c::r,u=>by
  have ih:=Qew r u
  rw [Qb2]
  split
  ·rename_i h
   rw [h]at ih
   have h0:ev r u=0:=ih.symm
   split
   ·rename_i hc;rw [ev,ev,h0,hc];simp
   ·rw [ev,ev,ev,h0]
  ·rw [ev,ev,ih]
theorem Qsn: ∀(p:List Int),(∀u:Int,1≤u→ev p u=0)→Qaw p=[]
 | [],_=>rfl
 |c::r,h=>by
  have hc:c=0:=by
   have h1:=h (c.natAbs+1) (by omega)
   rw [ev]at h1
   generalize ev r _=A at h1
   have h2:c=((c.natAbs:Int)+1)*(-A):=by rw [Int.mul_neg];omega
   have h3:((c.natAbs:Int)+1)∣c:=⟨_,h2⟩
   have h4:=Int.natAbs_dvd_natAbs.2 h3
   rcases Nat.eq_zero_or_pos c.natAbs with h0|h0
   ·omega
   ·have:=Nat.le_of_dvd h0 h4
    omega
  subst hc
  rw [Qb2,Qsn r ?_]
  ·rfl
  ·intro u hu
   have:=h u hu
   rw [ev,Int.zero_add]at this
   rcases Int.mul_eq_zero.1 this with h|h
   ·omega
   ·exact h
theorem Qz7: ∀(p q:List Int),(∀u:Int,1≤u→ev p u=ev q u)→Qaw p=Qaw q
 | [],q,h=>(Qsn q fun u hu=>(h u hu).symm).symm
 |p,[],h=>Qsn p h
 |a::p,b::q,h=>by
  have hab:a=b:=by
   have h1:=h ((a-b).natAbs+1) (by omega)
   rw [ev,ev]at h1
   generalize ev p _=A at h1
   generalize ev q _=B at h1
   have h2:a-b=(((a-b).natAbs:Int)+1)*(B-A):=by rw [Int.mul_sub];omega
   have h3:(((a-b).natAbs:Int)+1)∣(a-b):=⟨_,h2⟩
   have h4:=Int.natAbs_dvd_natAbs.2 h3
   rcases Nat.eq_zero_or_pos (a-b).natAbs with h0|h0
   ·omega
   ·have:=Nat.le_of_dvd h0 h4
    omega
  subst hab
  have ih:=Qz7 p q fun u hu=>by
   have h1:=h u hu
   rw [ev,ev]at h1
   exact Int.eq_of_mul_eq_mul_left (a:=u) (by omega) (by omega)
  rw [Qb2,Qb2,ih]
theorem Qz8 (p:List Int) (u:Int) {N:Nat} (h:p.length≤N):ev p u=sm (fun i=>p.getD i 0*u^i) N:=by
 rw [Zer,Qjy,Qz0 _ h (fun i h1 _=>by rw [List.getD_eq_getElem?_getD,List.getElem?_eq_none h1];simp)]
 exact Qbp _ fun i _=>by rw [Int.one_pow,Int.mul_one]
theorem Qlj (F:Nat→Int) (N i:Nat):((List.range N).map F).getD i 0=if i<N then F i else 0:=by
 rw [List.getD_eq_getElem?_getD,List.getElem?_map]
 by_cases h:i<N
 ·simp [h]
 ·rw [List.getElem?_eq_none (by simpa using h),if_neg h];rfl
theorem Qz9 (F:Nat→Int) (N:Nat) (u:Int):ev ((List.range N).map F) u=sm (fun i=>F i*u^i) N:=by
 rw [Qz8 _ u (N:=N) (by simp)]
 exact Qbp _ fun i hi=>by rw [Qlj,if_pos hi]
def zipA (p q:List Int):List Int:=(List.range (max p.length q.length)).map fun i=>p.getD i 0+q.getD i 0
def pAdd (p q:List Int):List Int:=Qaw (zipA p q)
def Qem (p:List Int) (c:Int):List Int:=Qaw (p.map (· *c))
def conv (p q:List Int):List Int:=(List.range (p.length+q.length-1)).map fun i=>sm (fun k=>p.getD k 0*q.getD (i-k) 0) (i+1)
def pMul (p q:List Int):List Int:=Qaw (conv p q)
def pPow (p:List Int):Nat→List Int
 |0=>Qaw [1]
 |n+1=>pMul (pPow p n) p
theorem Q0a (p q:List Int) (u:Int):ev (pAdd p q) u=ev p u+ev q u:=by
 rw [pAdd,Qew,zipA,Qz9,Qz8 p u (N:=max p.length q.length) (Nat.le_max_left _ _),Qz8 q u (N:=max p.length q.length) (Nat.le_max_right _ _),←Qu1]
 exact Qbp _ fun i _=>Int.add_mul _ _ _
theorem Qqm (p:List Int) (c u:Int):ev (Qem p c) u=ev p u*c:=by
 rw [Qem,Qew]
 induction p with
 |nil=>simp [ev]
 |cons a r ih=>rw [List.map_cons,ev,ev,ih,Int.add_mul,Int.mul_assoc]
theorem Zf3 (p q:List Int) (u:Int):ev (pMul p q) u=ev p u*ev q u:=by
 rw [pMul,Qew,conv,Qz9]
 have h1:sm (fun i=>sm (fun k=>p.getD k 0*q.getD (i-k) 0) (i+1)*u^i) (p.length+q.length-1)
   =sm (fun i=>sm (fun k=>p.getD k 0*q.getD (i-k) 0*u^i) (i+1)) (p.length+q.length-1):=Qbp _ fun i _=>(Qov _ _ _).symm
 rw [h1,Qz1 (fun k i=>p.getD k 0*q.getD (i-k) 0*u^i)]
 rcases Nat.eq_zero_or_pos q.length with hq|hq
 ·have e:q=[]:=List.length_eq_zero_iff.1 hq
  subst e
  rw [Qou _ fun i _=>Qou _ fun k _=>by simp]
  simp [ev]
 ·have hN:p.length≤p.length+q.length-1:=by omega
  rw [Qz8 p u hN,←Qov]
  refine Qbp _ fun i hi=> ?_
  by_cases hip:i<p.length
  ·rw [Qz8 q u (N:=p.length+q.length-1-i) (by omega),←Qd5]
   refine Qbp _ fun k _=> ?_
   rw [show i+k-i=k by omega,Int.pow_add]
   simp only [Int.mul_comm,Int.mul_left_comm,Int.mul_assoc]
  ·have e:p.getD i 0=0:=by rw [List.getD_eq_getElem?_getD,List.getElem?_eq_none (by omega)];rfl
   rw [Qou _ fun k _=>by rw [e,Int.zero_mul,Int.zero_mul],e,Int.zero_mul,Int.zero_mul]
theorem Zl3 (u:Int):ev (Qaw [1]) u=1:=by rw [Qew];simp [ev]
theorem Q0b (p:List Int) (u:Int): ∀n,ev (pPow p n) u=ev p u^n
 |0=>by rw [pPow,Zl3,Int.pow_zero]
 |n+1=>by rw [pPow,Zf3,Q0b p u n,Int.pow_succ]
theorem Qso (p q:List Int):(zipA p q).length=max p.length q.length:=by simp [zipA]
theorem Qsp (p q:List Int):(conv p q).length=p.length+q.length-1:=by simp [conv]
theorem Qsq (p q:List Int):(pAdd p q).length≤max p.length q.length:=by rw [←Qso];exact Qbj _
theorem Qh5 (p:List Int) (c:Int):(Qem p c).length≤p.length:=by rw [Qem];exact Nat.le_trans (Qbj _) (by simp)
theorem Qsr (p q:List Int):(pMul p q).length≤p.length+q.length-1:=by rw [←Qsp];exact Qbj _
theorem Qhq {p:List Int} {m:Nat} (h:p.length≤m+1): ∀n,(pPow p n).length≤m*n+1
 |0=>by simp [pPow,Qaw]
 |n+1=>by
  have h1:=Qsr (pPow p n) p
  have h2:=Qhq h n
  rw [pPow,Nat.mul_succ];omega
def bd (B:Nat) (p:List Int):Prop:= ∀x∈p,x.natAbs<2^B
theorem Qlk {B C:Nat} {p:List Int} (h:bd B p) (hc:B≤C):bd C p:=fun x hx=>Nat.lt_of_lt_of_le (h x hx) (Nat.pow_le_pow_right (by decide) hc)
theorem Qex {B:Nat} {p:List Int} (h:bd B p):bd B (Qaw p):=fun x hx=>h x (Qql hx)
theorem Qen {B:Nat} {p:List Int} (h:bd B p) (i:Nat):(p.getD i 0).natAbs<2^B:=Q7v h i
theorem Zf4 {B:Nat} {p q:List Int} (hp:bd B p) (hq:bd B q):bd (B+1) (pAdd p q):=by
 refine Qex fun x hx=> ?_
 obtain⟨i,_,rfl⟩:=List.mem_map.1 hx
 have h1:=Qen hp i
 have h2:=Qen hq i
 rw [Nat.pow_succ]
 generalize 2^B=K at*
 omega
theorem Qqn {B C:Nat} {p:List Int} {c:Int} (hp:bd B p) (hc:c.natAbs<2^C):bd (B+C) (Qem p c):=by
 refine Qex fun x hx=> ?_
 obtain⟨y,hy,rfl⟩:=List.mem_map.1 hx
 rw [Int.natAbs_mul,Nat.pow_add]
 exact Nat.mul_lt_mul'' (hp y hy) hc
theorem Qss {f:Nat→Int} {B m:Nat} (hm:m≤64) (h: ∀i,i<m→(f i).natAbs<2^B):(sm f m).natAbs<2^(B+7):=by
 have h1:=Zeq m (fun i hi=>Nat.le_of_lt (h i hi))
 have h2:m*2^B≤64*2^B:=Nat.mul_le_mul_right _ hm
 have hp:0<2^B:=Nat.pow_pos (by decide)
 rw [Nat.pow_add,show(2:Nat)^7=128 from rfl]
 omega
theorem Zf5 {B C:Nat} {p q:List Int} (hp:bd B p) (hq:bd C q) (hl:p.length+q.length≤64) (i m:Nat) (hm:m≤i+1) (hi:i<p.length+q.length-1):
  (sm (fun k=>p.getD k 0*q.getD (i-k) 0) m).natAbs<2^(B+C+7):=
 Qss (by omega) fun k _=>by
  rw [Int.natAbs_mul,Nat.pow_add]
  exact Nat.mul_lt_mul'' (Qen hp k) (Qen hq (i-k))
theorem Zf6 {B C:Nat} {p q:List Int} (hp:bd B p) (hq:bd C q) (hl:p.length+q.length≤64):bd (B+C+7) (pMul p q):=by
 refine Qex fun x hx=> ?_
 obtain⟨i,hi,rfl⟩:=List.mem_map.1 hx
 exact Zf5 hp hq hl i (i+1) (Nat.le_refl _) (List.mem_range.1 hi)
theorem Q0c {B m:Nat} {p:List Int} (hp:bd B p) (hl:p.length≤m+1): ∀n,m*n+m≤62→bd ((B+7)*n+1) (pPow p n)
 |0,_=>by intro x hx;simp [pPow,Qaw]at hx;subst hx;simp
 |n+1,h=>by
  have ih:=Q0c hp hl n (by rw [Nat.mul_succ]at h;omega)
  have h1:=Qhq hl n
  have:=Zf6 ih hp (by rw [Nat.mul_succ]at h;omega)
  refine Qlk this ?_
  rw [Nat.mul_succ];omega
end Go.Dg

namespace Go.Proofs.YtlpiamlgibomhaaGreat
open Go.Vl Go.RowKit Go.Dg
theorem Qe0 {n:Nat} (h:0<n) (hn:n<9223372036854775808):IntKind.i64.wrap ((n:Int)-1)=((n-1:Nat):Int):=by rw [Qah (by omega) (by omega)];omega
def Qan (l:List Int):PV:= .slc (l.map (PV.int .i64))
theorem Qb4 (l:List Int) (i:Nat) (h:i<l.length):(l.map (PV.int .i64))[i]? =some (.int .i64 l[i]):=by rw [List.getElem?_map,List.getElem?_eq_getElem h];rfl
theorem map_take {α β:Type} (f:α→β) (l:List α) (i:Nat) (hi:i<l.length):(l.take (i+1)).map f=(l.take i).map f++[f l[i]]:=by rw [Qbk l i hi,List.map_append];rfl
end Go.Proofs.YtlpiamlgibomhaaGreat

namespace Go.Dg
def Qc2 (p:List Int) (a b d:Int):Nat→List Int
 |0=>[]
 |i+1=>pAdd (Qc2 p a b d i) (Qem (pPow (Qaw [a,b]) i) (p.getD i 0*d^(p.length-1-i)))
theorem Qhf (a b:Int):(Qaw [a,b]).length≤1+1:=Qbj _
theorem Zgo (a b u:Int):ev (Qaw [a,b]) u=a+b*u:=by rw [Qew];simp [ev,Int.mul_comm]
theorem Qu9 (p:List Int) (a b d u:Int): ∀i,ev (Qc2 p a b d i) u=sm (fun k=>p.getD k 0*((a+b*u)^k*d^(p.length-1-k))) i
 |0=>rfl
 |i+1=>by
  rw [Qc2,Q0a,Qu9 p a b d u i,Qqm,Q0b,Zgo,sm]
  congr 1
  simp only [Int.mul_comm,Int.mul_left_comm,Int.mul_assoc]
theorem Zgp (p:List Int) (a b d u:Int):ev (Qc2 p a b d p.length) u=hev p (a+b*u) d:=by rw [Qu9,Qjy]
theorem Qgy (p:List Int) (a b d:Int): ∀i,Qaw (Qc2 p a b d i)=Qc2 p a b d i
 |0=>rfl
 |i+1=>by rw [Qc2,pAdd,Qjb]
theorem Qdv (p:List Int) (a b d:Int): ∀i,(Qc2 p a b d i).length≤i
 |0=>Nat.le_refl _
 |i+1=>by
  rw [Qc2]
  have h1:=Qsq (Qc2 p a b d i) (Qem (pPow (Qaw [a,b]) i) (p.getD i 0*d^(p.length-1-i)))
  have h2:=Qdv p a b d i
  have h3:=Qh5 (pPow (Qaw [a,b]) i) (p.getD i 0*d^(p.length-1-i))
  have h4:=Qhq (m:=1) (Qhf a b) i
  omega
theorem Zgq {B:Nat} {a b:Int} (ha:a.natAbs<2^B) (hb:b.natAbs<2^B):bd B (Qaw [a,b]):=Qex fun x hx=>by
 rcases List.mem_cons.1 hx with rfl|hx
 ·exact ha
 ·rw [List.mem_singleton]at hx;subst hx;exact hb
theorem Qb3 {d:Int} {D:Nat} (h:d.natAbs<2^D) (k:Nat):(d^k).natAbs<2^(D*k+1):=by
 rw [Int.natAbs_pow]
 have h1:d.natAbs^k≤(2^D)^k:=Nat.pow_le_pow_left (Nat.le_of_lt h) k
 rw [←Nat.pow_mul]at h1
 rw [Nat.pow_succ]
 have:=Nat.pow_pos (n:=D*k) (show 0<2 by decide)
 omega
theorem Qva {B C D:Nat} {p:List Int} {a b d:Int} (hp:bd B p) (ha:a.natAbs<2^C) (hb:b.natAbs<2^C) (hd:d.natAbs<2^D) (hl:p.length≤30):
  ∀i,i≤p.length→bd ((C+7)*30+1+(B+(D*30+1))+i) (Qc2 p a b d i)
 |0,_=>fun x hx=>by cases hx
 |i+1,h=>by
  have ih:=Qva hp ha hb hd hl i (by omega)
  have h1:=Q0c (m:=1) (Zgq ha hb) (Qhf a b) i (by omega)
  have h2:(C+7)*i≤(C+7)*30:=Nat.mul_le_mul_left _ (by omega)
  have h3:=Qb3 hd (p.length-1-i)
  have h4:D*(p.length-1-i)≤D*30:=Nat.mul_le_mul_left _ (by omega)
  have h5:(p.getD i 0*d^(p.length-1-i)).natAbs<2^(B+(D*30+1)):=by
   rw [Int.natAbs_mul,Nat.pow_add]
   exact Nat.mul_lt_mul'' (Qen hp i) (Nat.lt_of_lt_of_le h3 (Nat.pow_le_pow_right (by decide) (by omega)))
  have h6:=Qqn (Qlk h1 (show(C+7)*i+1≤(C+7)*30+1 by omega)) h5
  exact Zf4 ih (Qlk h6 (Nat.le_add_right _ i))
end Go.Dg

namespace Go.Proofs.YtlpiamlgibomhaaGreat
open Go.Vl Go.RowKit Go.Dg
end Go.Proofs.YtlpiamlgibomhaaGreat

namespace Go.Dg

structure Sg where
  f:Int
  t:Int
  o:Int
  x:List Int
  y:List Int
  z:List Int

/-- The weight of a coefficient in a control value,times 60. -/
def cw (n j k:Nat):Nat:=60/bin n k*bin j k
def ctl (c:List Int) (j:Nat):Int:=sm (fun k=>c.getD k 0*(cw (c.length-1) j k:Int)) (j+1)
/-- The first j control values are within the bounds. -/
def Qcx (c:List Int) (o:Int) (j:Nat):Bool:=(List.range j).all fun j=>decide (((ctl c j).natAbs:Int)≤62914560*o)
def Qkk (c:List Int):Bool:=decide (1≤c.length)&&(decide (c.length≤6)&&(decide (c.length≤1)|| !(c.getD (c.length-1) 0==0)))
def axOK (c:List Int) (o:Int):Bool:=Qkk c&&Qcx c o c.length
def gcdL (g:Nat) (c:List Int):Nat:=c.foldl (fun g x=>Nat.gcd g x.natAbs) g
def Sg.ax (s:Sg):List (List Int):=[s.x,s.y,s.z]
def rngS (s:Sg):Bool:=decide (0≤s.f)&&(decide (s.f<s.t)&&(decide (s.t≤3600000)&&(decide (1≤s.o)&&decide (s.o≤4294967296))))
def Qa3 (s:Sg):Bool:=rngS s&&((s.ax.all fun c=>axOK c s.o)&&(s.ax.foldl gcdL s.o.natAbs==1))

theorem Qeo (g:Nat) (c:List Int) (x:Int):gcdL g (c++[x])=Nat.gcd (gcdL g c) x.natAbs:=by simp [gcdL]
theorem Qe5 {g:Nat} (c:List Int) {K:Nat} (hg:g<K) (hc: ∀x∈c,x.natAbs<K):gcdL g c<K:=by
  induction c generalizing g with
  |nil=>exact hg
  |cons x c ih=>
    refine ih (g:=Nat.gcd g x.natAbs) ?_ fun y hy=>hc y (by simp [hy])
    rcases Nat.eq_zero_or_pos g with h|h
    · subst h;rw [Nat.gcd_zero_left];exact hc x (by simp)
    · exact Nat.lt_of_le_of_lt (Nat.le_of_dvd h (Nat.gcd_dvd_left _ _)) hg
theorem Qe9 (c:List Int) (o:Int) (j:Nat):Qcx c o (j+1)=(Qcx c o j&&decide (((ctl c j).natAbs:Int)≤62914560*o)):=by
  simp [Qcx,List.range_succ]
theorem Qow {c:List Int} {o:Int} {j m:Nat} (h:Qcx c o j=false) (hm:j≤m):Qcx c o m=false:=by
  induction m with
  |zero=>obtain rfl:j=0:=by omega
         exact h
  |succ m ih=>
    rw [Qe9]
    by_cases e:j=m+1
    · subst e;rw [Qe9]at h;exact h
    · rw [ih (by omega)];rfl
theorem Zf7 (n j k:Nat) (hj:j≤5):cw n j k≤1920:=by
  unfold cw
  have h1:60/bin n k≤60:=Nat.div_le_self _ _
  have h2:=Qgw j k
  have h3:2^j≤2^5:=Nat.pow_le_pow_right (by decide) hj
  have h4:=Nat.mul_le_mul h1 (Nat.le_trans h2 h3)
  omega
theorem Qgx {c:List Int} {B n j:Nat} (hc:bd B c) (hj:j≤5) (m:Nat) (hm:m≤6):(sm (fun k=>c.getD k 0*(cw n j k:Int)) m).natAbs<2^(B+11+7):=by
  refine Qss (by omega) fun i hi=> ?_
  rw [Int.natAbs_mul,Nat.pow_add]
  refine Nat.mul_lt_mul'' (Qen hc i) ?_
  rw [Int.natAbs_natCast]
  have:=Zf7 n j i hj
  omega
/-- A coordinate at a/d,times the denominator to the power of 5. -/
def plcT (c:List Int) (a d:Int) (k:Nat):Int:=c.getD k 0*(a^k*d^(5-k))
def plc (c:List Int) (a d:Int):Int:=sm (plcT c a d) c.length
def plP (s:Sg) (a d:Int) (i:Nat):Int:=plc (s.ax.getD i []) a d
def plG (s:Sg) (a d:Int) (i:Nat):Nat:=gcdL (s.o*d^5).natAbs ((List.range i).map (plP s a d))
def at3 (P:Nat→Int) (i m:Nat):Int:=if m<i then P m else 0
theorem Qd8 (s:Sg) (a d:Int) (i:Nat):plG s a d (i+1)=Nat.gcd (plG s a d i) (plP s a d i).natAbs:=by
  unfold plG;rw [List.range_succ,List.map_append];exact Qeo _ _ _
theorem Qhr {c:List Int} {a d:Int} {B:Nat} (hc:bd B c) (ha:a.natAbs<2^B) (hd:d.natAbs<2^B) (k:Nat) (hk:k≤5):
    (a^k).natAbs<2^(B*5+1)∧(d^(5-k)).natAbs<2^(B*5+1)∧(a^k*d^(5-k)).natAbs<2^(B*5+1+(B*5+1))∧(plcT c a d k).natAbs<2^(B+(B*5+1+(B*5+1))):=by
  have h1:(a^k).natAbs<2^(B*5+1):=Nat.lt_of_lt_of_le (Qb3 ha k) (Nat.pow_le_pow_right (by decide) (by have:=Nat.mul_le_mul_left B hk;omega))
  have h2:(d^(5-k)).natAbs<2^(B*5+1):=Nat.lt_of_lt_of_le (Qb3 hd (5-k)) (Nat.pow_le_pow_right (by decide) (by have:=Nat.mul_le_mul_left B (show 5-k≤5 by omega);omega))
  have h3:(a^k*d^(5-k)).natAbs<2^(B*5+1+(B*5+1)):=by rw [Int.natAbs_mul,Nat.pow_add];exact Nat.mul_lt_mul'' h1 h2
  refine⟨h1,h2,h3,?_⟩
  unfold plcT
  rw [Int.natAbs_mul,Nat.pow_add _ B]
  exact Nat.mul_lt_mul'' (Qen hc k) h3
theorem Qdq {c:List Int} {a d:Int} {B:Nat} (hc:bd B c) (ha:a.natAbs<2^B) (hd:d.natAbs<2^B) (m:Nat) (hm:m≤6):(sm (plcT c a d) m).natAbs<2^(B+(B*5+1+(B*5+1))+7):=
  Qss (by omega) fun i hi=>(Qhr hc ha hd i (by omega)).2.2.2
theorem Qst {s:Sg} {a d:Int} (ho:1≤s.o) (hd:1≤d) (i:Nat):0<plG s a d i:=by
  induction i with
  |zero=>
    show 0<(s.o*d^5).natAbs
    have h:0<s.o*d^5:=Int.mul_pos (by omega) (Int.pow_pos (by omega))
    omega
  |succ i ih=>rw [Qd8];exact Nat.gcd_pos_of_pos_left _ ih
theorem Q7w {s:Sg} {d:Int} {B:Nat} (ho:s.o.natAbs<2^B) (hd:d.natAbs<2^B):(s.o*d^5).natAbs<2^(B+(B*5+1)):=by
  rw [Int.natAbs_mul,Nat.pow_add _ B]
  exact Nat.mul_lt_mul'' ho (Qb3 hd 5)
theorem Qu5 {s:Sg} {a d:Int} {B:Nat} (hc: ∀c∈s.ax,bd B c) (h6: ∀c∈s.ax,c.length≤6) (ha:a.natAbs<2^B) (hd:d.natAbs<2^B) (i:Nat) (hi:i<3):
    (plP s a d i).natAbs<2^(B+(B*5+1+(B*5+1))+7):=by
  have hi':i<s.ax.length:=hi
  have hm:s.ax.getD i []=s.ax[i]:=by rw [List.getD_eq_getElem?_getD,List.getElem?_eq_getElem hi'];rfl
  unfold plP plc
  rw [hm]
  exact Qdq (hc _ (List.getElem_mem hi')) ha hd _ (h6 _ (List.getElem_mem hi'))
theorem Zl4 {s:Sg} {a d:Int} {B:Nat} (hc: ∀c∈s.ax,bd B c) (h6: ∀c∈s.ax,c.length≤6) (ho:s.o.natAbs<2^B) (ha:a.natAbs<2^B) (hd:d.natAbs<2^B) (i:Nat) (hi:i≤3):
    ((plG s a d i:Nat):Int).natAbs<2^(B+(B*5+1+(B*5+1))+7):=by
  rw [Int.natAbs_natCast]
  refine Qe5 _ (Nat.lt_of_lt_of_le (Q7w ho hd) (Nat.pow_le_pow_right (by decide) (by omega))) ?_
  intro x hx
  simp only [List.mem_map,List.mem_range]at hx
  obtain⟨m,hm,rfl⟩:=hx
  exact Qu5 hc h6 ha hd m (by omega)
end Go.Dg
