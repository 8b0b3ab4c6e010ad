/-
  QF8, QF9, QF10, QF11, QF12, By, UZ2, QF20, QF21, Dbr, QB1, QP4, QM1 (merged for the claim).
-/
import Derived.Test.YtdpajapkhembcaaGreatDoorQF7
import Derived.Test.YtdpajapkhembcaaGreatDoorULD
import Derived.Test.YtdpajapkhembcaaGreatDoorQI4
import Derived.Test.YtdpajapkhembcaaGreatDoorQF3
set_option linter.unusedSimpArgs false
set_option linter.unusedVariables false
namespace Go.Proofs.YtdpajapkhembcaaGreatDoor
open Go.Vl Go.RowKit Go.Dg
structure okP (p:Pg):Prop where
 n:p.ns.length≤100000
 h:p.hs.length≤100000
 a:p.as_.length≤100000
 s: ∀i,(nmAt p i).size≤100000
 m: ∀i,(p.as_.getD i ac0).mv.length≤100000∧(p.as_.getD i ac0).nm.size≤100000
def vB (p:Pg) (a:Ac) (n:Nat) (L:List Int) (i:Nat):List (Nat×Box):=[(1000000,{els:=[.bs 1000001 1 0 n],esz:=1,ety:=53,fro:=0,live:=true,arr:=false}),(1000001,{els:=L.map (PV.int .i64),esz:=1,ety:=3,fro:=0,live:=true,arr:=true}),(1000002,{els:=[.int .i64 (i:Int)],esz:=1,ety:=3,fro:=0,live:=true,arr:=false}),(1000003,{els:=[.bool false],esz:=1,ety:=4,fro:=0,live:=true,arr:=false}),
 (1000004,{els:=[.agg [.slc (p.ns.map PV.str),.slc (p.hs.map v3PV),.slc (p.as_.map acV)]],esz:=3,ety:=26,fro:=0,live:=true,arr:=false}),(1000005,{els:=[.agg [.str a.nm,.int .i64 a.ln,.slc (a.mv.map mvV)]],esz:=3,ety:=65,fro:=0,live:=true,arr:=false})]
theorem vB_N (p:Pg) (a:Ac) (n:Nat) (L:List Int) (i:Nat): ∀b∈ [1000000,1000001,1000002,1000003,1000004,1000005],(lkp (vB p a n L i) b).isSome=true:=by
 simp [vB,lkp]
def vC (p:Pg) (a:Ac) (n:Nat) (F:List V3) (t:Int) (many:List Int) (m j:Nat):List (Nat×Box):=if j=m+1 then vB p a n (Qbe F a.mv t a.ln many (m+1)) m else vB p a n (Qbe F a.mv t a.ln many j) j
def vI (n:Nat) (p:Pg) (q:Nat×Int×List Int):Prop:=q.1≤p.as_.length∧goB n (Qco p q.1) q.2.1 q.2.2 (p.as_.drop q.1)=goB n p.hs 0 (List.replicate n 0) p.as_∧(0≤q.2.1∧q.2.1≤3600000)∧q.2.2.length=n∧(∀i,0≤q.2.2.getD i 0∧q.2.2.getD i 0≤256)∧(Qco p q.1).length=n
theorem Zsq {n:Nat} {p:Pg} (h:p.hs.length=n):vI n p (0,0,List.replicate n 0):=by
 refine⟨Nat.zero_le _,rfl,⟨Int.le_refl _,(show(0:Int)≤3600000 by decide)⟩,by simp,fun i=> ?_,h⟩;rw [List.getD_eq_getElem?_getD,List.getElem?_replicate];split<;>simp
theorem Q60 {fr:List V3} {ms:List Mv} {t ln:Int} {many:List Int} {k:Nat} (hb: ∀i,0≤many.getD i 0∧many.getD i 0≤256) (hok:okTo fr ms t ln many k=true) (i:Nat):0≤(Qbe fr ms t ln many k).getD i 0∧(Qbe fr ms t ln many k).getD i 0≤256:=by
 rw [List.getD_eq_getElem?_getD];by_cases hi:i<many.length
 ·rw [Qch hi];by_cases hk:i<k
  ·rw [if_pos hk];have:=List.all_eq_true.1 hok i (List.mem_range.2 hk);unfold okAt at this;simp only [Bool.and_eq_true,decide_eq_true_eq]at this;have h0:=(hb i).1;simp only [Option.getD_some];unfold Qdk at*;omega
  ·rw [if_neg hk];exact hb i
 ·rw [List.getElem?_eq_none (by rw [Qb6];omega)];simp
theorem Zsr {n:Nat} {p:Pg} {k:Nat} {t:Int} {many:List Int} (h:vI n p (k,t,many)) (hk:k<p.as_.length) (ha:actB n t (p.as_.getD k ac0)=true) (hok:okTo (Qco p k) (p.as_.getD k ac0).mv t (p.as_.getD k ac0).ln many n=true):
  vI n p (k+1,t+(p.as_.getD k ac0).ln,Qbe (Qco p k) (p.as_.getD k ac0).mv t (p.as_.getD k ac0).ln many n):=by
 obtain⟨h1,h2,h3,h4,h5,h6⟩:=h;simp only at h1 h2 h3 h4 h5 h6;have hd:p.as_.drop k=p.as_.getD k ac0::p.as_.drop (k+1):=by
  rw [List.drop_eq_getElem_cons hk,List.getD_eq_getElem?_getD,List.getElem?_eq_getElem hk];rfl
 have hf:Qco p (k+1)=(p.as_.getD k ac0).mv.map Mv.to:=rfl;unfold actB at ha;simp only [Bool.and_eq_true,decide_eq_true_eq]at ha;obtain⟨a1,a2,a3,a4⟩:=ha;refine⟨hk,?_,⟨by simp only;omega,by simp only;omega⟩,by simp only;rw [Qb6];exact h4,fun i=>Q60 h5 hok i,by simp only;rw [hf];simpa using a4⟩;rw [←h2,hd];simp only [goB,h6,hok,hf];have:actB n t (p.as_.getD k ac0)=true:=by unfold actB;simp only [Bool.and_eq_true,decide_eq_true_eq];exact⟨a1,a2,a3,a4⟩
 rw [this];rfl
theorem Zzp {n:Nat} {p:Pg} {k:Nat} {t:Int} {many:List Int} (h:vI n p (k,t,many)) (hk:k<p.as_.length) (hb:(actB n t (p.as_.getD k ac0)&&okTo (Qco p k) (p.as_.getD k ac0).mv t (p.as_.getD k ac0).ln many n)=false):goB n p.hs 0 (List.replicate n 0) p.as_=false:=by
 obtain⟨h1,h2,h3,h4,h5,h6⟩:=h;simp only at h1 h2 h3 h4 h5 h6;have hd:p.as_.drop k=p.as_.getD k ac0::p.as_.drop (k+1):=by
  rw [List.drop_eq_getElem_cons hk,List.getD_eq_getElem?_getD,List.getElem?_eq_getElem hk];rfl
 rw [←h2,hd];simp only [goB,h6];rw [←Bool.and_assoc,hb,Bool.false_and]
theorem Zf5 {fr:List V3} {ms:List Mv} {t ln:Int} {many:List Int} {n:Nat} (h:okTo fr ms t ln many n=false): ∃m,m<n∧okTo fr ms t ln many m=true∧okAt fr ms t ln many m=false:=by
 induction n with
 |zero=>cases h
 |succ n ih=>
  cases e:okTo fr ms t ln many n with
  |true=>
   rw [Q48,e,Bool.true_and]at h;exact⟨n,by omega,e,h⟩
  |false=>obtain⟨m,h1,h2⟩:=ih e;exact⟨m,by omega,h2⟩
set_option maxRecDepth 100000 in
set_option maxHeartbeats 8000000 in
theorem Q61 (p:Pg) (hp:okP p):Qaf Tryz.prog 42 [pgV p] (.bool (Qcm p)):=by
 have hpn:=hp.n;have hph:=hp.h;have hpa:=hp.a;have hcr:=Zzm p (fun i=>by have:=hp.s i;omega) (by unfold maxLen;omega);unfold Qcm;unfold pgV at hcr ⊢;cases e1:Qqu p with
 |false=>
  rw [e1]at hcr;refine Qab (tb:=[]) 86 [.cell 2 4] [0,1,2,3,4,5,6,7,8,9,18,24,25,26,27,55,59,60,61,78] mixed Tryz.func42 rfl (by kernel_rfl) ?_;repeat (first|simp -implicitDefEqProofs only [go_sem,Nat.reduceAdd,Nat.reduceMul,Nat.reduceEqDiff,Nat.reduceLT,Nat.reduceLeDiff,reduceCtorEq,Bool.not_false,Bool.false_and]|(with_reducible refine Qaa hcr ?_ ?_ ?_);rfl;rfl)
 |true=>
 rw [e1]at hcr;by_cases e2:p.as_.length≤60
 case neg=>
  have e2':((60:Int)<(p.as_.length:Int))=True:=eq_true (by omega);rw [decide_eq_false e2];refine Qab (tb:=[]) 86 [.cell 2 4] [0,1,2,3,4,5,6,7,8,9,18,24,25,26,27,55,59,60,61,78] mixed Tryz.func42 rfl (by kernel_rfl) ?_;repeat (first|simp -implicitDefEqProofs only [go_sem,Nat.reduceAdd,Nat.reduceMul,Nat.reduceEqDiff,Nat.reduceLT,Nat.reduceLeDiff,reduceCtorEq,Bool.not_true,e2',decide_true,List.length_map,Bool.false_and,Bool.and_false]|(with_reducible refine Qaa hcr ?_ ?_ ?_);rfl;rfl)
 have e2':((60:Int)<(p.as_.length:Int))=False:=eq_false (by omega);rw [decide_eq_true e2,Bool.true_and,Bool.true_and];obtain⟨z1,z2,z3⟩:1≤p.ns.length∧p.ns.length≤64∧p.hs.length=p.ns.length:=by
  unfold Qqu at e1;simp only [Bool.and_eq_true,decide_eq_true_eq]at e1;exact⟨e1.1,e1.2.1,e1.2.2.1⟩
 have hne:p.hs≠ []:=by intro h;rw [h]at z3;simp at z3;omega
 obtain⟨n,hn⟩: ∃n,p.ns.length=n:=⟨_,rfl⟩;rw [hn];rw [hn]at z1 z2 z3;have mk1:(((8:Nat):Int)*(n:Int)≤281474976710656)=True:=eq_true (by omega);have mk2:((n:Int)≤9223372036854775807)=True:=eq_true (by omega);have n00:=nn_T n;refine Qab (tb:=[]) 86 [.cell 2 4] [0,1,2,3,4,5,6,7,8,9,18,24,25,26,27,55,59,60,61,78] mixed Tryz.func42 rfl (by kernel_rfl) ?_;repeat (first|simp -implicitDefEqProofs only [go_sem,Nat.reduceAdd,Nat.reduceMul,Nat.reduceEqDiff,Nat.reduceLT,Nat.reduceLeDiff,reduceCtorEq,Bool.not_true,e2',hn,mk1,mk2,n00,decide_false,decide_true,Int.toNat_natCast,List.length_map]|(with_reducible refine Qaa hcr ?_ ?_ ?_);rfl;rfl)
 refine Qau mixed (fun q:{q:Nat×Int×List Int // vI n p q}=>St.of [(1,.bp 0 3 0 0),(2,.bp 1 1 0 0),(3,.int .i64 q.1.2.1),(4,.bp 404 1 0 0),(24,.slc (p.as_.map acV)),(25,.int .i64 (p.as_.length:Int)),(26,.int .i64 (q.1.1:Int))]
  [(0,{els:=[.agg [.slc (p.ns.map PV.str),.slc (p.hs.map v3PV),.slc (p.as_.map acV)]],esz:=3,ety:=26,fro:=0,live:=true,arr:=false}),(1,{els:=[.bool false],esz:=1,ety:=4,fro:=0,live:=true,arr:=false}),(404,{els:=[.bs 403 1 0 n],esz:=1,ety:=53,fro:=0,live:=true,arr:=false}),(403,{els:=q.1.2.2.map (PV.int .i64),esz:=1,ety:=3,fro:=0,live:=true,arr:=true})]) (fun q=>p.as_.length-q.1.1) ⟨(0,0,List.replicate n 0),Zsq z3⟩ ?_ ?_
 ·refine Qaj (θ:=[(0,0),(1,1),(404,404),(403,403)]) rfl ?_ ?_
  ·simp [Qae,lkp,ren1,ren0,Qai]
  ·simp only [List.map_replicate];exact⟨⟨rfl,rfl,rfl,rfl,rfl,.inr ⟨rfl,_,_,rfl,rfl,rfl,rfl⟩⟩,⟨rfl,rfl,rfl,rfl,rfl,.inr ⟨rfl,_,_,rfl,rfl,rfl,rfl⟩⟩,⟨rfl,rfl,rfl,rfl,rfl,.inr ⟨rfl,_,_,rfl,rfl,rfl,rfl⟩⟩,⟨rfl,rfl,rfl,rfl,rfl,.inl ⟨rfl,rfl⟩⟩,trivial⟩
 ·rintro⟨⟨k,t,many⟩,hI⟩;simp only;have hI1:k≤p.as_.length:=hI.1;have hI3:0≤t∧t≤3600000:=hI.2.2.1;have hI4:many.length=n:=hI.2.2.2.1;have hI5: ∀i,0≤many.getD i 0∧many.getD i 0≤256:=hI.2.2.2.2.1;have hI6:(Qco p k).length=n:=hI.2.2.2.2.2;by_cases hA:k<p.as_.length
  case neg=>
   have hA':=lt_F hA;have hg:goB n p.hs 0 (List.replicate n 0) p.as_=true:=by
    rw [←hI.2.1];have:p.as_.drop k=[]:=List.drop_eq_nil_of_le (by omega);simp only [this,goB]
   rw [hg];repeat simp -implicitDefEqProofs only [go_sem,Nat.reduceAdd,Nat.reduceMul,Nat.reduceEqDiff,Nat.reduceLT,Nat.reduceLeDiff,reduceCtorEq,hA']
  have hA':=lt_T hA;have nk:=nn_T k;have ga:=Qtn hA;have hwk:=wr_1 (n:=k) (by omega);have hbad:=fun h=>Zzp hI hA h;have hstep:=fun h1 h2=>Zsr hI hA h1 h2;obtain⟨ma,mb⟩:=hp.m k;have hpt:=Q6z p k t;have hY:=fun hl=>Qy1 p k t hA hne hph (fun i=>(hp.m i).1) hpa hl;have hnm:=Zqe (p.as_.getD k ac0).nm (by omega);unfold pgV at hpt hY;simp only [PV.cells]at hpt hY;generalize p.as_.getD k ac0=a at*;generalize Qco p k=F at*;have hw3:IntKind.i64.wrap (3600000-t)=3600000-t:=Qag (by omega) (by omega);cases b1:Qvn a.nm with
  |false=>
   rw [hbad (by unfold actB;rw [b1];rfl)];rw [b1]at hnm;repeat (first|simp -implicitDefEqProofs only [go_sem,Nat.reduceAdd,Nat.reduceMul,Nat.reduceEqDiff,Nat.reduceLT,Nat.reduceLeDiff,reduceCtorEq,hA',nk,ga,Bool.not_false,Int.toNat_natCast]|(with_reducible refine Qaa hnm ?_ ?_ ?_);rfl;rfl)
  |true=>
  rw [b1]at hnm;by_cases b2:1≤a.ln
  case neg=>
   have b2':(a.ln<1)=True:=eq_true (by omega);rw [hbad (by unfold actB;rw [decide_eq_false b2];simp)];repeat (first|simp -implicitDefEqProofs only [go_sem,Nat.reduceAdd,Nat.reduceMul,Nat.reduceEqDiff,Nat.reduceLT,Nat.reduceLeDiff,reduceCtorEq,hA',nk,ga,b2',Bool.not_true,decide_true,Int.toNat_natCast]|(with_reducible refine Qaa hnm ?_ ?_ ?_);rfl;rfl)
  have b2':(a.ln<1)=False:=eq_false (by omega);by_cases b3:a.ln≤3600000-t
  case neg=>
   have b3':(3600000-t<a.ln)=True:=eq_true (by omega);rw [hbad (by unfold actB;rw [decide_eq_false b3];simp)];repeat (first|simp -implicitDefEqProofs only [go_sem,Nat.reduceAdd,Nat.reduceMul,Nat.reduceEqDiff,Nat.reduceLT,Nat.reduceLeDiff,reduceCtorEq,hA',nk,ga,b2',b3',hw3,Bool.not_true,decide_true,decide_false,Int.toNat_natCast]|(with_reducible refine Qaa hnm ?_ ?_ ?_);rfl;rfl)
  have b3':(3600000-t<a.ln)=False:=eq_false (by omega);by_cases b4:a.mv.length=n
  case neg=>
   have b4':((a.mv.length:Int) != (n:Int))=true:=by simp;omega
   rw [hbad (by unfold actB;rw [decide_eq_false b4];simp)];repeat (first|simp -implicitDefEqProofs only [go_sem,Nat.reduceAdd,Nat.reduceMul,Nat.reduceEqDiff,Nat.reduceLT,Nat.reduceLeDiff,reduceCtorEq,hA',nk,ga,b2',b3',b4',hw3,hn,Bool.not_true,decide_true,decide_false,Int.toNat_natCast,List.length_map]|(with_reducible refine Qaa hnm ?_ ?_ ?_);rfl;rfl)
  have b4':((a.mv.length:Int) != (n:Int))=false:=by simp;omega
  have hact:actB n t a=true:=by unfold actB;rw [b1,decide_eq_true b2,decide_eq_true b3,decide_eq_true b4];rfl
  have hY:=hY (by omega);have hlO:=Qnh F a.mv t a.ln;have hgO:=fun i h=>Qni F a.mv t a.ln (i:=i) h;have hw4:IntKind.i64.wrap (t+a.ln)=t+a.ln:=Qag (by omega) (by omega);repeat (first|simp -implicitDefEqProofs only [go_sem,Nat.reduceAdd,Nat.reduceMul,Nat.reduceEqDiff,Nat.reduceLT,Nat.reduceLeDiff,reduceCtorEq,hA',nk,ga,b2',b3',b4',hw3,hn,Bool.not_true,decide_true,decide_false,Int.toNat_natCast,List.length_map]|(with_reducible refine Qaa hnm ?_ ?_ ?_);rfl;rfl|(with_reducible refine Qaa hpt ?_ ?_ ?_);rfl;rfl)
  cases b5:okTo F a.mv t a.ln many n with
  |true=>
   have hokj: ∀j,j<n→okAt F a.mv t a.ln many j=true:=fun j hj=>List.all_eq_true.1 b5 j (List.mem_range.2 hj);have hmin:min (Qlr F a.mv t a.ln).length (n+1)=n:=by omega
   refine Qoy mixed hY rfl rfl _ rfl [(1000000,404),(1000001,403),(1000002,1000),(1000003,1),(1000004,0),(1000005,703)] [1000000,1000001,1000002,1000003,1000004,1000005] rfl
    [(1,.bp 1000004 3 0 0),(2,.bp 1000003 1 0 0),(3,.int .i64 t),(4,.bp 1000000 1 0 0),(6,.bp 1000005 3 0 0),(7,.bp 1000002 1 0 0),(24,.slc (p.as_.map acV)),(25,.int .i64 (p.as_.length:Int)),(26,.int .i64 (k:Int))]
    (fun j=>vB p a n (Qbe F a.mv t a.ln many j) j) rfl rfl ?_ ?_ ?_ n .normal (fun h=>by omega) (fun j _ _=>vB_N _ _ _ _ _) ?_ rfl ?_
    [(1,1000003),(0,1000004),(404,1000000),(403,1000001),(703,1000005)]
    [(1,.bp 0 3 0 0),(2,.bp 1 1 0 0),(3,.int .i64 t),(4,.bp 404 1 0 0),(6,.bp 703 3 0 0),(24,.slc (p.as_.map acV)),(25,.int .i64 (p.as_.length:Int)),(26,.int .i64 (k:Int))]
    [(0,{els:=[.agg [.slc (p.ns.map PV.str),.slc (p.hs.map v3PV),.slc (p.as_.map acV)]],esz:=3,ety:=26,fro:=0,live:=true,arr:=false}),(1,{els:=[.bool false],esz:=1,ety:=4,fro:=0,live:=true,arr:=false}),(404,{els:=[.bs 403 1 0 n],esz:=1,ety:=53,fro:=0,live:=true,arr:=false}),(403,{els:=(Qbe F a.mv t a.ln many n).map (PV.int .i64),esz:=1,ety:=3,fro:=0,live:=true,arr:=true}),(703,{els:=[.agg [.str a.nm,.int .i64 a.ln,.slc (a.mv.map mvV)]],esz:=3,ety:=65,fro:=0,live:=true,arr:=false})] rfl rfl ?_ ?_ (fun _=> ?_) (fun h=>by omega)
   ·simp [Qae,lkp,ren1,ren0,Qai]
   ·simp only [Qmy,vB];exact⟨⟨rfl,rfl,rfl,rfl,rfl,.inr ⟨rfl,_,_,rfl,rfl,rfl,rfl⟩⟩,⟨rfl,rfl,rfl,rfl,rfl,.inl ⟨rfl,rfl⟩⟩,⟨rfl,rfl,rfl,rfl,rfl,.inr ⟨rfl,_,_,rfl,rfl,rfl,rfl⟩⟩,⟨rfl,rfl,rfl,rfl,rfl,.inr ⟨rfl,_,_,rfl,rfl,rfl,rfl⟩⟩,⟨rfl,rfl,rfl,rfl,rfl,.inr ⟨rfl,_,_,rfl,rfl,rfl,rfl⟩⟩,⟨rfl,rfl,rfl,rfl,rfl,.inr ⟨rfl,_,_,rfl,rfl,rfl,rfl⟩⟩,trivial⟩
   ·simp [Qae,lkp,ren1,ren0,Qai,Qj4]
   ·intro j args h;simp only [Qlr,List.getElem?_map,Option.map_eq_some_iff]at h;obtain⟨x, -,rfl⟩:=h;rfl
   ·rintro j args hja hjs;have hj:j<n:=by have:=(List.getElem?_eq_some_iff.1 hja).1;omega
    rw [hgO j (by omega)]at hja;cases hja;have hok:=hokj j hj;unfold okAt at hok;simp only [Bool.and_eq_true,decide_eq_true_eq]at hok;obtain⟨o1,o2⟩:=hok;have o1':(mvE (F.getD j v0) (a.mv.getD j mv0) t a.ln != 0)=false:=by rw [o1];rfl
    have o2':(256<Qdk F a.mv t a.ln many j)=False:=eq_false (by omega);simp only [vB];have hsn:=Qhg (fr:=F) (ms:=a.mv) (at_:=t) (ln:=a.ln) (many:=many) (k:=j) (by omega);have hgj:((Qbe F a.mv t a.ln many j).map (PV.int .i64))[j]? =some (.int .i64 (many.getD j 0)):=by rw [List.getElem?_map,Qch (by omega),if_neg (Nat.lt_irrefl _)];rfl
    have hgj2:((Qbe F a.mv t a.ln many (j+1)).map (PV.int .i64))[j]? =some (.int .i64 (Qdk F a.mv t a.ln many j)):=by rw [List.getElem?_map,Qch (by omega),if_pos (Nat.lt_succ_self _)];rfl
    have hset:((Qbe F a.mv t a.ln many j).map (PV.int .i64)).set j (.int .i64 (Qdk F a.mv t a.ln many j))=(Qbe F a.mv t a.ln many (j+1)).map (PV.int .i64):=by rw [←hsn,List.map_set]
    have hml:(Qbe F a.mv t a.ln many j).length=many.length:=Qb6 _ _ _ _ _ _;have hmb:=hI5 j;have hPl:=Qek (F.getD j v0) (a.mv.getD j mv0) t a.ln;have hcn:Qdk F a.mv t a.ln many j=many.getD j 0+((mvP (F.getD j v0) (a.mv.getD j mv0) t a.ln).length:Int):=rfl;have hwc:IntKind.i64.wrap (many.getD j 0+((mvP (F.getD j v0) (a.mv.getD j mv0) t a.ln).length:Int))=Qdk F a.mv t a.ln many j:=by rw [hcn];exact Qag (by omega) (by omega)
    have hjT:=lt_T hj;have n1:=nn_T j;have hwj:=wr_1 (n:=j) (by omega);unfold pthO;generalize hMM:(Qbe F a.mv t a.ln many (j+1)).map (PV.int .i64)=MM at*;generalize (Qbe F a.mv t a.ln many j).map (PV.int .i64)=M0 at*;generalize Qdk F a.mv t a.ln many j=c at*;generalize mvP (F.getD j v0) (a.mv.getD j mv0) t a.ln=S at*;generalize mvE (F.getD j v0) (a.mv.getD j mv0) t a.ln=E at*;unfold pV;repeat simp -implicitDefEqProofs only [go_sem,Nat.reduceAdd,Nat.reduceMul,Nat.reduceEqDiff,Nat.reduceLT,Nat.reduceLeDiff,reduceCtorEq,pvars,List.toList_toArray]
    refine⟨by simp [lkp],?_⟩;repeat simp -implicitDefEqProofs only [go_sem,Nat.reduceAdd,Nat.reduceMul,Nat.reduceEqDiff,Nat.reduceLT,Nat.reduceLeDiff,reduceIte,reduceCtorEq,hjT,n1,hgj,hgj2,hset,hwc,hwj,Int.toNat_natCast,List.length_map,o1',o2',decide_false]
    refine⟨hj,?_⟩;refine Qaj (θ:=[(1000000,1000000),(1000001,1000001),(1000002,1000002),(1000003,1000003),(1000004,1000004),(1000005,1000005)]) rfl ?_ ?_
    ·simp [Qae,lkp,ren1,ren0,Qai]
    ·simp only [hMM];exact⟨⟨rfl,rfl,rfl,rfl,rfl,.inr ⟨rfl,_,_,rfl,rfl,rfl,rfl⟩⟩,⟨rfl,rfl,rfl,rfl,rfl,.inl ⟨rfl,rfl⟩⟩,⟨rfl,rfl,rfl,rfl,rfl,.inr ⟨rfl,_,_,rfl,rfl,rfl,rfl⟩⟩,⟨rfl,rfl,rfl,rfl,rfl,.inr ⟨rfl,_,_,rfl,rfl,rfl,rfl⟩⟩,⟨rfl,rfl,rfl,rfl,rfl,.inr ⟨rfl,_,_,rfl,rfl,rfl,rfl⟩⟩,⟨rfl,rfl,rfl,rfl,rfl,.inr ⟨rfl,_,_,rfl,rfl,rfl,rfl⟩⟩,trivial⟩
   ·simp [Qae,lkp,ren1,ren0,Qai]
   ·rw [hmin];simp only [vB];exact⟨⟨rfl,rfl,rfl,rfl,rfl,.inr ⟨rfl,_,_,rfl,rfl,rfl,rfl⟩⟩,⟨rfl,rfl,rfl,rfl,rfl,.inr ⟨rfl,_,_,rfl,rfl,rfl,rfl⟩⟩,⟨rfl,rfl,rfl,rfl,rfl,.inr ⟨rfl,_,_,rfl,rfl,rfl,rfl⟩⟩,⟨rfl,rfl,rfl,rfl,rfl,.inl ⟨rfl,rfl⟩⟩,⟨rfl,rfl,rfl,rfl,rfl,.inr ⟨rfl,_,_,rfl,rfl,rfl,rfl⟩⟩,trivial⟩
   ·repeat simp -implicitDefEqProofs only [go_sem,Nat.reduceAdd,Nat.reduceMul,Nat.reduceEqDiff,Nat.reduceLT,Nat.reduceLeDiff,reduceCtorEq,hw4,hwk]
    refine⟨⟨(k+1,t+a.ln,Qbe F a.mv t a.ln many n),hstep hact b5⟩,by simp only;omega,?_⟩;refine Qaj (θ:=[(0,0),(1,1),(404,404),(403,403)]) rfl ?_ ?_
    ·simp [Qae,lkp,ren1,ren0,Qai]
    ·exact⟨⟨rfl,rfl,rfl,rfl,rfl,.inr ⟨rfl,_,_,rfl,rfl,rfl,rfl⟩⟩,⟨rfl,rfl,rfl,rfl,rfl,.inr ⟨rfl,_,_,rfl,rfl,rfl,rfl⟩⟩,⟨rfl,rfl,rfl,rfl,rfl,.inr ⟨rfl,_,_,rfl,rfl,rfl,rfl⟩⟩,⟨rfl,rfl,rfl,rfl,rfl,.inl ⟨rfl,rfl⟩⟩,trivial⟩
  |false=>
   obtain⟨m,hm,c1,c2⟩:=Zf5 b5;rw [hbad (by rw [hact,b5];rfl)];have hokj: ∀j,j<m→okAt F a.mv t a.ln many j=true:=fun j hj=>List.all_eq_true.1 c1 j (List.mem_range.2 hj);have hmin:min (Qlr F a.mv t a.ln).length (m+1)=m+1:=by omega
   have hB1: ∀j,j≤m→vC p a n F t many m j=vB p a n (Qbe F a.mv t a.ln many j) j:=fun j h=>if_neg (by omega);have hB2:vC p a n F t many m (m+1)=vB p a n (Qbe F a.mv t a.ln many (m+1)) m:=if_pos rfl;refine Qoy mixed hY rfl rfl _ rfl [(1000000,404),(1000001,403),(1000002,1000),(1000003,1),(1000004,0),(1000005,703)] [1000000,1000001,1000002,1000003,1000004,1000005] rfl
    [(1,.bp 1000004 3 0 0),(2,.bp 1000003 1 0 0),(3,.int .i64 t),(4,.bp 1000000 1 0 0),(6,.bp 1000005 3 0 0),(7,.bp 1000002 1 0 0),(24,.slc (p.as_.map acV)),(25,.int .i64 (p.as_.length:Int)),(26,.int .i64 (k:Int))]
    (vC p a n F t many m) rfl (by rw [hB1 0 (Nat.zero_le _)];rfl) ?_ ?_ ?_ m .ret (fun _=>rfl) (fun j _ _=>by unfold vC;split<;>exact vB_N _ _ _ _ _) ?_ rfl ?_
    [(1,1000003)] [(2,.bp 1 1 0 0)] [(1,{els:=[.bool false],esz:=1,ety:=4,fro:=0,live:=true,arr:=false})] rfl rfl ?_ ?_ (fun h=>by omega) (fun _=> ?_)
   ·simp [Qae,lkp,ren1,ren0,Qai]
   ·rw [hB1 0 (Nat.zero_le _)];simp only [Qmy,vB];exact⟨⟨rfl,rfl,rfl,rfl,rfl,.inr ⟨rfl,_,_,rfl,rfl,rfl,rfl⟩⟩,⟨rfl,rfl,rfl,rfl,rfl,.inl ⟨rfl,rfl⟩⟩,⟨rfl,rfl,rfl,rfl,rfl,.inr ⟨rfl,_,_,rfl,rfl,rfl,rfl⟩⟩,⟨rfl,rfl,rfl,rfl,rfl,.inr ⟨rfl,_,_,rfl,rfl,rfl,rfl⟩⟩,⟨rfl,rfl,rfl,rfl,rfl,.inr ⟨rfl,_,_,rfl,rfl,rfl,rfl⟩⟩,⟨rfl,rfl,rfl,rfl,rfl,.inr ⟨rfl,_,_,rfl,rfl,rfl,rfl⟩⟩,trivial⟩
   ·simp [Qae,lkp,ren1,ren0,Qai,Qj4]
   ·intro j args h;simp only [Qlr,List.getElem?_map,Option.map_eq_some_iff]at h;obtain⟨x, -,rfl⟩:=h;rfl
   ·rintro j args hja hjs;have hj:j<n:=by have:=(List.getElem?_eq_some_iff.1 hja).1;omega
    rw [hgO j (by omega)]at hja;cases hja;by_cases hjm:j<m
    ·have hok:=hokj j hjm;unfold okAt at hok;simp only [Bool.and_eq_true,decide_eq_true_eq]at hok;obtain⟨o1,o2⟩:=hok;have o1':(mvE (F.getD j v0) (a.mv.getD j mv0) t a.ln != 0)=false:=by rw [o1];rfl
     have o2':(256<Qdk F a.mv t a.ln many j)=False:=eq_false (by omega);have hBn:=hB1 (j+1) (by omega);rw [hB1 j (by omega)];simp only [vB]at hBn ⊢;have hsn:=Qhg (fr:=F) (ms:=a.mv) (at_:=t) (ln:=a.ln) (many:=many) (k:=j) (by omega);have hgj:((Qbe F a.mv t a.ln many j).map (PV.int .i64))[j]? =some (.int .i64 (many.getD j 0)):=by rw [List.getElem?_map,Qch (by omega),if_neg (Nat.lt_irrefl _)];rfl
     have hgj2:((Qbe F a.mv t a.ln many (j+1)).map (PV.int .i64))[j]? =some (.int .i64 (Qdk F a.mv t a.ln many j)):=by rw [List.getElem?_map,Qch (by omega),if_pos (Nat.lt_succ_self _)];rfl
     have hset:((Qbe F a.mv t a.ln many j).map (PV.int .i64)).set j (.int .i64 (Qdk F a.mv t a.ln many j))=(Qbe F a.mv t a.ln many (j+1)).map (PV.int .i64):=by rw [←hsn,List.map_set]
     have hml:(Qbe F a.mv t a.ln many j).length=many.length:=Qb6 _ _ _ _ _ _;have hmb:=hI5 j;have hPl:=Qek (F.getD j v0) (a.mv.getD j mv0) t a.ln;have hcn:Qdk F a.mv t a.ln many j=many.getD j 0+((mvP (F.getD j v0) (a.mv.getD j mv0) t a.ln).length:Int):=rfl;have hwc:IntKind.i64.wrap (many.getD j 0+((mvP (F.getD j v0) (a.mv.getD j mv0) t a.ln).length:Int))=Qdk F a.mv t a.ln many j:=by rw [hcn];exact Qag (by omega) (by omega)
     have hjT:=lt_T hj;have n1:=nn_T j;have hwj:=wr_1 (n:=j) (by omega);unfold pthO;generalize hMM:(Qbe F a.mv t a.ln many (j+1)).map (PV.int .i64)=MM at*;generalize (Qbe F a.mv t a.ln many j).map (PV.int .i64)=M0 at*;generalize Qdk F a.mv t a.ln many j=c at*;generalize mvP (F.getD j v0) (a.mv.getD j mv0) t a.ln=S at*;generalize mvE (F.getD j v0) (a.mv.getD j mv0) t a.ln=E at*;unfold pV;repeat simp -implicitDefEqProofs only [go_sem,Nat.reduceAdd,Nat.reduceMul,Nat.reduceEqDiff,Nat.reduceLT,Nat.reduceLeDiff,reduceCtorEq,pvars,List.toList_toArray]
     refine⟨by simp [lkp],?_⟩;repeat simp -implicitDefEqProofs only [go_sem,Nat.reduceAdd,Nat.reduceMul,Nat.reduceEqDiff,Nat.reduceLT,Nat.reduceLeDiff,reduceIte,reduceCtorEq,hjT,n1,hgj,hgj2,hset,hwc,hwj,Int.toNat_natCast,List.length_map,o1',o2',decide_false]
     refine⟨hjm,?_⟩;rw [hBn];refine Qaj (θ:=[(1000000,1000000),(1000001,1000001),(1000002,1000002),(1000003,1000003),(1000004,1000004),(1000005,1000005)]) rfl ?_ ?_
     ·simp [Qae,lkp,ren1,ren0,Qai]
     ·exact⟨⟨rfl,rfl,rfl,rfl,rfl,.inr ⟨rfl,_,_,rfl,rfl,rfl,rfl⟩⟩,⟨rfl,rfl,rfl,rfl,rfl,.inl ⟨rfl,rfl⟩⟩,⟨rfl,rfl,rfl,rfl,rfl,.inr ⟨rfl,_,_,rfl,rfl,rfl,rfl⟩⟩,⟨rfl,rfl,rfl,rfl,rfl,.inr ⟨rfl,_,_,rfl,rfl,rfl,rfl⟩⟩,⟨rfl,rfl,rfl,rfl,rfl,.inr ⟨rfl,_,_,rfl,rfl,rfl,rfl⟩⟩,⟨rfl,rfl,rfl,rfl,rfl,.inr ⟨rfl,_,_,rfl,rfl,rfl,rfl⟩⟩,trivial⟩
    ·obtain rfl:j=m:=by omega
     have hok:=c2;unfold okAt at hok;rw [hB1 j (by omega)];simp only [vB]at hB2 ⊢;by_cases o1:mvE (F.getD j v0) (a.mv.getD j mv0) t a.ln=0
     ·have o1':(mvE (F.getD j v0) (a.mv.getD j mv0) t a.ln != 0)=false:=by rw [o1];rfl
      rw [decide_eq_true o1,Bool.true_and,decide_eq_false_iff_not]at hok;have o2':(256<Qdk F a.mv t a.ln many j)=True:=eq_true (by omega);have hsn:=Qhg (fr:=F) (ms:=a.mv) (at_:=t) (ln:=a.ln) (many:=many) (k:=j) (by omega);have hgj:((Qbe F a.mv t a.ln many j).map (PV.int .i64))[j]? =some (.int .i64 (many.getD j 0)):=by rw [List.getElem?_map,Qch (by omega),if_neg (Nat.lt_irrefl _)];rfl
      have hgj2:((Qbe F a.mv t a.ln many (j+1)).map (PV.int .i64))[j]? =some (.int .i64 (Qdk F a.mv t a.ln many j)):=by rw [List.getElem?_map,Qch (by omega),if_pos (Nat.lt_succ_self _)];rfl
      have hset:((Qbe F a.mv t a.ln many j).map (PV.int .i64)).set j (.int .i64 (Qdk F a.mv t a.ln many j))=(Qbe F a.mv t a.ln many (j+1)).map (PV.int .i64):=by rw [←hsn,List.map_set]
      have hml:(Qbe F a.mv t a.ln many j).length=many.length:=Qb6 _ _ _ _ _ _;have hmb:=hI5 j;have hPl:=Qek (F.getD j v0) (a.mv.getD j mv0) t a.ln;have hcn:Qdk F a.mv t a.ln many j=many.getD j 0+((mvP (F.getD j v0) (a.mv.getD j mv0) t a.ln).length:Int):=rfl;have hwc:IntKind.i64.wrap (many.getD j 0+((mvP (F.getD j v0) (a.mv.getD j mv0) t a.ln).length:Int))=Qdk F a.mv t a.ln many j:=by rw [hcn];exact Qag (by omega) (by omega)
      have hjT:=lt_T hj;have n1:=nn_T j;have hwj:=wr_1 (n:=j) (by omega);unfold pthO;generalize hMM:(Qbe F a.mv t a.ln many (j+1)).map (PV.int .i64)=MM at*;generalize (Qbe F a.mv t a.ln many j).map (PV.int .i64)=M0 at*;generalize Qdk F a.mv t a.ln many j=c at*;generalize mvP (F.getD j v0) (a.mv.getD j mv0) t a.ln=S at*;generalize mvE (F.getD j v0) (a.mv.getD j mv0) t a.ln=E at*;unfold pV;repeat simp -implicitDefEqProofs only [go_sem,Nat.reduceAdd,Nat.reduceMul,Nat.reduceEqDiff,Nat.reduceLT,Nat.reduceLeDiff,reduceCtorEq,pvars,List.toList_toArray]
      refine⟨by simp [lkp],?_⟩;repeat simp -implicitDefEqProofs only [go_sem,Nat.reduceAdd,Nat.reduceMul,Nat.reduceEqDiff,Nat.reduceLT,Nat.reduceLeDiff,reduceIte,reduceCtorEq,hjT,n1,hgj,hgj2,hset,hwc,Int.toNat_natCast,List.length_map,o1',o2',decide_true]
      refine⟨rfl,rfl,?_⟩;rw [hB2];refine Qaj (θ:=[(1000000,1000000),(1000001,1000001),(1000002,1000002),(1000003,1000003),(1000004,1000004),(1000005,1000005)]) rfl ?_ ?_
      ·simp [Qae,lkp,ren1,ren0,Qai]
      ·exact⟨⟨rfl,rfl,rfl,rfl,rfl,.inr ⟨rfl,_,_,rfl,rfl,rfl,rfl⟩⟩,⟨rfl,rfl,rfl,rfl,rfl,.inl ⟨rfl,rfl⟩⟩,⟨rfl,rfl,rfl,rfl,rfl,.inr ⟨rfl,_,_,rfl,rfl,rfl,rfl⟩⟩,⟨rfl,rfl,rfl,rfl,rfl,.inr ⟨rfl,_,_,rfl,rfl,rfl,rfl⟩⟩,⟨rfl,rfl,rfl,rfl,rfl,.inr ⟨rfl,_,_,rfl,rfl,rfl,rfl⟩⟩,⟨rfl,rfl,rfl,rfl,rfl,.inr ⟨rfl,_,_,rfl,rfl,rfl,rfl⟩⟩,trivial⟩
     ·have o1':(mvE (F.getD j v0) (a.mv.getD j mv0) t a.ln != 0)=true:=bne_iff_ne.2 o1;have hsn:=Qhg (fr:=F) (ms:=a.mv) (at_:=t) (ln:=a.ln) (many:=many) (k:=j) (by omega);have hgj:((Qbe F a.mv t a.ln many j).map (PV.int .i64))[j]? =some (.int .i64 (many.getD j 0)):=by rw [List.getElem?_map,Qch (by omega),if_neg (Nat.lt_irrefl _)];rfl
      have hgj2:((Qbe F a.mv t a.ln many (j+1)).map (PV.int .i64))[j]? =some (.int .i64 (Qdk F a.mv t a.ln many j)):=by rw [List.getElem?_map,Qch (by omega),if_pos (Nat.lt_succ_self _)];rfl
      have hset:((Qbe F a.mv t a.ln many j).map (PV.int .i64)).set j (.int .i64 (Qdk F a.mv t a.ln many j))=(Qbe F a.mv t a.ln many (j+1)).map (PV.int .i64):=by rw [←hsn,List.map_set]
      have hml:(Qbe F a.mv t a.ln many j).length=many.length:=Qb6 _ _ _ _ _ _;have hmb:=hI5 j;have hPl:=Qek (F.getD j v0) (a.mv.getD j mv0) t a.ln;have hcn:Qdk F a.mv t a.ln many j=many.getD j 0+((mvP (F.getD j v0) (a.mv.getD j mv0) t a.ln).length:Int):=rfl;have hwc:IntKind.i64.wrap (many.getD j 0+((mvP (F.getD j v0) (a.mv.getD j mv0) t a.ln).length:Int))=Qdk F a.mv t a.ln many j:=by rw [hcn];exact Qag (by omega) (by omega)
      have hjT:=lt_T hj;have n1:=nn_T j;have hwj:=wr_1 (n:=j) (by omega);unfold pthO;generalize hMM:(Qbe F a.mv t a.ln many (j+1)).map (PV.int .i64)=MM at*;generalize (Qbe F a.mv t a.ln many j).map (PV.int .i64)=M0 at*;generalize Qdk F a.mv t a.ln many j=c at*;generalize mvP (F.getD j v0) (a.mv.getD j mv0) t a.ln=S at*;generalize mvE (F.getD j v0) (a.mv.getD j mv0) t a.ln=E at*;unfold pV;repeat simp -implicitDefEqProofs only [go_sem,Nat.reduceAdd,Nat.reduceMul,Nat.reduceEqDiff,Nat.reduceLT,Nat.reduceLeDiff,reduceCtorEq,pvars,List.toList_toArray]
      refine⟨by simp [lkp],?_⟩;repeat simp -implicitDefEqProofs only [go_sem,Nat.reduceAdd,Nat.reduceMul,Nat.reduceEqDiff,Nat.reduceLT,Nat.reduceLeDiff,reduceIte,reduceCtorEq,hjT,n1,hgj,hset,hwc,Int.toNat_natCast,List.length_map,o1']
      refine⟨rfl,rfl,?_⟩;rw [hB2];refine Qaj (θ:=[(1000000,1000000),(1000001,1000001),(1000002,1000002),(1000003,1000003),(1000004,1000004),(1000005,1000005)]) rfl ?_ ?_
      ·simp [Qae,lkp,ren1,ren0,Qai]
      ·exact⟨⟨rfl,rfl,rfl,rfl,rfl,.inr ⟨rfl,_,_,rfl,rfl,rfl,rfl⟩⟩,⟨rfl,rfl,rfl,rfl,rfl,.inl ⟨rfl,rfl⟩⟩,⟨rfl,rfl,rfl,rfl,rfl,.inr ⟨rfl,_,_,rfl,rfl,rfl,rfl⟩⟩,⟨rfl,rfl,rfl,rfl,rfl,.inr ⟨rfl,_,_,rfl,rfl,rfl,rfl⟩⟩,⟨rfl,rfl,rfl,rfl,rfl,.inr ⟨rfl,_,_,rfl,rfl,rfl,rfl⟩⟩,⟨rfl,rfl,rfl,rfl,rfl,.inr ⟨rfl,_,_,rfl,rfl,rfl,rfl⟩⟩,trivial⟩
   ·simp [Qae,lkp,ren1,ren0,Qai]
   ·rw [hmin,hB2];simp only [vB];exact⟨⟨rfl,rfl,rfl,rfl,rfl,.inr ⟨rfl,_,_,rfl,rfl,rfl,rfl⟩⟩,trivial⟩
   ·rw [Zq2];repeat simp -implicitDefEqProofs only [go_sem]
theorem Q62 {n:Nat}: ∀(l:List Ac) (fr:List V3) (t:Int) (many:List Int),goB n fr t many l=true→0≤t→t≤3600000→(∀a∈l,1≤a.ln∧a.mv.length=n)∧t+(l.map Ac.ln).sum≤3600000
 | [],fr,t,many,_,h0,h1=>⟨by simp,by simpa using h1⟩
 |a::l,fr,t,many,h,h0,h1=>by
  simp only [goB,Bool.and_eq_true]at h;obtain⟨ha, -,hr⟩:=h;unfold actB at ha;simp only [Bool.and_eq_true,decide_eq_true_eq]at ha;obtain⟨i1,i2⟩:=Q62 l _ _ _ hr (by omega) (by omega);refine⟨fun b hb=> ?_,by simp only [List.map_cons,List.sum_cons];omega⟩;rcases List.mem_cons.1 hb with rfl|hb
  ·exact⟨ha.2.1,ha.2.2.2⟩
  ·exact i1 b hb
theorem Qhp {p:Pg} (h:Qcm p=true):Qqu p=true∧p.as_.length≤60∧(∀a∈p.as_,1≤a.ln∧a.mv.length=p.ns.length)∧begT p p.as_.length≤3600000:=by
 unfold Qcm at h;simp only [Bool.and_eq_true,decide_eq_true_eq]at h;obtain⟨h1,h2,h3⟩:=h;obtain⟨i1,i2⟩:=Q62 p.as_ _ _ _ h3 (by decide) (by decide);refine⟨h1,h2,i1,?_⟩;unfold begT;rw [List.take_length];omega
theorem Qto {p:Pg} {k:Nat} (h:k<p.as_.length):begT p (k+1)=begT p k+(p.as_.getD k ac0).ln:=by
 unfold begT;rw [Qkh _ _ h,List.getD_eq_getElem?_getD,List.getElem?_eq_getElem h];simp only [List.map_append,List.map_cons,List.map_nil,List.sum_append,List.sum_cons,List.sum_nil,Option.getD_some];omega
theorem Qnj {p:Pg} (h:Qcm p=true) {k:Nat}: ∀m,k≤m→m≤p.as_.length→begT p k+(m-k:Nat)≤begT p m
 |0,h1,_=>by
    obtain rfl:k=0:=by omega
    simp
 |m+1,h1,h2=>by
  by_cases e:k=m+1
  ·subst e;simp
  ·have i:=Qnj h (k:=k) m (by omega) (by omega);have hs:=Qto (p:=p) (k:=m) (by omega);have hl:=((Qhp h).2.2.1 (p.as_.getD m ac0) (by rw [List.getD_eq_getElem?_getD,List.getElem?_eq_getElem (by omega)];exact List.getElem_mem _)).1;omega
theorem Q63 {p:Pg} (h:Qcm p=true) {k:Nat} (hk:k≤p.as_.length):(k:Int)≤begT p k∧begT p k≤3600000:=by
 have h1:=Qnj h (k:=0) k (Nat.zero_le _) hk;have h2:=Qnj h (k:=k) p.as_.length hk (Nat.le_refl _);have h3:=(Qhp h).2.2.2;have h0:begT p 0=0:=rfl;omega
theorem Zzd (p:Pg):begT p 0=0:=rfl
def FewP (p:Pg):Prop:=p.ns.length≤5∧p.hs.length≤5∧p.as_.length≤5∧(∀i,i<p.ns.length→(nmAt p i).size≤60)∧(∀i,i<p.as_.length→(p.as_.getD i ac0).nm.size≤60∧(p.as_.getD i ac0).mv.length≤5)
instance (p:Pg):Decidable (FewP p):=by unfold FewP;infer_instance
theorem Qpu {p:Pg} (h:FewP p):okP p:=by
 obtain⟨h1,h2,h3,h4,h5⟩:=h;refine⟨by omega,by omega,by omega,fun i=> ?_,fun i=> ?_⟩
 ·by_cases hi:i<p.ns.length
  ·have:=h4 i hi;omega
  ·unfold nmAt;rw [List.getD_eq_getElem?_getD,List.getElem?_eq_none (by omega)];exact Nat.zero_le _
 ·by_cases hi:i<p.as_.length
  ·have:=h5 i hi;omega
  ·rw [List.getD_eq_getElem?_getD,List.getElem?_eq_none (by omega)];exact⟨Nat.zero_le _,Nat.zero_le _⟩
end Go.Proofs.YtdpajapkhembcaaGreatDoor

namespace Go.Vl
open Go.RowKit
theorem Z2y {st:St} {b:Nat} {B B':Box} (hB:st.box b=some B) (hl:B.live=B'.live)
  (hbx: ∀(C:Ctx) (a:Act) (w:World) (ρ:Rho) (im:Im),Rel' C st a w ρ im→ ∀x,ρ b=some x→Qdh C.own w im ρ B x→Qdh C.own w im ρ B' x):Le st (st.setBox b B'):=by
 rintro C a w ⟨ρ,im,h⟩;refine⟨ρ,im,h.root,h.nt,h.dfr,h.imc,h.var,?_,?_,?_⟩
 ·intro b';by_cases e:b'=b
  ·subst e;simp [St.setBox,Qao,h.rho b',hB]
  ·simp [St.setBox,Qan _ _ _ _ e,h.rho b']
 ·intro b' x B1 hx hB1;by_cases e:b'=b
  ·subst e;simp only [St.setBox,Qao,Option.some.injEq]at hB1;subst hB1;exact hbx C a w ρ im h x hx (h.box b' x B hx hB)
  ·simp only [St.setBox,Qan _ _ _ _ e]at hB1;exact h.box b' x B1 hx hB1
 ·have key: ∀b' B1,(st.setBox b B').box b'=some B1→ ∃B0,st.box b'=some B0∧B0.live=B1.live:=fun b' B1 e=>by
   by_cases y:b'=b
   ·subst y;simp only [St.setBox,Qao,Option.some.injEq]at e;subst e;exact⟨B,hB,hl⟩
   ·exact⟨B1,by simpa only [St.setBox,Qan _ _ _ _ y]using e,rfl⟩
  intro b1 b2 g B1 B2 g1 g2 e1 e2 l1 l2;obtain⟨C1,x1,y1⟩:=key _ _ e1;obtain⟨C2,x2,y2⟩:=key _ _ e2;exact h.inj b1 b2 g C1 C2 g1 g2 x1 x2 (y1.trans l1) (y2.trans l2)
theorem Zx0 {st:St} {b:Nat} {B:Box} (hB:st.box b=some B) (hne:B.els≠ []):Le st (st.setBox b {B with arr:=false}):=by
 refine Z2y hB rfl fun C a w ρ im h x hx hb=> ?_;cases x with
 |none=>exact absurd hb.1 hne
 |some g=>
  obtain⟨k1,k2,k3,k4,⟨hmn,cur,us,rest,k5,k6,k7,k8,k9,k10,k11⟩|hm⟩:=hb
  ·exact⟨k1,k2,k3,k4,.inl ⟨hmn,cur,us,rest,k5,k6,k7,(by intro q;cases q),k9,k10,k11⟩⟩
  ·exact absurd hm.1 hne
theorem Q0m {es:List PV} (h: ∀e∈es,e.cells=[e]):es.flatMap PV.cells=es:=by
 induction es with
 |nil=>rfl
 |cons e es ih=>
  simp only [List.flatMap_cons];rw [h e (by simp),ih fun e he=>h e (by simp [he])];rfl
theorem Zx1 {st:St} {b j nb esz:Nat} {ety:TypeId} {B:Box} (hL:Nat.blt nb LENT=true) (hB:st.box b=some B) (ha:B.arr=false) (h1c: ∀e∈B.els,e.cells=[e]) (hj:B.els[j]? =some .nilS) (hn:st.box nb=none) (hz:0<esz):
  Le st ((st.setBox nb {els:=[],esz:=esz,ety:=ety,fro:=0,live:=true,arr:=true}).setBox b {B with els:=B.els.set j (.bs nb esz 0 0)}):=by
 have hbn:b≠nb:=by rintro rfl;rw [hB]at hn;cases hn
 rintro C a w ⟨ρ,im,h⟩;obtain⟨h1,h2⟩:=h.addBox ⟨.refl _ _ _,Keeps.refl _ _,fun _ x=> .inl x,fun _ _ x=>x,fun _ _ x=> .inl x⟩ h (Nat.le_of_ble_eq_true hL) hn {els:=[],esz:=esz,ety:=ety,fro:=0,live:=true,arr:=true} none (by intro g e;cases e) ⟨rfl,rfl,rfl,hz⟩ (by intro b' g B' e;cases e);have hB1:(st.setBox nb {els:=[],esz:=esz,ety:=ety,fro:=0,live:=true,arr:=true}).box b=some B:=by simp [St.setBox,Qan _ _ _ _ hbn,hB]
 generalize hst:st.setBox nb {els:=[],esz:=esz,ety:=ety,fro:=0,live:=true,arr:=true}=st1 at*;refine⟨upd ρ nb (some none),im,h1.root,h1.nt,h1.dfr,h1.imc,h1.var,?_,?_,?_⟩
 ·intro b';by_cases e:b'=b
  ·subst e;simp [St.setBox,Qao,h1.rho b',hB1]
  ·simp [St.setBox,Qan _ _ _ _ e,h1.rho b']
 ·intro b' x B' hx hB';by_cases e:b'=b
  ·subst e;simp only [St.setBox,Qao,Option.some.injEq]at hB';subst hB';have hb:=h1.box b' x B hx hB1;cases x with
   |none=>obtain⟨_,z1,_⟩:=hb;rw [ha]at z1;cases z1
   |some g=>
    obtain⟨k1,k2,k3,k4,⟨hmn,cur,us,rest,k5,k6,k7,k8,k9,k10,k11⟩|hm⟩:=hb
    case inr=>rw [hm.1]at hj;simp at hj
    have h1d: ∀e∈B.els.set j (.bs nb esz 0 0),e.cells=[e]:=by
     intro e he;rcases List.mem_or_eq_of_mem_set he with h|rfl
     ·exact h1c e h
     ·rfl
    rw [Q0m h1c]at k7;refine⟨k1,by simpa using k2,k3,?_,.inl ⟨hmn,cur,us,rest,k5,k6,?_,(by intro q;rw [ha]at q;cases q),k9,k10,k11⟩⟩
    ·intro e he;rcases List.mem_or_eq_of_mem_set he with h|rfl
     ·exact k4 e h
     ·have:=k4 .nilS (List.mem_of_getElem? hj);simpa [PV.cells]using this
    ·simp only;rw [Q0m h1d];refine LRL.setAt k7 hj fun u hu=> ?_;rw [hu.nilS_inv];exact .bsNil nb esz none (Qao _ _ _)
  ·simp only [St.setBox,Qan _ _ _ _ e]at hB';exact h1.box b' x B' hx hB'
 ·have key: ∀b' B',(st1.setBox b {B with els:=B.els.set j (.bs nb esz 0 0)}).box b'=some B'→ ∃B0,st1.box b'=some B0∧B0.live=B'.live:=fun b' B' e=>by
   by_cases y:b'=b
   ·subst y;simp only [St.setBox,Qao,Option.some.injEq]at e;subst e;exact⟨B,hB1,rfl⟩
   ·exact⟨B',by simpa only [St.setBox,Qan _ _ _ _ y]using e,rfl⟩
  intro b1 b2 g B1 B2 g1 g2 e1 e2 l1 l2;obtain⟨C1,x1,y1⟩:=key _ _ e1;obtain⟨C2,x2,y2⟩:=key _ _ e2;exact h1.inj b1 b2 g C1 C2 g1 g2 x1 x2 (y1.trans l1) (y2.trans l2)
section
variable {vs:List (Nat×PV)} {bs:List (Nat×Box)} {o:List (List PV)} {y:Yl}
theorem Zpy (b:Nat) {B:Box} (hB:lkp bs b=some B) (hne:B.els≠ []):Le (St.ofG vs bs o y) (St.ofG vs ((b,{B with arr:=false})::bs) o y):=Zx0 (st:=St.ofG vs bs o y) hB hne
theorem Qj7 (b j nb esz:Nat) (ety:TypeId) {B:Box} (hL:Nat.blt nb LENT=true) (hB:lkp bs b=some B) (ha:B.arr=false) (h1c: ∀e∈B.els,e.cells=[e]) (hj:B.els[j]? =some .nilS) (hn:lkp bs nb=none) (hz:0<esz):
  Le (St.ofG vs bs o y) (St.ofG vs ((b,{B with els:=B.els.set j (.bs nb esz 0 0)})::(nb,{els:=[],esz:=esz,ety:=ety,fro:=0,live:=true,arr:=true})::bs) o y):=Zx1 (st:=St.ofG vs bs o y) hL hB ha h1c hj hn hz
end
end Go.Vl

namespace Go.Proofs.YtdpajapkhembcaaGreatDoor
open Go.Vl Go.RowKit Go.Dg
def pthA (p:Pg) (i k:Nat):List Sg:=mvP ((Qco p k).getD i v0) ((p.as_.getD k ac0).mv.getD i mv0) (begT p k) (p.as_.getD k ac0).ln
def Qaq (p:Pg) (i k:Nat):List Sg:=(List.range k).flatMap fun a=>pthA p i a
theorem Qng (p:Pg) (i k:Nat):Qaq p i (k+1)=Qaq p i k++pthA p i k:=by simp [Qaq,List.range_succ]
theorem Qpv (p:Pg) (i:Nat): ∀k,(Qaq p i k).length≤5*k
 |0=>by simp [Qaq]
 |k+1=>by
  rw [Qng,List.length_append];have:=Qpv p i k;have:=Qek ((Qco p k).getD i v0) ((p.as_.getD k ac0).mv.getD i mv0) (begT p k) (p.as_.getD k ac0).ln;unfold pthA;omega
theorem Zsh (l:List Sg):(((l.map sgV).flatMap PV.cells).all PV.okCell)=true:=by
 rw [List.all_flatMap,List.all_map,List.all_eq_true];intro _ _;rfl
theorem Q6t (l:List Sg):((l.map sgV).all fun e=>e.cells.length==6&&e.cells.all PV.okCell)=true:=by
 rw [List.all_map,List.all_eq_true];intro _ _;rfl
theorem rg5:List.range 0=[]∧List.range 1=[0]∧List.range 2=[0,1]∧List.range 3=[0,1,2]∧List.range 4=[0,1,2,3]∧List.range 5=[0,1,2,3,4]:=⟨rfl,rfl,rfl,rfl,rfl,rfl⟩
def bxs (L:Nat→List Sg) (n:Nat):List (Nat×Box):=(List.range n).map fun i=>(11+i,{els:=(L i).map sgV,esz:=6,ety:=121,fro:=0,live:=true,arr:=true})
def bsl (L:Nat→List Sg) (n:Nat):List PV:=(List.range n).map fun i=> .bs (11+i) 6 0 (L i).length
def idn (n j m:Nat):List (Nat×Nat):=(List.range n).map fun i=>(11+i,if i=j then m else 11+i)
theorem Q6u (p:Pg) (j k:Nat):((Qaq p j k).length+(pthA p j k).length≤5*k+5)∧Qaq p j (k+1)=Qaq p j k++pthA p j k∧(Qaq p j (k+1)).length=(Qaq p j k).length+(pthA p j k).length:=by
 have hpl:=Qpv p j k;have hpl2:=Qek ((Qco p k).getD j v0) ((p.as_.getD k ac0).mv.getD j mv0) (begT p k) (p.as_.getD k ac0).ln;have hps:=Qng p j k;refine⟨by unfold pthA;omega,hps,by rw [hps,List.length_append]⟩
set_option maxRecDepth 100000 in
set_option maxHeartbeats 80000000 in
theorem Zzg (p:Pg) (hp:okP p) (v:Qcm p=true) (h5:p.ns.length≤5):Qaf Tryz.prog 53 [pgV p] (.slc ((List.range p.ns.length).map fun i=>pV (Qaq p i p.as_.length))):=by
 have hpa:=(Qhp v).2.1;have hcr:=(Qhp v).1;obtain⟨h1,hhl⟩:1≤p.ns.length∧p.hs.length=p.ns.length:=by
  unfold Qqu at hcr;simp only [Bool.and_eq_true,decide_eq_true_eq]at hcr;omega
 have hne:p.hs≠ []:=by intro h;rw [h]at hhl;simp at hhl;omega
 have mk1:(((24:Nat):Int)*(p.ns.length:Int)≤281474976710656)=True:=eq_true (by omega);have hfm: ∀k,k<p.as_.length→(Qco p k).length=p.ns.length:=fun k hk=>by
  unfold Qco;by_cases h:k=0
  ·rw [if_pos h];exact hhl
  ·rw [if_neg h,List.length_map,((Qhp v).2.2.1 (p.as_.getD (k-1) ac0) (by rw [List.getD_eq_getElem?_getD,List.getElem?_eq_getElem (by omega)];exact List.getElem_mem _)).2]
 have hl: ∀i k,((Qaq p i k).map sgV).length=(Qaq p i k).length:=fun i k=>List.length_map ..;have htk: ∀i,((Qaq p i p.as_.length).map sgV).take (Qaq p i p.as_.length).length=(Qaq p i p.as_.length).map sgV:=fun i=>List.take_of_length_le (by simp);obtain hn|hn|hn|hn|hn:p.ns.length=1∨p.ns.length=2∨p.ns.length=3∨p.ns.length=4∨p.ns.length=5:=by omega
 all_goals (
  unfold pgV;simp only [hn,Int.cast_ofNat_Int,Int.natCast_one,rg5,List.map_cons,List.map_nil]at mk1 ⊢;refine Qab (tb:=[]) 44 [.tmp 2] [0,1,2,3,4,5,6,7,8,14,15,16,17,24,25,26] mixed Tryz.func53 rfl (by kernel_rfl) ?_;repeat simp only [go_sem,seval,hn,decide_true,List.length_map,List.replicate,Int.cast_ofNat_Int]
  refine Qau mixed (fun k:{k:Nat // k≤p.as_.length}=>St.of [(1,.bp 0 3 0 0),(3,.bp 104 1 0 0),(4,.int .i64 (begT p k.1)),(14,.slc (p.as_.map acV)),(15,.int .i64 (p.as_.length:Int)),(16,.int .i64 (k.1:Int))] ([(0,{els:=[.agg [.slc (p.ns.map PV.str),.slc (p.hs.map v3PV),.slc (p.as_.map acV)]],esz:=3,ety:=26,fro:=0,live:=true,arr:=false}),(104,{els:=[.bs 103 1 0 p.ns.length],esz:=1,ety:=90,fro:=0,live:=true,arr:=false}),(103,{els:=bsl (fun i=>Qaq p i k.1) p.ns.length,esz:=1,ety:=94,fro:=0,live:=true,arr:=false})]++bxs (fun i=>Qaq p i k.1) p.ns.length)) (fun k=>p.as_.length-k.1) ⟨0,Nat.zero_le _⟩ ?_ ?_
  ·refine(Zpy 103 rfl (by simp)).trans ?_;try refine(Qj7 103 0 11 6 121 rfl rfl rfl (by simp [PV.cells]) rfl rfl (by decide)).trans ?_
   try refine(Qj7 103 1 12 6 121 rfl rfl rfl (by simp [PV.cells]) rfl rfl (by decide)).trans ?_
   try refine(Qj7 103 2 13 6 121 rfl rfl rfl (by simp [PV.cells]) rfl rfl (by decide)).trans ?_
   try refine(Qj7 103 3 14 6 121 rfl rfl rfl (by simp [PV.cells]) rfl rfl (by decide)).trans ?_
   try refine(Qj7 103 4 15 6 121 rfl rfl rfl (by simp [PV.cells]) rfl rfl (by decide)).trans ?_
   refine Zd1 (θ:=[(0,0),(104,104),(103,103)]++idn p.ns.length 9 0) (by rw [hn];rfl) ?_ ?_
   ·simp [Qae,lkp,ren1,ren0,Qai,Zzd]
   ·skip
    simp only [hn,bxs,bsl,rg5,List.map_cons,List.map_nil,Nat.reduceAdd,List.cons_append,List.nil_append,Nat.reduceLT,Nat.lt_irrefl,Nat.lt_succ_self,Nat.not_lt_zero,Nat.zero_lt_one,if_true,if_false];refine⟨.inl ⟨rfl,rfl,rfl,rfl,rfl,.inr ⟨rfl,_,_,rfl,rfl,rfl,rfl⟩⟩,.inl ⟨rfl,rfl,rfl,rfl,rfl,.inr ⟨rfl,_,_,rfl,rfl,rfl,rfl⟩⟩,.inr ⟨rfl,rfl,rfl,rfl,rfl,rfl,rfl,rfl⟩,?_⟩;repeat' (first|exact trivial|refine⟨.inl ⟨rfl,rfl,rfl,rfl,rfl,.inl ⟨rfl,rfl⟩⟩,?_⟩)
  ·rintro⟨k,hk⟩;simp only [hn,bxs,bsl,rg5,List.map_cons,List.map_nil,Nat.reduceAdd,List.cons_append,List.nil_append,Nat.reduceLT,Nat.lt_irrefl,Nat.lt_succ_self,Nat.not_lt_zero,Nat.zero_lt_one,if_true,if_false];by_cases hA:k<p.as_.length
   case neg=>
    have hA':=lt_F hA;obtain rfl:p.as_.length=k:=by omega
    unfold pV;repeat simp only [go_sem,seval,hA',hl,htk,Nat.le_refl,decide_true]
   have hA':=lt_T hA;have n0:=nn_T k;have ga:=Qtn hA;have hwk:=wr_1 (n:=k) (by omega);have b0:=Q63 v (k:=k) (by omega);have b1:=Q63 v (k:=k+1) (by omega);have hw:IntKind.i64.wrap (begT p k+(p.as_.getD k ac0).ln)=begT p (k+1):=by rw [Qto hA]at b1 ⊢;exact Qag (by omega) (by omega)
   have hpt:=Q6z p k (begT p k);have hml:=(Qhp v).2.2.1 (p.as_.getD k ac0) (by rw [List.getD_eq_getElem?_getD,List.getElem?_eq_getElem hA];exact List.getElem_mem _);have hf:=hfm k hA;have hY:=Qy1 p k (begT p k) hA hne hp.h (fun i=>(hp.m i).1) hp.a (by omega);have hlO:=Qnh (Qco p k) (p.as_.getD k ac0).mv (begT p k) (p.as_.getD k ac0).ln;have hgO: ∀j,j<p.ns.length→(Qlr (Qco p k) (p.as_.getD k ac0).mv (begT p k) (p.as_.getD k ac0).ln)[j]? =some [pV (pthA p j k),.int .i64 (mvE ((Qco p k).getD j v0) ((p.as_.getD k ac0).mv.getD j mv0) (begT p k) (p.as_.getD k ac0).ln)]:=fun j h=>Qni _ _ _ _ (by omega);rw [hf]at hlO;unfold pgV at hpt hY;simp only [PV.cells]at hpt hY;repeat (first|simp only [go_sem,seval,hA',n0,ga,Int.toNat_natCast]|(with_reducible refine Qaa hpt ?_ ?_ ?_);rfl;rfl)
   generalize Qlr (Qco p k) (p.as_.getD k ac0).mv (begT p k) (p.as_.getD k ac0).ln=OO at*;refine Q0l mixed hY rfl rfl _ rfl ([(1000000,104),(1000001,103),(1000002,600),(1000003,0),(1000004,503)]++idn p.ns.length 9 0) [1000000,1000001,1000002,1000003,1000004] rfl
    [(1,.bp 1000003 3 0 0),(3,.bp 1000000 1 0 0),(4,.int .i64 (begT p k)),(6,.bp 1000004 3 0 0),(7,.bp 1000002 1 0 0),(14,.slc (p.as_.map acV)),(15,.int .i64 (p.as_.length:Int)),(16,.int .i64 (k:Int))]
    (fun j:Nat=>[(1000000,{els:=[.bs 1000001 1 0 p.ns.length],esz:=1,ety:=90,fro:=0,live:=true,arr:=false}),(1000001,{els:=bsl (fun i=>if i<j then Qaq p i (k+1)else Qaq p i k) p.ns.length,esz:=1,ety:=94,fro:=0,live:=true,arr:=false}),(1000002,{els:=[.int .i64 (j:Int)],esz:=1,ety:=3,fro:=0,live:=true,arr:=false}),(1000003,{els:=[.agg [.slc (p.ns.map PV.str),.slc (p.hs.map v3PV),.slc (p.as_.map acV)]],esz:=3,ety:=26,fro:=0,live:=true,arr:=false}),(1000004,{els:=[.agg [.str (p.as_.getD k ac0).nm,.int .i64 (p.as_.getD k ac0).ln,.slc ((p.as_.getD k ac0).mv.map mvV)]],esz:=3,ety:=65,fro:=0,live:=true,arr:=false})]++bxs (fun i=>if i<j then Qaq p i (k+1)else Qaq p i k) p.ns.length) (by rw [hn];rfl) (by rw [hn];rfl) ?_ ?_ ?_ p.ns.length .normal (fun h=>by omega) (fun j _ _=>by simp [lkp]) ?_ rfl ?_
    ([(0,1000003),(104,1000000),(103,1000001),(503,1000004)]++idn p.ns.length 9 0)
    [(1,.bp 0 3 0 0),(3,.bp 104 1 0 0),(4,.int .i64 (begT p k)),(6,.bp 503 3 0 0),(14,.slc (p.as_.map acV)),(15,.int .i64 (p.as_.length:Int)),(16,.int .i64 (k:Int))]
    ([(0,{els:=[.agg [.slc (p.ns.map PV.str),.slc (p.hs.map v3PV),.slc (p.as_.map acV)]],esz:=3,ety:=26,fro:=0,live:=true,arr:=false}),(104,{els:=[.bs 103 1 0 p.ns.length],esz:=1,ety:=90,fro:=0,live:=true,arr:=false}),(103,{els:=bsl (fun i=>Qaq p i (k+1)) p.ns.length,esz:=1,ety:=94,fro:=0,live:=true,arr:=false}),(503,{els:=[.agg [.str (p.as_.getD k ac0).nm,.int .i64 (p.as_.getD k ac0).ln,.slc ((p.as_.getD k ac0).mv.map mvV)]],esz:=3,ety:=65,fro:=0,live:=true,arr:=false})]++bxs (fun i=>Qaq p i (k+1)) p.ns.length) (by rw [hn];rfl) (by rw [hn];rfl) ?_ ?_ (fun _=> ?_) (fun h=>by omega)
   ·simp [Qae,lkp,ren1,ren0,Qai]
   ·skip
    simp only [hn,bxs,bsl,rg5,List.map_cons,List.map_nil,Nat.reduceAdd,List.cons_append,List.nil_append,Nat.reduceLT,Nat.lt_irrefl,Nat.lt_succ_self,Nat.not_lt_zero,Nat.zero_lt_one,if_true,if_false];refine⟨.inl ⟨rfl,rfl,rfl,rfl,rfl,.inr ⟨rfl,_,_,rfl,rfl,rfl,rfl⟩⟩,.inr ⟨rfl,rfl,rfl,rfl,rfl,rfl,rfl,rfl⟩,.inl ⟨rfl,rfl,rfl,rfl,rfl,.inr ⟨rfl,_,_,rfl,rfl,rfl,rfl⟩⟩,.inl ⟨rfl,rfl,rfl,rfl,rfl,.inr ⟨rfl,_,_,rfl,rfl,rfl,rfl⟩⟩,.inl ⟨rfl,rfl,rfl,rfl,rfl,.inr ⟨rfl,_,_,rfl,rfl,rfl,rfl⟩⟩,?_⟩;repeat' (first|exact trivial|refine⟨.inl ⟨rfl,rfl,rfl,rfl,rfl,.inl ⟨rfl,rfl⟩⟩,?_⟩)
   ·simp [Qae,lkp,ren1,ren0,Qai,Qj4]
   ·intro j args h;rw [hgO j (by rw [←hlO];exact(List.getElem?_eq_some_iff.1 h).1)]at h;cases h;rfl
   ·rintro j args hja hjs;have hj:j<p.ns.length:=by rw [←hlO];exact(List.getElem?_eq_some_iff.1 hja).1
    rw [hgO j hj]at hja;cases hja;have hwj:=wr_1 (n:=j) (by omega);obtain⟨q1,q2,q3⟩:=Q6u p j k;have hok:=Zsh (Qaq p j k);have hok2:=Q6t (pthA p j k);have hl1:((pthA p j k).map sgV).length=(pthA p j k).length:=List.length_map ..;have k1:(((Qaq p j k).length+(pthA p j k).length)*96≤140737488355328)=True:=eq_true (by omega);have k2:((Qaq p j k).length+(pthA p j k).length≤maxLen)=True:=eq_true (by unfold maxLen;omega);have jb0:=nn_T j;have jb1:((j:Int)<(p.ns.length:Int))=True:=lt_T hj;rw [hn]at jb1 hj;unfold pV;obtain⟨J,hJ⟩: ∃J,J=j:=⟨j,rfl⟩;obtain rfl|rfl|rfl|rfl|rfl:j=0∨j=1∨j=2∨j=3∨j=4:=by omega
    all_goals (try (exfalso;omega))
    all_goals (
     simp only [hn,bxs,bsl,rg5,List.map_cons,List.map_nil,Nat.reduceAdd,List.cons_append,List.nil_append,Nat.reduceLT,Nat.lt_irrefl,Nat.lt_succ_self,Nat.not_lt_zero,Nat.zero_lt_one,if_true,if_false];repeat simp only [go_sem,seval,pvars,List.toList_toArray]
     refine⟨by simp [lkp],?_⟩;repeat (first|simp only [go_sem,seval,hwj,jb0,jb1,hl,hl1,hok,hok2,k1,k2,decide_true,Bool.and_self,Int.toNat_natCast]|(with_reducible refine And.intro (Qac _ _ (by kernel_rfl)) ?_))
     refine⟨by decide,?_⟩;simp only [hn,bxs,bsl,rg5,List.map_cons,List.map_nil,Nat.reduceAdd,List.cons_append,List.nil_append,Nat.reduceLT,Nat.lt_irrefl,Nat.lt_succ_self,Nat.not_lt_zero,Nat.zero_lt_one,if_true,if_false];simp only [q2,List.map_append,List.length_append];refine Zd1 (θ:=[(1000000,1000000),(1000001,1000001),(1000002,1000002),(1000003,1000003),(1000004,1000004)]++idn p.ns.length J 907) (by rw [hn,hJ];rfl) ?_ ?_
     ·simp [Qae,lkp,ren1,ren0,Qai]
     ·rw [hn,hJ];refine⟨.inl ⟨rfl,rfl,rfl,rfl,rfl,.inr ⟨rfl,_,_,rfl,rfl,rfl,rfl⟩⟩,.inr ⟨rfl,rfl,rfl,rfl,rfl,rfl,rfl,rfl⟩,.inl ⟨rfl,rfl,rfl,rfl,rfl,.inr ⟨rfl,_,_,rfl,rfl,rfl,rfl⟩⟩,.inl ⟨rfl,rfl,rfl,rfl,rfl,.inr ⟨rfl,_,_,rfl,rfl,rfl,rfl⟩⟩,.inl ⟨rfl,rfl,rfl,rfl,rfl,.inr ⟨rfl,_,_,rfl,rfl,rfl,rfl⟩⟩,?_⟩;repeat' (first|exact trivial|refine⟨.inl ⟨rfl,rfl,rfl,rfl,rfl,.inl ⟨rfl,rfl⟩⟩,?_⟩)
     )
   ·simp [Qae,lkp,ren1,ren0,Qai]
   ·have hm:min OO.length (p.ns.length+1)=p.ns.length:=by omega
    rw [hm];simp only [hn,bxs,bsl,rg5,List.map_cons,List.map_nil,Nat.reduceAdd,List.cons_append,List.nil_append,Nat.reduceLT,Nat.lt_irrefl,Nat.lt_succ_self,Nat.not_lt_zero,Nat.zero_lt_one,if_true,if_false];refine⟨.inl ⟨rfl,rfl,rfl,rfl,rfl,.inr ⟨rfl,_,_,rfl,rfl,rfl,rfl⟩⟩,.inl ⟨rfl,rfl,rfl,rfl,rfl,.inr ⟨rfl,_,_,rfl,rfl,rfl,rfl⟩⟩,.inr ⟨rfl,rfl,rfl,rfl,rfl,rfl,rfl,rfl⟩,.inl ⟨rfl,rfl,rfl,rfl,rfl,.inr ⟨rfl,_,_,rfl,rfl,rfl,rfl⟩⟩,?_⟩;repeat' (first|exact trivial|refine⟨.inl ⟨rfl,rfl,rfl,rfl,rfl,.inl ⟨rfl,rfl⟩⟩,?_⟩)
   ·skip
    simp only [hn,bxs,bsl,rg5,List.map_cons,List.map_nil,Nat.reduceAdd,List.cons_append,List.nil_append,Nat.reduceLT,Nat.lt_irrefl,Nat.lt_succ_self,Nat.not_lt_zero,Nat.zero_lt_one,if_true,if_false];repeat simp only [go_sem,seval,hw,hwk]
    refine⟨⟨k+1,hA⟩,by simp only;omega,?_⟩;refine Zd1 (θ:=[(0,0),(104,104),(103,103)]++idn p.ns.length 9 0) (by rw [hn];rfl) ?_ ?_
    ·simp [Qae,lkp,ren1,ren0,Qai]
    ·skip
     simp only [hn,bxs,bsl,rg5,List.map_cons,List.map_nil,Nat.reduceAdd,List.cons_append,List.nil_append,Nat.reduceLT,Nat.lt_irrefl,Nat.lt_succ_self,Nat.not_lt_zero,Nat.zero_lt_one,if_true,if_false];refine⟨.inl ⟨rfl,rfl,rfl,rfl,rfl,.inr ⟨rfl,_,_,rfl,rfl,rfl,rfl⟩⟩,.inl ⟨rfl,rfl,rfl,rfl,rfl,.inr ⟨rfl,_,_,rfl,rfl,rfl,rfl⟩⟩,.inr ⟨rfl,rfl,rfl,rfl,rfl,rfl,rfl,rfl⟩,?_⟩;repeat' (first|exact trivial|refine⟨.inl ⟨rfl,rfl,rfl,rfl,rfl,.inl ⟨rfl,rfl⟩⟩,?_⟩)
  skip)
def allL (p:Pg):List PV:=(List.range p.ns.length).map fun i=>pV (Qaq p i p.as_.length)
theorem Qyy (p:Pg):(allL p).length=p.ns.length:=by simp [allL]
theorem Qyz {p:Pg} {i:Nat} (h:i<p.ns.length):(allL p)[i]? =some (pV (Qaq p i p.as_.length)):=by simp [allL,h]
theorem Z3o (p:Pg) (hf:FewP p) (v:Qcm p=true):Qaf Tryz.prog 53 [pgV p] (.slc (allL p)):=Zzg p (Qpu hf) v hf.1
end Go.Proofs.YtdpajapkhembcaaGreatDoor

namespace Go.Dg
def fitQ (k:Nat) (q:Rat):Prop:=q.num.natAbs<2^k∧q.den<2^k
theorem fitQ.mono {k l:Nat} {q:Rat} (h:fitQ k q) (hk:k≤l):fitQ l q:=
 ⟨Nat.lt_of_lt_of_le h.1 (Nat.pow_le_pow_right (by decide) hk),Nat.lt_of_lt_of_le h.2 (Nat.pow_le_pow_right (by decide) hk)⟩
theorem Zp0 {k:Nat} {n:Int} {d:Nat} (h1:n.natAbs<2^k) (h2:d<2^k) (hd:d≠0):fitQ k (mkRat n d):=by
 refine⟨?_,?_⟩
 ·rw [Rat.num_mkRat,if_neg hd];exact Nat.lt_of_le_of_lt (Int.natAbs_ediv_le_natAbs _ _) h1
 ·rw [Rat.den_mkRat,if_neg hd];exact Nat.lt_of_le_of_lt (Nat.div_le_self _ _) h2
theorem Qqo {k:Nat} {n d:Int} (h1:n.natAbs<2^k) (h2:d.natAbs<2^k) (hd:d≠0):fitQ k ((n:Rat)/(d:Rat)):=by
 rw [←Rat.divInt_eq_div];refine⟨?_,?_⟩
 ·rw [Rat.num_divInt];refine Nat.lt_of_le_of_lt (Int.natAbs_ediv_le_natAbs _ _) (Nat.lt_of_le_of_lt ?_ h1);rw [Int.natAbs_mul];have:d.sign.natAbs≤1:=by
    rcases Int.lt_trichotomy d 0 with h|h|h
    ·rw [Int.sign_eq_neg_one_of_neg h];decide
    ·exact absurd h hd
    ·rw [Int.sign_eq_one_of_pos h];decide
  calc d.sign.natAbs*n.natAbs≤1*n.natAbs:=Nat.mul_le_mul_right _ this
   _=n.natAbs:=Nat.one_mul _
 ·rw [Rat.den_divInt,if_neg hd];exact Nat.lt_of_le_of_lt (Nat.div_le_self _ _) h2
theorem Qdg {k l:Nat} {x y:Rat} (h1:fitQ k x) (h2:fitQ l y):fitQ (k+l) (x*y):=by
 rw [Rat.mul_def'];refine Zp0 ?_ ?_ (Nat.mul_ne_zero x.den_nz y.den_nz)
 ·rw [Int.natAbs_mul,Nat.pow_add];exact Nat.mul_lt_mul'' h1.1 h2.1
 ·rw [Nat.pow_add];exact Nat.mul_lt_mul'' h1.2 h2.2
theorem Zq6 {k l:Nat} {x y:Rat} {n:Int} (hn:n.natAbs≤x.num.natAbs*y.den+y.num.natAbs*x.den) (h1:fitQ k x) (h2:fitQ l y):fitQ (k+l+1) (mkRat n (x.den*y.den)):=by
 refine Zp0 ?_ ?_ (Nat.mul_ne_zero x.den_nz y.den_nz)
 ·have e1:x.num.natAbs*y.den<2^(k+l):=by rw [Nat.pow_add];exact Nat.mul_lt_mul'' h1.1 h2.2
  have e2:y.num.natAbs*x.den<2^(k+l):=by rw [Nat.pow_add,Nat.mul_comm (2^k)];exact Nat.mul_lt_mul'' h2.1 h1.2
  rw [Nat.pow_succ];omega
 ·have e2:x.den*y.den<2^(k+l):=by rw [Nat.pow_add];exact Nat.mul_lt_mul'' h1.2 h2.2
  rw [Nat.pow_succ];omega
theorem Qgq {k l:Nat} {x y:Rat} (h1:fitQ k x) (h2:fitQ l y):fitQ (k+l+1) (x+y):=by
 rw [Rat.add_def'];refine Zq6 ?_ h1 h2;refine Nat.le_trans (Int.natAbs_add_le _ _) ?_;rw [Int.natAbs_mul,Int.natAbs_mul];simp
def qs (f:Nat→Rat):Nat→Rat
 |0=>0
 |n+1=>qs f n+f n
theorem Qyc {k:Nat} {f:Nat→Rat}: ∀(n:Nat),(∀i,i<n→fitQ k (f i))→fitQ (n*(k+1)+1) (qs f n)
 |0,_=>⟨by show(0:Int).natAbs<2^(0*(k+1)+1);simp,by show 1<2^(0*(k+1)+1);simp⟩
 |n+1,h=>(Qgq (Qyc n fun i hi=>h i (by omega)) (h n (Nat.lt_succ_self _))).mono (by rw [Nat.succ_mul];omega)
def upQ (x:Rat):Int:= -((-x).num/((-x).den:Int))
theorem Qdt (x:Rat):0≤x*x:=by
 rcases Rat.le_total (a:=0) (b:=x)with h|h
 ·exact Rat.mul_nonneg h h
 ·have:=Rat.neg_le_neg h;have:=Rat.mul_nonneg (a:= -x) (b:= -x) (by simpa using this) (by simpa using this)
  grind
theorem Qh3 {x K:Rat} (h1: -K≤x) (h2:x≤K):x*x≤K*K:=by
 have e1:0≤K-x:=by grind
 have e2:0≤K+x:=by grind
 have:=Rat.mul_nonneg e1 e2
 grind
theorem Qsv (x1 x2 x3 x4 x5:Rat):(x1+x2+x3+x4+x5)*(x1+x2+x3+x4+x5)≤
  x1*x1+x2*x2*(4/3)+x3*x3*(9/5)+x4*x4*(16/7)+x5*x5*(25/9)+2*(x1*x2+x1*x3+x1*x4+x1*x5)+x2*x3*3+x2*x4*(16/5)+x2*x5*(10/3)
   +x3*x4*4+x3*x5*(30/7)+x4*x5*5:=by
 have h1:=Qdt (2*x2+3*x3+18/5*x4+4*x5);have h2:=Qdt (3*x3+6*x4+60/7*x5);have h3:=Qdt (4*x4+10*x5);have h4:=Qdt (5*x5)
 grind
theorem Zx3 {a1 d0 K:Rat} (e0:d0=a1*1) (h0: -K≤d0∧d0≤K):a1*a1*1≤1*(K*K):=by
 have s0:=Qh3 h0.1 h0.2;have key:a1*a1*1+(0)=1*(d0*d0):=by subst e0;grind
 clear e0 h0
 grind
theorem Zx4 {a1 a2 d0 d1 K:Rat} (e0:d0=a1*(1/2)) (e1:d1=a1*(1/2)+a2*1) (h0: -K≤d0∧d0≤K) (h1: -K≤d1∧d1≤K):a1*a1*1+a1*a2*1+a2*a1*1+a2*a2*(4/3)≤4*(K*K):=by
 have s0:=Qh3 h0.1 h0.2;have s1:=Qh3 h1.1 h1.2;have q01:=Qdt (d0-d1);have key:a1*a1*1+a1*a2*1+a2*a1*1+a2*a2*(4/3)+((2/3)*((d0-d1)*(d0-d1)))=2*(d0*d0+d1*d1):=by subst e0 e1;grind
 clear e0 h0 e1 h1
 grind
theorem Zx5 {a1 a2 a3 d0 d1 d2 K:Rat} (e0:d0=a1*(1/3)) (e1:d1=a1*(1/3)+a2*(1/3)) (e2:d2=a1*(1/3)+a2*(2/3)+a3*1) (h0: -K≤d0∧d0≤K) (h1: -K≤d1∧d1≤K) (h2: -K≤d2∧d2≤K):a1*a1*1+a1*a2*1+a1*a3*1+a2*a1*1+a2*a2*(4/3)+a2*a3*(3/2)+a3*a1*1+a3*a2*(3/2)+a3*a3*(9/5)≤9*(K*K):=by
 have s0:=Qh3 h0.1 h0.2;have s1:=Qh3 h1.1 h1.2;have s2:=Qh3 h2.1 h2.2;have q01:=Qdt (d0-d1);have q02:=Qdt (d0-d2);have q12:=Qdt (d1-d2);have key:a1*a1*1+a1*a2*1+a1*a3*1+a2*a1*1+a2*a2*(4/3)+a2*a3*(3/2)+a3*a1*1+a3*a2*(3/2)+a3*a3*(9/5)+((9/10)*((d0-d1)*(d0-d1))+(3/10)*((d0-d2)*(d0-d2))+(9/10)*((d1-d2)*(d1-d2)))=3*(d0*d0+d1*d1+d2*d2):=by subst e0 e1 e2;grind
 clear e0 h0 e1 h1 e2 h2
 grind
theorem Zx6 {a1 a2 a3 a4 d0 d1 d2 d3 K:Rat} (e0:d0=a1*(1/4)) (e1:d1=a1*(1/4)+a2*(1/6)) (e2:d2=a1*(1/4)+a2*(1/3)+a3*(1/4)) (e3:d3=a1*(1/4)+a2*(1/2)+a3*(3/4)+a4*1) (h0: -K≤d0∧d0≤K) (h1: -K≤d1∧d1≤K) (h2: -K≤d2∧d2≤K) (h3: -K≤d3∧d3≤K):a1*a1*1+a1*a2*1+a1*a3*1+a1*a4*1+a2*a1*1+a2*a2*(4/3)+a2*a3*(3/2)+a2*a4*(8/5)+a3*a1*1+a3*a2*(3/2)+a3*a3*(9/5)+a3*a4*2+a4*a1*1+a4*a2*(8/5)+a4*a3*2+a4*a4*(16/7)≤16*(K*K):=by
 have s0:=Qh3 h0.1 h0.2;have s1:=Qh3 h1.1 h1.2;have s2:=Qh3 h2.1 h2.2;have s3:=Qh3 h3.1 h3.2;have q01:=Qdt (d0-d1);have q02:=Qdt (d0-d2);have q03:=Qdt (d0-d3);have q12:=Qdt (d1-d2);have q13:=Qdt (d1-d3);have q23:=Qdt (d2-d3);have key:a1*a1*1+a1*a2*1+a1*a3*1+a1*a4*1+a2*a1*1+a2*a2*(4/3)+a2*a3*(3/2)+a2*a4*(8/5)+a3*a1*1+a3*a2*(3/2)+a3*a3*(9/5)+a3*a4*2+a4*a1*1+a4*a2*(8/5)+a4*a3*2+a4*a4*(16/7)+((8/7)*((d0-d1)*(d0-d1))+(16/35)*((d0-d2)*(d0-d2))+(4/35)*((d0-d3)*(d0-d3))+(36/35)*((d1-d2)*(d1-d2))+(16/35)*((d1-d3)*(d1-d3))+(8/7)*((d2-d3)*(d2-d3)))=4*(d0*d0+d1*d1+d2*d2+d3*d3):=by subst e0 e1 e2 e3;grind
 clear e0 h0 e1 h1 e2 h2 e3 h3
 grind
theorem Zx7 {a1 a2 a3 a4 a5 d0 d1 d2 d3 d4 K:Rat} (e0:d0=a1*(1/5)) (e1:d1=a1*(1/5)+a2*(1/10)) (e2:d2=a1*(1/5)+a2*(1/5)+a3*(1/10)) (e3:d3=a1*(1/5)+a2*(3/10)+a3*(3/10)+a4*(1/5)) (e4:d4=a1*(1/5)+a2*(2/5)+a3*(3/5)+a4*(4/5)+a5*1) (h0: -K≤d0∧d0≤K) (h1: -K≤d1∧d1≤K) (h2: -K≤d2∧d2≤K) (h3: -K≤d3∧d3≤K) (h4: -K≤d4∧d4≤K):a1*a1*1+a1*a2*1+a1*a3*1+a1*a4*1+a1*a5*1+a2*a1*1+a2*a2*(4/3)+a2*a3*(3/2)+a2*a4*(8/5)+a2*a5*(5/3)+a3*a1*1+a3*a2*(3/2)+a3*a3*(9/5)+a3*a4*2+a3*a5*(15/7)+a4*a1*1+a4*a2*(8/5)+a4*a3*2+a4*a4*(16/7)+a4*a5*(5/2)+a5*a1*1+a5*a2*(5/3)+a5*a3*(15/7)+a5*a4*(5/2)+a5*a5*(25/9)≤25*(K*K):=by
 have s0:=Qh3 h0.1 h0.2;have s1:=Qh3 h1.1 h1.2;have s2:=Qh3 h2.1 h2.2;have s3:=Qh3 h3.1 h3.2;have s4:=Qh3 h4.1 h4.2;have q01:=Qdt (d0-d1);have q02:=Qdt (d0-d2);have q03:=Qdt (d0-d3);have q04:=Qdt (d0-d4);have q12:=Qdt (d1-d2);have q13:=Qdt (d1-d3);have q14:=Qdt (d1-d4);have q23:=Qdt (d2-d3);have q24:=Qdt (d2-d4);have q34:=Qdt (d3-d4);have key:a1*a1*1+a1*a2*1+a1*a3*1+a1*a4*1+a1*a5*1+a2*a1*1+a2*a2*(4/3)+a2*a3*(3/2)+a2*a4*(8/5)+a2*a5*(5/3)+a3*a1*1+a3*a2*(3/2)+a3*a3*(9/5)+a3*a4*2+a3*a5*(15/7)+a4*a1*1+a4*a2*(8/5)+a4*a3*2+a4*a4*(16/7)+a4*a5*(5/2)+a5*a1*1+a5*a2*(5/3)+a5*a3*(15/7)+a5*a4*(5/2)+a5*a5*(25/9)+((25/18)*((d0-d1)*(d0-d1))+(25/42)*((d0-d2)*(d0-d2))+(25/126)*((d0-d3)*(d0-d3))+(5/126)*((d0-d4)*(d0-d4))+(25/21)*((d1-d2)*(d1-d2))+(40/63)*((d1-d3)*(d1-d3))+(25/126)*((d1-d4)*(d1-d4))+(25/21)*((d2-d3)*(d2-d3))+(25/42)*((d2-d4)*(d2-d4))+(25/18)*((d3-d4)*(d3-d4)))=5*(d0*d0+d1*d1+d2*d2+d3*d3+d4*d4):=by subst e0 e1 e2 e3 e4;grind
 clear e0 h0 e1 h1 e2 h2 e3 h3 e4 h4
 grind
end Go.Dg

namespace Go.Proofs.YtdpajapkhembcaaGreatDoor
open Go.Vl Go.RowKit Go.Dg
theorem Zr6 {n d:Int} (hd:d≠0):lowN n d=((n:Rat)/(d:Rat)).num∧lowD n d=(((n:Rat)/(d:Rat)).den:Int):=by
 rw [←Rat.divInt_eq_div,Rat.num_divInt,Rat.den_divInt,if_neg hd];have hc:d.gcd n=Nat.gcd n.natAbs d.natAbs:=Nat.gcd_comm _ _;rw [hc];have d1:((Nat.gcd n.natAbs d.natAbs:Nat):Int)∣n:=Int.ofNat_dvd_left.2 (Nat.gcd_dvd_left _ _);have d2:((Nat.gcd n.natAbs d.natAbs:Nat):Int)∣d:=Int.ofNat_dvd_left.2 (Nat.gcd_dvd_right _ _);unfold lowN lowD gN;generalize Nat.gcd n.natAbs d.natAbs=g at*;by_cases h:d<0
 ·rw [if_pos h,Int.sign_eq_neg_one_of_neg h,Int.ediv_neg,Int.ediv_neg,←Int.neg_ediv_of_dvd d1,←Int.neg_ediv_of_dvd d2];refine⟨by rw [Int.neg_mul,Int.one_mul],?_⟩;rw [Int.natCast_ediv];congr 1;omega
 ·rw [if_neg h,Int.sign_eq_one_of_pos (by omega)];refine⟨by rw [Int.one_mul],?_⟩;rw [Int.natCast_ediv];congr 1;omega
def ratQ (q:Rat):PV:=Qdz q.num (q.den:Int)
theorem Qq7 {n d:Int} {k:Nat} (hd:d≠0) (h:fitQ k ((n:Rat)/(d:Rat))) (hk:k≤65536):outQ (lowN n d) (lowD n d)= .tup [ratQ ((n:Rat)/(d:Rat)),.int .i64 0]:=by
 obtain⟨e1,e2⟩:=Zr6 (n:=n) hd;rw [e1,e2];refine Qp3 ?_;unfold big;have h1:=Qdl k _ h.1;have h2:=Qdl k _ h.2;simp only [Int.natAbs_natCast,Bool.or_eq_false_iff,decide_eq_false_iff_not];omega
theorem Q6h {n:Int} (h1: -9223372036854775808≤n) (h2:n≤9223372036854775807):n.natAbs<2^64:=by omega
theorem Z3g (n d:Int) (h1: -9223372036854775808≤n) (h2:n≤9223372036854775807) (h3: -9223372036854775808≤d) (h4:d≤9223372036854775807) (h0:d≠0):
  Qaf Tryz.prog 148 [.int .i64 n,.int .i64 d] (.tup [ratQ ((n:Rat)/(d:Rat)),.int .i64 0]):=by
 have h:=Q29 n d h1 h2 h3 h4 h0
 rwa [Qq7 h0 (Qqo (Q6h h1 h2) (Q6h h3 h4) h0) (by decide)]at h
theorem den0 (x:Rat):(0:Int)<(x.den:Int):=by have:=x.den_pos;omega
theorem Zqa (x y:Rat):(x.den:Int)*(y.den:Int)≠0:=Int.ne_of_gt (Int.mul_pos (den0 x) (den0 y))
theorem Zr7 (x y:Rat):((x.num*(y.den:Int)+y.num*(x.den:Int):Int):Rat)/((((x.den:Int)*(y.den:Int):Int)):Rat)=x+y:=by
 rw [Rat.add_def',Rat.mkRat_eq_div,←Rat.intCast_natCast,Int.natCast_mul]
theorem Zr8 (x y:Rat):((x.num*y.num:Int):Rat)/((((x.den:Int)*(y.den:Int):Int)):Rat)=x*y:=by
 rw [Rat.mul_def',Rat.mkRat_eq_div,←Rat.intCast_natCast,Int.natCast_mul]
theorem Q6i {k:Nat} {x:Rat} (h:fitQ k x) (hk:k≤65536):x.num.natAbs<2^65536∧((x.den:Int)).natAbs<2^65536:=
 ⟨Qa5 h.1 hk,by rw [Int.natAbs_natCast];exact Qa5 h.2 hk⟩
theorem Zy2 {k l:Nat} {x y:Rat} (hx:fitQ k x) (hy:fitQ l y) (hk:k+l+1≤65536):Qaf Tryz.prog 149 [ratQ x,ratQ y] (.tup [ratQ (x+y),.int .i64 0]):=by
 obtain⟨a1,a2⟩:=Q6i hx (by omega);obtain⟨b1,b2⟩:=Q6i hy (by omega);have h:=Qwa a1 a2 b1 b2 (den0 x) (den0 y);unfold Zoo Zop at h;have e:=Zr7 x y;rw [Qq7 (k:=k+l+1) (Zqa x y) (by rw [e];exact Qgq hx hy) hk,e]at h;exact h
theorem Q6j {k l:Nat} {x y:Rat} (hx:fitQ k x) (hy:fitQ l y) (hk:k+l≤65536):Qaf Tryz.prog 150 [ratQ x,ratQ y] (.tup [ratQ (x*y),.int .i64 0]):=by
 obtain⟨a1,a2⟩:=Q6i hx (by omega);obtain⟨b1,b2⟩:=Q6i hy (by omega);have h:=Qwb a1 a2 b1 b2 (den0 x) (den0 y);have e:=Zr8 x y;rw [Qq7 (k:=k+l) (Zqa x y) (by rw [e];exact Qdg hx hy) hk,e]at h;exact h
theorem Zfx {k:Nat} {x:Rat} (hx:fitQ k x) (hk:k+1≤65536):Qaf Tryz.prog 151 [ratQ x] (.tup [wPV (x.num/(x.den:Int)),.int .i64 0]):=by
 obtain⟨a1,a2⟩:=Q6i hx (by omega);have h:=Zg9 a1 a2 (den0 x)
 rwa [Qmd (Nat.lt_of_le_of_lt (Int.natAbs_ediv_le_natAbs _ _) a1)]at h
theorem Qgx {x y:Int} (hx:x.natAbs<2^65536) (hy:y.natAbs<2^65536) (h:(x+y).natAbs<2^65536):Qaf Tryz.prog 73 [wPV x,wPV y] (wPV (x+y)):=by
 have h1:=Z0x hx hy;rw [Qmd h]at h1;generalize x+y=S at*;refine Qab (tb:=[]) 14 [.cell 4 134] [0,1,2,3,4,5] mixed Tryz.func73 rfl (by kernel_rfl) ?_;repeat (first|simp only [go_sem,seval,wPV]|(with_reducible refine Qaa h1 ?_ ?_ ?_);rfl;rfl)
theorem Qh6 {x y:Int} (hx:x.natAbs<2^65536) (hy:y.natAbs<2^65536) (h:(x*y).natAbs<2^65536):Qaf Tryz.prog 120 [wPV x,wPV y] (wPV (x*y)):=by
 have h1:=Z0w hx hy;rw [Qmd h]at h1;generalize x*y=S at*;refine Qab (tb:=[]) 14 [.cell 4 134] [0,1,2,3,4,5] mixed Tryz.func120 rfl (by kernel_rfl) ?_;repeat (first|simp only [go_sem,seval,wPV]|(with_reducible refine Qaa h1 ?_ ?_ ?_);rfl;rfl)
theorem Zte {a b K:Nat} (ha:a<K) (hb:b<K):Nat.gcd a b<K:=by
 rcases Nat.eq_zero_or_pos a with h|h
 ·subst h;rw [Nat.gcd_zero_left];exact hb
 ·exact Nat.lt_of_le_of_lt (Nat.le_of_dvd h (Nat.gcd_dvd_left _ _)) ha
theorem Qtx {x y:Int} (hx:x.natAbs<2^65536) (hy:y.natAbs<2^65536):Qaf Tryz.prog 95 [wPV x,wPV y] (wPV ((Nat.gcd x.natAbs y.natAbs:Nat):Int)):=by
 have h1:=Z0y hx hy;rw [Qmd (by rw [Int.natAbs_natCast];exact Zte hx hy)]at h1;generalize ((Nat.gcd x.natAbs y.natAbs:Nat):Int)=S at*;refine Qab (tb:=[]) 14 [.cell 4 134] [0,1,2,3,4,5] mixed Tryz.func95 rfl (by kernel_rfl) ?_;repeat (first|simp only [go_sem,seval,wPV]|(with_reducible refine Qaa h1 ?_ ?_ ?_);rfl;rfl)
theorem Q70 {n:Int} (h:n.natAbs<2^65536):outN n=n:=by rw [outN,if_neg (Nat.not_lt.2 (Qdl 65536 _ h))]
theorem Qze {x y:Int} {B:Nat} (hx:x.natAbs<2^B) (hy:0<y):(x/y).natAbs<2^B∨(x/y).natAbs≤2^B:=by
 right;obtain⟨m,rfl⟩: ∃m:Nat,y=(m+1:Nat):=⟨y.toNat-1,by omega⟩;have:=Int.natAbs_ediv_le_natAbs x ((m+1:Nat):Int);omega
theorem Qnm {x y:Int} {B:Nat} (hx:x.natAbs<2^B) (hB:B≤65000) (hy:y.natAbs<2^65000) (h0:0<y):Qaf Tryz.prog 72 [wPV x,wPV y] (wPV (x/y)):=by
 have h1:=Z00 (Qa5 hx (by omega)) (Qa5 hy (by omega)) (show y≠0 by omega);have hq:(x/y).natAbs<2^(B+1):=by
  rw [Nat.pow_succ];have h2:0<2^B:=Nat.two_pow_pos B;rcases Qze hx h0 with h|h<;>omega
 have hr:(x%y).natAbs<2^65000:=by
  have h2:=Int.emod_nonneg x (show y≠0 by omega);have h3:=Int.emod_lt_of_pos x h0;generalize 2^65000=K at*;omega
 unfold Zom at h1;rw [Q70 (Qa5 hq (by omega)),Q70 (Qa5 hr (by omega))]at h1;generalize x/y=S at*;generalize x%y=R at*;refine Qab (tb:=[]) 16 [.cell 4 134] [0,1,2,3,4,5] mixed Tryz.func72 rfl (by kernel_rfl) ?_;repeat (first|simp only [go_sem,seval,wPV]|(with_reducible refine Qaa h1 ?_ ?_ ?_);rfl;rfl)
theorem Q71 {n:Int} {B:Nat} (h:n.natAbs<2^B) (k:Nat):(n^k).natAbs<2^(B*k+1):=Qhi h k
theorem Qfz (n:Int) (k B:Nat) (hn: -9223372036854775808≤n) (hn2:n≤9223372036854775807) (hk:k≤100) (hB:B≤600) (hb:n.natAbs<2^B):Qaf Tryz.prog 123 [.int .i64 n,.int .i64 (k:Int)] (wPV (n^k)):=by
 have h1:=Qh5 1 (by decide) (by decide);have h2:=Qh5 n hn hn2;refine Qab (tb:=[]) 16 [.cell 4 134] [0,1,4,5,7,8,9] mixed Tryz.func123 rfl (by kernel_rfl) ?_;repeat (first|simp only [go_sem,seval,wPV]|(with_reducible refine Qaa h1 ?_ ?_ ?_);rfl;rfl)
 refine Qau mixed (fun i:{i:Nat // i≤k}=>St.of [(0,.int .i64 n),(4,.bp 0 2 0 0),(5,.bp 101 2 0 0),(7,.int .i64 (k:Int)),(8,.int .i64 (i.1:Int))]
  [(0,{els:=[.agg [.bool false,.str ⟨#[]⟩]],esz:=2,ety:=134,fro:=0,live:=true,arr:=false}),(101,{els:=[wPV (n^i.1)],esz:=2,ety:=134,fro:=0,live:=true,arr:=false})]) (fun i=>k-i.1) ⟨0,Nat.zero_le _⟩ ?_ ?_
 ·refine Qaj (θ:=[(0,0),(101,101)]) rfl ?_ ?_
  ·simp [Qae,lkp,ren1,ren0,Qai]
  ·refine⟨⟨rfl,rfl,rfl,rfl,rfl,.inr ⟨rfl,_,_,rfl,rfl,rfl,rfl⟩⟩,⟨rfl,rfl,rfl,rfl,rfl,.inr ⟨rfl,_,_,rfl,rfl,?_,rfl⟩⟩,trivial⟩;simp only [Int.pow_zero];rfl
 ·rintro⟨i,hi⟩;by_cases hA:i<k
  ·have hA':=ltT hA;have hwk:=Qak (a:=i) (by omega);have hp:=Q71 hb i;have hp1:=Q71 hb (i+1);have hBk:B*(i+1)≤600*100:=Nat.mul_le_mul hB (by omega);have hBi:B*i≤B*(i+1):=Nat.mul_le_mul_left _ (by omega);have e:n^(i+1)=n^i*n:=Int.pow_succ n i;rw [e]at hp1;have hm:=Qh6 (Qa5 hp (by omega)) (Qa5 hb (by omega)) (Qa5 hp1 (by omega));rw [←e]at hm;generalize hX:n^(i+1)=Y at*;generalize n^i=Z at*;repeat (first|simp only [go_sem,seval,wPV,hA',hwk]|(with_reducible refine Qaa h2 ?_ ?_ ?_);rfl;rfl|(with_reducible refine Qaa hm ?_ ?_ ?_);rfl;rfl|(with_reducible refine And.intro (Qac _ _ (by kernel_rfl)) ?_))
   refine⟨⟨i+1,hA⟩,by simp only;omega,Qaj (θ:=[(0,0),(101,101)]) rfl ?_ ?_⟩
   ·simp [Qae,lkp,ren1,ren0,Qai]
   ·simp only [hX];exact⟨⟨rfl,rfl,rfl,rfl,rfl,.inr ⟨rfl,_,_,rfl,rfl,rfl,rfl⟩⟩,⟨rfl,rfl,rfl,rfl,rfl,.inr ⟨rfl,_,_,rfl,rfl,rfl,rfl⟩⟩,trivial⟩
  ·have hA':=ltF hA;obtain rfl:i=k:=by omega
   generalize n^i=Z at*;repeat simp only [go_sem,seval,wPV,hA']
end Go.Proofs.YtdpajapkhembcaaGreatDoor
