/-
  LF18 (merged for the claim).
-/
import Derived.Test.YtjlkapdmgjocdaaGreatLF14
set_option linter.unusedSimpArgs false
set_option linter.unusedVariables false
namespace Go.Proofs.YtjlkapdmgjocdaaGreat
open Go.Vl Go.RowKit Go.Dg
theorem Qas:tyFn Tryz.prog 49=true:=by kernel_rfl
theorem Qxx {st:St} {b nb esz:Nat} {ety:TypeId} {B:Box} (hL:Nat.blt nb LENT=true) (hB:st.box b=some B) (ha:B.arr=false) (he:B.els=[.nilS]) (hn:st.box nb=none) (hz:0<esz):
  Le st ((st.setBox nb {els:=[],esz:=esz,ety:=ety,fro:=0,live:=true,arr:=true}).setBox b {B with els:=[.bs nb esz 0 0]}):=by
 rintro C a w ⟨ρ,im,h⟩
 have hbn:b≠nb:=by rintro rfl;rw [hB]at hn;cases hn
 obtain⟨h1,h2⟩:=h.addBox ⟨.refl _ _ _,Keeps.refl _ _,fun _ x=> .inl x,fun _ _ x=>x,fun _ _ x=> .inl x⟩ h (Nat.le_of_ble_eq_true hL) hn {els:=[],esz:=esz,ety:=ety,fro:=0,live:=true,arr:=true} none (by intro g e;cases e) ⟨rfl,rfl,rfl,hz⟩ (by intro b' g B' e;cases e)
 have hB1:(st.setBox nb {els:=[],esz:=esz,ety:=ety,fro:=0,live:=true,arr:=true}).box b=some B:=by simp [St.setBox,Qag _ _ _ _ hbn,hB]
 generalize hst:st.setBox nb {els:=[],esz:=esz,ety:=ety,fro:=0,live:=true,arr:=true}=st1 at*
 refine⟨upd ρ nb (some none),im,h1.root,h1.nt,h1.dfr,h1.imc,h1.var,?_,?_,?_⟩
 ·intro b'
  by_cases e:b'=b
  ·subst e;simp [St.setBox,Qah,h1.rho b',hB1]
  ·simp [St.setBox,Qag _ _ _ _ e,h1.rho b']
 ·intro b' x B' hx hB'
  by_cases e:b'=b
  ·subst e
   simp only [St.setBox,Qah,Option.some.injEq]at hB'
   subst hB'
   have hb:=h1.box b' x B hx hB1
   cases x with
   |none=>obtain⟨z1,_⟩:=hb;rw [he]at z1;cases z1
   |some g=>
    obtain⟨k1,k2,k3,k4,⟨hmn,cur,us,rest,k5,k6,k7,k8,k9,k10,k11⟩|hm⟩:=hb
    case inr=>rw [hm.1]at he;cases he
    rw [he]at k2 k4 k7
    simp only [List.flatMap_cons,List.flatMap_nil,List.append_nil]at k7
    refine⟨k1,by simpa using k2,k3,?_,.inl ⟨hmn,cur,us,rest,k5,k6,?_,(by intro q;rw [ha]at q;cases q),k9,k10,k11⟩⟩
    ·intro e he'
     simp only [List.mem_singleton]at he'
     subst he'
     have:=k4 .nilS (by simp)
     simpa [PV.cells]using this
    ·simp only [List.flatMap_cons,List.flatMap_nil,List.append_nil]
     refine LRL.setAt (vs:=[.nilS]) (j:=0) k7 rfl fun u hu=> ?_
     rw [hu.nilS_inv]
     exact .bsNil nb esz none (Qah _ _ _)
  ·simp only [St.setBox,Qag _ _ _ _ e]at hB'
   exact h1.box b' x B' hx hB'
 ·have key: ∀b' B',(st1.setBox b {B with els:=[.bs nb esz 0 0]}).box b'=some B'→ ∃B0,st1.box b'=some B0∧B0.live=B'.live:=fun b' B' e=>by
   by_cases y:b'=b
   ·subst y
    simp only [St.setBox,Qah,Option.some.injEq]at e
    subst e;exact⟨B,hB1,rfl⟩
   ·exact⟨B',by simpa only [St.setBox,Qag _ _ _ _ y]using e,rfl⟩
  intro b1 b2 g B1 B2 g1 g2 e1 e2 l1 l2
  obtain⟨C1,x1,y1⟩:=key _ _ e1
  obtain⟨C2,x2,y2⟩:=key _ _ e2
  exact h1.inj b1 b2 g C1 C2 g1 g2 x1 x2 (y1.trans l1) (y2.trans l2)
theorem Qj2 {vs:List (Nat×PV)} {bs:List (Nat×Box)} {o:List (List PV)} {y:Yl} (b nb esz:Nat) (ety:TypeId) {B:Box} (hL:Nat.blt nb LENT=true) (hB:lkp bs b=some B) (ha:B.arr=false) (he:B.els=[.nilS]) (hn:lkp bs nb=none) (hz:0<esz):
  Le (St.ofG vs bs o y) (St.ofG vs ((b,{B with els:=[.bs nb esz 0 0]})::(nb,{els:=[],esz:=esz,ety:=ety,fro:=0,live:=true,arr:=true})::bs) o y):=Qxx (st:=St.ofG vs bs o y) hL hB ha he hn hz
def casL (n m:Nat):List PV:=(List.range (n*m)).map fun x=> .agg [.int .i64 ((x/m:Nat):Int),.int .i64 ((x%m:Nat):Int)]
theorem Qno (n m:Nat):(casL n m).length=n*m:=by simp [casL]
theorem Qtp {n m x:Nat} (h:x<n*m):(casL n m)[x]? =some (.agg [.int .i64 ((x/m:Nat):Int),.int .i64 ((x%m:Nat):Int)]):=by simp [casL,h]
theorem Qqs {n m i k:Nat} (hi:i<n) (hk:k<m):(casL n m).take (i*m+k+1)=(casL n m).take (i*m+k)++[.agg [.int .i64 (i:Int),.int .i64 (k:Int)]]:=by
 have hx:=Qhd (m:=m) (k:=k+1) hi hk
 have h1:(i*m+k)/m=i:=by rw [Nat.add_comm,Nat.add_mul_div_right _ _ (by omega),Nat.div_eq_of_lt hk];omega
 have h2:(i*m+k)%m=k:=by rw [Nat.add_comm,Nat.add_mul_mod_self_right,Nat.mod_eq_of_lt hk]
 rw [Qeq _ _ (by rw [Qno];omega)]
 simp only [casL,List.getElem_map,List.getElem_range,h1,h2]
theorem Qtq (n m x:Nat):((((casL n m).take x).flatMap PV.cells).all PV.okCell)=true:=by
 rw [List.all_flatMap,List.all_eq_true]
 intro e he
 have he:=List.mem_of_mem_take he
 simp only [casL,List.mem_map]at he
 obtain⟨y,_,rfl⟩:=he
 rfl
set_option maxRecDepth 100000 in
set_option maxHeartbeats 4000000 in
theorem Qiu (p:Pg) (q:Int):Qan Tryz.prog 5 [pgV p,.int .i64 q] (.bool true):=by
 have hFw:=Q3k p
 have hKn:=Qxv
 by_cases hfew:FewP p
 case neg=>
  have e0:decide (FewP p)=false:=decide_eq_false hfew
  rw [e0]at hFw
  unfold pgV at hFw ⊢
  refine Qac (tb:=[]) 119 [.cell 4 4] [0,1,2,3,4,5,6,7,8,9,10,11,12,13,14,17,27,34,50,53,68,70,73,74,86,95,116,117] mixed Tryz.func5 rfl (by kernel_rfl) (by kernel_rfl) (by kernel_rfl) (by kernel_rfl) ?_
  repeat (first|(simp -implicitDefEqProofs only [go_sem,Nat.reduceAdd,Nat.reduceMul,Nat.reduceEqDiff,Nat.reduceLT,Nat.reduceLeDiff,reduceCtorEq,Qas,Bool.not_false])|((with_reducible refine Qab (hFw) ?_ ?_ ?_);(with_reducible rfl);rfl)|((with_reducible refine Qab (hKn) ?_ ?_ ?_);(with_reducible rfl);rfl)|(with_reducible exact Qaa _ _ (by kernel_rfl))|(with_reducible refine And.intro (Qaa _ _ (by kernel_rfl)) ?_))
 have ok:=Qxe hfew
 have e0:decide (FewP p)=true:=decide_eq_true hfew
 rw [e0]at hFw
 have hV:=Qhu p ok
 have hCt:=Qqn p ok
 have hCs:=Qqm p ok
 have hn5:=hfew.1
 have hm5:=hfew.2.2.1
 unfold cntV cntR at hCt
 unfold acN at hCs
 obtain⟨n,hn⟩: ∃n,p.ns.length=n:=⟨_,rfl⟩
 obtain⟨m,hm⟩: ∃n,p.as_.length=n:=⟨_,rfl⟩
 rw [hn]at hCt hCs hn5
 rw [hm]at hCt hCs hm5
 cases e:Qbg p with
 |false=>
  rw [e]at hV hCt hCs
  rw [if_neg Bool.false_ne_true]at hCs
  rw [if_neg Bool.false_ne_true,if_neg Bool.false_ne_true]at hCt
  have hlO:=Qe4 n 0
  have hY:=Qj1 n 0 (by omega) (by omega)
  have hgO: ∀x,x<n*0→(Qg4 n 0)[x]? =some [.agg [.int .i64 ((x/0:Nat):Int),.int .i64 ((x%0:Nat):Int)]]:=fun x h=>Qe5 h
  obtain⟨S,hS0⟩: ∃S:Nat,S=n*0:=⟨_,rfl⟩
  obtain⟨W,hW0⟩: ∃W:List PV,W=[]:=⟨[],rfl⟩
  obtain⟨stp,hstp⟩: ∃s:Nat,s=(q-1).toNat:=⟨_,rfl⟩
  rw [←hS0]at hlO hgO
  have hSz:S=0:=by rw [hS0,Nat.mul_zero]
  have hmm:(((min S (stp+1):Nat):Int) != min (S:Int) (max 1 q))=false:=by
   have:((min S (stp+1):Nat):Int)=min (S:Int) (max 1 q):=by omega
   rw [this];exact bne_self_eq_false _
  have hWx: ∀x,x<S→W[x]? =some (.agg [.int .i64 ((x/0:Nat):Int),.int .i64 ((x%0:Nat):Int)]):=fun x h=>by omega
  have hS25:S≤5*5:=by omega
  generalize Qg4 n 0=OO at*
  obtain⟨m0,hm0⟩: ∃m0:Nat,0=m0:=⟨_,rfl⟩
  obtain⟨M,hM⟩: ∃M:Nat,0=M:=⟨_,rfl⟩
  rw [hM]at hCs hY
  unfold pgV at*
  refine Qac (tb:=[]) 119 [.cell 4 4] [0,1,2,3,4,5,6,7,8,9,10,11,12,13,14,17,27,34,50,53,68,70,73,74,86,95,116,117] mixed Tryz.func5 rfl (by kernel_rfl) (by kernel_rfl) (by kernel_rfl) (by kernel_rfl) ?_
  repeat (first|(simp -implicitDefEqProofs only [go_sem,Nat.reduceAdd,Nat.reduceMul,Nat.reduceEqDiff,Nat.reduceLT,Nat.reduceLeDiff,reduceCtorEq,Qas,Bool.not_true])|((with_reducible refine Qab (hFw) ?_ ?_ ?_);(with_reducible rfl);rfl)|(with_reducible exact Qaa _ _ (by kernel_rfl))|(with_reducible refine And.intro (Qaa _ _ (by kernel_rfl)) ?_))
  refine Q1h mixed [0] ?_
  by_cases h0:0<n
  ·have h0':((0:Int)<(n:Int))=True:=eq_true (by omega)
   repeat (first|(simp -implicitDefEqProofs only [go_sem,Nat.reduceAdd,Nat.reduceMul,Nat.reduceEqDiff,Nat.reduceLT,Nat.reduceLeDiff,reduceCtorEq,Qas,hn,h0',Qas,Bool.not_false,Bool.not_true,decide_true,decide_false,bne_self_eq_false,Int.reduceBNe,List.length_map])|((with_reducible refine Qab (hV) ?_ ?_ ?_);(with_reducible rfl);rfl)|((with_reducible refine Qab (hCt) ?_ ?_ ?_);(with_reducible rfl);rfl)|((with_reducible refine Qab (hCs) ?_ ?_ ?_);(with_reducible rfl);rfl)|(with_reducible exact Qaa _ _ (by kernel_rfl))|(with_reducible refine And.intro (Qaa _ _ (by kernel_rfl)) ?_))
   refine Qgg mixed [0,1,2] (St.of [(2,.bp 0 3 0 0),(3,.bp 1 1 0 0),(4,.bp 2 1 0 0),(5,.bp 300 1 0 0),(11,.fn 40 [] [.rp [.int .i64 (n:Int)],.rp [.int .i64 (M:Int)]]),(12,.bp 8 1 0 0)] [(0,{els:=[.agg [.slc (p.ns.map PV.str),.slc (p.hs.map v3PV),.slc (p.as_.map acV)]],esz:=3,ety:=26,fro:=0,live:=true,arr:=false}),(1,{els:=[.int .i64 q],esz:=1,ety:=3,fro:=0,live:=true,arr:=false}),(2,{els:=[.bool false],esz:=1,ety:=4,fro:=0,live:=true,arr:=false}),(300,{els:=[.bs 7 2 0 S],esz:=1,ety:=44,fro:=0,live:=true,arr:=false}),(7,{els:=W,esz:=2,ety:=30,fro:=0,live:=true,arr:=true}),(8,{els:=[.int .i64 0],esz:=1,ety:=3,fro:=0,live:=true,arr:=false})]) ?_ ?_
   ·clear hS0
    subst hSz
    subst hW0
    refine(Qj2 300 7 2 30 rfl rfl rfl rfl rfl (by decide)).trans (Qaq (θ:=[(0,0),(1,1),(2,2),(300,300),(7,7),(8,2000)]) rfl ?_ ?_)
    ·simp [Qad,lkp,ren1,ren0,Qae]
    ·exact⟨⟨rfl,rfl,rfl,rfl,rfl,.inr ⟨rfl,_,_,rfl,rfl,rfl,rfl⟩⟩,⟨rfl,rfl,rfl,rfl,rfl,.inr ⟨rfl,_,_,rfl,rfl,rfl,rfl⟩⟩,⟨rfl,rfl,rfl,rfl,rfl,.inr ⟨rfl,_,_,rfl,rfl,rfl,rfl⟩⟩,⟨rfl,rfl,rfl,rfl,rfl,.inr ⟨rfl,_,_,rfl,rfl,rfl,rfl⟩⟩,⟨rfl,rfl,rfl,rfl,rfl,.inl ⟨rfl,rfl⟩⟩,⟨rfl,rfl,rfl,rfl,rfl,.inr ⟨rfl,_,_,rfl,rfl,rfl,rfl⟩⟩,trivial⟩
   repeat (first|(simp -implicitDefEqProofs only [go_sem,Nat.reduceAdd,Nat.reduceMul,Nat.reduceEqDiff,Nat.reduceLT,Nat.reduceLeDiff,reduceCtorEq,Int.reduceLT,Qas,BEq.rfl,Bool.not_true,Bool.not_false,Bool.and_self,bne_self_eq_false,Int.reduceBEq,Int.reduceBNe,decide_true,decide_false,Bool.and_true,Bool.true_and])|(with_reducible exact Qaa _ _ (by kernel_rfl))|(with_reducible refine And.intro (Qaa _ _ (by kernel_rfl)) ?_))
   refine Qby mixed hY rfl rfl _ rfl [(1000000,2300),(1000001,300),(1000002,7),(1000003,8),(1000004,1),(1000005,2),(1000006,0)] [1000000,1000001,1000002,1000003,1000004,1000005,1000006] rfl
    [(2,.bp 1000006 3 0 0),(11,.fn 40 [] [.rp [.int .i64 (n:Int)],.rp [.int .i64 (M:Int)]]),(3,.bp 1000004 1 0 0),(4,.bp 1000005 1 0 0),(5,.bp 1000001 1 0 0),(12,.bp 1000003 1 0 0),(13,.bp 1000000 1 0 0)]
    (fun j:Nat=>[(1000000,{els:=[.int .i64 (j:Int)],esz:=1,ety:=3,fro:=0,live:=true,arr:=false}),(1000001,{els:=[.bs 1000002 2 0 S],esz:=1,ety:=44,fro:=0,live:=true,arr:=false}),(1000002,{els:=W,esz:=2,ety:=30,fro:=0,live:=true,arr:=true}),(1000003,{els:=[.int .i64 0],esz:=1,ety:=3,fro:=0,live:=true,arr:=false}),(1000004,{els:=[.int .i64 q],esz:=1,ety:=3,fro:=0,live:=true,arr:=false}),(1000005,{els:=[.bool false],esz:=1,ety:=4,fro:=0,live:=true,arr:=false}),(1000006,{els:=[.agg [.slc (p.ns.map PV.str),.slc (p.hs.map v3PV),.slc (p.as_.map acV)]],esz:=3,ety:=26,fro:=0,live:=true,arr:=false})]) rfl rfl ?_ ?_ ?_ stp (.exit 6) (fun _=>rfl) (fun j _ _=>by simp [lkp]) ?_ rfl ?_
    [(0,1000006),(1,1000004),(2,1000005),(300,1000001),(7,1000002),(8,1000003),(2300,1000000)]
    [(2,.bp 0 3 0 0),(3,.bp 1 1 0 0),(4,.bp 2 1 0 0),(5,.bp 300 1 0 0),(11,.fn 40 [] [.rp [.int .i64 (n:Int)],.rp [.int .i64 (M:Int)]]),(12,.bp 8 1 0 0),(13,.bp 2300 1 0 0)]
    [(0,{els:=[.agg [.slc (p.ns.map PV.str),.slc (p.hs.map v3PV),.slc (p.as_.map acV)]],esz:=3,ety:=26,fro:=0,live:=true,arr:=false}),(1,{els:=[.int .i64 q],esz:=1,ety:=3,fro:=0,live:=true,arr:=false}),(2,{els:=[.bool false],esz:=1,ety:=4,fro:=0,live:=true,arr:=false}),(300,{els:=[.bs 7 2 0 S],esz:=1,ety:=44,fro:=0,live:=true,arr:=false}),(7,{els:=W,esz:=2,ety:=30,fro:=0,live:=true,arr:=true}),(8,{els:=[.int .i64 0],esz:=1,ety:=3,fro:=0,live:=true,arr:=false}),(2300,{els:=[.int .i64 ((min S (stp+1):Nat):Int)],esz:=1,ety:=3,fro:=0,live:=true,arr:=false})] rfl rfl ?_ ?_ (fun hq1=> ?_) (fun hq2=> ?_)
   ·simp [Qad,lkp,ren1,ren0,Qae]
   ·exact⟨⟨rfl,rfl,rfl,rfl,rfl,.inr ⟨rfl,_,_,rfl,rfl,rfl,rfl⟩⟩,⟨rfl,rfl,rfl,rfl,rfl,.inr ⟨rfl,_,_,rfl,rfl,rfl,rfl⟩⟩,⟨rfl,rfl,rfl,rfl,rfl,.inl ⟨rfl,rfl⟩⟩,⟨rfl,rfl,rfl,rfl,rfl,.inr ⟨rfl,_,_,rfl,rfl,rfl,rfl⟩⟩,⟨rfl,rfl,rfl,rfl,rfl,.inr ⟨rfl,_,_,rfl,rfl,rfl,rfl⟩⟩,⟨rfl,rfl,rfl,rfl,rfl,.inr ⟨rfl,_,_,rfl,rfl,rfl,rfl⟩⟩,⟨rfl,rfl,rfl,rfl,rfl,.inr ⟨rfl,_,_,rfl,rfl,rfl,rfl⟩⟩,trivial⟩
   ·simp [Qad,lkp,ren1,ren0,Qae,Qc6]
   ·intro j args h
    have hj:j<S:=by rw [←hlO];exact(List.getElem?_eq_some_iff.1 h).1
    rw [hgO j hj]at h
    cases h
    rfl
   ·rintro j args hja hjs
    have hj:j<S:=by rw [←hlO];exact(List.getElem?_eq_some_iff.1 hja).1
    rw [hgO j hj]at hja
    cases hja
    have hwj:=wr_1 (n:=j) (by omega)
    have hjT:((S:Int)≤(j:Int))=False:=eq_false (by omega)
    have hWj:=hWx j hj
    have hjT2:=lt_T hj
    have nj:=nn_T j
    repeat (first|(simp -implicitDefEqProofs only [go_sem,Nat.reduceAdd,Nat.reduceMul,Nat.reduceEqDiff,Nat.reduceLT,Nat.reduceLeDiff,reduceCtorEq,Qas,pvars,List.toList_toArray])|(with_reducible exact Qaa _ _ (by kernel_rfl))|(with_reducible refine And.intro (Qaa _ _ (by kernel_rfl)) ?_))
    refine⟨by simp [lkp],?_⟩
    by_cases hlt:j<stp
    ·have hq:(q≤((j+1:Nat):Int))=False:=eq_false (by omega)
     repeat (first|(simp -implicitDefEqProofs only [go_sem,Nat.reduceAdd,Nat.reduceMul,Nat.reduceEqDiff,Nat.reduceLT,Nat.reduceLeDiff,reduceCtorEq,Qas,BEq.rfl,Bool.not_true,Bool.not_false,Bool.and_self,bne_self_eq_false,Int.reduceBEq,Int.reduceBNe,decide_true,decide_false,Bool.and_true,Bool.true_and,hjT,hjT2,nj,hWj,hwj,hq,Int.toNat_natCast])|(with_reducible exact Qaa _ _ (by kernel_rfl))|(with_reducible refine And.intro (Qaa _ _ (by kernel_rfl)) ?_))
     refine⟨hlt,?_⟩
     refine Qaq (θ:=[(1000000,1000000),(1000001,1000001),(1000002,1000002),(1000003,1000003),(1000004,1000004),(1000005,1000005),(1000006,1000006)]) rfl ?_ ?_
     ·simp [Qad,lkp,ren1,ren0,Qae]
     ·exact⟨⟨rfl,rfl,rfl,rfl,rfl,.inr ⟨rfl,_,_,rfl,rfl,rfl,rfl⟩⟩,⟨rfl,rfl,rfl,rfl,rfl,.inr ⟨rfl,_,_,rfl,rfl,rfl,rfl⟩⟩,⟨rfl,rfl,rfl,rfl,rfl,.inl ⟨rfl,rfl⟩⟩,⟨rfl,rfl,rfl,rfl,rfl,.inr ⟨rfl,_,_,rfl,rfl,rfl,rfl⟩⟩,⟨rfl,rfl,rfl,rfl,rfl,.inr ⟨rfl,_,_,rfl,rfl,rfl,rfl⟩⟩,⟨rfl,rfl,rfl,rfl,rfl,.inr ⟨rfl,_,_,rfl,rfl,rfl,rfl⟩⟩,⟨rfl,rfl,rfl,rfl,rfl,.inr ⟨rfl,_,_,rfl,rfl,rfl,rfl⟩⟩,trivial⟩
    ·obtain rfl:j=stp:=by omega
     have hq:(q≤((j+1:Nat):Int))=True:=eq_true (by omega)
     repeat (first|(simp -implicitDefEqProofs only [go_sem,Nat.reduceAdd,Nat.reduceMul,Nat.reduceEqDiff,Nat.reduceLT,Nat.reduceLeDiff,reduceCtorEq,Qas,BEq.rfl,Bool.not_true,Bool.not_false,Bool.and_self,bne_self_eq_false,Int.reduceBEq,Int.reduceBNe,decide_true,decide_false,Bool.and_true,Bool.true_and,hjT,hjT2,nj,hWj,hwj,hq,Int.toNat_natCast])|(with_reducible exact Qaa _ _ (by kernel_rfl))|(with_reducible refine And.intro (Qaa _ _ (by kernel_rfl)) ?_))
     refine⟨rfl,rfl,?_⟩
     refine Qaq (θ:=[(1000000,1000000),(1000001,1000001),(1000002,1000002),(1000003,1000003),(1000004,1000004),(1000005,1000005),(1000006,1000006)]) rfl ?_ ?_
     ·simp [Qad,lkp,ren1,ren0,Qae]
     ·exact⟨⟨rfl,rfl,rfl,rfl,rfl,.inr ⟨rfl,_,_,rfl,rfl,rfl,rfl⟩⟩,⟨rfl,rfl,rfl,rfl,rfl,.inr ⟨rfl,_,_,rfl,rfl,rfl,rfl⟩⟩,⟨rfl,rfl,rfl,rfl,rfl,.inl ⟨rfl,rfl⟩⟩,⟨rfl,rfl,rfl,rfl,rfl,.inr ⟨rfl,_,_,rfl,rfl,rfl,rfl⟩⟩,⟨rfl,rfl,rfl,rfl,rfl,.inr ⟨rfl,_,_,rfl,rfl,rfl,rfl⟩⟩,⟨rfl,rfl,rfl,rfl,rfl,.inr ⟨rfl,_,_,rfl,rfl,rfl,rfl⟩⟩,⟨rfl,rfl,rfl,rfl,rfl,.inr ⟨rfl,_,_,rfl,rfl,rfl,rfl⟩⟩,trivial⟩
   ·simp [Qad,lkp,ren1,ren0,Qae]
   ·rw [hlO]
    exact⟨⟨rfl,rfl,rfl,rfl,rfl,.inr ⟨rfl,_,_,rfl,rfl,rfl,rfl⟩⟩,⟨rfl,rfl,rfl,rfl,rfl,.inr ⟨rfl,_,_,rfl,rfl,rfl,rfl⟩⟩,⟨rfl,rfl,rfl,rfl,rfl,.inr ⟨rfl,_,_,rfl,rfl,rfl,rfl⟩⟩,⟨rfl,rfl,rfl,rfl,rfl,.inr ⟨rfl,_,_,rfl,rfl,rfl,rfl⟩⟩,⟨rfl,rfl,rfl,rfl,rfl,.inl ⟨rfl,rfl⟩⟩,⟨rfl,rfl,rfl,rfl,rfl,.inr ⟨rfl,_,_,rfl,rfl,rfl,rfl⟩⟩,⟨rfl,rfl,rfl,rfl,rfl,.inr ⟨rfl,_,_,rfl,rfl,rfl,rfl⟩⟩,trivial⟩
   ·have hq0:=hq1
    repeat (first|(simp -implicitDefEqProofs only [go_sem,Nat.reduceAdd,Nat.reduceMul,Nat.reduceEqDiff,Nat.reduceLT,Nat.reduceLeDiff,reduceCtorEq,Int.reduceAdd,Qas,BEq.rfl,Bool.not_true,Bool.not_false,Bool.and_self,bne_self_eq_false,Int.reduceBEq,Int.reduceBNe,decide_true,decide_false,Bool.and_true,Bool.true_and,Qmd,Qme,hmm])|(with_reducible exact Qaa _ _ (by kernel_rfl))|(with_reducible refine And.intro (Qaa _ _ (by kernel_rfl)) ?_))
    refine⟨(St.of [(2,.bp 0 3 0 0),(3,.bp 1 1 0 0),(4,.bp 2 1 0 0),(5,.bp 300 1 0 0),(11,.fn 40 [] [.rp [.int .i64 (n:Int)],.rp [.int .i64 (M:Int)]]),(12,.bp 8 1 0 0)] [(0,{els:=[.agg [.slc (p.ns.map PV.str),.slc (p.hs.map v3PV),.slc (p.as_.map acV)]],esz:=3,ety:=26,fro:=0,live:=true,arr:=false}),(1,{els:=[.int .i64 q],esz:=1,ety:=3,fro:=0,live:=true,arr:=false}),(2,{els:=[.bool false],esz:=1,ety:=4,fro:=0,live:=true,arr:=false}),(300,{els:=[.bs 7 2 0 S],esz:=1,ety:=44,fro:=0,live:=true,arr:=false}),(7,{els:=W,esz:=2,ety:=30,fro:=0,live:=true,arr:=true}),(8,{els:=[.int .i64 1],esz:=1,ety:=3,fro:=0,live:=true,arr:=false})]),Qaq (θ:=[(0,0),(1,1),(2,2),(300,300),(7,7),(8,3300)]) rfl ?_ ?_,?_⟩
    ·simp [Qad,lkp,ren1,ren0,Qae]
    ·exact⟨⟨rfl,rfl,rfl,rfl,rfl,.inr ⟨rfl,_,_,rfl,rfl,rfl,rfl⟩⟩,⟨rfl,rfl,rfl,rfl,rfl,.inr ⟨rfl,_,_,rfl,rfl,rfl,rfl⟩⟩,⟨rfl,rfl,rfl,rfl,rfl,.inr ⟨rfl,_,_,rfl,rfl,rfl,rfl⟩⟩,⟨rfl,rfl,rfl,rfl,rfl,.inr ⟨rfl,_,_,rfl,rfl,rfl,rfl⟩⟩,⟨rfl,rfl,rfl,rfl,rfl,.inl ⟨rfl,rfl⟩⟩,⟨rfl,rfl,rfl,rfl,rfl,.inr ⟨rfl,_,_,rfl,rfl,rfl,rfl⟩⟩,trivial⟩
    repeat (first|(simp -implicitDefEqProofs only [go_sem,Nat.reduceAdd,Nat.reduceMul,Nat.reduceEqDiff,Nat.reduceLT,Nat.reduceLeDiff,reduceCtorEq,Int.reduceLT,Qas,BEq.rfl,Bool.not_true,Bool.not_false,Bool.and_self,bne_self_eq_false,Int.reduceBEq,Int.reduceBNe,decide_true,decide_false,Bool.and_true,Bool.true_and])|(with_reducible exact Qaa _ _ (by kernel_rfl))|(with_reducible refine And.intro (Qaa _ _ (by kernel_rfl)) ?_))
    refine Qby mixed hY rfl rfl _ rfl [(1000000,2300),(1000001,300),(1000002,7),(1000003,8),(1000004,1),(1000005,2),(1000006,0)] [1000000,1000001,1000002,1000003,1000004,1000005,1000006] rfl
     [(2,.bp 1000006 3 0 0),(11,.fn 40 [] [.rp [.int .i64 (n:Int)],.rp [.int .i64 (M:Int)]]),(3,.bp 1000004 1 0 0),(4,.bp 1000005 1 0 0),(5,.bp 1000001 1 0 0),(12,.bp 1000003 1 0 0),(13,.bp 1000000 1 0 0)]
     (fun j:Nat=>[(1000000,{els:=[.int .i64 (j:Int)],esz:=1,ety:=3,fro:=0,live:=true,arr:=false}),(1000001,{els:=[.bs 1000002 2 0 S],esz:=1,ety:=44,fro:=0,live:=true,arr:=false}),(1000002,{els:=W,esz:=2,ety:=30,fro:=0,live:=true,arr:=true}),(1000003,{els:=[.int .i64 1],esz:=1,ety:=3,fro:=0,live:=true,arr:=false}),(1000004,{els:=[.int .i64 q],esz:=1,ety:=3,fro:=0,live:=true,arr:=false}),(1000005,{els:=[.bool false],esz:=1,ety:=4,fro:=0,live:=true,arr:=false}),(1000006,{els:=[.agg [.slc (p.ns.map PV.str),.slc (p.hs.map v3PV),.slc (p.as_.map acV)]],esz:=3,ety:=26,fro:=0,live:=true,arr:=false})]) rfl rfl ?_ ?_ ?_ S (.exit 6) (fun _=>rfl) (fun j _ _=>by simp [lkp]) ?_ rfl ?_
     [(0,1000006),(1,1000004),(2,1000005),(300,1000001),(7,1000002),(8,1000003),(2300,1000000)]
     [(2,.bp 0 3 0 0),(3,.bp 1 1 0 0),(4,.bp 2 1 0 0),(5,.bp 300 1 0 0),(11,.fn 40 [] [.rp [.int .i64 (n:Int)],.rp [.int .i64 (M:Int)]]),(12,.bp 8 1 0 0),(13,.bp 2300 1 0 0)]
     [(0,{els:=[.agg [.slc (p.ns.map PV.str),.slc (p.hs.map v3PV),.slc (p.as_.map acV)]],esz:=3,ety:=26,fro:=0,live:=true,arr:=false}),(1,{els:=[.int .i64 q],esz:=1,ety:=3,fro:=0,live:=true,arr:=false}),(2,{els:=[.bool false],esz:=1,ety:=4,fro:=0,live:=true,arr:=false}),(300,{els:=[.bs 7 2 0 S],esz:=1,ety:=44,fro:=0,live:=true,arr:=false}),(7,{els:=W,esz:=2,ety:=30,fro:=0,live:=true,arr:=true}),(8,{els:=[.int .i64 1],esz:=1,ety:=3,fro:=0,live:=true,arr:=false}),(2300,{els:=[.int .i64 (S:Int)],esz:=1,ety:=3,fro:=0,live:=true,arr:=false})] rfl rfl ?_ ?_ (fun hq1=> ?_) (fun hq2=>by omega)
    ·simp [Qad,lkp,ren1,ren0,Qae]
    ·exact⟨⟨rfl,rfl,rfl,rfl,rfl,.inr ⟨rfl,_,_,rfl,rfl,rfl,rfl⟩⟩,⟨rfl,rfl,rfl,rfl,rfl,.inr ⟨rfl,_,_,rfl,rfl,rfl,rfl⟩⟩,⟨rfl,rfl,rfl,rfl,rfl,.inl ⟨rfl,rfl⟩⟩,⟨rfl,rfl,rfl,rfl,rfl,.inr ⟨rfl,_,_,rfl,rfl,rfl,rfl⟩⟩,⟨rfl,rfl,rfl,rfl,rfl,.inr ⟨rfl,_,_,rfl,rfl,rfl,rfl⟩⟩,⟨rfl,rfl,rfl,rfl,rfl,.inr ⟨rfl,_,_,rfl,rfl,rfl,rfl⟩⟩,⟨rfl,rfl,rfl,rfl,rfl,.inr ⟨rfl,_,_,rfl,rfl,rfl,rfl⟩⟩,trivial⟩
    ·simp [Qad,lkp,ren1,ren0,Qae,Qc6]
    ·intro j args h
     have hj:j<S:=by rw [←hlO];exact(List.getElem?_eq_some_iff.1 h).1
     rw [hgO j hj]at h
     cases h
     rfl
    ·rintro j args hja hjs
     have hj:j<S:=by rw [←hlO];exact(List.getElem?_eq_some_iff.1 hja).1
     rw [hgO j hj]at hja
     cases hja
     have hwj:=wr_1 (n:=j) (by omega)
     have hjT:((S:Int)≤(j:Int))=False:=eq_false (by omega)
     have hWj:=hWx j hj
     have hjT2:=lt_T hj
     have nj:=nn_T j
     repeat (first|(simp -implicitDefEqProofs only [go_sem,Nat.reduceAdd,Nat.reduceMul,Nat.reduceEqDiff,Nat.reduceLT,Nat.reduceLeDiff,reduceCtorEq,Qas,pvars,List.toList_toArray])|(with_reducible exact Qaa _ _ (by kernel_rfl))|(with_reducible refine And.intro (Qaa _ _ (by kernel_rfl)) ?_))
     refine⟨by simp [lkp],?_⟩
     repeat (first|(simp -implicitDefEqProofs only [go_sem,Nat.reduceAdd,Nat.reduceMul,Nat.reduceEqDiff,Nat.reduceLT,Nat.reduceLeDiff,reduceCtorEq,Qas,BEq.rfl,Bool.not_true,Bool.not_false,Bool.and_self,bne_self_eq_false,Int.reduceBEq,Int.reduceBNe,decide_true,decide_false,Bool.and_true,Bool.true_and,hjT,hjT2,nj,hWj,hwj,Int.toNat_natCast])|(with_reducible exact Qaa _ _ (by kernel_rfl))|(with_reducible refine And.intro (Qaa _ _ (by kernel_rfl)) ?_))
     refine⟨hj,?_⟩
     refine Qaq (θ:=[(1000000,1000000),(1000001,1000001),(1000002,1000002),(1000003,1000003),(1000004,1000004),(1000005,1000005),(1000006,1000006)]) rfl ?_ ?_
     ·simp [Qad,lkp,ren1,ren0,Qae]
     ·exact⟨⟨rfl,rfl,rfl,rfl,rfl,.inr ⟨rfl,_,_,rfl,rfl,rfl,rfl⟩⟩,⟨rfl,rfl,rfl,rfl,rfl,.inr ⟨rfl,_,_,rfl,rfl,rfl,rfl⟩⟩,⟨rfl,rfl,rfl,rfl,rfl,.inl ⟨rfl,rfl⟩⟩,⟨rfl,rfl,rfl,rfl,rfl,.inr ⟨rfl,_,_,rfl,rfl,rfl,rfl⟩⟩,⟨rfl,rfl,rfl,rfl,rfl,.inr ⟨rfl,_,_,rfl,rfl,rfl,rfl⟩⟩,⟨rfl,rfl,rfl,rfl,rfl,.inr ⟨rfl,_,_,rfl,rfl,rfl,rfl⟩⟩,⟨rfl,rfl,rfl,rfl,rfl,.inr ⟨rfl,_,_,rfl,rfl,rfl,rfl⟩⟩,trivial⟩
    ·simp [Qad,lkp,ren1,ren0,Qae]
    ·rw [hlO,Nat.min_eq_left (Nat.le_succ S)]
     exact⟨⟨rfl,rfl,rfl,rfl,rfl,.inr ⟨rfl,_,_,rfl,rfl,rfl,rfl⟩⟩,⟨rfl,rfl,rfl,rfl,rfl,.inr ⟨rfl,_,_,rfl,rfl,rfl,rfl⟩⟩,⟨rfl,rfl,rfl,rfl,rfl,.inr ⟨rfl,_,_,rfl,rfl,rfl,rfl⟩⟩,⟨rfl,rfl,rfl,rfl,rfl,.inr ⟨rfl,_,_,rfl,rfl,rfl,rfl⟩⟩,⟨rfl,rfl,rfl,rfl,rfl,.inl ⟨rfl,rfl⟩⟩,⟨rfl,rfl,rfl,rfl,rfl,.inr ⟨rfl,_,_,rfl,rfl,rfl,rfl⟩⟩,⟨rfl,rfl,rfl,rfl,rfl,.inr ⟨rfl,_,_,rfl,rfl,rfl,rfl⟩⟩,trivial⟩
    ·repeat (first|(simp -implicitDefEqProofs only [go_sem,Nat.reduceAdd,Nat.reduceMul,Nat.reduceEqDiff,Nat.reduceLT,Nat.reduceLeDiff,reduceCtorEq,Int.reduceAdd,Qas,BEq.rfl,Bool.not_true,Bool.not_false,Bool.and_self,bne_self_eq_false,Int.reduceBEq,Int.reduceBNe,decide_true,decide_false,Bool.and_true,Bool.true_and])|(with_reducible exact Qaa _ _ (by kernel_rfl))|(with_reducible refine And.intro (Qaa _ _ (by kernel_rfl)) ?_))
     refine⟨(St.of [(2,.bp 0 3 0 0),(3,.bp 1 1 0 0),(4,.bp 2 1 0 0),(5,.bp 300 1 0 0),(11,.fn 40 [] [.rp [.int .i64 (n:Int)],.rp [.int .i64 (M:Int)]]),(12,.bp 8 1 0 0)] [(0,{els:=[.agg [.slc (p.ns.map PV.str),.slc (p.hs.map v3PV),.slc (p.as_.map acV)]],esz:=3,ety:=26,fro:=0,live:=true,arr:=false}),(1,{els:=[.int .i64 q],esz:=1,ety:=3,fro:=0,live:=true,arr:=false}),(2,{els:=[.bool false],esz:=1,ety:=4,fro:=0,live:=true,arr:=false}),(300,{els:=[.bs 7 2 0 S],esz:=1,ety:=44,fro:=0,live:=true,arr:=false}),(7,{els:=W,esz:=2,ety:=30,fro:=0,live:=true,arr:=true}),(8,{els:=[.int .i64 2],esz:=1,ety:=3,fro:=0,live:=true,arr:=false})]),Qaq (θ:=[(0,0),(1,1),(2,2),(300,300),(7,7),(8,3300)]) rfl ?_ ?_,?_⟩
     ·simp [Qad,lkp,ren1,ren0,Qae]
     ·exact⟨⟨rfl,rfl,rfl,rfl,rfl,.inr ⟨rfl,_,_,rfl,rfl,rfl,rfl⟩⟩,⟨rfl,rfl,rfl,rfl,rfl,.inr ⟨rfl,_,_,rfl,rfl,rfl,rfl⟩⟩,⟨rfl,rfl,rfl,rfl,rfl,.inr ⟨rfl,_,_,rfl,rfl,rfl,rfl⟩⟩,⟨rfl,rfl,rfl,rfl,rfl,.inr ⟨rfl,_,_,rfl,rfl,rfl,rfl⟩⟩,⟨rfl,rfl,rfl,rfl,rfl,.inl ⟨rfl,rfl⟩⟩,⟨rfl,rfl,rfl,rfl,rfl,.inr ⟨rfl,_,_,rfl,rfl,rfl,rfl⟩⟩,trivial⟩
     repeat (first|(simp -implicitDefEqProofs only [go_sem,Nat.reduceAdd,Nat.reduceMul,Nat.reduceEqDiff,Nat.reduceLT,Nat.reduceLeDiff,reduceCtorEq,Int.reduceLT,Qas,BEq.rfl,Bool.not_true,Bool.not_false,Bool.and_self,bne_self_eq_false,Int.reduceBEq,Int.reduceBNe,decide_true,decide_false,Bool.and_true,Bool.true_and])|((with_reducible refine Qab (hKn) ?_ ?_ ?_);(with_reducible rfl);rfl)|(with_reducible exact Qaa _ _ (by kernel_rfl))|(with_reducible refine And.intro (Qaa _ _ (by kernel_rfl)) ?_))
   ·rw [Qhr]
    repeat (first|(simp -implicitDefEqProofs only [go_sem,Nat.reduceAdd,Nat.reduceMul,Nat.reduceEqDiff,Nat.reduceLT,Nat.reduceLeDiff,reduceCtorEq,Int.reduceAdd,Qas,BEq.rfl,Bool.not_true,Bool.not_false,Bool.and_self,bne_self_eq_false,Int.reduceBEq,Int.reduceBNe,decide_true,decide_false,Bool.and_true,Bool.true_and,Qmd,Qme,hmm])|(with_reducible exact Qaa _ _ (by kernel_rfl))|(with_reducible refine And.intro (Qaa _ _ (by kernel_rfl)) ?_))
    refine⟨(St.of [(2,.bp 0 3 0 0),(3,.bp 1 1 0 0),(4,.bp 2 1 0 0),(5,.bp 300 1 0 0),(11,.fn 40 [] [.rp [.int .i64 (n:Int)],.rp [.int .i64 (M:Int)]]),(12,.bp 8 1 0 0)] [(0,{els:=[.agg [.slc (p.ns.map PV.str),.slc (p.hs.map v3PV),.slc (p.as_.map acV)]],esz:=3,ety:=26,fro:=0,live:=true,arr:=false}),(1,{els:=[.int .i64 q],esz:=1,ety:=3,fro:=0,live:=true,arr:=false}),(2,{els:=[.bool false],esz:=1,ety:=4,fro:=0,live:=true,arr:=false}),(300,{els:=[.bs 7 2 0 S],esz:=1,ety:=44,fro:=0,live:=true,arr:=false}),(7,{els:=W,esz:=2,ety:=30,fro:=0,live:=true,arr:=true}),(8,{els:=[.int .i64 1],esz:=1,ety:=3,fro:=0,live:=true,arr:=false})]),Qaq (θ:=[(0,0),(1,1),(2,2),(300,300),(7,7),(8,3300)]) rfl ?_ ?_,?_⟩
    ·simp [Qad,lkp,ren1,ren0,Qae]
    ·exact⟨⟨rfl,rfl,rfl,rfl,rfl,.inr ⟨rfl,_,_,rfl,rfl,rfl,rfl⟩⟩,⟨rfl,rfl,rfl,rfl,rfl,.inr ⟨rfl,_,_,rfl,rfl,rfl,rfl⟩⟩,⟨rfl,rfl,rfl,rfl,rfl,.inr ⟨rfl,_,_,rfl,rfl,rfl,rfl⟩⟩,⟨rfl,rfl,rfl,rfl,rfl,.inr ⟨rfl,_,_,rfl,rfl,rfl,rfl⟩⟩,⟨rfl,rfl,rfl,rfl,rfl,.inl ⟨rfl,rfl⟩⟩,⟨rfl,rfl,rfl,rfl,rfl,.inr ⟨rfl,_,_,rfl,rfl,rfl,rfl⟩⟩,trivial⟩
    repeat (first|(simp -implicitDefEqProofs only [go_sem,Nat.reduceAdd,Nat.reduceMul,Nat.reduceEqDiff,Nat.reduceLT,Nat.reduceLeDiff,reduceCtorEq,Int.reduceLT,Qas,BEq.rfl,Bool.not_true,Bool.not_false,Bool.and_self,bne_self_eq_false,Int.reduceBEq,Int.reduceBNe,decide_true,decide_false,Bool.and_true,Bool.true_and])|(with_reducible exact Qaa _ _ (by kernel_rfl))|(with_reducible refine And.intro (Qaa _ _ (by kernel_rfl)) ?_))
    refine Qby mixed hY rfl rfl _ rfl [(1000000,2300),(1000001,300),(1000002,7),(1000003,8),(1000004,1),(1000005,2),(1000006,0)] [1000000,1000001,1000002,1000003,1000004,1000005,1000006] rfl
     [(2,.bp 1000006 3 0 0),(11,.fn 40 [] [.rp [.int .i64 (n:Int)],.rp [.int .i64 (M:Int)]]),(3,.bp 1000004 1 0 0),(4,.bp 1000005 1 0 0),(5,.bp 1000001 1 0 0),(12,.bp 1000003 1 0 0),(13,.bp 1000000 1 0 0)]
     (fun j:Nat=>[(1000000,{els:=[.int .i64 (j:Int)],esz:=1,ety:=3,fro:=0,live:=true,arr:=false}),(1000001,{els:=[.bs 1000002 2 0 S],esz:=1,ety:=44,fro:=0,live:=true,arr:=false}),(1000002,{els:=W,esz:=2,ety:=30,fro:=0,live:=true,arr:=true}),(1000003,{els:=[.int .i64 1],esz:=1,ety:=3,fro:=0,live:=true,arr:=false}),(1000004,{els:=[.int .i64 q],esz:=1,ety:=3,fro:=0,live:=true,arr:=false}),(1000005,{els:=[.bool false],esz:=1,ety:=4,fro:=0,live:=true,arr:=false}),(1000006,{els:=[.agg [.slc (p.ns.map PV.str),.slc (p.hs.map v3PV),.slc (p.as_.map acV)]],esz:=3,ety:=26,fro:=0,live:=true,arr:=false})]) rfl rfl ?_ ?_ ?_ S (.exit 6) (fun _=>rfl) (fun j _ _=>by simp [lkp]) ?_ rfl ?_
     [(0,1000006),(1,1000004),(2,1000005),(300,1000001),(7,1000002),(8,1000003),(2300,1000000)]
     [(2,.bp 0 3 0 0),(3,.bp 1 1 0 0),(4,.bp 2 1 0 0),(5,.bp 300 1 0 0),(11,.fn 40 [] [.rp [.int .i64 (n:Int)],.rp [.int .i64 (M:Int)]]),(12,.bp 8 1 0 0),(13,.bp 2300 1 0 0)]
     [(0,{els:=[.agg [.slc (p.ns.map PV.str),.slc (p.hs.map v3PV),.slc (p.as_.map acV)]],esz:=3,ety:=26,fro:=0,live:=true,arr:=false}),(1,{els:=[.int .i64 q],esz:=1,ety:=3,fro:=0,live:=true,arr:=false}),(2,{els:=[.bool false],esz:=1,ety:=4,fro:=0,live:=true,arr:=false}),(300,{els:=[.bs 7 2 0 S],esz:=1,ety:=44,fro:=0,live:=true,arr:=false}),(7,{els:=W,esz:=2,ety:=30,fro:=0,live:=true,arr:=true}),(8,{els:=[.int .i64 1],esz:=1,ety:=3,fro:=0,live:=true,arr:=false}),(2300,{els:=[.int .i64 (S:Int)],esz:=1,ety:=3,fro:=0,live:=true,arr:=false})] rfl rfl ?_ ?_ (fun hq1=> ?_) (fun hq2=>by omega)
    ·simp [Qad,lkp,ren1,ren0,Qae]
    ·exact⟨⟨rfl,rfl,rfl,rfl,rfl,.inr ⟨rfl,_,_,rfl,rfl,rfl,rfl⟩⟩,⟨rfl,rfl,rfl,rfl,rfl,.inr ⟨rfl,_,_,rfl,rfl,rfl,rfl⟩⟩,⟨rfl,rfl,rfl,rfl,rfl,.inl ⟨rfl,rfl⟩⟩,⟨rfl,rfl,rfl,rfl,rfl,.inr ⟨rfl,_,_,rfl,rfl,rfl,rfl⟩⟩,⟨rfl,rfl,rfl,rfl,rfl,.inr ⟨rfl,_,_,rfl,rfl,rfl,rfl⟩⟩,⟨rfl,rfl,rfl,rfl,rfl,.inr ⟨rfl,_,_,rfl,rfl,rfl,rfl⟩⟩,⟨rfl,rfl,rfl,rfl,rfl,.inr ⟨rfl,_,_,rfl,rfl,rfl,rfl⟩⟩,trivial⟩
    ·simp [Qad,lkp,ren1,ren0,Qae,Qc6]
    ·intro j args h
     have hj:j<S:=by rw [←hlO];exact(List.getElem?_eq_some_iff.1 h).1
     rw [hgO j hj]at h
     cases h
     rfl
    ·rintro j args hja hjs
     have hj:j<S:=by rw [←hlO];exact(List.getElem?_eq_some_iff.1 hja).1
     rw [hgO j hj]at hja
     cases hja
     have hwj:=wr_1 (n:=j) (by omega)
     have hjT:((S:Int)≤(j:Int))=False:=eq_false (by omega)
     have hWj:=hWx j hj
     have hjT2:=lt_T hj
     have nj:=nn_T j
     repeat (first|(simp -implicitDefEqProofs only [go_sem,Nat.reduceAdd,Nat.reduceMul,Nat.reduceEqDiff,Nat.reduceLT,Nat.reduceLeDiff,reduceCtorEq,Qas,pvars,List.toList_toArray])|(with_reducible exact Qaa _ _ (by kernel_rfl))|(with_reducible refine And.intro (Qaa _ _ (by kernel_rfl)) ?_))
     refine⟨by simp [lkp],?_⟩
     repeat (first|(simp -implicitDefEqProofs only [go_sem,Nat.reduceAdd,Nat.reduceMul,Nat.reduceEqDiff,Nat.reduceLT,Nat.reduceLeDiff,reduceCtorEq,Qas,BEq.rfl,Bool.not_true,Bool.not_false,Bool.and_self,bne_self_eq_false,Int.reduceBEq,Int.reduceBNe,decide_true,decide_false,Bool.and_true,Bool.true_and,hjT,hjT2,nj,hWj,hwj,Int.toNat_natCast])|(with_reducible exact Qaa _ _ (by kernel_rfl))|(with_reducible refine And.intro (Qaa _ _ (by kernel_rfl)) ?_))
     refine⟨hj,?_⟩
     refine Qaq (θ:=[(1000000,1000000),(1000001,1000001),(1000002,1000002),(1000003,1000003),(1000004,1000004),(1000005,1000005),(1000006,1000006)]) rfl ?_ ?_
     ·simp [Qad,lkp,ren1,ren0,Qae]
     ·exact⟨⟨rfl,rfl,rfl,rfl,rfl,.inr ⟨rfl,_,_,rfl,rfl,rfl,rfl⟩⟩,⟨rfl,rfl,rfl,rfl,rfl,.inr ⟨rfl,_,_,rfl,rfl,rfl,rfl⟩⟩,⟨rfl,rfl,rfl,rfl,rfl,.inl ⟨rfl,rfl⟩⟩,⟨rfl,rfl,rfl,rfl,rfl,.inr ⟨rfl,_,_,rfl,rfl,rfl,rfl⟩⟩,⟨rfl,rfl,rfl,rfl,rfl,.inr ⟨rfl,_,_,rfl,rfl,rfl,rfl⟩⟩,⟨rfl,rfl,rfl,rfl,rfl,.inr ⟨rfl,_,_,rfl,rfl,rfl,rfl⟩⟩,⟨rfl,rfl,rfl,rfl,rfl,.inr ⟨rfl,_,_,rfl,rfl,rfl,rfl⟩⟩,trivial⟩
    ·simp [Qad,lkp,ren1,ren0,Qae]
    ·rw [hlO,Nat.min_eq_left (Nat.le_succ S)]
     exact⟨⟨rfl,rfl,rfl,rfl,rfl,.inr ⟨rfl,_,_,rfl,rfl,rfl,rfl⟩⟩,⟨rfl,rfl,rfl,rfl,rfl,.inr ⟨rfl,_,_,rfl,rfl,rfl,rfl⟩⟩,⟨rfl,rfl,rfl,rfl,rfl,.inr ⟨rfl,_,_,rfl,rfl,rfl,rfl⟩⟩,⟨rfl,rfl,rfl,rfl,rfl,.inr ⟨rfl,_,_,rfl,rfl,rfl,rfl⟩⟩,⟨rfl,rfl,rfl,rfl,rfl,.inl ⟨rfl,rfl⟩⟩,⟨rfl,rfl,rfl,rfl,rfl,.inr ⟨rfl,_,_,rfl,rfl,rfl,rfl⟩⟩,⟨rfl,rfl,rfl,rfl,rfl,.inr ⟨rfl,_,_,rfl,rfl,rfl,rfl⟩⟩,trivial⟩
    ·repeat (first|(simp -implicitDefEqProofs only [go_sem,Nat.reduceAdd,Nat.reduceMul,Nat.reduceEqDiff,Nat.reduceLT,Nat.reduceLeDiff,reduceCtorEq,Int.reduceAdd,Qas,BEq.rfl,Bool.not_true,Bool.not_false,Bool.and_self,bne_self_eq_false,Int.reduceBEq,Int.reduceBNe,decide_true,decide_false,Bool.and_true,Bool.true_and])|(with_reducible exact Qaa _ _ (by kernel_rfl))|(with_reducible refine And.intro (Qaa _ _ (by kernel_rfl)) ?_))
     refine⟨(St.of [(2,.bp 0 3 0 0),(3,.bp 1 1 0 0),(4,.bp 2 1 0 0),(5,.bp 300 1 0 0),(11,.fn 40 [] [.rp [.int .i64 (n:Int)],.rp [.int .i64 (M:Int)]]),(12,.bp 8 1 0 0)] [(0,{els:=[.agg [.slc (p.ns.map PV.str),.slc (p.hs.map v3PV),.slc (p.as_.map acV)]],esz:=3,ety:=26,fro:=0,live:=true,arr:=false}),(1,{els:=[.int .i64 q],esz:=1,ety:=3,fro:=0,live:=true,arr:=false}),(2,{els:=[.bool false],esz:=1,ety:=4,fro:=0,live:=true,arr:=false}),(300,{els:=[.bs 7 2 0 S],esz:=1,ety:=44,fro:=0,live:=true,arr:=false}),(7,{els:=W,esz:=2,ety:=30,fro:=0,live:=true,arr:=true}),(8,{els:=[.int .i64 2],esz:=1,ety:=3,fro:=0,live:=true,arr:=false})]),Qaq (θ:=[(0,0),(1,1),(2,2),(300,300),(7,7),(8,3300)]) rfl ?_ ?_,?_⟩
     ·simp [Qad,lkp,ren1,ren0,Qae]
     ·exact⟨⟨rfl,rfl,rfl,rfl,rfl,.inr ⟨rfl,_,_,rfl,rfl,rfl,rfl⟩⟩,⟨rfl,rfl,rfl,rfl,rfl,.inr ⟨rfl,_,_,rfl,rfl,rfl,rfl⟩⟩,⟨rfl,rfl,rfl,rfl,rfl,.inr ⟨rfl,_,_,rfl,rfl,rfl,rfl⟩⟩,⟨rfl,rfl,rfl,rfl,rfl,.inr ⟨rfl,_,_,rfl,rfl,rfl,rfl⟩⟩,⟨rfl,rfl,rfl,rfl,rfl,.inl ⟨rfl,rfl⟩⟩,⟨rfl,rfl,rfl,rfl,rfl,.inr ⟨rfl,_,_,rfl,rfl,rfl,rfl⟩⟩,trivial⟩
     repeat (first|(simp -implicitDefEqProofs only [go_sem,Nat.reduceAdd,Nat.reduceMul,Nat.reduceEqDiff,Nat.reduceLT,Nat.reduceLeDiff,reduceCtorEq,Int.reduceLT,Qas,BEq.rfl,Bool.not_true,Bool.not_false,Bool.and_self,bne_self_eq_false,Int.reduceBEq,Int.reduceBNe,decide_true,decide_false,Bool.and_true,Bool.true_and])|((with_reducible refine Qab (hKn) ?_ ?_ ?_);(with_reducible rfl);rfl)|(with_reducible exact Qaa _ _ (by kernel_rfl))|(with_reducible refine And.intro (Qaa _ _ (by kernel_rfl)) ?_))
  ·have h0':((0:Int)<(n:Int))=False:=eq_false (by omega)
   repeat (first|(simp -implicitDefEqProofs only [go_sem,Nat.reduceAdd,Nat.reduceMul,Nat.reduceEqDiff,Nat.reduceLT,Nat.reduceLeDiff,reduceCtorEq,Qas,hn,h0',Qas,Bool.not_false,Bool.not_true,decide_true,decide_false,bne_self_eq_false,Int.reduceBNe,List.length_map])|((with_reducible refine Qab (hV) ?_ ?_ ?_);(with_reducible rfl);rfl)|((with_reducible refine Qab (hCt) ?_ ?_ ?_);(with_reducible rfl);rfl)|((with_reducible refine Qab (hCs) ?_ ?_ ?_);(with_reducible rfl);rfl)|(with_reducible exact Qaa _ _ (by kernel_rfl))|(with_reducible refine And.intro (Qaa _ _ (by kernel_rfl)) ?_))
   refine Qgg mixed [0,1,2] (St.of [(2,.bp 0 3 0 0),(3,.bp 1 1 0 0),(4,.bp 2 1 0 0),(5,.bp 300 1 0 0),(11,.fn 40 [] [.rp [.int .i64 (n:Int)],.rp [.int .i64 (M:Int)]]),(12,.bp 8 1 0 0)] [(0,{els:=[.agg [.slc (p.ns.map PV.str),.slc (p.hs.map v3PV),.slc (p.as_.map acV)]],esz:=3,ety:=26,fro:=0,live:=true,arr:=false}),(1,{els:=[.int .i64 q],esz:=1,ety:=3,fro:=0,live:=true,arr:=false}),(2,{els:=[.bool false],esz:=1,ety:=4,fro:=0,live:=true,arr:=false}),(300,{els:=[.bs 7 2 0 S],esz:=1,ety:=44,fro:=0,live:=true,arr:=false}),(7,{els:=W,esz:=2,ety:=30,fro:=0,live:=true,arr:=true}),(8,{els:=[.int .i64 0],esz:=1,ety:=3,fro:=0,live:=true,arr:=false})]) ?_ ?_
   ·clear hS0
    subst hSz
    subst hW0
    refine(Qj2 300 7 2 30 rfl rfl rfl rfl rfl (by decide)).trans (Qaq (θ:=[(0,0),(1,1),(2,2),(300,300),(7,7),(8,2000)]) rfl ?_ ?_)
    ·simp [Qad,lkp,ren1,ren0,Qae]
    ·exact⟨⟨rfl,rfl,rfl,rfl,rfl,.inr ⟨rfl,_,_,rfl,rfl,rfl,rfl⟩⟩,⟨rfl,rfl,rfl,rfl,rfl,.inr ⟨rfl,_,_,rfl,rfl,rfl,rfl⟩⟩,⟨rfl,rfl,rfl,rfl,rfl,.inr ⟨rfl,_,_,rfl,rfl,rfl,rfl⟩⟩,⟨rfl,rfl,rfl,rfl,rfl,.inr ⟨rfl,_,_,rfl,rfl,rfl,rfl⟩⟩,⟨rfl,rfl,rfl,rfl,rfl,.inl ⟨rfl,rfl⟩⟩,⟨rfl,rfl,rfl,rfl,rfl,.inr ⟨rfl,_,_,rfl,rfl,rfl,rfl⟩⟩,trivial⟩
   repeat (first|(simp -implicitDefEqProofs only [go_sem,Nat.reduceAdd,Nat.reduceMul,Nat.reduceEqDiff,Nat.reduceLT,Nat.reduceLeDiff,reduceCtorEq,Int.reduceLT,Qas,BEq.rfl,Bool.not_true,Bool.not_false,Bool.and_self,bne_self_eq_false,Int.reduceBEq,Int.reduceBNe,decide_true,decide_false,Bool.and_true,Bool.true_and])|(with_reducible exact Qaa _ _ (by kernel_rfl))|(with_reducible refine And.intro (Qaa _ _ (by kernel_rfl)) ?_))
   refine Qby mixed hY rfl rfl _ rfl [(1000000,2300),(1000001,300),(1000002,7),(1000003,8),(1000004,1),(1000005,2),(1000006,0)] [1000000,1000001,1000002,1000003,1000004,1000005,1000006] rfl
    [(2,.bp 1000006 3 0 0),(11,.fn 40 [] [.rp [.int .i64 (n:Int)],.rp [.int .i64 (M:Int)]]),(3,.bp 1000004 1 0 0),(4,.bp 1000005 1 0 0),(5,.bp 1000001 1 0 0),(12,.bp 1000003 1 0 0),(13,.bp 1000000 1 0 0)]
    (fun j:Nat=>[(1000000,{els:=[.int .i64 (j:Int)],esz:=1,ety:=3,fro:=0,live:=true,arr:=false}),(1000001,{els:=[.bs 1000002 2 0 S],esz:=1,ety:=44,fro:=0,live:=true,arr:=false}),(1000002,{els:=W,esz:=2,ety:=30,fro:=0,live:=true,arr:=true}),(1000003,{els:=[.int .i64 0],esz:=1,ety:=3,fro:=0,live:=true,arr:=false}),(1000004,{els:=[.int .i64 q],esz:=1,ety:=3,fro:=0,live:=true,arr:=false}),(1000005,{els:=[.bool false],esz:=1,ety:=4,fro:=0,live:=true,arr:=false}),(1000006,{els:=[.agg [.slc (p.ns.map PV.str),.slc (p.hs.map v3PV),.slc (p.as_.map acV)]],esz:=3,ety:=26,fro:=0,live:=true,arr:=false})]) rfl rfl ?_ ?_ ?_ stp (.exit 6) (fun _=>rfl) (fun j _ _=>by simp [lkp]) ?_ rfl ?_
    [(0,1000006),(1,1000004),(2,1000005),(300,1000001),(7,1000002),(8,1000003),(2300,1000000)]
    [(2,.bp 0 3 0 0),(3,.bp 1 1 0 0),(4,.bp 2 1 0 0),(5,.bp 300 1 0 0),(11,.fn 40 [] [.rp [.int .i64 (n:Int)],.rp [.int .i64 (M:Int)]]),(12,.bp 8 1 0 0),(13,.bp 2300 1 0 0)]
    [(0,{els:=[.agg [.slc (p.ns.map PV.str),.slc (p.hs.map v3PV),.slc (p.as_.map acV)]],esz:=3,ety:=26,fro:=0,live:=true,arr:=false}),(1,{els:=[.int .i64 q],esz:=1,ety:=3,fro:=0,live:=true,arr:=false}),(2,{els:=[.bool false],esz:=1,ety:=4,fro:=0,live:=true,arr:=false}),(300,{els:=[.bs 7 2 0 S],esz:=1,ety:=44,fro:=0,live:=true,arr:=false}),(7,{els:=W,esz:=2,ety:=30,fro:=0,live:=true,arr:=true}),(8,{els:=[.int .i64 0],esz:=1,ety:=3,fro:=0,live:=true,arr:=false}),(2300,{els:=[.int .i64 ((min S (stp+1):Nat):Int)],esz:=1,ety:=3,fro:=0,live:=true,arr:=false})] rfl rfl ?_ ?_ (fun hq1=> ?_) (fun hq2=> ?_)
   ·simp [Qad,lkp,ren1,ren0,Qae]
   ·exact⟨⟨rfl,rfl,rfl,rfl,rfl,.inr ⟨rfl,_,_,rfl,rfl,rfl,rfl⟩⟩,⟨rfl,rfl,rfl,rfl,rfl,.inr ⟨rfl,_,_,rfl,rfl,rfl,rfl⟩⟩,⟨rfl,rfl,rfl,rfl,rfl,.inl ⟨rfl,rfl⟩⟩,⟨rfl,rfl,rfl,rfl,rfl,.inr ⟨rfl,_,_,rfl,rfl,rfl,rfl⟩⟩,⟨rfl,rfl,rfl,rfl,rfl,.inr ⟨rfl,_,_,rfl,rfl,rfl,rfl⟩⟩,⟨rfl,rfl,rfl,rfl,rfl,.inr ⟨rfl,_,_,rfl,rfl,rfl,rfl⟩⟩,⟨rfl,rfl,rfl,rfl,rfl,.inr ⟨rfl,_,_,rfl,rfl,rfl,rfl⟩⟩,trivial⟩
   ·simp [Qad,lkp,ren1,ren0,Qae,Qc6]
   ·intro j args h
    have hj:j<S:=by rw [←hlO];exact(List.getElem?_eq_some_iff.1 h).1
    rw [hgO j hj]at h
    cases h
    rfl
   ·rintro j args hja hjs
    have hj:j<S:=by rw [←hlO];exact(List.getElem?_eq_some_iff.1 hja).1
    rw [hgO j hj]at hja
    cases hja
    have hwj:=wr_1 (n:=j) (by omega)
    have hjT:((S:Int)≤(j:Int))=False:=eq_false (by omega)
    have hWj:=hWx j hj
    have hjT2:=lt_T hj
    have nj:=nn_T j
    repeat (first|(simp -implicitDefEqProofs only [go_sem,Nat.reduceAdd,Nat.reduceMul,Nat.reduceEqDiff,Nat.reduceLT,Nat.reduceLeDiff,reduceCtorEq,Qas,pvars,List.toList_toArray])|(with_reducible exact Qaa _ _ (by kernel_rfl))|(with_reducible refine And.intro (Qaa _ _ (by kernel_rfl)) ?_))
    refine⟨by simp [lkp],?_⟩
    by_cases hlt:j<stp
    ·have hq:(q≤((j+1:Nat):Int))=False:=eq_false (by omega)
     repeat (first|(simp -implicitDefEqProofs only [go_sem,Nat.reduceAdd,Nat.reduceMul,Nat.reduceEqDiff,Nat.reduceLT,Nat.reduceLeDiff,reduceCtorEq,Qas,BEq.rfl,Bool.not_true,Bool.not_false,Bool.and_self,bne_self_eq_false,Int.reduceBEq,Int.reduceBNe,decide_true,decide_false,Bool.and_true,Bool.true_and,hjT,hjT2,nj,hWj,hwj,hq,Int.toNat_natCast])|(with_reducible exact Qaa _ _ (by kernel_rfl))|(with_reducible refine And.intro (Qaa _ _ (by kernel_rfl)) ?_))
     refine⟨hlt,?_⟩
     refine Qaq (θ:=[(1000000,1000000),(1000001,1000001),(1000002,1000002),(1000003,1000003),(1000004,1000004),(1000005,1000005),(1000006,1000006)]) rfl ?_ ?_
     ·simp [Qad,lkp,ren1,ren0,Qae]
     ·exact⟨⟨rfl,rfl,rfl,rfl,rfl,.inr ⟨rfl,_,_,rfl,rfl,rfl,rfl⟩⟩,⟨rfl,rfl,rfl,rfl,rfl,.inr ⟨rfl,_,_,rfl,rfl,rfl,rfl⟩⟩,⟨rfl,rfl,rfl,rfl,rfl,.inl ⟨rfl,rfl⟩⟩,⟨rfl,rfl,rfl,rfl,rfl,.inr ⟨rfl,_,_,rfl,rfl,rfl,rfl⟩⟩,⟨rfl,rfl,rfl,rfl,rfl,.inr ⟨rfl,_,_,rfl,rfl,rfl,rfl⟩⟩,⟨rfl,rfl,rfl,rfl,rfl,.inr ⟨rfl,_,_,rfl,rfl,rfl,rfl⟩⟩,⟨rfl,rfl,rfl,rfl,rfl,.inr ⟨rfl,_,_,rfl,rfl,rfl,rfl⟩⟩,trivial⟩
    ·obtain rfl:j=stp:=by omega
     have hq:(q≤((j+1:Nat):Int))=True:=eq_true (by omega)
     repeat (first|(simp -implicitDefEqProofs only [go_sem,Nat.reduceAdd,Nat.reduceMul,Nat.reduceEqDiff,Nat.reduceLT,Nat.reduceLeDiff,reduceCtorEq,Qas,BEq.rfl,Bool.not_true,Bool.not_false,Bool.and_self,bne_self_eq_false,Int.reduceBEq,Int.reduceBNe,decide_true,decide_false,Bool.and_true,Bool.true_and,hjT,hjT2,nj,hWj,hwj,hq,Int.toNat_natCast])|(with_reducible exact Qaa _ _ (by kernel_rfl))|(with_reducible refine And.intro (Qaa _ _ (by kernel_rfl)) ?_))
     refine⟨rfl,rfl,?_⟩
     refine Qaq (θ:=[(1000000,1000000),(1000001,1000001),(1000002,1000002),(1000003,1000003),(1000004,1000004),(1000005,1000005),(1000006,1000006)]) rfl ?_ ?_
     ·simp [Qad,lkp,ren1,ren0,Qae]
     ·exact⟨⟨rfl,rfl,rfl,rfl,rfl,.inr ⟨rfl,_,_,rfl,rfl,rfl,rfl⟩⟩,⟨rfl,rfl,rfl,rfl,rfl,.inr ⟨rfl,_,_,rfl,rfl,rfl,rfl⟩⟩,⟨rfl,rfl,rfl,rfl,rfl,.inl ⟨rfl,rfl⟩⟩,⟨rfl,rfl,rfl,rfl,rfl,.inr ⟨rfl,_,_,rfl,rfl,rfl,rfl⟩⟩,⟨rfl,rfl,rfl,rfl,rfl,.inr ⟨rfl,_,_,rfl,rfl,rfl,rfl⟩⟩,⟨rfl,rfl,rfl,rfl,rfl,.inr ⟨rfl,_,_,rfl,rfl,rfl,rfl⟩⟩,⟨rfl,rfl,rfl,rfl,rfl,.inr ⟨rfl,_,_,rfl,rfl,rfl,rfl⟩⟩,trivial⟩
   ·simp [Qad,lkp,ren1,ren0,Qae]
   ·rw [hlO]
    exact⟨⟨rfl,rfl,rfl,rfl,rfl,.inr ⟨rfl,_,_,rfl,rfl,rfl,rfl⟩⟩,⟨rfl,rfl,rfl,rfl,rfl,.inr ⟨rfl,_,_,rfl,rfl,rfl,rfl⟩⟩,⟨rfl,rfl,rfl,rfl,rfl,.inr ⟨rfl,_,_,rfl,rfl,rfl,rfl⟩⟩,⟨rfl,rfl,rfl,rfl,rfl,.inr ⟨rfl,_,_,rfl,rfl,rfl,rfl⟩⟩,⟨rfl,rfl,rfl,rfl,rfl,.inl ⟨rfl,rfl⟩⟩,⟨rfl,rfl,rfl,rfl,rfl,.inr ⟨rfl,_,_,rfl,rfl,rfl,rfl⟩⟩,⟨rfl,rfl,rfl,rfl,rfl,.inr ⟨rfl,_,_,rfl,rfl,rfl,rfl⟩⟩,trivial⟩
   ·have hq0:=hq1
    repeat (first|(simp -implicitDefEqProofs only [go_sem,Nat.reduceAdd,Nat.reduceMul,Nat.reduceEqDiff,Nat.reduceLT,Nat.reduceLeDiff,reduceCtorEq,Int.reduceAdd,Qas,BEq.rfl,Bool.not_true,Bool.not_false,Bool.and_self,bne_self_eq_false,Int.reduceBEq,Int.reduceBNe,decide_true,decide_false,Bool.and_true,Bool.true_and,Qmd,Qme,hmm])|(with_reducible exact Qaa _ _ (by kernel_rfl))|(with_reducible refine And.intro (Qaa _ _ (by kernel_rfl)) ?_))
    refine⟨(St.of [(2,.bp 0 3 0 0),(3,.bp 1 1 0 0),(4,.bp 2 1 0 0),(5,.bp 300 1 0 0),(11,.fn 40 [] [.rp [.int .i64 (n:Int)],.rp [.int .i64 (M:Int)]]),(12,.bp 8 1 0 0)] [(0,{els:=[.agg [.slc (p.ns.map PV.str),.slc (p.hs.map v3PV),.slc (p.as_.map acV)]],esz:=3,ety:=26,fro:=0,live:=true,arr:=false}),(1,{els:=[.int .i64 q],esz:=1,ety:=3,fro:=0,live:=true,arr:=false}),(2,{els:=[.bool false],esz:=1,ety:=4,fro:=0,live:=true,arr:=false}),(300,{els:=[.bs 7 2 0 S],esz:=1,ety:=44,fro:=0,live:=true,arr:=false}),(7,{els:=W,esz:=2,ety:=30,fro:=0,live:=true,arr:=true}),(8,{els:=[.int .i64 1],esz:=1,ety:=3,fro:=0,live:=true,arr:=false})]),Qaq (θ:=[(0,0),(1,1),(2,2),(300,300),(7,7),(8,3300)]) rfl ?_ ?_,?_⟩
    ·simp [Qad,lkp,ren1,ren0,Qae]
    ·exact⟨⟨rfl,rfl,rfl,rfl,rfl,.inr ⟨rfl,_,_,rfl,rfl,rfl,rfl⟩⟩,⟨rfl,rfl,rfl,rfl,rfl,.inr ⟨rfl,_,_,rfl,rfl,rfl,rfl⟩⟩,⟨rfl,rfl,rfl,rfl,rfl,.inr ⟨rfl,_,_,rfl,rfl,rfl,rfl⟩⟩,⟨rfl,rfl,rfl,rfl,rfl,.inr ⟨rfl,_,_,rfl,rfl,rfl,rfl⟩⟩,⟨rfl,rfl,rfl,rfl,rfl,.inl ⟨rfl,rfl⟩⟩,⟨rfl,rfl,rfl,rfl,rfl,.inr ⟨rfl,_,_,rfl,rfl,rfl,rfl⟩⟩,trivial⟩
    repeat (first|(simp -implicitDefEqProofs only [go_sem,Nat.reduceAdd,Nat.reduceMul,Nat.reduceEqDiff,Nat.reduceLT,Nat.reduceLeDiff,reduceCtorEq,Int.reduceLT,Qas,BEq.rfl,Bool.not_true,Bool.not_false,Bool.and_self,bne_self_eq_false,Int.reduceBEq,Int.reduceBNe,decide_true,decide_false,Bool.and_true,Bool.true_and])|(with_reducible exact Qaa _ _ (by kernel_rfl))|(with_reducible refine And.intro (Qaa _ _ (by kernel_rfl)) ?_))
    refine Qby mixed hY rfl rfl _ rfl [(1000000,2300),(1000001,300),(1000002,7),(1000003,8),(1000004,1),(1000005,2),(1000006,0)] [1000000,1000001,1000002,1000003,1000004,1000005,1000006] rfl
     [(2,.bp 1000006 3 0 0),(11,.fn 40 [] [.rp [.int .i64 (n:Int)],.rp [.int .i64 (M:Int)]]),(3,.bp 1000004 1 0 0),(4,.bp 1000005 1 0 0),(5,.bp 1000001 1 0 0),(12,.bp 1000003 1 0 0),(13,.bp 1000000 1 0 0)]
     (fun j:Nat=>[(1000000,{els:=[.int .i64 (j:Int)],esz:=1,ety:=3,fro:=0,live:=true,arr:=false}),(1000001,{els:=[.bs 1000002 2 0 S],esz:=1,ety:=44,fro:=0,live:=true,arr:=false}),(1000002,{els:=W,esz:=2,ety:=30,fro:=0,live:=true,arr:=true}),(1000003,{els:=[.int .i64 1],esz:=1,ety:=3,fro:=0,live:=true,arr:=false}),(1000004,{els:=[.int .i64 q],esz:=1,ety:=3,fro:=0,live:=true,arr:=false}),(1000005,{els:=[.bool false],esz:=1,ety:=4,fro:=0,live:=true,arr:=false}),(1000006,{els:=[.agg [.slc (p.ns.map PV.str),.slc (p.hs.map v3PV),.slc (p.as_.map acV)]],esz:=3,ety:=26,fro:=0,live:=true,arr:=false})]) rfl rfl ?_ ?_ ?_ S (.exit 6) (fun _=>rfl) (fun j _ _=>by simp [lkp]) ?_ rfl ?_
     [(0,1000006),(1,1000004),(2,1000005),(300,1000001),(7,1000002),(8,1000003),(2300,1000000)]
     [(2,.bp 0 3 0 0),(3,.bp 1 1 0 0),(4,.bp 2 1 0 0),(5,.bp 300 1 0 0),(11,.fn 40 [] [.rp [.int .i64 (n:Int)],.rp [.int .i64 (M:Int)]]),(12,.bp 8 1 0 0),(13,.bp 2300 1 0 0)]
     [(0,{els:=[.agg [.slc (p.ns.map PV.str),.slc (p.hs.map v3PV),.slc (p.as_.map acV)]],esz:=3,ety:=26,fro:=0,live:=true,arr:=false}),(1,{els:=[.int .i64 q],esz:=1,ety:=3,fro:=0,live:=true,arr:=false}),(2,{els:=[.bool false],esz:=1,ety:=4,fro:=0,live:=true,arr:=false}),(300,{els:=[.bs 7 2 0 S],esz:=1,ety:=44,fro:=0,live:=true,arr:=false}),(7,{els:=W,esz:=2,ety:=30,fro:=0,live:=true,arr:=true}),(8,{els:=[.int .i64 1],esz:=1,ety:=3,fro:=0,live:=true,arr:=false}),(2300,{els:=[.int .i64 (S:Int)],esz:=1,ety:=3,fro:=0,live:=true,arr:=false})] rfl rfl ?_ ?_ (fun hq1=> ?_) (fun hq2=>by omega)
    ·simp [Qad,lkp,ren1,ren0,Qae]
    ·exact⟨⟨rfl,rfl,rfl,rfl,rfl,.inr ⟨rfl,_,_,rfl,rfl,rfl,rfl⟩⟩,⟨rfl,rfl,rfl,rfl,rfl,.inr ⟨rfl,_,_,rfl,rfl,rfl,rfl⟩⟩,⟨rfl,rfl,rfl,rfl,rfl,.inl ⟨rfl,rfl⟩⟩,⟨rfl,rfl,rfl,rfl,rfl,.inr ⟨rfl,_,_,rfl,rfl,rfl,rfl⟩⟩,⟨rfl,rfl,rfl,rfl,rfl,.inr ⟨rfl,_,_,rfl,rfl,rfl,rfl⟩⟩,⟨rfl,rfl,rfl,rfl,rfl,.inr ⟨rfl,_,_,rfl,rfl,rfl,rfl⟩⟩,⟨rfl,rfl,rfl,rfl,rfl,.inr ⟨rfl,_,_,rfl,rfl,rfl,rfl⟩⟩,trivial⟩
    ·simp [Qad,lkp,ren1,ren0,Qae,Qc6]
    ·intro j args h
     have hj:j<S:=by rw [←hlO];exact(List.getElem?_eq_some_iff.1 h).1
     rw [hgO j hj]at h
     cases h
     rfl
    ·rintro j args hja hjs
     have hj:j<S:=by rw [←hlO];exact(List.getElem?_eq_some_iff.1 hja).1
     rw [hgO j hj]at hja
     cases hja
     have hwj:=wr_1 (n:=j) (by omega)
     have hjT:((S:Int)≤(j:Int))=False:=eq_false (by omega)
     have hWj:=hWx j hj
     have hjT2:=lt_T hj
     have nj:=nn_T j
     repeat (first|(simp -implicitDefEqProofs only [go_sem,Nat.reduceAdd,Nat.reduceMul,Nat.reduceEqDiff,Nat.reduceLT,Nat.reduceLeDiff,reduceCtorEq,Qas,pvars,List.toList_toArray])|(with_reducible exact Qaa _ _ (by kernel_rfl))|(with_reducible refine And.intro (Qaa _ _ (by kernel_rfl)) ?_))
     refine⟨by simp [lkp],?_⟩
     repeat (first|(simp -implicitDefEqProofs only [go_sem,Nat.reduceAdd,Nat.reduceMul,Nat.reduceEqDiff,Nat.reduceLT,Nat.reduceLeDiff,reduceCtorEq,Qas,BEq.rfl,Bool.not_true,Bool.not_false,Bool.and_self,bne_self_eq_false,Int.reduceBEq,Int.reduceBNe,decide_true,decide_false,Bool.and_true,Bool.true_and,hjT,hjT2,nj,hWj,hwj,Int.toNat_natCast])|(with_reducible exact Qaa _ _ (by kernel_rfl))|(with_reducible refine And.intro (Qaa _ _ (by kernel_rfl)) ?_))
     refine⟨hj,?_⟩
     refine Qaq (θ:=[(1000000,1000000),(1000001,1000001),(1000002,1000002),(1000003,1000003),(1000004,1000004),(1000005,1000005),(1000006,1000006)]) rfl ?_ ?_
     ·simp [Qad,lkp,ren1,ren0,Qae]
     ·exact⟨⟨rfl,rfl,rfl,rfl,rfl,.inr ⟨rfl,_,_,rfl,rfl,rfl,rfl⟩⟩,⟨rfl,rfl,rfl,rfl,rfl,.inr ⟨rfl,_,_,rfl,rfl,rfl,rfl⟩⟩,⟨rfl,rfl,rfl,rfl,rfl,.inl ⟨rfl,rfl⟩⟩,⟨rfl,rfl,rfl,rfl,rfl,.inr ⟨rfl,_,_,rfl,rfl,rfl,rfl⟩⟩,⟨rfl,rfl,rfl,rfl,rfl,.inr ⟨rfl,_,_,rfl,rfl,rfl,rfl⟩⟩,⟨rfl,rfl,rfl,rfl,rfl,.inr ⟨rfl,_,_,rfl,rfl,rfl,rfl⟩⟩,⟨rfl,rfl,rfl,rfl,rfl,.inr ⟨rfl,_,_,rfl,rfl,rfl,rfl⟩⟩,trivial⟩
    ·simp [Qad,lkp,ren1,ren0,Qae]
    ·rw [hlO,Nat.min_eq_left (Nat.le_succ S)]
     exact⟨⟨rfl,rfl,rfl,rfl,rfl,.inr ⟨rfl,_,_,rfl,rfl,rfl,rfl⟩⟩,⟨rfl,rfl,rfl,rfl,rfl,.inr ⟨rfl,_,_,rfl,rfl,rfl,rfl⟩⟩,⟨rfl,rfl,rfl,rfl,rfl,.inr ⟨rfl,_,_,rfl,rfl,rfl,rfl⟩⟩,⟨rfl,rfl,rfl,rfl,rfl,.inr ⟨rfl,_,_,rfl,rfl,rfl,rfl⟩⟩,⟨rfl,rfl,rfl,rfl,rfl,.inl ⟨rfl,rfl⟩⟩,⟨rfl,rfl,rfl,rfl,rfl,.inr ⟨rfl,_,_,rfl,rfl,rfl,rfl⟩⟩,⟨rfl,rfl,rfl,rfl,rfl,.inr ⟨rfl,_,_,rfl,rfl,rfl,rfl⟩⟩,trivial⟩
    ·repeat (first|(simp -implicitDefEqProofs only [go_sem,Nat.reduceAdd,Nat.reduceMul,Nat.reduceEqDiff,Nat.reduceLT,Nat.reduceLeDiff,reduceCtorEq,Int.reduceAdd,Qas,BEq.rfl,Bool.not_true,Bool.not_false,Bool.and_self,bne_self_eq_false,Int.reduceBEq,Int.reduceBNe,decide_true,decide_false,Bool.and_true,Bool.true_and])|(with_reducible exact Qaa _ _ (by kernel_rfl))|(with_reducible refine And.intro (Qaa _ _ (by kernel_rfl)) ?_))
     refine⟨(St.of [(2,.bp 0 3 0 0),(3,.bp 1 1 0 0),(4,.bp 2 1 0 0),(5,.bp 300 1 0 0),(11,.fn 40 [] [.rp [.int .i64 (n:Int)],.rp [.int .i64 (M:Int)]]),(12,.bp 8 1 0 0)] [(0,{els:=[.agg [.slc (p.ns.map PV.str),.slc (p.hs.map v3PV),.slc (p.as_.map acV)]],esz:=3,ety:=26,fro:=0,live:=true,arr:=false}),(1,{els:=[.int .i64 q],esz:=1,ety:=3,fro:=0,live:=true,arr:=false}),(2,{els:=[.bool false],esz:=1,ety:=4,fro:=0,live:=true,arr:=false}),(300,{els:=[.bs 7 2 0 S],esz:=1,ety:=44,fro:=0,live:=true,arr:=false}),(7,{els:=W,esz:=2,ety:=30,fro:=0,live:=true,arr:=true}),(8,{els:=[.int .i64 2],esz:=1,ety:=3,fro:=0,live:=true,arr:=false})]),Qaq (θ:=[(0,0),(1,1),(2,2),(300,300),(7,7),(8,3300)]) rfl ?_ ?_,?_⟩
     ·simp [Qad,lkp,ren1,ren0,Qae]
     ·exact⟨⟨rfl,rfl,rfl,rfl,rfl,.inr ⟨rfl,_,_,rfl,rfl,rfl,rfl⟩⟩,⟨rfl,rfl,rfl,rfl,rfl,.inr ⟨rfl,_,_,rfl,rfl,rfl,rfl⟩⟩,⟨rfl,rfl,rfl,rfl,rfl,.inr ⟨rfl,_,_,rfl,rfl,rfl,rfl⟩⟩,⟨rfl,rfl,rfl,rfl,rfl,.inr ⟨rfl,_,_,rfl,rfl,rfl,rfl⟩⟩,⟨rfl,rfl,rfl,rfl,rfl,.inl ⟨rfl,rfl⟩⟩,⟨rfl,rfl,rfl,rfl,rfl,.inr ⟨rfl,_,_,rfl,rfl,rfl,rfl⟩⟩,trivial⟩
     repeat (first|(simp -implicitDefEqProofs only [go_sem,Nat.reduceAdd,Nat.reduceMul,Nat.reduceEqDiff,Nat.reduceLT,Nat.reduceLeDiff,reduceCtorEq,Int.reduceLT,Qas,BEq.rfl,Bool.not_true,Bool.not_false,Bool.and_self,bne_self_eq_false,Int.reduceBEq,Int.reduceBNe,decide_true,decide_false,Bool.and_true,Bool.true_and])|((with_reducible refine Qab (hKn) ?_ ?_ ?_);(with_reducible rfl);rfl)|(with_reducible exact Qaa _ _ (by kernel_rfl))|(with_reducible refine And.intro (Qaa _ _ (by kernel_rfl)) ?_))
   ·rw [Qhr]
    repeat (first|(simp -implicitDefEqProofs only [go_sem,Nat.reduceAdd,Nat.reduceMul,Nat.reduceEqDiff,Nat.reduceLT,Nat.reduceLeDiff,reduceCtorEq,Int.reduceAdd,Qas,BEq.rfl,Bool.not_true,Bool.not_false,Bool.and_self,bne_self_eq_false,Int.reduceBEq,Int.reduceBNe,decide_true,decide_false,Bool.and_true,Bool.true_and,Qmd,Qme,hmm])|(with_reducible exact Qaa _ _ (by kernel_rfl))|(with_reducible refine And.intro (Qaa _ _ (by kernel_rfl)) ?_))
    refine⟨(St.of [(2,.bp 0 3 0 0),(3,.bp 1 1 0 0),(4,.bp 2 1 0 0),(5,.bp 300 1 0 0),(11,.fn 40 [] [.rp [.int .i64 (n:Int)],.rp [.int .i64 (M:Int)]]),(12,.bp 8 1 0 0)] [(0,{els:=[.agg [.slc (p.ns.map PV.str),.slc (p.hs.map v3PV),.slc (p.as_.map acV)]],esz:=3,ety:=26,fro:=0,live:=true,arr:=false}),(1,{els:=[.int .i64 q],esz:=1,ety:=3,fro:=0,live:=true,arr:=false}),(2,{els:=[.bool false],esz:=1,ety:=4,fro:=0,live:=true,arr:=false}),(300,{els:=[.bs 7 2 0 S],esz:=1,ety:=44,fro:=0,live:=true,arr:=false}),(7,{els:=W,esz:=2,ety:=30,fro:=0,live:=true,arr:=true}),(8,{els:=[.int .i64 1],esz:=1,ety:=3,fro:=0,live:=true,arr:=false})]),Qaq (θ:=[(0,0),(1,1),(2,2),(300,300),(7,7),(8,3300)]) rfl ?_ ?_,?_⟩
    ·simp [Qad,lkp,ren1,ren0,Qae]
    ·exact⟨⟨rfl,rfl,rfl,rfl,rfl,.inr ⟨rfl,_,_,rfl,rfl,rfl,rfl⟩⟩,⟨rfl,rfl,rfl,rfl,rfl,.inr ⟨rfl,_,_,rfl,rfl,rfl,rfl⟩⟩,⟨rfl,rfl,rfl,rfl,rfl,.inr ⟨rfl,_,_,rfl,rfl,rfl,rfl⟩⟩,⟨rfl,rfl,rfl,rfl,rfl,.inr ⟨rfl,_,_,rfl,rfl,rfl,rfl⟩⟩,⟨rfl,rfl,rfl,rfl,rfl,.inl ⟨rfl,rfl⟩⟩,⟨rfl,rfl,rfl,rfl,rfl,.inr ⟨rfl,_,_,rfl,rfl,rfl,rfl⟩⟩,trivial⟩
    repeat (first|(simp -implicitDefEqProofs only [go_sem,Nat.reduceAdd,Nat.reduceMul,Nat.reduceEqDiff,Nat.reduceLT,Nat.reduceLeDiff,reduceCtorEq,Int.reduceLT,Qas,BEq.rfl,Bool.not_true,Bool.not_false,Bool.and_self,bne_self_eq_false,Int.reduceBEq,Int.reduceBNe,decide_true,decide_false,Bool.and_true,Bool.true_and])|(with_reducible exact Qaa _ _ (by kernel_rfl))|(with_reducible refine And.intro (Qaa _ _ (by kernel_rfl)) ?_))
    refine Qby mixed hY rfl rfl _ rfl [(1000000,2300),(1000001,300),(1000002,7),(1000003,8),(1000004,1),(1000005,2),(1000006,0)] [1000000,1000001,1000002,1000003,1000004,1000005,1000006] rfl
     [(2,.bp 1000006 3 0 0),(11,.fn 40 [] [.rp [.int .i64 (n:Int)],.rp [.int .i64 (M:Int)]]),(3,.bp 1000004 1 0 0),(4,.bp 1000005 1 0 0),(5,.bp 1000001 1 0 0),(12,.bp 1000003 1 0 0),(13,.bp 1000000 1 0 0)]
     (fun j:Nat=>[(1000000,{els:=[.int .i64 (j:Int)],esz:=1,ety:=3,fro:=0,live:=true,arr:=false}),(1000001,{els:=[.bs 1000002 2 0 S],esz:=1,ety:=44,fro:=0,live:=true,arr:=false}),(1000002,{els:=W,esz:=2,ety:=30,fro:=0,live:=true,arr:=true}),(1000003,{els:=[.int .i64 1],esz:=1,ety:=3,fro:=0,live:=true,arr:=false}),(1000004,{els:=[.int .i64 q],esz:=1,ety:=3,fro:=0,live:=true,arr:=false}),(1000005,{els:=[.bool false],esz:=1,ety:=4,fro:=0,live:=true,arr:=false}),(1000006,{els:=[.agg [.slc (p.ns.map PV.str),.slc (p.hs.map v3PV),.slc (p.as_.map acV)]],esz:=3,ety:=26,fro:=0,live:=true,arr:=false})]) rfl rfl ?_ ?_ ?_ S (.exit 6) (fun _=>rfl) (fun j _ _=>by simp [lkp]) ?_ rfl ?_
     [(0,1000006),(1,1000004),(2,1000005),(300,1000001),(7,1000002),(8,1000003),(2300,1000000)]
     [(2,.bp 0 3 0 0),(3,.bp 1 1 0 0),(4,.bp 2 1 0 0),(5,.bp 300 1 0 0),(11,.fn 40 [] [.rp [.int .i64 (n:Int)],.rp [.int .i64 (M:Int)]]),(12,.bp 8 1 0 0),(13,.bp 2300 1 0 0)]
     [(0,{els:=[.agg [.slc (p.ns.map PV.str),.slc (p.hs.map v3PV),.slc (p.as_.map acV)]],esz:=3,ety:=26,fro:=0,live:=true,arr:=false}),(1,{els:=[.int .i64 q],esz:=1,ety:=3,fro:=0,live:=true,arr:=false}),(2,{els:=[.bool false],esz:=1,ety:=4,fro:=0,live:=true,arr:=false}),(300,{els:=[.bs 7 2 0 S],esz:=1,ety:=44,fro:=0,live:=true,arr:=false}),(7,{els:=W,esz:=2,ety:=30,fro:=0,live:=true,arr:=true}),(8,{els:=[.int .i64 1],esz:=1,ety:=3,fro:=0,live:=true,arr:=false}),(2300,{els:=[.int .i64 (S:Int)],esz:=1,ety:=3,fro:=0,live:=true,arr:=false})] rfl rfl ?_ ?_ (fun hq1=> ?_) (fun hq2=>by omega)
    ·simp [Qad,lkp,ren1,ren0,Qae]
    ·exact⟨⟨rfl,rfl,rfl,rfl,rfl,.inr ⟨rfl,_,_,rfl,rfl,rfl,rfl⟩⟩,⟨rfl,rfl,rfl,rfl,rfl,.inr ⟨rfl,_,_,rfl,rfl,rfl,rfl⟩⟩,⟨rfl,rfl,rfl,rfl,rfl,.inl ⟨rfl,rfl⟩⟩,⟨rfl,rfl,rfl,rfl,rfl,.inr ⟨rfl,_,_,rfl,rfl,rfl,rfl⟩⟩,⟨rfl,rfl,rfl,rfl,rfl,.inr ⟨rfl,_,_,rfl,rfl,rfl,rfl⟩⟩,⟨rfl,rfl,rfl,rfl,rfl,.inr ⟨rfl,_,_,rfl,rfl,rfl,rfl⟩⟩,⟨rfl,rfl,rfl,rfl,rfl,.inr ⟨rfl,_,_,rfl,rfl,rfl,rfl⟩⟩,trivial⟩
    ·simp [Qad,lkp,ren1,ren0,Qae,Qc6]
    ·intro j args h
     have hj:j<S:=by rw [←hlO];exact(List.getElem?_eq_some_iff.1 h).1
     rw [hgO j hj]at h
     cases h
     rfl
    ·rintro j args hja hjs
     have hj:j<S:=by rw [←hlO];exact(List.getElem?_eq_some_iff.1 hja).1
     rw [hgO j hj]at hja
     cases hja
     have hwj:=wr_1 (n:=j) (by omega)
     have hjT:((S:Int)≤(j:Int))=False:=eq_false (by omega)
     have hWj:=hWx j hj
     have hjT2:=lt_T hj
     have nj:=nn_T j
     repeat (first|(simp -implicitDefEqProofs only [go_sem,Nat.reduceAdd,Nat.reduceMul,Nat.reduceEqDiff,Nat.reduceLT,Nat.reduceLeDiff,reduceCtorEq,Qas,pvars,List.toList_toArray])|(with_reducible exact Qaa _ _ (by kernel_rfl))|(with_reducible refine And.intro (Qaa _ _ (by kernel_rfl)) ?_))
     refine⟨by simp [lkp],?_⟩
     repeat (first|(simp -implicitDefEqProofs only [go_sem,Nat.reduceAdd,Nat.reduceMul,Nat.reduceEqDiff,Nat.reduceLT,Nat.reduceLeDiff,reduceCtorEq,Qas,BEq.rfl,Bool.not_true,Bool.not_false,Bool.and_self,bne_self_eq_false,Int.reduceBEq,Int.reduceBNe,decide_true,decide_false,Bool.and_true,Bool.true_and,hjT,hjT2,nj,hWj,hwj,Int.toNat_natCast])|(with_reducible exact Qaa _ _ (by kernel_rfl))|(with_reducible refine And.intro (Qaa _ _ (by kernel_rfl)) ?_))
     refine⟨hj,?_⟩
     refine Qaq (θ:=[(1000000,1000000),(1000001,1000001),(1000002,1000002),(1000003,1000003),(1000004,1000004),(1000005,1000005),(1000006,1000006)]) rfl ?_ ?_
     ·simp [Qad,lkp,ren1,ren0,Qae]
     ·exact⟨⟨rfl,rfl,rfl,rfl,rfl,.inr ⟨rfl,_,_,rfl,rfl,rfl,rfl⟩⟩,⟨rfl,rfl,rfl,rfl,rfl,.inr ⟨rfl,_,_,rfl,rfl,rfl,rfl⟩⟩,⟨rfl,rfl,rfl,rfl,rfl,.inl ⟨rfl,rfl⟩⟩,⟨rfl,rfl,rfl,rfl,rfl,.inr ⟨rfl,_,_,rfl,rfl,rfl,rfl⟩⟩,⟨rfl,rfl,rfl,rfl,rfl,.inr ⟨rfl,_,_,rfl,rfl,rfl,rfl⟩⟩,⟨rfl,rfl,rfl,rfl,rfl,.inr ⟨rfl,_,_,rfl,rfl,rfl,rfl⟩⟩,⟨rfl,rfl,rfl,rfl,rfl,.inr ⟨rfl,_,_,rfl,rfl,rfl,rfl⟩⟩,trivial⟩
    ·simp [Qad,lkp,ren1,ren0,Qae]
    ·rw [hlO,Nat.min_eq_left (Nat.le_succ S)]
     exact⟨⟨rfl,rfl,rfl,rfl,rfl,.inr ⟨rfl,_,_,rfl,rfl,rfl,rfl⟩⟩,⟨rfl,rfl,rfl,rfl,rfl,.inr ⟨rfl,_,_,rfl,rfl,rfl,rfl⟩⟩,⟨rfl,rfl,rfl,rfl,rfl,.inr ⟨rfl,_,_,rfl,rfl,rfl,rfl⟩⟩,⟨rfl,rfl,rfl,rfl,rfl,.inr ⟨rfl,_,_,rfl,rfl,rfl,rfl⟩⟩,⟨rfl,rfl,rfl,rfl,rfl,.inl ⟨rfl,rfl⟩⟩,⟨rfl,rfl,rfl,rfl,rfl,.inr ⟨rfl,_,_,rfl,rfl,rfl,rfl⟩⟩,⟨rfl,rfl,rfl,rfl,rfl,.inr ⟨rfl,_,_,rfl,rfl,rfl,rfl⟩⟩,trivial⟩
    ·repeat (first|(simp -implicitDefEqProofs only [go_sem,Nat.reduceAdd,Nat.reduceMul,Nat.reduceEqDiff,Nat.reduceLT,Nat.reduceLeDiff,reduceCtorEq,Int.reduceAdd,Qas,BEq.rfl,Bool.not_true,Bool.not_false,Bool.and_self,bne_self_eq_false,Int.reduceBEq,Int.reduceBNe,decide_true,decide_false,Bool.and_true,Bool.true_and])|(with_reducible exact Qaa _ _ (by kernel_rfl))|(with_reducible refine And.intro (Qaa _ _ (by kernel_rfl)) ?_))
     refine⟨(St.of [(2,.bp 0 3 0 0),(3,.bp 1 1 0 0),(4,.bp 2 1 0 0),(5,.bp 300 1 0 0),(11,.fn 40 [] [.rp [.int .i64 (n:Int)],.rp [.int .i64 (M:Int)]]),(12,.bp 8 1 0 0)] [(0,{els:=[.agg [.slc (p.ns.map PV.str),.slc (p.hs.map v3PV),.slc (p.as_.map acV)]],esz:=3,ety:=26,fro:=0,live:=true,arr:=false}),(1,{els:=[.int .i64 q],esz:=1,ety:=3,fro:=0,live:=true,arr:=false}),(2,{els:=[.bool false],esz:=1,ety:=4,fro:=0,live:=true,arr:=false}),(300,{els:=[.bs 7 2 0 S],esz:=1,ety:=44,fro:=0,live:=true,arr:=false}),(7,{els:=W,esz:=2,ety:=30,fro:=0,live:=true,arr:=true}),(8,{els:=[.int .i64 2],esz:=1,ety:=3,fro:=0,live:=true,arr:=false})]),Qaq (θ:=[(0,0),(1,1),(2,2),(300,300),(7,7),(8,3300)]) rfl ?_ ?_,?_⟩
     ·simp [Qad,lkp,ren1,ren0,Qae]
     ·exact⟨⟨rfl,rfl,rfl,rfl,rfl,.inr ⟨rfl,_,_,rfl,rfl,rfl,rfl⟩⟩,⟨rfl,rfl,rfl,rfl,rfl,.inr ⟨rfl,_,_,rfl,rfl,rfl,rfl⟩⟩,⟨rfl,rfl,rfl,rfl,rfl,.inr ⟨rfl,_,_,rfl,rfl,rfl,rfl⟩⟩,⟨rfl,rfl,rfl,rfl,rfl,.inr ⟨rfl,_,_,rfl,rfl,rfl,rfl⟩⟩,⟨rfl,rfl,rfl,rfl,rfl,.inl ⟨rfl,rfl⟩⟩,⟨rfl,rfl,rfl,rfl,rfl,.inr ⟨rfl,_,_,rfl,rfl,rfl,rfl⟩⟩,trivial⟩
     repeat (first|(simp -implicitDefEqProofs only [go_sem,Nat.reduceAdd,Nat.reduceMul,Nat.reduceEqDiff,Nat.reduceLT,Nat.reduceLeDiff,reduceCtorEq,Int.reduceLT,Qas,BEq.rfl,Bool.not_true,Bool.not_false,Bool.and_self,bne_self_eq_false,Int.reduceBEq,Int.reduceBNe,decide_true,decide_false,Bool.and_true,Bool.true_and])|((with_reducible refine Qab (hKn) ?_ ?_ ?_);(with_reducible rfl);rfl)|(with_reducible exact Qaa _ _ (by kernel_rfl))|(with_reducible refine And.intro (Qaa _ _ (by kernel_rfl)) ?_))
 |true=>
 have hn1:0<n:=by
  have hcr:=(Qb0 e).1
  unfold Qk1 at hcr
  simp only [Bool.and_eq_true,decide_eq_true_eq]at hcr
  omega
 rw [e]at hV hCt hCs
 rw [if_pos rfl]at hCs
 rw [if_pos rfl,if_pos rfl]at hCt
 unfold pgV at*
 refine Qac (tb:=[]) 119 [.cell 4 4] [0,1,2,3,4,5,6,7,8,9,10,11,12,13,14,17,27,34,50,53,68,70,73,74,86,95,116,117] mixed Tryz.func5 rfl (by kernel_rfl) (by kernel_rfl) (by kernel_rfl) (by kernel_rfl) ?_
 repeat (first|(simp -implicitDefEqProofs only [go_sem,Nat.reduceAdd,Nat.reduceMul,Nat.reduceEqDiff,Nat.reduceLT,Nat.reduceLeDiff,reduceCtorEq,Qas,Bool.not_true])|((with_reducible refine Qab (hFw) ?_ ?_ ?_);(with_reducible rfl);rfl)|(with_reducible exact Qaa _ _ (by kernel_rfl))|(with_reducible refine And.intro (Qaa _ _ (by kernel_rfl)) ?_))
 have hW:(casL n m).length=n*m:=Qno n m
 have hWx: ∀x,x<n*m→(casL n m)[x]? =some (.agg [.int .i64 ((x/m:Nat):Int),.int .i64 ((x%m:Nat):Int)]):=fun x h=>Qtp h
 have hWg: ∀i k,i<n→k<m→(casL n m).take (i*m+k+1)=(casL n m).take (i*m+k)++[.agg [.int .i64 (i:Int),.int .i64 (k:Int)]]:=fun i k h1 h2=>Qqs h1 h2
 have hWo:=fun x=>Qtq n m x
 generalize casL n m=W at*
 refine Qb5 mixed (fun i:{i:Nat // i≤n}=>St.of [(2,.bp 0 3 0 0),(3,.bp 1 1 0 0),(4,.bp 2 1 0 0),(5,.bp 300 1 0 0),(6,.int .i64 (i.1:Int))]
  [(0,{els:=[.agg [.slc (p.ns.map PV.str),.slc (p.hs.map v3PV),.slc (p.as_.map acV)]],esz:=3,ety:=26,fro:=0,live:=true,arr:=false}),(1,{els:=[.int .i64 q],esz:=1,ety:=3,fro:=0,live:=true,arr:=false}),(2,{els:=[.bool false],esz:=1,ety:=4,fro:=0,live:=true,arr:=false}),(300,{els:=[.bs 7 2 0 (i.1*m)],esz:=1,ety:=44,fro:=0,live:=true,arr:=false}),(7,{els:=W.take (i.1*m),esz:=2,ety:=30,fro:=0,live:=true,arr:=true})]) (fun i=>n-i.1) ⟨0,Nat.zero_le _⟩ ?_ ?_
 ·simp only [Nat.zero_mul,List.take_zero]
  refine(Qj2 300 7 2 30 rfl rfl rfl rfl rfl (by decide)).trans (Qaq (θ:=[(0,0),(1,1),(2,2),(300,300),(7,7)]) rfl ?_ ?_)
  ·simp [Qad,lkp,ren1,ren0,Qae]
  ·exact⟨⟨rfl,rfl,rfl,rfl,rfl,.inr ⟨rfl,_,_,rfl,rfl,rfl,rfl⟩⟩,⟨rfl,rfl,rfl,rfl,rfl,.inr ⟨rfl,_,_,rfl,rfl,rfl,rfl⟩⟩,⟨rfl,rfl,rfl,rfl,rfl,.inr ⟨rfl,_,_,rfl,rfl,rfl,rfl⟩⟩,⟨rfl,rfl,rfl,rfl,rfl,.inr ⟨rfl,_,_,rfl,rfl,rfl,rfl⟩⟩,⟨rfl,rfl,rfl,rfl,rfl,.inl ⟨rfl,rfl⟩⟩,trivial⟩
 ·rintro⟨i,hi⟩
  simp only
  have hwi:=wr_1 (n:=i) (by omega)
  by_cases hA:i<n
  ·have hA':=lt_T hA
   repeat (first|(simp -implicitDefEqProofs only [go_sem,Nat.reduceAdd,Nat.reduceMul,Nat.reduceEqDiff,Nat.reduceLT,Nat.reduceLeDiff,reduceCtorEq,Qas,hA',hn,decide_true,List.length_map])|((with_reducible refine Qab (hV) ?_ ?_ ?_);(with_reducible rfl);rfl)|(with_reducible exact Qaa _ _ (by kernel_rfl))|(with_reducible refine And.intro (Qaa _ _ (by kernel_rfl)) ?_))
   refine Qb5 mixed (fun k:{k:Nat // k≤m}=>St.of [(2,.bp 0 3 0 0),(3,.bp 1 1 0 0),(4,.bp 2 1 0 0),(5,.bp 300 1 0 0),(6,.int .i64 (i:Int)),(7,.int .i64 (k.1:Int))]
    [(0,{els:=[.agg [.slc (p.ns.map PV.str),.slc (p.hs.map v3PV),.slc (p.as_.map acV)]],esz:=3,ety:=26,fro:=0,live:=true,arr:=false}),(1,{els:=[.int .i64 q],esz:=1,ety:=3,fro:=0,live:=true,arr:=false}),(2,{els:=[.bool false],esz:=1,ety:=4,fro:=0,live:=true,arr:=false}),(300,{els:=[.bs 7 2 0 (i*m+k.1)],esz:=1,ety:=44,fro:=0,live:=true,arr:=false}),(7,{els:=W.take (i*m+k.1),esz:=2,ety:=30,fro:=0,live:=true,arr:=true})]) (fun k=>m-k.1) ⟨0,Nat.zero_le _⟩ ?_ ?_
   ·simp only [Nat.add_zero]
    refine Qaq (θ:=[(0,0),(1,1),(2,2),(300,300),(7,7)]) rfl ?_ ?_
    ·simp [Qad,lkp,ren1,ren0,Qae]
    ·exact⟨⟨rfl,rfl,rfl,rfl,rfl,.inr ⟨rfl,_,_,rfl,rfl,rfl,rfl⟩⟩,⟨rfl,rfl,rfl,rfl,rfl,.inr ⟨rfl,_,_,rfl,rfl,rfl,rfl⟩⟩,⟨rfl,rfl,rfl,rfl,rfl,.inr ⟨rfl,_,_,rfl,rfl,rfl,rfl⟩⟩,⟨rfl,rfl,rfl,rfl,rfl,.inr ⟨rfl,_,_,rfl,rfl,rfl,rfl⟩⟩,⟨rfl,rfl,rfl,rfl,rfl,.inl ⟨rfl,rfl⟩⟩,trivial⟩
   ·rintro⟨k,hk⟩
    simp only
    have hwk:=wr_1 (n:=k) (by omega)
    have hr:=Qhd (m:=m) hA hk
    have hlt:(W.take (i*m+k)).length=i*m+k:=by rw [List.length_take];omega
    by_cases hB:k<m
    ·have hB':=lt_T hB
     have hr2:=Qhd (m:=m) (k:=k+1) hA hB
     have hnm2:n*m≤5*5:=Nat.mul_le_mul hn5 hm5
     have k1:((i*m+k+1)*16≤140737488355328)=True:=eq_true (by omega)
     have k2:(i*m+k+1≤maxLen)=True:=eq_true (by unfold maxLen;omega)
     have hts:=hWg i k hA hB
     have hok:=hWo (i*m+k)
     generalize W.take (i*m+k)=T at*
     repeat (first|(simp -implicitDefEqProofs only [go_sem,Nat.reduceAdd,Nat.reduceMul,Nat.reduceEqDiff,Nat.reduceLT,Nat.reduceLeDiff,reduceIte,reduceCtorEq,Nat.reduceBneDiff,Qas,hB',hm,hwk,hlt,hok,k1,k2,Int.toNat_natCast,List.length_map])|(with_reducible exact Qaa _ _ (by kernel_rfl))|(with_reducible refine And.intro (Qaa _ _ (by kernel_rfl)) ?_))
     refine⟨⟨k+1,hB⟩,by simp only;omega,?_⟩
     simp only [←Nat.add_assoc,hts]
     refine Qaq (θ:=[(0,0),(1,1),(2,2),(300,300),(7,1005)]) rfl ?_ ?_
     ·simp [Qad,lkp,ren1,ren0,Qae]
     ·exact⟨⟨rfl,rfl,rfl,rfl,rfl,.inr ⟨rfl,_,_,rfl,rfl,rfl,rfl⟩⟩,⟨rfl,rfl,rfl,rfl,rfl,.inr ⟨rfl,_,_,rfl,rfl,rfl,rfl⟩⟩,⟨rfl,rfl,rfl,rfl,rfl,.inr ⟨rfl,_,_,rfl,rfl,rfl,rfl⟩⟩,⟨rfl,rfl,rfl,rfl,rfl,.inr ⟨rfl,_,_,rfl,rfl,rfl,rfl⟩⟩,⟨rfl,rfl,rfl,rfl,rfl,.inl ⟨rfl,rfl⟩⟩,trivial⟩
    ·have hB':=lt_F hB
     obtain rfl:k=m:=by omega
     have e1:(i+1)*k=i*k+k:=by rw [Nat.add_mul,Nat.one_mul]
     repeat (first|(simp -implicitDefEqProofs only [go_sem,Nat.reduceAdd,Nat.reduceMul,Nat.reduceEqDiff,Nat.reduceLT,Nat.reduceLeDiff,reduceCtorEq,Qas,hB',hm,hwi,List.length_map])|(with_reducible exact Qaa _ _ (by kernel_rfl))|(with_reducible refine And.intro (Qaa _ _ (by kernel_rfl)) ?_))
     refine⟨⟨i+1,hA⟩,by simp only;omega,?_⟩
     simp only [e1]
     refine Qaq (θ:=[(0,0),(1,1),(2,2),(300,300),(7,7)]) rfl ?_ ?_
     ·simp [Qad,lkp,ren1,ren0,Qae]
     ·exact⟨⟨rfl,rfl,rfl,rfl,rfl,.inr ⟨rfl,_,_,rfl,rfl,rfl,rfl⟩⟩,⟨rfl,rfl,rfl,rfl,rfl,.inr ⟨rfl,_,_,rfl,rfl,rfl,rfl⟩⟩,⟨rfl,rfl,rfl,rfl,rfl,.inr ⟨rfl,_,_,rfl,rfl,rfl,rfl⟩⟩,⟨rfl,rfl,rfl,rfl,rfl,.inr ⟨rfl,_,_,rfl,rfl,rfl,rfl⟩⟩,⟨rfl,rfl,rfl,rfl,rfl,.inl ⟨rfl,rfl⟩⟩,trivial⟩
  ·have hA':=lt_F hA
   obtain rfl:n=i:=by omega
   have eT:W.take (n*m)=W:=List.take_of_length_le (by omega)
   rw [eT]
   have hY:=Qj1 n m (by omega) (by omega)
   have hlO:=Qe4 n m
   have hgO: ∀x,x<n*m→(Qg4 n m)[x]? =some [.agg [.int .i64 ((x/m:Nat):Int),.int .i64 ((x%m:Nat):Int)]]:=fun x h=>Qe5 h
   have hS25:n*m≤5*5:=Nat.mul_le_mul hn5 hm5
   generalize Qg4 n m=OO at*
   obtain⟨stp,hstp⟩: ∃s:Nat,s=(q-1).toNat:=⟨_,rfl⟩
   have hmm:(((min (n*m) (stp+1):Nat):Int) != min ((n*m:Nat):Int) (max 1 q))=false:=by
    have:((min (n*m) (stp+1):Nat):Int)=min ((n*m:Nat):Int) (max 1 q):=by omega
    rw [this];exact bne_self_eq_false _
   obtain⟨M,hM⟩: ∃M,m=M:=⟨_,rfl⟩
   have hz0:m=0∨0<n*m:=by
    rcases Nat.eq_zero_or_pos m with h|h
    ·exact .inl h
    ·exact .inr (Nat.mul_pos hn1 h)
   rw [hM]at hCs hY
   by_cases hz:m=0
   ·have hz1:(((n*m:Nat):Int)==0)=true:=by rw [hz,Nat.mul_zero];rfl
    rw [if_pos hz]at hCt
    generalize hSS:n*m=S at*
    repeat (first|(simp -implicitDefEqProofs only [go_sem,Nat.reduceAdd,Nat.reduceMul,Nat.reduceEqDiff,Nat.reduceLT,Nat.reduceLeDiff,reduceCtorEq,Qas,hA',hn,hz1,Qas,Bool.not_true,decide_false,bne_self_eq_false,Int.reduceBNe,List.length_map])|((with_reducible refine Qab (hCt) ?_ ?_ ?_);(with_reducible rfl);rfl)|((with_reducible refine Qab (hV) ?_ ?_ ?_);(with_reducible rfl);rfl)|((with_reducible refine Qab (hCs) ?_ ?_ ?_);(with_reducible rfl);rfl)|(with_reducible exact Qaa _ _ (by kernel_rfl))|(with_reducible refine And.intro (Qaa _ _ (by kernel_rfl)) ?_))
    refine Qgg mixed [0,1,2] (St.of [(2,.bp 0 3 0 0),(3,.bp 1 1 0 0),(4,.bp 2 1 0 0),(5,.bp 300 1 0 0),(11,.fn 40 [] [.rp [.int .i64 (n:Int)],.rp [.int .i64 (M:Int)]]),(12,.bp 8 1 0 0)] [(0,{els:=[.agg [.slc (p.ns.map PV.str),.slc (p.hs.map v3PV),.slc (p.as_.map acV)]],esz:=3,ety:=26,fro:=0,live:=true,arr:=false}),(1,{els:=[.int .i64 q],esz:=1,ety:=3,fro:=0,live:=true,arr:=false}),(2,{els:=[.bool false],esz:=1,ety:=4,fro:=0,live:=true,arr:=false}),(300,{els:=[.bs 7 2 0 S],esz:=1,ety:=44,fro:=0,live:=true,arr:=false}),(7,{els:=W,esz:=2,ety:=30,fro:=0,live:=true,arr:=true}),(8,{els:=[.int .i64 0],esz:=1,ety:=3,fro:=0,live:=true,arr:=false})]) (Qaq (θ:=[(0,0),(1,1),(2,2),(300,300),(7,7),(8,2000)]) rfl ?_ ?_) ?_
    ·simp [Qad,lkp,ren1,ren0,Qae]
    ·exact⟨⟨rfl,rfl,rfl,rfl,rfl,.inr ⟨rfl,_,_,rfl,rfl,rfl,rfl⟩⟩,⟨rfl,rfl,rfl,rfl,rfl,.inr ⟨rfl,_,_,rfl,rfl,rfl,rfl⟩⟩,⟨rfl,rfl,rfl,rfl,rfl,.inr ⟨rfl,_,_,rfl,rfl,rfl,rfl⟩⟩,⟨rfl,rfl,rfl,rfl,rfl,.inr ⟨rfl,_,_,rfl,rfl,rfl,rfl⟩⟩,⟨rfl,rfl,rfl,rfl,rfl,.inl ⟨rfl,rfl⟩⟩,⟨rfl,rfl,rfl,rfl,rfl,.inr ⟨rfl,_,_,rfl,rfl,rfl,rfl⟩⟩,trivial⟩
    repeat (first|(simp -implicitDefEqProofs only [go_sem,Nat.reduceAdd,Nat.reduceMul,Nat.reduceEqDiff,Nat.reduceLT,Nat.reduceLeDiff,reduceCtorEq,Int.reduceLT,Qas,BEq.rfl,Bool.not_true,Bool.not_false,Bool.and_self,bne_self_eq_false,Int.reduceBEq,Int.reduceBNe,decide_true,decide_false,Bool.and_true,Bool.true_and])|(with_reducible exact Qaa _ _ (by kernel_rfl))|(with_reducible refine And.intro (Qaa _ _ (by kernel_rfl)) ?_))
    refine Qby mixed hY rfl rfl _ rfl [(1000000,2300),(1000001,300),(1000002,7),(1000003,8),(1000004,1),(1000005,2),(1000006,0)] [1000000,1000001,1000002,1000003,1000004,1000005,1000006] rfl
     [(2,.bp 1000006 3 0 0),(11,.fn 40 [] [.rp [.int .i64 (n:Int)],.rp [.int .i64 (M:Int)]]),(3,.bp 1000004 1 0 0),(4,.bp 1000005 1 0 0),(5,.bp 1000001 1 0 0),(12,.bp 1000003 1 0 0),(13,.bp 1000000 1 0 0)]
     (fun j:Nat=>[(1000000,{els:=[.int .i64 (j:Int)],esz:=1,ety:=3,fro:=0,live:=true,arr:=false}),(1000001,{els:=[.bs 1000002 2 0 S],esz:=1,ety:=44,fro:=0,live:=true,arr:=false}),(1000002,{els:=W,esz:=2,ety:=30,fro:=0,live:=true,arr:=true}),(1000003,{els:=[.int .i64 0],esz:=1,ety:=3,fro:=0,live:=true,arr:=false}),(1000004,{els:=[.int .i64 q],esz:=1,ety:=3,fro:=0,live:=true,arr:=false}),(1000005,{els:=[.bool false],esz:=1,ety:=4,fro:=0,live:=true,arr:=false}),(1000006,{els:=[.agg [.slc (p.ns.map PV.str),.slc (p.hs.map v3PV),.slc (p.as_.map acV)]],esz:=3,ety:=26,fro:=0,live:=true,arr:=false})]) rfl rfl ?_ ?_ ?_ stp (.exit 6) (fun _=>rfl) (fun j _ _=>by simp [lkp]) ?_ rfl ?_
     [(0,1000006),(1,1000004),(2,1000005),(300,1000001),(7,1000002),(8,1000003),(2300,1000000)]
     [(2,.bp 0 3 0 0),(3,.bp 1 1 0 0),(4,.bp 2 1 0 0),(5,.bp 300 1 0 0),(11,.fn 40 [] [.rp [.int .i64 (n:Int)],.rp [.int .i64 (M:Int)]]),(12,.bp 8 1 0 0),(13,.bp 2300 1 0 0)]
     [(0,{els:=[.agg [.slc (p.ns.map PV.str),.slc (p.hs.map v3PV),.slc (p.as_.map acV)]],esz:=3,ety:=26,fro:=0,live:=true,arr:=false}),(1,{els:=[.int .i64 q],esz:=1,ety:=3,fro:=0,live:=true,arr:=false}),(2,{els:=[.bool false],esz:=1,ety:=4,fro:=0,live:=true,arr:=false}),(300,{els:=[.bs 7 2 0 S],esz:=1,ety:=44,fro:=0,live:=true,arr:=false}),(7,{els:=W,esz:=2,ety:=30,fro:=0,live:=true,arr:=true}),(8,{els:=[.int .i64 0],esz:=1,ety:=3,fro:=0,live:=true,arr:=false}),(2300,{els:=[.int .i64 ((min S (stp+1):Nat):Int)],esz:=1,ety:=3,fro:=0,live:=true,arr:=false})] rfl rfl ?_ ?_ (fun hq1=> ?_) (fun hq2=> ?_)
    ·simp [Qad,lkp,ren1,ren0,Qae]
    ·exact⟨⟨rfl,rfl,rfl,rfl,rfl,.inr ⟨rfl,_,_,rfl,rfl,rfl,rfl⟩⟩,⟨rfl,rfl,rfl,rfl,rfl,.inr ⟨rfl,_,_,rfl,rfl,rfl,rfl⟩⟩,⟨rfl,rfl,rfl,rfl,rfl,.inl ⟨rfl,rfl⟩⟩,⟨rfl,rfl,rfl,rfl,rfl,.inr ⟨rfl,_,_,rfl,rfl,rfl,rfl⟩⟩,⟨rfl,rfl,rfl,rfl,rfl,.inr ⟨rfl,_,_,rfl,rfl,rfl,rfl⟩⟩,⟨rfl,rfl,rfl,rfl,rfl,.inr ⟨rfl,_,_,rfl,rfl,rfl,rfl⟩⟩,⟨rfl,rfl,rfl,rfl,rfl,.inr ⟨rfl,_,_,rfl,rfl,rfl,rfl⟩⟩,trivial⟩
    ·simp [Qad,lkp,ren1,ren0,Qae,Qc6]
    ·intro j args h
     have hj:j<S:=by rw [←hlO];exact(List.getElem?_eq_some_iff.1 h).1
     rw [hgO j hj]at h
     cases h
     rfl
    ·rintro j args hja hjs
     have hj:j<S:=by rw [←hlO];exact(List.getElem?_eq_some_iff.1 hja).1
     rw [hgO j hj]at hja
     cases hja
     have hwj:=wr_1 (n:=j) (by omega)
     have hjT:((S:Int)≤(j:Int))=False:=eq_false (by omega)
     have hWj:=hWx j hj
     have hjT2:=lt_T hj
     have nj:=nn_T j
     repeat (first|(simp -implicitDefEqProofs only [go_sem,Nat.reduceAdd,Nat.reduceMul,Nat.reduceEqDiff,Nat.reduceLT,Nat.reduceLeDiff,reduceCtorEq,Qas,pvars,List.toList_toArray])|(with_reducible exact Qaa _ _ (by kernel_rfl))|(with_reducible refine And.intro (Qaa _ _ (by kernel_rfl)) ?_))
     refine⟨by simp [lkp],?_⟩
     by_cases hlt:j<stp
     ·have hq:(q≤((j+1:Nat):Int))=False:=eq_false (by omega)
      repeat (first|(simp -implicitDefEqProofs only [go_sem,Nat.reduceAdd,Nat.reduceMul,Nat.reduceEqDiff,Nat.reduceLT,Nat.reduceLeDiff,reduceCtorEq,Qas,BEq.rfl,Bool.not_true,Bool.not_false,Bool.and_self,bne_self_eq_false,Int.reduceBEq,Int.reduceBNe,decide_true,decide_false,Bool.and_true,Bool.true_and,hjT,hjT2,nj,hWj,hwj,hq,Int.toNat_natCast])|(with_reducible exact Qaa _ _ (by kernel_rfl))|(with_reducible refine And.intro (Qaa _ _ (by kernel_rfl)) ?_))
      refine⟨hlt,?_⟩
      refine Qaq (θ:=[(1000000,1000000),(1000001,1000001),(1000002,1000002),(1000003,1000003),(1000004,1000004),(1000005,1000005),(1000006,1000006)]) rfl ?_ ?_
      ·simp [Qad,lkp,ren1,ren0,Qae]
      ·exact⟨⟨rfl,rfl,rfl,rfl,rfl,.inr ⟨rfl,_,_,rfl,rfl,rfl,rfl⟩⟩,⟨rfl,rfl,rfl,rfl,rfl,.inr ⟨rfl,_,_,rfl,rfl,rfl,rfl⟩⟩,⟨rfl,rfl,rfl,rfl,rfl,.inl ⟨rfl,rfl⟩⟩,⟨rfl,rfl,rfl,rfl,rfl,.inr ⟨rfl,_,_,rfl,rfl,rfl,rfl⟩⟩,⟨rfl,rfl,rfl,rfl,rfl,.inr ⟨rfl,_,_,rfl,rfl,rfl,rfl⟩⟩,⟨rfl,rfl,rfl,rfl,rfl,.inr ⟨rfl,_,_,rfl,rfl,rfl,rfl⟩⟩,⟨rfl,rfl,rfl,rfl,rfl,.inr ⟨rfl,_,_,rfl,rfl,rfl,rfl⟩⟩,trivial⟩
     ·obtain rfl:j=stp:=by omega
      have hq:(q≤((j+1:Nat):Int))=True:=eq_true (by omega)
      repeat (first|(simp -implicitDefEqProofs only [go_sem,Nat.reduceAdd,Nat.reduceMul,Nat.reduceEqDiff,Nat.reduceLT,Nat.reduceLeDiff,reduceCtorEq,Qas,BEq.rfl,Bool.not_true,Bool.not_false,Bool.and_self,bne_self_eq_false,Int.reduceBEq,Int.reduceBNe,decide_true,decide_false,Bool.and_true,Bool.true_and,hjT,hjT2,nj,hWj,hwj,hq,Int.toNat_natCast])|(with_reducible exact Qaa _ _ (by kernel_rfl))|(with_reducible refine And.intro (Qaa _ _ (by kernel_rfl)) ?_))
      refine⟨rfl,rfl,?_⟩
      refine Qaq (θ:=[(1000000,1000000),(1000001,1000001),(1000002,1000002),(1000003,1000003),(1000004,1000004),(1000005,1000005),(1000006,1000006)]) rfl ?_ ?_
      ·simp [Qad,lkp,ren1,ren0,Qae]
      ·exact⟨⟨rfl,rfl,rfl,rfl,rfl,.inr ⟨rfl,_,_,rfl,rfl,rfl,rfl⟩⟩,⟨rfl,rfl,rfl,rfl,rfl,.inr ⟨rfl,_,_,rfl,rfl,rfl,rfl⟩⟩,⟨rfl,rfl,rfl,rfl,rfl,.inl ⟨rfl,rfl⟩⟩,⟨rfl,rfl,rfl,rfl,rfl,.inr ⟨rfl,_,_,rfl,rfl,rfl,rfl⟩⟩,⟨rfl,rfl,rfl,rfl,rfl,.inr ⟨rfl,_,_,rfl,rfl,rfl,rfl⟩⟩,⟨rfl,rfl,rfl,rfl,rfl,.inr ⟨rfl,_,_,rfl,rfl,rfl,rfl⟩⟩,⟨rfl,rfl,rfl,rfl,rfl,.inr ⟨rfl,_,_,rfl,rfl,rfl,rfl⟩⟩,trivial⟩
    ·simp [Qad,lkp,ren1,ren0,Qae]
    ·rw [hlO]
     exact⟨⟨rfl,rfl,rfl,rfl,rfl,.inr ⟨rfl,_,_,rfl,rfl,rfl,rfl⟩⟩,⟨rfl,rfl,rfl,rfl,rfl,.inr ⟨rfl,_,_,rfl,rfl,rfl,rfl⟩⟩,⟨rfl,rfl,rfl,rfl,rfl,.inr ⟨rfl,_,_,rfl,rfl,rfl,rfl⟩⟩,⟨rfl,rfl,rfl,rfl,rfl,.inr ⟨rfl,_,_,rfl,rfl,rfl,rfl⟩⟩,⟨rfl,rfl,rfl,rfl,rfl,.inl ⟨rfl,rfl⟩⟩,⟨rfl,rfl,rfl,rfl,rfl,.inr ⟨rfl,_,_,rfl,rfl,rfl,rfl⟩⟩,⟨rfl,rfl,rfl,rfl,rfl,.inr ⟨rfl,_,_,rfl,rfl,rfl,rfl⟩⟩,trivial⟩
    ·have hq0:=hq1
     repeat (first|(simp -implicitDefEqProofs only [go_sem,Nat.reduceAdd,Nat.reduceMul,Nat.reduceEqDiff,Nat.reduceLT,Nat.reduceLeDiff,reduceCtorEq,Int.reduceAdd,Qas,BEq.rfl,Bool.not_true,Bool.not_false,Bool.and_self,bne_self_eq_false,Int.reduceBEq,Int.reduceBNe,decide_true,decide_false,Bool.and_true,Bool.true_and,Qmd,Qme,hmm])|(with_reducible exact Qaa _ _ (by kernel_rfl))|(with_reducible refine And.intro (Qaa _ _ (by kernel_rfl)) ?_))
     refine⟨(St.of [(2,.bp 0 3 0 0),(3,.bp 1 1 0 0),(4,.bp 2 1 0 0),(5,.bp 300 1 0 0),(11,.fn 40 [] [.rp [.int .i64 (n:Int)],.rp [.int .i64 (M:Int)]]),(12,.bp 8 1 0 0)] [(0,{els:=[.agg [.slc (p.ns.map PV.str),.slc (p.hs.map v3PV),.slc (p.as_.map acV)]],esz:=3,ety:=26,fro:=0,live:=true,arr:=false}),(1,{els:=[.int .i64 q],esz:=1,ety:=3,fro:=0,live:=true,arr:=false}),(2,{els:=[.bool false],esz:=1,ety:=4,fro:=0,live:=true,arr:=false}),(300,{els:=[.bs 7 2 0 S],esz:=1,ety:=44,fro:=0,live:=true,arr:=false}),(7,{els:=W,esz:=2,ety:=30,fro:=0,live:=true,arr:=true}),(8,{els:=[.int .i64 1],esz:=1,ety:=3,fro:=0,live:=true,arr:=false})]),Qaq (θ:=[(0,0),(1,1),(2,2),(300,300),(7,7),(8,3300)]) rfl ?_ ?_,?_⟩
     ·simp [Qad,lkp,ren1,ren0,Qae]
     ·exact⟨⟨rfl,rfl,rfl,rfl,rfl,.inr ⟨rfl,_,_,rfl,rfl,rfl,rfl⟩⟩,⟨rfl,rfl,rfl,rfl,rfl,.inr ⟨rfl,_,_,rfl,rfl,rfl,rfl⟩⟩,⟨rfl,rfl,rfl,rfl,rfl,.inr ⟨rfl,_,_,rfl,rfl,rfl,rfl⟩⟩,⟨rfl,rfl,rfl,rfl,rfl,.inr ⟨rfl,_,_,rfl,rfl,rfl,rfl⟩⟩,⟨rfl,rfl,rfl,rfl,rfl,.inl ⟨rfl,rfl⟩⟩,⟨rfl,rfl,rfl,rfl,rfl,.inr ⟨rfl,_,_,rfl,rfl,rfl,rfl⟩⟩,trivial⟩
     repeat (first|(simp -implicitDefEqProofs only [go_sem,Nat.reduceAdd,Nat.reduceMul,Nat.reduceEqDiff,Nat.reduceLT,Nat.reduceLeDiff,reduceCtorEq,Int.reduceLT,Qas,BEq.rfl,Bool.not_true,Bool.not_false,Bool.and_self,bne_self_eq_false,Int.reduceBEq,Int.reduceBNe,decide_true,decide_false,Bool.and_true,Bool.true_and])|(with_reducible exact Qaa _ _ (by kernel_rfl))|(with_reducible refine And.intro (Qaa _ _ (by kernel_rfl)) ?_))
     refine Qby mixed hY rfl rfl _ rfl [(1000000,2300),(1000001,300),(1000002,7),(1000003,8),(1000004,1),(1000005,2),(1000006,0)] [1000000,1000001,1000002,1000003,1000004,1000005,1000006] rfl
      [(2,.bp 1000006 3 0 0),(11,.fn 40 [] [.rp [.int .i64 (n:Int)],.rp [.int .i64 (M:Int)]]),(3,.bp 1000004 1 0 0),(4,.bp 1000005 1 0 0),(5,.bp 1000001 1 0 0),(12,.bp 1000003 1 0 0),(13,.bp 1000000 1 0 0)]
      (fun j:Nat=>[(1000000,{els:=[.int .i64 (j:Int)],esz:=1,ety:=3,fro:=0,live:=true,arr:=false}),(1000001,{els:=[.bs 1000002 2 0 S],esz:=1,ety:=44,fro:=0,live:=true,arr:=false}),(1000002,{els:=W,esz:=2,ety:=30,fro:=0,live:=true,arr:=true}),(1000003,{els:=[.int .i64 1],esz:=1,ety:=3,fro:=0,live:=true,arr:=false}),(1000004,{els:=[.int .i64 q],esz:=1,ety:=3,fro:=0,live:=true,arr:=false}),(1000005,{els:=[.bool false],esz:=1,ety:=4,fro:=0,live:=true,arr:=false}),(1000006,{els:=[.agg [.slc (p.ns.map PV.str),.slc (p.hs.map v3PV),.slc (p.as_.map acV)]],esz:=3,ety:=26,fro:=0,live:=true,arr:=false})]) rfl rfl ?_ ?_ ?_ S (.exit 6) (fun _=>rfl) (fun j _ _=>by simp [lkp]) ?_ rfl ?_
      [(0,1000006),(1,1000004),(2,1000005),(300,1000001),(7,1000002),(8,1000003),(2300,1000000)]
      [(2,.bp 0 3 0 0),(3,.bp 1 1 0 0),(4,.bp 2 1 0 0),(5,.bp 300 1 0 0),(11,.fn 40 [] [.rp [.int .i64 (n:Int)],.rp [.int .i64 (M:Int)]]),(12,.bp 8 1 0 0),(13,.bp 2300 1 0 0)]
      [(0,{els:=[.agg [.slc (p.ns.map PV.str),.slc (p.hs.map v3PV),.slc (p.as_.map acV)]],esz:=3,ety:=26,fro:=0,live:=true,arr:=false}),(1,{els:=[.int .i64 q],esz:=1,ety:=3,fro:=0,live:=true,arr:=false}),(2,{els:=[.bool false],esz:=1,ety:=4,fro:=0,live:=true,arr:=false}),(300,{els:=[.bs 7 2 0 S],esz:=1,ety:=44,fro:=0,live:=true,arr:=false}),(7,{els:=W,esz:=2,ety:=30,fro:=0,live:=true,arr:=true}),(8,{els:=[.int .i64 1],esz:=1,ety:=3,fro:=0,live:=true,arr:=false}),(2300,{els:=[.int .i64 (S:Int)],esz:=1,ety:=3,fro:=0,live:=true,arr:=false})] rfl rfl ?_ ?_ (fun hq1=> ?_) (fun hq2=>by omega)
     ·simp [Qad,lkp,ren1,ren0,Qae]
     ·exact⟨⟨rfl,rfl,rfl,rfl,rfl,.inr ⟨rfl,_,_,rfl,rfl,rfl,rfl⟩⟩,⟨rfl,rfl,rfl,rfl,rfl,.inr ⟨rfl,_,_,rfl,rfl,rfl,rfl⟩⟩,⟨rfl,rfl,rfl,rfl,rfl,.inl ⟨rfl,rfl⟩⟩,⟨rfl,rfl,rfl,rfl,rfl,.inr ⟨rfl,_,_,rfl,rfl,rfl,rfl⟩⟩,⟨rfl,rfl,rfl,rfl,rfl,.inr ⟨rfl,_,_,rfl,rfl,rfl,rfl⟩⟩,⟨rfl,rfl,rfl,rfl,rfl,.inr ⟨rfl,_,_,rfl,rfl,rfl,rfl⟩⟩,⟨rfl,rfl,rfl,rfl,rfl,.inr ⟨rfl,_,_,rfl,rfl,rfl,rfl⟩⟩,trivial⟩
     ·simp [Qad,lkp,ren1,ren0,Qae,Qc6]
     ·intro j args h
      have hj:j<S:=by rw [←hlO];exact(List.getElem?_eq_some_iff.1 h).1
      rw [hgO j hj]at h
      cases h
      rfl
     ·rintro j args hja hjs
      have hj:j<S:=by rw [←hlO];exact(List.getElem?_eq_some_iff.1 hja).1
      rw [hgO j hj]at hja
      cases hja
      have hwj:=wr_1 (n:=j) (by omega)
      have hjT:((S:Int)≤(j:Int))=False:=eq_false (by omega)
      have hWj:=hWx j hj
      have hjT2:=lt_T hj
      have nj:=nn_T j
      repeat (first|(simp -implicitDefEqProofs only [go_sem,Nat.reduceAdd,Nat.reduceMul,Nat.reduceEqDiff,Nat.reduceLT,Nat.reduceLeDiff,reduceCtorEq,Qas,pvars,List.toList_toArray])|(with_reducible exact Qaa _ _ (by kernel_rfl))|(with_reducible refine And.intro (Qaa _ _ (by kernel_rfl)) ?_))
      refine⟨by simp [lkp],?_⟩
      repeat (first|(simp -implicitDefEqProofs only [go_sem,Nat.reduceAdd,Nat.reduceMul,Nat.reduceEqDiff,Nat.reduceLT,Nat.reduceLeDiff,reduceCtorEq,Qas,BEq.rfl,Bool.not_true,Bool.not_false,Bool.and_self,bne_self_eq_false,Int.reduceBEq,Int.reduceBNe,decide_true,decide_false,Bool.and_true,Bool.true_and,hjT,hjT2,nj,hWj,hwj,Int.toNat_natCast])|(with_reducible exact Qaa _ _ (by kernel_rfl))|(with_reducible refine And.intro (Qaa _ _ (by kernel_rfl)) ?_))
      refine⟨hj,?_⟩
      refine Qaq (θ:=[(1000000,1000000),(1000001,1000001),(1000002,1000002),(1000003,1000003),(1000004,1000004),(1000005,1000005),(1000006,1000006)]) rfl ?_ ?_
      ·simp [Qad,lkp,ren1,ren0,Qae]
      ·exact⟨⟨rfl,rfl,rfl,rfl,rfl,.inr ⟨rfl,_,_,rfl,rfl,rfl,rfl⟩⟩,⟨rfl,rfl,rfl,rfl,rfl,.inr ⟨rfl,_,_,rfl,rfl,rfl,rfl⟩⟩,⟨rfl,rfl,rfl,rfl,rfl,.inl ⟨rfl,rfl⟩⟩,⟨rfl,rfl,rfl,rfl,rfl,.inr ⟨rfl,_,_,rfl,rfl,rfl,rfl⟩⟩,⟨rfl,rfl,rfl,rfl,rfl,.inr ⟨rfl,_,_,rfl,rfl,rfl,rfl⟩⟩,⟨rfl,rfl,rfl,rfl,rfl,.inr ⟨rfl,_,_,rfl,rfl,rfl,rfl⟩⟩,⟨rfl,rfl,rfl,rfl,rfl,.inr ⟨rfl,_,_,rfl,rfl,rfl,rfl⟩⟩,trivial⟩
     ·simp [Qad,lkp,ren1,ren0,Qae]
     ·rw [hlO,Nat.min_eq_left (Nat.le_succ S)]
      exact⟨⟨rfl,rfl,rfl,rfl,rfl,.inr ⟨rfl,_,_,rfl,rfl,rfl,rfl⟩⟩,⟨rfl,rfl,rfl,rfl,rfl,.inr ⟨rfl,_,_,rfl,rfl,rfl,rfl⟩⟩,⟨rfl,rfl,rfl,rfl,rfl,.inr ⟨rfl,_,_,rfl,rfl,rfl,rfl⟩⟩,⟨rfl,rfl,rfl,rfl,rfl,.inr ⟨rfl,_,_,rfl,rfl,rfl,rfl⟩⟩,⟨rfl,rfl,rfl,rfl,rfl,.inl ⟨rfl,rfl⟩⟩,⟨rfl,rfl,rfl,rfl,rfl,.inr ⟨rfl,_,_,rfl,rfl,rfl,rfl⟩⟩,⟨rfl,rfl,rfl,rfl,rfl,.inr ⟨rfl,_,_,rfl,rfl,rfl,rfl⟩⟩,trivial⟩
     ·repeat (first|(simp -implicitDefEqProofs only [go_sem,Nat.reduceAdd,Nat.reduceMul,Nat.reduceEqDiff,Nat.reduceLT,Nat.reduceLeDiff,reduceCtorEq,Int.reduceAdd,Qas,BEq.rfl,Bool.not_true,Bool.not_false,Bool.and_self,bne_self_eq_false,Int.reduceBEq,Int.reduceBNe,decide_true,decide_false,Bool.and_true,Bool.true_and])|(with_reducible exact Qaa _ _ (by kernel_rfl))|(with_reducible refine And.intro (Qaa _ _ (by kernel_rfl)) ?_))
      refine⟨(St.of [(2,.bp 0 3 0 0),(3,.bp 1 1 0 0),(4,.bp 2 1 0 0),(5,.bp 300 1 0 0),(11,.fn 40 [] [.rp [.int .i64 (n:Int)],.rp [.int .i64 (M:Int)]]),(12,.bp 8 1 0 0)] [(0,{els:=[.agg [.slc (p.ns.map PV.str),.slc (p.hs.map v3PV),.slc (p.as_.map acV)]],esz:=3,ety:=26,fro:=0,live:=true,arr:=false}),(1,{els:=[.int .i64 q],esz:=1,ety:=3,fro:=0,live:=true,arr:=false}),(2,{els:=[.bool false],esz:=1,ety:=4,fro:=0,live:=true,arr:=false}),(300,{els:=[.bs 7 2 0 S],esz:=1,ety:=44,fro:=0,live:=true,arr:=false}),(7,{els:=W,esz:=2,ety:=30,fro:=0,live:=true,arr:=true}),(8,{els:=[.int .i64 2],esz:=1,ety:=3,fro:=0,live:=true,arr:=false})]),Qaq (θ:=[(0,0),(1,1),(2,2),(300,300),(7,7),(8,3300)]) rfl ?_ ?_,?_⟩
      ·simp [Qad,lkp,ren1,ren0,Qae]
      ·exact⟨⟨rfl,rfl,rfl,rfl,rfl,.inr ⟨rfl,_,_,rfl,rfl,rfl,rfl⟩⟩,⟨rfl,rfl,rfl,rfl,rfl,.inr ⟨rfl,_,_,rfl,rfl,rfl,rfl⟩⟩,⟨rfl,rfl,rfl,rfl,rfl,.inr ⟨rfl,_,_,rfl,rfl,rfl,rfl⟩⟩,⟨rfl,rfl,rfl,rfl,rfl,.inr ⟨rfl,_,_,rfl,rfl,rfl,rfl⟩⟩,⟨rfl,rfl,rfl,rfl,rfl,.inl ⟨rfl,rfl⟩⟩,⟨rfl,rfl,rfl,rfl,rfl,.inr ⟨rfl,_,_,rfl,rfl,rfl,rfl⟩⟩,trivial⟩
      repeat (first|(simp -implicitDefEqProofs only [go_sem,Nat.reduceAdd,Nat.reduceMul,Nat.reduceEqDiff,Nat.reduceLT,Nat.reduceLeDiff,reduceCtorEq,Int.reduceLT,Qas,BEq.rfl,Bool.not_true,Bool.not_false,Bool.and_self,bne_self_eq_false,Int.reduceBEq,Int.reduceBNe,decide_true,decide_false,Bool.and_true,Bool.true_and])|((with_reducible refine Qab (hKn) ?_ ?_ ?_);(with_reducible rfl);rfl)|(with_reducible exact Qaa _ _ (by kernel_rfl))|(with_reducible refine And.intro (Qaa _ _ (by kernel_rfl)) ?_))
    ·rw [Qhr]
     repeat (first|(simp -implicitDefEqProofs only [go_sem,Nat.reduceAdd,Nat.reduceMul,Nat.reduceEqDiff,Nat.reduceLT,Nat.reduceLeDiff,reduceCtorEq,Int.reduceAdd,Qas,BEq.rfl,Bool.not_true,Bool.not_false,Bool.and_self,bne_self_eq_false,Int.reduceBEq,Int.reduceBNe,decide_true,decide_false,Bool.and_true,Bool.true_and,Qmd,Qme,hmm])|(with_reducible exact Qaa _ _ (by kernel_rfl))|(with_reducible refine And.intro (Qaa _ _ (by kernel_rfl)) ?_))
     refine⟨(St.of [(2,.bp 0 3 0 0),(3,.bp 1 1 0 0),(4,.bp 2 1 0 0),(5,.bp 300 1 0 0),(11,.fn 40 [] [.rp [.int .i64 (n:Int)],.rp [.int .i64 (M:Int)]]),(12,.bp 8 1 0 0)] [(0,{els:=[.agg [.slc (p.ns.map PV.str),.slc (p.hs.map v3PV),.slc (p.as_.map acV)]],esz:=3,ety:=26,fro:=0,live:=true,arr:=false}),(1,{els:=[.int .i64 q],esz:=1,ety:=3,fro:=0,live:=true,arr:=false}),(2,{els:=[.bool false],esz:=1,ety:=4,fro:=0,live:=true,arr:=false}),(300,{els:=[.bs 7 2 0 S],esz:=1,ety:=44,fro:=0,live:=true,arr:=false}),(7,{els:=W,esz:=2,ety:=30,fro:=0,live:=true,arr:=true}),(8,{els:=[.int .i64 1],esz:=1,ety:=3,fro:=0,live:=true,arr:=false})]),Qaq (θ:=[(0,0),(1,1),(2,2),(300,300),(7,7),(8,3300)]) rfl ?_ ?_,?_⟩
     ·simp [Qad,lkp,ren1,ren0,Qae]
     ·exact⟨⟨rfl,rfl,rfl,rfl,rfl,.inr ⟨rfl,_,_,rfl,rfl,rfl,rfl⟩⟩,⟨rfl,rfl,rfl,rfl,rfl,.inr ⟨rfl,_,_,rfl,rfl,rfl,rfl⟩⟩,⟨rfl,rfl,rfl,rfl,rfl,.inr ⟨rfl,_,_,rfl,rfl,rfl,rfl⟩⟩,⟨rfl,rfl,rfl,rfl,rfl,.inr ⟨rfl,_,_,rfl,rfl,rfl,rfl⟩⟩,⟨rfl,rfl,rfl,rfl,rfl,.inl ⟨rfl,rfl⟩⟩,⟨rfl,rfl,rfl,rfl,rfl,.inr ⟨rfl,_,_,rfl,rfl,rfl,rfl⟩⟩,trivial⟩
     repeat (first|(simp -implicitDefEqProofs only [go_sem,Nat.reduceAdd,Nat.reduceMul,Nat.reduceEqDiff,Nat.reduceLT,Nat.reduceLeDiff,reduceCtorEq,Int.reduceLT,Qas,BEq.rfl,Bool.not_true,Bool.not_false,Bool.and_self,bne_self_eq_false,Int.reduceBEq,Int.reduceBNe,decide_true,decide_false,Bool.and_true,Bool.true_and])|(with_reducible exact Qaa _ _ (by kernel_rfl))|(with_reducible refine And.intro (Qaa _ _ (by kernel_rfl)) ?_))
     refine Qby mixed hY rfl rfl _ rfl [(1000000,2300),(1000001,300),(1000002,7),(1000003,8),(1000004,1),(1000005,2),(1000006,0)] [1000000,1000001,1000002,1000003,1000004,1000005,1000006] rfl
      [(2,.bp 1000006 3 0 0),(11,.fn 40 [] [.rp [.int .i64 (n:Int)],.rp [.int .i64 (M:Int)]]),(3,.bp 1000004 1 0 0),(4,.bp 1000005 1 0 0),(5,.bp 1000001 1 0 0),(12,.bp 1000003 1 0 0),(13,.bp 1000000 1 0 0)]
      (fun j:Nat=>[(1000000,{els:=[.int .i64 (j:Int)],esz:=1,ety:=3,fro:=0,live:=true,arr:=false}),(1000001,{els:=[.bs 1000002 2 0 S],esz:=1,ety:=44,fro:=0,live:=true,arr:=false}),(1000002,{els:=W,esz:=2,ety:=30,fro:=0,live:=true,arr:=true}),(1000003,{els:=[.int .i64 1],esz:=1,ety:=3,fro:=0,live:=true,arr:=false}),(1000004,{els:=[.int .i64 q],esz:=1,ety:=3,fro:=0,live:=true,arr:=false}),(1000005,{els:=[.bool false],esz:=1,ety:=4,fro:=0,live:=true,arr:=false}),(1000006,{els:=[.agg [.slc (p.ns.map PV.str),.slc (p.hs.map v3PV),.slc (p.as_.map acV)]],esz:=3,ety:=26,fro:=0,live:=true,arr:=false})]) rfl rfl ?_ ?_ ?_ S (.exit 6) (fun _=>rfl) (fun j _ _=>by simp [lkp]) ?_ rfl ?_
      [(0,1000006),(1,1000004),(2,1000005),(300,1000001),(7,1000002),(8,1000003),(2300,1000000)]
      [(2,.bp 0 3 0 0),(3,.bp 1 1 0 0),(4,.bp 2 1 0 0),(5,.bp 300 1 0 0),(11,.fn 40 [] [.rp [.int .i64 (n:Int)],.rp [.int .i64 (M:Int)]]),(12,.bp 8 1 0 0),(13,.bp 2300 1 0 0)]
      [(0,{els:=[.agg [.slc (p.ns.map PV.str),.slc (p.hs.map v3PV),.slc (p.as_.map acV)]],esz:=3,ety:=26,fro:=0,live:=true,arr:=false}),(1,{els:=[.int .i64 q],esz:=1,ety:=3,fro:=0,live:=true,arr:=false}),(2,{els:=[.bool false],esz:=1,ety:=4,fro:=0,live:=true,arr:=false}),(300,{els:=[.bs 7 2 0 S],esz:=1,ety:=44,fro:=0,live:=true,arr:=false}),(7,{els:=W,esz:=2,ety:=30,fro:=0,live:=true,arr:=true}),(8,{els:=[.int .i64 1],esz:=1,ety:=3,fro:=0,live:=true,arr:=false}),(2300,{els:=[.int .i64 (S:Int)],esz:=1,ety:=3,fro:=0,live:=true,arr:=false})] rfl rfl ?_ ?_ (fun hq1=> ?_) (fun hq2=>by omega)
     ·simp [Qad,lkp,ren1,ren0,Qae]
     ·exact⟨⟨rfl,rfl,rfl,rfl,rfl,.inr ⟨rfl,_,_,rfl,rfl,rfl,rfl⟩⟩,⟨rfl,rfl,rfl,rfl,rfl,.inr ⟨rfl,_,_,rfl,rfl,rfl,rfl⟩⟩,⟨rfl,rfl,rfl,rfl,rfl,.inl ⟨rfl,rfl⟩⟩,⟨rfl,rfl,rfl,rfl,rfl,.inr ⟨rfl,_,_,rfl,rfl,rfl,rfl⟩⟩,⟨rfl,rfl,rfl,rfl,rfl,.inr ⟨rfl,_,_,rfl,rfl,rfl,rfl⟩⟩,⟨rfl,rfl,rfl,rfl,rfl,.inr ⟨rfl,_,_,rfl,rfl,rfl,rfl⟩⟩,⟨rfl,rfl,rfl,rfl,rfl,.inr ⟨rfl,_,_,rfl,rfl,rfl,rfl⟩⟩,trivial⟩
     ·simp [Qad,lkp,ren1,ren0,Qae,Qc6]
     ·intro j args h
      have hj:j<S:=by rw [←hlO];exact(List.getElem?_eq_some_iff.1 h).1
      rw [hgO j hj]at h
      cases h
      rfl
     ·rintro j args hja hjs
      have hj:j<S:=by rw [←hlO];exact(List.getElem?_eq_some_iff.1 hja).1
      rw [hgO j hj]at hja
      cases hja
      have hwj:=wr_1 (n:=j) (by omega)
      have hjT:((S:Int)≤(j:Int))=False:=eq_false (by omega)
      have hWj:=hWx j hj
      have hjT2:=lt_T hj
      have nj:=nn_T j
      repeat (first|(simp -implicitDefEqProofs only [go_sem,Nat.reduceAdd,Nat.reduceMul,Nat.reduceEqDiff,Nat.reduceLT,Nat.reduceLeDiff,reduceCtorEq,Qas,pvars,List.toList_toArray])|(with_reducible exact Qaa _ _ (by kernel_rfl))|(with_reducible refine And.intro (Qaa _ _ (by kernel_rfl)) ?_))
      refine⟨by simp [lkp],?_⟩
      repeat (first|(simp -implicitDefEqProofs only [go_sem,Nat.reduceAdd,Nat.reduceMul,Nat.reduceEqDiff,Nat.reduceLT,Nat.reduceLeDiff,reduceCtorEq,Qas,BEq.rfl,Bool.not_true,Bool.not_false,Bool.and_self,bne_self_eq_false,Int.reduceBEq,Int.reduceBNe,decide_true,decide_false,Bool.and_true,Bool.true_and,hjT,hjT2,nj,hWj,hwj,Int.toNat_natCast])|(with_reducible exact Qaa _ _ (by kernel_rfl))|(with_reducible refine And.intro (Qaa _ _ (by kernel_rfl)) ?_))
      refine⟨hj,?_⟩
      refine Qaq (θ:=[(1000000,1000000),(1000001,1000001),(1000002,1000002),(1000003,1000003),(1000004,1000004),(1000005,1000005),(1000006,1000006)]) rfl ?_ ?_
      ·simp [Qad,lkp,ren1,ren0,Qae]
      ·exact⟨⟨rfl,rfl,rfl,rfl,rfl,.inr ⟨rfl,_,_,rfl,rfl,rfl,rfl⟩⟩,⟨rfl,rfl,rfl,rfl,rfl,.inr ⟨rfl,_,_,rfl,rfl,rfl,rfl⟩⟩,⟨rfl,rfl,rfl,rfl,rfl,.inl ⟨rfl,rfl⟩⟩,⟨rfl,rfl,rfl,rfl,rfl,.inr ⟨rfl,_,_,rfl,rfl,rfl,rfl⟩⟩,⟨rfl,rfl,rfl,rfl,rfl,.inr ⟨rfl,_,_,rfl,rfl,rfl,rfl⟩⟩,⟨rfl,rfl,rfl,rfl,rfl,.inr ⟨rfl,_,_,rfl,rfl,rfl,rfl⟩⟩,⟨rfl,rfl,rfl,rfl,rfl,.inr ⟨rfl,_,_,rfl,rfl,rfl,rfl⟩⟩,trivial⟩
     ·simp [Qad,lkp,ren1,ren0,Qae]
     ·rw [hlO,Nat.min_eq_left (Nat.le_succ S)]
      exact⟨⟨rfl,rfl,rfl,rfl,rfl,.inr ⟨rfl,_,_,rfl,rfl,rfl,rfl⟩⟩,⟨rfl,rfl,rfl,rfl,rfl,.inr ⟨rfl,_,_,rfl,rfl,rfl,rfl⟩⟩,⟨rfl,rfl,rfl,rfl,rfl,.inr ⟨rfl,_,_,rfl,rfl,rfl,rfl⟩⟩,⟨rfl,rfl,rfl,rfl,rfl,.inr ⟨rfl,_,_,rfl,rfl,rfl,rfl⟩⟩,⟨rfl,rfl,rfl,rfl,rfl,.inl ⟨rfl,rfl⟩⟩,⟨rfl,rfl,rfl,rfl,rfl,.inr ⟨rfl,_,_,rfl,rfl,rfl,rfl⟩⟩,⟨rfl,rfl,rfl,rfl,rfl,.inr ⟨rfl,_,_,rfl,rfl,rfl,rfl⟩⟩,trivial⟩
     ·repeat (first|(simp -implicitDefEqProofs only [go_sem,Nat.reduceAdd,Nat.reduceMul,Nat.reduceEqDiff,Nat.reduceLT,Nat.reduceLeDiff,reduceCtorEq,Int.reduceAdd,Qas,BEq.rfl,Bool.not_true,Bool.not_false,Bool.and_self,bne_self_eq_false,Int.reduceBEq,Int.reduceBNe,decide_true,decide_false,Bool.and_true,Bool.true_and])|(with_reducible exact Qaa _ _ (by kernel_rfl))|(with_reducible refine And.intro (Qaa _ _ (by kernel_rfl)) ?_))
      refine⟨(St.of [(2,.bp 0 3 0 0),(3,.bp 1 1 0 0),(4,.bp 2 1 0 0),(5,.bp 300 1 0 0),(11,.fn 40 [] [.rp [.int .i64 (n:Int)],.rp [.int .i64 (M:Int)]]),(12,.bp 8 1 0 0)] [(0,{els:=[.agg [.slc (p.ns.map PV.str),.slc (p.hs.map v3PV),.slc (p.as_.map acV)]],esz:=3,ety:=26,fro:=0,live:=true,arr:=false}),(1,{els:=[.int .i64 q],esz:=1,ety:=3,fro:=0,live:=true,arr:=false}),(2,{els:=[.bool false],esz:=1,ety:=4,fro:=0,live:=true,arr:=false}),(300,{els:=[.bs 7 2 0 S],esz:=1,ety:=44,fro:=0,live:=true,arr:=false}),(7,{els:=W,esz:=2,ety:=30,fro:=0,live:=true,arr:=true}),(8,{els:=[.int .i64 2],esz:=1,ety:=3,fro:=0,live:=true,arr:=false})]),Qaq (θ:=[(0,0),(1,1),(2,2),(300,300),(7,7),(8,3300)]) rfl ?_ ?_,?_⟩
      ·simp [Qad,lkp,ren1,ren0,Qae]
      ·exact⟨⟨rfl,rfl,rfl,rfl,rfl,.inr ⟨rfl,_,_,rfl,rfl,rfl,rfl⟩⟩,⟨rfl,rfl,rfl,rfl,rfl,.inr ⟨rfl,_,_,rfl,rfl,rfl,rfl⟩⟩,⟨rfl,rfl,rfl,rfl,rfl,.inr ⟨rfl,_,_,rfl,rfl,rfl,rfl⟩⟩,⟨rfl,rfl,rfl,rfl,rfl,.inr ⟨rfl,_,_,rfl,rfl,rfl,rfl⟩⟩,⟨rfl,rfl,rfl,rfl,rfl,.inl ⟨rfl,rfl⟩⟩,⟨rfl,rfl,rfl,rfl,rfl,.inr ⟨rfl,_,_,rfl,rfl,rfl,rfl⟩⟩,trivial⟩
      repeat (first|(simp -implicitDefEqProofs only [go_sem,Nat.reduceAdd,Nat.reduceMul,Nat.reduceEqDiff,Nat.reduceLT,Nat.reduceLeDiff,reduceCtorEq,Int.reduceLT,Qas,BEq.rfl,Bool.not_true,Bool.not_false,Bool.and_self,bne_self_eq_false,Int.reduceBEq,Int.reduceBNe,decide_true,decide_false,Bool.and_true,Bool.true_and])|((with_reducible refine Qab (hKn) ?_ ?_ ?_);(with_reducible rfl);rfl)|(with_reducible exact Qaa _ _ (by kernel_rfl))|(with_reducible refine And.intro (Qaa _ _ (by kernel_rfl)) ?_))
   ·have hz1:(((n*m:Nat):Int)==0)=false:=beq_eq_false_iff_ne.2 (by omega)
    rw [if_neg hz]at hCt
    generalize hSS:n*m=S at*
    repeat (first|(simp -implicitDefEqProofs only [go_sem,Nat.reduceAdd,Nat.reduceMul,Nat.reduceEqDiff,Nat.reduceLT,Nat.reduceLeDiff,reduceCtorEq,Qas,hA',hn,hz1,Qas,Bool.not_true,decide_false,bne_self_eq_false,Int.reduceBNe,List.length_map])|((with_reducible refine Qab (hCt) ?_ ?_ ?_);(with_reducible rfl);rfl)|((with_reducible refine Qab (hV) ?_ ?_ ?_);(with_reducible rfl);rfl)|((with_reducible refine Qab (hCs) ?_ ?_ ?_);(with_reducible rfl);rfl)|(with_reducible exact Qaa _ _ (by kernel_rfl))|(with_reducible refine And.intro (Qaa _ _ (by kernel_rfl)) ?_))
    refine Qgg mixed [0,1,2] (St.of [(2,.bp 0 3 0 0),(3,.bp 1 1 0 0),(4,.bp 2 1 0 0),(5,.bp 300 1 0 0),(11,.fn 40 [] [.rp [.int .i64 (n:Int)],.rp [.int .i64 (M:Int)]]),(12,.bp 8 1 0 0)] [(0,{els:=[.agg [.slc (p.ns.map PV.str),.slc (p.hs.map v3PV),.slc (p.as_.map acV)]],esz:=3,ety:=26,fro:=0,live:=true,arr:=false}),(1,{els:=[.int .i64 q],esz:=1,ety:=3,fro:=0,live:=true,arr:=false}),(2,{els:=[.bool false],esz:=1,ety:=4,fro:=0,live:=true,arr:=false}),(300,{els:=[.bs 7 2 0 S],esz:=1,ety:=44,fro:=0,live:=true,arr:=false}),(7,{els:=W,esz:=2,ety:=30,fro:=0,live:=true,arr:=true}),(8,{els:=[.int .i64 0],esz:=1,ety:=3,fro:=0,live:=true,arr:=false})]) (Qaq (θ:=[(0,0),(1,1),(2,2),(300,300),(7,7),(8,2000)]) rfl ?_ ?_) ?_
    ·simp [Qad,lkp,ren1,ren0,Qae]
    ·exact⟨⟨rfl,rfl,rfl,rfl,rfl,.inr ⟨rfl,_,_,rfl,rfl,rfl,rfl⟩⟩,⟨rfl,rfl,rfl,rfl,rfl,.inr ⟨rfl,_,_,rfl,rfl,rfl,rfl⟩⟩,⟨rfl,rfl,rfl,rfl,rfl,.inr ⟨rfl,_,_,rfl,rfl,rfl,rfl⟩⟩,⟨rfl,rfl,rfl,rfl,rfl,.inr ⟨rfl,_,_,rfl,rfl,rfl,rfl⟩⟩,⟨rfl,rfl,rfl,rfl,rfl,.inl ⟨rfl,rfl⟩⟩,⟨rfl,rfl,rfl,rfl,rfl,.inr ⟨rfl,_,_,rfl,rfl,rfl,rfl⟩⟩,trivial⟩
    repeat (first|(simp -implicitDefEqProofs only [go_sem,Nat.reduceAdd,Nat.reduceMul,Nat.reduceEqDiff,Nat.reduceLT,Nat.reduceLeDiff,reduceCtorEq,Int.reduceLT,Qas,BEq.rfl,Bool.not_true,Bool.not_false,Bool.and_self,bne_self_eq_false,Int.reduceBEq,Int.reduceBNe,decide_true,decide_false,Bool.and_true,Bool.true_and])|(with_reducible exact Qaa _ _ (by kernel_rfl))|(with_reducible refine And.intro (Qaa _ _ (by kernel_rfl)) ?_))
    refine Qby mixed hY rfl rfl _ rfl [(1000000,2300),(1000001,300),(1000002,7),(1000003,8),(1000004,1),(1000005,2),(1000006,0)] [1000000,1000001,1000002,1000003,1000004,1000005,1000006] rfl
     [(2,.bp 1000006 3 0 0),(11,.fn 40 [] [.rp [.int .i64 (n:Int)],.rp [.int .i64 (M:Int)]]),(3,.bp 1000004 1 0 0),(4,.bp 1000005 1 0 0),(5,.bp 1000001 1 0 0),(12,.bp 1000003 1 0 0),(13,.bp 1000000 1 0 0)]
     (fun j:Nat=>[(1000000,{els:=[.int .i64 (j:Int)],esz:=1,ety:=3,fro:=0,live:=true,arr:=false}),(1000001,{els:=[.bs 1000002 2 0 S],esz:=1,ety:=44,fro:=0,live:=true,arr:=false}),(1000002,{els:=W,esz:=2,ety:=30,fro:=0,live:=true,arr:=true}),(1000003,{els:=[.int .i64 0],esz:=1,ety:=3,fro:=0,live:=true,arr:=false}),(1000004,{els:=[.int .i64 q],esz:=1,ety:=3,fro:=0,live:=true,arr:=false}),(1000005,{els:=[.bool false],esz:=1,ety:=4,fro:=0,live:=true,arr:=false}),(1000006,{els:=[.agg [.slc (p.ns.map PV.str),.slc (p.hs.map v3PV),.slc (p.as_.map acV)]],esz:=3,ety:=26,fro:=0,live:=true,arr:=false})]) rfl rfl ?_ ?_ ?_ stp (.exit 6) (fun _=>rfl) (fun j _ _=>by simp [lkp]) ?_ rfl ?_
     [(0,1000006),(1,1000004),(2,1000005),(300,1000001),(7,1000002),(8,1000003),(2300,1000000)]
     [(2,.bp 0 3 0 0),(3,.bp 1 1 0 0),(4,.bp 2 1 0 0),(5,.bp 300 1 0 0),(11,.fn 40 [] [.rp [.int .i64 (n:Int)],.rp [.int .i64 (M:Int)]]),(12,.bp 8 1 0 0),(13,.bp 2300 1 0 0)]
     [(0,{els:=[.agg [.slc (p.ns.map PV.str),.slc (p.hs.map v3PV),.slc (p.as_.map acV)]],esz:=3,ety:=26,fro:=0,live:=true,arr:=false}),(1,{els:=[.int .i64 q],esz:=1,ety:=3,fro:=0,live:=true,arr:=false}),(2,{els:=[.bool false],esz:=1,ety:=4,fro:=0,live:=true,arr:=false}),(300,{els:=[.bs 7 2 0 S],esz:=1,ety:=44,fro:=0,live:=true,arr:=false}),(7,{els:=W,esz:=2,ety:=30,fro:=0,live:=true,arr:=true}),(8,{els:=[.int .i64 0],esz:=1,ety:=3,fro:=0,live:=true,arr:=false}),(2300,{els:=[.int .i64 ((min S (stp+1):Nat):Int)],esz:=1,ety:=3,fro:=0,live:=true,arr:=false})] rfl rfl ?_ ?_ (fun hq1=> ?_) (fun hq2=> ?_)
    ·simp [Qad,lkp,ren1,ren0,Qae]
    ·exact⟨⟨rfl,rfl,rfl,rfl,rfl,.inr ⟨rfl,_,_,rfl,rfl,rfl,rfl⟩⟩,⟨rfl,rfl,rfl,rfl,rfl,.inr ⟨rfl,_,_,rfl,rfl,rfl,rfl⟩⟩,⟨rfl,rfl,rfl,rfl,rfl,.inl ⟨rfl,rfl⟩⟩,⟨rfl,rfl,rfl,rfl,rfl,.inr ⟨rfl,_,_,rfl,rfl,rfl,rfl⟩⟩,⟨rfl,rfl,rfl,rfl,rfl,.inr ⟨rfl,_,_,rfl,rfl,rfl,rfl⟩⟩,⟨rfl,rfl,rfl,rfl,rfl,.inr ⟨rfl,_,_,rfl,rfl,rfl,rfl⟩⟩,⟨rfl,rfl,rfl,rfl,rfl,.inr ⟨rfl,_,_,rfl,rfl,rfl,rfl⟩⟩,trivial⟩
    ·simp [Qad,lkp,ren1,ren0,Qae,Qc6]
    ·intro j args h
     have hj:j<S:=by rw [←hlO];exact(List.getElem?_eq_some_iff.1 h).1
     rw [hgO j hj]at h
     cases h
     rfl
    ·rintro j args hja hjs
     have hj:j<S:=by rw [←hlO];exact(List.getElem?_eq_some_iff.1 hja).1
     rw [hgO j hj]at hja
     cases hja
     have hwj:=wr_1 (n:=j) (by omega)
     have hjT:((S:Int)≤(j:Int))=False:=eq_false (by omega)
     have hWj:=hWx j hj
     have hjT2:=lt_T hj
     have nj:=nn_T j
     repeat (first|(simp -implicitDefEqProofs only [go_sem,Nat.reduceAdd,Nat.reduceMul,Nat.reduceEqDiff,Nat.reduceLT,Nat.reduceLeDiff,reduceCtorEq,Qas,pvars,List.toList_toArray])|(with_reducible exact Qaa _ _ (by kernel_rfl))|(with_reducible refine And.intro (Qaa _ _ (by kernel_rfl)) ?_))
     refine⟨by simp [lkp],?_⟩
     by_cases hlt:j<stp
     ·have hq:(q≤((j+1:Nat):Int))=False:=eq_false (by omega)
      repeat (first|(simp -implicitDefEqProofs only [go_sem,Nat.reduceAdd,Nat.reduceMul,Nat.reduceEqDiff,Nat.reduceLT,Nat.reduceLeDiff,reduceCtorEq,Qas,BEq.rfl,Bool.not_true,Bool.not_false,Bool.and_self,bne_self_eq_false,Int.reduceBEq,Int.reduceBNe,decide_true,decide_false,Bool.and_true,Bool.true_and,hjT,hjT2,nj,hWj,hwj,hq,Int.toNat_natCast])|(with_reducible exact Qaa _ _ (by kernel_rfl))|(with_reducible refine And.intro (Qaa _ _ (by kernel_rfl)) ?_))
      refine⟨hlt,?_⟩
      refine Qaq (θ:=[(1000000,1000000),(1000001,1000001),(1000002,1000002),(1000003,1000003),(1000004,1000004),(1000005,1000005),(1000006,1000006)]) rfl ?_ ?_
      ·simp [Qad,lkp,ren1,ren0,Qae]
      ·exact⟨⟨rfl,rfl,rfl,rfl,rfl,.inr ⟨rfl,_,_,rfl,rfl,rfl,rfl⟩⟩,⟨rfl,rfl,rfl,rfl,rfl,.inr ⟨rfl,_,_,rfl,rfl,rfl,rfl⟩⟩,⟨rfl,rfl,rfl,rfl,rfl,.inl ⟨rfl,rfl⟩⟩,⟨rfl,rfl,rfl,rfl,rfl,.inr ⟨rfl,_,_,rfl,rfl,rfl,rfl⟩⟩,⟨rfl,rfl,rfl,rfl,rfl,.inr ⟨rfl,_,_,rfl,rfl,rfl,rfl⟩⟩,⟨rfl,rfl,rfl,rfl,rfl,.inr ⟨rfl,_,_,rfl,rfl,rfl,rfl⟩⟩,⟨rfl,rfl,rfl,rfl,rfl,.inr ⟨rfl,_,_,rfl,rfl,rfl,rfl⟩⟩,trivial⟩
     ·obtain rfl:j=stp:=by omega
      have hq:(q≤((j+1:Nat):Int))=True:=eq_true (by omega)
      repeat (first|(simp -implicitDefEqProofs only [go_sem,Nat.reduceAdd,Nat.reduceMul,Nat.reduceEqDiff,Nat.reduceLT,Nat.reduceLeDiff,reduceCtorEq,Qas,BEq.rfl,Bool.not_true,Bool.not_false,Bool.and_self,bne_self_eq_false,Int.reduceBEq,Int.reduceBNe,decide_true,decide_false,Bool.and_true,Bool.true_and,hjT,hjT2,nj,hWj,hwj,hq,Int.toNat_natCast])|(with_reducible exact Qaa _ _ (by kernel_rfl))|(with_reducible refine And.intro (Qaa _ _ (by kernel_rfl)) ?_))
      refine⟨rfl,rfl,?_⟩
      refine Qaq (θ:=[(1000000,1000000),(1000001,1000001),(1000002,1000002),(1000003,1000003),(1000004,1000004),(1000005,1000005),(1000006,1000006)]) rfl ?_ ?_
      ·simp [Qad,lkp,ren1,ren0,Qae]
      ·exact⟨⟨rfl,rfl,rfl,rfl,rfl,.inr ⟨rfl,_,_,rfl,rfl,rfl,rfl⟩⟩,⟨rfl,rfl,rfl,rfl,rfl,.inr ⟨rfl,_,_,rfl,rfl,rfl,rfl⟩⟩,⟨rfl,rfl,rfl,rfl,rfl,.inl ⟨rfl,rfl⟩⟩,⟨rfl,rfl,rfl,rfl,rfl,.inr ⟨rfl,_,_,rfl,rfl,rfl,rfl⟩⟩,⟨rfl,rfl,rfl,rfl,rfl,.inr ⟨rfl,_,_,rfl,rfl,rfl,rfl⟩⟩,⟨rfl,rfl,rfl,rfl,rfl,.inr ⟨rfl,_,_,rfl,rfl,rfl,rfl⟩⟩,⟨rfl,rfl,rfl,rfl,rfl,.inr ⟨rfl,_,_,rfl,rfl,rfl,rfl⟩⟩,trivial⟩
    ·simp [Qad,lkp,ren1,ren0,Qae]
    ·rw [hlO]
     exact⟨⟨rfl,rfl,rfl,rfl,rfl,.inr ⟨rfl,_,_,rfl,rfl,rfl,rfl⟩⟩,⟨rfl,rfl,rfl,rfl,rfl,.inr ⟨rfl,_,_,rfl,rfl,rfl,rfl⟩⟩,⟨rfl,rfl,rfl,rfl,rfl,.inr ⟨rfl,_,_,rfl,rfl,rfl,rfl⟩⟩,⟨rfl,rfl,rfl,rfl,rfl,.inr ⟨rfl,_,_,rfl,rfl,rfl,rfl⟩⟩,⟨rfl,rfl,rfl,rfl,rfl,.inl ⟨rfl,rfl⟩⟩,⟨rfl,rfl,rfl,rfl,rfl,.inr ⟨rfl,_,_,rfl,rfl,rfl,rfl⟩⟩,⟨rfl,rfl,rfl,rfl,rfl,.inr ⟨rfl,_,_,rfl,rfl,rfl,rfl⟩⟩,trivial⟩
    ·have hq0:=hq1
     repeat (first|(simp -implicitDefEqProofs only [go_sem,Nat.reduceAdd,Nat.reduceMul,Nat.reduceEqDiff,Nat.reduceLT,Nat.reduceLeDiff,reduceCtorEq,Int.reduceAdd,Qas,BEq.rfl,Bool.not_true,Bool.not_false,Bool.and_self,bne_self_eq_false,Int.reduceBEq,Int.reduceBNe,decide_true,decide_false,Bool.and_true,Bool.true_and,Qmd,Qme,hmm])|(with_reducible exact Qaa _ _ (by kernel_rfl))|(with_reducible refine And.intro (Qaa _ _ (by kernel_rfl)) ?_))
     refine⟨(St.of [(2,.bp 0 3 0 0),(3,.bp 1 1 0 0),(4,.bp 2 1 0 0),(5,.bp 300 1 0 0),(11,.fn 40 [] [.rp [.int .i64 (n:Int)],.rp [.int .i64 (M:Int)]]),(12,.bp 8 1 0 0)] [(0,{els:=[.agg [.slc (p.ns.map PV.str),.slc (p.hs.map v3PV),.slc (p.as_.map acV)]],esz:=3,ety:=26,fro:=0,live:=true,arr:=false}),(1,{els:=[.int .i64 q],esz:=1,ety:=3,fro:=0,live:=true,arr:=false}),(2,{els:=[.bool false],esz:=1,ety:=4,fro:=0,live:=true,arr:=false}),(300,{els:=[.bs 7 2 0 S],esz:=1,ety:=44,fro:=0,live:=true,arr:=false}),(7,{els:=W,esz:=2,ety:=30,fro:=0,live:=true,arr:=true}),(8,{els:=[.int .i64 1],esz:=1,ety:=3,fro:=0,live:=true,arr:=false})]),Qaq (θ:=[(0,0),(1,1),(2,2),(300,300),(7,7),(8,3300)]) rfl ?_ ?_,?_⟩
     ·simp [Qad,lkp,ren1,ren0,Qae]
     ·exact⟨⟨rfl,rfl,rfl,rfl,rfl,.inr ⟨rfl,_,_,rfl,rfl,rfl,rfl⟩⟩,⟨rfl,rfl,rfl,rfl,rfl,.inr ⟨rfl,_,_,rfl,rfl,rfl,rfl⟩⟩,⟨rfl,rfl,rfl,rfl,rfl,.inr ⟨rfl,_,_,rfl,rfl,rfl,rfl⟩⟩,⟨rfl,rfl,rfl,rfl,rfl,.inr ⟨rfl,_,_,rfl,rfl,rfl,rfl⟩⟩,⟨rfl,rfl,rfl,rfl,rfl,.inl ⟨rfl,rfl⟩⟩,⟨rfl,rfl,rfl,rfl,rfl,.inr ⟨rfl,_,_,rfl,rfl,rfl,rfl⟩⟩,trivial⟩
     repeat (first|(simp -implicitDefEqProofs only [go_sem,Nat.reduceAdd,Nat.reduceMul,Nat.reduceEqDiff,Nat.reduceLT,Nat.reduceLeDiff,reduceCtorEq,Int.reduceLT,Qas,BEq.rfl,Bool.not_true,Bool.not_false,Bool.and_self,bne_self_eq_false,Int.reduceBEq,Int.reduceBNe,decide_true,decide_false,Bool.and_true,Bool.true_and])|(with_reducible exact Qaa _ _ (by kernel_rfl))|(with_reducible refine And.intro (Qaa _ _ (by kernel_rfl)) ?_))
     refine Qby mixed hY rfl rfl _ rfl [(1000000,2300),(1000001,300),(1000002,7),(1000003,8),(1000004,1),(1000005,2),(1000006,0)] [1000000,1000001,1000002,1000003,1000004,1000005,1000006] rfl
      [(2,.bp 1000006 3 0 0),(11,.fn 40 [] [.rp [.int .i64 (n:Int)],.rp [.int .i64 (M:Int)]]),(3,.bp 1000004 1 0 0),(4,.bp 1000005 1 0 0),(5,.bp 1000001 1 0 0),(12,.bp 1000003 1 0 0),(13,.bp 1000000 1 0 0)]
      (fun j:Nat=>[(1000000,{els:=[.int .i64 (j:Int)],esz:=1,ety:=3,fro:=0,live:=true,arr:=false}),(1000001,{els:=[.bs 1000002 2 0 S],esz:=1,ety:=44,fro:=0,live:=true,arr:=false}),(1000002,{els:=W,esz:=2,ety:=30,fro:=0,live:=true,arr:=true}),(1000003,{els:=[.int .i64 1],esz:=1,ety:=3,fro:=0,live:=true,arr:=false}),(1000004,{els:=[.int .i64 q],esz:=1,ety:=3,fro:=0,live:=true,arr:=false}),(1000005,{els:=[.bool false],esz:=1,ety:=4,fro:=0,live:=true,arr:=false}),(1000006,{els:=[.agg [.slc (p.ns.map PV.str),.slc (p.hs.map v3PV),.slc (p.as_.map acV)]],esz:=3,ety:=26,fro:=0,live:=true,arr:=false})]) rfl rfl ?_ ?_ ?_ S (.exit 6) (fun _=>rfl) (fun j _ _=>by simp [lkp]) ?_ rfl ?_
      [(0,1000006),(1,1000004),(2,1000005),(300,1000001),(7,1000002),(8,1000003),(2300,1000000)]
      [(2,.bp 0 3 0 0),(3,.bp 1 1 0 0),(4,.bp 2 1 0 0),(5,.bp 300 1 0 0),(11,.fn 40 [] [.rp [.int .i64 (n:Int)],.rp [.int .i64 (M:Int)]]),(12,.bp 8 1 0 0),(13,.bp 2300 1 0 0)]
      [(0,{els:=[.agg [.slc (p.ns.map PV.str),.slc (p.hs.map v3PV),.slc (p.as_.map acV)]],esz:=3,ety:=26,fro:=0,live:=true,arr:=false}),(1,{els:=[.int .i64 q],esz:=1,ety:=3,fro:=0,live:=true,arr:=false}),(2,{els:=[.bool false],esz:=1,ety:=4,fro:=0,live:=true,arr:=false}),(300,{els:=[.bs 7 2 0 S],esz:=1,ety:=44,fro:=0,live:=true,arr:=false}),(7,{els:=W,esz:=2,ety:=30,fro:=0,live:=true,arr:=true}),(8,{els:=[.int .i64 1],esz:=1,ety:=3,fro:=0,live:=true,arr:=false}),(2300,{els:=[.int .i64 (S:Int)],esz:=1,ety:=3,fro:=0,live:=true,arr:=false})] rfl rfl ?_ ?_ (fun hq1=> ?_) (fun hq2=>by omega)
     ·simp [Qad,lkp,ren1,ren0,Qae]
     ·exact⟨⟨rfl,rfl,rfl,rfl,rfl,.inr ⟨rfl,_,_,rfl,rfl,rfl,rfl⟩⟩,⟨rfl,rfl,rfl,rfl,rfl,.inr ⟨rfl,_,_,rfl,rfl,rfl,rfl⟩⟩,⟨rfl,rfl,rfl,rfl,rfl,.inl ⟨rfl,rfl⟩⟩,⟨rfl,rfl,rfl,rfl,rfl,.inr ⟨rfl,_,_,rfl,rfl,rfl,rfl⟩⟩,⟨rfl,rfl,rfl,rfl,rfl,.inr ⟨rfl,_,_,rfl,rfl,rfl,rfl⟩⟩,⟨rfl,rfl,rfl,rfl,rfl,.inr ⟨rfl,_,_,rfl,rfl,rfl,rfl⟩⟩,⟨rfl,rfl,rfl,rfl,rfl,.inr ⟨rfl,_,_,rfl,rfl,rfl,rfl⟩⟩,trivial⟩
     ·simp [Qad,lkp,ren1,ren0,Qae,Qc6]
     ·intro j args h
      have hj:j<S:=by rw [←hlO];exact(List.getElem?_eq_some_iff.1 h).1
      rw [hgO j hj]at h
      cases h
      rfl
     ·rintro j args hja hjs
      have hj:j<S:=by rw [←hlO];exact(List.getElem?_eq_some_iff.1 hja).1
      rw [hgO j hj]at hja
      cases hja
      have hwj:=wr_1 (n:=j) (by omega)
      have hjT:((S:Int)≤(j:Int))=False:=eq_false (by omega)
      have hWj:=hWx j hj
      have hjT2:=lt_T hj
      have nj:=nn_T j
      repeat (first|(simp -implicitDefEqProofs only [go_sem,Nat.reduceAdd,Nat.reduceMul,Nat.reduceEqDiff,Nat.reduceLT,Nat.reduceLeDiff,reduceCtorEq,Qas,pvars,List.toList_toArray])|(with_reducible exact Qaa _ _ (by kernel_rfl))|(with_reducible refine And.intro (Qaa _ _ (by kernel_rfl)) ?_))
      refine⟨by simp [lkp],?_⟩
      repeat (first|(simp -implicitDefEqProofs only [go_sem,Nat.reduceAdd,Nat.reduceMul,Nat.reduceEqDiff,Nat.reduceLT,Nat.reduceLeDiff,reduceCtorEq,Qas,BEq.rfl,Bool.not_true,Bool.not_false,Bool.and_self,bne_self_eq_false,Int.reduceBEq,Int.reduceBNe,decide_true,decide_false,Bool.and_true,Bool.true_and,hjT,hjT2,nj,hWj,hwj,Int.toNat_natCast])|(with_reducible exact Qaa _ _ (by kernel_rfl))|(with_reducible refine And.intro (Qaa _ _ (by kernel_rfl)) ?_))
      refine⟨hj,?_⟩
      refine Qaq (θ:=[(1000000,1000000),(1000001,1000001),(1000002,1000002),(1000003,1000003),(1000004,1000004),(1000005,1000005),(1000006,1000006)]) rfl ?_ ?_
      ·simp [Qad,lkp,ren1,ren0,Qae]
      ·exact⟨⟨rfl,rfl,rfl,rfl,rfl,.inr ⟨rfl,_,_,rfl,rfl,rfl,rfl⟩⟩,⟨rfl,rfl,rfl,rfl,rfl,.inr ⟨rfl,_,_,rfl,rfl,rfl,rfl⟩⟩,⟨rfl,rfl,rfl,rfl,rfl,.inl ⟨rfl,rfl⟩⟩,⟨rfl,rfl,rfl,rfl,rfl,.inr ⟨rfl,_,_,rfl,rfl,rfl,rfl⟩⟩,⟨rfl,rfl,rfl,rfl,rfl,.inr ⟨rfl,_,_,rfl,rfl,rfl,rfl⟩⟩,⟨rfl,rfl,rfl,rfl,rfl,.inr ⟨rfl,_,_,rfl,rfl,rfl,rfl⟩⟩,⟨rfl,rfl,rfl,rfl,rfl,.inr ⟨rfl,_,_,rfl,rfl,rfl,rfl⟩⟩,trivial⟩
     ·simp [Qad,lkp,ren1,ren0,Qae]
     ·rw [hlO,Nat.min_eq_left (Nat.le_succ S)]
      exact⟨⟨rfl,rfl,rfl,rfl,rfl,.inr ⟨rfl,_,_,rfl,rfl,rfl,rfl⟩⟩,⟨rfl,rfl,rfl,rfl,rfl,.inr ⟨rfl,_,_,rfl,rfl,rfl,rfl⟩⟩,⟨rfl,rfl,rfl,rfl,rfl,.inr ⟨rfl,_,_,rfl,rfl,rfl,rfl⟩⟩,⟨rfl,rfl,rfl,rfl,rfl,.inr ⟨rfl,_,_,rfl,rfl,rfl,rfl⟩⟩,⟨rfl,rfl,rfl,rfl,rfl,.inl ⟨rfl,rfl⟩⟩,⟨rfl,rfl,rfl,rfl,rfl,.inr ⟨rfl,_,_,rfl,rfl,rfl,rfl⟩⟩,⟨rfl,rfl,rfl,rfl,rfl,.inr ⟨rfl,_,_,rfl,rfl,rfl,rfl⟩⟩,trivial⟩
     ·repeat (first|(simp -implicitDefEqProofs only [go_sem,Nat.reduceAdd,Nat.reduceMul,Nat.reduceEqDiff,Nat.reduceLT,Nat.reduceLeDiff,reduceCtorEq,Int.reduceAdd,Qas,BEq.rfl,Bool.not_true,Bool.not_false,Bool.and_self,bne_self_eq_false,Int.reduceBEq,Int.reduceBNe,decide_true,decide_false,Bool.and_true,Bool.true_and])|(with_reducible exact Qaa _ _ (by kernel_rfl))|(with_reducible refine And.intro (Qaa _ _ (by kernel_rfl)) ?_))
      refine⟨(St.of [(2,.bp 0 3 0 0),(3,.bp 1 1 0 0),(4,.bp 2 1 0 0),(5,.bp 300 1 0 0),(11,.fn 40 [] [.rp [.int .i64 (n:Int)],.rp [.int .i64 (M:Int)]]),(12,.bp 8 1 0 0)] [(0,{els:=[.agg [.slc (p.ns.map PV.str),.slc (p.hs.map v3PV),.slc (p.as_.map acV)]],esz:=3,ety:=26,fro:=0,live:=true,arr:=false}),(1,{els:=[.int .i64 q],esz:=1,ety:=3,fro:=0,live:=true,arr:=false}),(2,{els:=[.bool false],esz:=1,ety:=4,fro:=0,live:=true,arr:=false}),(300,{els:=[.bs 7 2 0 S],esz:=1,ety:=44,fro:=0,live:=true,arr:=false}),(7,{els:=W,esz:=2,ety:=30,fro:=0,live:=true,arr:=true}),(8,{els:=[.int .i64 2],esz:=1,ety:=3,fro:=0,live:=true,arr:=false})]),Qaq (θ:=[(0,0),(1,1),(2,2),(300,300),(7,7),(8,3300)]) rfl ?_ ?_,?_⟩
      ·simp [Qad,lkp,ren1,ren0,Qae]
      ·exact⟨⟨rfl,rfl,rfl,rfl,rfl,.inr ⟨rfl,_,_,rfl,rfl,rfl,rfl⟩⟩,⟨rfl,rfl,rfl,rfl,rfl,.inr ⟨rfl,_,_,rfl,rfl,rfl,rfl⟩⟩,⟨rfl,rfl,rfl,rfl,rfl,.inr ⟨rfl,_,_,rfl,rfl,rfl,rfl⟩⟩,⟨rfl,rfl,rfl,rfl,rfl,.inr ⟨rfl,_,_,rfl,rfl,rfl,rfl⟩⟩,⟨rfl,rfl,rfl,rfl,rfl,.inl ⟨rfl,rfl⟩⟩,⟨rfl,rfl,rfl,rfl,rfl,.inr ⟨rfl,_,_,rfl,rfl,rfl,rfl⟩⟩,trivial⟩
      repeat (first|(simp -implicitDefEqProofs only [go_sem,Nat.reduceAdd,Nat.reduceMul,Nat.reduceEqDiff,Nat.reduceLT,Nat.reduceLeDiff,reduceCtorEq,Int.reduceLT,Qas,BEq.rfl,Bool.not_true,Bool.not_false,Bool.and_self,bne_self_eq_false,Int.reduceBEq,Int.reduceBNe,decide_true,decide_false,Bool.and_true,Bool.true_and])|((with_reducible refine Qab (hKn) ?_ ?_ ?_);(with_reducible rfl);rfl)|(with_reducible exact Qaa _ _ (by kernel_rfl))|(with_reducible refine And.intro (Qaa _ _ (by kernel_rfl)) ?_))
    ·rw [Qhr]
     repeat (first|(simp -implicitDefEqProofs only [go_sem,Nat.reduceAdd,Nat.reduceMul,Nat.reduceEqDiff,Nat.reduceLT,Nat.reduceLeDiff,reduceCtorEq,Int.reduceAdd,Qas,BEq.rfl,Bool.not_true,Bool.not_false,Bool.and_self,bne_self_eq_false,Int.reduceBEq,Int.reduceBNe,decide_true,decide_false,Bool.and_true,Bool.true_and,Qmd,Qme,hmm])|(with_reducible exact Qaa _ _ (by kernel_rfl))|(with_reducible refine And.intro (Qaa _ _ (by kernel_rfl)) ?_))
     refine⟨(St.of [(2,.bp 0 3 0 0),(3,.bp 1 1 0 0),(4,.bp 2 1 0 0),(5,.bp 300 1 0 0),(11,.fn 40 [] [.rp [.int .i64 (n:Int)],.rp [.int .i64 (M:Int)]]),(12,.bp 8 1 0 0)] [(0,{els:=[.agg [.slc (p.ns.map PV.str),.slc (p.hs.map v3PV),.slc (p.as_.map acV)]],esz:=3,ety:=26,fro:=0,live:=true,arr:=false}),(1,{els:=[.int .i64 q],esz:=1,ety:=3,fro:=0,live:=true,arr:=false}),(2,{els:=[.bool false],esz:=1,ety:=4,fro:=0,live:=true,arr:=false}),(300,{els:=[.bs 7 2 0 S],esz:=1,ety:=44,fro:=0,live:=true,arr:=false}),(7,{els:=W,esz:=2,ety:=30,fro:=0,live:=true,arr:=true}),(8,{els:=[.int .i64 1],esz:=1,ety:=3,fro:=0,live:=true,arr:=false})]),Qaq (θ:=[(0,0),(1,1),(2,2),(300,300),(7,7),(8,3300)]) rfl ?_ ?_,?_⟩
     ·simp [Qad,lkp,ren1,ren0,Qae]
     ·exact⟨⟨rfl,rfl,rfl,rfl,rfl,.inr ⟨rfl,_,_,rfl,rfl,rfl,rfl⟩⟩,⟨rfl,rfl,rfl,rfl,rfl,.inr ⟨rfl,_,_,rfl,rfl,rfl,rfl⟩⟩,⟨rfl,rfl,rfl,rfl,rfl,.inr ⟨rfl,_,_,rfl,rfl,rfl,rfl⟩⟩,⟨rfl,rfl,rfl,rfl,rfl,.inr ⟨rfl,_,_,rfl,rfl,rfl,rfl⟩⟩,⟨rfl,rfl,rfl,rfl,rfl,.inl ⟨rfl,rfl⟩⟩,⟨rfl,rfl,rfl,rfl,rfl,.inr ⟨rfl,_,_,rfl,rfl,rfl,rfl⟩⟩,trivial⟩
     repeat (first|(simp -implicitDefEqProofs only [go_sem,Nat.reduceAdd,Nat.reduceMul,Nat.reduceEqDiff,Nat.reduceLT,Nat.reduceLeDiff,reduceCtorEq,Int.reduceLT,Qas,BEq.rfl,Bool.not_true,Bool.not_false,Bool.and_self,bne_self_eq_false,Int.reduceBEq,Int.reduceBNe,decide_true,decide_false,Bool.and_true,Bool.true_and])|(with_reducible exact Qaa _ _ (by kernel_rfl))|(with_reducible refine And.intro (Qaa _ _ (by kernel_rfl)) ?_))
     refine Qby mixed hY rfl rfl _ rfl [(1000000,2300),(1000001,300),(1000002,7),(1000003,8),(1000004,1),(1000005,2),(1000006,0)] [1000000,1000001,1000002,1000003,1000004,1000005,1000006] rfl
      [(2,.bp 1000006 3 0 0),(11,.fn 40 [] [.rp [.int .i64 (n:Int)],.rp [.int .i64 (M:Int)]]),(3,.bp 1000004 1 0 0),(4,.bp 1000005 1 0 0),(5,.bp 1000001 1 0 0),(12,.bp 1000003 1 0 0),(13,.bp 1000000 1 0 0)]
      (fun j:Nat=>[(1000000,{els:=[.int .i64 (j:Int)],esz:=1,ety:=3,fro:=0,live:=true,arr:=false}),(1000001,{els:=[.bs 1000002 2 0 S],esz:=1,ety:=44,fro:=0,live:=true,arr:=false}),(1000002,{els:=W,esz:=2,ety:=30,fro:=0,live:=true,arr:=true}),(1000003,{els:=[.int .i64 1],esz:=1,ety:=3,fro:=0,live:=true,arr:=false}),(1000004,{els:=[.int .i64 q],esz:=1,ety:=3,fro:=0,live:=true,arr:=false}),(1000005,{els:=[.bool false],esz:=1,ety:=4,fro:=0,live:=true,arr:=false}),(1000006,{els:=[.agg [.slc (p.ns.map PV.str),.slc (p.hs.map v3PV),.slc (p.as_.map acV)]],esz:=3,ety:=26,fro:=0,live:=true,arr:=false})]) rfl rfl ?_ ?_ ?_ S (.exit 6) (fun _=>rfl) (fun j _ _=>by simp [lkp]) ?_ rfl ?_
      [(0,1000006),(1,1000004),(2,1000005),(300,1000001),(7,1000002),(8,1000003),(2300,1000000)]
      [(2,.bp 0 3 0 0),(3,.bp 1 1 0 0),(4,.bp 2 1 0 0),(5,.bp 300 1 0 0),(11,.fn 40 [] [.rp [.int .i64 (n:Int)],.rp [.int .i64 (M:Int)]]),(12,.bp 8 1 0 0),(13,.bp 2300 1 0 0)]
      [(0,{els:=[.agg [.slc (p.ns.map PV.str),.slc (p.hs.map v3PV),.slc (p.as_.map acV)]],esz:=3,ety:=26,fro:=0,live:=true,arr:=false}),(1,{els:=[.int .i64 q],esz:=1,ety:=3,fro:=0,live:=true,arr:=false}),(2,{els:=[.bool false],esz:=1,ety:=4,fro:=0,live:=true,arr:=false}),(300,{els:=[.bs 7 2 0 S],esz:=1,ety:=44,fro:=0,live:=true,arr:=false}),(7,{els:=W,esz:=2,ety:=30,fro:=0,live:=true,arr:=true}),(8,{els:=[.int .i64 1],esz:=1,ety:=3,fro:=0,live:=true,arr:=false}),(2300,{els:=[.int .i64 (S:Int)],esz:=1,ety:=3,fro:=0,live:=true,arr:=false})] rfl rfl ?_ ?_ (fun hq1=> ?_) (fun hq2=>by omega)
     ·simp [Qad,lkp,ren1,ren0,Qae]
     ·exact⟨⟨rfl,rfl,rfl,rfl,rfl,.inr ⟨rfl,_,_,rfl,rfl,rfl,rfl⟩⟩,⟨rfl,rfl,rfl,rfl,rfl,.inr ⟨rfl,_,_,rfl,rfl,rfl,rfl⟩⟩,⟨rfl,rfl,rfl,rfl,rfl,.inl ⟨rfl,rfl⟩⟩,⟨rfl,rfl,rfl,rfl,rfl,.inr ⟨rfl,_,_,rfl,rfl,rfl,rfl⟩⟩,⟨rfl,rfl,rfl,rfl,rfl,.inr ⟨rfl,_,_,rfl,rfl,rfl,rfl⟩⟩,⟨rfl,rfl,rfl,rfl,rfl,.inr ⟨rfl,_,_,rfl,rfl,rfl,rfl⟩⟩,⟨rfl,rfl,rfl,rfl,rfl,.inr ⟨rfl,_,_,rfl,rfl,rfl,rfl⟩⟩,trivial⟩
     ·simp [Qad,lkp,ren1,ren0,Qae,Qc6]
     ·intro j args h
      have hj:j<S:=by rw [←hlO];exact(List.getElem?_eq_some_iff.1 h).1
      rw [hgO j hj]at h
      cases h
      rfl
     ·rintro j args hja hjs
      have hj:j<S:=by rw [←hlO];exact(List.getElem?_eq_some_iff.1 hja).1
      rw [hgO j hj]at hja
      cases hja
      have hwj:=wr_1 (n:=j) (by omega)
      have hjT:((S:Int)≤(j:Int))=False:=eq_false (by omega)
      have hWj:=hWx j hj
      have hjT2:=lt_T hj
      have nj:=nn_T j
      repeat (first|(simp -implicitDefEqProofs only [go_sem,Nat.reduceAdd,Nat.reduceMul,Nat.reduceEqDiff,Nat.reduceLT,Nat.reduceLeDiff,reduceCtorEq,Qas,pvars,List.toList_toArray])|(with_reducible exact Qaa _ _ (by kernel_rfl))|(with_reducible refine And.intro (Qaa _ _ (by kernel_rfl)) ?_))
      refine⟨by simp [lkp],?_⟩
      repeat (first|(simp -implicitDefEqProofs only [go_sem,Nat.reduceAdd,Nat.reduceMul,Nat.reduceEqDiff,Nat.reduceLT,Nat.reduceLeDiff,reduceCtorEq,Qas,BEq.rfl,Bool.not_true,Bool.not_false,Bool.and_self,bne_self_eq_false,Int.reduceBEq,Int.reduceBNe,decide_true,decide_false,Bool.and_true,Bool.true_and,hjT,hjT2,nj,hWj,hwj,Int.toNat_natCast])|(with_reducible exact Qaa _ _ (by kernel_rfl))|(with_reducible refine And.intro (Qaa _ _ (by kernel_rfl)) ?_))
      refine⟨hj,?_⟩
      refine Qaq (θ:=[(1000000,1000000),(1000001,1000001),(1000002,1000002),(1000003,1000003),(1000004,1000004),(1000005,1000005),(1000006,1000006)]) rfl ?_ ?_
      ·simp [Qad,lkp,ren1,ren0,Qae]
      ·exact⟨⟨rfl,rfl,rfl,rfl,rfl,.inr ⟨rfl,_,_,rfl,rfl,rfl,rfl⟩⟩,⟨rfl,rfl,rfl,rfl,rfl,.inr ⟨rfl,_,_,rfl,rfl,rfl,rfl⟩⟩,⟨rfl,rfl,rfl,rfl,rfl,.inl ⟨rfl,rfl⟩⟩,⟨rfl,rfl,rfl,rfl,rfl,.inr ⟨rfl,_,_,rfl,rfl,rfl,rfl⟩⟩,⟨rfl,rfl,rfl,rfl,rfl,.inr ⟨rfl,_,_,rfl,rfl,rfl,rfl⟩⟩,⟨rfl,rfl,rfl,rfl,rfl,.inr ⟨rfl,_,_,rfl,rfl,rfl,rfl⟩⟩,⟨rfl,rfl,rfl,rfl,rfl,.inr ⟨rfl,_,_,rfl,rfl,rfl,rfl⟩⟩,trivial⟩
     ·simp [Qad,lkp,ren1,ren0,Qae]
     ·rw [hlO,Nat.min_eq_left (Nat.le_succ S)]
      exact⟨⟨rfl,rfl,rfl,rfl,rfl,.inr ⟨rfl,_,_,rfl,rfl,rfl,rfl⟩⟩,⟨rfl,rfl,rfl,rfl,rfl,.inr ⟨rfl,_,_,rfl,rfl,rfl,rfl⟩⟩,⟨rfl,rfl,rfl,rfl,rfl,.inr ⟨rfl,_,_,rfl,rfl,rfl,rfl⟩⟩,⟨rfl,rfl,rfl,rfl,rfl,.inr ⟨rfl,_,_,rfl,rfl,rfl,rfl⟩⟩,⟨rfl,rfl,rfl,rfl,rfl,.inl ⟨rfl,rfl⟩⟩,⟨rfl,rfl,rfl,rfl,rfl,.inr ⟨rfl,_,_,rfl,rfl,rfl,rfl⟩⟩,⟨rfl,rfl,rfl,rfl,rfl,.inr ⟨rfl,_,_,rfl,rfl,rfl,rfl⟩⟩,trivial⟩
     ·repeat (first|(simp -implicitDefEqProofs only [go_sem,Nat.reduceAdd,Nat.reduceMul,Nat.reduceEqDiff,Nat.reduceLT,Nat.reduceLeDiff,reduceCtorEq,Int.reduceAdd,Qas,BEq.rfl,Bool.not_true,Bool.not_false,Bool.and_self,bne_self_eq_false,Int.reduceBEq,Int.reduceBNe,decide_true,decide_false,Bool.and_true,Bool.true_and])|(with_reducible exact Qaa _ _ (by kernel_rfl))|(with_reducible refine And.intro (Qaa _ _ (by kernel_rfl)) ?_))
      refine⟨(St.of [(2,.bp 0 3 0 0),(3,.bp 1 1 0 0),(4,.bp 2 1 0 0),(5,.bp 300 1 0 0),(11,.fn 40 [] [.rp [.int .i64 (n:Int)],.rp [.int .i64 (M:Int)]]),(12,.bp 8 1 0 0)] [(0,{els:=[.agg [.slc (p.ns.map PV.str),.slc (p.hs.map v3PV),.slc (p.as_.map acV)]],esz:=3,ety:=26,fro:=0,live:=true,arr:=false}),(1,{els:=[.int .i64 q],esz:=1,ety:=3,fro:=0,live:=true,arr:=false}),(2,{els:=[.bool false],esz:=1,ety:=4,fro:=0,live:=true,arr:=false}),(300,{els:=[.bs 7 2 0 S],esz:=1,ety:=44,fro:=0,live:=true,arr:=false}),(7,{els:=W,esz:=2,ety:=30,fro:=0,live:=true,arr:=true}),(8,{els:=[.int .i64 2],esz:=1,ety:=3,fro:=0,live:=true,arr:=false})]),Qaq (θ:=[(0,0),(1,1),(2,2),(300,300),(7,7),(8,3300)]) rfl ?_ ?_,?_⟩
      ·simp [Qad,lkp,ren1,ren0,Qae]
      ·exact⟨⟨rfl,rfl,rfl,rfl,rfl,.inr ⟨rfl,_,_,rfl,rfl,rfl,rfl⟩⟩,⟨rfl,rfl,rfl,rfl,rfl,.inr ⟨rfl,_,_,rfl,rfl,rfl,rfl⟩⟩,⟨rfl,rfl,rfl,rfl,rfl,.inr ⟨rfl,_,_,rfl,rfl,rfl,rfl⟩⟩,⟨rfl,rfl,rfl,rfl,rfl,.inr ⟨rfl,_,_,rfl,rfl,rfl,rfl⟩⟩,⟨rfl,rfl,rfl,rfl,rfl,.inl ⟨rfl,rfl⟩⟩,⟨rfl,rfl,rfl,rfl,rfl,.inr ⟨rfl,_,_,rfl,rfl,rfl,rfl⟩⟩,trivial⟩
      repeat (first|(simp -implicitDefEqProofs only [go_sem,Nat.reduceAdd,Nat.reduceMul,Nat.reduceEqDiff,Nat.reduceLT,Nat.reduceLeDiff,reduceCtorEq,Int.reduceLT,Qas,BEq.rfl,Bool.not_true,Bool.not_false,Bool.and_self,bne_self_eq_false,Int.reduceBEq,Int.reduceBNe,decide_true,decide_false,Bool.and_true,Bool.true_and])|((with_reducible refine Qab (hKn) ?_ ?_ ?_);(with_reducible rfl);rfl)|(with_reducible exact Qaa _ _ (by kernel_rfl))|(with_reducible refine And.intro (Qaa _ _ (by kernel_rfl)) ?_))
end Go.Proofs.YtjlkapdmgjocdaaGreat
