/-
  OE25, OE26, OE28 (merged for the claim).
-/
import Derived.Test.YtnohfmdlaajpbaaGreatOE24
set_option linter.unusedSimpArgs false
set_option linter.unusedVariables false
namespace Go.Proofs.YtnohfmdlaajpbaaGreat
open Go.Vl Go.RowKit Go.Dg
set_option maxHeartbeats 8000000 in
set_option maxRecDepth 100000 in
theorem Zo4 (p:Pg) (hf:FewP p) (v:Qbd p=true) (hN:p.as_.length≠0) (s:Int) (hs:0≤s∧s≤3600000) (L:List Rc) (hl:L.length≤100000) (hL: ∀k,k<L.length→recB (L.getD k rc0)=true):
  Qbq Tryz.prog 37 [pgV p,lgR L,.int .i64 s] [] (.bs 7 4 0 (dvs p s L L.length).length) [(7,dvB (dvs p s L L.length))]:=by
 have hPs:=Q3z p hf;unfold Qpy at hPs;rw [if_pos v,if_neg hN]at hPs;have hLe:=Qlf p (Qia hf) v;have hbt:=Qej v (k:=p.as_.length) (Nat.le_refl _);have hal:=Qp7 p;have hgA: ∀i,i<p.ns.length→(allL p)[i]? =some (pV (Qbc p i p.as_.length)):=fun i h=>Qp8 h;have hdl: ∀i,(dvs p s L i).length≤i:=fun i=>Qfa p.ns.length s (sqR p s) L i;have e0:dvs p s L 0=[]:=rfl;have ha:=Qr9 L;have hY:=Qsa L hl;have hlO:=Qgy L;have hgO:=fun i h=>Qgz L i h;have hn5:=hf.1;generalize allO L=OO at*;generalize hAL:allL p=AL at*;unfold pgV at hPs hLe ⊢;refine Qa6 (tb:=[]) 79 [.tmp 6] [0,1,2,3,5,6,7,9,11,12,13,14,15,17,30,31,32,42] mixed Tryz.func37 rfl (by kernel_rfl) (by kernel_rfl) (by kernel_rfl) (by kernel_rfl) (by rfl) ?_;repeat (first|simp -implicitDefEqProofs only [go_sem,seval,lgR]|(with_reducible refine Qaa hPs ?_ ?_ ?_);rfl;rfl|(with_reducible refine Qaa hLe ?_ ?_ ?_);rfl;rfl|(with_reducible refine Qaa ha ?_ ?_ ?_);rfl;rfl)
 refine Qf8 (Qlh 300 7 4 33 rfl rfl rfl rfl rfl (by decide)) ?_;refine Qgs mixed hY rfl rfl _ rfl [(1000001,1),(1000002,105),(1000003,205),(1000004,300),(7,7)] [1000001,1000002,1000003,1000004] rfl [(5,.bp 1000001 1 0 0),(7,.bp 1000002 1 0 0),(9,.bp 1000003 1 0 0),(11,.bp 1000004 1 0 0)]
  (fun j:Nat=>[(1000001,stB s),(1000002,{els:=[.slc AL],esz:=1,ety:=122,fro:=0,live:=true,arr:=false}),(1000003,stB (begT p p.as_.length)),(1000004,ddB 7 (dvs p s L j).length),(7,dvB (dvs p s L j))]) rfl rfl ?_ ?_ ?_ L.length .normal (fun h=>by omega) (fun j _ _=>by simp [lkp]) ?_ rfl ?_
  [(300,1000004),(7,7)] [(11,.bp 300 1 0 0)] [(300,ddB 7 (dvs p s L L.length).length),(7,dvB (dvs p s L L.length))] rfl rfl ?_ ?_ (fun _=> ?_) (fun h=>by omega)
 ·simp [Qac,lkp,ren1,ren0,Qah]
 ·simp only [e0];exact⟨⟨rfl,rfl,rfl,rfl,rfl,.inr ⟨rfl,_,_,rfl,rfl,rfl,rfl⟩⟩,⟨rfl,rfl,rfl,rfl,rfl,.inr ⟨rfl,_,_,rfl,rfl,rfl,rfl⟩⟩,⟨rfl,rfl,rfl,rfl,rfl,.inr ⟨rfl,_,_,rfl,rfl,rfl,rfl⟩⟩,⟨rfl,rfl,rfl,rfl,rfl,.inr ⟨rfl,_,_,rfl,rfl,rfl,rfl⟩⟩,⟨rfl,rfl,rfl,rfl,rfl,.inl ⟨rfl,rfl⟩⟩,trivial⟩
 ·simp [Qac,lkp,ren1,ren0,Qah,Qjd]
 ·intro j args h;rw [hgO j (by rw [←hlO];exact(List.getElem?_eq_some_iff.1 h).1)]at h;cases h;rfl
 ·rintro j args hja hjs;have hj:j<L.length:=by rw [←hlO];exact(List.getElem?_eq_some_iff.1 hja).1
  rw [hgO j hj]at hja;cases hja;have hfi:=hL j hj;have hln:=hdl j;have hst:dvs p s L (j+1)=dvs p s L j++dv1 p.ns.length s (sqR p s) j (L.getD j rc0):=rfl;unfold dv1 isP at hst;generalize L.getD j rc0=r at*;simp only [Qnu r];have hT:=Qcy hfi;have htw:IntKind.i64.wrap (r.t-s)=r.t-s:=Qag (by omega) (by omega);have haw:IntKind.i64.wrap (r.a-1)=r.a-1:=Qag (by omega) (by omega);cases hk:(r.k==1)with
  |false=>
   have hk':(r.k != 1)=true:=by simp [bne,hk]
   rw [bq,hk,Bool.false_and,if_neg (by decide),List.append_nil]at hst;repeat simp -implicitDefEqProofs only [go_sem,seval,pvars,List.toList_toArray]
   refine⟨by simp [lkp],?_⟩;repeat simp -implicitDefEqProofs only [go_sem,seval,hk']
   refine⟨hj,?_⟩;simp only [hst,dvB,List.map_append,List.length_append];refine Qaj (θ:=[(1000001,1000001),(1000002,1000002),(1000003,1000003),(1000004,1000004),(7,7)]) rfl ?_ ?_
   ·simp [Qac,lkp,ren1,ren0,Qah]
   ·exact⟨⟨rfl,rfl,rfl,rfl,rfl,.inr ⟨rfl,_,_,rfl,rfl,rfl,rfl⟩⟩,⟨rfl,rfl,rfl,rfl,rfl,.inr ⟨rfl,_,_,rfl,rfl,rfl,rfl⟩⟩,⟨rfl,rfl,rfl,rfl,rfl,.inr ⟨rfl,_,_,rfl,rfl,rfl,rfl⟩⟩,⟨rfl,rfl,rfl,rfl,rfl,.inr ⟨rfl,_,_,rfl,rfl,rfl,rfl⟩⟩,⟨rfl,rfl,rfl,rfl,rfl,.inl ⟨rfl,rfl⟩⟩,trivial⟩
  |true=>
  have hk':(r.k != 1)=false:=by simp [bne,hk]
  have hk1:=beq_iff_eq.1 hk;have ha1:1≤r.a:=by rcases hT.2.2 with q|q|q<;>omega
  rw [bq,hk,Bool.true_and,decide_eq_true ha1,Bool.true_and]at hst;by_cases haN:r.a≤(p.ns.length:Int)
  case neg=>
   have haN':=eq_true (show(p.ns.length:Int)<r.a by omega);rw [decide_eq_false haN,if_neg (by decide),List.append_nil]at hst;repeat simp -implicitDefEqProofs only [go_sem,seval,pvars,List.toList_toArray]
   refine⟨by simp [lkp],?_⟩;repeat simp -implicitDefEqProofs only [go_sem,seval,hk',haN',hal,decide_true]
   refine⟨hj,?_⟩;simp only [hst,dvB,List.map_append,List.length_append];refine Qaj (θ:=[(1000001,1000001),(1000002,1000002),(1000003,1000003),(1000004,1000004),(7,7)]) rfl ?_ ?_
   ·simp [Qac,lkp,ren1,ren0,Qah]
   ·exact⟨⟨rfl,rfl,rfl,rfl,rfl,.inr ⟨rfl,_,_,rfl,rfl,rfl,rfl⟩⟩,⟨rfl,rfl,rfl,rfl,rfl,.inr ⟨rfl,_,_,rfl,rfl,rfl,rfl⟩⟩,⟨rfl,rfl,rfl,rfl,rfl,.inr ⟨rfl,_,_,rfl,rfl,rfl,rfl⟩⟩,⟨rfl,rfl,rfl,rfl,rfl,.inr ⟨rfl,_,_,rfl,rfl,rfl,rfl⟩⟩,⟨rfl,rfl,rfl,rfl,rfl,.inl ⟨rfl,rfl⟩⟩,trivial⟩
  have haN':=eq_false (show¬(p.ns.length:Int)<r.a by omega);rw [decide_eq_true haN,if_pos rfl]at hst;obtain⟨m,hm⟩: ∃m:Nat,r.a=(m:Int)+1:=⟨(r.a-1).toNat,by omega⟩;have hmN:m<p.ns.length:=by omega
  have hma:r.a-1=(m:Int):=by omega
  have hpt:ptB r.v=true:=by rcases hT.2.2 with q|q|q<;>first|exact q.2.1|omega
  have hA:=At_v (Qbc p m p.as_.length) (min (max (r.t-s) 0) (begT p p.as_.length)) (Qpz v hN hmN) (by unfold i64;omega);have hat:=Qxh (Qbc p m p.as_.length) (min (max (r.t-s) 0) (begT p p.as_.length));have hsq:sqR p s r=d2V (atV (Qbc p m p.as_.length) (min (max (r.t-s) 0) (begT p p.as_.length))) r.v:=by unfold sqR;rw [hma,Int.toNat_natCast]
  have hD:=Qul (atV (Qbc p m p.as_.length) (min (max (r.t-s) 0) (begT p p.as_.length))) r.v hat hpt;rw [hsq]at hst;generalize atV (Qbc p m p.as_.length) (min (max (r.t-s) 0) (begT p p.as_.length))=av at*;generalize atE (Qbc p m p.as_.length) (min (max (r.t-s) 0) (begT p p.as_.length))=ae at*;generalize d2V av r.v=qq at*;have hgm:=hgA m hmN;unfold pV at hgm;have hlt:((dvs p s L j).map dvV).length=(dvs p s L j).length:=List.length_map ..;have hok:=Q37 (dvs p s L j);have k1:(((dvs p s L j).length+1)*32≤140737488355328)=True:=eq_true (by omega);have k2:((dvs p s L j).length+1≤maxLen)=True:=eq_true (by unfold maxLen;omega);have n0:=nnE m;have hmN':=ltE hmN
  replace haw:=haw.trans hma
  rw [hma]at hst;repeat simp -implicitDefEqProofs only [go_sem,seval,pvars,List.toList_toArray]
  refine⟨by simp [lkp],?_⟩;repeat (first|simp -implicitDefEqProofs only [go_sem,seval,hk',haN',hal,haw,htw,n0,hgm,hlt,hok,k1,k2,Zct,Zcu,decide_true,decide_false,Int.toNat_natCast]|(with_reducible refine Qaa hA ?_ ?_ ?_);rfl;rfl|(with_reducible refine Qaa hD ?_ ?_ ?_);rfl;rfl|(with_reducible refine And.intro (Qae _ _ (by kernel_rfl)) ?_))
  refine⟨hj,?_⟩;simp only [hst,dvB,List.map_append,List.length_append];refine Qaj (θ:=[(1000001,1000001),(1000002,1000002),(1000003,1000003),(1000004,1000004),(7,1109)]) rfl ?_ ?_
  ·simp [Qac,lkp,ren1,ren0,Qah]
  ·exact⟨⟨rfl,rfl,rfl,rfl,rfl,.inr ⟨rfl,_,_,rfl,rfl,rfl,rfl⟩⟩,⟨rfl,rfl,rfl,rfl,rfl,.inr ⟨rfl,_,_,rfl,rfl,rfl,rfl⟩⟩,⟨rfl,rfl,rfl,rfl,rfl,.inr ⟨rfl,_,_,rfl,rfl,rfl,rfl⟩⟩,⟨rfl,rfl,rfl,rfl,rfl,.inr ⟨rfl,_,_,rfl,rfl,rfl,rfl⟩⟩,⟨rfl,rfl,rfl,rfl,rfl,.inl ⟨rfl,rfl⟩⟩,trivial⟩
 ·simp [Qac,lkp,ren1,ren0,Qah]
 ·have hm:min OO.length (L.length+1)=L.length:=by omega
  rw [hm];exact⟨⟨rfl,rfl,rfl,rfl,rfl,.inr ⟨rfl,_,_,rfl,rfl,rfl,rfl⟩⟩,⟨rfl,rfl,rfl,rfl,rfl,.inl ⟨rfl,rfl⟩⟩,trivial⟩
 ·repeat simp -implicitDefEqProofs only [go_sem,seval]
  refine Qat (.inl rfl) ?_;simp -implicitDefEqProofs only [go_sem,seval];refine Qaj (θ:=[(7,7)]) rfl ?_ ?_
  ·simp [Qac,lkp,ren1,ren0,Qah]
  ·exact⟨⟨rfl,rfl,rfl,rfl,rfl,.inl ⟨rfl,rfl⟩⟩,trivial⟩
def wstE (p:Pg) (s a:Int) (K:List Dv):Int:=if(Qbd p&&wiB s 0 3600000)=true then(if wiB a 0 ((p.ns.length:Int)-1)=true then(if p.as_.length=0 then 9 else if K.length=0 then 9 else 0)else 2)else 2
def wstR (p:Pg) (s a:Int) (K:List Dv):Dv:=if wstE p s a K=0 then(wstK K).2 else dv0
abbrev kpD (p:Pg) (s a:Int) (L:List Rc):List Dv:=Qbk a (dvs p s L L.length)
theorem Zo5 (a:Int) (D:List Dv) (i:Nat) (h:i<(Qbk a D).length):((if(Qbk a D).length=D.length then D else delL a D).map dvV)[i]? =some (.agg [.int .i64 ((Qbk a D).getD i dv0).i,.int .i64 ((Qbk a D).getD i dv0).a,.int .i64 ((Qbk a D).getD i dv0).t,.int .i64 ((Qbk a D).getD i dv0).q]):=by
 have hg:(if(Qbk a D).length=D.length then D else delL a D)[i]? =(Qbk a D)[i]? :=by
  split
  ·rename_i e;have e2:Qbk a D=D:=List.filter_sublist.eq_of_length e;rw [e2]
  ·unfold delL;rw [List.getElem?_append_left h]
 rw [List.getElem?_map,hg,List.getElem?_eq_getElem h,List.getD_eq_getElem?_getD,List.getElem?_eq_getElem h];rfl
theorem Zo6 (a:Int) (D:List Dv):(if(Qbk a D).length=D.length then D else delL a D).length=D.length:=by
 split
 ·rfl
 ·have:=Qk4 a D;unfold delL;rw [List.length_append,List.length_replicate];omega
theorem Zwf (X:List Dv):(List.flatMap PV.cells (X.map dvV)).all flatc=true:=by
 rw [List.all_flatMap,List.all_map,List.all_eq_true];intro _ _;rfl
abbrev wdX (w:Dv):Box:={els:=[.agg [.int .i64 w.i,.int .i64 w.a,.int .i64 w.t,.int .i64 w.q]],esz:=4,ety:=33,fro:=0,live:=true,arr:=false}
set_option maxHeartbeats 8000000 in
set_option maxRecDepth 100000 in
theorem Zo7 (p:Pg) (hf:FewP p) (s a:Int) (L:List Rc) (hl:L.length≤1000) (hL: ∀k,k<L.length→recB (L.getD k rc0)=true):
  Qaf Tryz.prog 11 [pgV p,lgR L,.int .i64 s,.int .i64 a] (.tup [dvV (wstR p s a (kpD p s a L)),.int .i64 (wstE p s a (kpD p s a L))]):=by
 have hG:=Qp0 p hf L s;have hn5:=hf.1;have hw1:IntKind.i64.wrap ((p.ns.length:Int)-1)=(p.ns.length:Int)-1:=Qag (by omega) (by omega);have hW:=Q32 a 0 ((p.ns.length:Int)-1);have hz:dvV dv0= .agg [.int .i64 0,.int .i64 0,.int .i64 0,.int .i64 0]:=rfl;unfold wstR wstE;unfold Qum at hG;cases hg:(Qbd p&&wiB s 0 3600000)with
 |false=>
  rw [hg,if_neg (by decide)]at hG;simp only [Bool.false_eq_true,ite_false,show¬(2:Int)=0 by decide,hz];unfold pgV at hG ⊢;refine Qab (tb:=[]) 67 [.cell 8 33,.tmp 9] [0,1,2,3,4,7,8,9,10,11,12,14,19,24,33,47,53,54,55,56,63] mixed Tryz.func11 rfl (by kernel_rfl) ?_;repeat (first|simp -implicitDefEqProofs only [go_sem,seval,lgR]|(with_reducible refine Qaa hG ?_ ?_ ?_);rfl;rfl)
 |true=>
 rw [hg,if_pos rfl]at hG;obtain⟨v,hs⟩:=Qp2 hg;cases hw:wiB a 0 ((p.ns.length:Int)-1)with
 |false=>
  rw [hw]at hW;simp only [Bool.false_eq_true,ite_true,ite_false,show¬(2:Int)=0 by decide,hz];unfold pgV at hG ⊢;refine Qab (tb:=[]) 67 [.cell 8 33,.tmp 9] [0,1,2,3,4,7,8,9,10,11,12,14,19,24,33,47,53,54,55,56,63] mixed Tryz.func11 rfl (by kernel_rfl) ?_;repeat (first|simp -implicitDefEqProofs only [go_sem,seval,lgR,hw1,Bool.not_false,List.length_map]|(with_reducible refine Qaa hG ?_ ?_ ?_);rfl;rfl|(with_reducible refine Qaa hW ?_ ?_ ?_);rfl;rfl)
 |true=>
 rw [hw]at hW;by_cases h0:p.as_.length=0
 ·have h0':((p.as_.length:Int)==0)=true:=by rw [h0];rfl
  simp only [h0,ite_true,ite_false,show¬(9:Int)=0 by decide,hz];unfold pgV at hG ⊢;refine Qab (tb:=[]) 67 [.cell 8 33,.tmp 9] [0,1,2,3,4,7,8,9,10,11,12,14,19,24,33,47,53,54,55,56,63] mixed Tryz.func11 rfl (by kernel_rfl) ?_;repeat (first|simp -implicitDefEqProofs only [go_sem,seval,lgR,hw1,h0',Bool.not_true,List.length_map]|(with_reducible refine Qaa hG ?_ ?_ ?_);rfl;rfl|(with_reducible refine Qaa hW ?_ ?_ ?_);rfl;rfl)
 have h0':((p.as_.length:Int)==0)=false:=beq_eq_false_iff_ne.2 (by omega);have hD:=Zo4 p hf v h0 s hs L (by omega) hL;have hdl:=Zm5 p s L L.length;unfold kpD;generalize dvs p s L L.length=D at*;have hX:=Zo3 a D (by omega);have hXg:=Zo5 a D;have hXl:=Zo6 a D;have hKl:=Qk4 a D;generalize (if(Qbk a D).length=D.length then D else delL a D)=X at*;generalize Qbk a D=K at*;have bl7:Nat.blt 7 1000000=true:=rfl;have hfl:=Zwf X;simp only [ite_true,if_neg h0];unfold wF at hX;unfold pgV at hG hD ⊢;cases K with
 |nil=>
  simp only [List.length_nil,ite_true,ite_false,show¬(9:Int)=0 by decide,hz];rw [List.length_nil]at hX

  refine Qab (tb:=[(803,[],[(7,7)]),(805,[(1000000,7)],[])]) 67 [.cell 8 33,.tmp 9] [0,1,2,3,4,7,8,9,10,11,12,14,19,24,33,47,53,54,55,56,63] mixed Tryz.func11 rfl (by kernel_rfl) ?_;repeat (first|simp -implicitDefEqProofs only [go_sem,seval,lgR,hw1,h0',bl7,hfl,Bool.not_true,List.length_map]|(with_reducible refine Qaa hG ?_ ?_ ?_);rfl;rfl|(with_reducible refine Qaa hW ?_ ?_ ?_);rfl;rfl|(with_reducible refine Qan hD ?_ ?_ ?_ ?_);rfl;rfl;rfl|(with_reducible refine Qan hX ?_ ?_ ?_ ?_);rfl;rfl;rfl)
  skip
 |cons d K=>
  rw [List.length_cons]at hX hKl;simp only [List.length_cons,show¬K.length+1=0 by omega,ite_true,ite_false,wstK];have k1:(((K.length+1:Nat):Int)==0)=false:=beq_eq_false_iff_ne.2 (by omega);have k2:((0:Nat)<K.length+1)=True:=eq_true (by omega);have k3:((1:Int)≤((K.length+1:Nat):Int))=True:=eq_true (by omega);have k4:((0:Int)<((K.length+1:Nat):Int))=True:=eq_true (by omega);have hx0:=hXg 0 (by simp);simp only [List.getD_cons_zero]at hx0

  refine Qab (tb:=[(803,[],[(7,7)]),(805,[(1000000,7)],[])]) 67 [.cell 8 33,.tmp 9] [0,1,2,3,4,7,8,9,10,11,12,14,19,24,33,47,53,54,55,56,63] mixed Tryz.func11 rfl (by kernel_rfl) ?_;cases hK:K with
  |nil=>
   subst hK;simp only [List.length_nil,Nat.zero_add]at*;repeat (first|simp -implicitDefEqProofs only [go_sem,seval,lgR,hw1,h0',bl7,hfl,k2,hx0,Bool.not_true,List.length_map]|(with_reducible refine Qaa hG ?_ ?_ ?_);rfl;rfl|(with_reducible refine Qaa hW ?_ ?_ ?_);rfl;rfl|(with_reducible refine Qan hD ?_ ?_ ?_ ?_);rfl;rfl;rfl|(with_reducible refine Qan hX ?_ ?_ ?_ ?_);rfl;rfl;rfl)
   refine Qav mixed (fun _:Unit=>St.of [(8,.bp 2 4 0 0),(12,.bp 1103 4 0 0),(54,.int .i64 0),(55,.int .i64 0)] [(2,wdX dv0),(1103,wdX d)]) (fun _=>0) () ?_ ?_
   ·refine Qaj (θ:=[(2,2),(1103,1103)]) rfl ?_ ?_
    ·simp [Qac,lkp,ren1,ren0,Qah]
    ·exact⟨⟨rfl,rfl,rfl,rfl,rfl,.inr ⟨rfl,_,_,rfl,rfl,rfl,rfl⟩⟩,⟨rfl,rfl,rfl,rfl,rfl,.inr ⟨rfl,_,_,rfl,rfl,rfl,rfl⟩⟩,trivial⟩
   ·rintro⟨⟩;repeat simp -implicitDefEqProofs only [go_sem,seval,Qdq,dvV]
  |cons d2 K2=>
   rw [←hK];have kp:(1<K.length+1)=True:=eq_true (by rw [hK];simp);clear hK;repeat (first|simp -implicitDefEqProofs only [go_sem,seval,lgR,hw1,h0',bl7,hfl,k1,k3,k4,kp,hx0,Nat.add_sub_cancel,Bool.not_true,List.length_map]|(with_reducible refine Qaa hG ?_ ?_ ?_);rfl;rfl|(with_reducible refine Qaa hW ?_ ?_ ?_);rfl;rfl|(with_reducible refine Qan hD ?_ ?_ ?_ ?_);rfl;rfl;rfl|(with_reducible refine Qan hX ?_ ?_ ?_ ?_);rfl;rfl;rfl)
   refine Qav mixed (fun i:{i:Nat // i≤K.length}=>St.of [(8,.bp 2 4 0 0),(12,.bp 1103 4 0 0),(53,.bs 7 4 1 K.length),(54,.int .i64 (K.length:Int)),(55,.int .i64 (i.1:Int))] [(2,wdX dv0),(1103,wdX (Qdq d (K.take i.1))),(7,dvB X)]) (fun i=>K.length-i.1) ⟨0,Nat.zero_le _⟩ ?_ ?_
   ·refine Qaj (θ:=[(2,2),(1103,1103),(7,7)]) rfl ?_ ?_
    ·simp [Qac,lkp,ren1,ren0,Qah]
    ·exact⟨⟨rfl,rfl,rfl,rfl,rfl,.inr ⟨rfl,_,_,rfl,rfl,rfl,rfl⟩⟩,⟨rfl,rfl,rfl,rfl,rfl,.inr ⟨rfl,_,_,rfl,rfl,rfl,rfl⟩⟩,⟨rfl,rfl,rfl,rfl,rfl,.inl ⟨rfl,rfl⟩⟩,trivial⟩
   ·rintro⟨i,hi⟩;simp only;by_cases hA:i<K.length
    ·have hA':=ltE hA;have n0:=nnE i;have hwi:=wrE (n:=i) (by omega);have hgx:=hXg (i+1) (by simpa using hA);simp only [List.getD_cons_succ]at hgx;rw [Nat.add_comm i 1]at hgx;have hst:Qdq d (K.take (i+1))=if(Qdq d (K.take i)).q<(K.getD i dv0).q then K.getD i dv0 else Qdq d (K.take i):=by
      rw [List.take_add_one,List.getElem?_eq_getElem hA];simp only [Option.toList_some];rw [Qht,List.getD_eq_getElem?_getD,List.getElem?_eq_getElem hA];rfl
     generalize Qdq d (K.take i)=u at*;generalize K.getD i dv0=w at*;by_cases hq:u.q<w.q
     ·have hq':=eq_true hq;rw [if_pos hq]at hst;repeat simp -implicitDefEqProofs only [go_sem,seval,hA',n0,hwi,hgx,hq',decide_true,Int.toNat_natCast]
      refine⟨⟨i+1,hA⟩,by simp only;omega,?_⟩;simp only [hst];refine Qaj (θ:=[(2,2),(1103,1103),(7,7)]) rfl ?_ ?_
      ·simp [Qac,lkp,ren1,ren0,Qah]
      ·exact⟨⟨rfl,rfl,rfl,rfl,rfl,.inr ⟨rfl,_,_,rfl,rfl,rfl,rfl⟩⟩,⟨rfl,rfl,rfl,rfl,rfl,.inr ⟨rfl,_,_,rfl,rfl,rfl,rfl⟩⟩,⟨rfl,rfl,rfl,rfl,rfl,.inl ⟨rfl,rfl⟩⟩,trivial⟩
     ·have hq':=eq_false hq;rw [if_neg hq]at hst;repeat simp -implicitDefEqProofs only [go_sem,seval,hA',n0,hwi,hgx,hq',decide_false,Int.toNat_natCast]
      refine⟨⟨i+1,hA⟩,by simp only;omega,?_⟩;simp only [hst];refine Qaj (θ:=[(2,2),(1103,1103),(7,7)]) rfl ?_ ?_
      ·simp [Qac,lkp,ren1,ren0,Qah]
      ·exact⟨⟨rfl,rfl,rfl,rfl,rfl,.inr ⟨rfl,_,_,rfl,rfl,rfl,rfl⟩⟩,⟨rfl,rfl,rfl,rfl,rfl,.inr ⟨rfl,_,_,rfl,rfl,rfl,rfl⟩⟩,⟨rfl,rfl,rfl,rfl,rfl,.inl ⟨rfl,rfl⟩⟩,trivial⟩
    ·have hA':=ltE' hA;obtain rfl:i=K.length:=by omega
     have htk:K.take K.length=K:=List.take_length;repeat simp -implicitDefEqProofs only [go_sem,seval,hA',htk,dvV]
set_option maxHeartbeats 8000000 in
set_option maxRecDepth 100000 in
theorem Zo8 (p:Pg) (l:List Ax) (hm:l.length≤maxLen) (s a:Int):Qaf Tryz.prog 3 [pgV p,.slc (l.map axV),.int .i64 s,.int .i64 a] (.bool true):=by
 have hk:=Zdi;have hF:=Zvy p;have bl7:Nat.blt 7 1000000=true:=rfl;have bl8:Nat.blt 8 1000000=true:=rfl;have bl10:Nat.blt 10 1000000=true:=rfl;cases hq:decide (FewQ p)with
 |false=>
  rw [hq]at hF;unfold pgV at hF ⊢;refine Qab (tb:=[]) 136 [.tmp 8] [0,1,2,3,4,8,9,10,11,12,13,14,15,16,24,29,53,67,86,109,115] mixed Tryz.func3 rfl (by kernel_rfl) ?_;repeat (first|simp -implicitDefEqProofs only [go_sem,seval,Bool.not_false]|(with_reducible refine Qaa hF ?_ ?_ ?_);rfl;rfl|(with_reducible refine Qaa hk ?_ ?_ ?_);rfl;rfl)
 |true=>
 rw [hq]at hF;by_cases h20:l.length≤20
 case neg=>
  have h20':=eq_true (show(20:Int)<(l.length:Int)by omega);unfold pgV at hF ⊢;refine Qab (tb:=[]) 136 [.tmp 8] [0,1,2,3,4,8,9,10,11,12,13,14,15,16,24,29,53,67,86,109,115] mixed Tryz.func3 rfl (by kernel_rfl) ?_;repeat (first|simp -implicitDefEqProofs only [go_sem,seval,Bool.not_true,h20',decide_true,List.length_map]|(with_reducible refine Qaa hF ?_ ?_ ?_);rfl;rfl|(with_reducible refine Qaa hk ?_ ?_ ?_);rfl;rfl)
 have h20':=eq_false (show¬(20:Int)<(l.length:Int)by omega);have hf:=Z0n hq;have hw:=Zoz p hf s;have hlg:=Zwu l (by omega);have hL:=Q4d l l.length;have hll:=Qp5 l l.length;generalize logS l l.length=L at*;have hlt:(L.map rcV).length=L.length:=List.length_map ..;have htk:(L.map rcV).take L.length=L.map rcV:=List.take_of_length_le (by omega);have hW:=Zo7 p hf s a L (by omega) hL;unfold lgR at hW;unfold Q4c at hw;unfold wstR wstE at hW;cases hg:(Qbd p&&wiB s 0 3600000)with
 |false=>
  rw [hg]at hw hW;simp only [Bool.false_eq_true,ite_false,show¬(2:Int)=0 by decide,dvV,dv0]at hw hW;unfold pgV at*;unfold lgB rcB at hlg;generalize L.map rcV=T at*;generalize L.length=n at*

  refine Qab (tb:=[(301,[],[(7,7),(8,8)])]) 136 [.tmp 8] [0,1,2,3,4,8,9,10,11,12,13,14,15,16,24,29,53,67,86,109,115] mixed Tryz.func3 rfl (by kernel_rfl) ?_;repeat (first|simp -implicitDefEqProofs only [go_sem,seval,Bool.not_true,h20',bl7,bl8,htk,hlt,Nat.le_refl,decide_true,decide_false,Qar,beq_self_eq_true,Bool.and_self,List.length_map]|(with_reducible refine Qaa hF ?_ ?_ ?_);rfl;rfl|(with_reducible refine Qan hlg ?_ ?_ ?_ ?_);rfl;rfl;rfl|(with_reducible refine Qaa hW ?_ ?_ ?_);rfl;rfl|(with_reducible refine Qaa hw ?_ ?_ ?_);rfl;rfl|(with_reducible refine Qaa hk ?_ ?_ ?_);rfl;rfl)
 |true=>
 rw [hg]at hw hW;simp only [ite_true]at hw hW;obtain⟨v,hs⟩:=Qp2 hg;by_cases ha0:0≤a
 case neg=>
  have hw0:wiB a 0 ((p.ns.length:Int)-1)=false:=by unfold wiB;rw [decide_eq_false ha0,Bool.false_and]
  have ha0':=eq_true (show a<0 by omega);rw [hw0]at hW;simp only [Bool.false_eq_true,ite_false,show¬(2:Int)=0 by decide,dvV,dv0]at hW;unfold pgV at*;unfold lgB rcB at hlg;generalize L.map rcV=T at*;generalize L.length=n at*

  refine Qab (tb:=[(301,[],[(7,7),(8,8)])]) 136 [.tmp 8] [0,1,2,3,4,8,9,10,11,12,13,14,15,16,24,29,53,67,86,109,115] mixed Tryz.func3 rfl (by kernel_rfl) ?_;repeat (first|simp -implicitDefEqProofs only [go_sem,seval,Bool.not_true,h20',ha0',bl7,bl8,htk,hlt,Nat.le_refl,decide_true,decide_false,Qar,bne_self_eq_false,beq_self_eq_true,Bool.and_self,List.length_map]|(with_reducible refine Qaa hF ?_ ?_ ?_);rfl;rfl|(with_reducible refine Qan hlg ?_ ?_ ?_ ?_);rfl;rfl;rfl|(with_reducible refine Qaa hW ?_ ?_ ?_);rfl;rfl|(with_reducible refine Qaa hw ?_ ?_ ?_);rfl;rfl|(with_reducible refine Qaa hk ?_ ?_ ?_);rfl;rfl)
 have ha0':=eq_false (show¬a<0 by omega);by_cases ha1:a<(p.ns.length:Int)
 case neg=>
  have hw0:wiB a 0 ((p.ns.length:Int)-1)=false:=by unfold wiB;rw [decide_eq_false (show¬a≤(p.ns.length:Int)-1 by omega),Bool.and_false]
  have ha1':=eq_true (show(p.ns.length:Int)≤a by omega);rw [hw0]at hW;simp only [Bool.false_eq_true,ite_false,show¬(2:Int)=0 by decide,dvV,dv0]at hW;unfold pgV at*;unfold lgB rcB at hlg;generalize L.map rcV=T at*;generalize L.length=n at*

  refine Qab (tb:=[(301,[],[(7,7),(8,8)])]) 136 [.tmp 8] [0,1,2,3,4,8,9,10,11,12,13,14,15,16,24,29,53,67,86,109,115] mixed Tryz.func3 rfl (by kernel_rfl) ?_;repeat (first|simp -implicitDefEqProofs only [go_sem,seval,Bool.not_true,h20',ha0',ha1',bl7,bl8,htk,hlt,Nat.le_refl,decide_true,decide_false,Qar,bne_self_eq_false,beq_self_eq_true,Bool.and_self,List.length_map]|(with_reducible refine Qaa hF ?_ ?_ ?_);rfl;rfl|(with_reducible refine Qan hlg ?_ ?_ ?_ ?_);rfl;rfl;rfl|(with_reducible refine Qaa hW ?_ ?_ ?_);rfl;rfl|(with_reducible refine Qaa hw ?_ ?_ ?_);rfl;rfl|(with_reducible refine Qaa hk ?_ ?_ ?_);rfl;rfl)
 have ha1':=eq_false (show¬(p.ns.length:Int)≤a by omega);have hw0:wiB a 0 ((p.ns.length:Int)-1)=true:=Qdd.2 ⟨ha0,by omega⟩;rw [hw0]at hW;simp only [ite_true]at hW;by_cases h0:p.as_.length=0
 ·have h0':((p.as_.length:Int)==0)=true:=by rw [h0];rfl
  rw [if_pos h0]at hW;simp only [show¬(9:Int)=0 by decide,ite_false,dvV,dv0]at hW;unfold pgV at*;unfold lgB rcB at hlg;generalize L.map rcV=T at*;generalize L.length=n at*

  refine Qab (tb:=[(301,[],[(7,7),(8,8)])]) 136 [.tmp 8] [0,1,2,3,4,8,9,10,11,12,13,14,15,16,24,29,53,67,86,109,115] mixed Tryz.func3 rfl (by kernel_rfl) ?_;repeat (first|simp -implicitDefEqProofs only [go_sem,seval,Bool.not_true,h20',ha0',ha1',h0',bl7,bl8,htk,hlt,Nat.le_refl,decide_true,decide_false,Qar,bne_self_eq_false,beq_self_eq_true,Bool.and_self,List.length_map]|(with_reducible refine Qaa hF ?_ ?_ ?_);rfl;rfl|(with_reducible refine Qan hlg ?_ ?_ ?_ ?_);rfl;rfl;rfl|(with_reducible refine Qaa hW ?_ ?_ ?_);rfl;rfl|(with_reducible refine Qaa hw ?_ ?_ ?_);rfl;rfl|(with_reducible refine Qaa hk ?_ ?_ ?_);rfl;rfl)
 have h0':((p.as_.length:Int)==0)=false:=beq_eq_false_iff_ne.2 (by omega);rw [if_neg h0]at hW;have hR:=Q4q L (by omega);have hE:=Zv8 p hf v h0 s hs L (by omega) hL;have hdl:=Zm5 p s L L.length;unfold kpD at hW;generalize dvs p s L L.length=D at*;have hwe:=Zmu a D D.length (Nat.le_refl _);rw [List.take_length]at hwe;generalize Qbk a D=K at*;obtain⟨er,her⟩: ∃er:Int,er=if K.length=0 then 9 else 0:=⟨_,rfl⟩;obtain⟨re,hre⟩: ∃re:Dv,re=if(if K.length=0 then(9:Int)else 0)=0 then(wstK K).2 else dv0:=⟨_,rfl⟩;rw [←hre,←her]at hW;have hz0:K=[]→re=dv0∧er=9:=by rintro rfl;exact⟨hre,her⟩
 have hz1: ∀d K',K=d::K'→re=(wstK (d::K')).2∧er=0:=by rintro d K' rfl;exact⟨hre,her⟩
 clear hre her;unfold lgR at hR;unfold dvV at hW;unfold rcB at hR;unfold pgV at*;unfold lgB rcB at hlg;generalize L.map rcV=T at*;generalize L.length=n at*;cases hfl:(List.flatMap PV.cells T).all flatc with
 |false=>

  refine Qab (tb:=[(301,[],[(7,7),(8,8)]),(1202,[],[(7,10)])]) 136 [.tmp 8] [0,1,2,3,4,8,9,10,11,12,13,14,15,16,24,29,53,67,86,109,115] mixed Tryz.func3 rfl (by kernel_rfl) ?_;repeat (first|simp -implicitDefEqProofs only [go_sem,seval,Bool.not_true,h20',ha0',ha1',h0',bl7,bl8,bl10,hfl,htk,hlt,Nat.le_refl,decide_true,decide_false,bne_self_eq_false,beq_self_eq_true,Bool.and_self,List.length_map]|(with_reducible refine Qaa hF ?_ ?_ ?_);rfl;rfl|(with_reducible refine Qan hlg ?_ ?_ ?_ ?_);rfl;rfl;rfl|(with_reducible refine Qaa hW ?_ ?_ ?_);rfl;rfl|(with_reducible refine Qaa hw ?_ ?_ ?_);rfl;rfl|(with_reducible refine Qan hR ?_ ?_ ?_ ?_);rfl;rfl;rfl|(with_reducible refine Qaa hE ?_ ?_ ?_);rfl;rfl|(with_reducible refine And.intro (Qae _ _ (by kernel_rfl)) ?_))
  refine Qav mixed (fun k:{k:Nat // k≤D.length}=>St.of [(10,.bp 608 4 0 0),(11,.int .i64 er),(3,.int .i64 a),(13,.slc (D.map dvV)),(14,.bool (wstA a D k.1).1),(15,.bp 1400 4 0 0),(16,.int .i64 (k.1:Int))] [(608,wdX re),(1400,wdX (wstA a D k.1).2)]) (fun k=>D.length-k.1) ⟨0,Nat.zero_le _⟩ ?_ ?_
  ·refine Qaj (θ:=[(608,608),(1400,1400)]) rfl ?_ ?_
   ·simp [Qac,lkp,ren1,ren0,Qah,wstA]
   ·exact⟨⟨rfl,rfl,rfl,rfl,rfl,.inr ⟨rfl,_,_,rfl,rfl,rfl,rfl⟩⟩,⟨rfl,rfl,rfl,rfl,rfl,.inr ⟨rfl,_,_,rfl,rfl,rfl,rfl⟩⟩,trivial⟩
  ·rintro⟨k,hk2⟩;simp only;by_cases hA:k<D.length
   ·have hA':=ltE hA;have n0:=nnE k;have hgt:=Qon D k hA;have hwk:=wrE (n:=k) (by omega);have hst:wstA a D (k+1)=if(decide ((D.getD k dv0).a=a)&&(!(wstA a D k).1||decide ((wstA a D k).2.q<(D.getD k dv0).q)))=true then(true,D.getD k dv0)else wstA a D k:=rfl;generalize D.getD k dv0=w at*;generalize wstA a D k=x at*;obtain⟨xb,xd⟩:=x;simp only at hst;cases hwa:(w.a==a)with
    |false=>
     rw [bq,hwa,Bool.false_and,if_neg (by decide)]at hst;repeat (first|simp -implicitDefEqProofs only [go_sem,seval,hA',n0,hgt,hwk,hwa,Int.toNat_natCast,List.length_map]|(with_reducible refine And.intro (Qae _ _ (by kernel_rfl)) ?_))
     refine⟨⟨k+1,hA⟩,by simp only;omega,?_⟩;simp only [hst];refine Qaj (θ:=[(608,608),(1400,1400)]) rfl ?_ ?_
     ·simp [Qac,lkp,ren1,ren0,Qah]
     ·exact⟨⟨rfl,rfl,rfl,rfl,rfl,.inr ⟨rfl,_,_,rfl,rfl,rfl,rfl⟩⟩,⟨rfl,rfl,rfl,rfl,rfl,.inr ⟨rfl,_,_,rfl,rfl,rfl,rfl⟩⟩,trivial⟩
    |true=>
    rw [bq,hwa,Bool.true_and]at hst;cases xb with
    |false=>
     rw [Bool.not_false,Bool.true_or,if_pos rfl]at hst;repeat (first|simp -implicitDefEqProofs only [go_sem,seval,hA',n0,hgt,hwk,hwa,Bool.not_false,Bool.true_and,Int.toNat_natCast,List.length_map]|(with_reducible refine And.intro (Qae _ _ (by kernel_rfl)) ?_))
     refine⟨⟨k+1,hA⟩,by simp only;omega,?_⟩;simp only [hst];refine Qaj (θ:=[(608,608),(1400,1400)]) rfl ?_ ?_
     ·simp [Qac,lkp,ren1,ren0,Qah]
     ·exact⟨⟨rfl,rfl,rfl,rfl,rfl,.inr ⟨rfl,_,_,rfl,rfl,rfl,rfl⟩⟩,⟨rfl,rfl,rfl,rfl,rfl,.inr ⟨rfl,_,_,rfl,rfl,rfl,rfl⟩⟩,trivial⟩
    |true=>
    rw [Bool.not_true,Bool.false_or]at hst;by_cases hq:xd.q<w.q
    ·have hq':=eq_true hq;rw [if_pos (decide_eq_true hq)]at hst;repeat (first|simp -implicitDefEqProofs only [go_sem,seval,hA',n0,hgt,hwk,hwa,hq',decide_true,Bool.not_true,Bool.true_and,Int.toNat_natCast,List.length_map]|(with_reducible refine And.intro (Qae _ _ (by kernel_rfl)) ?_))
     refine⟨⟨k+1,hA⟩,by simp only;omega,?_⟩;simp only [hst];refine Qaj (θ:=[(608,608),(1400,1400)]) rfl ?_ ?_
     ·simp [Qac,lkp,ren1,ren0,Qah]
     ·exact⟨⟨rfl,rfl,rfl,rfl,rfl,.inr ⟨rfl,_,_,rfl,rfl,rfl,rfl⟩⟩,⟨rfl,rfl,rfl,rfl,rfl,.inr ⟨rfl,_,_,rfl,rfl,rfl,rfl⟩⟩,trivial⟩
    ·have hq':=eq_false hq;rw [if_neg (by simpa using hq)]at hst;repeat (first|simp -implicitDefEqProofs only [go_sem,seval,hA',n0,hgt,hwk,hwa,hq',decide_false,Bool.not_true,Bool.true_and,Int.toNat_natCast,List.length_map]|(with_reducible refine And.intro (Qae _ _ (by kernel_rfl)) ?_))
     refine⟨⟨k+1,hA⟩,by simp only;omega,?_⟩;simp only [hst];refine Qaj (θ:=[(608,608),(1400,1400)]) rfl ?_ ?_
     ·simp [Qac,lkp,ren1,ren0,Qah]
     ·exact⟨⟨rfl,rfl,rfl,rfl,rfl,.inr ⟨rfl,_,_,rfl,rfl,rfl,rfl⟩⟩,⟨rfl,rfl,rfl,rfl,rfl,.inr ⟨rfl,_,_,rfl,rfl,rfl,rfl⟩⟩,trivial⟩
   ·have hA':=ltE' hA;obtain rfl:k=D.length:=by omega
    rw [hwe];cases K with
    |nil=>
     obtain⟨z1,z2⟩:=hz0 rfl;repeat (first|simp -implicitDefEqProofs only [go_sem,seval,hA',z1,z2,wstK,dv0,Qar,beq_self_eq_true,Bool.true_and,Bool.not_false,List.length_map]|(with_reducible refine Qaa hk ?_ ?_ ?_);rfl;rfl)
    |cons d K=>
     obtain⟨z1,z2⟩:=hz1 d K rfl;simp only [wstK]at z1 ⊢;generalize Qdq d K=u at*;subst z1;repeat (first|simp -implicitDefEqProofs only [go_sem,seval,hA',z2,Qar,beq_self_eq_true,Bool.true_and,Bool.not_true,List.length_map]|(with_reducible refine Qaa hk ?_ ?_ ?_);rfl;rfl)
 |true=>

  refine Qab (tb:=[(301,[],[(7,7),(8,8)]),(1202,[],[(7,10)])]) 136 [.tmp 8] [0,1,2,3,4,8,9,10,11,12,13,14,15,16,24,29,53,67,86,109,115] mixed Tryz.func3 rfl (by kernel_rfl) ?_;repeat (first|simp -implicitDefEqProofs only [go_sem,seval,Bool.not_true,h20',ha0',ha1',h0',bl7,bl8,bl10,hfl,htk,hlt,Nat.le_refl,decide_true,decide_false,bne_self_eq_false,beq_self_eq_true,Bool.and_self,List.length_map]|(with_reducible refine Qaa hF ?_ ?_ ?_);rfl;rfl|(with_reducible refine Qan hlg ?_ ?_ ?_ ?_);rfl;rfl;rfl|(with_reducible refine Qaa hW ?_ ?_ ?_);rfl;rfl|(with_reducible refine Qaa hw ?_ ?_ ?_);rfl;rfl|(with_reducible refine Qan hR ?_ ?_ ?_ ?_);rfl;rfl;rfl|(with_reducible refine Qaa hE ?_ ?_ ?_);rfl;rfl|(with_reducible refine And.intro (Qae _ _ (by kernel_rfl)) ?_))
  refine Qav mixed (fun k:{k:Nat // k≤D.length}=>St.of [(10,.bp 608 4 0 0),(11,.int .i64 er),(3,.int .i64 a),(13,.slc (D.map dvV)),(14,.bool (wstA a D k.1).1),(15,.bp 1400 4 0 0),(16,.int .i64 (k.1:Int))] [(608,wdX re),(1400,wdX (wstA a D k.1).2)]) (fun k=>D.length-k.1) ⟨0,Nat.zero_le _⟩ ?_ ?_
  ·refine Qaj (θ:=[(608,608),(1400,1400)]) rfl ?_ ?_
   ·simp [Qac,lkp,ren1,ren0,Qah,wstA]
   ·exact⟨⟨rfl,rfl,rfl,rfl,rfl,.inr ⟨rfl,_,_,rfl,rfl,rfl,rfl⟩⟩,⟨rfl,rfl,rfl,rfl,rfl,.inr ⟨rfl,_,_,rfl,rfl,rfl,rfl⟩⟩,trivial⟩
  ·rintro⟨k,hk2⟩;simp only;by_cases hA:k<D.length
   ·have hA':=ltE hA;have n0:=nnE k;have hgt:=Qon D k hA;have hwk:=wrE (n:=k) (by omega);have hst:wstA a D (k+1)=if(decide ((D.getD k dv0).a=a)&&(!(wstA a D k).1||decide ((wstA a D k).2.q<(D.getD k dv0).q)))=true then(true,D.getD k dv0)else wstA a D k:=rfl;generalize D.getD k dv0=w at*;generalize wstA a D k=x at*;obtain⟨xb,xd⟩:=x;simp only at hst;cases hwa:(w.a==a)with
    |false=>
     rw [bq,hwa,Bool.false_and,if_neg (by decide)]at hst;repeat (first|simp -implicitDefEqProofs only [go_sem,seval,hA',n0,hgt,hwk,hwa,Int.toNat_natCast,List.length_map]|(with_reducible refine And.intro (Qae _ _ (by kernel_rfl)) ?_))
     refine⟨⟨k+1,hA⟩,by simp only;omega,?_⟩;simp only [hst];refine Qaj (θ:=[(608,608),(1400,1400)]) rfl ?_ ?_
     ·simp [Qac,lkp,ren1,ren0,Qah]
     ·exact⟨⟨rfl,rfl,rfl,rfl,rfl,.inr ⟨rfl,_,_,rfl,rfl,rfl,rfl⟩⟩,⟨rfl,rfl,rfl,rfl,rfl,.inr ⟨rfl,_,_,rfl,rfl,rfl,rfl⟩⟩,trivial⟩
    |true=>
    rw [bq,hwa,Bool.true_and]at hst;cases xb with
    |false=>
     rw [Bool.not_false,Bool.true_or,if_pos rfl]at hst;repeat (first|simp -implicitDefEqProofs only [go_sem,seval,hA',n0,hgt,hwk,hwa,Bool.not_false,Bool.true_and,Int.toNat_natCast,List.length_map]|(with_reducible refine And.intro (Qae _ _ (by kernel_rfl)) ?_))
     refine⟨⟨k+1,hA⟩,by simp only;omega,?_⟩;simp only [hst];refine Qaj (θ:=[(608,608),(1400,1400)]) rfl ?_ ?_
     ·simp [Qac,lkp,ren1,ren0,Qah]
     ·exact⟨⟨rfl,rfl,rfl,rfl,rfl,.inr ⟨rfl,_,_,rfl,rfl,rfl,rfl⟩⟩,⟨rfl,rfl,rfl,rfl,rfl,.inr ⟨rfl,_,_,rfl,rfl,rfl,rfl⟩⟩,trivial⟩
    |true=>
    rw [Bool.not_true,Bool.false_or]at hst;by_cases hq:xd.q<w.q
    ·have hq':=eq_true hq;rw [if_pos (decide_eq_true hq)]at hst;repeat (first|simp -implicitDefEqProofs only [go_sem,seval,hA',n0,hgt,hwk,hwa,hq',decide_true,Bool.not_true,Bool.true_and,Int.toNat_natCast,List.length_map]|(with_reducible refine And.intro (Qae _ _ (by kernel_rfl)) ?_))
     refine⟨⟨k+1,hA⟩,by simp only;omega,?_⟩;simp only [hst];refine Qaj (θ:=[(608,608),(1400,1400)]) rfl ?_ ?_
     ·simp [Qac,lkp,ren1,ren0,Qah]
     ·exact⟨⟨rfl,rfl,rfl,rfl,rfl,.inr ⟨rfl,_,_,rfl,rfl,rfl,rfl⟩⟩,⟨rfl,rfl,rfl,rfl,rfl,.inr ⟨rfl,_,_,rfl,rfl,rfl,rfl⟩⟩,trivial⟩
    ·have hq':=eq_false hq;rw [if_neg (by simpa using hq)]at hst;repeat (first|simp -implicitDefEqProofs only [go_sem,seval,hA',n0,hgt,hwk,hwa,hq',decide_false,Bool.not_true,Bool.true_and,Int.toNat_natCast,List.length_map]|(with_reducible refine And.intro (Qae _ _ (by kernel_rfl)) ?_))
     refine⟨⟨k+1,hA⟩,by simp only;omega,?_⟩;simp only [hst];refine Qaj (θ:=[(608,608),(1400,1400)]) rfl ?_ ?_
     ·simp [Qac,lkp,ren1,ren0,Qah]
     ·exact⟨⟨rfl,rfl,rfl,rfl,rfl,.inr ⟨rfl,_,_,rfl,rfl,rfl,rfl⟩⟩,⟨rfl,rfl,rfl,rfl,rfl,.inr ⟨rfl,_,_,rfl,rfl,rfl,rfl⟩⟩,trivial⟩
   ·have hA':=ltE' hA;obtain rfl:k=D.length:=by omega
    rw [hwe];cases K with
    |nil=>
     obtain⟨z1,z2⟩:=hz0 rfl;repeat (first|simp -implicitDefEqProofs only [go_sem,seval,hA',z1,z2,wstK,dv0,Qar,beq_self_eq_true,Bool.true_and,Bool.not_false,List.length_map]|(with_reducible refine Qaa hk ?_ ?_ ?_);rfl;rfl)
    |cons d K=>
     obtain⟨z1,z2⟩:=hz1 d K rfl;simp only [wstK]at z1 ⊢;generalize Qdq d K=u at*;subst z1;repeat (first|simp -implicitDefEqProofs only [go_sem,seval,hA',z2,Qar,beq_self_eq_true,Bool.true_and,Bool.not_true,List.length_map]|(with_reducible refine Qaa hk ?_ ?_ ?_);rfl;rfl)
end Go.Proofs.YtnohfmdlaajpbaaGreat
