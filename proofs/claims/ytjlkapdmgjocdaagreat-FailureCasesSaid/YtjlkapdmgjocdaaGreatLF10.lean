/-
  LF7, LF8, LF9, LF10 (merged for the claim).
-/
import Derived.Test.YtjlkapdmgjocdaaGreatLF6
set_option linter.unusedSimpArgs false
set_option linter.unusedVariables false
namespace Go.Proofs.YtjlkapdmgjocdaaGreat
open Go.Vl Go.RowKit Go.Dg
theorem Q1x (l:List V3):((l.map v3PV).all fun e=>e.cells.length==3&&e.cells.all PV.okCell)=true:=by
 rw [List.all_map,List.all_eq_true];intro _ _;rfl
theorem Qxh (l:List V3):(((l.map v3PV).flatMap PV.cells).all PV.okCell)=true:=by
 rw [List.all_flatMap,List.all_map,List.all_eq_true];intro _ _;rfl
theorem Qtv (l:List V3) (hl:l≠ []) (hl2:l.length≤100000):Qan Tryz.prog 48 [psV l] (psV l):=by
 have h0:(l.map v3PV).isEmpty=false:=by cases l with|nil=>exact absurd rfl hl|cons=>rfl
 have h1:(l.length*24≤140737488355328)=True:=eq_true (by omega)
 have h2:(l.length≤maxLen)=True:=eq_true (by unfold maxLen;omega)
 have h3:(l.map v3PV).take l.length=l.map v3PV:=List.take_of_length_le (by simp)
 have h4:=Qxh l
 have h5:=Q1x l
 unfold psV
 refine Qac (tb:=[]) 8 [.tmp 2] [0,2,4] mixed Tryz.func48 rfl (by kernel_rfl) (by kernel_rfl) (by kernel_rfl) (by kernel_rfl) ?_
 repeat (first|(simp -implicitDefEqProofs only [go_sem,Nat.reduceAdd,Nat.reduceMul,Nat.reduceEqDiff,Nat.reduceLT,Nat.reduceLeDiff,reduceIte,reduceCtorEq,h0,List.length_map,h1,h2,h3,h4,h5]))
theorem Qgi {p:Pg} {i:Nat} (h:i<p.as_.length):(p.as_.map acV)[i]? =some (.agg [.str (p.as_.getD i ac0).nm,.int .i64 (p.as_.getD i ac0).ln,.slc ((p.as_.getD i ac0).mv.map mvV)]):=by
 rw [List.getElem?_map,List.getElem?_eq_getElem h,List.getD_eq_getElem?_getD,List.getElem?_eq_getElem h];rfl
theorem Qxi {l:List Mv} {i:Nat} (h:i<l.length):(l.map mvV)[i]? =some (.agg [.int .i64 (l.getD i mv0).to.x,.int .i64 (l.getD i mv0).to.y,.int .i64 (l.getD i mv0).to.z,.int .i64 (l.getD i mv0).w,.int .i64 (l.getD i mv0).f,.int .i64 (l.getD i mv0).r]):=by
 rw [List.getElem?_map,List.getElem?_eq_getElem h,List.getD_eq_getElem?_getD,List.getElem?_eq_getElem h];rfl
theorem Qx7 {l:List Mv} {i:Nat} (h:i<l.length):((l.take (i+1)).map Mv.to).map v3PV=((l.take i).map Mv.to).map v3PV++[.agg [.int .i64 (l.getD i mv0).to.x,.int .i64 (l.getD i mv0).to.y,.int .i64 (l.getD i mv0).to.z]]:=by
 rw [Qeq _ _ h,List.map_append,List.map_append,List.getD_eq_getElem?_getD,List.getElem?_eq_getElem h];rfl
set_option maxRecDepth 100000 in
set_option maxHeartbeats 2000000 in
theorem Q1y (p:Pg) (k:Nat) (hk:k≤p.as_.length) (h0:p.hs≠ []) (hh:p.hs.length≤100000) (hm: ∀i,(p.as_.getD i ac0).mv.length≤100000) (hl:p.as_.length≤100000):Qan Tryz.prog 41 [pgV p,.int .i64 (k:Int)] (psV (Qeg p k)):=by
 have hc:=Qtv p.hs h0 hh
 unfold psV at hc
 cases k with
 |zero=>
  have e:Qeg p 0=p.hs:=rfl
  have e0:(((0:Nat):Int)==0)=true:=rfl
  rw [e]
  unfold psV pgV
  refine Qac (tb:=[]) 32 [.tmp 4] [0,1,2,4,5,7,9,19,20,21,22] mixed Tryz.func41 rfl (by kernel_rfl) (by kernel_rfl) (by kernel_rfl) (by kernel_rfl) ?_
  repeat (first|(simp -implicitDefEqProofs only [go_sem,Nat.reduceAdd,Nat.reduceMul,Nat.reduceEqDiff,Nat.reduceLT,Nat.reduceLeDiff,reduceCtorEq,e0])|((with_reducible refine Qab (hc) ?_ ?_ ?_);(with_reducible rfl);rfl))
 |succ k=>
  have e:Qeg p (k+1)=(p.as_.getD k ac0).mv.map Mv.to:=rfl
  have e0:(((k+1:Nat):Int)==0)=false:=by simp;omega
  have wk:IntKind.i64.wrap (((k+1:Nat):Int)-1)=(k:Int):=by rw [Qam (by omega) (by omega)];omega
  have n0:=nn_T k
  have ga:=Qgi (p:=p) (i:=k) (by omega)
  have hml:=hm k
  rw [e]
  generalize p.as_.getD k ac0=a at*
  unfold psV pgV
  refine Qac (tb:=[]) 32 [.tmp 4] [0,1,2,4,5,7,9,19,20,21,22] mixed Tryz.func41 rfl (by kernel_rfl) (by kernel_rfl) (by kernel_rfl) (by kernel_rfl) ?_
  repeat (first|(simp -implicitDefEqProofs only [go_sem,Nat.reduceAdd,Nat.reduceMul,Nat.reduceEqDiff,Nat.reduceLT,Nat.reduceLeDiff,reduceCtorEq,e0,wk,n0,ga,Int.toNat_natCast,List.length_map]))
  refine Qb5 mixed (fun i:{i:Nat // i≤a.mv.length}=>St.of [(5,.bs 7 3 0 i.1),(19,.slc (a.mv.map mvV)),(20,.int .i64 (a.mv.length:Int)),(21,.int .i64 (i.1:Int))]
   [(7,{els:=((a.mv.take i.1).map Mv.to).map v3PV,esz:=3,ety:=54,fro:=0,live:=true,arr:=true})]) (fun i=>a.mv.length-i.1) ⟨0,Nat.zero_le _⟩ ?_ ?_
  ·refine Q1g 5 7 3 54 rfl rfl rfl (by decide) [(7,7)] rfl ?_ ?_
   ·simp [Qad,lkp,ren1,ren0,Qae]
   ·exact⟨⟨rfl,rfl,rfl,rfl,rfl,.inl ⟨rfl,rfl⟩⟩,trivial⟩
  ·rintro⟨i,hi⟩
   simp only
   by_cases hA:i<a.mv.length
   ·have hA':=lt_T hA
    have n1:=nn_T i
    have gm:=Qxi hA
    have hwk:=wr_1 (n:=i) (by omega)
    have hlt:(((a.mv.take i).map Mv.to).map v3PV).length=i:=by simp;omega
    have hok:=Qxh ((a.mv.take i).map Mv.to)
    have k1:((i+1)*24≤140737488355328)=True:=eq_true (by omega)
    have k2:(i+1≤maxLen)=True:=eq_true (by unfold maxLen;omega)
    have hts:=Qx7 hA
    generalize ((a.mv.take i).map Mv.to).map v3PV=T at*
    generalize a.mv.getD i mv0=m at*
    repeat (first|(simp -implicitDefEqProofs only [go_sem,Nat.reduceAdd,Nat.reduceMul,Nat.reduceEqDiff,Nat.reduceLT,Nat.reduceLeDiff,reduceIte,reduceCtorEq,Nat.reduceBneDiff,hA',n1,gm,hwk,hlt,hok,k1,k2,Int.toNat_natCast,List.length_map]))
    refine⟨⟨i+1,hA⟩,by simp only;omega,Qaq (θ:=[(7,704)]) rfl ?_ ?_⟩
    ·simp [Qad,lkp,ren1,ren0,Qae]
    ·simp only [hts]
     exact⟨⟨rfl,rfl,rfl,rfl,rfl,.inl ⟨rfl,rfl⟩⟩,trivial⟩
   ·have hA':=lt_F hA
    obtain rfl:i=a.mv.length:=by omega
    have ht:a.mv.take a.mv.length=a.mv:=List.take_length
    have hlt:((a.mv.map Mv.to).map v3PV).length=a.mv.length:=by simp
    have htk:((a.mv.map Mv.to).map v3PV).take a.mv.length=(a.mv.map Mv.to).map v3PV:=List.take_of_length_le (by simp)
    simp only [ht]
    generalize (a.mv.map Mv.to).map v3PV=T at*
    repeat (first|(simp -implicitDefEqProofs only [go_sem,Nat.reduceAdd,Nat.reduceMul,Nat.reduceEqDiff,Nat.reduceLT,Nat.reduceLeDiff,reduceIte,reduceCtorEq,hA',hlt,htk]))
theorem Qx8 (p:Pg) (k:Nat) (t:Int):Qan Tryz.prog 39 [pgV p,.int .i64 (k:Int),.int .i64 t] (.fn 63 [] [.rp (pgV p).cells,.rp [.int .i64 (k:Int)],.rp [.int .i64 t]]):=by
 unfold pgV
 refine Qac (tb:=[]) 8 [.tmp 6] [0,1,2,3,4,5,6] mixed Tryz.func39 rfl (by kernel_rfl) (by kernel_rfl) (by kernel_rfl) (by kernel_rfl) ?_
 repeat (first|(simp -implicitDefEqProofs only [go_sem,Nat.reduceAdd,Nat.reduceMul,Nat.reduceEqDiff,Nat.reduceLT,Nat.reduceLeDiff,reduceCtorEq]))
def pthO (fr:List V3) (ms:List Mv) (at_ ln:Int) (i:Nat):List PV:=[pV (mvP (fr.getD i v0) (ms.getD i mv0) at_ ln),.int .i64 (mvE (fr.getD i v0) (ms.getD i mv0) at_ ln)]
def Qiv (fr:List V3) (ms:List Mv) (at_ ln:Int):List (List PV):=(List.range fr.length).map (pthO fr ms at_ ln)
theorem Qk8 (fr:List V3) (ms:List Mv) (at_ ln:Int):(Qiv fr ms at_ ln).length=fr.length:=by simp [Qiv]
theorem Qk9 (fr:List V3) (ms:List Mv) (at_ ln:Int) {i:Nat} (h:i<fr.length):(Qiv fr ms at_ ln)[i]? =some (pthO fr ms at_ ln i):=by simp [Qiv,h]
set_option maxRecDepth 100000 in
set_option maxHeartbeats 4000000 in
theorem Qtw (p:Pg) (k:Nat) (t:Int) (hk:k<p.as_.length) (h0:p.hs≠ []) (hh:p.hs.length≤100000) (hm: ∀i,(p.as_.getD i ac0).mv.length≤100000) (hl:p.as_.length≤100000) (hn:(Qeg p k).length≤(p.as_.getD k ac0).mv.length):
  Qir Tryz.prog 63 [.rp (pgV p).cells,.rp [.int .i64 (k:Int)],.rp [.int .i64 t]] (Qiv (Qeg p k) (p.as_.getD k ac0).mv t (p.as_.getD k ac0).ln):=by
 have hf:=Q1y p k (by omega) h0 hh hm hl
 have n0:=nn_T k
 have ga:=Qgi hk
 have hml:=hm k
 have hlO:=Qk8 (Qeg p k) (p.as_.getD k ac0).mv t (p.as_.getD k ac0).ln
 have hgO:=fun i h=>Qk9 (Qeg p k) (p.as_.getD k ac0).mv t (p.as_.getD k ac0).ln (i:=i) h
 unfold psV pgV at hf
 unfold pgV
 simp only [PV.cells]
 generalize p.as_.getD k ac0=a at*
 generalize Qeg p k=F at*
 generalize hOO:Qiv F a.mv t a.ln=OO at*
 refine Qis (tb:=[]) 38 [0,1,2,3,5,6,7,15,16,17,18,36] mixed Tryz.func63 rfl (by kernel_rfl) (by kernel_rfl) (by kernel_rfl) (by kernel_rfl) fun l stop=> ?_
 repeat (first|(simp -implicitDefEqProofs only [go_sem,Nat.reduceAdd,Nat.reduceMul,Nat.reduceEqDiff,Nat.reduceLT,Nat.reduceLeDiff,reduceCtorEq,n0,ga,Int.toNat_natCast,List.length_map])|((with_reducible refine Qab (hf) ?_ ?_ ?_);(with_reducible rfl);rfl)|(with_reducible exact Qaa _ _ (by kernel_rfl))|(with_reducible refine And.intro (Qaa _ _ (by kernel_rfl)) ?_))
 refine Qb5 mixed (fun i:{i:Nat // i≤F.length∧i≤stop}=>St.ofG [(0,.yld l stop),(1,.rp [.slc (p.ns.map PV.str),.slc (p.hs.map v3PV),.slc (p.as_.map acV)]),(2,.rp [.int .i64 (k:Int)]),(3,.rp [.int .i64 t]),(5,.bp 5 3 0 0),(15,.slc (F.map v3PV)),(16,.int .i64 (F.length:Int)),(17,.int .i64 (i.1:Int))]
  [(5,{els:=[.agg [.str a.nm,.int .i64 a.ln,.slc (a.mv.map mvV)]],esz:=3,ety:=76,fro:=0,live:=true,arr:=false})] (OO.take i.1) (some (l,stop,OO))) (fun i=>F.length-i.1) ⟨0,Nat.zero_le _,Nat.zero_le _⟩ ?_ ?_
 ·refine Qaq (θ:=[(5,5)]) rfl ?_ ?_
  ·simp [Qad,lkp,ren1,ren0,Qae]
  ·exact⟨⟨rfl,rfl,rfl,rfl,rfl,.inr ⟨rfl,_,_,rfl,rfl,rfl,rfl⟩⟩,trivial⟩
 ·rintro⟨i,hi,hst⟩
  simp only
  have hlen:(OO.take i).length=i:=by rw [List.length_take];omega
  by_cases hA:i<F.length
  ·have hA':=lt_T hA
   have n1:=nn_T i
   have g1:=Qk5 F i hA
   have g2:=Qxi (l:=a.mv) (i:=i) (by omega)
   have hwk:=wr_1 (n:=i) (by omega)
   have hP:=Qx3 (F.getD i v0) (a.mv.getD i mv0) t a.ln
   have hgt:=hgO i hA
   have htk:OO.take (i+1)=OO.take i++[pthO F a.mv t a.ln i]:=by rw [List.take_add_one,hgt];rfl
   unfold pthO at hgt htk
   generalize mvP (F.getD i v0) (a.mv.getD i mv0) t a.ln=S at*
   generalize mvE (F.getD i v0) (a.mv.getD i mv0) t a.ln=E at*
   generalize F.getD i v0=va at*
   generalize a.mv.getD i mv0=m at*
   unfold v3PV mvV at hP
   unfold pV at hP hgt htk
   have hst':(i≤stop)=True:=eq_true hst
   by_cases hlt:i<stop
   ·have hlt':(i<stop)=True:=eq_true hlt
    repeat (first|(simp -implicitDefEqProofs only [go_sem,Nat.reduceAdd,Nat.reduceMul,Nat.reduceEqDiff,Nat.reduceLT,Nat.reduceLeDiff,reduceCtorEq,hA',n1,g1,g2,hwk,hlen,hgt,hst',hlt',Int.toNat_natCast,List.length_map])|((with_reducible refine Qab (hP) ?_ ?_ ?_);(with_reducible rfl);rfl)|(with_reducible exact Qaa _ _ (by kernel_rfl))|(with_reducible refine And.intro (Qaa _ _ (by kernel_rfl)) ?_))
    refine⟨⟨i+1,hA,hlt⟩,by simp only;omega,?_⟩
    simp only [htk]
    refine Qaq (θ:=[(5,5)]) rfl ?_ ?_
    ·simp [Qad,lkp,ren1,ren0,Qae]
    ·exact⟨⟨rfl,rfl,rfl,rfl,rfl,.inr ⟨rfl,_,_,rfl,rfl,rfl,rfl⟩⟩,trivial⟩
   ·have hlt':(i<stop)=False:=eq_false hlt
    obtain rfl:i=stop:=by omega
    repeat (first|(simp -implicitDefEqProofs only [go_sem,Nat.reduceAdd,Nat.reduceMul,Nat.reduceEqDiff,Nat.reduceLT,Nat.reduceLeDiff,reduceCtorEq,hA',n1,g1,g2,hwk,hlen,hgt,hst',hlt',Qhb,htk,Int.toNat_natCast,List.length_map])|((with_reducible refine Qab (hP) ?_ ?_ ?_);(with_reducible rfl);rfl)|(with_reducible exact Qaa _ _ (by kernel_rfl))|(with_reducible refine And.intro (Qaa _ _ (by kernel_rfl)) ?_))
  ·have hA':=lt_F hA
   have e1:OO.take i=OO:=List.take_of_length_le (by omega)
   have e2:OO.take (stop+1)=OO:=List.take_of_length_le (by omega)
   rw [e1]
   repeat (first|(simp -implicitDefEqProofs only [go_sem,Nat.reduceAdd,Nat.reduceMul,Nat.reduceEqDiff,Nat.reduceLT,Nat.reduceLeDiff,reduceCtorEq,hA',Qhb,e2,List.length_map])|(with_reducible exact Qaa _ _ (by kernel_rfl))|(with_reducible refine And.intro (Qaa _ _ (by kernel_rfl)) ?_))
end Go.Proofs.YtjlkapdmgjocdaaGreat

namespace Go.Proofs.YtjlkapdmgjocdaaGreat
open Go.Vl Go.RowKit Go.Dg
structure okP (p:Pg):Prop where
 n:p.ns.length≤100000
 h:p.hs.length≤100000
 a:p.as_.length≤100000
 s: ∀i,(nmAt p i).size≤100000
 m: ∀i,(p.as_.getD i ac0).mv.length≤100000∧(p.as_.getD i ac0).nm.size≤100000
def vB (p:Pg) (a:Ac) (n:Nat) (L:List Int) (i:Nat):List (Nat×Box):=[(1000000,{els:=[.bs 1000001 1 0 n],esz:=1,ety:=78,fro:=0,live:=true,arr:=false}),(1000001,{els:=L.map (PV.int .i64),esz:=1,ety:=3,fro:=0,live:=true,arr:=true}),(1000002,{els:=[.int .i64 (i:Int)],esz:=1,ety:=3,fro:=0,live:=true,arr:=false}),(1000003,{els:=[.bool false],esz:=1,ety:=4,fro:=0,live:=true,arr:=false}),
 (1000004,{els:=[.agg [.slc (p.ns.map PV.str),.slc (p.hs.map v3PV),.slc (p.as_.map acV)]],esz:=3,ety:=26,fro:=0,live:=true,arr:=false}),(1000005,{els:=[.agg [.str a.nm,.int .i64 a.ln,.slc (a.mv.map mvV)]],esz:=3,ety:=76,fro:=0,live:=true,arr:=false})]
theorem vB_N (p:Pg) (a:Ac) (n:Nat) (L:List Int) (i:Nat): ∀b∈ [1000000,1000001,1000002,1000003,1000004,1000005],(lkp (vB p a n L i) b).isSome=true:=by
 simp [vB,lkp]
def vC (p:Pg) (a:Ac) (n:Nat) (F:List V3) (t:Int) (many:List Int) (m j:Nat):List (Nat×Box):=if j=m+1 then vB p a n (Qau F a.mv t a.ln many (m+1)) m else vB p a n (Qau F a.mv t a.ln many j) j
def vI (n:Nat) (p:Pg) (q:Nat×Int×List Int):Prop:=q.1≤p.as_.length∧goB n (Qeg p q.1) q.2.1 q.2.2 (p.as_.drop q.1)=goB n p.hs 0 (List.replicate n 0) p.as_∧(0≤q.2.1∧q.2.1≤3600000)∧q.2.2.length=n∧(∀i,0≤q.2.2.getD i 0∧q.2.2.getD i 0≤256)∧(Qeg p q.1).length=n
theorem Qx9 {n:Nat} {p:Pg} (h:p.hs.length=n):vI n p (0,0,List.replicate n 0):=by
 refine⟨Nat.zero_le _,rfl,⟨Int.le_refl _,(show(0:Int)≤3600000 by decide)⟩,by simp,fun i=> ?_,h⟩
 rw [List.getD_eq_getElem?_getD,List.getElem?_replicate]
 split<;>simp
theorem Qq0 {fr:List V3} {ms:List Mv} {t ln:Int} {many:List Int} {k:Nat} (hb: ∀i,0≤many.getD i 0∧many.getD i 0≤256) (hok:okTo fr ms t ln many k=true) (i:Nat):0≤(Qau fr ms t ln many k).getD i 0∧(Qau fr ms t ln many k).getD i 0≤256:=by
 rw [List.getD_eq_getElem?_getD]
 by_cases hi:i<many.length
 ·rw [Qbh hi]
  by_cases hk:i<k
  ·rw [if_pos hk]
   have:=List.all_eq_true.1 hok i (List.mem_range.2 hk)
   unfold okAt at this
   simp only [Bool.and_eq_true,decide_eq_true_eq]at this
   have h0:=(hb i).1
   simp only [Option.getD_some]
   unfold Qb4 at*
   omega
  ·rw [if_neg hk];exact hb i
 ·rw [List.getElem?_eq_none (by rw [Qbc];omega)];simp
theorem Qya {n:Nat} {p:Pg} {k:Nat} {t:Int} {many:List Int} (h:vI n p (k,t,many)) (hk:k<p.as_.length) (ha:actB n t (p.as_.getD k ac0)=true) (hok:okTo (Qeg p k) (p.as_.getD k ac0).mv t (p.as_.getD k ac0).ln many n=true):
  vI n p (k+1,t+(p.as_.getD k ac0).ln,Qau (Qeg p k) (p.as_.getD k ac0).mv t (p.as_.getD k ac0).ln many n):=by
 obtain⟨h1,h2,h3,h4,h5,h6⟩:=h
 simp only at h1 h2 h3 h4 h5 h6
 have hd:p.as_.drop k=p.as_.getD k ac0::p.as_.drop (k+1):=by
  rw [List.drop_eq_getElem_cons hk,List.getD_eq_getElem?_getD,List.getElem?_eq_getElem hk];rfl
 have hf:Qeg p (k+1)=(p.as_.getD k ac0).mv.map Mv.to:=rfl
 unfold actB at ha
 simp only [Bool.and_eq_true,decide_eq_true_eq]at ha
 obtain⟨a1,a2,a3,a4⟩:=ha
 refine⟨hk,?_,⟨by simp only;omega,by simp only;omega⟩,by simp only;rw [Qbc];exact h4,fun i=>Qq0 h5 hok i,by simp only;rw [hf];simpa using a4⟩
 rw [←h2,hd]
 simp only [goB,h6,hok,hf]
 have:actB n t (p.as_.getD k ac0)=true:=by unfold actB;simp only [Bool.and_eq_true,decide_eq_true_eq];exact⟨a1,a2,a3,a4⟩
 rw [this];rfl
theorem Q1z {n:Nat} {p:Pg} {k:Nat} {t:Int} {many:List Int} (h:vI n p (k,t,many)) (hk:k<p.as_.length) (hb:(actB n t (p.as_.getD k ac0)&&okTo (Qeg p k) (p.as_.getD k ac0).mv t (p.as_.getD k ac0).ln many n)=false):goB n p.hs 0 (List.replicate n 0) p.as_=false:=by
 obtain⟨h1,h2,h3,h4,h5,h6⟩:=h
 simp only at h1 h2 h3 h4 h5 h6
 have hd:p.as_.drop k=p.as_.getD k ac0::p.as_.drop (k+1):=by
  rw [List.drop_eq_getElem_cons hk,List.getD_eq_getElem?_getD,List.getElem?_eq_getElem hk];rfl
 rw [←h2,hd]
 simp only [goB,h6]
 rw [←Bool.and_assoc,hb,Bool.false_and]
theorem Qtx {fr:List V3} {ms:List Mv} {t ln:Int} {many:List Int} {n:Nat} (h:okTo fr ms t ln many n=false): ∃m,m<n∧okTo fr ms t ln many m=true∧okAt fr ms t ln many m=false:=by
 induction n with
 |zero=>cases h
 |succ n ih=>
  cases e:okTo fr ms t ln many n with
  |true=>
   rw [Qql,e,Bool.true_and]at h
   exact⟨n,by omega,e,h⟩
  |false=>obtain⟨m,h1,h2⟩:=ih e;exact⟨m,by omega,h2⟩
set_option maxRecDepth 100000 in
set_option maxHeartbeats 8000000 in
theorem Qhu (p:Pg) (hp:okP p):Qan Tryz.prog 19 [pgV p] (.bool (Qbg p)):=by
 have hpn:=hp.n
 have hph:=hp.h
 have hpa:=hp.a
 have hcr:=Q1w p (fun i=>by have:=hp.s i;omega) (by unfold maxLen;omega)
 unfold Qbg
 unfold pgV at hcr ⊢
 cases e1:Qk1 p with
 |false=>
  rw [e1]at hcr
  refine Qac (tb:=[]) 86 [.cell 2 4] [0,1,2,3,4,5,6,7,8,9,18,24,25,26,27,55,59,60,61,78] mixed Tryz.func19 rfl (by kernel_rfl) (by kernel_rfl) (by kernel_rfl) (by kernel_rfl) ?_
  repeat (first|(simp -implicitDefEqProofs only [go_sem,Nat.reduceAdd,Nat.reduceMul,Nat.reduceEqDiff,Nat.reduceLT,Nat.reduceLeDiff,reduceCtorEq,Bool.not_false,Bool.false_and])|((with_reducible refine Qab (hcr) ?_ ?_ ?_);(with_reducible rfl);rfl))
 |true=>
 rw [e1]at hcr
 by_cases e2:p.as_.length≤60
 case neg=>
  have e2':((60:Int)<(p.as_.length:Int))=True:=eq_true (by omega)
  rw [decide_eq_false e2]
  refine Qac (tb:=[]) 86 [.cell 2 4] [0,1,2,3,4,5,6,7,8,9,18,24,25,26,27,55,59,60,61,78] mixed Tryz.func19 rfl (by kernel_rfl) (by kernel_rfl) (by kernel_rfl) (by kernel_rfl) ?_
  repeat (first|(simp -implicitDefEqProofs only [go_sem,Nat.reduceAdd,Nat.reduceMul,Nat.reduceEqDiff,Nat.reduceLT,Nat.reduceLeDiff,reduceCtorEq,Bool.not_true,e2',decide_true,List.length_map,Bool.false_and,Bool.and_false])|((with_reducible refine Qab (hcr) ?_ ?_ ?_);(with_reducible rfl);rfl))
 have e2':((60:Int)<(p.as_.length:Int))=False:=eq_false (by omega)
 rw [decide_eq_true e2,Bool.true_and,Bool.true_and]
 obtain⟨z1,z2,z3⟩:1≤p.ns.length∧p.ns.length≤64∧p.hs.length=p.ns.length:=by
  unfold Qk1 at e1
  simp only [Bool.and_eq_true,decide_eq_true_eq]at e1
  exact⟨e1.1,e1.2.1,e1.2.2.1⟩
 have hne:p.hs≠ []:=by intro h;rw [h]at z3;simp at z3;omega
 obtain⟨n,hn⟩: ∃n,p.ns.length=n:=⟨_,rfl⟩
 rw [hn]
 rw [hn]at z1 z2 z3
 have mk1:(((8:Nat):Int)*(n:Int)≤281474976710656)=True:=eq_true (by omega)
 have mk2:((n:Int)≤9223372036854775807)=True:=eq_true (by omega)
 have n00:=nn_T n
 refine Qac (tb:=[]) 86 [.cell 2 4] [0,1,2,3,4,5,6,7,8,9,18,24,25,26,27,55,59,60,61,78] mixed Tryz.func19 rfl (by kernel_rfl) (by kernel_rfl) (by kernel_rfl) (by kernel_rfl) ?_
 repeat (first|(simp -implicitDefEqProofs only [go_sem,Nat.reduceAdd,Nat.reduceMul,Nat.reduceEqDiff,Nat.reduceLT,Nat.reduceLeDiff,reduceCtorEq,Bool.not_true,e2',hn,mk1,mk2,n00,decide_false,decide_true,Int.toNat_natCast,List.length_map])|((with_reducible refine Qab (hcr) ?_ ?_ ?_);(with_reducible rfl);rfl))
 refine Qb5 mixed (fun q:{q:Nat×Int×List Int // vI n p q}=>St.of [(1,.bp 0 3 0 0),(2,.bp 1 1 0 0),(3,.int .i64 q.1.2.1),(4,.bp 404 1 0 0),(24,.slc (p.as_.map acV)),(25,.int .i64 (p.as_.length:Int)),(26,.int .i64 (q.1.1:Int))]
  [(0,{els:=[.agg [.slc (p.ns.map PV.str),.slc (p.hs.map v3PV),.slc (p.as_.map acV)]],esz:=3,ety:=26,fro:=0,live:=true,arr:=false}),(1,{els:=[.bool false],esz:=1,ety:=4,fro:=0,live:=true,arr:=false}),(404,{els:=[.bs 403 1 0 n],esz:=1,ety:=78,fro:=0,live:=true,arr:=false}),(403,{els:=q.1.2.2.map (PV.int .i64),esz:=1,ety:=3,fro:=0,live:=true,arr:=true})]) (fun q=>p.as_.length-q.1.1) ⟨(0,0,List.replicate n 0),Qx9 z3⟩ ?_ ?_
 ·refine Qaq (θ:=[(0,0),(1,1),(404,404),(403,403)]) rfl ?_ ?_
  ·simp [Qad,lkp,ren1,ren0,Qae]
  ·simp only [List.map_replicate]
   exact⟨⟨rfl,rfl,rfl,rfl,rfl,.inr ⟨rfl,_,_,rfl,rfl,rfl,rfl⟩⟩,⟨rfl,rfl,rfl,rfl,rfl,.inr ⟨rfl,_,_,rfl,rfl,rfl,rfl⟩⟩,⟨rfl,rfl,rfl,rfl,rfl,.inr ⟨rfl,_,_,rfl,rfl,rfl,rfl⟩⟩,⟨rfl,rfl,rfl,rfl,rfl,.inl ⟨rfl,rfl⟩⟩,trivial⟩
 ·rintro⟨⟨k,t,many⟩,hI⟩
  simp only
  have hI1:k≤p.as_.length:=hI.1
  have hI3:0≤t∧t≤3600000:=hI.2.2.1
  have hI4:many.length=n:=hI.2.2.2.1
  have hI5: ∀i,0≤many.getD i 0∧many.getD i 0≤256:=hI.2.2.2.2.1
  have hI6:(Qeg p k).length=n:=hI.2.2.2.2.2
  by_cases hA:k<p.as_.length
  case neg=>
   have hA':=lt_F hA
   have hg:goB n p.hs 0 (List.replicate n 0) p.as_=true:=by
    rw [←hI.2.1]
    have:p.as_.drop k=[]:=List.drop_eq_nil_of_le (by omega)
    simp only [this,goB]
   rw [hg]
   repeat (first|(simp -implicitDefEqProofs only [go_sem,Nat.reduceAdd,Nat.reduceMul,Nat.reduceEqDiff,Nat.reduceLT,Nat.reduceLeDiff,reduceCtorEq,hA',List.length_map]))
  have hA':=lt_T hA
  have nk:=nn_T k
  have ga:=Qgi hA
  have hwk:=wr_1 (n:=k) (by omega)
  have hbad:=fun h=>Q1z hI hA h
  have hstep:=fun h1 h2=>Qya hI hA h1 h2
  obtain⟨ma,mb⟩:=hp.m k
  have hpt:=Qx8 p k t
  have hY:=fun hl=>Qtw p k t hA hne hph (fun i=>(hp.m i).1) hpa hl
  have hnm:=Qxf (p.as_.getD k ac0).nm (by omega)
  unfold pgV at hpt hY
  simp only [PV.cells]at hpt hY
  generalize p.as_.getD k ac0=a at*
  generalize Qeg p k=F at*
  have hw3:IntKind.i64.wrap (3600000-t)=3600000-t:=Qam (by omega) (by omega)
  cases b1:Qmf a.nm with
  |false=>
   rw [hbad (by unfold actB;rw [b1];rfl)]
   rw [b1]at hnm
   repeat (first|(simp -implicitDefEqProofs only [go_sem,Nat.reduceAdd,Nat.reduceMul,Nat.reduceEqDiff,Nat.reduceLT,Nat.reduceLeDiff,reduceCtorEq,hA',nk,ga,Bool.not_false,Int.toNat_natCast,List.length_map])|((with_reducible refine Qab (hnm) ?_ ?_ ?_);(with_reducible rfl);rfl))
  |true=>
  rw [b1]at hnm
  by_cases b2:1≤a.ln
  case neg=>
   have b2':(a.ln<1)=True:=eq_true (by omega)
   rw [hbad (by unfold actB;rw [decide_eq_false b2];simp)]
   repeat (first|(simp -implicitDefEqProofs only [go_sem,Nat.reduceAdd,Nat.reduceMul,Nat.reduceEqDiff,Nat.reduceLT,Nat.reduceLeDiff,reduceCtorEq,hA',nk,ga,b2',Bool.not_true,decide_true,Int.toNat_natCast,List.length_map])|((with_reducible refine Qab (hnm) ?_ ?_ ?_);(with_reducible rfl);rfl))
  have b2':(a.ln<1)=False:=eq_false (by omega)
  by_cases b3:a.ln≤3600000-t
  case neg=>
   have b3':(3600000-t<a.ln)=True:=eq_true (by omega)
   rw [hbad (by unfold actB;rw [decide_eq_false b3];simp)]
   repeat (first|(simp -implicitDefEqProofs only [go_sem,Nat.reduceAdd,Nat.reduceMul,Nat.reduceEqDiff,Nat.reduceLT,Nat.reduceLeDiff,reduceCtorEq,hA',nk,ga,b2',b3',hw3,Bool.not_true,decide_true,decide_false,Int.toNat_natCast,List.length_map])|((with_reducible refine Qab (hnm) ?_ ?_ ?_);(with_reducible rfl);rfl))
  have b3':(3600000-t<a.ln)=False:=eq_false (by omega)
  by_cases b4:a.mv.length=n
  case neg=>
   have b4':((a.mv.length:Int) != (n:Int))=true:=by simp;omega
   rw [hbad (by unfold actB;rw [decide_eq_false b4];simp)]
   repeat (first|(simp -implicitDefEqProofs only [go_sem,Nat.reduceAdd,Nat.reduceMul,Nat.reduceEqDiff,Nat.reduceLT,Nat.reduceLeDiff,reduceCtorEq,hA',nk,ga,b2',b3',b4',hw3,hn,Bool.not_true,decide_true,decide_false,Int.toNat_natCast,List.length_map])|((with_reducible refine Qab (hnm) ?_ ?_ ?_);(with_reducible rfl);rfl))
  have b4':((a.mv.length:Int) != (n:Int))=false:=by simp;omega
  have hact:actB n t a=true:=by unfold actB;rw [b1,decide_eq_true b2,decide_eq_true b3,decide_eq_true b4];rfl
  have hY:=hY (by omega)
  have hlO:=Qk8 F a.mv t a.ln
  have hgO:=fun i h=>Qk9 F a.mv t a.ln (i:=i) h
  have hw4:IntKind.i64.wrap (t+a.ln)=t+a.ln:=Qam (by omega) (by omega)
  repeat (first|(simp -implicitDefEqProofs only [go_sem,Nat.reduceAdd,Nat.reduceMul,Nat.reduceEqDiff,Nat.reduceLT,Nat.reduceLeDiff,reduceCtorEq,hA',nk,ga,b2',b3',b4',hw3,hn,Bool.not_true,decide_true,decide_false,Int.toNat_natCast,List.length_map])|((with_reducible refine Qab (hnm) ?_ ?_ ?_);(with_reducible rfl);rfl)|((with_reducible refine Qab (hpt) ?_ ?_ ?_);(with_reducible rfl);rfl))
  cases b5:okTo F a.mv t a.ln many n with
  |true=>
   have hokj: ∀j,j<n→okAt F a.mv t a.ln many j=true:=fun j hj=>List.all_eq_true.1 b5 j (List.mem_range.2 hj)
   have hmin:min (Qiv F a.mv t a.ln).length (n+1)=n:=by omega
   refine Qby mixed hY rfl rfl _ rfl [(1000000,404),(1000001,403),(1000002,1000),(1000003,1),(1000004,0),(1000005,703)] [1000000,1000001,1000002,1000003,1000004,1000005] rfl
    [(1,.bp 1000004 3 0 0),(2,.bp 1000003 1 0 0),(3,.int .i64 t),(4,.bp 1000000 1 0 0),(6,.bp 1000005 3 0 0),(7,.bp 1000002 1 0 0),(24,.slc (p.as_.map acV)),(25,.int .i64 (p.as_.length:Int)),(26,.int .i64 (k:Int))]
    (fun j=>vB p a n (Qau F a.mv t a.ln many j) j) rfl rfl ?_ ?_ ?_ n .normal (fun h=>by omega) (fun j _ _=>vB_N _ _ _ _ _) ?_ rfl ?_
    [(1,1000003),(0,1000004),(404,1000000),(403,1000001),(703,1000005)]
    [(1,.bp 0 3 0 0),(2,.bp 1 1 0 0),(3,.int .i64 t),(4,.bp 404 1 0 0),(6,.bp 703 3 0 0),(24,.slc (p.as_.map acV)),(25,.int .i64 (p.as_.length:Int)),(26,.int .i64 (k:Int))]
    [(0,{els:=[.agg [.slc (p.ns.map PV.str),.slc (p.hs.map v3PV),.slc (p.as_.map acV)]],esz:=3,ety:=26,fro:=0,live:=true,arr:=false}),(1,{els:=[.bool false],esz:=1,ety:=4,fro:=0,live:=true,arr:=false}),(404,{els:=[.bs 403 1 0 n],esz:=1,ety:=78,fro:=0,live:=true,arr:=false}),(403,{els:=(Qau F a.mv t a.ln many n).map (PV.int .i64),esz:=1,ety:=3,fro:=0,live:=true,arr:=true}),(703,{els:=[.agg [.str a.nm,.int .i64 a.ln,.slc (a.mv.map mvV)]],esz:=3,ety:=76,fro:=0,live:=true,arr:=false})] rfl rfl ?_ ?_ (fun _=> ?_) (fun h=>by omega)
   ·simp [Qad,lkp,ren1,ren0,Qae]
   ·simp only [Qhm,vB]
    exact⟨⟨rfl,rfl,rfl,rfl,rfl,.inr ⟨rfl,_,_,rfl,rfl,rfl,rfl⟩⟩,⟨rfl,rfl,rfl,rfl,rfl,.inl ⟨rfl,rfl⟩⟩,⟨rfl,rfl,rfl,rfl,rfl,.inr ⟨rfl,_,_,rfl,rfl,rfl,rfl⟩⟩,⟨rfl,rfl,rfl,rfl,rfl,.inr ⟨rfl,_,_,rfl,rfl,rfl,rfl⟩⟩,⟨rfl,rfl,rfl,rfl,rfl,.inr ⟨rfl,_,_,rfl,rfl,rfl,rfl⟩⟩,⟨rfl,rfl,rfl,rfl,rfl,.inr ⟨rfl,_,_,rfl,rfl,rfl,rfl⟩⟩,trivial⟩
   ·simp [Qad,lkp,ren1,ren0,Qae,Qc6]
   ·intro j args h
    simp only [Qiv,List.getElem?_map,Option.map_eq_some_iff]at h
    obtain⟨x, -,rfl⟩:=h
    rfl
   ·rintro j args hja hjs
    have hj:j<n:=by have:=(List.getElem?_eq_some_iff.1 hja).1;omega
    rw [hgO j (by omega)]at hja
    cases hja
    have hok:=hokj j hj
    unfold okAt at hok
    simp only [Bool.and_eq_true,decide_eq_true_eq]at hok
    obtain⟨o1,o2⟩:=hok
    have o1':(mvE (F.getD j v0) (a.mv.getD j mv0) t a.ln != 0)=false:=by rw [o1];rfl
    have o2':(256<Qb4 F a.mv t a.ln many j)=False:=eq_false (by omega)
    simp only [vB]
    have hsn:=Qd9 (fr:=F) (ms:=a.mv) (at_:=t) (ln:=a.ln) (many:=many) (k:=j) (by omega)
    have hgj:((Qau F a.mv t a.ln many j).map (PV.int .i64))[j]? =some (.int .i64 (many.getD j 0)):=by rw [List.getElem?_map,Qbh (by omega),if_neg (Nat.lt_irrefl _)];rfl
    have hgj2:((Qau F a.mv t a.ln many (j+1)).map (PV.int .i64))[j]? =some (.int .i64 (Qb4 F a.mv t a.ln many j)):=by rw [List.getElem?_map,Qbh (by omega),if_pos (Nat.lt_succ_self _)];rfl
    have hset:((Qau F a.mv t a.ln many j).map (PV.int .i64)).set j (.int .i64 (Qb4 F a.mv t a.ln many j))=(Qau F a.mv t a.ln many (j+1)).map (PV.int .i64):=by rw [←hsn,List.map_set]
    have hml:(Qau F a.mv t a.ln many j).length=many.length:=Qbc _ _ _ _ _ _
    have hmb:=hI5 j
    have hPl:=Qd8 (F.getD j v0) (a.mv.getD j mv0) t a.ln
    have hcn:Qb4 F a.mv t a.ln many j=many.getD j 0+((mvP (F.getD j v0) (a.mv.getD j mv0) t a.ln).length:Int):=rfl
    have hwc:IntKind.i64.wrap (many.getD j 0+((mvP (F.getD j v0) (a.mv.getD j mv0) t a.ln).length:Int))=Qb4 F a.mv t a.ln many j:=by rw [hcn];exact Qam (by omega) (by omega)
    have hjT:=lt_T hj
    have n1:=nn_T j
    have hwj:=wr_1 (n:=j) (by omega)
    unfold pthO
    generalize hMM:(Qau F a.mv t a.ln many (j+1)).map (PV.int .i64)=MM at*
    generalize (Qau F a.mv t a.ln many j).map (PV.int .i64)=M0 at*
    generalize Qb4 F a.mv t a.ln many j=c at*
    generalize mvP (F.getD j v0) (a.mv.getD j mv0) t a.ln=S at*
    generalize mvE (F.getD j v0) (a.mv.getD j mv0) t a.ln=E at*
    unfold pV
    repeat (first|(simp -implicitDefEqProofs only [go_sem,Nat.reduceAdd,Nat.reduceMul,Nat.reduceEqDiff,Nat.reduceLT,Nat.reduceLeDiff,reduceCtorEq,pvars,List.toList_toArray]))
    refine⟨by simp [lkp],?_⟩
    repeat (first|(simp -implicitDefEqProofs only [go_sem,Nat.reduceAdd,Nat.reduceMul,Nat.reduceEqDiff,Nat.reduceLT,Nat.reduceLeDiff,reduceIte,reduceCtorEq,hjT,n1,hgj,hgj2,hset,hwc,hwj,Int.toNat_natCast,List.length_map,o1',o2',decide_false]))
    refine⟨hj,?_⟩
    refine Qaq (θ:=[(1000000,1000000),(1000001,1000001),(1000002,1000002),(1000003,1000003),(1000004,1000004),(1000005,1000005)]) rfl ?_ ?_
    ·simp [Qad,lkp,ren1,ren0,Qae]
    ·simp only [hMM]
     exact⟨⟨rfl,rfl,rfl,rfl,rfl,.inr ⟨rfl,_,_,rfl,rfl,rfl,rfl⟩⟩,⟨rfl,rfl,rfl,rfl,rfl,.inl ⟨rfl,rfl⟩⟩,⟨rfl,rfl,rfl,rfl,rfl,.inr ⟨rfl,_,_,rfl,rfl,rfl,rfl⟩⟩,⟨rfl,rfl,rfl,rfl,rfl,.inr ⟨rfl,_,_,rfl,rfl,rfl,rfl⟩⟩,⟨rfl,rfl,rfl,rfl,rfl,.inr ⟨rfl,_,_,rfl,rfl,rfl,rfl⟩⟩,⟨rfl,rfl,rfl,rfl,rfl,.inr ⟨rfl,_,_,rfl,rfl,rfl,rfl⟩⟩,trivial⟩
   ·simp [Qad,lkp,ren1,ren0,Qae]
   ·rw [hmin]
    simp only [vB]
    exact⟨⟨rfl,rfl,rfl,rfl,rfl,.inr ⟨rfl,_,_,rfl,rfl,rfl,rfl⟩⟩,⟨rfl,rfl,rfl,rfl,rfl,.inr ⟨rfl,_,_,rfl,rfl,rfl,rfl⟩⟩,⟨rfl,rfl,rfl,rfl,rfl,.inr ⟨rfl,_,_,rfl,rfl,rfl,rfl⟩⟩,⟨rfl,rfl,rfl,rfl,rfl,.inl ⟨rfl,rfl⟩⟩,⟨rfl,rfl,rfl,rfl,rfl,.inr ⟨rfl,_,_,rfl,rfl,rfl,rfl⟩⟩,trivial⟩
   ·repeat (first|(simp -implicitDefEqProofs only [go_sem,Nat.reduceAdd,Nat.reduceMul,Nat.reduceEqDiff,Nat.reduceLT,Nat.reduceLeDiff,reduceCtorEq,hw4,hwk]))
    refine⟨⟨(k+1,t+a.ln,Qau F a.mv t a.ln many n),hstep hact b5⟩,by simp only;omega,?_⟩
    refine Qaq (θ:=[(0,0),(1,1),(404,404),(403,403)]) rfl ?_ ?_
    ·simp [Qad,lkp,ren1,ren0,Qae]
    ·exact⟨⟨rfl,rfl,rfl,rfl,rfl,.inr ⟨rfl,_,_,rfl,rfl,rfl,rfl⟩⟩,⟨rfl,rfl,rfl,rfl,rfl,.inr ⟨rfl,_,_,rfl,rfl,rfl,rfl⟩⟩,⟨rfl,rfl,rfl,rfl,rfl,.inr ⟨rfl,_,_,rfl,rfl,rfl,rfl⟩⟩,⟨rfl,rfl,rfl,rfl,rfl,.inl ⟨rfl,rfl⟩⟩,trivial⟩
  |false=>
   obtain⟨m,hm,c1,c2⟩:=Qtx b5
   rw [hbad (by rw [hact,b5];rfl)]
   have hokj: ∀j,j<m→okAt F a.mv t a.ln many j=true:=fun j hj=>List.all_eq_true.1 c1 j (List.mem_range.2 hj)
   have hmin:min (Qiv F a.mv t a.ln).length (m+1)=m+1:=by omega
   have hB1: ∀j,j≤m→vC p a n F t many m j=vB p a n (Qau F a.mv t a.ln many j) j:=fun j h=>if_neg (by omega)
   have hB2:vC p a n F t many m (m+1)=vB p a n (Qau F a.mv t a.ln many (m+1)) m:=if_pos rfl
   refine Qby mixed hY rfl rfl _ rfl [(1000000,404),(1000001,403),(1000002,1000),(1000003,1),(1000004,0),(1000005,703)] [1000000,1000001,1000002,1000003,1000004,1000005] rfl
    [(1,.bp 1000004 3 0 0),(2,.bp 1000003 1 0 0),(3,.int .i64 t),(4,.bp 1000000 1 0 0),(6,.bp 1000005 3 0 0),(7,.bp 1000002 1 0 0),(24,.slc (p.as_.map acV)),(25,.int .i64 (p.as_.length:Int)),(26,.int .i64 (k:Int))]
    (vC p a n F t many m) rfl (by rw [hB1 0 (Nat.zero_le _)];rfl) ?_ ?_ ?_ m .ret (fun _=>rfl) (fun j _ _=>by unfold vC;split<;>exact vB_N _ _ _ _ _) ?_ rfl ?_
    [(1,1000003)] [(2,.bp 1 1 0 0)] [(1,{els:=[.bool false],esz:=1,ety:=4,fro:=0,live:=true,arr:=false})] rfl rfl ?_ ?_ (fun h=>by omega) (fun _=> ?_)
   ·simp [Qad,lkp,ren1,ren0,Qae]
   ·rw [hB1 0 (Nat.zero_le _)]
    simp only [Qhm,vB]
    exact⟨⟨rfl,rfl,rfl,rfl,rfl,.inr ⟨rfl,_,_,rfl,rfl,rfl,rfl⟩⟩,⟨rfl,rfl,rfl,rfl,rfl,.inl ⟨rfl,rfl⟩⟩,⟨rfl,rfl,rfl,rfl,rfl,.inr ⟨rfl,_,_,rfl,rfl,rfl,rfl⟩⟩,⟨rfl,rfl,rfl,rfl,rfl,.inr ⟨rfl,_,_,rfl,rfl,rfl,rfl⟩⟩,⟨rfl,rfl,rfl,rfl,rfl,.inr ⟨rfl,_,_,rfl,rfl,rfl,rfl⟩⟩,⟨rfl,rfl,rfl,rfl,rfl,.inr ⟨rfl,_,_,rfl,rfl,rfl,rfl⟩⟩,trivial⟩
   ·simp [Qad,lkp,ren1,ren0,Qae,Qc6]
   ·intro j args h
    simp only [Qiv,List.getElem?_map,Option.map_eq_some_iff]at h
    obtain⟨x, -,rfl⟩:=h
    rfl
   ·rintro j args hja hjs
    have hj:j<n:=by have:=(List.getElem?_eq_some_iff.1 hja).1;omega
    rw [hgO j (by omega)]at hja
    cases hja
    by_cases hjm:j<m
    ·have hok:=hokj j hjm
     unfold okAt at hok
     simp only [Bool.and_eq_true,decide_eq_true_eq]at hok
     obtain⟨o1,o2⟩:=hok
     have o1':(mvE (F.getD j v0) (a.mv.getD j mv0) t a.ln != 0)=false:=by rw [o1];rfl
     have o2':(256<Qb4 F a.mv t a.ln many j)=False:=eq_false (by omega)
     have hBn:=hB1 (j+1) (by omega)
     rw [hB1 j (by omega)]
     simp only [vB]at hBn ⊢
     have hsn:=Qd9 (fr:=F) (ms:=a.mv) (at_:=t) (ln:=a.ln) (many:=many) (k:=j) (by omega)
     have hgj:((Qau F a.mv t a.ln many j).map (PV.int .i64))[j]? =some (.int .i64 (many.getD j 0)):=by rw [List.getElem?_map,Qbh (by omega),if_neg (Nat.lt_irrefl _)];rfl
     have hgj2:((Qau F a.mv t a.ln many (j+1)).map (PV.int .i64))[j]? =some (.int .i64 (Qb4 F a.mv t a.ln many j)):=by rw [List.getElem?_map,Qbh (by omega),if_pos (Nat.lt_succ_self _)];rfl
     have hset:((Qau F a.mv t a.ln many j).map (PV.int .i64)).set j (.int .i64 (Qb4 F a.mv t a.ln many j))=(Qau F a.mv t a.ln many (j+1)).map (PV.int .i64):=by rw [←hsn,List.map_set]
     have hml:(Qau F a.mv t a.ln many j).length=many.length:=Qbc _ _ _ _ _ _
     have hmb:=hI5 j
     have hPl:=Qd8 (F.getD j v0) (a.mv.getD j mv0) t a.ln
     have hcn:Qb4 F a.mv t a.ln many j=many.getD j 0+((mvP (F.getD j v0) (a.mv.getD j mv0) t a.ln).length:Int):=rfl
     have hwc:IntKind.i64.wrap (many.getD j 0+((mvP (F.getD j v0) (a.mv.getD j mv0) t a.ln).length:Int))=Qb4 F a.mv t a.ln many j:=by rw [hcn];exact Qam (by omega) (by omega)
     have hjT:=lt_T hj
     have n1:=nn_T j
     have hwj:=wr_1 (n:=j) (by omega)
     unfold pthO
     generalize hMM:(Qau F a.mv t a.ln many (j+1)).map (PV.int .i64)=MM at*
     generalize (Qau F a.mv t a.ln many j).map (PV.int .i64)=M0 at*
     generalize Qb4 F a.mv t a.ln many j=c at*
     generalize mvP (F.getD j v0) (a.mv.getD j mv0) t a.ln=S at*
     generalize mvE (F.getD j v0) (a.mv.getD j mv0) t a.ln=E at*
     unfold pV
     repeat (first|(simp -implicitDefEqProofs only [go_sem,Nat.reduceAdd,Nat.reduceMul,Nat.reduceEqDiff,Nat.reduceLT,Nat.reduceLeDiff,reduceCtorEq,pvars,List.toList_toArray]))
     refine⟨by simp [lkp],?_⟩
     repeat (first|(simp -implicitDefEqProofs only [go_sem,Nat.reduceAdd,Nat.reduceMul,Nat.reduceEqDiff,Nat.reduceLT,Nat.reduceLeDiff,reduceIte,reduceCtorEq,hjT,n1,hgj,hgj2,hset,hwc,hwj,Int.toNat_natCast,List.length_map,o1',o2',decide_false]))
     refine⟨hjm,?_⟩
     rw [hBn]
     refine Qaq (θ:=[(1000000,1000000),(1000001,1000001),(1000002,1000002),(1000003,1000003),(1000004,1000004),(1000005,1000005)]) rfl ?_ ?_
     ·simp [Qad,lkp,ren1,ren0,Qae]
     ·exact⟨⟨rfl,rfl,rfl,rfl,rfl,.inr ⟨rfl,_,_,rfl,rfl,rfl,rfl⟩⟩,⟨rfl,rfl,rfl,rfl,rfl,.inl ⟨rfl,rfl⟩⟩,⟨rfl,rfl,rfl,rfl,rfl,.inr ⟨rfl,_,_,rfl,rfl,rfl,rfl⟩⟩,⟨rfl,rfl,rfl,rfl,rfl,.inr ⟨rfl,_,_,rfl,rfl,rfl,rfl⟩⟩,⟨rfl,rfl,rfl,rfl,rfl,.inr ⟨rfl,_,_,rfl,rfl,rfl,rfl⟩⟩,⟨rfl,rfl,rfl,rfl,rfl,.inr ⟨rfl,_,_,rfl,rfl,rfl,rfl⟩⟩,trivial⟩
    ·obtain rfl:j=m:=by omega
     have hok:=c2
     unfold okAt at hok
     rw [hB1 j (by omega)]
     simp only [vB]at hB2 ⊢
     by_cases o1:mvE (F.getD j v0) (a.mv.getD j mv0) t a.ln=0
     ·have o1':(mvE (F.getD j v0) (a.mv.getD j mv0) t a.ln != 0)=false:=by rw [o1];rfl
      rw [decide_eq_true o1,Bool.true_and,decide_eq_false_iff_not]at hok
      have o2':(256<Qb4 F a.mv t a.ln many j)=True:=eq_true (by omega)
      have hsn:=Qd9 (fr:=F) (ms:=a.mv) (at_:=t) (ln:=a.ln) (many:=many) (k:=j) (by omega)
      have hgj:((Qau F a.mv t a.ln many j).map (PV.int .i64))[j]? =some (.int .i64 (many.getD j 0)):=by rw [List.getElem?_map,Qbh (by omega),if_neg (Nat.lt_irrefl _)];rfl
      have hgj2:((Qau F a.mv t a.ln many (j+1)).map (PV.int .i64))[j]? =some (.int .i64 (Qb4 F a.mv t a.ln many j)):=by rw [List.getElem?_map,Qbh (by omega),if_pos (Nat.lt_succ_self _)];rfl
      have hset:((Qau F a.mv t a.ln many j).map (PV.int .i64)).set j (.int .i64 (Qb4 F a.mv t a.ln many j))=(Qau F a.mv t a.ln many (j+1)).map (PV.int .i64):=by rw [←hsn,List.map_set]
      have hml:(Qau F a.mv t a.ln many j).length=many.length:=Qbc _ _ _ _ _ _
      have hmb:=hI5 j
      have hPl:=Qd8 (F.getD j v0) (a.mv.getD j mv0) t a.ln
      have hcn:Qb4 F a.mv t a.ln many j=many.getD j 0+((mvP (F.getD j v0) (a.mv.getD j mv0) t a.ln).length:Int):=rfl
      have hwc:IntKind.i64.wrap (many.getD j 0+((mvP (F.getD j v0) (a.mv.getD j mv0) t a.ln).length:Int))=Qb4 F a.mv t a.ln many j:=by rw [hcn];exact Qam (by omega) (by omega)
      have hjT:=lt_T hj
      have n1:=nn_T j
      have hwj:=wr_1 (n:=j) (by omega)
      unfold pthO
      generalize hMM:(Qau F a.mv t a.ln many (j+1)).map (PV.int .i64)=MM at*
      generalize (Qau F a.mv t a.ln many j).map (PV.int .i64)=M0 at*
      generalize Qb4 F a.mv t a.ln many j=c at*
      generalize mvP (F.getD j v0) (a.mv.getD j mv0) t a.ln=S at*
      generalize mvE (F.getD j v0) (a.mv.getD j mv0) t a.ln=E at*
      unfold pV
      repeat (first|(simp -implicitDefEqProofs only [go_sem,Nat.reduceAdd,Nat.reduceMul,Nat.reduceEqDiff,Nat.reduceLT,Nat.reduceLeDiff,reduceCtorEq,pvars,List.toList_toArray]))
      refine⟨by simp [lkp],?_⟩
      repeat (first|(simp -implicitDefEqProofs only [go_sem,Nat.reduceAdd,Nat.reduceMul,Nat.reduceEqDiff,Nat.reduceLT,Nat.reduceLeDiff,reduceIte,reduceCtorEq,hjT,n1,hgj,hgj2,hset,hwc,hwj,Int.toNat_natCast,List.length_map,o1',o2',decide_true]))
      refine⟨rfl,rfl,?_⟩
      rw [hB2]
      refine Qaq (θ:=[(1000000,1000000),(1000001,1000001),(1000002,1000002),(1000003,1000003),(1000004,1000004),(1000005,1000005)]) rfl ?_ ?_
      ·simp [Qad,lkp,ren1,ren0,Qae]
      ·exact⟨⟨rfl,rfl,rfl,rfl,rfl,.inr ⟨rfl,_,_,rfl,rfl,rfl,rfl⟩⟩,⟨rfl,rfl,rfl,rfl,rfl,.inl ⟨rfl,rfl⟩⟩,⟨rfl,rfl,rfl,rfl,rfl,.inr ⟨rfl,_,_,rfl,rfl,rfl,rfl⟩⟩,⟨rfl,rfl,rfl,rfl,rfl,.inr ⟨rfl,_,_,rfl,rfl,rfl,rfl⟩⟩,⟨rfl,rfl,rfl,rfl,rfl,.inr ⟨rfl,_,_,rfl,rfl,rfl,rfl⟩⟩,⟨rfl,rfl,rfl,rfl,rfl,.inr ⟨rfl,_,_,rfl,rfl,rfl,rfl⟩⟩,trivial⟩
     ·have o1':(mvE (F.getD j v0) (a.mv.getD j mv0) t a.ln != 0)=true:=bne_iff_ne.2 o1
      have hsn:=Qd9 (fr:=F) (ms:=a.mv) (at_:=t) (ln:=a.ln) (many:=many) (k:=j) (by omega)
      have hgj:((Qau F a.mv t a.ln many j).map (PV.int .i64))[j]? =some (.int .i64 (many.getD j 0)):=by rw [List.getElem?_map,Qbh (by omega),if_neg (Nat.lt_irrefl _)];rfl
      have hgj2:((Qau F a.mv t a.ln many (j+1)).map (PV.int .i64))[j]? =some (.int .i64 (Qb4 F a.mv t a.ln many j)):=by rw [List.getElem?_map,Qbh (by omega),if_pos (Nat.lt_succ_self _)];rfl
      have hset:((Qau F a.mv t a.ln many j).map (PV.int .i64)).set j (.int .i64 (Qb4 F a.mv t a.ln many j))=(Qau F a.mv t a.ln many (j+1)).map (PV.int .i64):=by rw [←hsn,List.map_set]
      have hml:(Qau F a.mv t a.ln many j).length=many.length:=Qbc _ _ _ _ _ _
      have hmb:=hI5 j
      have hPl:=Qd8 (F.getD j v0) (a.mv.getD j mv0) t a.ln
      have hcn:Qb4 F a.mv t a.ln many j=many.getD j 0+((mvP (F.getD j v0) (a.mv.getD j mv0) t a.ln).length:Int):=rfl
      have hwc:IntKind.i64.wrap (many.getD j 0+((mvP (F.getD j v0) (a.mv.getD j mv0) t a.ln).length:Int))=Qb4 F a.mv t a.ln many j:=by rw [hcn];exact Qam (by omega) (by omega)
      have hjT:=lt_T hj
      have n1:=nn_T j
      have hwj:=wr_1 (n:=j) (by omega)
      unfold pthO
      generalize hMM:(Qau F a.mv t a.ln many (j+1)).map (PV.int .i64)=MM at*
      generalize (Qau F a.mv t a.ln many j).map (PV.int .i64)=M0 at*
      generalize Qb4 F a.mv t a.ln many j=c at*
      generalize mvP (F.getD j v0) (a.mv.getD j mv0) t a.ln=S at*
      generalize mvE (F.getD j v0) (a.mv.getD j mv0) t a.ln=E at*
      unfold pV
      repeat (first|(simp -implicitDefEqProofs only [go_sem,Nat.reduceAdd,Nat.reduceMul,Nat.reduceEqDiff,Nat.reduceLT,Nat.reduceLeDiff,reduceCtorEq,pvars,List.toList_toArray]))
      refine⟨by simp [lkp],?_⟩
      repeat (first|(simp -implicitDefEqProofs only [go_sem,Nat.reduceAdd,Nat.reduceMul,Nat.reduceEqDiff,Nat.reduceLT,Nat.reduceLeDiff,reduceIte,reduceCtorEq,hjT,n1,hgj,hgj2,hset,hwc,hwj,Int.toNat_natCast,List.length_map,o1']))
      refine⟨rfl,rfl,?_⟩
      rw [hB2]
      refine Qaq (θ:=[(1000000,1000000),(1000001,1000001),(1000002,1000002),(1000003,1000003),(1000004,1000004),(1000005,1000005)]) rfl ?_ ?_
      ·simp [Qad,lkp,ren1,ren0,Qae]
      ·exact⟨⟨rfl,rfl,rfl,rfl,rfl,.inr ⟨rfl,_,_,rfl,rfl,rfl,rfl⟩⟩,⟨rfl,rfl,rfl,rfl,rfl,.inl ⟨rfl,rfl⟩⟩,⟨rfl,rfl,rfl,rfl,rfl,.inr ⟨rfl,_,_,rfl,rfl,rfl,rfl⟩⟩,⟨rfl,rfl,rfl,rfl,rfl,.inr ⟨rfl,_,_,rfl,rfl,rfl,rfl⟩⟩,⟨rfl,rfl,rfl,rfl,rfl,.inr ⟨rfl,_,_,rfl,rfl,rfl,rfl⟩⟩,⟨rfl,rfl,rfl,rfl,rfl,.inr ⟨rfl,_,_,rfl,rfl,rfl,rfl⟩⟩,trivial⟩
   ·simp [Qad,lkp,ren1,ren0,Qae]
   ·rw [hmin,hB2]
    simp only [vB]
    exact⟨⟨rfl,rfl,rfl,rfl,rfl,.inr ⟨rfl,_,_,rfl,rfl,rfl,rfl⟩⟩,trivial⟩
   ·rw [Q3d]
    repeat (first|(simp -implicitDefEqProofs only [go_sem]))
end Go.Proofs.YtjlkapdmgjocdaaGreat

namespace Go.Proofs.YtjlkapdmgjocdaaGreat
open Go.Vl Go.RowKit Go.Dg
theorem Qdq:Qaw Tryz.prog 30=some (.agg [.int .i64 0,.int .i64 0]):=by kernel_rfl
theorem Qq1 {n:Nat}: ∀(l:List Ac) (fr:List V3) (t:Int) (many:List Int),goB n fr t many l=true→0≤t→t≤3600000→(∀a∈l,1≤a.ln∧a.mv.length=n)∧t+(l.map Ac.ln).sum≤3600000
 | [],fr,t,many,_,h0,h1=>⟨by simp,by simpa using h1⟩
 |a::l,fr,t,many,h,h0,h1=>by
  simp only [goB,Bool.and_eq_true]at h
  obtain⟨ha, -,hr⟩:=h
  unfold actB at ha
  simp only [Bool.and_eq_true,decide_eq_true_eq]at ha
  obtain⟨i1,i2⟩:=Qq1 l _ _ _ hr (by omega) (by omega)
  refine⟨fun b hb=> ?_,by simp only [List.map_cons,List.sum_cons];omega⟩
  rcases List.mem_cons.1 hb with rfl|hb
  ·exact⟨ha.2.1,ha.2.2.2⟩
  ·exact i1 b hb
theorem Qb0 {p:Pg} (h:Qbg p=true):Qk1 p=true∧p.as_.length≤60∧(∀a∈p.as_,1≤a.ln∧a.mv.length=p.ns.length)∧begT p p.as_.length≤3600000:=by
 unfold Qbg at h
 simp only [Bool.and_eq_true,decide_eq_true_eq]at h
 obtain⟨h1,h2,h3⟩:=h
 obtain⟨i1,i2⟩:=Qq1 p.as_ _ _ _ h3 (by decide) (by decide)
 refine⟨h1,h2,i1,?_⟩
 unfold begT
 rw [List.take_length];omega
theorem Qe6 {p:Pg} {k:Nat} (h:k<p.as_.length):begT p (k+1)=begT p k+(p.as_.getD k ac0).ln:=by
 unfold begT
 rw [Qeq _ _ h,List.getD_eq_getElem?_getD,List.getElem?_eq_getElem h]
 simp only [List.map_append,List.map_cons,List.map_nil,List.sum_append,List.sum_cons,List.sum_nil,Option.getD_some]
 omega
theorem Qe7 {p:Pg} (h:Qbg p=true) {k:Nat}: ∀m,k≤m→m≤p.as_.length→begT p k+(m-k:Nat)≤begT p m
 |0,h1,_=>by
    obtain rfl:k=0:=by omega
    simp
 |m+1,h1,h2=>by
  by_cases e:k=m+1
  ·subst e;simp
  ·have i:=Qe7 h (k:=k) m (by omega) (by omega)
   have hs:=Qe6 (p:=p) (k:=m) (by omega)
   have hl:=((Qb0 h).2.2.1 (p.as_.getD m ac0) (by rw [List.getD_eq_getElem?_getD,List.getElem?_eq_getElem (by omega)];exact List.getElem_mem _)).1
   omega
theorem Qdr {p:Pg} (h:Qbg p=true) {k:Nat} (hk:k≤p.as_.length):(k:Int)≤begT p k∧begT p k≤3600000:=by
 have h1:=Qe7 h (k:=0) k (Nat.zero_le _) hk
 have h2:=Qe7 h (k:=k) p.as_.length hk (Nat.le_refl _)
 have h3:=(Qb0 h).2.2.2
 have h0:begT p 0=0:=rfl
 omega
theorem Qq2 (p:Pg) (h:Qbg p=true) (m:Nat) (hm:m≤p.as_.length) (x:Int) (hx:x=(m:Int)-1):Qan Tryz.prog 36 [pgV p,.int .i64 x] (.int .i64 (begT p m)):=by
 have hpa:=(Qb0 h).2.1
 have w1:IntKind.i64.wrap (x+1)=(m:Int):=by rw [Qam (by omega) (by omega)];omega
 unfold pgV
 refine Qac (tb:=[]) 22 [.tmp 4] [0,1,2,4,5,6,8,9,10] mixed Tryz.func36 rfl (by kernel_rfl) (by kernel_rfl) (by kernel_rfl) (by kernel_rfl) ?_
 repeat (first|(simp -implicitDefEqProofs only [go_sem,Nat.reduceAdd,Nat.reduceMul,Nat.reduceEqDiff,Nat.reduceLT,Nat.reduceLeDiff,reduceCtorEq,Qdq,w1]))
 refine Qb5 mixed (fun k:{k:Nat // k≤m}=>St.of [(2,.bp 0 3 0 0),(5,.int .i64 (begT p k.1)),(8,.int .i64 (m:Int)),(9,.int .i64 (k.1:Int))] [(0,{els:=[.agg [.slc (p.ns.map PV.str),.slc (p.hs.map v3PV),.slc (p.as_.map acV)]],esz:=3,ety:=26,fro:=0,live:=true,arr:=false})]) (fun k=>m-k.1) ⟨0,Nat.zero_le _⟩ ?_ ?_
 ·refine Qaq (θ:=[(0,0)]) rfl ?_ ?_
  ·simp [Qad,lkp,ren1,ren0,Qae,begT,List.take_zero,List.map_nil,List.sum_nil]
  ·exact⟨⟨rfl,rfl,rfl,rfl,rfl,.inr ⟨rfl,_,_,rfl,rfl,rfl,rfl⟩⟩,trivial⟩
 ·rintro⟨k,hk⟩
  simp only
  by_cases hA:k<m
  ·have hA':=lt_T hA
   have n0:=nn_T k
   have ga:=Qgi (p:=p) (i:=k) (by omega)
   have hwk:=wr_1 (n:=k) (by omega)
   have hs:=Qe6 (p:=p) (k:=k) (by omega)
   have b0:=Qdr h (k:=k) (by omega)
   have b1:=Qdr h (k:=k+1) (by omega)
   have hw:IntKind.i64.wrap (begT p k+(p.as_.getD k ac0).ln)=begT p (k+1):=by rw [hs];exact Qam (by omega) (by omega)
   repeat (first|(simp -implicitDefEqProofs only [go_sem,Nat.reduceAdd,Nat.reduceMul,Nat.reduceEqDiff,Nat.reduceLT,Nat.reduceLeDiff,reduceCtorEq,Qdq,hA',n0,ga,hwk,hw,Int.toNat_natCast]))
   refine⟨⟨k+1,hA⟩,by simp only;omega,?_⟩
   refine Qaq (θ:=[(0,0)]) rfl ?_ ?_
   ·simp [Qad,lkp,ren1,ren0,Qae]
   ·exact⟨⟨rfl,rfl,rfl,rfl,rfl,.inr ⟨rfl,_,_,rfl,rfl,rfl,rfl⟩⟩,trivial⟩
  ·have hA':=lt_F hA
   obtain rfl:k=m:=by omega
   repeat (first|(simp -implicitDefEqProofs only [go_sem,Nat.reduceAdd,Nat.reduceMul,Nat.reduceEqDiff,Nat.reduceLT,Nat.reduceLeDiff,reduceCtorEq,Qdq,hA']))
def Qf1 (p:Pg) (i k:Int):Bool:=Qbg p&&(decide (0≤i)&&(decide (i<(p.ns.length:Int))&&(decide (0≤k)&&decide (k<(p.as_.length:Int)))))
set_option maxHeartbeats 2000000 in
theorem Qj3 (p:Pg) (hp:okP p) (i k:Int):Qan Tryz.prog 12 [pgV p,.agg [.int .i64 i,.int .i64 k]] (.bool (Qf1 p i k)):=by
 have hV:=Qhu p hp
 unfold Qf1
 unfold pgV at hV ⊢
 cases e1:Qbg p with
 |false=>
  rw [e1]at hV
  refine Qac (tb:=[]) 33 [.tmp 4] [0,1,2,3,4] mixed Tryz.func12 rfl (by kernel_rfl) (by kernel_rfl) (by kernel_rfl) (by kernel_rfl) ?_
  repeat (first|(simp -implicitDefEqProofs only [go_sem,Nat.reduceAdd,Nat.reduceMul,Nat.reduceEqDiff,Nat.reduceLT,Nat.reduceLeDiff,reduceCtorEq,Qdq,Bool.false_and,List.length_map])|((with_reducible refine Qab (hV) ?_ ?_ ?_);(with_reducible rfl);rfl))
 |true=>
 rw [e1]at hV
 by_cases e2:0≤i
 case neg=>
  have e2':(0≤i)=False:=eq_false e2
  refine Qac (tb:=[]) 33 [.tmp 4] [0,1,2,3,4] mixed Tryz.func12 rfl (by kernel_rfl) (by kernel_rfl) (by kernel_rfl) (by kernel_rfl) ?_
  repeat (first|(simp -implicitDefEqProofs only [go_sem,Nat.reduceAdd,Nat.reduceMul,Nat.reduceEqDiff,Nat.reduceLT,Nat.reduceLeDiff,reduceCtorEq,Qdq,Bool.false_and,Bool.true_and,e2',decide_false,List.length_map])|((with_reducible refine Qab (hV) ?_ ?_ ?_);(with_reducible rfl);rfl))
 have e2':(0≤i)=True:=eq_true e2
 by_cases e3:i<(p.ns.length:Int)
 case neg=>
  have e3':(i<(p.ns.length:Int))=False:=eq_false e3
  refine Qac (tb:=[]) 33 [.tmp 4] [0,1,2,3,4] mixed Tryz.func12 rfl (by kernel_rfl) (by kernel_rfl) (by kernel_rfl) (by kernel_rfl) ?_
  repeat (first|(simp -implicitDefEqProofs only [go_sem,Nat.reduceAdd,Nat.reduceMul,Nat.reduceEqDiff,Nat.reduceLT,Nat.reduceLeDiff,reduceCtorEq,Qdq,Bool.false_and,Bool.true_and,e2',e3',decide_false,decide_true,List.length_map])|((with_reducible refine Qab (hV) ?_ ?_ ?_);(with_reducible rfl);rfl))
 have e3':(i<(p.ns.length:Int))=True:=eq_true e3
 by_cases e4:0≤k
 case neg=>
  have e4':(0≤k)=False:=eq_false e4
  refine Qac (tb:=[]) 33 [.tmp 4] [0,1,2,3,4] mixed Tryz.func12 rfl (by kernel_rfl) (by kernel_rfl) (by kernel_rfl) (by kernel_rfl) ?_
  repeat (first|(simp -implicitDefEqProofs only [go_sem,Nat.reduceAdd,Nat.reduceMul,Nat.reduceEqDiff,Nat.reduceLT,Nat.reduceLeDiff,reduceCtorEq,Qdq,Bool.false_and,Bool.true_and,e2',e3',e4',decide_false,decide_true,List.length_map])|((with_reducible refine Qab (hV) ?_ ?_ ?_);(with_reducible rfl);rfl))
 have e4':(0≤k)=True:=eq_true e4
 refine Qac (tb:=[]) 33 [.tmp 4] [0,1,2,3,4] mixed Tryz.func12 rfl (by kernel_rfl) (by kernel_rfl) (by kernel_rfl) (by kernel_rfl) ?_
 repeat (first|(simp -implicitDefEqProofs only [go_sem,Nat.reduceAdd,Nat.reduceMul,Nat.reduceEqDiff,Nat.reduceLT,Nat.reduceLeDiff,reduceCtorEq,Qdq,Bool.true_and,e2',e3',e4',decide_true,List.length_map])|((with_reducible refine Qab (hV) ?_ ?_ ?_);(with_reducible rfl);rfl))
def Qg5 (p:Pg) (i t:Int):Bool:=Qf1 p i 0&&(decide (0≤t)&&decide (t≤begT p p.as_.length))
theorem Qcj {p:Pg} {i k:Int} (h:Qf1 p i k=true):Qbg p=true∧0≤i∧i<(p.ns.length:Int)∧0≤k∧k<(p.as_.length:Int):=by
 unfold Qf1 at h
 simpa using h
set_option maxRecDepth 100000 in
theorem Qnr (p:Pg) (hp:okP p) (i t:Int):Qan Tryz.prog 14 [pgV p,.agg [.int .i64 i,.int .i64 t]] (.bool (Qg5 p i t)):=by
 have hC:=Qj3 p hp i 0
 unfold Qg5
 cases e1:Qf1 p i 0 with
 |false=>
  rw [e1]at hC
  unfold pgV at hC ⊢
  refine Qac (tb:=[]) 25 [.tmp 4] [0,1,2,3,4,15] mixed Tryz.func14 rfl (by kernel_rfl) (by kernel_rfl) (by kernel_rfl) (by kernel_rfl) ?_
  repeat (first|(simp -implicitDefEqProofs only [go_sem,Nat.reduceAdd,Nat.reduceMul,Nat.reduceEqDiff,Nat.reduceLT,Nat.reduceLeDiff,reduceCtorEq,Qdq,Bool.not_false,Bool.false_and])|((with_reducible refine Qab (hC) ?_ ?_ ?_);(with_reducible rfl);rfl)|(with_reducible exact Qaa _ _ (by kernel_rfl))|(with_reducible refine And.intro (Qaa _ _ (by kernel_rfl)) ?_))
 |true=>
 rw [e1]at hC
 obtain⟨v, -, -, -,hk⟩:=Qcj e1
 have he:=Qq2 p v p.as_.length (Nat.le_refl _) ((p.as_.length:Int)-1) rfl
 have hpa:=(Qb0 v).2.1
 have w:IntKind.i64.wrap ((p.as_.length:Int)-1)=(p.as_.length:Int)-1:=Qam (by omega) (by omega)
 unfold pgV at hC he ⊢
 by_cases e2:0≤t
 case neg=>
  have e2':(t<0)=True:=eq_true (by omega)
  rw [decide_eq_false e2]
  refine Qac (tb:=[]) 25 [.tmp 4] [0,1,2,3,4,15] mixed Tryz.func14 rfl (by kernel_rfl) (by kernel_rfl) (by kernel_rfl) (by kernel_rfl) ?_
  repeat (first|(simp -implicitDefEqProofs only [go_sem,Nat.reduceAdd,Nat.reduceMul,Nat.reduceEqDiff,Nat.reduceLT,Nat.reduceLeDiff,reduceCtorEq,Qdq,Bool.not_true,Bool.false_and,Bool.and_false,e2',decide_true])|((with_reducible refine Qab (hC) ?_ ?_ ?_);(with_reducible rfl);rfl)|(with_reducible exact Qaa _ _ (by kernel_rfl))|(with_reducible refine And.intro (Qaa _ _ (by kernel_rfl)) ?_))
 have e2':(t<0)=False:=eq_false (by omega)
 rw [decide_eq_true e2]
 refine Qac (tb:=[]) 25 [.tmp 4] [0,1,2,3,4,15] mixed Tryz.func14 rfl (by kernel_rfl) (by kernel_rfl) (by kernel_rfl) (by kernel_rfl) ?_
 repeat (first|(simp -implicitDefEqProofs only [go_sem,Nat.reduceAdd,Nat.reduceMul,Nat.reduceEqDiff,Nat.reduceLT,Nat.reduceLeDiff,reduceCtorEq,Qdq,Bool.not_true,Bool.true_and,e2',w,decide_false,List.length_map])|((with_reducible refine Qab (hC) ?_ ?_ ?_);(with_reducible rfl);rfl)|((with_reducible refine Qab (he) ?_ ?_ ?_);(with_reducible rfl);rfl)|(with_reducible exact Qaa _ _ (by kernel_rfl))|(with_reducible refine And.intro (Qaa _ _ (by kernel_rfl)) ?_))
end Go.Proofs.YtjlkapdmgjocdaaGreat

namespace Go.Proofs.YtjlkapdmgjocdaaGreat
open Go.Vl Go.RowKit Go.Dg
def Qg3 (p:Pg) (t:Int) (k:Nat):Prop:=k<p.as_.length∧begT p k≤t∧(k+1=p.as_.length∨t<begT p (k+1))
theorem Qxr {p:Pg} (h:Qbg p=true) {k m:Nat} (h1:k≤m) (h2:m≤p.as_.length):begT p k≤begT p m:=by
 have:=Qe7 h (k:=k) m h1 h2
 omega
theorem Qxd (p:Pg):begT p 0=0:=rfl
theorem Qhp {p:Pg} {i t:Int} (h:Qg5 p i t=true):Qbg p=true∧0≤i∧i<(p.ns.length:Int)∧0<p.as_.length∧0≤t∧t≤begT p p.as_.length:=by
 unfold Qg5 at h
 simp only [Bool.and_eq_true,decide_eq_true_eq]at h
 have:=Qcj h.1
 exact⟨this.1,this.2.1,this.2.2.1,by omega,h.2.1,h.2.2⟩
theorem Qtj (p:Pg) (hp:okP p) (v:Qbg p=true):Qan Tryz.prog 61 [pgV p] (.tup [.int .i64 (begT p p.as_.length),.int .i64 0]):=by
 have hV:=Qhu p hp
 rw [v]at hV
 have hpa:=(Qb0 v).2.1
 unfold pgV at hV ⊢
 refine Qac (tb:=[]) 23 [.tmp 2,.tmp 3] [0,1,2,3,4,6,9,11,12,13,14] mixed Tryz.func61 rfl (by kernel_rfl) (by kernel_rfl) (by kernel_rfl) (by kernel_rfl) ?_
 repeat (first|(simp -implicitDefEqProofs only [go_sem,Nat.reduceAdd,Nat.reduceMul,Nat.reduceEqDiff,Nat.reduceLT,Nat.reduceLeDiff,reduceCtorEq,Bool.not_true,List.length_map])|((with_reducible refine Qab (hV) ?_ ?_ ?_);(with_reducible rfl);rfl))
 refine Qb5 mixed (fun k:{k:Nat // k≤p.as_.length}=>St.of [(1,.bp 0 3 0 0),(2,.int .i64 0),(3,.int .i64 0),(4,.int .i64 (begT p k.1)),(11,.slc (p.as_.map acV)),(12,.int .i64 (p.as_.length:Int)),(13,.int .i64 (k.1:Int))] [(0,{els:=[.agg [.slc (p.ns.map PV.str),.slc (p.hs.map v3PV),.slc (p.as_.map acV)]],esz:=3,ety:=26,fro:=0,live:=true,arr:=false})]) (fun k=>p.as_.length-k.1) ⟨0,Nat.zero_le _⟩ ?_ ?_
 ·refine Qaq (θ:=[(0,0)]) rfl ?_ ?_
  ·simp [Qad,lkp,ren1,ren0,Qae,Qxd]
  ·exact⟨⟨rfl,rfl,rfl,rfl,rfl,.inr ⟨rfl,_,_,rfl,rfl,rfl,rfl⟩⟩,trivial⟩
 ·rintro⟨k,hk⟩
  simp only
  by_cases hA:k<p.as_.length
  ·have hA':=lt_T hA
   have n0:=nn_T k
   have ga:=Qgi (p:=p) (i:=k) (by omega)
   have hwk:=wr_1 (n:=k) (by omega)
   have hs:=Qe6 (p:=p) (k:=k) (by omega)
   have b0:=Qdr v (k:=k) (by omega)
   have b1:=Qdr v (k:=k+1) (by omega)
   have hw:IntKind.i64.wrap (begT p k+(p.as_.getD k ac0).ln)=begT p (k+1):=by rw [hs];exact Qam (by omega) (by omega)
   repeat (first|(simp -implicitDefEqProofs only [go_sem,Nat.reduceAdd,Nat.reduceMul,Nat.reduceEqDiff,Nat.reduceLT,Nat.reduceLeDiff,reduceCtorEq,hA',n0,ga,hwk,hw,Int.toNat_natCast]))
   refine⟨⟨k+1,hA⟩,by simp only;omega,?_⟩
   refine Qaq (θ:=[(0,0)]) rfl ?_ ?_
   ·simp [Qad,lkp,ren1,ren0,Qae]
   ·exact⟨⟨rfl,rfl,rfl,rfl,rfl,.inr ⟨rfl,_,_,rfl,rfl,rfl,rfl⟩⟩,trivial⟩
  ·have hA':=lt_F hA
   obtain rfl:k=p.as_.length:=by omega
   repeat (first|(simp -implicitDefEqProofs only [go_sem,Nat.reduceAdd,Nat.reduceMul,Nat.reduceEqDiff,Nat.reduceLT,Nat.reduceLeDiff,reduceCtorEq,hA']))
set_option maxHeartbeats 1000000 in
theorem Q3i (p:Pg) (hp:okP p) (v:Qbg p=true) (t:Int) (K:Nat) (hK:Qg3 p t K) (ht:t≤begT p p.as_.length):
  Qan Tryz.prog 35 [pgV p,.int .i64 t] (.tup [.int .i64 (K:Int),.int .i64 (begT p K),.int .i64 0]):=by
 have hL:=Qtj p hp v
 have hpa:=(Qb0 v).2.1
 obtain⟨k1,k2,k3⟩:=hK
 have b0:=Qdr v (k:=K) (by omega)
 have bN:=Qdr v (k:=p.as_.length) (by omega)
 have t1:(t<0)=False:=eq_false (by omega)
 have t2:(begT p p.as_.length<t)=False:=eq_false (by omega)
 have t3:(begT p p.as_.length==0)=false:=by simp;omega
 have w1:IntKind.i64.wrap ((p.as_.length:Int)-1)=(p.as_.length:Int)-1:=Qam (by omega) (by omega)
 unfold pgV at hL ⊢
 refine Qac (tb:=[]) 59 [.tmp 4,.tmp 5,.tmp 6] [0,1,2,4,5,6,7,13,17,46] mixed Tryz.func35 rfl (by kernel_rfl) (by kernel_rfl) (by kernel_rfl) (by kernel_rfl) ?_
 repeat (first|(simp -implicitDefEqProofs only [go_sem,Nat.reduceAdd,Nat.reduceMul,Nat.reduceEqDiff,Nat.reduceLT,Nat.reduceLeDiff,reduceCtorEq,t1,t2,t3,decide_false,bne_self_eq_false])|((with_reducible refine Qab (hL) ?_ ?_ ?_);(with_reducible rfl);rfl))
 refine Qb5 mixed (fun k:{k:Nat // k≤K}=>St.of [(1,.int .i64 t),(2,.bp 0 3 0 0),(4,.int .i64 (k.1:Int)),(5,.int .i64 (begT p k.1))] [(0,{els:=[.agg [.slc (p.ns.map PV.str),.slc (p.hs.map v3PV),.slc (p.as_.map acV)]],esz:=3,ety:=26,fro:=0,live:=true,arr:=false})]) (fun k=>K-k.1) ⟨0,Nat.zero_le _⟩ ?_ ?_
 ·refine Qaq (θ:=[(0,0)]) rfl ?_ ?_
  ·simp [Qad,lkp,ren1,ren0,Qae,Qxd]
  ·exact⟨⟨rfl,rfl,rfl,rfl,rfl,.inr ⟨rfl,_,_,rfl,rfl,rfl,rfl⟩⟩,trivial⟩
 ·rintro⟨k,hk⟩
  simp only
  have n0:=nn_T k
  have ga:=Qgi (p:=p) (i:=k) (by omega)
  have hwk:=wr_1 (n:=k) (by omega)
  have hs:=Qe6 (p:=p) (k:=k) (by omega)
  have c0:=Qdr v (k:=k) (by omega)
  have c1:=Qdr v (k:=k+1) (by omega)
  have hw:IntKind.i64.wrap (begT p k+(p.as_.getD k ac0).ln)=begT p (k+1):=by rw [hs];exact Qam (by omega) (by omega)
  by_cases hA:k<K
  ·have m1:=Qxr v (k:=k+1) (m:=K) hA (by omega)
   have h1:((k:Int)<(p.as_.length:Int)-1)=True:=eq_true (by omega)
   have h2:(begT p (k+1)≤t)=True:=eq_true (by omega)
   repeat (first|(simp -implicitDefEqProofs only [go_sem,Nat.reduceAdd,Nat.reduceMul,Nat.reduceEqDiff,Nat.reduceLT,Nat.reduceLeDiff,reduceCtorEq,h1,h2,w1,n0,ga,hwk,hw,decide_true,Int.toNat_natCast,List.length_map]))
   refine⟨⟨k+1,hA⟩,by simp only;omega,?_⟩
   refine Qaq (θ:=[(0,0)]) rfl ?_ ?_
   ·simp [Qad,lkp,ren1,ren0,Qae]
   ·exact⟨⟨rfl,rfl,rfl,rfl,rfl,.inr ⟨rfl,_,_,rfl,rfl,rfl,rfl⟩⟩,trivial⟩
  ·obtain rfl:k=K:=by omega
   by_cases hB:k+1=p.as_.length
   ·have h1:((k:Int)<(p.as_.length:Int)-1)=False:=eq_false (by omega)
    repeat (first|(simp -implicitDefEqProofs only [go_sem,Nat.reduceAdd,Nat.reduceMul,Nat.reduceEqDiff,Nat.reduceLT,Nat.reduceLeDiff,reduceCtorEq,h1,w1,decide_false,List.length_map]))
   ·have h1:((k:Int)<(p.as_.length:Int)-1)=True:=eq_true (by omega)
    have h2:(begT p (k+1)≤t)=False:=eq_false (by omega)
    repeat (first|(simp -implicitDefEqProofs only [go_sem,Nat.reduceAdd,Nat.reduceMul,Nat.reduceEqDiff,Nat.reduceLT,Nat.reduceLeDiff,reduceCtorEq,h1,h2,w1,n0,ga,hwk,hw,decide_true,decide_false,Int.toNat_natCast,List.length_map]))
theorem Of_v (p:Pg) (hp:okP p) (i t:Int) (K:Nat) (hK:Qg5 p i t=true→Qg3 p t K):
  Qan Tryz.prog 11 [pgV p,.agg [.int .i64 i,.int .i64 t]] (.tup [.agg [.int .i64 (if Qg5 p i t=true then i else 0),.int .i64 (if Qg5 p i t=true then(K:Int)else 0)],.int .i64 (if Qg5 p i t=true then 0 else 2)]):=by
 have hF:=Qnr p hp i t
 cases e:Qg5 p i t with
 |false=>
  rw [e]at hF
  rw [if_neg Bool.false_ne_true,if_neg Bool.false_ne_true,if_neg Bool.false_ne_true]
  unfold pgV at hF ⊢
  refine Qac (tb:=[]) 26 [.cell 4 30,.tmp 5] [0,1,2,3,4,5,6,12] mixed Tryz.func11 rfl (by kernel_rfl) (by kernel_rfl) (by kernel_rfl) (by kernel_rfl) ?_
  repeat (first|(simp -implicitDefEqProofs only [go_sem,Nat.reduceAdd,Nat.reduceMul,Nat.reduceEqDiff,Nat.reduceLT,Nat.reduceLeDiff,reduceCtorEq,Bool.not_false])|((with_reducible refine Qab (hF) ?_ ?_ ?_);(with_reducible rfl);rfl))
 |true=>
  rw [e]at hF
  obtain⟨v,i1,i2,a1,t1,t2⟩:=Qhp e
  have hA:=Q3i p hp v t K (hK e) t2
  rw [if_pos rfl,if_pos rfl,if_pos rfl]
  unfold pgV at hF hA ⊢
  refine Qac (tb:=[]) 26 [.cell 4 30,.tmp 5] [0,1,2,3,4,5,6,12] mixed Tryz.func11 rfl (by kernel_rfl) (by kernel_rfl) (by kernel_rfl) (by kernel_rfl) ?_
  repeat (first|(simp -implicitDefEqProofs only [go_sem,Nat.reduceAdd,Nat.reduceMul,Nat.reduceEqDiff,Nat.reduceLT,Nat.reduceLeDiff,reduceCtorEq,Bool.not_true])|((with_reducible refine Qab (hF) ?_ ?_ ?_);(with_reducible rfl);rfl)|((with_reducible refine Qab (hA) ?_ ?_ ?_);(with_reducible rfl);rfl))
theorem Q3j (p:Pg) (hp:okP p) (i k:Int):Qan Tryz.prog 22 [pgV p,.agg [.int .i64 i,.int .i64 k]] (.tup [.int .i64 (if Qf1 p i k=true then begT p (k.toNat+1)else 0),.int .i64 (if Qf1 p i k=true then 0 else 2)]):=by
 have hF:=Qj3 p hp i k
 cases e:Qf1 p i k with
 |false=>
  rw [e]at hF
  rw [if_neg Bool.false_ne_true,if_neg Bool.false_ne_true]
  unfold pgV at hF ⊢
  refine Qac (tb:=[]) 14 [.tmp 4,.tmp 5] [0,1,2,3,4,5,9] mixed Tryz.func22 rfl (by kernel_rfl) (by kernel_rfl) (by kernel_rfl) (by kernel_rfl) ?_
  repeat (first|(simp -implicitDefEqProofs only [go_sem,Nat.reduceAdd,Nat.reduceMul,Nat.reduceEqDiff,Nat.reduceLT,Nat.reduceLeDiff,reduceCtorEq,Bool.not_false])|((with_reducible refine Qab (hF) ?_ ?_ ?_);(with_reducible rfl);rfl))
 |true=>
  rw [e]at hF
  obtain⟨v,i1,i2,a1,a2⟩:=Qcj e
  have hA:=Qq2 p v (k.toNat+1) (by omega) k (by omega)
  rw [if_pos rfl,if_pos rfl]
  unfold pgV at hF hA ⊢
  refine Qac (tb:=[]) 14 [.tmp 4,.tmp 5] [0,1,2,3,4,5,9] mixed Tryz.func22 rfl (by kernel_rfl) (by kernel_rfl) (by kernel_rfl) (by kernel_rfl) ?_
  repeat (first|(simp -implicitDefEqProofs only [go_sem,Nat.reduceAdd,Nat.reduceMul,Nat.reduceEqDiff,Nat.reduceLT,Nat.reduceLeDiff,reduceCtorEq,Bool.not_true])|((with_reducible refine Qab (hF) ?_ ?_ ?_);(with_reducible rfl);rfl)|((with_reducible refine Qab (hA) ?_ ?_ ?_);(with_reducible rfl);rfl))
def ptA (p:Pg) (i k:Int):V3:=if Qf1 p i k=true then((p.as_.getD k.toNat ac0).mv.getD i.toNat mv0).to else⟨0,0,0⟩
theorem Qxs {l:List Mv} {i:Nat} (h:i<l.length):(l.map mvV)[i]? =some (.agg [.int .i64 (l.getD i mv0).to.x,.int .i64 (l.getD i mv0).to.y,.int .i64 (l.getD i mv0).to.z,.int .i64 (l.getD i mv0).w,.int .i64 (l.getD i mv0).f,.int .i64 (l.getD i mv0).r]):=by
 rw [List.getElem?_map,List.getElem?_eq_getElem h,List.getD_eq_getElem?_getD,List.getElem?_eq_getElem h];rfl
theorem Qxt (p:Pg) (hp:okP p) (i k:Int):Qan Tryz.prog 23 [pgV p,.agg [.int .i64 i,.int .i64 k]] (.tup [v3PV (ptA p i k),.int .i64 (if Qf1 p i k=true then 0 else 2)]):=by
 have hF:=Qj3 p hp i k
 unfold ptA
 cases e:Qf1 p i k with
 |false=>
  rw [e]at hF
  rw [if_neg Bool.false_ne_true,if_neg Bool.false_ne_true]
  unfold pgV v3PV at hF ⊢
  refine Qac (tb:=[]) 23 [.cell 4 54,.tmp 5] [0,1,2,3,4,5,9] mixed Tryz.func23 rfl (by kernel_rfl) (by kernel_rfl) (by kernel_rfl) (by kernel_rfl) ?_
  repeat (first|(simp -implicitDefEqProofs only [go_sem,Nat.reduceAdd,Nat.reduceMul,Nat.reduceEqDiff,Nat.reduceLT,Nat.reduceLeDiff,reduceCtorEq,Bool.not_false])|((with_reducible refine Qab (hF) ?_ ?_ ?_);(with_reducible rfl);rfl)|(with_reducible exact Qaa _ _ (by kernel_rfl))|(with_reducible refine And.intro (Qaa _ _ (by kernel_rfl)) ?_))
 |true=>
  rw [e]at hF
  obtain⟨v,i1,i2,a1,a2⟩:=Qcj e
  obtain⟨m,rfl⟩: ∃m:Nat,k=(m:Int):=⟨k.toNat,by omega⟩
  obtain⟨j,rfl⟩: ∃m:Nat,i=(m:Int):=⟨i.toNat,by omega⟩
  have n0:=nn_T m
  have n1:=nn_T j
  have ga:=Qgi (p:=p) (i:=m) (by omega)
  have hml:=(Qb0 v).2.2.1 (p.as_.getD m ac0) (by rw [List.getD_eq_getElem?_getD,List.getElem?_eq_getElem (by omega)];exact List.getElem_mem _)
  have gm:=Qxs (l:=(p.as_.getD m ac0).mv) (i:=j) (by omega)
  rw [if_pos rfl,if_pos rfl]
  unfold pgV v3PV at hF ⊢
  simp only [Int.toNat_natCast]
  refine Qac (tb:=[]) 23 [.cell 4 54,.tmp 5] [0,1,2,3,4,5,9] mixed Tryz.func23 rfl (by kernel_rfl) (by kernel_rfl) (by kernel_rfl) (by kernel_rfl) ?_
  repeat (first|(simp -implicitDefEqProofs only [go_sem,Nat.reduceAdd,Nat.reduceMul,Nat.reduceEqDiff,Nat.reduceLT,Nat.reduceLeDiff,reduceCtorEq,Bool.not_true,n0,n1,ga,gm,Int.toNat_natCast])|((with_reducible refine Qab (hF) ?_ ?_ ?_);(with_reducible rfl);rfl)|(with_reducible exact Qaa _ _ (by kernel_rfl))|(with_reducible refine And.intro (Qaa _ _ (by kernel_rfl)) ?_))
def stN (p:Pg) (i t one at_:Int) (K:Nat):Int:=if one≠i∨at_<t then 0 else if at_<begT p (K+1)then 1 else 2
def stG (p:Pg) (i t one:Int):Bool:=Qg5 p i t&&(decide (0≤one)&&decide (one<(p.ns.length:Int)))
def stH (p:Pg) (at_:Int):Bool:=decide (0≤at_)&&decide (at_≤begT p p.as_.length)
def stE (p:Pg) (i t one at_:Int):Int:=if stG p i t one=true then(if stH p at_=true then 0 else 3)else 2
def stV (p:Pg) (i t one at_:Int) (K:Nat):Int:=if stG p i t one=true then(if stH p at_=true then stN p i t one at_ K else 0)else 0
set_option maxHeartbeats 1000000 in
theorem Qhq (p:Pg) (hp:okP p) (i t one at_:Int) (K:Nat) (hK:Qg5 p i t=true→Qg3 p t K):
  Qan Tryz.prog 17 [pgV p,.agg [.int .i64 i,.int .i64 t],.int .i64 one,.int .i64 at_] (.tup [.int .i64 (stV p i t one at_ K),.int .i64 (stE p i t one at_)]):=by
 have hF:=Qnr p hp i t
 have hO:=Of_v p hp i t K hK
 unfold stV stE stG
 cases e:Qg5 p i t with
 |false=>
  rw [e]at hF
  simp only [Bool.false_and,Bool.false_eq_true,if_false]
  unfold pgV at hF ⊢
  refine Qac (tb:=[]) 62 [.tmp 8,.tmp 9] [0,1,2,3,4,5,8,9,10,26,38,45,50,55] mixed Tryz.func17 rfl (by kernel_rfl) (by kernel_rfl) (by kernel_rfl) (by kernel_rfl) ?_
  repeat (first|(simp -implicitDefEqProofs only [go_sem,Nat.reduceAdd,Nat.reduceMul,Nat.reduceEqDiff,Nat.reduceLT,Nat.reduceLeDiff,reduceCtorEq,Bool.not_false])|((with_reducible refine Qab (hF) ?_ ?_ ?_);(with_reducible rfl);rfl))
 |true=>
 rw [e]at hF hO
 rw [if_pos rfl,if_pos rfl,if_pos rfl]at hO
 obtain⟨v,i1,i2,a1,t1,t2⟩:=Qhp e
 have hpa:=(Qb0 v).2.1
 have hKs:=hK e
 have hE1:=Qq2 p v p.as_.length (Nat.le_refl _) ((p.as_.length:Int)-1) rfl
 have hE2:=Qq2 p v (K+1) hKs.1 (K:Int) (by omega)
 have w1:IntKind.i64.wrap ((p.as_.length:Int)-1)=(p.as_.length:Int)-1:=Qam (by omega) (by omega)
 by_cases e1:0≤one
 case neg=>
  have e1':(one<0)=True:=eq_true (by omega)
  rw [decide_eq_false e1]
  simp only [Bool.false_and,Bool.and_false,Bool.false_eq_true,if_false]
  unfold pgV at hF ⊢
  refine Qac (tb:=[]) 62 [.tmp 8,.tmp 9] [0,1,2,3,4,5,8,9,10,26,38,45,50,55] mixed Tryz.func17 rfl (by kernel_rfl) (by kernel_rfl) (by kernel_rfl) (by kernel_rfl) ?_
  repeat (first|(simp -implicitDefEqProofs only [go_sem,Nat.reduceAdd,Nat.reduceMul,Nat.reduceEqDiff,Nat.reduceLT,Nat.reduceLeDiff,reduceCtorEq,Bool.not_true,e1',decide_true])|((with_reducible refine Qab (hF) ?_ ?_ ?_);(with_reducible rfl);rfl))
 have e1':(one<0)=False:=eq_false (by omega)
 by_cases e2:one<(p.ns.length:Int)
 case neg=>
  have e2':((p.ns.length:Int)≤one)=True:=eq_true (by omega)
  rw [decide_eq_false e2]
  simp only [Bool.false_and,Bool.and_false,Bool.false_eq_true,if_false]
  unfold pgV at hF ⊢
  refine Qac (tb:=[]) 62 [.tmp 8,.tmp 9] [0,1,2,3,4,5,8,9,10,26,38,45,50,55] mixed Tryz.func17 rfl (by kernel_rfl) (by kernel_rfl) (by kernel_rfl) (by kernel_rfl) ?_
  repeat (first|(simp -implicitDefEqProofs only [go_sem,Nat.reduceAdd,Nat.reduceMul,Nat.reduceEqDiff,Nat.reduceLT,Nat.reduceLeDiff,reduceCtorEq,Bool.not_true,e1',e2',decide_true,decide_false,List.length_map])|((with_reducible refine Qab (hF) ?_ ?_ ?_);(with_reducible rfl);rfl))
 have e2':((p.ns.length:Int)≤one)=False:=eq_false (by omega)
 rw [decide_eq_true e1,decide_eq_true e2]
 simp only [Bool.true_and,if_true]
 unfold stH
 by_cases e3:0≤at_
 case neg=>
  have e3':(at_<0)=True:=eq_true (by omega)
  rw [decide_eq_false e3]
  simp only [Bool.false_and,Bool.and_false,Bool.false_eq_true,if_false]
  unfold pgV at hF ⊢
  refine Qac (tb:=[]) 62 [.tmp 8,.tmp 9] [0,1,2,3,4,5,8,9,10,26,38,45,50,55] mixed Tryz.func17 rfl (by kernel_rfl) (by kernel_rfl) (by kernel_rfl) (by kernel_rfl) ?_
  repeat (first|(simp -implicitDefEqProofs only [go_sem,Nat.reduceAdd,Nat.reduceMul,Nat.reduceEqDiff,Nat.reduceLT,Nat.reduceLeDiff,reduceCtorEq,Bool.not_true,e1',e2',e3',decide_true,decide_false,List.length_map])|((with_reducible refine Qab (hF) ?_ ?_ ?_);(with_reducible rfl);rfl))
 have e3':(at_<0)=False:=eq_false (by omega)
 rw [decide_eq_true e3]
 by_cases e4:at_≤begT p p.as_.length
 case neg=>
  have e4':(begT p p.as_.length<at_)=True:=eq_true (by omega)
  rw [decide_eq_false e4]
  simp only [Bool.false_and,Bool.and_false,Bool.false_eq_true,if_false]
  unfold pgV at hF hE1 ⊢
  refine Qac (tb:=[]) 62 [.tmp 8,.tmp 9] [0,1,2,3,4,5,8,9,10,26,38,45,50,55] mixed Tryz.func17 rfl (by kernel_rfl) (by kernel_rfl) (by kernel_rfl) (by kernel_rfl) ?_
  repeat (first|(simp -implicitDefEqProofs only [go_sem,Nat.reduceAdd,Nat.reduceMul,Nat.reduceEqDiff,Nat.reduceLT,Nat.reduceLeDiff,reduceCtorEq,Bool.not_true,e1',e2',e3',e4',w1,decide_true,decide_false,List.length_map])|((with_reducible refine Qab (hF) ?_ ?_ ?_);(with_reducible rfl);rfl)|((with_reducible refine Qab (hE1) ?_ ?_ ?_);(with_reducible rfl);rfl))
 have e4':(begT p p.as_.length<at_)=False:=eq_false (by omega)
 rw [decide_eq_true e4]
 simp only [Bool.true_and,if_true]
 unfold stN
 by_cases e5:one=i
 case neg=>
  have e5':(one != i)=true:=bne_iff_ne.2 e5
  rw [if_pos (.inl e5)]
  unfold pgV at hF hE1 hO ⊢
  refine Qac (tb:=[]) 62 [.tmp 8,.tmp 9] [0,1,2,3,4,5,8,9,10,26,38,45,50,55] mixed Tryz.func17 rfl (by kernel_rfl) (by kernel_rfl) (by kernel_rfl) (by kernel_rfl) ?_
  repeat (first|(simp -implicitDefEqProofs only [go_sem,Nat.reduceAdd,Nat.reduceMul,Nat.reduceEqDiff,Nat.reduceLT,Nat.reduceLeDiff,reduceCtorEq,Bool.not_true,e1',e2',e3',e4',e5',w1,decide_true,decide_false,List.length_map])|((with_reducible refine Qab (hF) ?_ ?_ ?_);(with_reducible rfl);rfl)|((with_reducible refine Qab (hE1) ?_ ?_ ?_);(with_reducible rfl);rfl)|((with_reducible refine Qab (hO) ?_ ?_ ?_);(with_reducible rfl);rfl))
 have e5':(one != i)=false:=by rw [e5];simp
 by_cases e6:at_<t
 ·have e6':(at_<t)=True:=eq_true e6
  rw [if_pos (.inr e6)]
  unfold pgV at hF hE1 hO ⊢
  refine Qac (tb:=[]) 62 [.tmp 8,.tmp 9] [0,1,2,3,4,5,8,9,10,26,38,45,50,55] mixed Tryz.func17 rfl (by kernel_rfl) (by kernel_rfl) (by kernel_rfl) (by kernel_rfl) ?_
  repeat (first|(simp -implicitDefEqProofs only [go_sem,Nat.reduceAdd,Nat.reduceMul,Nat.reduceEqDiff,Nat.reduceLT,Nat.reduceLeDiff,reduceCtorEq,Bool.not_true,e1',e2',e3',e4',e5',e6',w1,decide_true,decide_false,List.length_map])|((with_reducible refine Qab (hF) ?_ ?_ ?_);(with_reducible rfl);rfl)|((with_reducible refine Qab (hE1) ?_ ?_ ?_);(with_reducible rfl);rfl)|((with_reducible refine Qab (hO) ?_ ?_ ?_);(with_reducible rfl);rfl))
 have e6':(at_<t)=False:=eq_false e6
 rw [if_neg (by omega)]
 by_cases e7:at_<begT p (K+1)
 ·have e7':(at_<begT p (K+1))=True:=eq_true e7
  rw [if_pos e7]
  unfold pgV at hF hE1 hE2 hO ⊢
  refine Qac (tb:=[]) 62 [.tmp 8,.tmp 9] [0,1,2,3,4,5,8,9,10,26,38,45,50,55] mixed Tryz.func17 rfl (by kernel_rfl) (by kernel_rfl) (by kernel_rfl) (by kernel_rfl) ?_
  repeat (first|(simp -implicitDefEqProofs only [go_sem,Nat.reduceAdd,Nat.reduceMul,Nat.reduceEqDiff,Nat.reduceLT,Nat.reduceLeDiff,reduceCtorEq,Bool.not_true,e1',e2',e3',e4',e5',e6',e7',w1,decide_true,decide_false,List.length_map])|((with_reducible refine Qab (hF) ?_ ?_ ?_);(with_reducible rfl);rfl)|((with_reducible refine Qab (hE1) ?_ ?_ ?_);(with_reducible rfl);rfl)|((with_reducible refine Qab (hE2) ?_ ?_ ?_);(with_reducible rfl);rfl)|((with_reducible refine Qab (hO) ?_ ?_ ?_);(with_reducible rfl);rfl))
 ·have e7':(at_<begT p (K+1))=False:=eq_false e7
  rw [if_neg e7]
  unfold pgV at hF hE1 hE2 hO ⊢
  refine Qac (tb:=[]) 62 [.tmp 8,.tmp 9] [0,1,2,3,4,5,8,9,10,26,38,45,50,55] mixed Tryz.func17 rfl (by kernel_rfl) (by kernel_rfl) (by kernel_rfl) (by kernel_rfl) ?_
  repeat (first|(simp -implicitDefEqProofs only [go_sem,Nat.reduceAdd,Nat.reduceMul,Nat.reduceEqDiff,Nat.reduceLT,Nat.reduceLeDiff,reduceCtorEq,Bool.not_true,e1',e2',e3',e4',e5',e6',e7',w1,decide_true,decide_false,List.length_map])|((with_reducible refine Qab (hF) ?_ ?_ ?_);(with_reducible rfl);rfl)|((with_reducible refine Qab (hE1) ?_ ?_ ?_);(with_reducible rfl);rfl)|((with_reducible refine Qab (hE2) ?_ ?_ ?_);(with_reducible rfl);rfl)|((with_reducible refine Qab (hO) ?_ ?_ ?_);(with_reducible rfl);rfl))
end Go.Proofs.YtjlkapdmgjocdaaGreat
